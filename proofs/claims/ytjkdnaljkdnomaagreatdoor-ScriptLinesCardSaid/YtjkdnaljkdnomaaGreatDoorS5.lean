/- Part 5 of what the laws of this seat share: walks of functions, and plain laws. -/
import Derived.Test.YtjkdnaljkdnomaaGreatDoorS3
set_option maxRecDepth 100000
set_option maxHeartbeats 1600000
namespace Go.Proofs.YtjkdnaljkdnomaaGreatDoor
open Go.RowKit
def Exit.jump2(l1:Nat)(J1:Act->World->Prop)(l2:Nat)(J2:Act->World->Prop)(Q:Exit->Act->World->Prop):Exit->Act->World->Prop
 | .goto l',a,w=>(l'=l1/\J1 a w)\/(l'=l2/\J2 a w)
 |e,a,w=>Q e a w
theorem Yu{l1 l2:Nat}{J1 J2:Act->World->Prop}{Q:Exit->Act->World->Prop}{a:Act}{w:World}(h:J1 a w):Exit.jump2 l1 J1 l2 J2 Q (.goto l1) a w:= .inl ⟨rfl,h⟩
theorem Tg{l1 l2:Nat}{J1 J2:Act->World->Prop}{Q:Exit->Act->World->Prop}{a:Act}{w:World}(h:J2 a w):Exit.jump2 l1 J1 l2 J2 Q (.goto l2) a w:= .inr ⟨rfl,h⟩
theorem Jy{l1 l2:Nat}{J1 J2:Act->World->Prop}{Q:Exit->Act->World->Prop}{a:Act}{w:World}(h:Q .ret a w):Exit.jump2 l1 J1 l2 J2 Q .ret a w:=h
theorem Sn{P:Program}{a:Act}{w:World}{Q:Exit->Act->World->Prop}{c rest1 rest2:Code}(l1 l2:Nat)(hf1:findLabel c l1=some rest1)(hf2:findLabel c l2=some rest2)
  (h:c.wp P (Exit.jump2 l1 (λa' w'=>rest1.wp P (Exit.noGoto Q) a' w') l2 (λa' w'=>rest2.wp P (Exit.noGoto Q) a' w') Q) a w):(Code.scope c).wp P Q a w:=by
 intro b k cs
 have key:∀(rest:Code) (a:Act) (w:World),rest.wp P (Exit.noGoto Q) a w->∃e a' w',Q e a' w'/\Arrives P (lone (b.at a (.code rest:: .inScope c::k)) cs w) b k cs e a' w':=by
  intro rest a w hJ;obtain⟨e,a₁,w₁,hq,harr⟩:=hJ b (.inScope c::k) cs
  cases e with
  |normal=>exact⟨.normal,a₁,w₁,hq,Steps.trans harr (.one step_inScope)⟩
  |exit id=>exact⟨.exit id,a₁,w₁,hq,λk' hk=>harr k' (by simp [exitTo,hk])⟩
  |goto l'=>exact hq.elim
  |ret=>exact⟨_,a₁,w₁,hq,harr⟩
  |panic ch=>exact⟨_,a₁,w₁,hq,harr⟩
  |outgrown=>exact⟨_,a₁,w₁,hq,harr⟩
 obtain⟨e,a₁,w₁,hq,harr⟩:=h b (.inScope c::k) cs
 cases e with
 |normal=>exact⟨.normal,a₁,w₁,hq,.head step_scope (Steps.trans harr (.one step_inScope))⟩
 |exit id=>exact⟨.exit id,a₁,w₁,hq,λk' hk=> .head step_scope (harr k' (by simp [exitTo,hk]))⟩
 |goto l'=>
  rcases hq with⟨rfl,hJ'⟩|⟨rfl,hJ'⟩
  ·obtain⟨e₂,a₂,w₂,hq₂,harr₂⟩:=key _ a₁ w₁ hJ';exact⟨e₂,a₂,w₂,hq₂,.of_steps (.head step_scope (harr _ (by simp [gotoIn,hf1]))) harr₂⟩
  ·obtain⟨e₂,a₂,w₂,hq₂,harr₂⟩:=key _ a₁ w₁ hJ';exact⟨e₂,a₂,w₂,hq₂,.of_steps (.head step_scope (harr _ (by simp [gotoIn,hf2]))) harr₂⟩
 |ret=>exact⟨_,a₁,w₁,hq,.of_steps (.one step_scope) harr⟩
 |panic ch=>exact⟨_,a₁,w₁,hq,.of_steps (.one step_scope) harr⟩
 |outgrown=>exact⟨_,a₁,w₁,hq,.of_steps (.one step_scope) harr⟩
theorem Yc{P:Program}{a:Act}{w:World}{Q:Exit->Act->World->Prop}{c rest1 rest2:Code}(l1 l2:Nat)(J1 J2:Act->World->Prop)(M1 M2:Act->World->Nat)(hf1:findLabel c l1=some rest1)(hf2:findLabel c l2=some rest2)
  (pass1:∀a w,J1 a w->rest1.wp P (Exit.jump2 l1 (λa' w'=>J1 a' w'/\M1 a' w'<M1 a w) l2 (λa' w'=>J2 a' w'/\M2 a' w'<M1 a w) Q) a w)
  (pass2:∀a w,J2 a w->rest2.wp P (Exit.jump2 l1 (λa' w'=>J1 a' w'/\M1 a' w'<M2 a w) l2 (λa' w'=>J2 a' w'/\M2 a' w'<M2 a w) Q) a w)
  (first:c.wp P (Exit.jump2 l1 J1 l2 J2 Q) a w):(Code.scope c).wp P Q a w:=by
 intro b k cs;have hg1:gotoIn l1 (.inScope c::k)=some (.code rest1:: .inScope c::k):=by simp [gotoIn,hf1]
 have hg2:gotoIn l2 (.inScope c::k)=some (.code rest2:: .inScope c::k):=by simp [gotoIn,hf2]
 have key:∀n,(∀a w,M1 a w=n->J1 a w->∃e a' w',Q e a' w'/\Arrives P (lone (b.at a (.code rest1:: .inScope c::k)) cs w) b k cs e a' w')/\(∀a w,M2 a w=n->J2 a w->∃e a' w',Q e a' w'/\Arrives P (lone (b.at a (.code rest2:: .inScope c::k)) cs w) b k cs e a' w'):=by
  intro n
  induction n using Nat.strongRecOn with
  |_ n ih=>
   refine⟨λa w hn hJ=> ?_,λa w hn hJ=> ?_⟩
   ·obtain⟨e,a₁,w₁,hq,harr⟩:=pass1 a w hJ b (.inScope c::k) cs;exact j2C
   ·obtain⟨e,a₁,w₁,hq,harr⟩:=pass2 a w hJ b (.inScope c::k) cs;exact j2C
 obtain⟨e,a₁,w₁,hq,harr⟩:=first b (.inScope c::k) cs
 cases e with
 |normal=>exact⟨.normal,a₁,w₁,hq,.head step_scope (Steps.trans harr (.one step_inScope))⟩
 |exit id=>exact⟨.exit id,a₁,w₁,hq,λk' hk=> .head step_scope (harr k' (by simp [exitTo,hk]))⟩
 |goto l'=>
  rcases hq with⟨rfl,hJ'⟩|⟨rfl,hJ'⟩
  ·obtain⟨e₂,a₂,w₂,hq₂,harr₂⟩:=(key _).1 a₁ w₁ rfl hJ';exact⟨e₂,a₂,w₂,hq₂,.of_steps (.head step_scope (harr _ hg1)) harr₂⟩
  ·obtain⟨e₂,a₂,w₂,hq₂,harr₂⟩:=(key _).2 a₁ w₁ rfl hJ';exact⟨e₂,a₂,w₂,hq₂,.of_steps (.head step_scope (harr _ hg2)) harr₂⟩
 |ret=>exact⟨_,a₁,w₁,hq,.of_steps (.one step_scope) harr⟩
 |panic ch=>exact⟨_,a₁,w₁,hq,.of_steps (.one step_scope) harr⟩
 |outgrown=>exact⟨_,a₁,w₁,hq,.of_steps (.one step_scope) harr⟩
theorem Ni{P:Program}{c:Code}{a:Act}{w:World}{l1 l2:Nat}{J1 J2 K1 K2:Act->World->Prop}{Q:Exit->Act->World->Prop}(h1:∀a w,J1 a w->K1 a w)(h2:∀a w,J2 a w->K2 a w)(h:c.wp P (Exit.jump2 l1 J1 l2 J2 Q) a w):c.wp P (Exit.jump2 l1 K1 l2 K2 Q) a w:=by
 refine Code.wp_mono ?_ h;intro e a' w' h
 cases e with
 |goto k=>exact h.imp (λh=>⟨h.1,h1 _ _ h.2⟩) (λh=>⟨h.1,h2 _ _ h.2⟩)
 |_=>exact h
theorem Ll{P:Program}{a:Act}{w:World}{Q:Exit->Act->World->Prop}{c rest1 rest2:Code}(l1 l2:Nat)(J1 J2:Act->World->Prop)(M1 M2:Act->World->Nat)(hf1:findLabel c l1=some (Code.skip.seq rest1))(hf2:findLabel c l2=some (Code.skip.seq rest2))
  (pass2:∀a w,J2 a w->rest2.wp P (Exit.jump2 l1 (λa' w'=>J1 a' w'/\M1 a' w'<M2 a w) l2 (λa' w'=>J2 a' w'/\M2 a' w'<M2 a w) Q) a w)
  (pass1:Hid (∀a w,J2 a w->rest2.wp P (Exit.jump2 l1 (λa' w'=>J1 a' w'/\M1 a' w'<M2 a w) l2 (λa' w'=>J2 a' w'/\M2 a' w'<M2 a w) Q) a w)->∀a w,J1 a w->rest1.wp P (Exit.jump2 l1 (λa' w'=>J1 a' w'/\M1 a' w'<M1 a w) l2 (λa' w'=>J2 a' w'/\M2 a' w'<M1 a w) Q) a w)
  (first:Hid (∀a w,J1 a w->rest1.wp P (Exit.jump2 l1 J1 l2 J2 Q) a w)->c.wp P (Exit.jump2 l1 J1 l2 J2 Q) a w):(Code.scope c).wp P Q a w:=by
 have h1:=pass1 (Lib.hid pass2);refine Yc l1 l2 J1 J2 M1 M2 hf1 hf2 (λa w hJ=>wp_seq (wp_skip (h1 a w hJ))) (λa w hJ=>wp_seq (wp_skip (pass2 a w hJ))) (first (Lib.hid λa w hJ=>Ni (λ_ _ h=>h.1) (λ_ _ h=>h.1) (h1 a w hJ)))
def leapB(y:Int):Bool:=decide (y % 4=0)&&(decide (¬y % 100=0)||decide (y % 400=0))
def mlen(y m:Int):Int:=if m=2 then(if leapB y=true then 29 else 28) else if m=4\/m=6\/m=9\/m=11 then 30 else if 1<=m/\m<=12 then 31 else 0
def ylen(y:Int):Int:=if leapB y=true then 366 else 365
def nY(y:Int):Int:= -135140+365*(y-1600)+(y-1600+3) / 4-(y-1600+99) / 100+(y-1600+399) / 400
theorem Jb(y:Int):leapB y=true↔(y % 4=0/\(¬y % 100=0\/y % 400=0)):=by simp [leapB]
theorem Mx{y:Int}(_:1600<=y):nY (y+1)=nY y+ylen y:=by
 unfold nY ylen;by_cases h:leapB y=true
 ·rw [if_pos h];have:=(Jb y).1 h;omega
 ·rw [if_neg h];have:¬(y % 4=0/\(¬y % 100=0\/y % 400=0)):=λhh=>h ((Jb y).2 hh);omega
theorem Tk(y:Int):365<=ylen y/\ylen y<=366:=by unfold ylen;split<;>omega
theorem nY_add{y:Int}(h:1600<=y):∀k:Nat,nY y<=nY (y+k)
 |0=>by simp
 |k+1=>by
  have h1:=nY_add h k;have h2:=Mx (y:=y+k) (by omega);have h3:=Tk (y+k);rw [show y+((k+1:Nat):Int)=y+k+1 by omega];omega
theorem nY_mono{x y:Int}(h:1600<=x)(hxy:x<=y):nY x<=nY y:=by
 have:=nY_add h (y-x).toNat
 rwa [show x+((y-x).toNat:Int)=y by omega] at this
theorem nY_lt{x y:Int}(_:1600<=x)(hy:1600<=y)(hl:nY x<nY (y+1)):x<=y:=by
 by_cases h':y<x
 ·have:=nY_mono (x:=y+1) (y:=x) j6 j6;omega
 ·omega
def yrW(n:Int):Nat->Int->Int
 |0,y=>y
 |f+1,y=>if nY (y+1)<=n then yrW n f (y+1) else y
def yearF(n:Int):Int:=yrW n 8400 1600
theorem yrW_eq{n y:Int}(h1:nY y<=n)(h2:n<nY (y+1)):∀(f:Nat) (y0:Int),1600<=y0->y0<=y->y-y0<=f->yrW n f y0=y
 |0,y0,_,h4,h5=>by unfold yrW;omega
 |f+1,y0,h3,h4,h5=>by
  unfold yrW;by_cases he:y0=y
  ·subst he;rw [if_neg (by omega)]
  ·have:=nY_mono (x:=y0+1) (y:=y) (by omega) (by omega);rw [if_pos (by omega)];exact yrW_eq h1 h2 f (y0+1) (by omega) (by omega) (by omega)
theorem Aa4{n y:Int}(h0:1600<=y)(h1:nY y<=n)(h2:n<nY (y+1))(h3:n<=2932896):yearF n=y/\y<=9999:=by
 have h4:y<=9999:=nY_lt h0 j6 (by have:nY (9999+1)=2932897:=j7;omega);exact⟨yrW_eq h1 h2 8400 1600 j6 h0 j6,h4⟩
def moW(y:Int):Nat->Int->Int->Int×Int
 |0,m,r=>(m,r)
 |f+1,m,r=>if mlen y m<=r then moW y f (m+1) (r-mlen y m) else(m,r)
def cumT(y m:Int):Int:=if m<=2 then 31*(m-1) else(if leapB y=true then 1 else 0)+(if m=3 then 59 else if m=4 then 90 else if m=5 then 120 else if m=6 then 151 else if m=7 then 181 else if m=8 then 212 else if m=9 then 243 else if m=10 then 273 else if m=11 then 304 else if m=12 then 334 else 365)
theorem Dz{y m:Int}(h1:1<=m)(h2:m<=12):cumT y (m+1)=cumT y m+mlen y m/\28<=mlen y m/\mlen y m<=31:=by
 obtain rfl|rfl|rfl|rfl|rfl|rfl|rfl|rfl|rfl|rfl|rfl|rfl:m=1\/m=2\/m=3\/m=4\/m=5\/m=6\/m=7\/m=8\/m=9\/m=10\/m=11\/m=12:=by omega
 all_goals (unfold cumT mlen;rcases leapB y<;>decide)
theorem Ut(y:Int):cumT y 13=ylen y:=by unfold cumT ylen;rcases leapB y<;>rfl
theorem Qf(y:Int):cumT y 1=0:=rfl
structure MoAt(y r:Int)(j:Nat)(q:Int):Prop where
 lo:1<=j
 hi:j<=12
 sum:q+cumT y j=r
 q0:0<=q
 eq:moW y 12 1 r=moW y (13-j) j q
theorem MoAt.start{y r:Int}(h0:0<=r):MoAt y r 1 r:=⟨by omega,by omega,by simp [cumT],h0,rfl⟩
theorem MoAt.next{y r:Int}{j:Nat}{q:Int}(h:MoAt y r j q)(hr:r<ylen y)(hq:mlen y j<=q):MoAt y r (j+1) (q-mlen y j):=by
 obtain⟨lo,hi,sum,q0,eq⟩:=h;have hc:=(Dz (y:=y) (m:=j) j6 j6).1
 have hj:j<=11:=by
  rcases Nat.lt_or_ge 11 j with h|h
  ·exfalso;obtain rfl:j=12:=by omega
   have:=Ut y;rw [show((12:Nat):Int)+1=13 by rfl,this] at hc;omega
  ·exact h
 refine⟨by omega,by omega,by rw [show((j+1:Nat):Int)=(j:Int)+1 by omega,hc];omega,by omega, ?_⟩;rw [eq,show 13-j=(13-(j+1))+1 by omega];show(if mlen y j<=q then _ else _)=_;rw [if_pos hq,show((j+1:Nat):Int)=(j:Int)+1 by omega]
theorem MoAt.done{y r:Int}{j:Nat}{q:Int}(h:MoAt y r j q)(hq:¬mlen y j<=q):moW y 12 1 r=((j:Int),q):=by
 rw [h.eq,show 13-j=(13-(j+1))+1 by have:=h.hi;omega];show(if mlen y j<=q then _ else _)=_;rw [if_neg hq]
def dY(n:Int):Int:=yearF n
def dM(n:Int):Int:=(moW (yearF n) 12 1 (n-nY (yearF n))).1
def dD(n:Int):Int:=(moW (yearF n) 12 1 (n-nY (yearF n))).2+1
def dayIn(n:Int):Bool:=decide (-135140<=n/\n<=2932896)
theorem tm4{y:Int}(h:0<=y)(k:Int):y.tmod k=y % k:=Int.tmod_eq_emod_of_nonneg h
theorem Abz(y:Int)(h:0<=y)(w:World):Calls Tryz.prog 143 #[.int .i64 y] w λe w'=>e= .returned (.bool (leapB y))/\w=w':=by
 have q4:=tm4 h 4;have q100:=tm4 h 100;have q400:=tm4 h 400;by_cases h4:y % 4=0
 ·by_cases h100:y % 100=0
  ·by_cases h400:y % 400=0
   ·have hf:leapB y=true:=(Jb y).2 ⟨h4,.inr h400⟩;exact j0J
   ·have hf:leapB y=false:=by rw [Bool.eq_false_iff];intro hh;have:=(Jb y).1 hh;omega
    have b4:(y % 400==0)=false:=beq_eq_false_iff_ne.2 h400;exact j0J
  ·have hf:leapB y=true:=(Jb y).2 ⟨h4,.inl h100⟩;have b1:(y % 100 !=0)=true:=by simp [h100]
   exact j0J
 ·have hf:leapB y=false:=by rw [Bool.eq_false_iff];intro hh;have:=(Jb y).1 hh;omega
  have b4:(y % 4==0)=false:=beq_eq_false_iff_ne.2 h4;exact j0J
theorem Nu(y m:Int)(h:0<=y)(h1:1<=m)(h2:m<=12)(w:World):Calls Tryz.prog 119 #[.int .i64 y,.int .i64 m] w λe w'=>e= .returned (.int .i64 (mlen y m))/\w=w':=by
 have hlp:=Abz y h w;obtain rfl|rfl|rfl|rfl|rfl|rfl|rfl|rfl|rfl|rfl|rfl|rfl:m=1\/m=2\/m=3\/m=4\/m=5\/m=6\/m=7\/m=8\/m=9\/m=10\/m=11\/m=12:=by omega
 ·exact js
 ·rcases hb:leapB y with _|_
  ·rw [hb] at hlp;have hf:mlen y 2=28:=by unfold mlen;rw [hb];rfl
   exact j2D
  ·rw [hb] at hlp;have hf:mlen y 2=29:=by unfold mlen;rw [hb];rfl
   exact j2D
 ·exact js
 ·exact js
 ·exact js
 ·exact js
 ·exact js
 ·exact js
 ·exact js
 ·exact js
 ·exact js
 ·exact js
theorem Mh(y:Int)(h1:1600<=y)(h2:y<=100000)(w:World):Calls Tryz.prog 142 #[.int .i64 y] w λe w'=>e= .returned (.int .i64 (nY y))/\w=w':=by
 have t4:(y-1600+3).tdiv 4=(y-1600+3) / 4:=Int.tdiv_eq_ediv_of_nonneg j6;have t100:(y-1600+99).tdiv 100=(y-1600+99) / 100:=Int.tdiv_eq_ediv_of_nonneg j6;have t400:(y-1600+399).tdiv 400=(y-1600+399) / 400:=Int.tdiv_eq_ediv_of_nonneg j6;have hf:nY y= -135140+365*(y-1600)+(y-1600+3) / 4-(y-1600+99) / 100+(y-1600+399) / 400:=rfl;have Hf:=Lib.hid hf;clear hf;go_enter Tryz.func142,Tryz.ntmps142;go_wp2;go_ret;refine⟨?_,rfl⟩;rw [Hf.o];rfl
def Df(W:World)(B j:Nat):Int:=match W.cell? ⟨B,j,none⟩ with|some (.int _ n)=>n|_=>0
theorem Aw(w:World)(o:Obj){i:Nat}(h:i=w.heap.size):(w.alloc o).heap[i]?=some o:=by subst h;exact heap_alloc_new w o
theorem Dk{W:World}{B j:Nat}{n:Int}(h:W.cell? ⟨B,j,none⟩=some (.int .i64 n)):Df W B j=n:=by unfold Df;rw [h]
def ddFr(n:Int)(b:Nat)(u:Nat->Value):Act:={ tmps:= #[.int .i64 n,u 1,(.pointer (some ⟨b,0,none⟩)),u 3,(.pointer (some ⟨b+1,0,none⟩)),u 5,u 6,u 7,u 8,u 9,u 10,u 11,u 12,u 13,u 14,u 15,u 16,u 17,u 18,u 19,u 20,u 21,u 22,u 23,u 24,u 25,u 26,u 27,u 28,u 29,u 30,u 31,u 32,u 33,u 34,u 35,u 36,u 37,u 38,u 39,u 40,u 41,u 42,u 43,u 44,u 45,u 46,u 47,u 48,u 49,u 50,u 51,u 52,u 53,u 54,u 55],defers:= [] }
structure DdW(w:World)(y m d:Int)(W:World):Prop where
 kp:K0 w W
 res:W.heap[w.heap.size]?=some (.cells #[.int .i64 0,.int .i64 0,.int .i64 0] 219 (0,0))
 box:W.heap[w.heap.size+1]?=some (.cells #[.int .i64 y,.int .i64 m,.int .i64 d] 219 (0,0))
def YrOk(n:Int):Prop:=1600<=yearF n/\yearF n<=9999/\nY (yearF n)<=n/\n<nY (yearF n+1)
def ddJ1(w:World)(n:Int)(a':Act)(W:World):Prop:=∃(y:Int) (u:Nat->Value),a'=ddFr n w.heap.size u/\DdW w y 1 1 W/\1600<=y/\y<=9999/\nY y<=n
def ddJ2(w:World)(n:Int)(a':Act)(W:World):Prop:=∃(j:Nat) (q:Int) (u:Nat->Value),a'=ddFr n w.heap.size u/\DdW w (yearF n) j (q+1) W/\MoAt (yearF n) (n-nY (yearF n)) j q/\YrOk n
theorem ddJ1.mk{w:World}{n:Int}{a':Act}{W:World}(y:Int)(h:a'=ddFr n w.heap.size (λi=>a'.tmps.getD i undef))(hw:DdW w y 1 1 W)(h1:1600<=y)(h2:y<=9999)(h3:nY y<=n):ddJ1 w n a' W:=⟨y,_,h,hw,h1,h2,h3⟩
theorem ddJ2.mk{w:World}{n:Int}{a':Act}{W:World}(j:Nat)(q:Int)(h:a'=ddFr n w.heap.size (λi=>a'.tmps.getD i undef))(hw:DdW w (yearF n) j (q+1) W)(hm:MoAt (yearF n) (n-nY (yearF n)) j q)(hy:YrOk n):ddJ2 w n a' W:=⟨j,q,_,h,hw,hm,hy⟩
section
variable {w W:World} {y m d:Int}
theorem DdW.set0(h:DdW w y m d W)(v:Int):DdW w v m d (W.setCell ⟨w.heap.size+1,0,none⟩ (.int .i64 v)):=
 ⟨h.kp.trans (Keeps.setCell _ _ _ (.inr (by simp))),Ad h.res (Keeps.setCell (S:=λi=>i=w.heap.size+1) _ _ _ rfl) (by simp),(heap_setCell_same _ _ 0 _ _ _ h.box).trans rfl⟩
theorem DdW.set1(h:DdW w y m d W)(v:Int):DdW w y v d (W.setCell ⟨w.heap.size+1,1,none⟩ (.int .i64 v)):=
 ⟨h.kp.trans (Keeps.setCell _ _ _ (.inr (by simp))),Ad h.res (Keeps.setCell (S:=λi=>i=w.heap.size+1) _ _ _ rfl) (by simp),(heap_setCell_same _ _ 1 _ _ _ h.box).trans rfl⟩
theorem DdW.set2(h:DdW w y m d W)(v:Int):DdW w y m v (W.setCell ⟨w.heap.size+1,2,none⟩ (.int .i64 v)):=
 ⟨h.kp.trans (Keeps.setCell _ _ _ (.inr (by simp))),Ad h.res (Keeps.setCell (S:=λi=>i=w.heap.size+1) _ _ _ rfl) (by simp),(heap_setCell_same _ _ 2 _ _ _ h.box).trans rfl⟩
theorem DdW.keep{W':World}(h:DdW w y m d W)(hk:K0 W W'):DdW w y m d W':=⟨h.kp.nt hk,Ad h.res hk (by simp),Ad h.box hk (by simp)⟩
end
def ddS(b:Nat)(y d:Int)(W:World):Prop:=W.cell? ⟨b,0,none⟩=some (.int .i64 y)/\W.cell? ⟨b,2,none⟩=some (.int .i64 d)/\W.frozen? ⟨b,2,none⟩=false
theorem Ac0(n:Int)(w:World)(hn: -9000000000000000000<=n/\n<=9000000000000000000):Calls Tryz.prog 118 #[.int .i64 n] w λe w'=>e= .returned (.tuple #[.agg (if dayIn n=true then #[.int .i64 (dY n),.int .i64 (dM n),.int .i64 (dD n)] else #[.int .i64 0,.int .i64 0,.int .i64 0]),.int .i64 (if dayIn n=true then 0 else 10)])/\K0 w w':=by
 by_cases hin: -135140<=n/\n<=2932896
 ·have hd:dayIn n=true:=by simp [dayIn,hin]
  rw [if_pos hd,if_pos hd];obtain⟨rY,hrY⟩:=eX (dY n);obtain⟨rM,hrM⟩:=eX (dM n);obtain⟨rD,hrD⟩:=eX (dD n);rw [hrY,hrM,hrD];obtain⟨hn1,hn2⟩:=hin;clear hd;obtain⟨HrY,HrM,HrD⟩:=hid3 hrY hrM hrD;clear hrD hrM hrY;go_enter Tryz.func118,Tryz.ntmps118;go_wp2;refine Ll 0 1 (ddJ1 w n) (ddJ2 w n) (λ_ W=>(20000-Df W (w.heap.size+1) 0).toNat+100) (λ_ W=>(20-Df W (w.heap.size+1) 1).toNat) rfl rfl ?_ ?_ ?_
  ·rintro a' W ⟨j,q,u,rfl,hw,hm,hy⟩;unfold ddFr;obtain⟨y,hyy⟩:=eX (yearF n);unfold YrOk at hy;rw [hyy] at hw hm hy;obtain⟨h1,h2,h3,h4⟩:=hy;have hlo:=hm.lo;have hhi:=hm.hi;have hq0:=hm.q0;have hsum:=hm.sum;have hsucc:=Mx h1;have hyl:=Tk y;have hml:=(Dz (y:=y) (m:=j) j6 j6).2;have hcall:=λW=>Nu y j j6 j6 j6 W;obtain⟨l,hl⟩:=eX (mlen y j);rw [hl] at hcall hml;have hcum:0<=cumT y j:=by unfold cumT;split<;>(try split)<;>omega
   have c0:=Aa hw.box 0;have c1:=Aa hw.box 1;have c2:=Aa hw.box 2;have f0:=Ab hw.box 0;have f1:=Ab hw.box 1;have f2:=Ab hw.box 2;have e0:=Ab hw.res 0;have e1:=Ab hw.res 1;have e2:=Ab hw.res 2;have d0:=Aa hw.res 0;have d1:=Aa hw.res 1;have d2:=Aa hw.res 2;have hq1:q<=400:=j8;by_cases hgo:l<=q
   ·have hnx:=hm.next j6 (by rw [hl];exact hgo);rw [hl] at hnx;have Hw:=Lib.hid hw;clear hw hm;have Hcall:=Lib.hid hcall;clear hcall hl;obtain⟨Hyy,Hnx⟩:=hid2 hyy hnx;clear hnx hyy hsum hsucc hcum;go_wp2_with fail;refine(Hcall.o W).mono ?_;rintro e w1 ⟨rfl,rfl⟩;go_wp2_with fail;go_step3;go_wp2
    have hd2:DdW w (yearF n) ((j+1:Nat):Int) (q-l+1) ((W.setCell ⟨w.heap.size+1,2,none⟩ (.int .i64 (q+1-l))).setCell ⟨w.heap.size+1,1,none⟩ (.int .i64 ((j:Int)+1))):=by
     rw [Hyy.o,show q-l+1=q+1-l by omega,show((j+1:Nat):Int)=(j:Int)+1 by omega];exact(Hw.o.set2 _).set1 _
    refine Tg ⟨ddJ2.mk (j+1) (q-l) rfl hd2 (by rw [Hyy.o];exact Hnx.o) (by unfold YrOk;rw [Hyy.o];exact⟨h1,h2,h3,h4⟩), ?_⟩;have e1:=Dk (Aa hd2.box 1);have e2:=Dk (Aa Hw.o.box 1);show(20-Df _ _ 1).toNat<(20-Df _ _ 1).toNat;rw [e1,e2];omega
   ·have hdone:=hm.done (by rw [hl];exact hgo);have Hw:=Lib.hid hw;clear hw hm;have Hcall:=Lib.hid hcall;clear hcall hl;obtain⟨Hyy,Hdone⟩:=hid2 hyy hdone;clear hdone hyy hsum hsucc hcum;go_wp2_with fail;refine(Hcall.o W).mono ?_;rintro e w1 ⟨rfl,rfl⟩;go_wp2;refine Jy ?_;obtain rfl:rY=y:=HrY.o.symm.trans Hyy.o;obtain rfl:rM=j:=HrM.o.symm.trans (by unfold dM;rw [Hyy.o,Hdone.o]);obtain rfl:rD=q+1:=HrD.o.symm.trans (by unfold dD;rw [Hyy.o,Hdone.o]);have hb3:(((W.setCell ⟨w.heap.size,0,none⟩ (.int .i64 rY)).setCell ⟨w.heap.size,1,none⟩ (.int .i64 (j:Int))).setCell ⟨w.heap.size,2,none⟩ (.int .i64 (q+1))).heap[w.heap.size]?=some (.cells #[.int .i64 rY,.int .i64 (j:Int),.int .i64 (q+1)] 219 (0,0)):=(heap_setCell_same _ _ 2 _ _ _ ((heap_setCell_same _ _ 1 _ _ _ ((heap_setCell_same _ _ 0 _ _ _ Hw.o.res).trans rfl)).trans rfl)).trans rfl;have r0:=Aa hb3 0;have r1:=Aa hb3 1;have r2:=Aa hb3 2;clear d0 d1 d2 c0 c1 c2;exact bodyPost_ret (v:= .tuple #[.agg #[.int .i64 rY,.int .i64 (j:Int),.int .i64 (q+1)],.int .i64 0]) (by simp [results,Tryz.results118,go_sem,r0,r1,r2]) rfl ⟨rfl,Hw.o.kp.trans ((((Keeps.setCell (S:=λi=>w.heap.size<=i) _ _ _ (Nat.le_refl _)).trans (Keeps.setCell _ _ _ (.inl (Nat.le_refl _)))).trans (Keeps.setCell _ _ _ (.inl (Nat.le_refl _)))).mono λi _ h=> .inr h)⟩
  ·intro hp2;rintro a' W ⟨y,u,rfl,hw,h1,h2,h3⟩;unfold ddFr;have hcall:=λW=>Mh (y+1) j6 j6 W;have hcall2:=λW=>Mh y h1 j6 W;obtain⟨z,hz⟩:=eX (nY (y+1));obtain⟨v,hv⟩:=eX (nY y);have hsucc:=Mx h1;have hyl:=Tk y;have c0:=Aa hw.box 0;have c1:=Aa hw.box 1;have c2:=Aa hw.box 2;have f0:=Ab hw.box 0;have f1:=Ab hw.box 1;have f2:=Ab hw.box 2;by_cases hgo:nY (y+1)<=n
   ·have hy9:y+1<=9999:=nY_lt j6 j6 (by have:nY (9999+1)=2932897:=j7;omega);have h3':=hgo;rw [hz] at hcall hgo;rw [hv] at hcall2;obtain⟨Hw,Hcall,Hcall2⟩:=hid3 hw hcall hcall2;clear hcall2 hcall hw hz;obtain⟨Hv,H3'⟩:=hid2 hv h3';clear h3' hv h3 hsucc;go_wp2_with fail;refine(Hcall.o W).mono ?_;rintro e w1 ⟨rfl,rfl⟩;go_wp2_with fail;go_step3;go_wp2;refine Yu ⟨ddJ1.mk (y+1) rfl (Hw.o.set0 _) j6 j6 H3'.o, ?_⟩;have e1:=Dk (Aa (Hw.o.set0 (y+1)).box 0);have e2:=Dk (Aa Hw.o.box 0);show(20000-Df _ _ 0).toNat+100<(20000-Df _ _ 0).toNat+100;rw [e1,e2];omega
   ·obtain⟨hyf,_⟩:=Aa4 h1 h3 j6 hn2;have hok:YrOk n:=by unfold YrOk;rw [hyf];exact⟨h1,h2,h3,by omega⟩
    have hn0:0<=n-v:=j8;have hw1:IntKind.i64.wrap (n-v)=n-v:=IntWalk.i64_in _ ⟨by omega,by omega⟩;have hw2:IntKind.i64.wrap (1+(n-v))=1+(n-v):=IntWalk.i64_in _ ⟨by omega,by omega⟩;rw [hz] at hcall hgo;rw [hv] at hcall2;have hS:∀W',K0 W W'->ddS (w.heap.size+1) y 1 W':=λW' hk=>⟨Aa (Ad hw.box hk (by simp)) 0,Aa (Ad hw.box hk (by simp)) 2,Ab (Ad hw.box hk (by simp)) 2⟩;obtain⟨Hw,Hcall,Hcall2⟩:=hid3 hw hcall hcall2;clear hcall2 hcall hw hz;have Hv:=Lib.hid hv;clear hv h3;obtain⟨Hyf,Hok⟩:=hid2 hyf hok;clear hok hyf hsucc;have HS:=Lib.hid hS;clear hS;go_wp2_with fail;refine(Hcall.o W).mono ?_;rintro e w1 ⟨rfl,rfl⟩;go_wp2_with fail;refine Cm (ddS (w.heap.size+1) y 1) 9 (.take 0 (.take 1 (.take 2 (.take 3 (.take 4 (.take 5 (.take 6 (.take 7 (.take 8 (.move 9 .done)))))))))) j9 j9 ?_ ?_
    ·exact HS.o _ (Keeps.drew _)
    intro w2 hs2 hk2;refine jR ?_;refine Gc (v:= ?_) rfl (by rfl) ?_ ?_ ?_ ?_ ?_
    rotate_left 3
    ·intro w' hSw;unfold ddS at hSw;go_simp;(first|done|(constructor<;>with_reducible rfl)|with_reducible rfl)
    ·intro w' hSw;exact(Hcall2.o _)
    rotate_right 3
    try simp only [aps]
    refine jR ?_;have hs3:=hs2;unfold ddS at hs3;obtain⟨k0,k2,k3⟩:=hs3;refine j07 ?_;have hw3:=(Hw.o.keep hk2).set2 (1+(n-v))
    have hd2:DdW w (yearF n) ((1:Nat):Int) (n-v+1) (w2.setCell ⟨w.heap.size+1,2,none⟩ (.int .i64 (1+(n-v)))):=by
     rw [Hyf.o,show n-v+1=1+(n-v) by omega];exact hw3
    have hmo:MoAt (yearF n) (n-nY (yearF n)) 1 (n-v):=by rw [Hyf.o,Hv.o];exact MoAt.start hn0
    obtain⟨Hd2,Hmo⟩:=hid2 hd2 hmo;clear hmo hd2 hw3;clear hs2 hk2 k0 k2 k3;go_wp2_with fail;go_step3;rename_i hK;refine hK _ _ ?_;refine Ni ?_ ?_ (hp2.out _ _ (ddJ2.mk 1 (n-v) rfl Hd2.o Hmo.o Hok.o))
    ·exact j2E
    ·exact j2E
  ·intro hp1;go_wp2_with fail;go_step3;rename_i hK;refine hK _ _ ?_;refine hp1.out _ _ ?_;refine ddJ1.mk (1600+(n+135140) / 366) rfl ⟨by(repeat (first|exact Keeps.refl _ _|exact Keeps.alloc _ _|exact Keeps.drew _|exact Keeps.drewN _ _|refine Keeps.Ao ?_|refine Keeps.Al ?_|refine Keeps.Af ?_)),Ap (heap_alloc_new w _) _,Aw _ _ (by simp)⟩ j6 j6 (by unfold nY;omega)
 ·have hd:dayIn n=false:=by simp [dayIn];omega
  have hdd:¬dayIn n=true:=by rw [hd];decide
  rw [if_neg hdd,if_neg hdd];have hc:n< -135140\/2932896<n:=j8;clear hin;clear hd hdd;go_enter Tryz.func118,Tryz.ntmps118;go_wp2;refine Sn 0 1 rfl rfl ?_;rcases hc with hc|hc
  ·exact j2F
  ·have hc2:¬n< -135140:=j8;exact j2F
theorem haltD{p:Prop}(h:Hid p):p:=h.out
end Go.Proofs.YtjkdnaljkdnomaaGreatDoor
