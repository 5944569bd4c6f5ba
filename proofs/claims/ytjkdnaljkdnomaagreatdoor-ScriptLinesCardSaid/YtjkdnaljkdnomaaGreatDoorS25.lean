/- Part 25 of what the laws of this seat share: walks of functions, and plain laws. -/
import Derived.Test.YtjkdnaljkdnomaaGreatDoorS22
import Derived.Test.YtjkdnaljkdnomaaGreatDoorS23
import Derived.Test.YtjkdnaljkdnomaaGreatDoorS24
set_option maxRecDepth 100000
set_option maxHeartbeats 3200000
namespace Go.Proofs.YtjkdnaljkdnomaaGreatDoor
open Go.RowKit
theorem rowSame{W W':World}{e:TypeId}{sz m:Nat}{v:Value}{xs:List Value}(h:W.ownsRow 0 e sz v m xs)(hb:∀g,v.ownBlock=some g->W'.heap[g]?=W.heap[g]?):W'.ownsRow 0 e sz v m xs:=by
 obtain⟨h1,h2⟩:=h;refine⟨h1, ?_⟩;rcases h2 with h2|⟨g,cap,cur,hv,h3,h4,h5⟩
 ·exact .inl h2
 ·exact .inr ⟨g,cap,cur,hv,h3,(hb g (by rw [hv];rfl)).trans h4,h5⟩
section
variable {w0:World} {X:Fx} {B:Nat} {t:Tm} {n:Nat} {vt:Value} {L:List Ev} {f0 f1 f2:Value} {s:St} {vl vb vr:Value} {g0 g1:Nat} {S0 S1:List SI} {vo:Value} {P:List SV} {W W':World}
theorem RunV.Ym(h:RunV w0 X B t n vt L f0 f1 f2 s vl vb vr g0 g1 S0 S1 vo P W):RunV w0 ⟨X.X,X.X,W⟩ B t n vt L f0 f1 f2 s vl vb vr g0 g1 S0 S1 vo P W:=
 { h with
  yx:=λ_ h=>h
  fz:=λ_ _=>rfl }
end
structure DayP(t:Tm)(T:List Ev)(n:Nat)(td:Int)(A:List (Int×Int))(s:St)(Z:St×Int):Prop where
 sp:∃fr te S',A.drop s.out.length=(fr,te)::S'/\Rj fr te/\(te<td->SpanC td (te+1) S')/\fr<=s.day/\s.day<=te/\StOk n s (s.day-fr).toNat/\walkD t T n (td-s.day).toNat ((fr,te)::S') s=Z
 dt:s.day<=td
 i:s.i<=T.length
section
variable {t:Tm} {T:List Ev} {n:Nat} {td:Int} {A:List (Int×Int)} {s:St} {Z:St×Int}
theorem DayP.err(h:DayP t T n td A s Z)(he:(evR s.day (T.drop s.i) s.i s.p s.R).2.2.2≠0):Z.2=(evR s.day (T.drop s.i) s.i s.p s.R).2.2.2:=by
 obtain⟨fr,te,S',_,_,_,_,_,_,hw⟩:=h.sp;rcases hd:(td-s.day).toNat with _|d
 ·rw [hd] at hw;unfold walkD at hw;rw [<-hw]
 ·rw [hd] at hw;unfold walkD at hw;rw [if_neg he] at hw;rw [<-hw]
theorem DayP.last(h:DayP t T n td A s Z)(hd:s.day=td):Z=(evSt s (evR s.day (T.drop s.i) s.i s.p s.R),(evR s.day (T.drop s.i) s.i s.p s.R).2.2.2):=by
 obtain⟨fr,te,S',_,_,_,_,_,_,hw⟩:=h.sp;rw [show(td-s.day).toNat=0 by omega] at hw;unfold walkD at hw;exact hw.symm
theorem DayP.go(h:DayP t T n td A s Z)(he:(evR s.day (T.drop s.i) s.i s.p s.R).2.2.2=0)(hd:s.day≠td)(hz:t.err=0)(hn:t.trs.length=n):
  ∃fr te,A[s.out.length]?=some (fr,te)/\Rj fr te/\StOk n (endSt (evSt s (evR s.day (T.drop s.i) s.i s.p s.R)) n n) ((s.day-fr).toNat+1)/\fr<=s.day/\s.day<=te/\s.out.length<A.length/\
   (te≠s.day->DayP t T n td A { endSt (evSt s (evR s.day (T.drop s.i) s.i s.p s.R)) n n with day:=s.day+1 } Z)/\
   (te=s.day->Fs t T n (endSt (evSt s (evR s.day (T.drop s.i) s.i s.p s.R)) n n) fr te=none->Z.2=5)/\
   (te=s.day->∀s2,Fs t T n (endSt (evSt s (evR s.day (T.drop s.i) s.i s.p s.R)) n n) fr te=some s2->DayP t T n td A { s2 with day:=s.day+1 } Z):=by
 obtain⟨fr,te,S',hA,hok,hnx,hfr,hte,hs,hw⟩:=h.sp;have hdt:=h.dt;have hi:=h.i;obtain⟨d,hdd⟩:∃d,(td-s.day).toNat=d+1:=⟨(td-s.day).toNat-1,by omega⟩;rw [hdd] at hw;unfold walkD at hw;rw [if_pos he] at hw
 have hget:A[s.out.length]?=some (fr,te):=by
  have h1:=congrArg (λl=>l[0]?) hA
  simpa using h1
 have hlt:s.out.length<A.length:=by
  obtain⟨hh,_⟩:=List.getElem?_eq_some_iff.1 hget;exact hh
 have hs1:StOk n (endSt (evSt s (evR s.day (T.drop s.i) s.i s.p s.R)) n n) ((s.day-fr).toNat+1):=(hs.ev he).fin;obtain⟨_,_,_,_,i1,i2⟩:=evR_ok s.day (T.drop s.i) s.i s.p s.R hs.pr hs.rt he
 have hi2:(evR s.day (T.drop s.i) s.i s.p s.R).1<=T.length:=by
  rw [List.length_drop] at i2;omega
 refine⟨fr,te,hget,hok,hs1,hfr,hte,hlt,λhne=> ?_,λhe hc=> ?_,λhe s2 hc=> ?_⟩
 ·dsimp only at hw;rw [if_neg hne] at hw;refine⟨⟨fr,te,S',hA,hok,hnx,by show fr<=s.day+1;omega,by show s.day+1<=te;omega, ?_, ?_⟩,by show s.day+1<=td;omega,hi2⟩
  ·show StOk n _ (s.day+1-fr).toNat;rw [show(s.day+1-fr).toNat=(s.day-fr).toNat+1 by omega];exact⟨hs1.pr,hs1.nb,hs1.nr,hs1.rt,hs1.n0,hs1.n1,hs1.m0,hs1.m1⟩
  ·exact j40
 ·dsimp only at hw;rw [if_pos he,hc] at hw;rw [<-hw]
 ·dsimp only at hw;rw [if_pos he,hc] at hw;obtain⟨c1,c2,c3,c4⟩:=Re hz hn hs1 hc;obtain⟨te',S'',hS,hok',hfr',hnx'⟩:=(hnx j6).head;subst hS
  have hA2:A.drop (s.out.length+1)=(te+1,te')::S'':=by
   rw [<-List.drop_drop,hA];rfl
  have hlo:=hok'.le;refine⟨⟨te+1,te',S'', ?_,hok',hnx',by show te+1<=s.day+1;omega,by show s.day+1<=te';omega, ?_, ?_⟩,by show s.day+1<=td;omega, ?_⟩
  ·show A.drop s2.out.length=_;rw [c2];exact hA2
  ·show StOk n _ (s.day+1-(te+1)).toNat;rw [show(s.day+1-(te+1)).toNat=0 by omega];exact⟨c1.pr,c1.nb,c1.nr,c1.rt,c1.n0,c1.n1,c1.m0,c1.m1⟩
  ·exact j40
  ·show s2.i<=T.length;rw [c3];exact hi2
theorem DayP.start{L:List Ev}(hz:Dj t L td=0)(hn:t.trs.length=n):DayP t (sortL L) n td (allL t.start t.cyc td) (st0 t) (walkR t L td):=by
 have hr:=Ei hz;have hA:allL t.start t.cyc td=(findW t.cyc td 300 t.start).1:=by unfold allL;rw [if_pos hr.fd]
 obtain⟨hs,_⟩:=Ku t.cyc td 300 t.start hr.fd;obtain⟨te,S',hS,hok,_,hnx⟩:=hs.head;refine⟨⟨t.start,te,S', ?_,hok,hnx,Int.le_refl _,hok.le, ?_, ?_⟩,hr.d0,Nat.zero_le _⟩
 ·rw [hA,hS];rfl
 ·show StOk n (st0 t) (t.start-t.start).toNat;rw [show(t.start-t.start).toNat=0 by omega,<-hn];exact st0_ok hr.tm
 ·unfold walkR;rw [if_pos hz,hA,hS,hn];rfl
theorem Acc(st cd day:Int):(allL st cd day).length<=300:=by
 unfold allL
 split
 ·rename_i h;exact(Ku cd day 300 st h).2
 ·simp
end
structure Gh(α:Type) where
 ev:α->Ev->Ps->Ps->α
 day:α->Ps->α
 cl:α->St->St->α
section
variable {α:Type} (γ:Gh α)
def evG(day:Int):List Ev->Ps->List Int->α->α
 | [],_,_,a=>a
 |e::M,p,R,a=>if e.day=day then(if(Dv p R e).2.2=0 then evG day M (Dv p R e).1 (Dv p R e).2.1 (γ.ev a e p (Dv p R e).1) else a) else a
def walkG(t:Tm)(T:List Ev)(n:Nat):Nat->List (Int×Int)->St->α->α
 |0,_,s,a=>evG γ s.day (T.drop s.i) s.p s.R a
 |d+1,S,s,a=>if(evR s.day (T.drop s.i) s.i s.p s.R).2.2.2=0 then
   (match S with
    | []=>a
    |(fr,te)::S'=>if te=s.day then(match Fs t T n (endSt (evSt s (evR s.day (T.drop s.i) s.i s.p s.R)) n n) fr te with
      |none=>a
      |some s2=>walkG t T n d S' { s2 with day:=s.day+1 } (γ.cl (γ.day (evG γ s.day (T.drop s.i) s.p s.R a) (evR s.day (T.drop s.i) s.i s.p s.R).2.1) (endSt (evSt s (evR s.day (T.drop s.i) s.i s.p s.R)) n n) s2))
     else walkG t T n d ((fr,te)::S') { endSt (evSt s (evR s.day (T.drop s.i) s.i s.p s.R)) n n with day:=s.day+1 } (γ.day (evG γ s.day (T.drop s.i) s.p s.R a) (evR s.day (T.drop s.i) s.i s.p s.R).2.1))
  else a
def DayS(t:Tm)(T:List Ev)(n:Nat)(td:Int)(A:List (Int×Int))(s:St)(a z:α):Prop:=walkG γ t T n (td-s.day).toNat (A.drop s.out.length) s a=z
end
section
variable {α:Type} {γ:Gh α} {t:Tm} {T:List Ev} {n:Nat} {td:Int} {A:List (Int×Int)} {s:St} {a z:α}
theorem DayS.last(h:DayS γ t T n td A s a z)(hd:s.day=td):evG γ s.day (T.drop s.i) s.p s.R a=z:=by
 unfold DayS at h;rw [show(td-s.day).toNat=0 by omega] at h;exact h
theorem DayS.go(h:DayS γ t T n td A s a z)(he:(evR s.day (T.drop s.i) s.i s.p s.R).2.2.2=0)(hd:s.day<td){fr te:Int}(hA:A[s.out.length]?=some (fr,te)):
  (te≠s.day->DayS γ t T n td A { endSt (evSt s (evR s.day (T.drop s.i) s.i s.p s.R)) n n with day:=s.day+1 } (γ.day (evG γ s.day (T.drop s.i) s.p s.R a) (evR s.day (T.drop s.i) s.i s.p s.R).2.1) z)/\
  (te=s.day->∀s2,Fs t T n (endSt (evSt s (evR s.day (T.drop s.i) s.i s.p s.R)) n n) fr te=some s2->s2.out.length=s.out.length+1->
   DayS γ t T n td A { s2 with day:=s.day+1 } (γ.cl (γ.day (evG γ s.day (T.drop s.i) s.p s.R a) (evR s.day (T.drop s.i) s.i s.p s.R).2.1) (endSt (evSt s (evR s.day (T.drop s.i) s.i s.p s.R)) n n) s2) z):=by
 unfold DayS at h;obtain⟨d,hdd⟩:∃d,(td-s.day).toNat=d+1:=⟨(td-s.day).toNat-1,by omega⟩
 have hdr:A.drop s.out.length=(fr,te)::A.drop (s.out.length+1):=by
  obtain⟨h1,h2⟩:=List.getElem?_eq_some_iff.1 hA;rw [List.drop_eq_getElem_cons h1,h2]
 rw [hdd,hdr] at h;unfold walkG at h;rw [if_pos he] at h;dsimp only at h;refine⟨λhne=> ?_,λhee s2 hc hl=> ?_⟩
 ·rw [if_neg hne] at h;show walkG γ t T n (td-(s.day+1)).toNat (A.drop s.out.length) _ _=z;rw [show(td-(s.day+1)).toNat=d by omega,hdr];exact h
 ·rw [if_pos hee,hc] at h;show walkG γ t T n (td-(s.day+1)).toNat (A.drop s2.out.length) _ _=z;rw [show(td-(s.day+1)).toNat=d by omega,hl];exact h
end
section
variable {t:Tm} {T:List Ev} {n:Nat} {td:Int} {A:List (Int×Int)} {s:St} {D DD:List (List Int)}
end
def wkX(b8 b13:Nat)(vS:Value):Nat->Prop:=λi=>i=b8\/i=b13\/vS.ownBlock=some i
structure Wt(α:Type) where
 I:α->(Nat->Prop)->World->Prop
 fr:∀{a:α} {G:Nat->Prop} {W W':World},I a G W->(∀b,G b->W'.heap[b]?=W.heap[b]?)->I a G W'
 lt:∀{a:α} {G:Nat->Prop} {W:World} {b:Nat},I a G W->G b->b<W.heap.size
def wt0:Wt Unit where
 I:=λ_ G _=>∀b,¬G b
 fr:=λh _=>h
 lt:=λh hb=>absurd hb (h _)
def fxG(K G:Nat->Prop)(W:World):Fx:=⟨λi=>K i\/G i,λi=>K i\/G i,W⟩
def RunI{α:Type}(V:Wt α)(w:World)(K:Nat->Prop)(B:Nat)(t:Tm)(n:Nat)(vt:Value)(L:List Ev)(f0 f1 f2:Value)(s:St)(a:α)(vl vb vr:Value)(g0 g1:Nat)(S0 S1:List SI)(vo:Value)(P:List SV)(Z W:World):Prop:=
 ∃G,RunV w (fxG K G W) B t n vt L f0 f1 f2 s vl vb vr g0 g1 S0 S1 vo P W/\V.I a G W/\(∀i,K i->¬G i)/\(∀i,K i->W.heap[i]?=Z.heap[i]?)
section
variable {α:Type} {V:Wt α} {w:World} {K:Nat->Prop} {B:Nat} {t:Tm} {n:Nat} {vt:Value} {L:List Ev} {f0 f1 f2:Value} {s s':St} {a a':α} {vl vb vr vb' vr':Value} {g0 g1 g0' g1':Nat} {S0 S1 S0' S1':List SI} {vo vo':Value} {P P':List SV} {Z W W':World}
theorem RunI.same{G:Nat->Prop}(hI:V.I a G W)(hK:∀i,K i->¬G i)(hr:RunV w (fxG K G W) B t n vt L f0 f1 f2 s' vl vb' vr' g0' g1' S0' S1' vo' P' W'):RunI V w K B t n vt L f0 f1 f2 s' a vl vb' vr' g0' g1' S0' S1' vo' P' W W':=
 ⟨G,hr.Ym,V.fr hI λb hb=>hr.fz b (.inr hb),hK,λi hi=>hr.fz i (.inl hi)⟩
theorem RunI.keep0(h:RunI V w K B t n vt L f0 f1 f2 s a vl vb vr g0 g1 S0 S1 vo P Z W)(hk:K0 W W'):RunI V w K B t n vt L f0 f1 f2 s a vl vb vr g0 g1 S0 S1 vo P Z W':=by
 obtain⟨G,hr,hI,hK,hZ⟩:=h;have h1:=hr.keep0 hk;exact⟨G,h1.Ym,V.fr hI λb hb=>h1.fz b (.inr hb),hK,λi hi=>(h1.fz i (.inl hi)).trans (hZ i hi)⟩
theorem RunI.self(h:RunI V w K B t n vt L f0 f1 f2 s a vl vb vr g0 g1 S0 S1 vo P Z W):RunI V w K B t n vt L f0 f1 f2 s a vl vb vr g0 g1 S0 S1 vo P W W:=by
 obtain⟨G,hr,hI,hK,_⟩:=h;exact⟨G,hr.Ym,hI,hK,λ_ _=>rfl⟩
theorem RunI.trans(h:RunI V w K B t n vt L f0 f1 f2 s a vl vb vr g0 g1 S0 S1 vo P Z W)(h2:RunI V w K B t n vt L f0 f1 f2 s' a' vl vb' vr' g0' g1' S0' S1' vo' P' W W'):RunI V w K B t n vt L f0 f1 f2 s' a' vl vb' vr' g0' g1' S0' S1' vo' P' Z W':=by
 obtain⟨_,_,_,_,hZ⟩:=h;obtain⟨G,hr,hI,hK,hZ2⟩:=h2;exact⟨G,hr,hI,hK,λi hi=>(hZ2 i hi).trans (hZ i hi)⟩
end
structure DayW{α:Type}(V:Wt α)(w:World)(B b8 b13:Nat)(t:Tm)(n:Nat)(vt f0 f1 f2:Value)(T:List Ev)(A:List (Int×Int))(vS:Value)(s:St)(a:α)(W:World):Prop where
 run:∃vl vb vr g0 g1 S0 S1 vo P,RunI V w (wkX b8 b13 vS) B t n vt T f0 f1 f2 s a vl vb vr g0 g1 S0 S1 vo P W W
 pos:W.heap[b8]?=some (.cells #[.slice none 0 0,.int .i64 0,.int .i64 0] 51 (0,0))
 spn:∃x y,W.heap[b13]?=some (.cells #[.int .i64 x,.int .i64 y] 56 (0,0))
 row:W.ownsRow 0 56 2 vS A.length (A.flatMap spc)
 lo:w.heap.size<=b8/\w.heap.size<=b13/\∀g,vS.ownBlock=some g->w.heap.size<=g
 nv:∀g,vS.ownBlock=some g->g≠b13
section
variable {α:Type} {V:Wt α} {w:World} {B b8 b13:Nat} {t:Tm} {n:Nat} {vt f0 f1 f2:Value} {T:List Ev} {A:List (Int×Int)} {vS:Value} {s s':St} {a a':α} {W W':World}
theorem DayW.call(h:DayW V w B b8 b13 t n vt f0 f1 f2 T A vS s a W){vl vb vr:Value}{g0 g1:Nat}{S0 S1:List SI}{vo:Value}{P:List SV}(hr:RunI V w (wkX b8 b13 vS) B t n vt T f0 f1 f2 s' a' vl vb vr g0 g1 S0 S1 vo P W W'):DayW V w B b8 b13 t n vt f0 f1 f2 T A vS s' a' W':=by
 obtain⟨G,hr,hI,hK,hb⟩:=hr;obtain⟨x,y,hxy⟩:=h.spn;exact⟨⟨_,_,_,_,_,_,_,_,_,G,hr,hI,hK,λ_ _=>rfl⟩,(hb _ (.inl rfl)).trans h.pos,⟨x,y,(hb _ (.inr (.inl rfl))).trans hxy⟩,rowSame h.row λg hg=>hb g (.inr (.inr hg)),h.lo,h.nv⟩
theorem DayW.span(h:DayW V w B b8 b13 t n vt f0 f1 f2 T A vS s a W)(x y:Int):DayW V w B b8 b13 t n vt f0 f1 f2 T A vS s a ((W.setCell ⟨b13,0,none⟩ (.int .i64 x)).setCell ⟨b13,1,none⟩ (.int .i64 y))/\((W.setCell ⟨b13,0,none⟩ (.int .i64 x)).setCell ⟨b13,1,none⟩ (.int .i64 y)).heap[b13]?=some (.cells #[.int .i64 x,.int .i64 y] 56 (0,0)):=by
 obtain⟨x0,y0,hs⟩:=h.spn;have hb:((W.setCell ⟨b13,0,none⟩ (.int .i64 x)).setCell ⟨b13,1,none⟩ (.int .i64 y)).heap[b13]?=some (.cells #[.int .i64 x,.int .i64 y] 56 (0,0)):=(heap_setCell_same _ _ 1 _ _ _ ((heap_setCell_same _ _ 0 _ _ _ hs).trans rfl)).trans rfl;have hk:Keeps (λi=>i=b13) W ((W.setCell ⟨b13,0,none⟩ (.int .i64 x)).setCell ⟨b13,1,none⟩ (.int .i64 y)):=(Keeps.setCell (S:=λi=>i=b13) _ _ _ rfl).trans (Keeps.setCell _ _ _ (.inl rfl));obtain⟨vl,vb,vr,g0,g1,S0,S1,vo,P,G,hr,hI,hK,_⟩:=h.run;have hr2:RunV w ⟨λi=>wkX b8 b13 vS i\/G i,λ_=>False,W⟩ B t n vt T f0 f1 f2 s vl vb vr g0 g1 S0 S1 vo P W:={ hr with yx:=λ_ h=>h.elim,fz:=λ_ h=>h.elim };have hr3:=(hr2.keep hk (λb hb=>by have e:b=b13:=hb;exact .inl (.inr (.inl e))) (λ_ _ h=>h)).Ym;refine⟨⟨⟨vl,vb,vr,g0,g1,S0,S1,vo,P,G,hr3,V.fr hI λb hb=>hk.block b (V.lt hI hb) (λe=>hK b13 (.inr (.inl rfl)) (by have e':b=b13:=e;exact e'▸hb)),hK,λ_ _=>rfl⟩,Ad h.pos hk (λe=> ?_),⟨x,y,hb⟩,hk.row h.row (λg hg e=>h.nv g hg e),h.lo,h.nv⟩,hb⟩;have e':b8=b13:=e;have h1:=h.pos;rw [e',hs] at h1;exact j0y
theorem DayW.keep0(h:DayW V w B b8 b13 t n vt f0 f1 f2 T A vS s a W)(hk:K0 W W'):DayW V w B b8 b13 t n vt f0 f1 f2 T A vS s a W':=by
 obtain⟨vl,vb,vr,g0,g1,S0,S1,vo,P,hr⟩:=h.run;exact h.call (hr.keep0 hk)
theorem DayW.day(h:DayW V w B b8 b13 t n vt f0 f1 f2 T A vS s a W)(d:Int):DayW V w B b8 b13 t n vt f0 f1 f2 T A vS { s with day:=d } a (W.setCell ⟨B,9,none⟩ (.int .i64 d)):=by
 obtain⟨vl,vb,vr,g0,g1,S0,S1,vo,P,G,hr,hI,hK,_⟩:=h.run;exact h.call (RunI.same hI hK (hr.setDay d))
theorem DayW.c9(h:DayW V w B b8 b13 t n vt f0 f1 f2 T A vS s a W):W.cell? ⟨B,9,none⟩=some (.int .i64 s.day)/\W.frozen? ⟨B,9,none⟩=false/\B<W.heap.size:=by
 obtain⟨vl,vb,vr,g0,g1,S0,S1,vo,P,G,hr,_⟩:=h.run;exact⟨Aa hr.blk 9,Ab hr.blk 9,lt_of_block hr.blk⟩
theorem DayW.keeps(h:DayW V w B b8 b13 t n vt f0 f1 f2 T A vS s a W):∃G,V.I a G W/\Keeps G w W/\¬G b8:=by
 obtain⟨_,_,_,_,_,_,_,_,_,G,hr,hI,hK,_⟩:=h.run
 exact⟨G,hI,hr.kp.mono λk hk hX=>by
  obtain⟨h1,h2,h3⟩:=h.lo;rcases hX with hX|hX
  ·exfalso;rcases hX with rfl|rfl|hX
   ·omega
   ·omega
   ·have:=h3 k hX;omega
  ·exact hX,hK _ (.inl rfl)⟩
end
def EvOk{α:Type}(V:Wt α)(γ:Gh α)(f0 f1 f2:Value)(n:Nat):Prop:=∀{w:World} {K:Nat->Prop} {B:Nat} {t:Tm} {vt:Value} {L:List Ev} {s:St} {a:α} {vl vb vr:Value} {g0 g1:Nat} {S0 S1:List SI} {vo:Value} {P:List SV} {W:World},RunI V w K B t n vt L f0 f1 f2 s a vl vb vr g0 g1 S0 S1 vo P W W->n<=1000->L.length<=1000000->s.i<=L.length->s.p.Bh=true->
 ∀Z:Nat×Ps×List Int×Int,evR s.day (L.drop s.i) s.i s.p s.R=Z->Calls Tryz.prog 105 #[(.pointer (some ⟨B,0,none⟩))] W λe W'=>e= .returned (.int .i64 Z.2.2.2)/\∃vb' vr' a',(Z.2.2.2=0->a'=evG γ s.day (L.drop s.i) s.p s.R a)/\RunI V w K B t n vt L f0 f1 f2 (evSt s Z) a' vl vb' vr' g0 g1 S0 S1 vo P W W'
def EndOk{α:Type}(V:Wt α)(γ:Gh α)(J:Int->α->Prop)(f0 f1 f2:Value)(n:Nat):Prop:=∀{w:World} {K:Nat->Prop} {B:Nat} {t:Tm} {vt:Value} {L:List Ev} {s:St} {a:α} {vl vb vr:Value} {g0 g1:Nat} {S0 S1:List SI} {vo:Value} {P:List SV} {W:World},RunI V w K B t n vt L f0 f1 f2 s a vl vb vr g0 g1 S0 S1 vo P W W->n<=1000->(∀r∈s.e0,r.length<=100000)->(∀r∈s.e1,r.length<=100000)->s.p.Bh=true->J s.day a-> -135140<=s.day->s.day<=2932896->
 Calls Tryz.prog 106 #[(.pointer (some ⟨B,0,none⟩))] W λe W'=>e= .returned (.tuple #[])/\∃S0' S1',RunI V w K B t n vt L f0 f1 f2 (endSt s n n) (γ.day a s.p) vl vb vr g0 g1 S0' S1' vo P W W'
def ClOk{α:Type}(V:Wt α)(γ:Gh α)(f0 f1 f2:Value)(n:Nat):Prop:=∀{w:World} {K:Nat->Prop} {B:Nat} {t:Tm} {vt:Value} {L:List Ev} {s:St} {a:α} {vl vb vr:Value} {g0 g1:Nat} {S0 S1:List SI} {vo:Value} {P:List SV} {W:World},RunI V w K B t n vt L f0 f1 f2 s a vl vb vr g0 g1 S0 S1 vo P W W->
 t.err=0->t.trs.length=n->L.length<=1000000->(∀x∈L,x.kind=2->0<=x.amount/\x.amount<=1000000000000000)->s.p.Bh=true->(∀x∈s.R,0<=x/\x<=10000000)->(∀r∈s.e0,∀y∈r,0<=y/\y<=1000000000000000)->(∀r∈s.e1,∀y∈r,0<=y/\y<=10000000)->
 (∀(k:Nat) (a b:List Int),s.e0[k]?=some a->s.e1[k]?=some b->a.length=b.length/\a.length<=40000)->s.out.length+1<=300->∀fr te:Int,(-135140<=fr/\fr<=te/\te<=2932896)->∀C:Option St,Fs t L n s fr te=C->
 Calls Tryz.prog 107 #[(.pointer (some ⟨B,0,none⟩)),.agg #[.int .i64 fr,.int .i64 te]] W λe W'=>match C with
   |none=>e= .returned (.int .i64 5)/\RunI V w K B t n vt L f0 f1 f2 s a vl vb vr g0 g1 S0 S1 vo P W W'
   |some s'=>e= .returned (.int .i64 0)/\∃vb' g0' g1' vo' P',RunI V w K B t n vt L f0 f1 f2 s' (γ.cl a s s') vl vb' vr g0' g1' (List.replicate n si0) (List.replicate n si0) vo' P' W W'
structure GhOk{α:Type}(γ:Gh α)(J:Int->α->Prop):Prop where
 ev:∀(d:Int) (a:α) (e:Ev) (p q:Ps),J d a->J d (γ.ev a e p q)
 day:∀(d:Int) (a:α) (p:Ps),J d a->J (d+1) (γ.day a p)
 cl:∀(d:Int) (a:α) (s s':St),J d a->J d (γ.cl a s s')
theorem Zd{α:Type}{γ:Gh α}{J:Int->α->Prop}(h:GhOk γ J)(d:Int):∀(M:List Ev) (p:Ps) (R:List Int) (a:α),J d a->J d (evG γ d M p R a)
 | [],_,_,_,ha=>ha
 |e::M,p,R,a,ha=>by
  unfold evG
  split
  ·split
   ·exact Zd h d M _ _ _ (h.ev _ _ _ _ _ ha)
   ·exact ha
  ·exact ha
theorem evG_id{α:Type}{γ:Gh α}(h:∀a e p q,γ.ev a e p q=a)(d:Int):∀(M:List Ev) (p:Ps) (R:List Int) (a:α),evG γ d M p R a=a
 | [],_,_,_=>rfl
 |e::M,p,R,a=>by
  unfold evG
  split
  ·split
   ·rw [h];exact evG_id h d M _ _ a
   ·rfl
  ·rfl
theorem evOk_nil{α:Type}(V:Wt α){γ:Gh α}(h:∀a e p q,γ.ev a e p q=a)(f1 f2:Value)(n:Nat):EvOk V γ .nilFunc f1 f2 n:=by
 rintro w K B t vt L s a vl vb vr g0 g1 S0 S1 vo P W ⟨G,hr,hI,hK,_⟩ hn hl hi _ Z hZ;refine(Vs hr hn hl hi Z hZ).mono ?_;rintro e W' ⟨rfl,vb',vr',hr'⟩;exact⟨rfl,vb',vr',a,λ_=>(evG_id h _ _ _ _ _).symm,RunI.same hI hK hr'⟩
theorem endOk_nil{α:Type}(V:Wt α){γ:Gh α}(J:Int->α->Prop)(h:∀a p,γ.day a p=a)(f0 f2:Value)(n:Nat):EndOk V γ J f0 .nilFunc f2 n:=by
 rintro w K B t vt L s a vl vb vr g0 g1 S0 S1 vo P W ⟨G,hr,hI,hK,_⟩ hn h0 h1 _ _ _ _;refine(Acr hr hn h0 h1).mono ?_;rintro e W' ⟨rfl,S0',S1',hr'⟩;rw [h];exact⟨rfl,S0',S1',RunI.same hI hK hr'⟩
theorem clOk_nil{α:Type}(V:Wt α){γ:Gh α}(h:∀a s s',γ.cl a s s'=a)(f0 f1:Value)(n:Nat):ClOk V γ f0 f1 .nilFunc n:=by
 rintro w K B t vt L s a vl vb vr g0 g1 S0 S1 vo P W ⟨G,hr,hI,hK,_⟩ hz hn hl hok hpr hrt he0 he1 hlen hcy fr te hsp C hC;refine(Yj hr hz hn hl hok hpr hrt he0 he1 hlen hcy fr te hsp C hC).mono ?_;intro e W' h';rcases C with _|s'
 ·exact⟨h'.1,RunI.same hI hK h'.2⟩
 ·obtain⟨h1,vb',g0',g1',vo',P',hr'⟩:=h';exact⟨h1,vb',g0',g1',vo',P',by rw [h];exact RunI.same hI hK hr'⟩
theorem tbS.keepS{E:Nat}{t:Tm}{v:Value}{w w':World}{S:Nat->Prop}(h:tbS E t v w)(hk:Keeps S w w')(hS:¬S E):tbS E t v w':=by
 obtain⟨h0,h1,h2,h3,h4,h5,h6⟩:=h;exact⟨(hk.cell (Ai h0) hS).trans h0,(hk.cell (Ai h1) hS).trans h1,(hk.cell (Ai h2) hS).trans h2,(hk.cell (Ai h3) hS).trans h3,(hk.cell (Ai h4) hS).trans h4,(hk.cell (Ai h5) hS).trans h5,(hk.cell (Ai h6) hS).trans h6⟩
structure PreR(w:World)(B b8 b13:Nat)(t:Tm)(n:Nat)(vt:Value)(T:List Ev)(A:List (Int×Int))(vS vl vb:Value)(f0 f1 f2:Value)(vr:Value)(k:Nat)(W:World):Prop where
 blk:W.heap[B]?=some (.cells #[.int .i64 t.limit,vt,.int .i64 t.cyc,.int .i64 t.due,.int .i64 t.minFixed,.int .i64 t.minPart,.int .i64 t.start,vl,.int .i64 0,.int .i64 t.start,vb,.int .i64 0,.int .i64 0,vr,.slice none 0 0,.slice none 0 0,.slice none 0 0,f0,f1,f2] 203 (0,0))
 tb:tbS w.heap.size t vt W
 evs:W.ownsRow 0 186 5 vl T.length (T.flatMap Ev.cells)
 bal:W.ownsRow 0 2 1 vb n ((List.replicate n (0:Int)).flatMap i64c)
 rts:W.ownsRow 0 2 1 vr k (((t.trs.map Tn.rate).take k).flatMap i64c)
 pos:W.heap[b8]?=some (.cells #[.slice none 0 0,.int .i64 0,.int .i64 0] 51 (0,0))
 spn:W.heap[b13]?=some (.cells #[.int .i64 0,.int .i64 0] 56 (0,0))
 row:W.ownsRow 0 56 2 vS A.length (A.flatMap spc)
 lo:w.heap.size<=b8/\w.heap.size<=b13/\w.heap.size<=B/\∀g,vS.ownBlock=some g->w.heap.size<=g
 nv:∀g,vS.ownBlock=some g->g≠b13
 wl:∀g,vl.ownBlock=some g->w.heap.size<=g
 wb:∀g,vb.ownBlock=some g->w.heap.size<=g
 wr:∀g,vr.ownBlock=some g->w.heap.size<=g
 br:∀g,vb.ownBlock=some g->vr.ownBlock≠some g
 tn:vr.ownBlock≠some w.heap.size
 kp:K0 w W
section
variable {w:World} {B b8 b13:Nat} {t:Tm} {n:Nat} {vt:Value} {T:List Ev} {A:List (Int×Int)} {vS vl vb f0 f1 f2 vr:Value} {k:Nat} {W W':World}
theorem PreR.keep0(h:PreR w B b8 b13 t n vt T A vS vl vb f0 f1 f2 vr k W)(hk:K0 W W'):PreR w B b8 b13 t n vt T A vS vl vb f0 f1 f2 vr k W':=
 { h with
  blk:=Ad h.blk hk (by simp)
  tb:=h.tb.keep hk
  evs:=h.evs.of_keeps hk
  bal:=h.bal.of_keeps hk
  rts:=h.rts.of_keeps hk
  pos:=Ad h.pos hk (by simp)
  spn:=Ad h.spn hk (by simp)
  row:=h.row.of_keeps hk
  kp:=h.kp.nt hk }
theorem PreR.app(h:PreR w B b8 b13 t n vt T A vS vl vb f0 f1 f2 vr k W)(hnB:¬B=w.heap.size){x:Int}(hx:(t.trs.map Tn.rate)[k]?=some x){v9:Value}(hk:Keeps (λi=>vr.ownBlock=some i) W W')(hr:W'.ownsRow 0 2 1 v9 (k+1) (((t.trs.map Tn.rate).take k++ [x]).flatMap i64c))
  (hf:v9.ownBlock=vr.ownBlock\/∃g,v9.ownBlock=some g/\W.heap.size<=g):PreR w B b8 b13 t n vt T A vS vl vb f0 f1 f2 v9 (k+1) (W'.setCell ⟨B,13,none⟩ v9):=by
 have nb:∀{e:TypeId} {b:Nat} {c:Array Value},W.heap[b]?=some (.cells c e (0,0))->e≠2->¬vr.ownBlock=some b:=λhb hne=>Ah h.rts hb hne;have nr:∀{e:TypeId} {sz m:Nat} {u:Value} {xs:List Value},W.ownsRow 0 e sz u m xs->e≠2->∀b,u.ownBlock=some b->¬vr.ownBlock=some b:=λhr' hne b hb e=>Fj hr' h.rts hne hb e;have hB:=Ad h.blk hk (nb h.blk j7);have kB:Keeps (λi=>i=B) W' (W'.setCell ⟨B,13,none⟩ v9):=Keeps.setCell _ _ _ rfl;have hne:∀{e:TypeId} {sz m:Nat} {v:Value} {xs:List Value},W'.ownsRow 0 e sz v m xs->203≠e->∀i,v.ownBlock=some i->¬i=B:=λhr hne i hi e=>by subst e;exact Ah hr hB hne hi
 have nog:∀{e:TypeId} {g:Nat} {c:Array Value},W'.heap[g]?=some (.cells c e (0,0))->203≠e->¬g=B:=λhg hne' e=>by
  subst e;rw [hB] at hg;exact j20
 have hp:=Ad h.pos hk (nb h.pos j7);have hs:=Ad h.spn hk (nb h.spn j7);have he:=hk.row h.evs (nr h.evs j7);have ho:=hk.row h.row (nr h.row j7);have hbl:=hk.row h.bal (λb hb=>h.br b hb);have hsz:=h.kp.size;refine⟨(heap_setCell_same _ _ 13 _ _ _ hB).trans rfl, ?_,kB.row he (hne he j7),kB.row hbl (hne hbl j7), ?_,Ad hp kB (nog hp j7),Ad hs kB (nog hs j7),kB.row ho (hne ho j7),h.lo,h.nv,h.wl,h.wb,λg hg=> ?_,λg hg e=> ?_,λe=> ?_, ?_⟩
 ·exact(h.tb.keepS hk h.tn).keepS kB (λe=>hnB (Eq.symm e))
 ·rw [take_snoc' hx];exact kB.row hr (hne hr j7)
 ·rcases hf with e|⟨g',e,hh⟩
  ·exact h.wr g (e▸hg)
  ·rw [e] at hg;injection hg with hg;omega
 ·rcases hf with e'|⟨g',e',hh⟩
  ·exact h.br g hg (e'▸e)
  ·rw [e'] at e;injection e with e;have:=Ch h.bal hg;omega
 ·rcases hf with e'|⟨g',e',hh⟩
  ·exact h.tn (e'▸e)
  ·rw [e'] at e;injection e with e;have:w.heap.size<W.heap.size:=Ai h.tb.1;omega
 ·exact(h.kp.trans (hk.mono λi _ e=> .inr (h.wr i e))).trans (kB.mono λi _ e=> .inr (by have e':i=B:=e;rw [e'];exact h.lo.2.2.1))
theorem PreR.start(hb:W.heap[B]?=some (.cells #[.int .i64 t.limit,vt,.int .i64 t.cyc,.int .i64 t.due,.int .i64 t.minFixed,.int .i64 t.minPart,.int .i64 t.start,vl,.int .i64 0,.int .i64 t.start,.slice none 0 0,.int .i64 0,.int .i64 0,.slice none 0 0,.slice none 0 0,.slice none 0 0,.slice none 0 0,f0,f1,f2] 203 (0,0)))(htb:tbS w.heap.size t vt W)(he:W.ownsRow 0 186 5 vl T.length (T.flatMap Ev.cells))
  (hp:W.heap[b8]?=some (.cells #[.slice none 0 0,.int .i64 0,.int .i64 0] 51 (0,0))) (hs:W.heap[b13]?=some (.cells #[.int .i64 0,.int .i64 0] 56 (0,0))) (hr:W.ownsRow 0 56 2 vS A.length (A.flatMap spc)) (lo:w.heap.size<=b8/\w.heap.size<=b13/\w.heap.size<=B/\∀g,vS.ownBlock=some g->w.heap.size<=g) (nv:∀g,vS.ownBlock=some g->g≠b13) (wl:∀g,vl.ownBlock=some g->w.heap.size<=g)
  (hn:n<=maxLen) (hnB:B≠w.heap.size) (hk:K0 w W):PreR w B b8 b13 t n vt T A vS vl (.slice (some ⟨W.heap.size,0,none⟩) n n) f0 f1 f2 (.slice none 0 0) 0 ((W.alloc (.cells (madeCells (Value.int .i64 0).cells n) 2)).setCell ⟨B,10,none⟩ (.slice (some ⟨W.heap.size,0,none⟩) n n)):=by
 have kA:K0 W (W.alloc (.cells (madeCells (Value.int .i64 0).cells n) 2)):=Keeps.alloc _ _;have kB:Keeps (λi=>i=B) (W.alloc (.cells (madeCells (Value.int .i64 0).cells n) 2)) ((W.alloc (.cells (madeCells (Value.int .i64 0).cells n) 2)).setCell ⟨B,10,none⟩ (.slice (some ⟨W.heap.size,0,none⟩) n n)):=Keeps.setCell _ _ _ rfl;have hne:∀{e:TypeId} {sz m:Nat} {v:Value} {xs:List Value},W.ownsRow 0 e sz v m xs->203≠e->∀i,v.ownBlock=some i->¬i=B:=λhr hne i hi e=>by subst e;exact Ah hr hb hne hi
 have nog:∀{e:TypeId} {g:Nat} {c:Array Value},W.heap[g]?=some (.cells c e (0,0))->203≠e->¬g=B:=λhg hne' e=>by
  subst e;rw [hb] at hg;exact j20
 have hbl:=lt_of_block hb;have hks:=hk.size;have hm:=(RowZ.made W 2 n hn).1;refine⟨(heap_setCell_same _ _ 10 _ _ _ (Ap hb _)).trans rfl,(htb.keep kA).keepS kB (λe=>hnB (Eq.symm e)),kB.row (he.of_keeps kA) (hne he j7),kB.row hm (λi hi e=>by simp [Value.ownBlock] at hi;have e':i=B:=e;omega),World.ownsRow_nil _ _ _ _,Ad (Ap hp _) kB (nog hp j7),Ad (Ap hs _) kB (nog hs j7),kB.row (hr.of_keeps kA) (hne hr j7),lo,nv,wl,λg hg=> ?_,λg hg=>by simp [Value.ownBlock] at hg,λg hg e=>by simp [Value.ownBlock] at e,by simp [Value.ownBlock], ?_⟩
 ·simp [Value.ownBlock] at hg;omega
 ·exact(hk.nt kA).trans (kB.mono λi _ e=> .inr (by have e':i=B:=e;have:=lo.2.2.1;omega))
theorem PreR.fin{α:Type}{V:Wt α}{a0:α}{G0:Nat->Prop}(hI:V.I a0 G0 w)(hG:∀b,vt.ownBlock=some b->¬G0 b)(h:PreR w B b8 b13 t n vt T A vS vl vb f0 f1 f2 vr n W)(hn:t.trs.length=n)(hvt:Reads w 2 vt n (t.trs.flatMap Tn.cells))(hvb:∀b,vt.ownBlock=some b->b<w.heap.size){a b:Nat}(hB:W'.heap[B]?=some (.cells #[.int .i64 t.limit,vt,.int .i64 t.cyc,.int .i64 t.due,.int .i64 t.minFixed,.int .i64 t.minPart,.int .i64 t.start,vl,.int .i64 0,.int .i64 t.start,vb,.int .i64 0,.int .i64 0,vr,.slice (some ⟨a,0,none⟩) n n,.slice (some ⟨b,0,none⟩) n n,.slice none 0 0,f0,f1,f2] 203 (0,0)))
  (ha:W'.heap[a]?=some (.cells ((List.replicate n si0).map SI.v).toArray 49 (0,0))) (hb:W'.heap[b]?=some (.cells ((List.replicate n si0).map SI.v).toArray 49 (0,0))) (la:W.heap.size<=a) (lb:W.heap.size<=b) (hab:a≠b) (hk:Keeps (λi=>i=B) W W'):DayW V w B b8 b13 t n vt f0 f1 f2 T A vS (st0 t) a0 W':=by
 have hne:∀{e:TypeId} {sz m:Nat} {v:Value} {xs:List Value},W.ownsRow 0 e sz v m xs->203≠e->∀i,v.ownBlock=some i->¬i=B:=λhr hne i hi e=>by subst e;exact Ah hr h.blk hne hi
 have nog:∀{e:TypeId} {g:Nat} {c:Array Value},W.heap[g]?=some (.cells c e (0,0))->203≠e->¬g=B:=λhg hne' e=>by
  subst e;rw [h.blk] at hg;exact j20
 refine j3A ?_;intro hnil hget;obtain⟨lo1,lo2,lo3,lo4⟩:=h.lo;have hks:=h.kp.size
 have nX:∀i,W.heap.size<=i->¬wkX b8 b13 vS i:=λi hi e=>by
  rcases e with e|e|e
  ·have:=lt_of_block h.pos;omega
  ·have:=lt_of_block h.spn;omega
  ·have:=Ch h.row e;omega
 have nR:∀{e:TypeId} {sz m:Nat} {v:Value} {xs:List Value},W.ownsRow 0 e sz v m xs->e≠51->e≠56->∀i,v.ownBlock=some i->¬wkX b8 b13 vS i:=λhr h1 h2 i hi e=>by
  rcases e with e|e|e
  ·subst e;exact Ah hr h.pos (Ne.symm h1) hi
  ·subst e;exact Ah hr h.spn (Ne.symm h2) hi
  ·exact Fj h.row hr h2.symm e hi
 have nB:¬wkX b8 b13 vS B:=λe=>by
  rcases e with e|e|e
  ·exact nog h.pos j7 e.symm
  ·exact nog h.spn j7 e.symm
  ·exact hne h.row j7 _ e rfl
 have hk0:K0 w W':=h.kp.trans (hk.mono λi _ e=> .inr (by have e':i=B:=e;omega));have nG:∀i,w.heap.size<=i->¬G0 i:=λi hi e=>by have:=V.lt hI e;omega
 have hrt:=h.rts;rw [List.take_of_length_le (by rw [List.length_map];omega)] at hrt;refine⟨⟨vl,vb,vr,a,b,List.replicate n si0,List.replicate n si0,.slice none 0 0, [],G0, ?_,V.fr hI (λi hi=>hk0.block i (V.lt hI hi) (by simp)),λi hi=> ?_,λ_ _=>rfl⟩,Ad h.pos hk (nog h.pos j7),⟨0,0,Ad h.spn hk (nog h.spn j7)⟩,hk.row h.row (hne h.row j7),⟨lo1,lo2,lo4⟩,h.nv⟩
 rotate_left
 ·rcases hi with rfl|rfl|hi
  ·exact nG _ lo1
  ·exact nG _ lo2
  ·exact nG _ (lo4 _ hi)
 exact {
  blk:=hB
  trs:=hvt.keeps hk0 (by simp)
  evs:=hk.row h.evs (hne h.evs j7)
  bal:=by show W'.ownsRow 0 _ 1 vb n ((List.replicate t.trs.length (0:Int)).flatMap i64c);rw [hn];exact hk.row h.bal (hne h.bal j7)
  rts:=hk.row hrt (hne hrt j7)
  o0:=ha
  o1:=hb
  i0:=λx hx=>by rw [hnil x hx];exact World.ownsRow_nil _ _ _ _
  i1:=λx hx=>by rw [hnil x hx];exact World.ownsRow_nil _ _ _ _
  out:=World.ownsRow_nil _ _ _ _
  ln:=λx hx=>by simp at hx
  l0:=by simp [si0,st0,hn]
  l1:=by simp [si0,st0,hn]
  lp:=rfl
  n0:=by simp
  n1:=by simp
  nb:=by simp [st0,hn]
  nr:=by simp [st0,hn]
  d00:=λj k x y hx hy _ b e=>by rw [hget j x hx] at e;simp [si0,SI.v,Value.ownBlock] at e
  d11:=λj k x y hx hy _ b e=>by rw [hget j x hx] at e;simp [si0,SI.v,Value.ownBlock] at e
  d01:=λx y hx hy b e=>by rw [hnil x hx] at e;simp [si0,SI.v,Value.ownBlock] at e
  db0:=λx hx b e=>by rw [hnil x hx] at e;simp [si0,SI.v,Value.ownBlock] at e
  db1:=λx hx b e=>by rw [hnil x hx] at e;simp [si0,SI.v,Value.ownBlock] at e
  g01:=hab
  wB:=⟨lo3,λe=>e.elim nB (nG _ lo3)⟩
  w0':=⟨by omega,λe=>e.elim (nX a la) (nG _ j6)⟩
  w1':=⟨by omega,λe=>e.elim (nX b lb) (nG _ j6)⟩
  wl:=λi hi=>⟨h.wl i hi,λe=>e.elim (nR h.evs j7 j7 i hi) (nG _ (h.wl i hi))⟩
  wb:=λi hi=>⟨h.wb i hi,λe=>e.elim (nR h.bal j7 j7 i hi) (nG _ (h.wb i hi))⟩
  wr:=λi hi=>⟨h.wr i hi,λe=>e.elim (nR h.rts j7 j7 i hi) (nG _ (h.wr i hi))⟩
  wo:=λi hi=>by simp [Value.ownBlock] at hi
  wi0:=λx hx b e=>by rw [hnil x hx] at e;simp [si0,SI.v,Value.ownBlock] at e
  wi1:=λx hx b e=>by rw [hnil x hx] at e;simp [si0,SI.v,Value.ownBlock] at e
  wln:=λx hx=>by simp at hx
  wt:=λi hi=>⟨hvb i hi,λe=>by
   have:=hvb i hi;rcases e with(e|e|e)|e
   ·omega
   ·omega
   ·have:=lo4 i e;omega
   ·exact hG i hi e⟩
  xl:=λi e=>by
   rcases e with(e|e|e)|e
   ·subst e;exact Nat.lt_of_lt_of_le (lt_of_block h.pos) hk.size
   ·subst e;exact Nat.lt_of_lt_of_le (lt_of_block h.spn) hk.size
   ·exact Nat.lt_of_lt_of_le (Ch h.row e) hk.size
   ·exact Nat.lt_of_lt_of_le (V.lt hI e) hk0.size
  yx:=λ_ e=>e
  fz:=λ_ _=>rfl
  kp:=hk0.mono (by simp) }
end
def wkS(b:Nat)(t:Tm)(vt f0 f1 f2:Value)(W:World):Prop:=tbS b t vt W/\W.cell? ⟨b+1,0,none⟩=some f0/\W.cell? ⟨b+1,1,none⟩=some f1/\W.cell? ⟨b+1,2,none⟩=some f2
theorem wkS.keep{b:Nat}{t:Tm}{vt f0 f1 f2:Value}{W W':World}(h:wkS b t vt f0 f1 f2 W)(hk:K0 W W'):wkS b t vt f0 f1 f2 W':=
 ⟨h.1.keep hk,(hk.cell (Ai h.2.1) (by simp)).trans h.2.1,(hk.cell (Ai h.2.2.1) (by simp)).trans h.2.2.1,(hk.cell (Ai h.2.2.2) (by simp)).trans h.2.2.2⟩
structure Ve(w:World)(n:Nat)(s:St)(vb vr vo:Value)(P:List SV)(G:Nat->Prop)(w':World):Prop where
 bal:w'.ownsRow 0 2 1 vb n (s.p.bal.flatMap i64c)
 rts:w'.ownsRow 0 2 1 vr n (s.R.flatMap i64c)
 out:w'.ownsRow 0 59 9 vo P.length (P.flatMap SV.cells)
 ln:∀x∈P,w'.ownsRow 0 212 3 x.v x.s.lines.length (x.s.lines.flatMap Ln.cells)
 lp:P.map SV.s=s.out
 nb:s.p.bal.length=n
 nr:s.R.length=n
 wb:∀b,vb.ownBlock=some b->w.heap.size<=b
 wr:∀b,vr.ownBlock=some b->w.heap.size<=b
 wo:∀b,vo.ownBlock=some b->w.heap.size<=b
 wl:∀x∈P,∀b,x.v.ownBlock=some b->w.heap.size<=b
 kp:Keeps G w w'
abbrev En(w:World)(n:Nat)(s:St)(vb vr vo:Value)(P:List SV)(w':World):Prop:=Ve w n s vb vr vo P (λ_=>False) w'
def WalkPostG{α:Type}(V:Wt α)(w:World)(n:Nat)(Z:St×Int)(z:α)(e:Ending)(w':World):Prop:=(Z.2=0/\∃vb vr vo P G,e= .returned (.tuple #[.agg #[vb,.int .i64 Z.1.p.cr,.int .i64 Z.1.p.du],vr,vo,.int .i64 0])/\Ve w n Z.1 vb vr vo P G w'/\V.I z G w')\/
 (Z.2≠0/\e= .returned (.tuple #[.agg #[.slice none 0 0,.int .i64 0,.int .i64 0],.slice none 0 0,.slice none 0 0,.int .i64 Z.2])/\∃a G,V.I a G w'/\Keeps G w w')
def Vf(w:World)(n:Nat)(Z:St×Int)(e:Ending)(w':World):Prop:=(Z.2=0/\∃vb vr vo P,e= .returned (.tuple #[.agg #[vb,.int .i64 Z.1.p.cr,.int .i64 Z.1.p.du],vr,vo,.int .i64 0])/\En w n Z.1 vb vr vo P w')\/
 (Z.2≠0/\e= .returned (.tuple #[.agg #[.slice none 0 0,.int .i64 0,.int .i64 0],.slice none 0 0,.slice none 0 0,.int .i64 Z.2])/\K0 w w')
def wkFr(td:Int)(b:Nat)(vS:Value)(B:Nat)(u:Nat->Value):Act:={ tmps:= #[u 0,u 1,.int .i64 td,u 3,u 4,u 5,u 6,u 7,(.pointer (some ⟨b+1+1,0,none⟩)),u 9,u 10,u 11,vS,(.pointer (some ⟨b+1+1+1,0,none⟩)),(.pointer (some ⟨B,0,none⟩)),u 15,u 16,u 17,u 18,u 19,u 20,u 21,u 22,u 23,u 24,u 25,u 26,u 27,u 28,u 29,u 30,u 31,u 32,u 33,u 34,u 35,u 36,u 37,u 38,u 39,u 40,u 41,u 42,u 43,u 44,u 45,u 46,u 47,u 48,u 49,u 50,u 51,u 52,u 53,u 54,u 55,u 56,u 57,u 58,u 59,u 60,u 61,u 62,u 63,u 64,u 65,u 66,u 67,u 68,u 69,u 70,u 71,u 72,u 73,u 74,u 75,u 76,u 77,u 78,u 79,u 80,u 81,u 82,u 83,u 84,u 85,u 86,u 87,u 88,u 89,u 90,u 91,u 92,u 93,u 94,u 95,u 96,u 97,u 98,u 99,u 100,u 101,u 102,u 103,u 104,u 105,u 106,u 107,u 108,u 109,u 110,u 111,u 112,u 113,u 114,u 115,u 116,u 117,u 118,u 119],defers:= [] }
def wk0Fr(b:Nat)(e:Int)(u:Nat->Value):Act:={ tmps:= #[u 0,u 1,u 2,u 3,u 4,u 5,u 6,u 7,(.pointer (some ⟨b+1+1,0,none⟩)),u 9,u 10,u 11,u 12,u 13,u 14,.int .i64 e,u 16,u 17,u 18,u 19,u 20,u 21,u 22,u 23,u 24,u 25,u 26,u 27,u 28,u 29,u 30,u 31,u 32,u 33,u 34,u 35,u 36,u 37,u 38,u 39,u 40,u 41,u 42,u 43,u 44,u 45,u 46,u 47,u 48,u 49,u 50,u 51,u 52,u 53,u 54,u 55,u 56,u 57,u 58,u 59,u 60,u 61,u 62,u 63,u 64,u 65,u 66,u 67,u 68,u 69,u 70,u 71,u 72,u 73,u 74,u 75,u 76,u 77,u 78,u 79,u 80,u 81,u 82,u 83,u 84,u 85,u 86,u 87,u 88,u 89,u 90,u 91,u 92,u 93,u 94,u 95,u 96,u 97,u 98,u 99,u 100,u 101,u 102,u 103,u 104,u 105,u 106,u 107,u 108,u 109,u 110,u 111,u 112,u 113,u 114,u 115,u 116,u 117,u 118,u 119],defers:= [] }
def ptB(a:Act):Nat:=match a.tmps.getD 14 undef with| .pointer (some ⟨b,_,_⟩)=>b|_=>0
section
variable {α:Type} (V:Wt α) (γ:Gh α) (J:Int->α->Prop)
def wkJ0(w:World)(R:St×Int)(a':Act)(W:World):Prop:=∃(e:Int) (u:Nat->Value),a'=wk0Fr w.heap.size e u/\W.heap[w.heap.size+1+1]?=some (.cells #[.slice none 0 0,.int .i64 0,.int .i64 0] 51 (0,0))/\(∃a G,V.I a G W/\Keeps G w W/\¬G (w.heap.size+1+1))/\e≠0/\R.2=e
def wkJ1(w:World)(t:Tm)(n:Nat)(vt:Value)(f0 f1 f2:Value)(T:List Ev)(td:Int)(A:List (Int×Int))(R:St×Int)(y:α)(z:Int)(a':Act)(W:World):Prop:=z=0/\∃(s:St) (a:α) (B:Nat) (vS:Value) (u:Nat->Value),a'=wkFr td w.heap.size vS B u/\DayW V w B (w.heap.size+1+1) (w.heap.size+1+1+1) t n vt f0 f1 f2 T A vS s a W/\DayP t T n td A s R/\DayS γ t T n td A s a y/\J s.day a
end
section
variable {α:Type} {V:Wt α} {γ:Gh α} {J:Int->α->Prop}
theorem wkJ0.mk{w:World}{R:St×Int}{a':Act}{W:World}(e:Int)(h:a'=wk0Fr w.heap.size e (λi=>a'.tmps.getD i undef))(h1:W.heap[w.heap.size+1+1]?=some (.cells #[.slice none 0 0,.int .i64 0,.int .i64 0] 51 (0,0)))(h2:∃a G,V.I a G W/\Keeps G w W/\¬G (w.heap.size+1+1))(h3:e≠0)(h4:R.2=e):wkJ0 V w R a' W:=⟨e,_,h,h1,h2,h3,h4⟩
theorem wkJ1.mk{w:World}{t:Tm}{n:Nat}{vt f0 f1 f2:Value}{T:List Ev}{td:Int}{A:List (Int×Int)}{R:St×Int}{y:α}{z:Int}{a':Act}{W:World}(s:St)(a:α)(B:Nat)(vS:Value)(hz:z=0)(h:a'=wkFr td w.heap.size vS B (λi=>a'.tmps.getD i undef))(h1:DayW V w B (w.heap.size+1+1) (w.heap.size+1+1+1) t n vt f0 f1 f2 T A vS s a W)(h2:DayP t T n td A s R)(h3:DayS γ t T n td A s a y)(h4:J s.day a):wkJ1 V γ J w t n vt f0 f1 f2 T td A R y z a' W:=⟨hz,s,a,B,vS,_,h,h1,h2,h3,h4⟩
end
theorem Rv:∀M:List Tn,(M.flatMap Tn.cells).length=M.length*2
 | []=>rfl
 |x::M=>by rw [List.flatMap_cons,List.length_append,Rv M,Tn.Aj,List.length_cons];omega
def r11S(B b:Nat)(vr:Value)(x:Int)(W:World):Prop:=W.cell? ⟨B,13,none⟩=some vr/\W.cell? ⟨b,0,none⟩=some (.int .i64 x)
theorem r11S.keep{B b:Nat}{vr:Value}{x:Int}{S:Nat->Prop}{W W':World}(h:r11S B b vr x W)(hk:Keeps S W W')(h1:¬S B)(h2:¬S b):r11S B b vr x W':=⟨(hk.cell (Ai h.1) h1).trans h.1,(hk.cell (Ai h.2) h2).trans h.2⟩
def w20S(b13 B:Nat)(te sd:Int)(W:World):Prop:=W.cell? ⟨b13,1,none⟩=some (.int .i64 te)/\W.cell? ⟨B,9,none⟩=some (.int .i64 sd)
def w17S(B:Nat)(vb:Value)(cr du:Int)(vr vo:Value)(W:World):Prop:=W.cell? ⟨B,10,none⟩=some vb/\W.cell? ⟨B,11,none⟩=some (.int .i64 cr)/\W.cell? ⟨B,12,none⟩=some (.int .i64 du)/\W.cell? ⟨B,13,none⟩=some vr/\W.cell? ⟨B,16,none⟩=some vo
theorem w17S.keep{B:Nat}{vb vr vo:Value}{cr du:Int}{S:Nat->Prop}{W W':World}(h:w17S B vb cr du vr vo W)(hk:Keeps S W W')(hB:¬S B):w17S B vb cr du vr vo W':=by
 obtain⟨h1,h2,h3,h4,h5⟩:=h;exact⟨(hk.cell (Ai h1) hB).trans h1,(hk.cell (Ai h2) hB).trans h2,(hk.cell (Ai h3) hB).trans h3,(hk.cell (Ai h4) hB).trans h4,(hk.cell (Ai h5) hB).trans h5⟩
theorem Ack{w:World}{X:Fx}{B b8:Nat}{t:Tm}{n:Nat}{vt:Value}{T:List Ev}{f0 f1 f2:Value}{s:St}{vl vb vr:Value}{g0 g1:Nat}{S0 S1:List SI}{vo:Value}{P:List SV}{W W':World}(h:RunV w X B t n vt T f0 f1 f2 s vl vb vr g0 g1 S0 S1 vo P W)(hk:Keeps (λi=>i=b8) W W')(hX:X.X b8)(hb8:w.heap.size<=b8){G:Nat->Prop}(hkw:Keeps G w W):Ve w n s vb vr vo P G W' where
 bal:=hk.row h.bal λb hb e=>by have e':b=b8:=e;exact(h.wb b hb).2 (e'▸hX)
 rts:=hk.row h.rts λb hb e=>by have e':b=b8:=e;exact(h.wr b hb).2 (e'▸hX)
 out:=hk.row h.out λb hb e=>by have e':b=b8:=e;exact(h.wo b hb).2 (e'▸hX)
 ln:=λx hx=>hk.row (h.ln x hx) λb hb e=>by have e':b=b8:=e;exact(h.wln x hx b hb).2 (e'▸hX)
 lp:=h.lp
 nb:=h.nb
 nr:=h.nr
 wb:=λb hb=>(h.wb b hb).1
 wr:=λb hb=>(h.wr b hb).1
 wo:=λb hb=>(h.wo b hb).1
 wl:=λx hx b hb=>(h.wln x hx b hb).1
 kp:=hkw.trans (hk.mono λi _ e=> .inr (by have e':i=b8:=e;omega))
def ghR{α:Type}(γ:Gh α)(t:Tm)(L:List Ev)(td:Int)(a:α):α:=walkG γ t (sortL L) t.trs.length (td-t.start).toNat (allL t.start t.cyc td) (st0 t) a
theorem Aal{α:Type}(V:Wt α)(γ:Gh α)(J:Int->α->Prop)(hGJ:GhOk γ J)(a0:α)(G0:Nat->Prop)(t:Tm)(adt:Option Addr)(ct n:Nat)(L:List Ev)(ad:Option Addr)(cap N:Nat)(td:Int)(f0 f1 f2:Value)(w:World)(hn:t.trs.length=n)(htr:Reads w 2 (.slice adt n ct) n (t.trs.flatMap Tn.cells))(hN:L.length=N)(hr:Reads w 5 (.slice ad N cap) N (L.flatMap Ev.cells))(hl:N<=1000000)(htl:n<=1000000)
  (hf:Dj t L td=0->EvOk V γ f0 f1 f2 n/\EndOk V γ J f0 f1 f2 n/\ClOk V γ f0 f1 f2 n) (hJ0:Dj t L td=0->J t.start a0) (hI0:V.I a0 G0 w) (hG0:Dj t L td=0->∀b,adt.map (·.block)=some b->¬G0 b):
  Calls Tryz.prog 84 #[.agg #[.int .i64 t.limit,.slice adt n ct,.int .i64 t.cyc,.int .i64 t.due,.int .i64 t.minFixed,.int .i64 t.minPart,.int .i64 t.start],.slice ad N cap,.int .i64 td,.agg #[f0,f1,f2]] w (WalkPostG V w n (walkR t L td) (ghR γ t L td a0)):=by
 have hsrt:=λW (hW:K0 w W)=>Ac1 (.slice ad N cap) L W (by rw [hN];exact hr.keeps hW (by simp)) j6;have hrgt:=λW (hW:K0 w W)=>Yk t adt ct n L ad cap N td W hn (htr.keeps hW (by simp)) hN (hr.keeps hW (by simp)) hl htl;obtain⟨w4,hw4⟩:=eY ((((w.alloc (.cells #[.int .i64 t.limit,.slice adt n ct,.int .i64 t.cyc,.int .i64 t.due,.int .i64 t.minFixed,.int .i64 t.minPart,.int .i64 t.start] 26)).alloc (.cells #[f0,f1,f2] 178)).alloc (.cells #[.slice none 0 0,.int .i64 0,.int .i64 0] 51)).alloc (.cells #[.int .i64 0,.int .i64 0] 56))
 have hS4:∀W,K0 w4 W->wkS w.heap.size t (.slice adt n ct) f0 f1 f2 W:=λW hW=>by
  have h1:=Ad (Ap (Ap (Aw (w.alloc (.cells #[.int .i64 t.limit,.slice adt n ct,.int .i64 t.cyc,.int .i64 t.due,.int .i64 t.minFixed,.int .i64 t.minPart,.int .i64 t.start] 26)) (.cells #[f0,f1,f2] 178) (i:=w.heap.size+1) (by simp)) (.cells #[.slice none 0 0,.int .i64 0,.int .i64 0] 51)) (.cells #[.int .i64 0,.int .i64 0] 56)) (hw4▸hW) (by simp);exact⟨tbS.of (Ad (Ap (Ap (Ap (heap_alloc_new w _) _) _) _) (hw4▸hW) (by simp)),Aa h1 0,Aa h1 1,Aa h1 2⟩
 have hk4:K0 w w4:=by rw [hw4];exact((Keeps.alloc _ _).Af).Af.Af
 have hp4:w4.heap[w.heap.size+2]?=some (.cells #[.slice none 0 0,.int .i64 0,.int .i64 0] 51 (0,0)):=by rw [hw4];exact Ap (Aw _ _ (by simp)) _
 have hs4:w4.heap[w.heap.size+3]?=some (.cells #[.int .i64 0,.int .i64 0] 56 (0,0)):=by rw [hw4];exact Aw _ _ (by simp)
 obtain⟨z,hz⟩:=eX (Dj t L td);obtain⟨R,hR⟩:=eX (walkR t L td);obtain⟨A,hA⟩:=eX (allL t.start t.cyc td);obtain⟨y,hy⟩:=eX (ghR γ t L td a0);have hR':=hR;unfold walkR at hR';rw [hz] at hR' hf hrgt;rw [hA] at hR';rw [hR,hy];obtain⟨HGJ,HJ0,HI0,HG0,Hy,Htr,Hr,Hsrt,Hrgt⟩:=hid9 hGJ hJ0 hI0 hG0 hy htr hr hsrt hrgt;clear hrgt hsrt hr htr hy hG0 hI0 hJ0 hGJ;obtain⟨HS4,Hk4,Hp4,Hs4,HR,HR',Hf,HN,Hn⟩:=hid9 hS4 hk4 hp4 hs4 hR hR' hf hN hn;clear hn hN hf hR' hR hs4 hp4 hk4 hS4;have Hz:=Lib.hid hz;clear hz;go_enter Tryz.func84,Tryz.ntmps84;go_wp2;refine Ll 1 0 (wkJ1 V γ J w t n (.slice adt n ct) f0 f1 f2 (sortL L) td A R y z) (wkJ0 V w R) (λa W=>(td+1-Df W (ptB a) 9).toNat) (λ_ _=>0) rfl rfl ?_ ?_ ?_
 ·rintro a' W ⟨e,u,rfl,hb,⟨aI,GI,hI,hk,hGb⟩,he,hRe⟩;unfold wk0Fr;have d0:=Aa hb 0;have d1:=Aa hb 1;have d2:=Aa hb 2;have e0:=Ab hb 0;have e1:=Ab hb 1;have e2:=Ab hb 2;have dl:=lt_of_block hb;have hkz:=hk.trans ((((Keeps.setCell (S:=λi=>w.heap.size<=i) W ⟨w.heap.size+1+1,0,none⟩ (.slice none 0 0) ji).trans (Keeps.setCell _ ⟨w.heap.size+1+1,1,none⟩ (.int .i64 0) (.inl ji))).trans (Keeps.setCell _ ⟨w.heap.size+1+1,2,none⟩ (.int .i64 0) (.inl ji))).mono λi _ h=> .inr h);have hb3:(((W.setCell ⟨w.heap.size+1+1,0,none⟩ (.slice none 0 0)).setCell ⟨w.heap.size+1+1,1,none⟩ (.int .i64 0)).setCell ⟨w.heap.size+1+1,2,none⟩ (.int .i64 0)).heap[w.heap.size+1+1]?=some (.cells #[.slice none 0 0,.int .i64 0,.int .i64 0] 51 (0,0)):=(heap_setCell_same _ _ 2 _ _ _ ((heap_setCell_same _ _ 1 _ _ _ ((heap_setCell_same _ _ 0 _ _ _ hb).trans rfl)).trans rfl)).trans rfl;have hI3:∃a G,V.I a G (((W.setCell ⟨w.heap.size+1+1,0,none⟩ (.slice none 0 0)).setCell ⟨w.heap.size+1+1,1,none⟩ (.int .i64 0)).setCell ⟨w.heap.size+1+1,2,none⟩ (.int .i64 0))/\Keeps G w (((W.setCell ⟨w.heap.size+1+1,0,none⟩ (.slice none 0 0)).setCell ⟨w.heap.size+1+1,1,none⟩ (.int .i64 0)).setCell ⟨w.heap.size+1+1,2,none⟩ (.int .i64 0)):=⟨aI,GI,V.fr hI λb hb=>(((Keeps.setCell (S:=λi=>i=w.heap.size+1+1) W ⟨w.heap.size+1+1,0,none⟩ (.slice none 0 0) rfl).trans (Keeps.setCell _ ⟨w.heap.size+1+1,1,none⟩ (.int .i64 0) (.inl rfl))).trans (Keeps.setCell _ ⟨w.heap.size+1+1,2,none⟩ (.int .i64 0) (.inl rfl))).block b (V.lt hI hb) (λe=>hGb (by have e':b=w.heap.size+1+1:=e;exact e'▸hb)),hkz⟩;obtain⟨HI,HGb,HI3,Hb,Hk,He,HRe,Hkz,Hb3⟩:=hid9 hI hGb hI3 hb hk he hRe hkz hb3;clear hb3 hkz hRe he hk hb hI3 hGb hI;go_wp2;refine Jy ?_;have r0:=Aa Hb3.o 0;have r1:=Aa Hb3.o 1;have r2:=Aa Hb3.o 2;clear d0 d1 d2;exact bodyPost_ret (v:= .tuple #[.agg #[.slice none 0 0,.int .i64 0,.int .i64 0],.slice none 0 0,.slice none 0 0,.int .i64 e]) (by simp [results,Tryz.results84,go_sem,r0,r1,r2]) rfl (.inr ⟨by rw [HRe.o];exact He.o,by rw [HRe.o],HI3.o⟩)
 ·intro hp0;rintro a' W ⟨hz0,s,aI,B,vS,u,rfl,hd,hp,hgs,hJs⟩;unfold wkFr;obtain⟨vl,vb,vr,g0,g1,S0,S1,vo,P,hri⟩:=hd.run;obtain⟨Gv,hrv,_,_,_⟩:=id hri;have hpr0:s.p.Bh=true:=by obtain⟨_,_,_,_,_,_,_,_,hs0,_⟩:=hp.sp;exact hs0.pr
  obtain⟨Z,hZ⟩:=eX (evR s.day ((sortL L).drop s.i) s.i s.p s.R);have hrok:=Ei (Hz.o.trans hz0);have hnum:=Fz hrok.tm;rw [Hn.o] at hnum;obtain⟨⟨l0,l1⟩,_⟩:=hnum;have hn1:n<=1000:=j8;have hev:=(Hf.o hz0).1 hri hn1 (by rw [Km,HN.o];exact hl) hp.i hpr0 Z hZ;have hbd:=lt_of_block hrv.blk;obtain⟨E,hE⟩:=eX Z.2.2.2;rw [hE] at hev;have hperr:=hp.err;rw [hZ,hE] at hperr;have hmeas:Df W B 9<td+1:=by rw [Dk (Aa hrv.blk 9)];have:=hp.dt;omega
  by_cases hE0:E=0
  ·subst hE0;obtain⟨sd,hsd⟩:=eX s.day;by_cases hday:s.day=td
   ·have hlast:=hp.last hday;rw [hZ,hE] at hlast;have hgl:=hgs.last hday;obtain⟨HJs,Hgs,Hgl,Hri,Hpr0,Hd,Hp,Hrv,HZ⟩:=hid9 hJs hgs hgl hri hpr0 hd hp hrv hZ;clear hZ hrv hp hd hpr0 hri hgl hgs hJs;obtain⟨Hev,HE,Hperr,Hlast,Hmeas,Hday,Hrok,L0⟩:=hid8 hev hE hperr hlast hmeas hday hrok l0;clear l0 hrok hday hmeas hlast hperr hE hev;go_wp2_with fail;refine(Hev.o).mono ?_;rintro e w1 ⟨rfl,vb',vr',a1,hea,hr1i⟩;obtain⟨G1,hr1,_,_,_⟩:=id hr1i;obtain⟨ab,cb,rfl⟩:∃a c,vb'= .slice a n c:=by obtain⟨a,c,h,_⟩:=Ae hr1.bal;exact⟨a,c,h⟩
    have hd1:=Hd.o.call hr1i;have hay:a1=y:=by rw [hea (by first|exact HE.o|trivial),Hgl.o]
    have c9:w1.cell? ⟨B,9,none⟩=some (.int .i64 sd):=by rw [<-hsd];exact Aa hr1.blk 9
    have bl:=lt_of_block hr1.blk;clear hea;obtain⟨Hr1,Hr1i,Hd1,Hay⟩:=hid4 hr1 hr1i hd1 hay;clear hay hd1 hr1i hr1;have hdI:(sd==td)=true:=by rw [<-hsd,Hday.o];simp
    go_wp2_with fail;obtain⟨pc,hpc⟩:=eX ((evSt s Z).p.cr);obtain⟨pd,hpd⟩:=eX ((evSt s Z).p.du)
    have hS1:w17S B (.slice ab n cb) pc pd vr' vo w1.drew:=by
     rw [<-hpc,<-hpd];exact(show w17S B (.slice ab n cb) (evSt s Z).p.cr (evSt s Z).p.du vr' vo w1 from⟨Aa Hr1.o.blk 10,Aa Hr1.o.blk 11,Aa Hr1.o.blk 12,Aa Hr1.o.blk 13,Aa Hr1.o.blk 16⟩).keep (S:=λ_=>False) (Keeps.drew _) (by simp)
    have hBX:¬B=w.heap.size+1+1:=λe=>Hr1.o.wB.2 (.inl (.inl e));obtain⟨Hpc,Hpd,HS1⟩:=hid3 hpc hpd hS1;clear hS1 hpd hpc;clear c9;refine Ak (w17S B (.slice ab n cb) pc pd vr' vo) (.take 0 (.take 1 (.take 2 (.take 3 (.take 4 (.take 5 (.take 6 (.take 7 (.take 8 (.take 9 (.take 10 (.take 11 (.move 12 (.take 13 (.take 14 (.take 15 .done)))))))))))))))) j9 j9 ?_ ?_
    ·exact HS1.o
    intro w2 hs2 hk2;have hd2:=Hd.o.call (Hr1i.o.keep0 hk2);have hr2:=Hr1.o.keep0 hk2;obtain⟨G2,hI2,hkG,hGb⟩:=hd2.keeps;have e0:=Ab hd2.pos 0;have e1:=Ab hd2.pos 1;have e2:=Ab hd2.pos 2;have d0:=Aa hd2.pos 0;have d1:=Aa hd2.pos 1;have d2:=Aa hd2.pos 2;have dl:=lt_of_block hd2.pos;refine jR ?_;have hkz:Keeps (λi=>i=w.heap.size+1+1) w2 (((w2.setCell ⟨w.heap.size+1+1,0,none⟩ (.slice ab n cb)).setCell ⟨w.heap.size+1+1,1,none⟩ (.int .i64 pc)).setCell ⟨w.heap.size+1+1,2,none⟩ (.int .i64 pd)):=((Keeps.setCell (S:=λi=>i=w.heap.size+1+1) _ _ _ rfl).trans (Keeps.setCell _ _ _ (.inl rfl))).trans (Keeps.setCell _ _ _ (.inl rfl));have hb3:(((w2.setCell ⟨w.heap.size+1+1,0,none⟩ (.slice ab n cb)).setCell ⟨w.heap.size+1+1,1,none⟩ (.int .i64 pc)).setCell ⟨w.heap.size+1+1,2,none⟩ (.int .i64 pd)).heap[w.heap.size+1+1]?=some (.cells #[.slice ab n cb,.int .i64 pc,.int .i64 pd] 51 (0,0)):=(heap_setCell_same _ _ 2 _ _ _ ((heap_setCell_same _ _ 1 _ _ _ ((heap_setCell_same _ _ 0 _ _ _ hd2.pos).trans rfl)).trans rfl)).trans rfl;have hres:=Ack hr2 hkz (.inl (.inl rfl)) j6 hkG;have hI3:=V.fr hI2 λb hb=>hkz.block b (V.lt hI2 hb) (λe=>hGb (by have e':b=w.heap.size+1+1:=e;exact e'▸hb));obtain⟨Hkz,Hb3,Hres,Hr2,Hd2,Hk2,HI2,HkG,HGb⟩:=hid9 hkz hb3 hres hr2 hd2 hk2 hI2 hkG hGb;clear hGb hkG hI2 hk2 hd2 hr2 hres hb3 hkz;have HI3:=Lib.hid hI3;clear hI3;refine ja ?_;intro K hK;refine hK.out _ _ (by exact hs2.keep Hkz.o hBX) ?_;clear hK K;refine jk ?_;clear d0 d1 d2 e0 e1 e2 hs2;go_wp2;refine Jy ?_;have r0:=Aa Hb3.o 0;have r1:=Aa Hb3.o 1;have r2:=Aa Hb3.o 2;exact bodyPost_ret (v:= .tuple #[.agg #[.slice ab n cb,.int .i64 pc,.int .i64 pd],vr',vo,.int .i64 0]) (by simp [results,Tryz.results84,go_sem,r0,r1,r2]) rfl (.inl ⟨by rw [Hlast.o],.slice ab n cb,vr',vo,P,G2,by rw [Hlast.o,<-Hpc.o,<-Hpd.o],by rw [Hlast.o];exact Hres.o,by rw [<-Hay.o];exact HI3.o⟩)
   ·obtain⟨fr,te,hget,hsok,hst1,hfr,hte,hlt,hg1,hg2,hg3⟩:=hp.go (by rw [hZ];exact hE) hday hrok.tm Hn.o;have hgg:=hgs.go (by rw [hZ];exact hE) (by have:=hp.dt;omega) hget;rw [hZ] at hst1 hg1 hg2 hg3 hgg;rw [hsd] at hg1 hg2 hg3 hfr hte;have hsd0: -135140<=sd:=by have:=hsok.lo;omega
    have hsd1:sd<=2932896:=by have:=hsok.hi;omega
    obtain⟨_,_,_,_,hsok0,_,hfr0,hte0,hs0,_⟩:=hp.sp;have hlen0:∀r∈(evSt s Z).e0,r.length<=100000:=λr hr=>by have:=(hs0.m0 r hr).1;have:=hsok0.sh;omega
    have hlen1:∀r∈(evSt s Z).e1,r.length<=100000:=λr hr=>by have:=(hs0.m1 r hr).1;have:=hsok0.sh;omega
    obtain⟨g,o,cS,hvS,_⟩:=(Reads.Bg hd.row).elem (f:=spc) (size:=2) (λp=>rfl) hget j7;subst hvS;obtain⟨s2,hs2⟩:=eX (endSt (evSt s Z) n n);have hs2d:s2.day=sd:=by rw [<-hs2];exact hsd
    have hs2o:s2.out=s.out:=by rw [<-hs2];rfl
    rw [hs2] at hst1 hg1 hg2 hg3;obtain⟨C,hC⟩:=eX (Fs t (sortL L) n s2 fr te);rw [hC] at hg2 hg3;have hdI:(sd==td)=false:=beq_eq_false_iff_ne.2 (by rw [<-hsd];exact hday);obtain⟨mA,hmA⟩:=eX A.length;rw [hmA] at hlt hd hrv hev⊢;obtain⟨mo,hmo⟩:=eX P.length;obtain⟨av,cv,rfl⟩:∃a c,vo= .slice a mo c:=by obtain⟨a,c,h,_⟩:=Ae hrv.out;rw [hmo] at h;exact⟨a,c,h⟩
    have hmo2:s.out.length=mo:=by rw [<-hrv.lp,List.length_map];exact hmo
    rw [hmo2] at hlt hget;have hltI:(mo:Int)<(mA:Int):=j8;have hmA3:mA<=300:=by rw [<-hmA,<-hA];exact Acc _ _ _
    obtain⟨HJs,Hgs,Hgg,Hri,Hpr0,Hd,Hp,Hrv,HZ⟩:=hid9 hJs hgs hgg hri hpr0 hd hp hrv hZ;clear hZ hrv hp hd hpr0 hri hgg hgs hJs;obtain⟨Hev,HE,Hperr,Hmeas,Hday,Hrok,L0,Hget,Hsok⟩:=hid9 hev hE hperr hmeas hday hrok l0 hget hsok;clear hsok hget l0 hrok hday hmeas hperr hE hev;obtain⟨Hst1,Hfr,Hte,Hg1,Hg2,Hg3,Hs0,Hsok0,Hfr0⟩:=hid9 hst1 hfr hte hg1 hg2 hg3 hs0 hsok0 hfr0;clear hfr0 hsok0 hs0 hg3 hg2 hg1 hte hfr hst1;obtain⟨Hte0,Hlen0,Hlen1,Hs2,Hs2d,Hs2o,HC,HmA,Hmo⟩:=hid9 hte0 hlen0 hlen1 hs2 hs2d hs2o hC hmA hmo;clear hmo hmA hC hs2o hs2d hs2 hlen1 hlen0 hte0;have Hmo2:=Lib.hid hmo2;clear hmo2;go_wp2_with fail;refine(Hev.o).mono ?_;rintro e w1 ⟨rfl,vb',vr',a1,hea,hr1i⟩;have hae:=hea (by first|exact HE.o|trivial);obtain⟨G1,hr1,_,_,_⟩:=id hr1i;have c9:w1.cell? ⟨B,9,none⟩=some (.int .i64 sd):=by rw [<-hsd];exact Aa hr1.blk 9
    have bl:=lt_of_block hr1.blk;have hend:=(Hf.o hz0).2.1 hr1i.self hn1 Hlen0.o Hlen1.o (by have:=Hst1.o.pr;rw [<-Hs2.o] at this;exact this) (by rw [hae];exact Zd HGJ.o _ _ _ _ _ HJs.o) (by show -135140<=s.day;rw [hsd];exact hsd0) (by show s.day<=2932896;rw [hsd];exact hsd1);rw [Hs2.o] at hend;clear hea;obtain⟨Hr1,Hr1i,Hend,Hae⟩:=hid4 hr1 hr1i hend hae;clear hae hend hr1i hr1;go_wp2_with fail;refine(Hend.o).mono ?_;rintro e w2 ⟨rfl,S0',S1',hr2i⟩;have hd2:=(Hd.o.call Hr1i.o).call hr2i;obtain⟨G2,hr2,_,_,_⟩:=id hr2i;obtain⟨g',o',c',he',hc'⟩:=(Reads.Bg hd2.row).elem (f:=spc) (size:=2) (λp=>rfl) Hget.o j7;rw [HmA.o] at he';simp only [Value.slice.injEq,true_and,Option.some.injEq,Addr.mk.injEq,and_true] at he';obtain⟨⟨rfl,rfl⟩,rfl⟩:=he';have x0:w2.cell? ⟨g,o+mo*2,none⟩=some (.int .i64 fr):=hc' 0 j7;have x1:w2.cell? ⟨g,o+mo*2+1,none⟩=some (.int .i64 te):=hc' 1 j7;have c16:=Aa hr2.blk 16;have bl2:=lt_of_block hr2.blk;obtain⟨sx,sy,hsn⟩:=hd2.spn;have d0:=Aa hsn 0;have d1:=Aa hsn 1;have e0:=Ab hsn 0;have e1:=Ab hsn 1;have dl:=lt_of_block hsn;obtain⟨hd3,hsn3⟩:=hd2.span fr te;clear c9 bl hc';obtain⟨Hr2,Hr2i,Hd2,Hsn,Hd3,Hsn3⟩:=hid6 hr2 hr2i hd2 hsn hd3 hsn3;clear hsn3 hd3 hsn hd2 hr2i hr2;go_wp2_with fail;clear x0 x1 c16 bl2 d0 d1 e0 e1 dl;obtain⟨w3,hw3⟩:=eY ((w2.setCell ⟨w.heap.size+1+1+1,0,none⟩ (.int .i64 fr)).setCell ⟨w.heap.size+1+1+1,1,none⟩ (.int .i64 te));rw [<-hw3] at Hd3 Hsn3⊢;clear hw3
    have hS3:w20S (w.heap.size+1+1+1) B te sd w3.drew:=⟨Aa Hsn3.o 1,by
     obtain⟨_,_,_,_,_,_,_,_,_,_,h,_⟩:=Hd3.o.run
     rw [<-Hs2d.o];exact Aa h.blk 9⟩
    have HS3:=Lib.hid hS3;clear hS3;refine Ak (w20S (w.heap.size+1+1+1) B te sd) (.take 0 (.take 1 (.take 2 (.take 3 (.take 4 (.take 5 (.take 6 .done))))))) j9 j9 ?_ ?_
    ·exact HS3.o
    intro w4 hs4 hk4;refine jm ?_;have hd4:=Hd3.o.keep0 hk4;have hsn4:=Ad Hsn3.o hk4 (by simp);have hcs:Df W B 9=sd:=by rw [<-hsd];exact Dk Hd.o.c9.1
    clear hs4;by_cases hte0:te=sd
    ·have hteI:(te==sd)=true:=by simp [hte0]
     have d0:=Aa hsn4 0;have d1:=Aa hsn4 1;have dl:=lt_of_block hsn4;obtain⟨vl4,vb4,vr4,g40,g41,S40,S41,vo4,P4,hr4i⟩:=hd4.run;have hst2:=Hst1.o;have hle40:(s.day-fr).toNat+1<=40000:=by have:=Hsok.o.sh;have:=Hte.o;rw [hsd];omega
     have hcl:=(Hf.o hz0).2.2 hr4i Hrok.o.tm Hn.o (by rw [Km,HN.o];exact hl) (λx hx=>evErr_amt (Hrok.o.ev x ((Pb L).2.mem hx))) hst2.pr hst2.rt (λr hr=>(hst2.m0 r hr).2) (λr hr=>(hst2.m1 r hr).2) (hst2.lens hle40) (by rw [Hs2o.o,Hmo2.o];omega) fr te ⟨Hsok.o.lo,Hsok.o.le,Hsok.o.hi⟩ C HC.o;rcases C with _|s'
     ·have hR5:=Hg2.o hte0 rfl;obtain⟨Hd4,Hsn4,Hcs,Hr4i,Hst2,Hle40,Hcl,HR5,Hte0⟩:=hid9 hd4 hsn4 hcs hr4i hst2 hle40 hcl hR5 hte0;clear hte0 hR5 hcl hle40 hst2 hr4i hcs hsn4 hd4;go_wp2_with fail;refine(Hcl.o).mono ?_;rintro e w5 ⟨rfl,hr5⟩;have hd5:=Hd4.o.call hr5;obtain⟨Hr5,Hd5⟩:=hid2 hr5 hd5;clear hd5 hr5;go_wp2_with fail;go_step3;go_wp2;refine Tg ⟨wkJ0.mk 5 rfl Hd5.o.pos ⟨_,Hd5.o.keeps⟩ j7 HR5.o, ?_⟩;show _<td+1;exact Hmeas.o
     ·have hp5:=Hg3.o hte0 s' rfl;obtain⟨_,c2,_,hs5⟩:=Re Hrok.o.tm Hn.o hst2 HC.o;have hg5:=Hgg.o.2 (by rw [hsd];exact hte0) s' (by rw [Hs2.o];exact HC.o) (by rw [c2,Hs2o.o]);have hae':=Hae.o;rw [hsd] at hae';rw [Hs2.o,hsd,<-hae'] at hg5;have hJ5:=HGJ.o.cl _ _ s2 s' (HGJ.o.day _ _ (evSt s Z).p (Zd HGJ.o s.day ((sortL L).drop s.i) s.p s.R aI HJs.o));rw [hsd,<-hae'] at hJ5;rw [Hs2d.o] at hs5;obtain⟨Hd4,Hsn4,Hcs,Hr4i,Hst2,Hle40,Hcl,Hp5,Hte0⟩:=hid9 hd4 hsn4 hcs hr4i hst2 hle40 hcl hp5 hte0;clear hte0 hp5 hcl hle40 hst2 hr4i hcs hsn4 hd4;obtain⟨Hs5,Hg5,HJ5⟩:=hid3 hs5 hg5 hJ5;clear hJ5 hg5 hs5;go_wp2_with fail;refine(Hcl.o).mono ?_;rintro e w5 ⟨rfl,vb5,g50,g51,vo5,P5,hr5⟩;have hd5:=Hd4.o.call hr5;obtain⟨c9,f9,bl9⟩:=hd5.c9;rw [Hs5.o] at c9;have hd6:=hd5.day (sd+1);clear d0 d1 dl;obtain⟨Hr5,Hd5,Hd6⟩:=hid3 hr5 hd5 hd6;clear hd6 hd5 hr5;exact j41
    ·have hteI:(te==sd)=false:=beq_eq_false_iff_ne.2 hte0;have hp5:=Hg1.o hte0;have hg5:=Hgg.o.1 (by rw [hsd];exact hte0);have hae':=Hae.o;rw [hsd] at hae';rw [Hs2.o,hsd,<-hae'] at hg5;have hJ5:=HGJ.o.day _ _ (evSt s Z).p (Zd HGJ.o s.day ((sortL L).drop s.i) s.p s.R aI HJs.o);rw [hsd,<-hae'] at hJ5;obtain⟨c9,f9,bl9⟩:=hd4.c9;rw [Hs2d.o] at c9;have hd6:=hd4.day (sd+1);obtain⟨Hd4,Hsn4,Hcs,Hp5,Hte0,Hd6,Hg5,HJ5⟩:=hid8 hd4 hsn4 hcs hp5 hte0 hd6 hg5 hJ5;clear hJ5 hg5 hd6 hte0 hp5 hcs hsn4 hd4;exact j41
  ·have hEb:(E==0)=false:=beq_eq_false_iff_ne.2 hE0;obtain⟨HJs,Hgs,Hri,Hpr0,Hd,Hp,Hrv,HZ,Hev⟩:=hid9 hJs hgs hri hpr0 hd hp hrv hZ hev;clear hev hZ hrv hp hd hpr0 hri hgs hJs;obtain⟨HE,Hperr,HE0,Hmeas,Hrok,L0⟩:=hid6 hE hperr hE0 hmeas hrok l0;clear l0 hrok hmeas hE0 hperr hE;go_wp2_with fail;refine(Hev.o).mono ?_;rintro e w1 ⟨rfl,vb',vr',a1,_,hr1⟩;have hd1:=Hd.o.call hr1;obtain⟨Hr1,Hd1⟩:=hid2 hr1 hd1;clear hd1 hr1;go_wp2_with fail;go_step3;go_wp2;refine Tg ⟨wkJ0.mk E rfl Hd1.o.pos ⟨_,Hd1.o.keeps⟩ HE0.o (Hperr.o HE0.o), ?_⟩;show _<td+1;exact Hmeas.o
 ·intro hp1;go_wp2_with fail;rw [<-hw4];clear hw4;have hS5:=HS4.o w4.drew (Keeps.drew _);have HS5:=Lib.hid hS5;clear hS5;refine Ak (wkS w.heap.size t (.slice adt n ct) f0 f1 f2) (.take 0 (.take 1 (.take 3 (.take 4 (.take 5 (.move 2 (.take 6 (.move 7 (.take 8 .done))))))))) j9 j9 ?_ ?_
  ·exact HS5.o
  intro w5 hs5 hk5;refine j21 ?_;have hk5w:=Hk4.o.nt hk5;refine ja ?_;intro K hK
  go_at_call 101
  ((with_reducible refine(Hsrt.o _ hk5w).mono ?_);rintro e w6 ⟨vl,rfl,hrl,hk6,hnl⟩;dsimp only)
  obtain⟨al,cl,rfl⟩:∃a c,vl= .slice a N c:=by obtain⟨a,c,h,_⟩:=Ae hrl;rw [HN.o] at h;exact⟨a,c,h⟩
  refine hK.out _ _ (by exact hs5.keep hk6) ?_;clear hK K;refine jc ?_;refine j21 ?_;refine ja ?_;intro K hK;refine hK.out _ _ (by exact(hs5.keep hk6).keep (Keeps.alloc _ _)) ?_;clear hK K;refine jc ?_;refine j21 ?_;refine Aq ?_;have hk7:=(hk5w.nt hk6).Af (o:= .cells #[.int .i64 t.limit,.slice adt n ct,.int .i64 t.cyc,.int .i64 t.due,.int .i64 t.minFixed,.int .i64 t.minPart,.int .i64 t.start,.slice al N cl,.int .i64 0,.int .i64 t.start,.slice none 0 0,.int .i64 0,.int .i64 0,.slice none 0 0,.slice none 0 0,.slice none 0 0,.slice none 0 0,f0,f1,f2] 203);have hb7:=heap_alloc_new w6 (.cells #[.int .i64 t.limit,.slice adt n ct,.int .i64 t.cyc,.int .i64 t.due,.int .i64 t.minFixed,.int .i64 t.minPart,.int .i64 t.start,.slice al N cl,.int .i64 0,.int .i64 t.start,.slice none 0 0,.int .i64 0,.int .i64 0,.slice none 0 0,.slice none 0 0,.slice none 0 0,.slice none 0 0,f0,f1,f2] 203);have hr7:=hrl.alloc (.cells #[.int .i64 t.limit,.slice adt n ct,.int .i64 t.cyc,.int .i64 t.due,.int .i64 t.minFixed,.int .i64 t.minPart,.int .i64 t.start,.slice al N cl,.int .i64 0,.int .i64 t.start,.slice none 0 0,.int .i64 0,.int .i64 0,.slice none 0 0,.slice none 0 0,.slice none 0 0,.slice none 0 0,f0,f1,f2] 203);have hk47:K0 w4 _:=(hk5.nt hk6).Af (o:= .cells #[.int .i64 t.limit,.slice adt n ct,.int .i64 t.cyc,.int .i64 t.due,.int .i64 t.minFixed,.int .i64 t.minPart,.int .i64 t.start,.slice al N cl,.int .i64 0,.int .i64 t.start,.slice none 0 0,.int .i64 0,.int .i64 0,.slice none 0 0,.slice none 0 0,.slice none 0 0,.slice none 0 0,f0,f1,f2] 203);have hBw:w.heap.size<=w6.heap.size:=(hk5w.nt hk6).size;have hBn:w6.heap.size≠w.heap.size:=by have:=lt_of_block Hp4.o;have:=(hk5.nt hk6).size;omega
  have hnl':∀g,(Value.slice al N cl).ownBlock=some g->w.heap.size<=g:=λg hg=>by have:=hnl g hg;have:=hk5w.size;omega
  obtain⟨w7,hw7⟩:=eY (w6.alloc (.cells #[.int .i64 t.limit,.slice adt n ct,.int .i64 t.cyc,.int .i64 t.due,.int .i64 t.minFixed,.int .i64 t.minPart,.int .i64 t.start,.slice al N cl,.int .i64 0,.int .i64 t.start,.slice none 0 0,.int .i64 0,.int .i64 0,.slice none 0 0,.slice none 0 0,.slice none 0 0,.slice none 0 0,f0,f1,f2] 203));rw [<-hw7] at hk7 hb7 hr7 hk47⊢;obtain⟨B,hB⟩:=eY w6.heap.size;rw [<-hB] at hb7 hBw hBn⊢;clear hB hw7 hs5 hk5 hk5w hk6 hrl hnl;obtain⟨b0,b1,b2,b3,b4,b5,b6⟩:=(HS4.o w7 hk47).1;have bbl:=Ai b0;have hp7:=Ad Hp4.o hk47 (by simp);have hs7:=Ad Hs4.o hk47 (by simp);obtain⟨Hk7,Hb7,Hr7,Hk47,Hnl',Hp7,Hs7⟩:=hid7 hk7 hb7 hr7 hk47 hnl' hp7 hs7;clear hs7 hp7 hnl' hk47 hr7 hb7 hk7;go_wp2_with fail;refine(Hrgt.o _ Hk7.o).mono ?_;rintro e w8 ⟨rfl,hk8⟩;by_cases hz0:z=0
  ·have hrok:=Ei (Hz.o.trans hz0);have hnum:=Fz hrok.tm;rw [Hn.o] at hnum;obtain⟨⟨l0,l1⟩,_,_,_,_,_,⟨sa,sb⟩⟩:=hnum;have hzI:(z==0)=true:=by simp [hz0]
   have hall:=λW=>Adv t.start t.cyc td W j6;rw [hA] at hall;clear b0 b1 b2 b3 b4 b5 b6 bbl;obtain⟨b0,b1,b2,b3,b4,b5,b6⟩:=(HS4.o w8 (Hk47.o.nt hk8)).1;have bbl:=Ai b0;obtain⟨Hk8,Hall,Hrok,Hz0⟩:=hid4 hk8 hall hrok hz0;clear hz0 hrok hall hk8;go_wp2_with fail;refine(Hall.o _).mono ?_;rintro e w9 ⟨vS,rfl,hrow,hk9,hnS⟩;clear b0 b1 b2 b3 b4 b5 b6 bbl;have hk89:=Hk8.o.nt hk9;have hb9:=Ad Hb7.o hk89 (by simp);obtain⟨b0,b1,b2,b3,b4,b5,b6⟩:=(HS4.o w9 (Hk47.o.nt hk89)).1;have bbl:=Ai b0;have c10:=Aa hb9 10;have f10:=Ab hb9 10;have bl9:=lt_of_block hb9;obtain⟨i0,hi,hi0,hi1,hi2⟩:=info_parts Gw;refine j1q ?_;intro hmk;simp only [Int.toNat_natCast,hi1,Nat.mul_one] at hmk;obtain⟨Y,hY⟩:=eY (madeCells (Value.int IntKind.i64 0).cells n);rw [<-hY] at hmk;obtain⟨Hi,Hi0,Hi1,Hi2,HY,Hrow,Hk9,HnS,Hk89⟩:=hid9 hi hi0 hi1 hi2 hY hrow hk9 hnS hk89;clear hk89 hnS hk9 hrow hY hi2 hi1 hi0 hi;have Hb9:=Lib.hid hb9;clear hb9;go_wp2
   have hpre:PreR w B (w.heap.size+1+1) (w.heap.size+1+1+1) t n (.slice adt n ct) (sortL L) A vS (.slice al N cl) (.slice (some ⟨w9.heap.size,0,none⟩) n n) f0 f1 f2 (.slice none 0 0) 0 ((w9.setCell ⟨B,10,none⟩ (.slice (some ⟨w9.heap.size,0,none⟩) n n)).alloc (.cells Y 2)):=by
    have hl8:w.heap.size+1+1+1<w8.heap.size:=by have:=lt_of_block Hs7.o;have:=Hk8.o.size;omega
    rw [HY.o,<-World.setCell_alloc_past _ _ _ _ bl9];exact PreR.start Hb9.o (HS4.o w9 (Hk47.o.nt Hk89.o)).1 (by rw [Km];exact Hr7.o.of_keeps Hk89.o) (Ad Hp7.o Hk89.o (by simp)) (Ad Hs7.o Hk89.o (by simp)) Hrow.o ⟨by omega,by omega,hBw,λg hg=>by have:=HnS.o g hg;omega⟩ (λg hg=>by have:=HnS.o g hg;omega) Hnl'.o jd hBn (Hk7.o.nt Hk89.o)
   obtain⟨W0,hW0⟩:=eY ((w9.setCell ⟨B,10,none⟩ (.slice (some ⟨w9.heap.size,0,none⟩) n n)).alloc (.cells Y 2));rw [<-hW0] at hpre⊢;clear hW0;obtain⟨vb,hvb⟩:=eY (Value.slice (some ⟨w9.heap.size,0,none⟩) n n);rw [<-hvb] at hpre;clear hvb b0 b1 b2 b3 b4 b5 b6 bbl c10 f10 bl9 hmk;have Hpre:=Lib.hid hpre;clear hpre
   go_loopw [49] (λx wx=>∃(k:Nat) (vr:Value),x= .int .i64 (k:Nat)/\k<=n/\PreR w B (w.heap.size+1+1) (w.heap.size+1+1+1) t n (.slice adt n ct) (sortL L) A vS (.slice al N cl) vb f0 f1 f2 vr k wx) (λx _=>n-(intOf x).toNat)
   case atStart=>exact⟨0,_,rfl,Nat.zero_le _,Hpre.o⟩
   case round=>
    obtain⟨k,vr,rfl,hkn,hpr⟩:=hrel;obtain⟨wq,hwq⟩:=eY wr;subst hwq;obtain⟨ar,cr,rfl⟩:∃a c,vr= .slice a k c:=by obtain⟨a,c,h,_⟩:=Ae hpr.rts;exact⟨a,c,h⟩
    by_cases hlt:k<n
    ·have hltI:(k:Int)<(n:Int):=j8;obtain⟨x,hx⟩:=Ar (L:=t.trs) (k:=k) j06;obtain⟨g,o,c',he,hc⟩:=(Htr.o.keeps hpr.kp (by simp)).elem Tn.Aj hx j7;simp only [Value.slice.injEq,true_and] at he;obtain⟨rfl,rfl⟩:=he;obtain⟨xr,xg⟩:=x;have x0:wq.cell? ⟨g,o+k*2,none⟩=some (.int .i64 xr):=hc 0 j7;have x1:wq.cell? ⟨g,o+k*2+1,none⟩=some (.bool xg):=hc 1 j7;clear hc;obtain⟨w10,hw10⟩:=eY (wq.alloc (.cells #[.int .i64 xr,.bool xg] 39));have hpr1:=hpr.keep0 (Keeps.alloc wq (.cells #[.int .i64 xr,.bool xg] 39));rw [<-hw10] at hpr1;have hqB:=lt_of_block hpr.blk;have hqr:¬(Value.slice ar k cr).ownBlock=some wq.heap.size:=λe=>by have:=Ch hpr.rts e;omega
     have hS1:r11S B wq.heap.size (.slice ar k cr) xr w10.drew:=(show r11S B wq.heap.size (.slice ar k cr) xr w10 from⟨Aa hpr1.blk 13,by rw [hw10];exact Aa (heap_alloc_new wq (.cells #[.int .i64 xr,.bool xg] 39)) 0⟩).keep (S:=λ_=>False) (Keeps.drew _) (by simp) (by simp);obtain⟨Hx,Hpr,Hpr1,HS1⟩:=hid4 hx hpr hpr1 hS1;clear hS1 hpr1 hpr hx;go_wp2_with fail;rw [<-hw10];clear hw10 x0 x1;obtain⟨b9,hb9e⟩:=eY wq.heap.size;rw [<-hb9e] at HS1 hqr hqB⊢;have Hb9e:=Lib.hid hb9e;clear hb9e;refine Cz (r11S B b9 (.slice ar k cr) xr) 11 (.take 0 (.take 1 (.take 2 (.take 3 (.take 4 (.take 5 (.take 6 (.move 7 (.move 8 (.move 9 (.move 10 (.move 11 .done)))))))))))) j9 j9 ?_ ?_
     ·exact HS1.o
     intro w11 hs11 hk11;refine je ?_;intro K hK;refine hK.out _ _ (by exact hs11.keep (S:=λ_=>False) (Keeps.alloc _ _) (by simp) (by simp)) ?_;clear hK K;refine jh ?_;have hk11a:=hk11.nt (Keeps.alloc w11 (.cells #[.int .i64 xr] 2));have hpr2:=Hpr1.o.keep0 hk11a;have hrt2:=hpr2.rts;refine Ag rfl (λK hK=> ?_);refine Cc rfl (.tmp 57) (.tmp 60) 49 rfl 0 2 i0 _ 1 8 Tryz.underlying49 Hi.o Hi0.o Hi1.o Hi2.o rfl j7 (.slice ar k cr) k _ rfl hrt2 _ 1 _ rfl (Reads.litAt _ _ _ 1 1 _ jr rfl) jf jd j6 (Nat.zero_le _) ?_;intro v12 w12 hown12 hk12 hf12;obtain⟨a12,c12,rfl,_,_⟩:=Ae hown12;have hxr:(t.trs.map Tn.rate)[k]?=some xr:=by rw [List.getElem?_map,Hx.o];rfl
     have happ:=hpr2.app hBn hxr hk12 (by rw [List.flatMap_append];exact hown12) hf12;have hB12:=Ad hpr2.blk hk12 (λe=>Ah hrt2 hpr2.blk j7 e);have o13:=Aa hB12 13;have f13:=Ab hB12 13;have l13:=lt_of_block hB12;refine hK.out _ _ (by exact(hs11.keep (S:=λ_=>False) (Keeps.alloc _ _) (by simp) (by simp)).keep hk12 (λe=>Ah hrt2 hpr2.blk j7 e) hqr) ?_;clear hK K;refine jc ?_;obtain⟨Hk11a,Hpr2,Hrt2,Hown12,Hk12,Hxr,Happ,HB12,Hk11⟩:=hid9 hk11a hpr2 hrt2 hown12 hk12 hxr happ hB12 hk11;clear hk11 hB12 happ hxr hk12 hown12 hrt2 hpr2 hk11a;clear hs11 hf12
     repeat (refine Ej (v:= ?_) rfl (by rfl) ?_ ?_;rotate_left;(· intro w' hSw;unfold r11S at hSw;go_simp;(try with_reducible rfl));rotate_right;try simp only [aps])
     refine j07 ?_;clear o13 f13 l13;exact j3f
    ·obtain rfl:n=k:=by omega
     have hfr0:=Yi hpr.blk j6
     have hne:t.trs.flatMap Tn.cells≠ []:=λe=>by
      have h1:=congrArg List.length e;rw [Rv t.trs,Hn.o] at h1;simp at h1;omega
     have hvb:∀b,(Value.slice adt n ct).ownBlock=some b->b<w.heap.size:=λb hb=>by
      obtain⟨g,hg,hl⟩:=Htr.o.lt hne;rw [hg] at hb;injection hb with hb;omega
     have hps:=DayP.start (Hz.o.trans Hz0.o) Hn.o;rw [hA,HR.o] at hps;have hgs0:DayS γ t (sortL L) n td A (st0 t) a0 y:=by rw [<-Hy.o,<-hA,<-Hn.o];exact rfl
     obtain⟨Hpr,Hfr0,Hne,Hvb,Hps,Hgs0⟩:=hid6 hpr hfr0 hne hvb hps hgs0;clear hgs0 hps hvb hne hfr0 hpr;go_wp2_with fail;refine Hfr0.o.mono ?_;rintro e w12 ⟨rfl,a,b,hBb,ha,hb,la,lb,hab,hk⟩;have hday:=Hpr.o.fin HI0.o (λb hb=>HG0.o (Hz.o.trans Hz0.o) b (by cases adt with|none=>cases hb|some x=>exact hb)) Hn.o Htr.o Hvb.o hBb ha hb la lb hab hk;obtain⟨Hday,HBb,Ha,Hb,La,Lb,Hab,Hk⟩:=hid8 hday hBb ha hb la lb hab hk;clear hk hab lb la hb ha hBb hday;go_wp2_with fail;go_step3;rename_i hK;refine hK _ _ ?_;refine hp1.out _ _ ?_;exact wkJ1.mk (st0 t) a0 B vS (by first|exact Hz0.o|rfl) rfl Hday.o Hps.o Hgs0.o (HJ0.o (Hz.o.trans Hz0.o))
  ·have hzI:(z==0)=false:=beq_eq_false_iff_ne.2 hz0;have hR2:R.2=z:=by have:=HR'.o;rw [if_neg hz0] at this;rw [<-this]
   obtain⟨Hk8,Hz0,HR2⟩:=hid3 hk8 hz0 hR2;clear hR2 hz0 hk8;go_wp2_with fail;go_step3;go_wp2;refine Tg (wkJ0.mk z rfl (Ad Hp7.o Hk8.o (by simp)) ⟨a0,G0,V.fr HI0.o (λb hb=>(Hk7.o.nt Hk8.o).block b (V.lt HI0.o hb) (by simp)),(Hk7.o.nt Hk8.o).mono (by simp),λe=>by have:=V.lt HI0.o e;omega⟩ Hz0.o HR2.o)
theorem Aam(t:Tm)(adt:Option Addr)(ct n:Nat)(L:List Ev)(ad:Option Addr)(cap N:Nat)(td:Int)(f0 f1 f2:Value)(w:World)(hn:t.trs.length=n)(htr:Reads w 2 (.slice adt n ct) n (t.trs.flatMap Tn.cells))(hN:L.length=N)(hr:Reads w 5 (.slice ad N cap) N (L.flatMap Ev.cells))(hl:N<=1000000)(htl:n<=1000000)
  (hf:Dj t L td=0->f0= .nilFunc/\f1= .nilFunc/\f2= .nilFunc):
  Calls Tryz.prog 84 #[.agg #[.int .i64 t.limit,.slice adt n ct,.int .i64 t.cyc,.int .i64 t.due,.int .i64 t.minFixed,.int .i64 t.minPart,.int .i64 t.start],.slice ad N cap,.int .i64 td,.agg #[f0,f1,f2]] w (Vf w n (walkR t L td)):=by
 refine(Aal wt0 ⟨λa _ _ _=>a,λa _=>a,λa _ _=>a⟩ (λ_ _=>True) ⟨λ_ _ _ _ _ h=>h,λ_ _ _ h=>h,λ_ _ _ _ h=>h⟩ () (λ_=>False) t adt ct n L ad cap N td f0 f1 f2 w hn htr hN hr hl htl (λhz=> ?_) (λ_=>trivial) (λ_ h=>h) (λ_ _ _ h=>h)).mono ?_
 ·obtain⟨rfl,rfl,rfl⟩:=hf hz;exact⟨evOk_nil _ (λ_ _ _ _=>rfl) _ _ _,endOk_nil wt0 (λ_ _=>True) (λ_ _=>rfl) _ _ _,clOk_nil _ (λ_ _ _=>rfl) _ _ _⟩
 ·rintro e w' (⟨hz,vb,vr,vo,P,G,rfl,hres,hI⟩|⟨hz,rfl,a,G,hI,hk⟩)
  ·exact .inl ⟨hz,vb,vr,vo,P,rfl,{ hres with kp:=hres.kp.mono λi _ h=>absurd h (hI i) }⟩
  ·exact .inr ⟨hz,rfl,hk.mono λi _ h=>absurd h (hI i)⟩
theorem En.lift{w w2 w' w'':World}{n:Nat}{s:St}{vb vr vo:Value}{P:List SV}{b8:Nat}(h:En w2 n s vb vr vo P w')(hk:Keeps (λi=>i=b8) w' w'')(hb:b8<w2.heap.size)(hkw:K0 w w2)(hwb:w.heap.size<=b8):En w n s vb vr vo P w'' where
 bal:=hk.row h.bal λb hb' e=>by have e':b=b8:=e;have:=h.wb b hb';omega
 rts:=hk.row h.rts λb hb' e=>by have e':b=b8:=e;have:=h.wr b hb';omega
 out:=hk.row h.out λb hb' e=>by have e':b=b8:=e;have:=h.wo b hb';omega
 ln:=λx hx=>hk.row (h.ln x hx) λb hb' e=>by have e':b=b8:=e;have:=h.wl x hx b hb';omega
 lp:=h.lp
 nb:=h.nb
 nr:=h.nr
 wb:=λb hb'=>by have:=h.wb b hb';have:=hkw.size;omega
 wr:=λb hb'=>by have:=h.wr b hb';have:=hkw.size;omega
 wo:=λb hb'=>by have:=h.wo b hb';have:=hkw.size;omega
 wl:=λx hx b hb'=>by have:=h.wl x hx b hb';have:=hkw.size;omega
 kp:=(hkw.nt h.kp).trans (hk.mono λi _ e=> .inr (by have e':i=b8:=e;omega))
theorem Pe(t:Tm)(adt:Option Addr)(ct n:Nat)(L:List Ev)(ad:Option Addr)(cap N:Nat)(td:Int)(w:World)(hn:t.trs.length=n)(htr:Reads w 2 (.slice adt n ct) n (t.trs.flatMap Tn.cells))(hN:L.length=N)(hr:Reads w 5 (.slice ad N cap) N (L.flatMap Ev.cells))(hl:N<=1000000)(htl:n<=1000000):
  Calls Tryz.prog 52 #[.agg #[.int .i64 t.limit,.slice adt n ct,.int .i64 t.cyc,.int .i64 t.due,.int .i64 t.minFixed,.int .i64 t.minPart,.int .i64 t.start],.slice ad N cap,.int .i64 td] w (Vf w n (walkR t L td)):=by
 obtain⟨R,hR⟩:=eX (walkR t L td);have hwk:=λW (hW:K0 w W)=>Aam t adt ct n L ad cap N td .nilFunc .nilFunc .nilFunc W hn (htr.keeps hW (by simp)) hN (hr.keeps hW (by simp)) hl htl (λ_=>⟨rfl,rfl,rfl⟩);rw [hR] at hwk⊢;obtain⟨w2,hw2⟩:=eY ((w.alloc (.cells #[.int .i64 t.limit,.slice adt n ct,.int .i64 t.cyc,.int .i64 t.due,.int .i64 t.minFixed,.int .i64 t.minPart,.int .i64 t.start] 26)).alloc (.cells #[.slice none 0 0,.int .i64 0,.int .i64 0] 51));have hk2:K0 w w2:=by rw [hw2];exact(Keeps.alloc _ _).Af
 have hp2:w2.heap[w.heap.size+1]?=some (.cells #[.slice none 0 0,.int .i64 0,.int .i64 0] 51 (0,0)):=by rw [hw2];exact Aw _ _ (by simp)
 clear htr hr hR hN hn;obtain⟨Hwk,Hk2,Hp2⟩:=hid3 hwk hk2 hp2;clear hp2 hk2 hwk;go_enter Tryz.func52,Tryz.ntmps52;go_wp2_with fail;rw [<-hw2];clear hw2;refine(Hwk.o _ Hk2.o).mono ?_;rintro e w3 (⟨hz,vb,vr,vo,P,rfl,hres⟩|⟨hz,rfl,hk3⟩)
 ·obtain⟨ab,cb,rfl⟩:∃a c,vb= .slice a n c:=by obtain⟨a,c,h,_⟩:=Ae hres.bal;exact⟨a,c,h⟩
  have hb:=Ad Hp2.o hres.kp (by simp);have d0:=Aa hb 0;have d1:=Aa hb 1;have d2:=Aa hb 2;have e0:=Ab hb 0;have e1:=Ab hb 1;have e2:=Ab hb 2;have hkz:Keeps (λi=>i=w.heap.size+1) w3 (((w3.setCell ⟨w.heap.size+1,0,none⟩ (.slice ab n cb)).setCell ⟨w.heap.size+1,1,none⟩ (.int .i64 R.1.p.cr)).setCell ⟨w.heap.size+1,2,none⟩ (.int .i64 R.1.p.du)):=((Keeps.setCell (S:=λi=>i=w.heap.size+1) _ _ _ rfl).trans (Keeps.setCell _ _ _ (.inl rfl))).trans (Keeps.setCell _ _ _ (.inl rfl));have hb3:(((w3.setCell ⟨w.heap.size+1,0,none⟩ (.slice ab n cb)).setCell ⟨w.heap.size+1,1,none⟩ (.int .i64 R.1.p.cr)).setCell ⟨w.heap.size+1,2,none⟩ (.int .i64 R.1.p.du)).heap[w.heap.size+1]?=some (.cells #[.slice ab n cb,.int .i64 R.1.p.cr,.int .i64 R.1.p.du] 51 (0,0)):=(heap_setCell_same _ _ 2 _ _ _ ((heap_setCell_same _ _ 1 _ _ _ ((heap_setCell_same _ _ 0 _ _ _ hb).trans rfl)).trans rfl)).trans rfl;have hres2:=hres.lift hkz (lt_of_block Hp2.o) Hk2.o j6;have Hz:=Lib.hid hz;clear hz hres hb hkz;obtain⟨Hb3,Hres2⟩:=hid2 hb3 hres2;clear hres2 hb3;go_wp2;have r0:=Aa Hb3.o 0;have r1:=Aa Hb3.o 1;have r2:=Aa Hb3.o 2;clear d0 d1 d2;exact bodyPost_ret (v:= .tuple #[.agg #[.slice ab n cb,.int .i64 R.1.p.cr,.int .i64 R.1.p.du],vr,vo,.int .i64 0]) (by simp [results,Tryz.results52,go_sem,r0,r1,r2]) rfl (.inl ⟨Hz.o,_,vr,vo,P,rfl,Hres2.o⟩)
 ·have hb:=Ad Hp2.o hk3 (by simp);have d0:=Aa hb 0;have d1:=Aa hb 1;have d2:=Aa hb 2;have e0:=Ab hb 0;have e1:=Ab hb 1;have e2:=Ab hb 2;have hkz:Keeps (λi=>i=w.heap.size+1) w3 (((w3.setCell ⟨w.heap.size+1,0,none⟩ (.slice none 0 0)).setCell ⟨w.heap.size+1,1,none⟩ (.int .i64 0)).setCell ⟨w.heap.size+1,2,none⟩ (.int .i64 0)):=((Keeps.setCell (S:=λi=>i=w.heap.size+1) _ _ _ rfl).trans (Keeps.setCell _ _ _ (.inl rfl))).trans (Keeps.setCell _ _ _ (.inl rfl));have hb3:(((w3.setCell ⟨w.heap.size+1,0,none⟩ (.slice none 0 0)).setCell ⟨w.heap.size+1,1,none⟩ (.int .i64 0)).setCell ⟨w.heap.size+1,2,none⟩ (.int .i64 0)).heap[w.heap.size+1]?=some (.cells #[.slice none 0 0,.int .i64 0,.int .i64 0] 51 (0,0)):=(heap_setCell_same _ _ 2 _ _ _ ((heap_setCell_same _ _ 1 _ _ _ ((heap_setCell_same _ _ 0 _ _ _ hb).trans rfl)).trans rfl)).trans rfl;have hkf:K0 w (((w3.setCell ⟨w.heap.size+1,0,none⟩ (.slice none 0 0)).setCell ⟨w.heap.size+1,1,none⟩ (.int .i64 0)).setCell ⟨w.heap.size+1,2,none⟩ (.int .i64 0)):=(Hk2.o.nt hk3).trans (hkz.mono λi _ e=> .inr jo);have Hz:=Lib.hid hz;clear hz hb hkz;obtain⟨Hb3,Hkf⟩:=hid2 hb3 hkf;clear hkf hb3 hk3;go_wp2;have r0:=Aa Hb3.o 0;have r1:=Aa Hb3.o 1;have r2:=Aa Hb3.o 2;clear d0 d1 d2;exact bodyPost_ret (v:= .tuple #[.agg #[.slice none 0 0,.int .i64 0,.int .i64 0],.slice none 0 0,.slice none 0 0,.int .i64 R.2]) (by simp [results,Tryz.results52,go_sem,r0,r1,r2]) rfl (.inr ⟨Hz.o,rfl,Hkf.o⟩)
theorem DL.keepS{W W':World}{B:Nat}{t:Tm}{vt v:Value}{L:List Ev}(h:DL W B t vt L v){S:Nat->Prop}(hk:Keeps S W W')(h1:¬S B)(h2:∀b,vt.ownBlock=some b->¬S b)(h3:∀b,v.ownBlock=some b->¬S b):DL W' B t vt L v:=⟨Ad h.blk hk h1,hk.row h.trs h2,hk.row h.row h3⟩
structure AcV where
 vt:Value
 vl:Value
 vtl:Value
 vb:Value
 vp:Value
 vr:Value
 vn:Value
 vi:Value
 va:Value
 bl:Nat
 bb:Nat
 P:List SV
 I:List SV
def AcV.blk(x:AcV)(a:Ac):Array Value:= #[.int .i64 a.t.limit,x.vt,.int .i64 a.t.cyc,.int .i64 a.t.due,.int .i64 a.t.minFixed,.int .i64 a.t.minPart,.int .i64 a.t.start,.int .i64 a.today,.int .i64 a.seq,(.pointer (some ⟨x.bl,0,none⟩)),(.pointer (some ⟨x.bb,0,none⟩)),x.vp,.int .i64 a.s.p.cr,.int .i64 a.s.p.du,x.vr,x.vn,x.vi,x.va]
def AcV.rd(x:AcV)(b:Nat):Prop:=x.vt.ownBlock=some b\/x.vp.ownBlock=some b\/x.vr.ownBlock=some b\/x.vn.ownBlock=some b\/b=x.bl\/x.vtl.ownBlock=some b\/x.vl.ownBlock=some b\/Foot x.bb x.vb b\/(∃y∈x.P,y.v.ownBlock=some b)\/(∃y∈x.I,y.v.ownBlock=some b)
def AcF(B:Nat)(x:AcV)(b:Nat):Prop:=b=B\/x.vi.ownBlock=some b\/x.va.ownBlock=some b
structure AcOk(a:Ac):Prop where
 wk:walkR a.t a.L a.today=(a.s,0)
 il:a.iss.length=a.s.out.length
 ill:∀y∈a.iss,y.lines.length=a.t.trs.length
 aj:(a.adj.length:Int)<=301000*a.seq
 s0:0<=a.seq
structure AcAt(w:World)(B:Nat)(x:AcV)(a:Ac):Prop where
 blk:w.heap[B]?=some (.cells (x.blk a) 104 (0,0))
 trs:w.ownsRow 0 39 2 x.vt a.t.trs.length (a.t.trs.flatMap Tn.cells)
 dl:DL w x.bl a.t x.vtl a.L x.vl
 bk:Cv w x.bb x.vb a.D
 bal:w.ownsRow 0 2 1 x.vp a.s.p.bal.length (a.s.p.bal.flatMap i64c)
 rts:w.ownsRow 0 2 1 x.vr a.s.R.length (a.s.R.flatMap i64c)
 now:w.ownsRow 0 59 9 x.vn x.P.length (x.P.flatMap SV.cells)
 nln:∀y∈x.P,w.ownsRow 0 212 3 y.v y.s.lines.length (y.s.lines.flatMap Ln.cells)
 ns:x.P.map SV.s=a.s.out
 iss:w.ownsRow 0 59 9 x.vi x.I.length (x.I.flatMap SV.cells)
 iln:∀y∈x.I,w.ownsRow 0 212 3 y.v y.s.lines.length (y.s.lines.flatMap Ln.cells)
 is:x.I.map SV.s=a.iss
 adj:w.ownsRow 0 142 9 x.va a.adj.length (a.adj.flatMap Adj.cells)
 ok:AcOk a
 sep:∀b,x.rd b->¬AcF B x b
 si:∀b,x.vi.ownBlock=some b->¬(b=B\/x.va.ownBlock=some b)
 sa:∀b,x.va.ownBlock=some b->¬b=B
theorem rowLt{w:World}{e:TypeId}{size n:Nat}{v:Value}{xs:List Value}(h:w.ownsRow 0 e size v n xs){b:Nat}(hb:v.ownBlock=some b):b<w.heap.size:=(h.lt b hb).2
theorem AcAt.lt{w:World}{B:Nat}{x:AcV}{a:Ac}(h:AcAt w B x a):∀b,AcF B x b\/x.rd b->b<w.heap.size:=by
 rintro b ((rfl|hb|hb)|hb|hb|hb|hb|rfl|hb|hb|hb|⟨y,hy,hb⟩|⟨y,hy,hb⟩)
 ·exact lt_of_block h.blk
 ·exact rowLt h.iss hb
 ·exact rowLt h.adj hb
 ·exact rowLt h.trs hb
 ·exact rowLt h.bal hb
 ·exact rowLt h.rts hb
 ·exact rowLt h.now hb
 ·exact lt_of_block h.dl.blk
 ·exact rowLt h.dl.trs hb
 ·exact rowLt h.dl.row hb
 ·exact h.bk.lt b hb
 ·exact rowLt (h.nln y hy) hb
 ·exact rowLt (h.iln y hy) hb
theorem AcAt.keeps{w w':World}{B:Nat}{x:AcV}{a:Ac}(h:AcAt w B x a){S:Nat->Prop}(hk:Keeps S w w')(hS:∀b,AcF B x b\/x.rd b->¬S b):AcAt w' B x a where
 blk:=Ad h.blk hk (hS _ (.inl (.inl rfl)))
 trs:=hk.row h.trs λb hb=>hS b (.inr (.inl hb))
 dl:=h.dl.keepS hk (hS _ (.inr (.inr (.inr (.inr (.inr (.inl rfl))))))) (λb hb=>hS b (.inr (.inr (.inr (.inr (.inr (.inr (.inl hb)))))))) (λb hb=>hS b (.inr (.inr (.inr (.inr (.inr (.inr (.inr (.inl hb)))))))))
 bk:=h.bk.keeps hk λb hb=>hS b (.inr (.inr (.inr (.inr (.inr (.inr (.inr (.inr (.inl hb)))))))))
 bal:=hk.row h.bal λb hb=>hS b (.inr (.inr (.inl hb)))
 rts:=hk.row h.rts λb hb=>hS b (.inr (.inr (.inr (.inl hb))))
 now:=hk.row h.now λb hb=>hS b (.inr (.inr (.inr (.inr (.inl hb)))))
 nln:=λy hy=>hk.row (h.nln y hy) λb hb=>hS b (.inr (.inr (.inr (.inr (.inr (.inr (.inr (.inr (.inr (.inl ⟨y,hy,hb⟩))))))))))
 ns:=h.ns
 iss:=hk.row h.iss λb hb=>hS b (.inl (.inr (.inl hb)))
 iln:=λy hy=>hk.row (h.iln y hy) λb hb=>hS b (.inr (.inr (.inr (.inr (.inr (.inr (.inr (.inr (.inr (.inr ⟨y,hy,hb⟩))))))))))
 is:=h.is
 adj:=hk.row h.adj λb hb=>hS b (.inl (.inr (.inr hb)))
 ok:=h.ok
 sep:=h.sep
 si:=h.si
 sa:=h.sa
theorem AcAt.keep0{w w':World}{B:Nat}{x:AcV}{a:Ac}(h:AcAt w B x a)(hk:K0 w w'):AcAt w' B x a:=h.keeps hk (by simp)
structure AcNums(a:Ac):Prop where
 tm:a.t.err=0
 ll:a.L.length<=2000
 d0:a.t.start<=a.today
 d1:a.today<=2932896
 ds: -135140<=a.t.start
 cy:ofE a.t.start a.t.cyc a.today=0
 nb:a.s.p.bal.length=a.t.trs.length
 nr:a.s.R.length=a.t.trs.length
 pr:a.s.p.Bh=true
 n1:1<=a.t.trs.length
 n8:a.t.trs.length<=8
 ol:∀y∈a.s.out,y.lines.length=a.t.trs.length
 o3:a.s.out.length<=300
theorem Tq{t:Tm}{L:List Ev}{td:Int}{Z:St×Int}(hw:walkR t L td=Z)(hz2:Z.2=0):Dj t L td=0/\∃len,StOk t.trs.length Z.1 len:=by
 unfold walkR at hw
 split at hw
 ·rename_i h0;have hok:=Ei h0;obtain⟨_,_,len,h3⟩:=Wu hok.tm rfl _ _ _ _ Z (st0_ok hok.tm) (by simp [st0]) hw hz2;exact⟨h0,len,h3⟩
 ·subst hw;exact absurd hz2 ‹_›
theorem repErr_of{t:Tm}{L:List Ev}{td:Int}(h:Dj t L td=0):ofE t.start t.cyc td=0:=by
 unfold Dj at h
 split at h
 ·split at h
  ·split at h
   ·cases h
   ·split at h
    ·cases h
    ·split at h
     ·cases h
     ·omega
  ·rename_i h2;exact absurd h h2
 ·cases h
theorem AcOk.nums{a:Ac}(h:AcOk a):AcNums a:=by
 obtain⟨h0,len,hs⟩:=Tq h.wk rfl;obtain⟨o1,o2,o3,o4⟩:=Mr h.wk rfl;have hr:=Ei h0;obtain⟨⟨l0,l1⟩,_,_,_,_,_,hst⟩:=Fz hr.tm;exact⟨hr.tm,hr.ln,hr.d0,hr.d1,by omega,repErr_of h0,hs.nb,hs.nr,o4,by omega,by omega,o1,o2⟩
def cyS(B:Nat)(st cd:Int)(w:World):Prop:=w.cell? ⟨B,6,none⟩=some (.int .i64 st)/\w.cell? ⟨B,2,none⟩=some (.int .i64 cd)
theorem cyS.of{w:World}{B:Nat}{x:AcV}{a:Ac}(h:AcAt w B x a):cyS B a.t.start a.t.cyc w:=⟨Aa h.blk 6,Aa h.blk 2⟩
theorem cyS.keep{B:Nat}{st cd:Int}{w w':World}(h:cyS B st cd w)(hk:K0 w w'):cyS B st cd w':=⟨(hk.cell (Ai h.1) (by simp)).trans h.1,(hk.cell (Ai h.2) (by simp)).trans h.2⟩
theorem Qi(B:Nat)(x:AcV)(a:Ac)(d:Int)(w:World)(h:AcAt w B x a):Calls Tryz.prog 33 #[(.pointer (some ⟨B,0,none⟩)),.int .i64 d] w λe w'=>e= .returned (.int .i64 (a.cyc d))/\K0 w w':=by
 have hn:=h.ok.nums;have hcy:=λW=>Qy a.t.start a.t.cyc d W ⟨by have:=hn.ds;omega,by have:=hn.d0;have:=hn.d1;omega⟩;have hS:∀W,K0 w W->cyS B a.t.start a.t.cyc W:=λW hW=>cyS.of (h.keep0 hW);have hv:ofV a.t.start a.t.cyc d=a.cyc d:=rfl;rw [hv] at hcy;clear hn hv;clear h;obtain⟨Hcy,HS⟩:=hid2 hcy hS;clear hS hcy;go_enter Tryz.func33,Tryz.ntmps33;go_wp2_with fail;refine Ak (cyS B a.t.start a.t.cyc) (.take 0 (.take 1 (.take 2 (.take 3 (.take 4 (.take 5 (.take 6 (.take 7 (.take 8 (.take 9 (.take 10 (.move 11 (.take 12 (.take 13 (.take 14 (.take 15 (.take 16 .done))))))))))))))))) j9 j9 ?_ ?_
 ·exact HS.o _ (Keeps.drew _)
 intro w1 hs1 hk1;refine je ?_;intro K hK
 go_at_call 68
 ((with_reducible refine(Hcy.o w1).mono ?_);rintro e w2 ⟨rfl,hk2⟩;dsimp only)
 refine hK.out _ _ (by exact hs1.keep hk2) ?_;clear hK K;refine jc ?_;have Hk:=Lib.hid (Keeps.nt hk1 hk2);clear hs1 hk1 hk2;refine jm ?_;go_wp2_with fail;go_ret;exact⟨rfl,Hk.o⟩
structure OwnP(w W:World)(v:Value)(L:List SV):Prop where
 row:W.ownsRow 0 59 9 v L.length (L.flatMap SV.cells)
 ln:∀x∈L,W.ownsRow 0 212 3 x.v x.s.lines.length (x.s.lines.flatMap Ln.cells)
 fr:Fresh w W v
 lf:∀x∈L,∀b,x.v.ownBlock=some b->w.heap.size<=b
theorem OwnP.keep{w W W':World}{v:Value}{L:List SV}(h:OwnP w W v L)(hk:K0 W W'):OwnP w W' v L:=⟨hk.row h.row (by simp),λx hx=>hk.row (h.ln x hx) (by simp),h.fr.keep hk,h.lf⟩
theorem OwnP.app{w W1 w6:World}{v v6:Value}{L:List SV}{x:SV}{m:Nat}{xs:List Value}(h:OwnP w W1 v L)(hk:Keeps (λj=>v.ownBlock=some j\/W1.heap.size<=j) W1 w6)(hm:m=L.length+1)(hx:xs=L.flatMap SV.cells++x.cells)(hr:w6.ownsRow 0 59 9 v6 m xs)
  (hl:w6.ownsRow 0 212 3 x.v x.s.lines.length (x.s.lines.flatMap Ln.cells)) (hlf:∀b,x.v.ownBlock=some b->w.heap.size<=b) (hf:v6.ownBlock=v.ownBlock\/∃g,v6.ownBlock=some g/\W1.heap.size<=g):OwnP w w6 v6 (L++ [x]):=by
 have hsz:=h.fr.1.size;subst hm hx;refine⟨by simpa using hr,λy hy=> ?_,⟨h.fr.1.trans (hk.mono λi _ e=> .inr ?_),λg hg=> ?_⟩,λy hy b hb=> ?_⟩
 ·rcases List.mem_append.1 hy with hy|hy
  ·refine hk.row (h.ln y hy) λg hg e=> ?_;rcases e with e|e
   ·exact Fj (h.ln y hy) h.row j7 hg e
   ·have:=Py (h.ln y hy) hg;omega
  ·obtain rfl:y=x:=by simpa using hy
   exact hl
 ·rcases e with e|e
  ·exact h.fr.2 i e
  ·omega
 ·rcases hf with e|⟨g',e,h'⟩
  ·exact h.fr.2 g (by rw [<-e];exact hg)
  ·exact j1h
 ·rcases List.mem_append.1 hy with hy|hy
  ·exact h.lf y hy b hb
  ·obtain rfl:y=x:=by simpa using hy
   exact hlf b hb
def OwnPost(w:World)(M:List Stm)(e:Ending)(w':World):Prop:=∃v Q,e= .returned v/\OwnP w w' v Q/\Q.map SV.s=M
structure StmsR(w:World)(ad:Option Addr)(n cap:Nat)(P:List SV):Prop where
 row:Reads w 9 (.slice ad n cap) n (P.flatMap SV.cells)
 ln:∀x∈P,Reads w 3 x.v x.s.lines.length (x.s.lines.flatMap Ln.cells)
 ll:∀x∈P,x.s.lines.length<=1000
 n:P.length=n
theorem StmsR.keep{w w':World}{ad:Option Addr}{n cap:Nat}{P:List SV}(h:StmsR w ad n cap P)(hk:K0 w w'):StmsR w' ad n cap P:=⟨h.row.keeps hk (by simp),λx hx=>(h.ln x hx).keeps hk (by simp),h.ll,h.n⟩
theorem Vb(ad:Option Addr)(cap n:Nat)(P:List SV)(w:World)(h:StmsR w ad n cap P)(hn:n<=1000):Calls Tryz.prog 88 #[.slice ad n cap] w (OwnPost w (P.map SV.s)):=by
 obtain⟨i0,hi,hi0,hi1,hi2⟩:=info_parts Nb;obtain⟨H,Hi,Hi0,Hi1,Hi2⟩:=hid5 h hi hi0 hi1 hi2;clear hi2 hi1 hi0 hi h;go_enter Tryz.func88,Tryz.ntmps88;go_wp2_with fail
 go_loopw [3,8] (λv c wr=>∃(k:Nat) (adv:Option Addr) (cv:Nat) (Q:List SV),k<=n/\c= .int .i64 (k:Nat)/\v= .slice adv k cv/\OwnP w wr (.slice adv k cv) Q/\Q.map SV.s=(P.map SV.s).take k) (λ_ c _=>n-(intOf c).toNat)
 case atStart=>exact⟨0,none,0, [],Nat.zero_le _,rfl,rfl,⟨World.ownsRow_nil _ _ _ _,by simp,⟨Keeps.refl _ _,by simp [Value.ownBlock]⟩,by simp⟩,rfl⟩
 case round=>
  obtain⟨k,adv,cv,Q,hkn,rfl,rfl,hp,hq⟩:=hrel;have hQk:Q.length=k:=by have:=congrArg List.length hq;simp at this;rw [this,H.o.n];omega
  by_cases hlt:k<n
  ·have hltI:(k:Int)<(n:Int):=j8;obtain⟨x,hx⟩:=Ar (L:=P) (k:=k) (by rw [H.o.n];exact hlt);have hk0:=hp.fr.1;have hrd:=H.o.row.keeps hk0 (by simp);obtain⟨g,o,c,he,hc⟩:=hrd.elem SV.Aj hx j7;simp only [Value.slice.injEq,true_and] at he;obtain⟨rfl,rfl⟩:=he;refine j2u ?_;intro x0 x1 x2 x3 x4 x5 x6 x7 x8;clear hc;have hxl:=(H.o.ln x (List.mem_of_getElem? hx)).keeps hk0 (by simp);have hxll:=H.o.ll x (List.mem_of_getElem? hx);have hq1:(P.map SV.s).take (k+1)=(P.map SV.s).take k++ [x.s]:=take_snoc' (by rw [List.getElem?_map,hx];rfl);obtain⟨⟨cy,fr,te,du,tot,cre,mi,gr,X⟩,axd,axc⟩:=x;simp only [SV.v] at x0 x1 x2 x3 x4 x5 x6 x7 x8 hxl hxll hq1;obtain⟨m,hm⟩:=eX X.length;rw [hm] at hxl hxll x4;have hcl:=λW (hW:K0 wr W)=>Wh W (.slice axd m axc) m (X.flatMap Ln.cells) (hxl.keeps hW (by simp)) (λu hu=>Ln.one _ u hu) j6;clear hrd;have hlt0:∀b,(Value.slice adv k cv).ownBlock=some b->b<wr.heap.size:=λb hb=>Py hp.row hb;have hrowk:=hp.row;rw [hQk] at hrowk;obtain⟨Hp,Hq,HQk,Hk0⟩:=hid4 hp hq hQk hk0;clear hk0 hQk hq hp hxl;obtain⟨Hq1,Hm,Hcl⟩:=hid3 hq1 hm hcl;clear hcl hm hq1 hx;obtain⟨Hlt0,Hrowk⟩:=hid2 hlt0 hrowk;clear hrowk hlt0;go_wp2_with fail;refine(Hcl.o _ (Keeps.alloc _ _)).mono ?_;rintro e w1 ⟨v1,rfl,hrow1,hk1,hnew1⟩;obtain⟨a1,c1,rfl,_,_⟩:=Ae hrow1;have hbx:=Ad (heap_alloc_new wr (.cells #[.int .i64 cy,.int .i64 fr,.int .i64 te,.int .i64 du,.slice axd m axc,.int .i64 tot,.int .i64 cre,.int .i64 mi,.bool gr] 59)) hk1 (by simp);have b0:=Aa hbx 0;have b1:=Aa hbx 1;have b2:=Aa hbx 2;have b3:=Aa hbx 3;have b4:=Aa hbx 4;have b5:=Aa hbx 5;have b6:=Aa hbx 6;have b7:=Aa hbx 7;have b8:=Aa hbx 8;have f4:=Ab hbx 4;have bl:=lt_of_block hbx;have hk2:Keeps (λi=>i=wr.heap.size) w1 (w1.setCell ⟨wr.heap.size,4,none⟩ (.slice a1 m c1)):=Keeps.setCell _ _ _ rfl;have hk12:Keeps (λj=>wr.heap.size<=j) wr (w1.setCell ⟨wr.heap.size,4,none⟩ (.slice a1 m c1)):=((Keeps.alloc wr _).trans (hk1.mono (by simp))).trans (hk2.mono λi _ e=> .inr (by have e':i=wr.heap.size:=e;omega));have hrow2:=hk12.row Hrowk.o (λb hb e=>by have:=Hlt0.o b hb;have e':wr.heap.size<=b:=e;omega);have hl2:=hk2.row hrow1 (λb hb e=>by have:=hnew1 b hb;simp at this;have e':b=wr.heap.size:=e;omega);obtain⟨W2,hW2⟩:=eY (w1.setCell ⟨wr.heap.size,4,none⟩ (.slice a1 m c1));have hrow2':=hrow2;rw [<-hW2] at hk12 hl2 hrow2;clear hrow1 hk1;have Hnew1:=Lib.hid hnew1;clear hnew1 hbx hk2;obtain⟨Hk12,Hl2⟩:=hid2 hk12 hl2;clear hl2 hk12 hrow2
   go_wp2_with (at_builtin;refine Am rfl (.tmp 16) (.tmp 18) 101 rfl 0 59 i0 _ 9 88 Tryz.underlying101 Hi.o Hi0.o Hi1.o Hi2.o rfl j7 (.slice adv k cv) k _ rfl (hrow2'.alloc _) _ 1 _ rfl (Reads.litAt _ _ _ 9 1 _ jr rfl) jf jd j6 (Nat.zero_le _) ?_)
   intro v6 w6 hrow6 hk6 hf6;obtain⟨a6,c6,rfl,_,_⟩:=Ae hrow6;rw [<-hW2] at hk6;have hkA:Keeps (λj=>(Value.slice adv k cv).ownBlock=some j\/wr.heap.size<=j) wr w6:=((Hk12.o.mono λ_ _ e=> .inr e).trans ((Keeps.alloc (S:=λ_=>False) W2 _).mono (by simp))).trans (hk6.mono λi _ e=> .inl (.inl e));have hl6:=hk6.row (Hl2.o.alloc _) (λb hb e=>by have h1:=Hlt0.o b e;have h2:=Hnew1.o b hb;simp at h2;omega);have hlf:∀b,(Value.slice a1 m c1).ownBlock=some b->w.heap.size<=b:=λb hb=>by have h2:=Hnew1.o b hb;simp at h2;have:=Hk0.o.size;omega
   have hp6:OwnP w w6 (.slice a6 (k+1) c6) (Q++ [⟨⟨cy,fr,te,du,tot,cre,mi,gr,X⟩,a1,c1⟩]):=Hp.o.app hkA (m:=k+1) (xs:=_) (by rw [HQk.o]) (by simp [SV.cells,SV.v,Hm.o]) hrow6 (by rw [SV.v,Hm.o];exact hl6) (by rw [SV.v,Hm.o];exact hlf) (hf6.imp id fun⟨g,h1,h2⟩=>⟨g,h1,by omega⟩);have hq6:(Q++ [(⟨⟨cy,fr,te,du,tot,cre,mi,gr,X⟩,a1,c1⟩:SV)]).map SV.s=(P.map SV.s).take (k+1):=by rw [Hq1.o,List.map_append,Hq.o];rfl
   clear hrow6 hk6 hf6 hkA hl6 hlf hrow2' b0 b1 b2 b3 b4 b5 b6 b7 b8 f4 bl x0 x1 x2 x3 x4 x5 x6 x7 x8;obtain⟨Hp6,Hq6⟩:=hid2 hp6 hq6;clear hq6 hp6 hW2;go_wp2_with fail;go_roundw
   case rel=>exact⟨k+1,a6,c6,_,by omega,by go_num,by go_num,Hp6.o,Hq6.o⟩
   case measure=>simp [intOf];omega
  ·obtain rfl:k=n:=by omega
   rw [List.take_of_length_le (by rw [List.length_map,H.o.n];exact Nat.le_refl _)] at hq;obtain⟨Hp,Hq,HQk⟩:=hid3 hp hq hQk;clear hQk hq hp;go_wp2_with fail;go_ret;exact⟨_,Q,rfl,Hp.o,Hq.o⟩
theorem cyc_bd(a:Ac)(d:Int):0<=a.cyc d/\a.cyc d<=300:=by
 unfold Ac.cyc ofV
 split
 ·rename_i h;unfold ofE at h
  split at h
  ·split at h
   ·rename_i h2;have:=(Ku a.t.cyc d 300 a.t.start h2).2;omega
   ·cases h
  ·rename_i h2;exact absurd h h2
 ·omega
theorem Vd(B:Nat)(x:AcV)(a:Ac)(d:Int)(w:World)(h:AcAt w B x a):Calls Tryz.prog 113 #[(.pointer (some ⟨B,0,none⟩)),.int .i64 d] w λe w'=>e= .returned (.bool (a.oldB d))/\K0 w w':=by
 have c7:w.cell? ⟨B,7,none⟩=some (.int .i64 a.today):=Aa h.blk 7;have hcy:=fun(D:Int) (W:World) (hW:K0 w W)=>Qi B x a D W (h.keep0 hW);obtain⟨b1,b2⟩:=cyc_bd a a.today;obtain⟨b3,b4⟩:=cyc_bd a d;obtain⟨c1,hc1⟩:=eX (a.cyc a.today);obtain⟨c2,hc2⟩:=eX (a.cyc d);have hcy1:=hcy a.today;have hcy2:=hcy d;have ho:a.oldB d=decide (24<c1-c2):=by unfold Ac.oldB;rw [hc1,hc2]
 rw [hc1] at hcy1 b1 b2;rw [hc2] at hcy2 b3 b4;rw [ho];clear hcy;by_cases hlt:24<c1-c2
 ·have hd:decide (24<c1-c2)=true:=by simp [hlt]
  rw [hd];clear h;obtain⟨Hcy1,Hcy2⟩:=hid2 hcy1 hcy2;clear hcy2 hcy1 hc1 hc2 ho;have Hd:=Lib.hid hd;clear hd;go_enter Tryz.func113,Tryz.ntmps113;go_wp2_with fail;refine(Hcy1.o _ (Keeps.refl _ _)).mono ?_;rintro e w1 ⟨rfl,hk1⟩;have Hk1:=Lib.hid hk1;clear hk1;go_wp2_with fail;refine(Hcy2.o _ Hk1.o).mono ?_;rintro e w2 ⟨rfl,hk2⟩;have Hk2:=Lib.hid (Hk1.o.nt hk2);clear hk2;go_wp2;go_ret;exact⟨rfl,Hk2.o⟩
 ·have hd:decide (24<c1-c2)=false:=by simp [hlt]
  rw [hd];clear h;obtain⟨Hcy1,Hcy2⟩:=hid2 hcy1 hcy2;clear hcy2 hcy1 hc1 hc2 ho;have Hd:=Lib.hid hd;clear hd;go_enter Tryz.func113,Tryz.ntmps113;go_wp2_with fail;refine(Hcy1.o _ (Keeps.refl _ _)).mono ?_;rintro e w1 ⟨rfl,hk1⟩;have Hk1:=Lib.hid hk1;clear hk1;go_wp2_with fail;refine(Hcy2.o _ Hk1.o).mono ?_;rintro e w2 ⟨rfl,hk2⟩;have Hk2:=Lib.hid (Hk1.o.nt hk2);clear hk2;go_wp2;go_ret;exact⟨by rw [<-Hd.o];rfl,Hk2.o⟩
theorem Uz(B:Nat)(x:AcV)(a:Ac)(d:Int)(w:World)(h:AcAt w B x a):Calls Tryz.prog 112 #[(.pointer (some ⟨B,0,none⟩)),.int .i64 d] w λe w'=>e= .returned (.bool (decide (1<=d/\d<=a.t.trs.length)))/\w=w':=by
 have c1:w.cell? ⟨B,1,none⟩=some x.vt:=Aa h.blk 1;obtain⟨n,hn⟩:=eX a.t.trs.length;obtain⟨ad,c,hv,_,_⟩:=Ae h.trs;have e1:x.vt= .slice ad n c:=by rw [hv,hn]
 rw [e1] at c1;rw [hn];by_cases h1:1<=d
 ·by_cases h2:d<=(n:Int)
  ·have hd:decide (1<=d/\d<=(n:Int))=true:=by simp [h1,h2]
   exact j22
  ·have hd:decide (1<=d/\d<=(n:Int))=false:=by simp [h2]
   exact j22
 ·have hd:decide (1<=d/\d<=(n:Int))=false:=by simp [h1]
  exact j22
theorem Au:(Tryz.prog.info? 61).map (·.size)=some 20:=by kernel_rfl
theorem Cg(w:World)(g:Nat)(cs:Array Value):Keeps (λi=>i=g) w (w.setRow g cs):=⟨rfl,rfl,rfl,by simp [World.setRow],λk _ hk=>setRow_other w g k _ hk⟩
theorem Dg(z:Int)(w:World):Calls Tryz.prog 60 #[.int .i64 z] w λe w'=>e= .returned (.agg #[.int .i64 z,.int .i64 0,.int .i64 0,.int .i64 0,.int .i64 0,.slice none 0 0,.int .i64 0,.int .i64 0,.slice none 0 0,.slice none 0 0,.int .i64 0,.int .i64 0,.int .i64 0,.int .i64 0,.int .i64 0,.slice none 0 0,.int .i64 0,.int .i64 0,.int .i64 0,.bool false])/\K0 w w':=by
 have hb:=j42;have hb2:=setRow_heap (w.alloc (.cells #[.int .i64 0,.int .i64 0,.int .i64 0,.int .i64 0,.int .i64 0,.slice none 0 0,.int .i64 0,.int .i64 0,.slice none 0 0,.slice none 0 0,.int .i64 0,.int .i64 0,.int .i64 0,.int .i64 0,.int .i64 0,.slice none 0 0,.int .i64 0,.int .i64 0,.int .i64 0,.bool false] 61)) w.heap.size #[.int .i64 0,.int .i64 0,.int .i64 0,.int .i64 0,.int .i64 0,.slice none 0 0,.int .i64 0,.int .i64 0,.slice none 0 0,.slice none 0 0,.int .i64 0,.int .i64 0,.int .i64 0,.int .i64 0,.int .i64 0,.slice none 0 0,.int .i64 0,.int .i64 0,.int .i64 0,.bool false] #[.int .i64 z,.int .i64 0,.int .i64 0,.int .i64 0,.int .i64 0,.slice none 0 0,.int .i64 0,.int .i64 0,.slice none 0 0,.slice none 0 0,.int .i64 0,.int .i64 0,.int .i64 0,.int .i64 0,.int .i64 0,.slice none 0 0,.int .i64 0,.int .i64 0,.int .i64 0,.bool false] 61 _ hb;have hk:=(Keeps.alloc (S:=λ_=>False) w (.cells #[.int .i64 0,.int .i64 0,.int .i64 0,.int .i64 0,.int .i64 0,.slice none 0 0,.int .i64 0,.int .i64 0,.slice none 0 0,.slice none 0 0,.int .i64 0,.int .i64 0,.int .i64 0,.int .i64 0,.int .i64 0,.slice none 0 0,.int .i64 0,.int .i64 0,.int .i64 0,.bool false] 61)).trans ((Cg (w.alloc (.cells #[.int .i64 0,.int .i64 0,.int .i64 0,.int .i64 0,.int .i64 0,.slice none 0 0,.int .i64 0,.int .i64 0,.slice none 0 0,.slice none 0 0,.int .i64 0,.int .i64 0,.int .i64 0,.int .i64 0,.int .i64 0,.slice none 0 0,.int .i64 0,.int .i64 0,.int .i64 0,.bool false] 61)) w.heap.size #[.int .i64 z,.int .i64 0,.int .i64 0,.int .i64 0,.int .i64 0,.slice none 0 0,.int .i64 0,.int .i64 0,.slice none 0 0,.slice none 0 0,.int .i64 0,.int .i64 0,.int .i64 0,.int .i64 0,.int .i64 0,.slice none 0 0,.int .i64 0,.int .i64 0,.int .i64 0,.bool false]).mono λi _ e=> .inr j09);have h1:(#[.int .i64 z,.int .i64 0,.int .i64 0,.int .i64 0,.int .i64 0,.slice none 0 0,.int .i64 0,.int .i64 0,.slice none 0 0,.slice none 0 0,.int .i64 0,.int .i64 0,.int .i64 0,.int .i64 0,.int .i64 0,.slice none 0 0,.int .i64 0,.int .i64 0,.int .i64 0,.bool false]:Array Value).all (·.oneCell')=true:=by simp [Value.oneCell']
 obtain⟨Hb,Hb2,Hk,H1⟩:=hid4 hb hb2 hk h1;clear h1 hk hb2 hb;go_enter Tryz.func60,Tryz.ntmps60
 go_wp2_with (refine wpList_store_row rfl 61 (.tmp 2) (.tmp 4) rfl w.heap.size #[.int .i64 z,.int .i64 0,.int .i64 0,.int .i64 0,.int .i64 0,.slice none 0 0,.int .i64 0,.int .i64 0,.slice none 0 0,.slice none 0 0,.int .i64 0,.int .i64 0,.int .i64 0,.int .i64 0,.int .i64 0,.slice none 0 0,.int .i64 0,.int .i64 0,.int .i64 0,.bool false] rfl rfl 61 #[.int .i64 0,.int .i64 0,.int .i64 0,.int .i64 0,.int .i64 0,.slice none 0 0,.int .i64 0,.int .i64 0,.slice none 0 0,.slice none 0 0,.int .i64 0,.int .i64 0,.int .i64 0,.int .i64 0,.int .i64 0,.slice none 0 0,.int .i64 0,.int .i64 0,.int .i64 0,.bool false] Hb.o Au rfl H1.o ?_)
 exact bodyPost_ret (results_cell_row rfl _ _ w.heap.size 61 #[.int .i64 z,.int .i64 0,.int .i64 0,.int .i64 0,.int .i64 0,.slice none 0 0,.int .i64 0,.int .i64 0,.slice none 0 0,.slice none 0 0,.int .i64 0,.int .i64 0,.int .i64 0,.int .i64 0,.int .i64 0,.slice none 0 0,.int .i64 0,.int .i64 0,.int .i64 0,.bool false] _ _ rfl Hb2.o Tryz.underlying61 rfl Au) rfl ⟨rfl,Hk.o⟩
def chB(c:Cmd):Bool:=decide (1<=c.kind)&&decide (c.kind<=8)
theorem Et(c:Cmd)(w:World):Calls Tryz.prog 27 #[.agg #[.int .i64 c.kind,.int .i64 c.day,.int .i64 c.tranche,.int .i64 c.amount,.int .i64 c.ref]] w λe w'=>e= .returned (.bool (chB c))/\K0 w w':=by
 obtain⟨ki,da,tr,am,re⟩:=c;simp only;by_cases h1:1<=ki
 ·by_cases h2:ki<=8
  ·have hd:chB ⟨ki,da,tr,am,re⟩=true:=by simp [chB,h1,h2]
   exact j23
  ·have hd:chB ⟨ki,da,tr,am,re⟩=false:=by simp [chB,h2]
   exact j23
 ·have hd:chB ⟨ki,da,tr,am,re⟩=false:=by simp [chB,h1]
  exact j23
theorem putRow{w W:World}{R:Nat}{C V:Array Value}{t:TypeId}(h:W.heap[R]?=some (.cells C t (0,0)))(hk:K0 w W)(hR:w.heap.size<=R):(W.setRow R V).heap[R]?=some (.cells V t (0,0))/\K0 w (W.setRow R V):=
 ⟨setRow_heap W R C V t _ h,hk.trans ((Cg W R V).mono λi _ e=> .inr (by have e':i=R:=e;omega))⟩
theorem Da(e r c:Int):(#[.int .i64 e,.int .i64 r,.int .i64 c,.int .i64 0,.int .i64 0,.slice none 0 0,.int .i64 0,.int .i64 0,.slice none 0 0,.slice none 0 0,.int .i64 0,.int .i64 0,.int .i64 0,.int .i64 0,.int .i64 0,.slice none 0 0,.int .i64 0,.int .i64 0,.int .i64 0,.bool false]:Array Value).all (·.oneCell')=true:=by simp [Value.oneCell']
theorem Ue(a b c d f g h:Int)(ad:Option Addr)(n m:Nat)(z:Bool):(#[.int .i64 0,.int .i64 0,.int .i64 0,.int .i64 0,.int .i64 0,.slice none 0 0,.int .i64 0,.int .i64 0,.slice none 0 0,.slice none 0 0,.int .i64 0,.int .i64 a,.int .i64 b,.int .i64 c,.int .i64 d,.slice ad n m,.int .i64 f,.int .i64 g,.int .i64 h,.bool z]:Array Value).all (·.oneCell')=true:=by simp [Value.oneCell']
theorem one_ansS(a b c d f:Int)(ad ae ag:Option Addr)(n m n' m' n2 m2:Nat):(#[.int .i64 0,.int .i64 0,.int .i64 0,.int .i64 a,.int .i64 b,.slice ad n m,.int .i64 c,.int .i64 d,.slice ae n' m',.slice ag n2 m2,.int .i64 f,.int .i64 0,.int .i64 0,.int .i64 0,.int .i64 0,.slice none 0 0,.int .i64 0,.int .i64 0,.int .i64 0,.bool false]:Array Value).all (·.oneCell')=true:=by simp [Value.oneCell']
theorem Va(ad:Option Addr)(cap n:Nat)(ref:Int)(w:World)(h:ref<1\/(n:Int)<ref):Calls Tryz.prog 62 #[.slice ad n cap,.int .i64 ref] w λe w'=>e= .returned (.agg #[.int .i64 12,.int .i64 0,.int .i64 0,.int .i64 0,.int .i64 0,.slice none 0 0,.int .i64 0,.int .i64 0,.slice none 0 0,.slice none 0 0,.int .i64 0,.int .i64 0,.int .i64 0,.int .i64 0,.int .i64 0,.slice none 0 0,.int .i64 0,.int .i64 0,.int .i64 0,.bool false])/\K0 w w':=by
 by_cases h1:ref<1
 ·exact j43
 ·have h2:(n:Int)<ref:=j8;exact j43
def Vh(w:World)(s:Stm)(e:Ending)(w':World):Prop:=∃ad c,e= .returned (.agg #[.int .i64 0,.int .i64 0,.int .i64 0,.int .i64 0,.int .i64 0,.slice none 0 0,.int .i64 0,.int .i64 0,.slice none 0 0,.slice none 0 0,.int .i64 0,.int .i64 s.cycle,.int .i64 s.fr,.int .i64 s.te,.int .i64 s.due,.slice ad s.lines.length c,.int .i64 s.total,.int .i64 s.credit,.int .i64 s.min,.bool s.grace])/\
 w'.ownsRow 0 212 3 (.slice ad s.lines.length c) s.lines.length (s.lines.flatMap Ln.cells)/\K0 w w'/\(∀b,(Value.slice ad s.lines.length c).ownBlock=some b->w.heap.size<=b)
theorem Sl(ad:Option Addr)(cap n:Nat)(P:List SV)(x:SV)(k:Nat)(ref:Int)(w:World)(h:StmsR w ad n cap P)(hn:n<=1000)(hk:ref-1=(k:Int))(hx:P[k]?=some x):Calls Tryz.prog 62 #[.slice ad n cap,.int .i64 ref] w (Vh w x.s):=by
 have hkn:k<n:=by rw [<-h.n];exact(List.getElem?_eq_some_iff.1 hx).1
 obtain⟨S,hS⟩:=eX x.s;rw [hS];obtain⟨g,o,c,he,hc⟩:=h.row.elem SV.Aj hx j7;simp only [Value.slice.injEq,true_and] at he;obtain⟨rfl,rfl⟩:=he;refine j24 ?_;intro hb0 hk0;have hcap:n<=cap:=by obtain⟨_,_,he,hnc,_⟩:=h.row;simp only [Value.slice.injEq,true_and] at he;omega
 have h1:¬ref<1:=j8;have h2:¬(n:Int)<ref:=j8;have q2:ref<=(cap:Int):=j8;have q3:IntKind.i64.wrap (ref-1)=ref-1:=IntWalk.i64_in _ ⟨by omega,by omega⟩;have q4:(ref-1).toNat=k:=j8;have q5:ref.toNat=k+1:=j8
 have hsub:StmsR w (some ⟨g,o+k*9,none⟩) 1 (cap-k) [x]:=⟨⟨_,_,rfl,by omega,by simp [SV.Aj],by simp,λj u hj=>⟨g,o+k*9,rfl,by
  have hj9:j<9:=by have:=(List.getElem?_eq_some_iff.1 hj).1;simpa [SV.cells] using this
  exact(hc j hj9).trans (by simpa using hj)⟩⟩,λy hy=>by obtain rfl:y=x:=(by simpa using hy);exact h.ln y (List.mem_of_getElem? hx),λy hy=>by obtain rfl:y=x:=(by simpa using hy);exact h.ll y (List.mem_of_getElem? hx),rfl⟩
 have hown:=λW (hW:K0 w W)=>Vb (some ⟨g,o+k*9,none⟩) (cap-k) 1 [x] W (hsub.keep hW) j6;clear hc;clear h;obtain⟨Hb0,Hk0⟩:=hid2 hb0 hk0;clear hk0 hb0 hx hk q4;obtain⟨Q5,Hown⟩:=hid2 q5 hown;clear hown q5 hsub;have HS:=Lib.hid hS;clear hS;go_enter Tryz.func62,Tryz.ntmps62;go_wp2_with fail;rw [Q5.o,Nat.add_sub_cancel,Nat.add_sub_cancel_left];refine(Hown.o _ Hk0.o).mono ?_;rintro e w1 ⟨v1,Q,rfl,hp,hq⟩
 obtain⟨y,rfl⟩:∃y,Q= [y]:=by
  rcases Q with _|⟨y,_|⟨z,Q⟩⟩
  ·cases hq
  ·exact⟨y,rfl⟩
  ·have:=congrArg List.length hq;simp at this
 have hys:y.s=S:=by rw [<-HS.o];simpa using hq
 obtain⟨g1,c1,rfl,_⟩:=Ey hp.row (by simp);simp only [List.length_cons,List.length_nil,Nat.zero_add] at hp⊢;have hl1:=hp.ln y (by simp);have hlf:=hp.lf y (by simp);have hrow:=hp.row;have hfr:=hp.fr.1;clear hp hq;obtain⟨⟨cy,fr,te,du,tot,cre,mi,gr,X⟩,ay,cc⟩:=y;simp only at hys;subst hys;simp only [SV.v] at hl1 hlf;obtain⟨m,hm⟩:=eX X.length;rw [hm] at hl1 hlf;have y0:w1.cell? ⟨g1,0,none⟩=some (.int .i64 cy):=Bw SV.Aj hrow (k:=0) rfl 0 j7;have y1:w1.cell? ⟨g1,1,none⟩=some (.int .i64 fr):=Bw SV.Aj hrow (k:=0) rfl 1 j7;have y2:w1.cell? ⟨g1,2,none⟩=some (.int .i64 te):=Bw SV.Aj hrow (k:=0) rfl 2 j7;have y3:w1.cell? ⟨g1,3,none⟩=some (.int .i64 du):=Bw SV.Aj hrow (k:=0) rfl 3 j7;have y4:w1.cell? ⟨g1,4,none⟩=some (.slice ay m cc):=by rw [<-hm];exact Bw SV.Aj hrow (k:=0) rfl 4 j7
 have y5:w1.cell? ⟨g1,5,none⟩=some (.int .i64 tot):=Bw SV.Aj hrow (k:=0) rfl 5 j7;have y6:w1.cell? ⟨g1,6,none⟩=some (.int .i64 cre):=Bw SV.Aj hrow (k:=0) rfl 6 j7;have y7:w1.cell? ⟨g1,7,none⟩=some (.int .i64 mi):=Bw SV.Aj hrow (k:=0) rfl 7 j7;have y8:w1.cell? ⟨g1,8,none⟩=some (.bool gr):=Bw SV.Aj hrow (k:=0) rfl 8 j7;have hb1:=Ad Hb0.o hfr (by simp);have hk01:=Hk0.o.nt hfr;have hpl:=(Cg w1 w.heap.size #[.int .i64 0,.int .i64 0,.int .i64 0,.int .i64 0,.int .i64 0,.slice none 0 0,.int .i64 0,.int .i64 0,.slice none 0 0,.slice none 0 0,.int .i64 0,.int .i64 cy,.int .i64 fr,.int .i64 te,.int .i64 du,.slice ay m cc,.int .i64 tot,.int .i64 cre,.int .i64 mi,.bool gr]).row hl1 (λb hb e=>by have:=hlf b hb;simp at this;omega);clear hl1;have Hlf:=Lib.hid hlf;clear hlf hrow hfr;obtain⟨Hm,Hb1,Hk01,Hpl⟩:=hid4 hm hb1 hk01 hpl;clear hpl hk01 hb1 hm;obtain⟨hput1,hput2⟩:=putRow (V:= #[.int .i64 0,.int .i64 0,.int .i64 0,.int .i64 0,.int .i64 0,.slice none 0 0,.int .i64 0,.int .i64 0,.slice none 0 0,.slice none 0 0,.int .i64 0,.int .i64 cy,.int .i64 fr,.int .i64 te,.int .i64 du,.slice ay m cc,.int .i64 tot,.int .i64 cre,.int .i64 mi,.bool gr]) Hb1.o Hk01.o (Nat.le_refl _);obtain⟨Hput1,Hput2⟩:=hid2 hput1 hput2;clear hput2 hput1
 go_wp2_with (refine wpList_store_row rfl 61 (.tmp 4) (.tmp 22) rfl w.heap.size #[.int .i64 0,.int .i64 0,.int .i64 0,.int .i64 0,.int .i64 0,.slice none 0 0,.int .i64 0,.int .i64 0,.slice none 0 0,.slice none 0 0,.int .i64 0,.int .i64 cy,.int .i64 fr,.int .i64 te,.int .i64 du,.slice ay m cc,.int .i64 tot,.int .i64 cre,.int .i64 mi,.bool gr] rfl rfl 61 #[.int .i64 0,.int .i64 0,.int .i64 0,.int .i64 0,.int .i64 0,.slice none 0 0,.int .i64 0,.int .i64 0,.slice none 0 0,.slice none 0 0,.int .i64 0,.int .i64 0,.int .i64 0,.int .i64 0,.int .i64 0,.slice none 0 0,.int .i64 0,.int .i64 0,.int .i64 0,.bool false] Hb1.o Au rfl (Ue cy fr te du tot cre mi ay m cc gr) ?_)
 exact bodyPost_ret (results_cell_row rfl _ _ w.heap.size 61 #[.int .i64 0,.int .i64 0,.int .i64 0,.int .i64 0,.int .i64 0,.slice none 0 0,.int .i64 0,.int .i64 0,.slice none 0 0,.slice none 0 0,.int .i64 0,.int .i64 cy,.int .i64 fr,.int .i64 te,.int .i64 du,.slice ay m cc,.int .i64 tot,.int .i64 cre,.int .i64 mi,.bool gr] _ _ rfl Hput1.o Tryz.underlying61 rfl Au) rfl ⟨ay,cc,by rw [Hm.o],by rw [Hm.o];exact Hpl.o,Hput2.o,by rw [Hm.o];exact λb hb=>by have:=Hlf.o b hb;simp at this;omega⟩
theorem Zp(w:World)(v:Value)(n:Nat)(xs:List Value)(hr:Reads w 9 v n xs)(h1:∀u∈xs,u.oneCell'=true)(hn:n<=1000000000000):
  Calls Tryz.prog 66 #[v] w λe w'=>∃v',e= .returned v'/\w'.ownsRow 0 142 9 v' n xs/\K0 w w'/\(∀k,v'.ownBlock=some k->w.heap.size<=k):=by
 obtain⟨i0,hi,hz0,hz1,hz2⟩:=info_parts Gz;have hr':=hr;obtain⟨ad,c,rfl,hnc,hl,hnone,hcells⟩:=hr';clear hcells;have heq:=fun(wx:World) (ad:Option Addr) (l c:Nat)=>Lib.run_eql_slice_nil (P:=Tryz.prog) wx 102 _ ad l c 0 0 Tryz.underlying102;rcases ad with _|a
 ·obtain rfl:=hnone rfl;obtain rfl:n=0:=by omega
  obtain rfl:xs= []:=List.eq_nil_of_length_eq_zero jL;clear hr;go_enter Tryz.func66,Tryz.ntmps66;exact jW
 ·have Hr:=Lib.hid hr;clear hr;clear hl hnone;have H1:=Lib.hid h1;clear h1;go_enter Tryz.func66,Tryz.ntmps66
  go_wp2_with (at_builtin;refine Am rfl (.tmp 5) (.tmp 6) 102 rfl 0 142 i0 _ 9 72 Tryz.underlying102 hi hz0 hz1 hz2 rfl j7 _ 0 [] rfl (World.ownsRow_lit w #[] 0 j6 jd rfl) _ n xs rfl (Hr.o.keeps (Keeps.alloc (S:=λ_=>False) _ _) (by simp)) H1.o jd j6 j6 ?_)
  intro v' w1 hown1 hk1 hfr
  have hend:w1.ownsRow 0 142 9 v' n xs/\K0 w w1/\(∀k,v'.ownBlock=some k->w.heap.size<=k):=by
   exact jX
  exact jY
theorem StmsR.ofP{w:World}{v:Value}{P:List SV}(h1:w.ownsRow 0 59 9 v P.length (P.flatMap SV.cells))(h2:∀y∈P,w.ownsRow 0 212 3 y.v y.s.lines.length (y.s.lines.flatMap Ln.cells))(h3:∀y∈P,y.s.lines.length<=1000):∃ad c,v= .slice ad P.length c/\StmsR w ad P.length c P:=by
 obtain⟨ad,c,rfl,_,_⟩:=Ae h1;exact⟨ad,c,rfl,Reads.Bg h1,λy hy=>Reads.Bg (h2 y hy),h3,rfl⟩
theorem AcAt.stmI{w:World}{B:Nat}{x:AcV}{a:Ac}(h:AcAt w B x a):∃ad c,x.vi= .slice ad x.I.length c/\StmsR w ad x.I.length c x.I/\x.I.length<=1000:=by
 have hn:=h.ok.nums;have hl:x.I.length=a.iss.length:=by rw [<-h.is,List.length_map]
 obtain⟨ad,c,h1,h2⟩:=StmsR.ofP h.iss h.iln λy hy=>by
  have:y.s∈a.iss:=by rw [<-h.is];exact List.mem_map.2 ⟨y,hy,rfl⟩
  have h3:=h.ok.ill _ this;have:=hn.n8;omega
 exact⟨ad,c,h1,h2,by rw [hl,h.ok.il];have:=hn.o3;omega⟩
theorem AcAt.stmN{w:World}{B:Nat}{x:AcV}{a:Ac}(h:AcAt w B x a):∃ad c,x.vn= .slice ad x.P.length c/\StmsR w ad x.P.length c x.P/\x.P.length<=1000:=by
 have hn:=h.ok.nums;have hl:x.P.length=a.s.out.length:=by rw [<-h.ns,List.length_map]
 obtain⟨ad,c,h1,h2⟩:=StmsR.ofP h.now h.nln λy hy=>by
  have:y.s∈a.s.out:=by rw [<-h.ns];exact List.mem_map.2 ⟨y,hy,rfl⟩
  have h3:=hn.ol _ this;have:=hn.n8;omega
 exact⟨ad,c,h1,h2,by rw [hl];have:=hn.o3;omega⟩
theorem Rn:(Tryz.prog.info? 54).map (·.size)=some 8:=by kernel_rfl
def StIs(a:Ac)(w w':World)(v1 v2 v3:Value):Prop:=w'.ownsRow 0 2 1 v1 a.s.p.bal.length (a.s.p.bal.flatMap i64c)/\w'.ownsRow 0 2 1 v2 a.s.R.length (a.s.R.flatMap i64c)/\w'.ownsRow 0 148 5 v3 a.D.length (a.D.flatMap Disp.cells)/\
 K0 w w'/\∀b,v1.ownBlock=some b\/v2.ownBlock=some b\/v3.ownBlock=some b->w.heap.size<=b
def Nf(a:Ac)(w:World)(e:Ending)(w':World):Prop:=∃a1 c1 a2 c2 a3 c3,e= .returned (.agg #[.int .i64 a.today,.int .i64 (a.cyc a.today),.slice a1 a.s.p.bal.length c1,.int .i64 a.s.p.cr,.int .i64 a.s.p.du,.slice a2 a.s.R.length c2,.slice a3 a.D.length c3,.int .i64 a.seq])/\StIs a w w' (.slice a1 a.s.p.bal.length c1) (.slice a2 a.s.R.length c2) (.slice a3 a.D.length c3)
def stS(B b bb:Nat)(td sq cr du:Int)(vr vp:Value)(w:World):Prop:=w.cell? ⟨B,7,none⟩=some (.int .i64 td)/\w.cell? ⟨B,8,none⟩=some (.int .i64 sq)/\w.cell? ⟨B,14,none⟩=some vr/\w.cell? ⟨B,10,none⟩=some (.pointer (some ⟨bb,0,none⟩))/\w.cell? ⟨b,0,none⟩=some vp/\w.cell? ⟨b,1,none⟩=some (.int .i64 cr)/\w.cell? ⟨b,2,none⟩=some (.int .i64 du)
theorem stS.keep{B b bb:Nat}{td sq cr du:Int}{vr vp:Value}{w w':World}(h:stS B b bb td sq cr du vr vp w){S:Nat->Prop}(hk:Keeps S w w')(h1:¬S B)(h2:¬S b):stS B b bb td sq cr du vr vp w':=by
 obtain⟨c0,c1,c2,c3,c4,c5,c6⟩:=h;exact⟨(hk.cell (Ai c0) h1).trans c0,(hk.cell (Ai c1) h1).trans c1,(hk.cell (Ai c2) h1).trans c2,(hk.cell (Ai c3) h1).trans c3,(hk.cell (Ai c4) h2).trans c4,(hk.cell (Ai c5) h2).trans c5,(hk.cell (Ai c6) h2).trans c6⟩
theorem Qh(B:Nat)(x:AcV)(a:Ac)(w:World)(h:AcAt w B x a):Calls Tryz.prog 13 #[(.pointer (some ⟨B,0,none⟩))] w (Nf a w):=by
 have hn:=h.ok.nums;obtain⟨n,hN⟩:=eX a.s.p.bal.length;obtain⟨m,hM⟩:=eX a.s.R.length;obtain⟨q,hQ⟩:=eX a.D.length;have hn8:n<=8:=by have:=hn.nb;have:=hn.n8;omega
 have hm8:m<=8:=by have:=hn.nr;have:=hn.n8;omega
 obtain⟨ap,cp,hvp,_,_⟩:=Ae h.bal;obtain⟨ar,cr,hvr,_,_⟩:=Ae h.rts;have hrp:=Reads.Bg h.bal;have hrr:=Reads.Bg h.rts;rw [hN] at hvp hrp;rw [hM] at hvr hrr;rw [hvp] at hrp;rw [hvr] at hrr;have hc1:=λW (hW:K0 w W)=>Fa W (.slice ap n cp) n _ (hrp.keeps hW (by simp)) (Jz _) j6;have hc2:=λW (hW:K0 w W)=>Fa W (.slice ar m cr) m _ (hrr.keeps hW (by simp)) (Jz _) j6;have hcy:=λW (hW:K0 w W)=>Qi B x a a.today W (h.keep0 hW);have hda:=λW (hW:K0 w W)=>Aby a.D x.vb x.bb W (h.bk.keeps hW (by simp));rw [hQ] at hda;obtain⟨cyn,hcyn⟩:=eX (a.cyc a.today);rw [hcyn] at hcy;obtain⟨td,htd⟩:=eX a.today;rw [htd] at hcy;obtain⟨sq,hsq⟩:=eX a.seq;obtain⟨pc,hpc⟩:=eX a.s.p.cr;obtain⟨pd,hpd⟩:=eX a.s.p.du;obtain⟨bb,hbb⟩:=eX x.bb;rw [hbb] at hda;have d7:w.cell? ⟨B,7,none⟩=some (.int .i64 td):=by rw [<-htd];exact Aa h.blk 7
 have d8:w.cell? ⟨B,8,none⟩=some (.int .i64 sq):=by rw [<-hsq];exact Aa h.blk 8
 have d10:w.cell? ⟨B,10,none⟩=some (.pointer (some ⟨bb,0,none⟩)):=by rw [<-hbb];exact Aa h.blk 10
 have c11:w.cell? ⟨B,11,none⟩=some (.slice ap n cp):=by rw [<-hvp];exact Aa h.blk 11
 have c12:w.cell? ⟨B,12,none⟩=some (.int .i64 pc):=by rw [<-hpc];exact Aa h.blk 12
 have c13:w.cell? ⟨B,13,none⟩=some (.int .i64 pd):=by rw [<-hpd];exact Aa h.blk 13
 have d14:w.cell? ⟨B,14,none⟩=some (.slice ar m cr):=by rw [<-hvr];exact Aa h.blk 14
 have hbl:=lt_of_block h.blk;obtain⟨W0,hW0⟩:=eY ((w.alloc (.cells #[.int .i64 0,.int .i64 0,.slice none 0 0,.int .i64 0,.int .i64 0,.slice none 0 0,.slice none 0 0,.int .i64 0] 54)).alloc (.cells #[.slice ap n cp,.int .i64 pc,.int .i64 pd] 51));have hr0:W0.heap[w.heap.size]?=some (.cells #[.int .i64 0,.int .i64 0,.slice none 0 0,.int .i64 0,.int .i64 0,.slice none 0 0,.slice none 0 0,.int .i64 0] 54 (0,0)):=by rw [hW0];exact Ap (heap_alloc_new w _) _
 have hp0:W0.heap[w.heap.size+1]?=some (.cells #[.slice ap n cp,.int .i64 pc,.int .i64 pd] 51 (0,0)):=by rw [hW0];exact Aw _ _ (by simp)
 have hk0:K0 w W0:=by rw [hW0];(repeat (first|exact Keeps.refl _ _|exact Keeps.alloc _ _|exact Keeps.drew _|exact Keeps.drewN _ _|refine Keeps.Ao ?_|refine Keeps.Al ?_|refine Keeps.Af ?_))
 have hw:Nf a=λw e w'=>∃a1 c1 a2 c2 a3 c3,e= .returned (.agg #[.int .i64 td,.int .i64 cyn,.slice a1 n c1,.int .i64 pc,.int .i64 pd,.slice a2 m c2,.slice a3 q c3,.int .i64 sq])/\StIs a w w' (.slice a1 n c1) (.slice a2 m c2) (.slice a3 q c3):=by
  unfold Nf;simp only [hcyn];simp only [hN,hM,hQ,htd,hsq,hpc,hpd]
 rw [hw];clear hn;clear h;obtain⟨HN,HM,HQ⟩:=hid3 hN hM hQ;clear hQ hM hN hvp hvr hrp hrr;obtain⟨Hc1,Hc2,Hcy,Hda⟩:=hid4 hc1 hc2 hcy hda;clear hda hcy hc2 hc1 hcyn htd hsq hpc hpd hbb;obtain⟨D7,D8,D10,D14,Hr0,Hp0,Hk0⟩:=hid7 d7 d8 d10 d14 hr0 hp0 hk0;clear hk0 hp0 hr0 d14 d10 d8 d7 hw;go_enter Tryz.func13,Tryz.ntmps13;go_wp2_with fail;rw [<-hW0];clear hW0;refine(Hc1.o _ Hk0.o).mono ?_;rintro e w1 ⟨v1,rfl,hrow1,hk1,hnew1⟩;obtain⟨a1,c1,rfl,_,_⟩:=Ae hrow1;have hr1:=j0A;have hp1:=Ad Hp0.o hk1 (by simp);have p0:=Aa hp1 0;have f0:=Ab hp1 0;have k2:Keeps (λi=>i=w.heap.size+1) w1 (w1.setCell ⟨w.heap.size+1,0,none⟩ (.slice a1 n c1)):=Keeps.setCell _ _ _ rfl;have hp2:=(heap_setCell_same _ _ 0 _ _ (.slice a1 n c1) hp1).trans rfl;have hr2:=Ad hr1 k2 j6;have hrow2:=k2.row hrow1 (λb hb e=>by have h1:=hnew1 b hb;have h2:=lt_of_block Hp0.o;have e':b=w.heap.size+1:=e;omega);have hkw2:K0 w (w1.setCell ⟨w.heap.size+1,0,none⟩ (.slice a1 n c1)):=(Hk0.o.nt hk1).trans (k2.mono λi _ e=> .inr jo);obtain⟨W2,hW2⟩:=eY (w1.setCell ⟨w.heap.size+1,0,none⟩ (.slice a1 n c1));rw [<-hW2] at hp2 hr2 hrow2 hkw2;have hf1:∀b,(Value.slice a1 n c1).ownBlock=some b->w.heap.size+1<b:=λb hb=>by have h1:=hnew1 b hb;have h2:=lt_of_block Hp0.o;omega
 clear k2 hnew1;clear hrow1 hk1 hr1 hp1;obtain⟨Hp2,Hr2,Hrow2,Hkw2,Hf1⟩:=hid5 hp2 hr2 hrow2 hkw2 hf1;clear hf1 hkw2 hrow2 hr2 hp2;clear c11 c12 c13
 go_upto_region 5 with fail
 rw [<-hW2];clear hW2 p0 f0
 have hS2:stS B (w.heap.size+1) bb td sq pc pd (.slice ar m cr) (.slice a1 n c1) W2:=by
  have hk:=Hkw2.o;exact⟨(hk.cell (Ai D7.o) (by simp)).trans D7.o,(hk.cell (Ai D8.o) (by simp)).trans D8.o,(hk.cell (Ai D14.o) (by simp)).trans D14.o,(hk.cell (Ai D10.o) (by simp)).trans D10.o,Aa Hp2.o 0,Aa Hp2.o 1,Aa Hp2.o 2⟩
 have HS2:=Lib.hid hS2;clear hS2;refine Ak (stS B (w.heap.size+1) bb td sq pc pd (.slice ar m cr) (.slice a1 n c1)) (.take 0 (.take 1 (.take 2 (.take 3 (.take 4 (.take 5 (.take 6 (.take 7 (.take 8 (.take 10 (.take 11 (.take 12 (.take 13 (.take 14 (.take 16 (.take 17 (.take 18 (.take 19 (.take 21 (.take 22 (.take 23 (.take 24 (.move 9 (.move 15 (.move 20 (.take 25 (.move 26 .done))))))))))))))))))))))))))) j9 j9 ?_ ?_
 ·exact HS2.o.keep (Keeps.drew (S:=λ_=>False) _) (by simp) (by simp)
 intro w3 hs3 hk3;refine je ?_;intro K hK
 go_at_call 33
 ((with_reducible refine(Hcy.o w3 (Hkw2.o.nt hk3)).mono ?_);rintro e w4 ⟨rfl,hk4⟩;dsimp only)
 refine hK.out _ _ (by exact hs3.keep hk4 (by simp) (by simp)) ?_;clear hK K;refine jc ?_;have hs4:=hs3.keep hk4 (by simp) (by simp);have hk24:=Keeps.nt hk3 hk4;clear hs3 hk3 hk4;refine je ?_;intro K hK
 go_at_call 32
 ((with_reducible refine(Hc2.o w4 (Hkw2.o.nt hk24)).mono ?_);rintro e w5 ⟨v2,rfl,hrow5,hk5,hnew5⟩;dsimp only)
 refine hK.out _ _ (by exact hs4.keep hk5 (by simp) (by simp)) ?_;clear hK K;refine jc ?_;obtain⟨a2,c2,rfl,_,_⟩:=Ae hrow5;have hs5:=hs4.keep hk5 (by simp) (by simp);have hk25:=Keeps.nt hk24 hk5;have hf5:∀b,(Value.slice a2 m c2).ownBlock=some b->W2.heap.size<=b:=λb hb=>by have:=hnew5 b hb;have:=hk24.size;omega
 clear hs4 hk24 hk5 hnew5;refine je ?_;intro K hK
 go_at_call 34
 ((with_reducible refine(Hda.o w5 (Hkw2.o.nt hk25)).mono ?_);rintro e w6 ⟨v3,rfl,hrow6,hk6,hnew6⟩;dsimp only)
 refine hK.out _ _ (by exact hs5.keep hk6 (by simp) (by simp)) ?_;clear hK K;refine jc ?_;obtain⟨a3,c3,rfl,_,_⟩:=Ae hrow6;have hs6:=hs5.keep hk6 (by simp) (by simp);have hk26:=Keeps.nt hk25 hk6;have hr6:=Ad Hr2.o hk26 (by simp);have hrow51:=hk6.row hrow5 (by simp);have hrow21:=hk26.row Hrow2.o (by simp);have hf6:∀b,(Value.slice a3 q c3).ownBlock=some b->W2.heap.size<=b:=λb hb=>by have:=hnew6 b hb;have:=hk25.size;omega
 have h2l:=lt_of_block Hr2.o;have kR:=Cg w6 w.heap.size #[.int .i64 td,.int .i64 cyn,.slice a1 n c1,.int .i64 pc,.int .i64 pd,.slice a2 m c2,.slice a3 q c3,.int .i64 sq];have hput:=putRow (V:= #[.int .i64 td,.int .i64 cyn,.slice a1 n c1,.int .i64 pc,.int .i64 pd,.slice a2 m c2,.slice a3 q c3,.int .i64 sq]) hr6 (Hkw2.o.nt hk26) (Nat.le_refl _);obtain⟨hput1,hput2⟩:=hput;have e1:=kR.row hrow21 (λb hb e=>by have:=Hf1.o b hb;have e':b=w.heap.size:=e;omega);have e2:=kR.row hrow51 (λb hb e=>by have:=hf5 b hb;have e':b=w.heap.size:=e;omega);have e3:=kR.row hrow6 (λb hb e=>by have:=hf6 b hb;have e':b=w.heap.size:=e;omega)
 have hend:StIs a w (w6.setRow w.heap.size #[.int .i64 td,.int .i64 cyn,.slice a1 n c1,.int .i64 pc,.int .i64 pd,.slice a2 m c2,.slice a3 q c3,.int .i64 sq]) (.slice a1 n c1) (.slice a2 m c2) (.slice a3 q c3):=by
  refine⟨by rw [HN.o];exact e1,by rw [HM.o];exact e2,by rw [HQ.o];exact e3,hput2,λb hb=> ?_⟩;rcases hb with hb|hb|hb
  ·have:=Hf1.o b hb;omega
  ·have:=hf5 b hb;omega
  ·have:=hf6 b hb;omega
 have hs7:=hs6.keep kR j6 j6;have h1:(#[.int .i64 td,.int .i64 cyn,.slice a1 n c1,.int .i64 pc,.int .i64 pd,.slice a2 m c2,.slice a3 q c3,.int .i64 sq]:Array Value).all (·.oneCell')=true:=by simp [Value.oneCell']
 clear hs5 hk25 hk6 hnew6 kR e1 e2 e3 hput2 hf5 hf6 hrow51 hrow21 hrow5 hrow6 hk26 h2l;have Hs7:=Lib.hid hs7;clear hs7;obtain⟨Hput1,Hend,Hr6,H1⟩:=hid4 hput1 hend hr6 h1;clear h1 hr6 hend hput1;refine jR ?_;refine Ag rfl (λK hK=> ?_);refine wp_store_row 54 (.tmp 2) (.tmp 40) rfl w.heap.size #[.int .i64 td,.int .i64 cyn,.slice a1 n c1,.int .i64 pc,.int .i64 pd,.slice a2 m c2,.slice a3 q c3,.int .i64 sq] rfl rfl 54 #[.int .i64 0,.int .i64 0,.slice none 0 0,.int .i64 0,.int .i64 0,.slice none 0 0,.slice none 0 0,.int .i64 0] Hr6.o Rn rfl H1.o ?_;refine hK.out _ _ (by exact Hs7.o) ?_;clear hK K;refine jq ?_;go_wp2_with fail;exact bodyPost_ret (results_cell_row rfl _ _ w.heap.size 54 _ _ _ rfl Hput1.o Tryz.underlying54 rfl Rn) rfl ⟨a1,c1,a2,c2,a3,c3,rfl,Hend.o⟩
end Go.Proofs.YtjkdnaljkdnomaaGreatDoor
