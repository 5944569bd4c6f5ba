/- Part 14 of what the laws of this seat share: walks of functions, and plain laws. -/
import Derived.Test.YtjkdnaljkdnomaaGreatDoorS5
set_option maxRecDepth 100000
set_option maxHeartbeats 1600000
namespace Go.Proofs.YtjkdnaljkdnomaaGreatDoor
open Go.RowKit
structure Fg(y m d n:Int):Prop where
 y0:1600<=y
 m0:1<=m
 m1:m<=12
 d0:1<=d
 d1:d<=mlen y m
 eq:n=nY y+cumT y m+d-1
theorem Xv{y:Int}{a:Int}(h0:1<=a):∀k:Nat,a+k<=13->cumT y a<=cumT y (a+k)
 |0,_=>by simp
 |k+1,h=>by
  have h1:=Xv (y:=y) h0 k (by omega);have h2:=Dz (y:=y) (m:=a+k) (by omega) (by omega);rw [show a+((k+1:Nat):Int)=a+k+1 by omega];omega
theorem Ti{y a b:Int}(h0:1<=a)(h1:a<=b)(h2:b<=13):cumT y a<=cumT y b:=by
 have:=Xv (y:=y) h0 (b-a).toNat j6
 rwa [show a+((b-a).toNat:Int)=b by omega] at this
theorem Fg.year{y m d n:Int}(h:Fg y m d n):nY y<=n/\n<nY (y+1):=by
 have h1:=Dz (y:=y) (m:=m) h.m0 h.m1;have h2:=Ti (y:=y) (a:=m+1) (b:=13) (by have:=h.m0;omega) (by have:=h.m1;omega) j6;have h3:=Ti (y:=y) (a:=1) (b:=m) j6 h.m0 (by have:=h.m1;omega);rw [Ut] at h2;rw [Qf] at h3;have h4:=Mx h.y0;have:=h.d0;have:=h.d1;have:=h.eq;omega
theorem MoAt.walk{y r m:Int}(hr:r<ylen y)(h0:1<=m)(h1:m<=12)(hq:cumT y m<=r):∀k:Nat,(k:Int)<m->MoAt y r (k+1) (r-cumT y ((k:Int)+1))
 |0,_=>by
  have:cumT y 1<=cumT y m:=Ti (by omega) h0 (by omega);rw [Qf] at this;have:=MoAt.start (y:=y) (r:=r) (by omega)
  simpa [Qf] using this
 |k+1,hk=>by
  have ih:=MoAt.walk hr h0 h1 hq k (by omega);have hs:=Dz (y:=y) (m:=(k:Int)+1) (by omega) (by omega);have hle:=Ti (y:=y) (a:=(k:Int)+1+1) (b:=m) (by omega) (by omega) (by omega);have hkk:((k+1:Nat):Int)=(k:Int)+1:=by omega
  have:=ih.next hr (by rw [hkk];omega);rw [hkk] at this⊢
  rwa [show r-cumT y ((k:Int)+1)-mlen y ((k:Int)+1)=r-cumT y ((k:Int)+1+1) by omega] at this
theorem Fg.found{y m d n:Int}(h:Fg y m d n)(hn:n<=2932896):dY n=y/\dM n=m/\dD n=d:=by
 obtain⟨h1,h2⟩:=h.year;obtain⟨hy,_⟩:=Aa4 h.y0 h1 h2 hn;have hs:=Mx h.y0;have hd0:=h.d0;have hd1:=h.d1;have heq:=h.eq;have hm0:=h.m0;have hm1:=h.m1;have hw:=MoAt.walk (y:=y) (r:=n-nY y) (m:=m) j6 hm0 hm1 j6 (m-1).toNat j6;rw [show(((m-1).toNat:Nat):Int)+1=m by omega,show(m-1).toNat+1=m.toNat by omega] at hw;have hc:((m.toNat:Nat):Int)=m:=j8;have hdone:=hw.done (by rw [hc];omega);rw [hc] at hdone;refine⟨hy, ?_, ?_⟩
 ·unfold dM;rw [hy,hdone]
 ·unfold dD;rw [hy,hdone];show n-nY y-cumT y m+1=d;omega
theorem Xu{y m d n:Int}(h:Fg y m d n):(d<mlen y m/\Fg y m (d+1) (n+1))\/(d=mlen y m/\m<12/\Fg y (m+1) 1 (n+1))\/(d=mlen y m/\m=12/\Fg (y+1) 1 1 (n+1)):=by
 obtain⟨y0,m0,m1,d0,d1,eq⟩:=h;have hc:=Dz (y:=y) (m:=m) m0 m1;by_cases hd:d<mlen y m
 ·exact .inl ⟨hd,y0,m0,m1,by omega,by omega,by omega⟩
 ·by_cases hm:m<12
  ·have hc2:=Dz (y:=y) (m:=m+1) j6 j6;exact .inr (.inl ⟨by omega,hm,y0,by omega,by omega,by omega,by omega,by omega⟩)
  ·obtain rfl:m=12:=by omega
   have hc2:=Dz (y:=y+1) (m:=1) j6 j6;have he:=Ut y;have hy:=Mx y0;rw [show(12:Int)+1=13 by rfl,he] at hc;exact .inr (.inr ⟨by omega,rfl,by omega,by omega,by omega,by omega,by omega,by rw [Qf];omega⟩)
theorem date_ex:∀k:Nat,∃y m d,Fg y m d (-135140+k)
 |0=>⟨1600,1,1,by decide,by decide,by decide,by decide,by decide,by decide⟩
 |k+1=>by
  obtain⟨y,m,d,h⟩:=date_ex k;rw [show(-135140:Int)+((k+1:Nat):Int)= -135140+k+1 by omega];rcases Xu h with⟨_,h⟩|⟨_,_,h⟩|⟨_,_,h⟩
  ·exact⟨_,_,_,h⟩
  ·exact⟨_,_,_,h⟩
  ·exact⟨_,_,_,h⟩
theorem date_is{n:Int}(h0: -135140<=n)(h1:n<=2932896):Fg (dY n) (dM n) (dD n) n:=by
 obtain⟨y,m,d,h⟩:=date_ex (n+135140).toNat;rw [show(-135140:Int)+((n+135140).toNat:Int)=n by omega] at h;obtain⟨e1,e2,e3⟩:=h.found h1;rw [e1,e2,e3];exact h
theorem Fg.same{y m d n:Int}(h:Fg y m d n)(k:Int)(h0:1<=d+k)(h1:d+k<=mlen y m):Fg y m (d+k) (n+k):=⟨h.y0,h.m0,h.m1,h0,h1,by have:=h.eq;omega⟩
theorem Fg.over{y m d n:Int}(h:Fg y m d n)(k:Int)(h0:1<=k)(h1:k<=28):∃y' m',Fg y' m' k (n-d+mlen y m+k):=by
 have hl:=h.same (mlen y m-d) (by have:=h.d0;have:=h.d1;omega) j6;rw [show d+(mlen y m-d)=mlen y m by omega] at hl;rcases Xu hl with⟨hh,_⟩|⟨_,hm,hn⟩|⟨_,hm,hn⟩
 ·omega
 ·have:=Dz (y:=y) (m:=m+1) (by have:=h.m0;omega) j6;exact j3i
 ·have:=Dz (y:=y+1) (m:=1) j6 j6;exact j3i
def lastF(fr cd:Int):Int:=if fr-dD fr+cd-1<fr then fr-dD fr+cd-1+mlen (dY fr) (dM fr) else fr-dD fr+cd-1
def lastE(fr cd:Int):Int:=if cd<1\/28<cd then 1 else if¬(-135140<=fr/\fr<=2932896) then 10 else if 2932896<lastF fr cd then 10 else 0
theorem Abg{fr cd:Int}(h0: -135140<=fr)(h1:fr<=2932896)(c0:1<=cd)(c1:cd<=28):fr<=lastF fr cd/\lastF fr cd<=fr+31:=by
 have h:=date_is h0 h1;have hm:=(Dz (y:=dY fr) (m:=dM fr) h.m0 h.m1).2;have:=h.d0;have:=h.d1;unfold lastF
 split<;>omega
def lastV(fr cd:Int):Int:=if lastE fr cd=0 then lastF fr cd else 0
theorem Sb(fr cd:Int)(w:World)(hf: -1000000000000<=fr/\fr<=1000000000000):Calls Tryz.prog 93 #[.int .i64 fr,.int .i64 cd] w λe w'=>e= .returned (.tuple #[.int .i64 (lastV fr cd),.int .i64 (lastE fr cd)])/\K0 w w':=by
 obtain⟨hf0,hf1⟩:=hf;by_cases hc:cd<1\/28<cd
 ·have he:lastE fr cd=1:=by unfold lastE;rw [if_pos hc]
  have hv:lastV fr cd=0:=by unfold lastV;rw [if_neg (by rw [he];decide)]
  rw [he,hv];clear he hv;go_enter Tryz.func93,Tryz.ntmps93;rcases hc with hc|hc
  ·exact j3j
  ·have hc2:¬cd<1:=j8;exact j3j
 ·have c1:¬cd<1:=j8;have c2:¬28<cd:=j8;have hdt:=Ac0 fr w j6;by_cases hin: -135140<=fr/\fr<=2932896
  ·have hd:dayIn fr=true:=by simp [dayIn,hin]
   rw [if_pos hd,if_pos hd] at hdt;have h:=date_is hin.1 hin.2;have hm:=(Dz (y:=dY fr) (m:=dM fr) h.m0 h.m1).2;have y0:=h.y0;have m0:=h.m0;have m1:=h.m1;have d0:=h.d0;have d1:=h.d1;have hlen:=λW=>Nu (dY fr) (dM fr) j6 m0 m1 W;have hlf:lastF fr cd=if fr-dD fr+cd-1<fr then fr-dD fr+cd-1+mlen (dY fr) (dM fr) else fr-dD fr+cd-1:=rfl;have hle:lastE fr cd=if 2932896<lastF fr cd then 10 else 0:=by unfold lastE;rw [if_neg hc,if_neg j6]
   have hlv:lastV fr cd=if lastE fr cd=0 then lastF fr cd else 0:=rfl;obtain⟨F,hF⟩:=eX (lastF fr cd);obtain⟨E,hE⟩:=eX (lastE fr cd);obtain⟨V,hV⟩:=eX (lastV fr cd);obtain⟨Y,hY⟩:=eX (dY fr);obtain⟨M,hM⟩:=eX (dM fr);obtain⟨D,hD⟩:=eX (dD fr);obtain⟨l,hl⟩:=eX (mlen Y M);rw [hF] at hlf hle hlv;rw [hE] at hle hlv;rw [hV] at hlv;rw [hE,hV];rw [hY,hM] at hlf hm hlen hdt d1;rw [hD] at hdt hlf d0 d1;rw [hl] at hlf hm hlen d1;obtain⟨hin0,hin1⟩:=hin;clear h y0 m0 m1 hc;by_cases ha:fr-D+cd-1<fr
   ·rw [if_pos ha] at hlf;subst hlf;by_cases hb:2932896<fr-D+cd-1+l
    ·rw [if_pos hb] at hle;subst hle;rw [if_neg j7] at hlv;subst hlv;clear hd;obtain⟨Hdt,Hlen⟩:=hid2 hdt hlen;clear hlen hdt hF hE hV hY hM hD hl;go_enter Tryz.func93,Tryz.ntmps93;go_wp2_with fail;refine Hdt.o.mono ?_;rintro e w1 ⟨rfl,hk1⟩;have Hk1:=Lib.hid hk1;clear hk1;go_wp2_with fail;refine(Hlen.o _).mono ?_;rintro e w2 ⟨rfl,rfl⟩;go_wp2_with fail;exact j1K
    ·rw [if_neg hb] at hle;subst hle;rw [if_pos rfl] at hlv;subst hlv;clear hd;obtain⟨Hdt,Hlen⟩:=hid2 hdt hlen;clear hlen hdt hF hE hV hY hM hD hl;go_enter Tryz.func93,Tryz.ntmps93;go_wp2_with fail;refine Hdt.o.mono ?_;rintro e w1 ⟨rfl,hk1⟩;have Hk1:=Lib.hid hk1;clear hk1;go_wp2_with fail;refine(Hlen.o _).mono ?_;rintro e w2 ⟨rfl,rfl⟩;go_wp2_with fail;exact bodyPost_ret (v:= .tuple #[.int .i64 (fr-D+cd-1+l),.int .i64 0]) j0U rfl ⟨rfl,Hk1.o.nt jg⟩
   ·rw [if_neg ha] at hlf;subst hlf;by_cases hb:2932896<fr-D+cd-1
    ·rw [if_pos hb] at hle;subst hle;rw [if_neg j7] at hlv;subst hlv;clear hd;obtain⟨Hdt,Hlen⟩:=hid2 hdt hlen;clear hlen hdt hF hE hV hY hM hD hl;go_enter Tryz.func93,Tryz.ntmps93;go_wp2_with fail;refine Hdt.o.mono ?_;rintro e w1 ⟨rfl,hk1⟩;have Hk1:=Lib.hid hk1;clear hk1;go_wp2_with fail;exact j1K
    ·rw [if_neg hb] at hle;subst hle;rw [if_pos rfl] at hlv;subst hlv;clear hd;obtain⟨Hdt,Hlen⟩:=hid2 hdt hlen;clear hlen hdt hF hE hV hY hM hD hl;go_enter Tryz.func93,Tryz.ntmps93;go_wp2_with fail;refine Hdt.o.mono ?_;rintro e w1 ⟨rfl,hk1⟩;have Hk1:=Lib.hid hk1;clear hk1;go_wp2_with fail;exact bodyPost_ret (v:= .tuple #[.int .i64 (fr-D+cd-1),.int .i64 0]) j0U rfl ⟨rfl,Hk1.o.nt jg⟩
  ·have hd:dayIn fr=false:=by simp [dayIn];omega
   have hdd:¬dayIn fr=true:=by rw [hd];decide
   rw [if_neg hdd,if_neg hdd] at hdt;have he:lastE fr cd=10:=by unfold lastE;rw [if_neg hc,if_pos hin]
   have hv:lastV fr cd=0:=by unfold lastV;rw [if_neg (by rw [he];decide)]
   rw [he,hv];clear hin hc;clear he hv hd hdd;have Hdt:=Lib.hid hdt;clear hdt;go_enter Tryz.func93,Tryz.ntmps93;go_wp2_with fail;refine Hdt.o.mono ?_;rintro e w1 ⟨rfl,hk1⟩;have Hk1:=Lib.hid hk1;clear hk1;go_wp2;exact j1K
def spc(p:Int×Int):List Value:= [.int .i64 p.1,.int .i64 p.2]
theorem Ada:(Tryz.prog.info? 56).map (λi=>(i.zero,i.size,i.bytes))=some (some (.agg #[.int .i64 0,.int .i64 0]),2,16):=by kernel_rfl
def findW(cd day:Int):Nat->Int->List (Int×Int)×Bool
 |0,_=>([],false)
 |f+1,fr=>if lastE fr cd=0 then(if lastF fr cd<day/\f≠0 then((fr,lastF fr cd)::(findW cd day f (lastF fr cd+1)).1,(findW cd day f (lastF fr cd+1)).2) else([(fr,lastF fr cd)],decide (fr<=day)&&decide (day<=lastF fr cd))) else([],false)
structure Ji(S:Nat->Prop)(w0:World)(bl bd bi:Nat)(day:Int)(v:Value)(L:List (Int×Int))(b:Bool)(W:World):Prop where
 l:W.heap[bl]?=some (.cells #[v] 191 (0,0))
 d:W.heap[bd]?=some (.cells #[.int .i64 day] 3 (0,0))
 i:W.heap[bi]?=some (.cells #[.bool b] 4 (0,0))
 row:W.ownsRow 0 56 2 v L.length (L.flatMap spc)
 fr:∀g,v.ownBlock=some g->w0.heap.size<=g
 kp:Keeps S w0 W
theorem Ji.keep{S:Nat->Prop}{w0 W W':World}{bl bd bi:Nat}{day:Int}{v:Value}{L:List (Int×Int)}{b:Bool}(h:Ji S w0 bl bd bi day v L b W)(hk:K0 W W'):Ji S w0 bl bd bi day v L b W':=
 ⟨Ad h.l hk (by simp),Ad h.d hk (by simp),Ad h.i hk (by simp),h.row.of_keeps hk,h.fr,h.kp.trans (hk.mono (by simp))⟩
theorem Qe(S:Nat->Prop)(w0:World)(bl bd bi:Nat)(day:Int)(v:Value)(L:List (Int×Int))(b:Bool)(n fr te:Int)(W:World)(h:Ji S w0 bl bd bi day v L b W)(hSl:S bl)(hSi:S bi)(hL:L.length<=1000000):
  Calls Tryz.prog 121 #[.int .i64 n,.agg #[.int .i64 fr,.int .i64 te],(.pointer (some ⟨bl,0,none⟩)),(.pointer (some ⟨bd,0,none⟩)),(.pointer (some ⟨bi,0,none⟩))] W λe w'=>e= .returned (.bool (decide (te<day)&&decide (n<300)))/\Keeps (λi=>i=bl\/i=bi\/v.ownBlock=some i) W w'/\∃v',Ji S w0 bl bd bi day v' (L++ [(fr,te)]) (decide (fr<=day)&&decide (day<=te)) w':=by
 obtain⟨i0,hi,hi0,hi1,hi2⟩:=info_parts Ada;obtain⟨hl,hd,hib,hrow,hfr,hkp⟩:=h;have hlv:=Ah hrow hl j7;have hdv:=Ah hrow hd j7;have hiv:=Ah hrow hib j7;have nld:bl≠bd:=λe=>by subst e;rw [hl] at hd;simp at hd
 have nli:bl≠bi:=λe=>by subst e;rw [hl] at hib;simp at hib
 have ndi:bd≠bi:=λe=>by subst e;rw [hd] at hib;simp at hib
 obtain⟨ad,cap,hv,_,_⟩:=Ae hrow;obtain⟨q,hq⟩:=eX L.length;rw [hq] at hrow hv hL;subst hv;have cl:=Aa hl 0;have bll:=lt_of_block hl;obtain⟨r,hr⟩:=eX (decide (fr<=day)&&decide (day<=te));obtain⟨r2,hr2⟩:=eX (decide (te<day)&&decide (n<300));rw [hr,hr2]
 have hW1:∀v' w',Keeps (λi=>(Value.slice ad q cap).ownBlock=some i) W w'->w'.ownsRow 0 56 2 v' (q+1) ((L++ [(fr,te)]).flatMap spc)->(v'.ownBlock=(Value.slice ad q cap).ownBlock\/∃g,v'.ownBlock=some g/\W.heap.size<=g)->
  Keeps (λi=>i=bl\/i=bi\/(Value.slice ad q cap).ownBlock=some i) W ((w'.setCell ⟨bl,0,none⟩ v').setCell ⟨bi,0,none⟩ (.bool r))/\Ji S w0 bl bd bi day v' (L++ [(fr,te)]) r ((w'.setCell ⟨bl,0,none⟩ v').setCell ⟨bi,0,none⟩ (.bool r)):=by
  intro v' w' hk ho hf;have h1:=Ad hl hk hlv;have h2:=Ad hd hk hdv;have h3:=Ad hib hk hiv;have hs:=hkp.size
  have nv:∀g,v'.ownBlock=some g->g≠bl/\g≠bi:=by
   intro g hg;rcases hf with e|⟨g',e,h'⟩
   ·exact⟨λe2=>by subst e2;exact hlv (e▸hg),λe2=>by subst e2;exact hiv (e▸hg)⟩
   ·rw [e] at hg;simp only [Option.some.injEq] at hg;have:=lt_of_block hib;exact⟨by omega,by omega⟩
  have k1:Keeps (λi=>i=bl) w' (w'.setCell ⟨bl,0,none⟩ v'):=Keeps.setCell _ _ _ rfl;have k2:Keeps (λi=>i=bi) (w'.setCell ⟨bl,0,none⟩ v') ((w'.setCell ⟨bl,0,none⟩ v').setCell ⟨bi,0,none⟩ (.bool r)):=Keeps.setCell _ _ _ rfl
  have kk:Keeps (λi=>i=bl\/i=bi\/(Value.slice ad q cap).ownBlock=some i) W ((w'.setCell ⟨bl,0,none⟩ v').setCell ⟨bi,0,none⟩ (.bool r)):=
   ((hk.mono λi _ e=> .inr (.inr e)).trans (k1.mono λi _ e=> .inl (.inl e))).trans (k2.mono λi _ e=> .inl (.inr (.inl e)))
  refine⟨kk, ?_, ?_, ?_, ?_, ?_, ?_⟩
  ·exact Ad ((heap_setCell_same _ _ 0 _ _ _ h1).trans rfl) k2 (λe=>nli e)
  ·exact Ad (Ad h2 k1 (λe=>nld e.symm)) k2 (λe=>ndi e)
  ·exact(heap_setCell_same _ _ 0 _ _ _ (Ad h3 k1 (λe=>nli e.symm))).trans rfl
  ·rw [List.length_append,hq];exact k2.row (k1.row ho (λg hg e=>(nv g hg).1 e)) (λg hg e=>(nv g hg).2 e)
  ·intro g hg;rcases hf with e|⟨g',e,h'⟩
   ·exact hfr g (by rw [<-e];exact hg)
   ·exact j1h
  ·exact hkp.trans (kk.mono λi _ e=>by
    rcases e with rfl|rfl|e
    ·exact .inl hSl
    ·exact .inl hSi
    ·exact .inr (hfr i e))
 obtain⟨Hl,Hd,Hib,Hrow⟩:=hid4 hl hd hib hrow;clear hrow hib hd hl hfr hkp hq;obtain⟨Hi,Hi0,Hi1,Hi2,HW1,Hlv,Hdv,Hiv,Hr⟩:=hid9 hi hi0 hi1 hi2 hW1 hlv hdv hiv hr;clear hr hiv hdv hlv hW1 hi2 hi1 hi0 hi;have Hr2:=Lib.hid hr2;clear hr2;go_enter Tryz.func121,Tryz.ntmps121
 go_wp2_with (at_builtin;refine Am rfl (.tmp 8) (.tmp 10) 191 rfl 0 56 i0 _ 2 16 Tryz.underlying191 Hi.o Hi0.o Hi1.o Hi2.o rfl j7 _ q _ rfl ((Hrow.o.alloc _).alloc _) _ 1 _ rfl (Reads.litAt _ _ _ 2 1 _ jr rfl) jf jd j6 (Nat.zero_le _) ?_;intro v4 w4 hown4 hk4 hf4;refine haltD ?_)
 refine Lib.hid ?_;have hnB:¬(Value.slice ad q cap).ownBlock=some W.heap.size:=λe=>by have:=Ch Hrow.o e;omega
 have hkW:Keeps (λi=>(Value.slice ad q cap).ownBlock=some i) W w4:=((Keeps.alloc W (.cells #[.int .i64 fr,.int .i64 te] 56)).trans (Keeps.alloc _ _)).trans (hk4.mono λi _ e=> .inl e);have hb4:=Ad (Ap (heap_alloc_new W (.cells #[.int .i64 fr,.int .i64 te] 56)) _) hk4 hnB;have s0:=Aa hb4 0;have s1:=Aa hb4 1;have l4:=Ad Hl.o hkW Hlv.o;have d4:=Ad Hd.o hkW Hdv.o;have i4:=Ad Hib.o hkW Hiv.o;have lc:=Aa l4 0;have lf:=Ab l4 0;have dc:=Aa d4 0;have ic:=Aa i4 0;have if0:=Ab i4 0;have hpost:=HW1.o v4 w4 hkW (by rw [List.flatMap_append];exact hown4) (hf4.imp id fun⟨g,h1,h2⟩=>⟨g,h1,by simp at h2;omega⟩);have hbS:W.heap.size≠bl:=j8;have hbS2:W.heap.size≠bi:=by have:=lt_of_block Hib.o;omega
 obtain⟨ad4,c4,rfl,_,_⟩:=Ae hown4;have Hpost:=Lib.hid hpost;clear hpost hkW hb4 l4 d4 i4;clear hown4 hk4 hf4 hnB;by_cases b1:fr<=day
 ·by_cases b2:day<=te
  ·have b3:¬te<day:=j8;exact j0b
  ·have b3:te<day:=j8;by_cases b4:n<300
   ·skip
    exact j0b
   ·skip
    exact j0b
 ·by_cases b3:te<day
  ·by_cases b4:n<300
   ·skip
    exact j0b
   ·skip
    exact j0b
  ·skip
   exact j0b
theorem Ji.set{S:Nat->Prop}{w0 W:World}{bl bd bi:Nat}{day:Int}{v:Value}{L:List (Int×Int)}{b:Bool}(h:Ji S w0 bl bd bi day v L b W){B:Nat}(hS:S B)(h1:bl≠B)(h2:bd≠B)(h3:bi≠B)(h4:B<w0.heap.size)(j:Nat)(u:Value):Ji S w0 bl bd bi day v L b (W.setCell ⟨B,j,none⟩ u):=by
 have k:Keeps (λi=>i=B) W (W.setCell ⟨B,j,none⟩ u):=Keeps.setCell _ _ _ rfl;exact⟨Ad h.l k h1,Ad h.d k h2,Ad h.i k h3,k.row h.row (λg hg e=>by have:=h.fr g hg;omega),h.fr,h.kp.trans (k.mono λi _ e=> .inl (e▸hS))⟩
def spFr(cd:Int)(clo:Value)(n:Nat)(B:Nat)(u:Nat->Value):Act:={ tmps:= #[u 0,.int .i64 cd,clo,u 3,u 4,u 5,u 6,.int .i64 ((n:Nat):Int),(.pointer (some ⟨B,0,none⟩)),u 9,u 10,u 11,u 12,u 13,u 14,u 15,u 16,u 17,u 18,u 19,u 20,u 21,u 22,u 23,u 24,u 25,u 26,u 27,u 28,u 29,u 30,u 31,u 32,u 33],defers:= [] }
def Aac(i:Nat)(a':Act):Nat:=match a'.tmps.getD i undef with| .int _ n=>n.toNat|_=>0
def spW(w:World)(st:Int):World:=w.alloc (.cells #[.int .i64 st,.int .i64 0] 56)
structure SpAt(w:World)(bl bd bi:Nat)(st cd day:Int)(k:Nat)(fr te:Int)(L:List (Int×Int))(v:Value)(W:World):Prop where
 k3:k<300
 box:W.heap[w.heap.size]?=some (.cells #[.int .i64 fr,.int .i64 te] 56 (0,0))
 fa:Ji (λi=>i=bl\/i=bi\/i=w.heap.size) (spW w st) bl bd bi day v L false W
 f0: -1000000000000<=fr
 f1:fr<=1000000000000
 len:L.length=k
 eq:findW cd day 300 st=(L++(findW cd day (300-k) fr).1,(findW cd day (300-k) fr).2)
def spJ(w:World)(bl bd bi:Nat)(st cd day:Int)(clo:Value)(a':Act)(W:World):Prop:=∃(k:Nat) (fr te:Int) (L:List (Int×Int)) (v:Value) (u:Nat->Value),a'=spFr cd clo (k+1) w.heap.size u/\SpAt w bl bd bi st cd day k fr te L v W
theorem spJ.mk{w:World}{bl bd bi:Nat}{st cd day:Int}{clo:Value}{a':Act}{W:World}(k:Nat)(fr te:Int)(L:List (Int×Int))(v:Value)(h:a'=spFr cd clo (k+1) w.heap.size (λi=>a'.tmps.getD i undef))(hs:SpAt w bl bd bi st cd day k fr te L v W):spJ w bl bd bi st cd day clo a' W:=⟨k,fr,te,L,v,_,h,hs⟩
theorem findW_bad{cd day fr:Int}{f:Nat}(h:¬lastE fr cd=0):findW cd day f fr=([],false):=by
 cases f with
 |zero=>rfl
 |succ f=>unfold findW;rw [if_neg h]
theorem Adf{cd day fr:Int}{f:Nat}(h:lastE fr cd=0)(h2:¬(lastF fr cd<day/\f≠0)):findW cd day (f+1) fr=([(fr,lastF fr cd)],decide (fr<=day)&&decide (day<=lastF fr cd)):=by
 conv=>lhs;unfold findW
 rw [if_pos h,if_neg h2]
theorem findW_go{cd day fr:Int}{f:Nat}(h:lastE fr cd=0)(h2:lastF fr cd<day/\f≠0):findW cd day (f+1) fr=((fr,lastF fr cd)::(findW cd day f (lastF fr cd+1)).1,(findW cd day f (lastF fr cd+1)).2):=by
 conv=>lhs;unfold findW
 rw [if_pos h,if_pos h2]
theorem lastE_ok{fr cd:Int}(h:lastE fr cd=0):1<=cd/\cd<=28/\ -135140<=fr/\fr<=2932896/\lastF fr cd<=2932896/\fr<=lastF fr cd:=by
 unfold lastE at h
 split at h
 ·cases h
 ·split at h
  ·cases h
  ·split at h
   ·cases h
   ·have:=Abg (fr:=fr) (cd:=cd) j6 j6 j6 j6;omega
def Vi(bl bi:Nat)(st cd day:Int)(w:World)(e:Ending)(w':World):Prop:=∃z v,e= .returned (.int .i64 z)/\w'.heap[bl]?=some (.cells #[v] 191 (0,0))/\w'.heap[bi]?=some (.cells #[.bool (findW cd day 300 st).2] 4 (0,0))/\w'.ownsRow 0 56 2 v (findW cd day 300 st).1.length ((findW cd day 300 st).1.flatMap spc)/\(∀g,v.ownBlock=some g->w.heap.size<=g)/\Keeps (λi=>i=bl\/i=bi) w w'
theorem Vi.of{w W:World}{bl bd bi:Nat}{st cd day:Int}{L:List (Int×Int)}{v:Value}{b:Bool}(h:Ji (λi=>i=bl\/i=bi\/i=w.heap.size) (spW w st) bl bd bi day v L b W)(he:findW cd day 300 st=(L,b))(z:Int):Vi bl bi st cd day w (.returned (.int .i64 z)) W:=by
 refine⟨z,v,rfl,h.l,by rw [he];exact h.i,by rw [he];exact h.row,λg hg=>by have:=h.fr g hg;simp [spW] at this;omega,(Keeps.alloc w _).trans (h.kp.mono λi _ e=> ?_)⟩;rcases e with e|e|e
 ·exact .inl (.inl e)
 ·exact .inl (.inr e)
 ·exact .inr j6
theorem Zk(st cd day:Int)(bl bd bi:Nat)(w:World)(hl:w.heap[bl]?=some (.cells #[.slice none 0 0] 191 (0,0)))(hd:w.heap[bd]?=some (.cells #[.int .i64 day] 3 (0,0)))(hi:w.heap[bi]?=some (.cells #[.bool false] 4 (0,0)))(hst: -1000000000000<=st/\st<=1000000000000):
  Calls Tryz.prog 120 #[.int .i64 st,.int .i64 cd,.func (.func 121) #[] #[(.pointer (some ⟨bl,0,none⟩)),(.pointer (some ⟨bd,0,none⟩)),(.pointer (some ⟨bi,0,none⟩))]] w (Vi bl bi st cd day w):=by
 obtain⟨st0,st1⟩:=hst;have ll:=lt_of_block hl;have dl:=lt_of_block hd;have il:=lt_of_block hi
 have hstart:SpAt w bl bd bi st cd day 0 st 0 [] (.slice none 0 0) (spW w st):=
  ⟨by omega,heap_alloc_new w _,⟨Ap hl _,Ap hd _,Ap hi _,World.ownsRow_nil _ _ _ _,by simp [Value.ownBlock],Keeps.refl _ _⟩,st0,st1,rfl,by simp⟩
 unfold spW at hstart;clear hl hd hi;have Hstart:=Lib.hid hstart;clear hstart;go_enter Tryz.func120,Tryz.ntmps120;go_wp2_with fail;refine Dl 0 (spJ w bl bd bi st cd day (.func (.func 121) #[] #[(.pointer (some ⟨bl,0,none⟩)),(.pointer (some ⟨bd,0,none⟩)),(.pointer (some ⟨bi,0,none⟩))])) (λa' _=>400-Aac 7 a') rfl ?_ ?_
 ·rintro a' W ⟨k,fr,te,L,v,u,rfl,hs⟩;unfold spFr;have hk3:=hs.k3;have hla:=Sb fr cd W ⟨hs.f0,hs.f1⟩;obtain⟨F,hF⟩:=eX (lastF fr cd);obtain⟨f,hf⟩:∃f,300-k=f+1:=⟨300-k-1,by omega⟩;have hbig:L.length<=1000000:=by rw [hs.len];omega
  have heq:=hs.eq;have b0:=Aa hs.box 0;have hset:=fun(W':World) (hW:K0 W W') (j:Nat) (x:Value)=>(hs.fa.keep hW).set (B:=w.heap.size) (.inr (.inr rfl)) j6 j6 j6 (by simp [spW]) j x;have hbx:=fun(W':World) (hW:K0 W W')=>Ad hs.box hW (by simp);by_cases he:lastE fr cd=0
  ·obtain⟨o1,o2,o3,o4,o5,o6⟩:=lastE_ok he;have hv:lastV fr cd=F:=by unfold lastV;rw [if_pos he,hF]
   rw [hv,he] at hla;rw [hF] at o5 o6;rw [hf] at heq;by_cases hgo:F<day/\f≠0
   ·rw [findW_go he (by rw [hF];exact hgo),hF] at heq;have hc1:decide (F<day)=true:=by simp [hgo.1]
    have hc2:decide (((k+1:Nat):Int)<300)=true:=by rw [decide_eq_true_iff];omega
    have hnb:(decide (F<day)&&decide (((k+1:Nat):Int)<300))=true:=by rw [hc1,hc2];rfl
    have hisb:(decide (fr<=day)&&decide (day<=F))=false:=by rw [show decide (day<=F)=false by simp;omega];simp
    have hf0:=hgo.2;clear hc1 hc2 hgo;obtain⟨Hs,Hla⟩:=hid2 hs hla;clear hla hs hF;obtain⟨Hf,Heq⟩:=hid2 hf heq;clear heq hf he;obtain⟨Hset,Hbx,Hnb,Hisb⟩:=hid4 hset hbx hnb hisb;clear hisb hnb hbx hset hv;go_wp2_with fail;refine Hla.o.mono ?_;rintro e w1 ⟨rfl,hk1⟩;have hfa:=Hset.o w1 hk1 1 (.int .i64 F);have hb:=(heap_setCell_same _ _ 1 _ _ (Value.int .i64 F) (Hbx.o w1 hk1)).trans rfl;have b0':=Aa (Hbx.o w1 hk1) 0;have b1':=Aa (Hbx.o w1 hk1) 1;have bf:=Ab (Hbx.o w1 hk1) 1;have hcl:=j3k;rw [Hnb.o,Hisb.o] at hcl;clear hfa;obtain⟨Hb,Hcl⟩:=hid2 hb hcl;clear hcl hb hk1;go_wp2_with fail;refine Hcl.o.mono ?_;rintro e w2 ⟨rfl,hk2,v2,hfa2⟩
    have hne:¬(w.heap.size=bl\/w.heap.size=bi\/v.ownBlock=some w.heap.size):=by
     rintro(e|e|e)
     ·omega
     ·omega
     ·have:=Hs.o.fa.fr _ e;simp [spW] at this;omega
    have hb2:=Ad Hb.o hk2 hne;have e0:=Aa hb2 0;have e1:=Aa hb2 1;have ef:=Ab hb2 0;have hfa3:=hfa2.set (B:=w.heap.size) (.inr (.inr rfl)) j6 j6 j6 (by simp [spW]) 0 (.int .i64 (F+1));have hb3:=(heap_setCell_same _ _ 0 _ _ (Value.int .i64 (F+1)) hb2).trans rfl;clear hfa2 hb2;obtain⟨Hfa3,Hb3⟩:=hid2 hfa3 hb3;clear hb3 hfa3 hk2;clear b0' b1' bf b0;go_wp2_with fail;go_step3;go_wp2;refine Av ⟨spJ.mk (k+1) (F+1) F (L++ [(fr,F)]) v2 rfl ⟨by have:=Hf.o;omega,Hb3.o,Hfa3.o,by omega,by omega,by rw [List.length_append,Hs.o.len];rfl, ?_⟩,by simp [Aac];omega⟩;rw [Heq.o,show 300-(k+1)=f by have:=Hf.o;omega,List.append_assoc];rfl
   ·rw [Adf he (by rw [hF];exact hgo),hF] at heq
    have hnb:(decide (F<day)&&decide (((k+1:Nat):Int)<300))=false:=by
     by_cases h1:F<day
     ·have:f=0:=by
       rcases Nat.eq_zero_or_pos f with h|h
       ·exact h
       ·exact absurd ⟨h1,by omega⟩ hgo
      rw [show decide (((k+1:Nat):Int)<300)=false by rw [decide_eq_false_iff_not];omega];simp
     ·rw [show decide (F<day)=false by simp [h1]];rfl
    obtain⟨r,hr⟩:=eX (decide (fr<=day)&&decide (day<=F));rw [hr] at heq;clear hgo;obtain⟨Hs,Hla⟩:=hid2 hs hla;clear hla hs hF;obtain⟨Hf,Heq⟩:=hid2 hf heq;clear heq hf he;obtain⟨Hset,Hbx,Hnb,Hr⟩:=hid4 hset hbx hnb hr;clear hr hnb hbx hset hv;go_wp2_with fail;refine Hla.o.mono ?_;rintro e w1 ⟨rfl,hk1⟩;have hfa:=Hset.o w1 hk1 1 (.int .i64 F);have b0':=Aa (Hbx.o w1 hk1) 0;have b1':=Aa (Hbx.o w1 hk1) 1;have bf:=Ab (Hbx.o w1 hk1) 1;have hcl:=j3k;rw [Hnb.o,Hr.o] at hcl;clear hfa;have Hcl:=Lib.hid hcl;clear hcl hk1;go_wp2_with fail;refine Hcl.o.mono ?_;rintro e w2 ⟨rfl,hk2,v2,hfa2⟩;have hpost:=Vi.of (st:=st) (cd:=cd) hfa2 Heq.o 0;have Hpost:=Lib.hid hpost;clear hpost;clear hk2 hfa2;go_wp2;refine Bo ?_;go_ret;exact Hpost.o
  ·have hv:lastV fr cd=0:=by unfold lastV;rw [if_neg he]
   rw [findW_bad he,List.append_nil] at heq;obtain⟨z,hz⟩:=eX (lastE fr cd);rw [hv,hz] at hla;rw [hz] at he;have hzI:(z !=0)=true:=by simp [he]
   obtain⟨Hs,Hla⟩:=hid2 hs hla;clear hla hs hF;obtain⟨Hf,Heq,Hset,Hbx⟩:=hid4 hf heq hset hbx;clear hbx hset heq hf hv hz;go_wp2_with fail;refine Hla.o.mono ?_;rintro e w1 ⟨rfl,hk1⟩;have hfa:=Hset.o w1 hk1 1 (.int .i64 0);have b0':=Aa (Hbx.o w1 hk1) 0;have b1':=Aa (Hbx.o w1 hk1) 1;have bf:=Ab (Hbx.o w1 hk1) 1;have hpost:=Vi.of (st:=st) (cd:=cd) hfa Heq.o z;have Hpost:=Lib.hid hpost;clear hpost hfa hk1;go_wp2;refine Bo ?_;go_ret;exact Hpost.o
 ·refine jM ?_;intro Hfirst;go_wp2;go_step3;rename_i hK;refine jN ?_;exact spJ.mk 0 st 0 [] (.slice none 0 0) rfl Hstart.o
def Qk(st cd day:Int)(w:World)(e:Ending)(w':World):Prop:=∃v,e= .returned (.tuple #[v,.bool (findW cd day 300 st).2])/\w'.ownsRow 0 56 2 v (findW cd day 300 st).1.length ((findW cd day 300 st).1.flatMap spc)/\Fresh w w' v
theorem Sc(st cd day:Int)(w:World)(hst: -1000000000000<=st/\st<=1000000000000):Calls Tryz.prog 94 #[.int .i64 st,.int .i64 cd,.int .i64 day] w (Qk st cd day w):=by
 have hsp:=Zk st cd day (w.heap.size+1) w.heap.size (w.heap.size+1+1) (((w.alloc (.cells #[.int .i64 day] 3)).alloc (.cells #[.slice none 0 0] 191)).alloc (.cells #[.bool false] 4)) (Ap (Aw _ _ (by simp)) _) (Ap (Ap (heap_alloc_new w _) _) _) (Aw _ _ (by simp)) hst;have Hsp:=Lib.hid hsp;clear hsp;go_enter Tryz.func94,Tryz.ntmps94;go_wp2_with fail;refine Hsp.o.mono ?_;rintro e w1 ⟨z,v,rfl,hl,hi,hrow,hfr,hk⟩;have hkw:K0 w w1:=(((Keeps.alloc w _).nt (Keeps.alloc _ _)).nt (Keeps.alloc _ _)).trans (hk.mono λi _ e=> .inr (by rcases e with e|e<;>omega))
 obtain⟨r,hr⟩:=eX ((findW cd day 300 st).2);rw [hr] at hi;have hpost:Qk st cd day w (.returned (.tuple #[v,.bool r])) w1.drew:=⟨v,by rw [hr],hrow.of_keeps (Keeps.drew _),hkw.nt (Keeps.drew _),λg hg=>by have:=hfr g hg;simp at this;omega⟩;have c0:=Aa hl 0;have c1:=Aa hi 0;obtain⟨ad,cap,rfl,_,_⟩:=Ae hrow;obtain⟨q,hq⟩:=eX ((findW cd day 300 st).1.length);rw [hq] at hpost c0;clear hl hi hrow hfr hk hkw;have Hpost:=Lib.hid hpost;clear hpost hr hq;go_wp2_with fail
 go_region
 go_wp2;exact bodyPost_ret (v:= .tuple #[.slice ad q cap,.bool r]) (by simp [results,Tryz.results94,go_sem]) rfl Hpost.o
def ofE(st cd day:Int):Int:=if lastE st cd=0 then(if(findW cd day 300 st).2=true then 0 else 10) else lastE st cd
def ofV(st cd day:Int):Int:=if ofE st cd day=0 then((findW cd day 300 st).1.length:Int) else 0
def allL(st cd day:Int):List (Int×Int):=if(findW cd day 300 st).2=true then(findW cd day 300 st).1 else []
theorem Qy(st cd day:Int)(w:World)(hst: -1000000000000<=st/\st<=1000000000000):Calls Tryz.prog 68 #[.int .i64 st,.int .i64 cd,.int .i64 day] w λe w'=>e= .returned (.tuple #[.int .i64 (ofV st cd day),.int .i64 (ofE st cd day)])/\K0 w w':=by
 have hla:=Sb st cd w hst;have hfi:=λW=>Sc st cd day W hst;obtain⟨z,hz⟩:=eX (lastE st cd);obtain⟨x,hx⟩:=eX (lastV st cd);obtain⟨E,hE⟩:=eX (ofE st cd day);obtain⟨V,hV⟩:=eX (ofV st cd day);have hE':=hE;have hV':=hV;unfold ofE at hE';unfold ofV at hV';rw [hz] at hE';rw [hE] at hV';rw [hz,hx] at hla;rw [hE,hV];unfold Qk at hfi;by_cases h0:z=0
 ·subst h0;rw [if_pos rfl] at hE';rcases hb:(findW cd day 300 st).2 with _|_
  ·rw [hb,if_neg j7] at hE';subst hE';rw [if_neg j7] at hV';subst hV';rw [hb] at hfi;obtain⟨Hla,Hfi⟩:=hid2 hla hfi;clear hfi hla hz hx hE hV hb;go_enter Tryz.func68,Tryz.ntmps68;go_wp2_with fail;refine Hla.o.mono ?_;rintro e w1 ⟨rfl,hk1⟩;have Hk1:=Lib.hid hk1;clear hk1;go_wp2_with fail;refine(Hfi.o _).mono ?_;rintro e w2 ⟨v,rfl,hr,hf⟩;have Hk2:=Lib.hid (Hk1.o.nt hf.1);obtain⟨ad,cap,rfl,_,_⟩:=Ae hr;clear hr hf;go_wp2;exact bodyPost_ret (v:= .tuple #[.int .i64 0,.int .i64 10]) j1L rfl ⟨rfl,Hk2.o⟩
  ·rw [hb,if_pos rfl] at hE';subst hE';rw [if_pos rfl] at hV';obtain⟨m,hm⟩:=eX ((findW cd day 300 st).1.length);rw [hm] at hV' hfi;subst hV';rw [hb] at hfi;obtain⟨Hla,Hfi⟩:=hid2 hla hfi;clear hfi hla hz hx hE hV hb hm;go_enter Tryz.func68,Tryz.ntmps68;go_wp2_with fail;refine Hla.o.mono ?_;rintro e w1 ⟨rfl,hk1⟩;have Hk1:=Lib.hid hk1;clear hk1;go_wp2_with fail;refine(Hfi.o _).mono ?_;rintro e w2 ⟨v,rfl,hr,hf⟩;have Hk2:=Lib.hid (Hk1.o.nt hf.1);obtain⟨ad,cap,rfl,_,_⟩:=Ae hr;clear hr hf;go_wp2;exact bodyPost_ret (v:= .tuple #[.int .i64 (m:Int),.int .i64 0]) j1L rfl ⟨rfl,Hk2.o⟩
 ·rw [if_neg h0] at hE';subst hE';rw [if_neg h0] at hV';subst hV';have hzI:(z !=0)=true:=by simp [h0]
  obtain⟨Hla,Hfi⟩:=hid2 hla hfi;clear hfi hla hz hx hE hV;go_enter Tryz.func68,Tryz.ntmps68;go_wp2_with fail;refine Hla.o.mono ?_;rintro e w1 ⟨rfl,hk1⟩;have Hk1:=Lib.hid hk1;clear hk1;go_wp2;exact bodyPost_ret (v:= .tuple #[.int .i64 0,.int .i64 z]) j1L rfl ⟨rfl,Hk1.o⟩
theorem Adv(st cd day:Int)(w:World)(hst: -1000000000000<=st/\st<=1000000000000):Calls Tryz.prog 103 #[.int .i64 st,.int .i64 cd,.int .i64 day] w λe w'=>∃v,e= .returned v/\w'.ownsRow 0 56 2 v (allL st cd day).length ((allL st cd day).flatMap spc)/\Fresh w w' v:=by
 have hfi:=Sc st cd day w hst;unfold Qk at hfi;obtain⟨A,hA⟩:=eX (allL st cd day);have hA':=hA;unfold allL at hA';rw [hA];rcases hb:(findW cd day 300 st).2 with _|_
 ·rw [hb,if_neg j7] at hA';subst hA';rw [hb] at hfi;have Hfi:=Lib.hid hfi;clear hfi hA hb;go_enter Tryz.func103,Tryz.ntmps103;go_wp2_with fail;refine Hfi.o.mono ?_;rintro e w2 ⟨v,rfl,hr,hf⟩;have Hk2:=Lib.hid hf.1;obtain⟨ad,cap,rfl,_,_⟩:=Ae hr;clear hr hf;go_wp2;go_ret;exact⟨_,rfl,World.ownsRow_nil _ _ _ _,Hk2.o,by simp [Value.ownBlock]⟩
 ·rw [hb,if_pos rfl] at hA';rw [hA',hb] at hfi;have Hfi:=Lib.hid hfi;clear hfi hA hb hA';go_enter Tryz.func103,Tryz.ntmps103;go_wp2_with fail;refine Hfi.o.mono ?_;rintro e w2 ⟨v,rfl,hr,hf⟩;have Hr2:=Lib.hid hr;have Hf2:=Lib.hid hf;obtain⟨ad,cap,rfl,_,_⟩:=Ae hr;clear hr hf;go_wp2;go_ret;exact⟨_,rfl,Hr2.o,Hf2.o⟩
end Go.Proofs.YtjkdnaljkdnomaaGreatDoor
