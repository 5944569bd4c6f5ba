/- Part 1 of the proof of AccountLimits: walks and plain laws. -/
import Derived.Test.YthffbjldpfionaaGreatB11
namespace Go.Proofs.YthffbjldpfionaaGreat
open Go.RowKit
theorem moneyP_iff'(v:Int):moneyP v=true↔0≤v∧v≤1000000000000000:=by simp [moneyP]
theorem right2{a b c d:Int}(ha:0≤a)(hb:0≤b)(hab:a+b≤1000000000000000)(hc:0≤c∧c≤1000000000000000)(hd:0≤d∧d≤1000000000000000)(h0:c=0∨a+b=0):Ps.rightB ⟨[a,b],c,d⟩=true:=by
 have h0':c=0∨a+(b+0)=0:=by omega
 simp only [Ps.rightB,scanB,List.all_cons,List.all_nil,sumI,Bool.and_eq_true,Bool.or_eq_true,decide_eq_true_eq,moneyP_iff',List.length_cons,List.length_nil]
 refine⟨⟨⟨⟨?_, ?_⟩,⟨?_, ?_⟩,trivial⟩, ?_, ?_⟩, ?_, ?_,hc,hd,h0'.imp id (fun h=>decide_eq_true h)⟩<;>omega
theorem mayA2{a b c d r1 r2:Int}{e:Ev}(hp:Ps.rightB ⟨[a,b],c,d⟩=true)(h1:0≤r1∧r1≤10000000)(h2:0≤r2∧r2≤10000000)(hk:1≤e.kind∧e.kind≤6)(ht:e.kind=2∨(1≤e.tranche∧e.tranche≤2))(hm:e.kind=6→0≤e.amount∧e.amount≤10000000):mayA ⟨[a,b],c,d⟩ [r1,r2] e=true:=by
 have e1:rateB r1=false:=(rateB_iff r1).2 h1
 have e2:rateB r2=false:=(rateB_iff r2).2 h2
 have k1:decide (e.kind<1)=false:=by simp;omega
 have k6:decide (6<e.kind)=false:=by simp;omega
 have kt:((e.kind !=2)&&(decide (e.tranche<1)||decide ((2:Int)<e.tranche)))=false:=by
  rcases ht with h|h
  ·simp [h]
  ·have:decide (e.tranche<1)=false:=by simp;omega
   have:decide (2<e.tranche)=false:=by simp;omega
   simp [*]
 have km:((e.kind !=6)||(decide (0≤e.amount)&&decide (e.amount≤10000000)))=true:=by
  by_cases h:e.kind=6
  ·have:=hm h;simp [this]
  ·simp [h]
 unfold mayA
 rw [hp]
 show(true&&(decide (([r1,r2]:List Int).length=([a,b]:List Int).length)&&(!([r1,r2].any rateB)&&_)))=true
 have kt':((e.kind !=2)&&(decide (e.tranche<1)||decide ((([r1,r2]:List Int).length:Int)<e.tranche)))=false:=kt
 rw [kt',k1,k6,km]
 simp [e1,e2]
theorem charge2{a b c d r1 r2 day ki tr m re a' b' c':Int}(hp:Ps.rightB ⟨[a,b],c,d⟩=true)(h1:0≤r1∧r1≤10000000)(h2:0≤r2∧r2≤10000000)(hk:ki=1∨ki=5)(hm:0≤m∧m≤1000000000000000)
  (ht:(tr=1∧a'=a+(m-minI m c)∧b'=b)∨(tr=2∧a'=a∧b'=b+(m-minI m c))) (hc:c'=c-minI m c) (hq:Ps.rightB ⟨[a',b'],c',d⟩=true):
  applyR ⟨[a,b],c,d⟩ [r1,r2] ⟨ki,day,tr,m,re⟩=(⟨[a',b'],c',d⟩, [r1,r2],0):=by
 have hmay:=mayA2 (e:=⟨ki,day,tr,m,re⟩) hp h1 h2 (by show 1≤ki∧ki≤6;omega) (by show ki=2∨(1≤tr∧tr≤2);omega) (by intro (h:ki=6);omega)
 have htr:trB 2 tr=true:=by rcases ht with⟨rfl,_⟩|⟨rfl,_⟩<;>rfl
 have hask:askE ⟨[a,b],c,d⟩ [tr] m=0:=by
  unfold askE
  rw [if_pos hp,if_pos (by show([tr].all (trB 2))=true;simp [htr]),if_pos ((moneyP_iff' m).2 hm)]
 have hch:chargeP ⟨[a,b],c,d⟩ tr m=⟨[a',b'],c',d⟩:=by
  subst hc
  rcases ht with⟨rfl,rfl,rfl⟩|⟨rfl,rfl,rfl⟩<;>rfl
 have hcr:chargeR ⟨[a,b],c,d⟩ tr m=(⟨[a',b'],c',d⟩,0):=by
  unfold chargeR
  rw [if_pos hask,hch,if_pos hq]
 unfold applyR
 rw [if_pos hmay]
 have hq2:applyQ ⟨[a,b],c,d⟩ [r1,r2] ⟨ki,day,tr,m,re⟩=(⟨[a',b'],c',d⟩,0):=by
  unfold applyQ
  rw [if_pos hk]
  exact hcr
 rw [hq2]
 simp only [if_true,applyRt]
 rw [if_neg (by show¬ki=6;omega)]
theorem sortL_id{L:List Ev}(h:Sorted L):sortL L=L:=(sortL_one (L:=L) (X:=L) h (Alike.refl _)).symm
theorem repErr_at{t:Tm}{L:List Ev}{td:Int}(hz:t.err=0)(hL:∀x∈L,evErr t x=0∧x.day≤td)(hl:L.length≤2000)(hd:t.start≤td∧td≤2932896)(ho:ofE t.start t.cyc td=0):repErr t L td=0:=by
 have hall:L.any (lateQ td)=false:=by
  rcases hb:L.any (lateQ td) with _|_
  ·rfl
  ·obtain⟨x,hx,hq⟩:=List.any_eq_true.1 hb
   have:=(hL x hx).2
   simp [lateQ] at hq
   omega
 unfold repErr
 rw [if_pos hz,if_pos (evsErr_all (fun x hx=>(hL x hx).1)),if_neg (by omega),if_neg (by omega),if_neg (by rw [ho];simp),hall]
 rfl
theorem sorted_same{L:List Ev}{d:Int}(h:∀x∈L,x.day=d):Sorted L:=by
 unfold Sorted
 rw [List.pairwise_iff_forall_sublist]
 intro x y hs
 have h1:=h x (hs.subset (by simp))
 have h2:=h y (hs.subset (by simp))
 omega
theorem putL_last{L:List Ev}{e:Ev}(h:Sorted (L++ [e])):putL L e=L++ [e]:=by
 have h1:Sorted L:=by unfold Sorted at h⊢;exact(List.pairwise_append.1 h).1
 have h2:=sortL_snoc L e
 rw [sortL_id h,sortL_id h1] at h2
 exact h2.symm
theorem evR_snoc{d:Int}{e:Ev}(hd:e.day=d):∀(L:List Ev) (i:Nat) (p q:Ps) (R S:List Int),(∀x∈L,x.day=d)→evR d L i p R=(i+L.length,q,S,0)→(applyR q S e).2.2=0→evR d (L++ [e]) i p R=(i+(L.length+1),(applyR q S e).1,(applyR q S e).2.1,0)
 | [],i,p,q,R,S,_,h,ha=>by
  simp only [evR,Prod.mk.injEq] at h
  obtain⟨_,rfl,rfl,_⟩:=h
  simp only [List.nil_append,evR]
  rw [if_pos hd,if_pos ha]
  rfl
 |x::L,i,p,q,R,S,hL,h,ha=>by
  have hx:=hL x (List.mem_cons_self ..)
  rw [List.cons_append]
  unfold evR at h⊢
  rw [if_pos hx] at h⊢
  split
  ·rename_i h0
   rw [if_pos h0] at h
   have:=evR_snoc hd L (i+1) _ q _ S (fun y hy=>hL y (List.mem_cons_of_mem _ hy)) (by rw [h];simp only [List.length_cons,Prod.mk.injEq,and_true];omega) ha
   rw [this]
   simp only [List.length_cons,Prod.mk.injEq,and_true]
   omega
  ·rename_i h0
   rw [if_neg h0] at h
   simp only [Prod.mk.injEq] at h
   exact absurd h.2.2.2 h0
structure Day0(a:Ac)(t:Tm)(p:Ps)(R:List Int):Prop where
 tt:a.t=t
 td:a.today=t.start
 ev:∀x∈a.L,evErr t x=0∧x.day=t.start
 ll:a.L.length≤100
 rn:evR t.start a.L 0 (st0 t).p (st0 t).R=(0+a.L.length,p,R,0)
 s:a.s=evSt (st0 t) (a.L.length,p,R,0)
 rp:repErr t [] t.start=0
theorem Day0.new{t:Tm}(h:repErr t [] t.start=0):Day0 (acNew t) t (st0 t).p (st0 t).R:=⟨rfl,rfl,by simp [acNew],by simp [acNew],rfl,rfl,h⟩
theorem Day0.pos{a:Ac}{t:Tm}{p:Ps}{R:List Int}(h:Day0 a t p R):a.s.p=p∧a.s.R=R∧a.s.out= []:=by rw [h.s];exact⟨rfl,rfl,rfl⟩
theorem Day0.step{a:Ac}{t:Tm}{p p':Ps}{R R':List Int}{e:Ev}(h:Day0 a t p R)(hl:a.L.length≤50)(he:evErr t e=0)(hd:e.day=t.start)(ha:applyR p R e=(p',R',0)):
  a.ce e=0∧(∀D,Day0 { a.count e with D:=D } t p' R')∧(a.count e).seq=a.seq+1∧(a.count e).L.length=a.L.length+1:=by
 have hz:=(Ct h.rp).tm
 have hr:=Ct h.rp
 have hev:∀x∈a.L++ [e],evErr t x=0∧x.day=t.start:=fun x hx=>by
  rcases List.mem_append.1 hx with hx|hx
  ·exact h.ev x hx
  ·obtain rfl:x=e:=by simpa using hx
   exact⟨he,hd⟩
 have hso:Sorted (a.L++ [e]):=sorted_same fun x hx=>(hev x hx).2
 have hpu:=putL_last hso
 have hrp:repErr t (a.L++ [e]) t.start=0:=repErr_at hz (fun x hx=>⟨(hev x hx).1,by rw [(hev x hx).2];exact Int.le_refl _⟩) (by simp;omega) ⟨Int.le_refl _,hr.d1⟩ (repErr_of h.rp)
 have hrn:=evR_snoc hd a.L 0 _ p _ R (fun x hx=>(h.ev x hx).2) h.rn (by rw [ha])
 rw [ha] at hrn
 have hcz:a.cz e=(evSt (st0 t) (a.L.length+1,p',R',0),0):=by
  unfold Ac.cz walkR
  rw [hpu,h.tt,h.td,if_pos hrp,sortL_id hso,show(t.start-t.start).toNat=0 by omega]
  unfold walkD
  show(evSt (st0 t) (evR t.start (a.L++ [e]) 0 (st0 t).p (st0 t).R),(evR t.start (a.L++ [e]) 0 (st0 t).p (st0 t).R).2.2.2)=_
  rw [hrn,Nat.zero_add]
 have hadd:addErr a.t a.L e=0:=by unfold addErr;rw [h.tt,he,if_neg (by decide),if_neg (by omega)]
 have hout:=h.pos.2.2
 have hcb:a.cb e=(0, []):=by unfold Ac.cb;rw [hcz,hout];rfl
 have hg:=ce_good hadd (by rw [hcz]) (by rw [hcb])
 refine⟨hg.1,fun D=> ?_,by rw [hg.2],by rw [hg.2];show(putL a.L e).length=_;rw [putL_length]⟩
 rw [hg.2,hpu,hcz]
 exact⟨h.tt,h.td,hev,by simp;omega,by simpa using hrn,by simp,h.rp⟩
theorem Day0.chg{a:Ac}{t:Tm}{p p':Ps}{R R':List Int}{c:Cmd}(h:Day0 a t p R)(hl:a.L.length≤50)(hk:c.kind≠6)(hz:a.xz c=0)(he:evErr t (a.xev c)=0)(hd:(a.xev c).day=t.start)(ha:applyR p R (a.xev c)=(p',R',0)):
  a.xe c=0∧Day0 (a.chg c) t p' R'∧(a.chg c).seq=a.seq+1∧(a.chg c).D=a.xD c∧(a.chg c).L.length=a.L.length+1:=by
 obtain⟨h1,h2,h3,h4⟩:=h.step hl he hd ha
 have hx:a.xe c=0:=by rw [Ac.xe_cnt hz hk];exact h1
 have hc:=(Ac.chg_yes hx).1
 have hn:a.nx c=a.count (a.xev c):=by unfold Ac.nx;rw [if_neg hk]
 rw [hn] at hc
 rw [hc]
 exact⟨hx,h2 _,h3,rfl,h4⟩
theorem evErr22{ki day tr m re:Int}(hk:1≤ki∧ki≤6)(ht:(ki=2∧tr=0)∨(¬ki=2∧1≤tr∧tr≤2))(hm:(ki=6∧0≤m∧m≤10000000)∨(¬ki=6∧1≤m∧m≤1000000000000000))(hd:10957≤day∧day≤2932896)(hr:((ki=4∨ki=5)∧1≤re∧re≤2000)∨(¬(ki=4∨ki=5)∧re=0)):evErr t22 ⟨ki,day,tr,m,re⟩=0:=by
 have hst:t22.start=10957:=rfl
 have hln:(t22.trs.length:Int)=2:=rfl
 unfold evErr
 rw [if_neg (by rw [show t22.err=0 by decide+kernel];simp),if_neg (by show¬(ki<1∨6<ki);omega),if_neg (by show¬((ki=2∧¬tr=0)∨(¬ki=2∧(tr<1∨(t22.trs.length:Int)<tr)));rw [hln];omega),
  if_neg (by show¬((ki=6∧(m<0∨10000000<m))∨(¬ki=6∧(m<1∨1000000000000000<m)));omega),if_neg (by show¬(day<t22.start∨2932896<day);rw [hst];omega),
  if_neg (by show¬(((ki=4∨ki=5)∧(re<1∨2000<re))∨(¬(ki=4∨ki=5)∧¬re=0));omega)]
def p22(a b c:Int):Ps:=⟨[a,b],c,0⟩
theorem day22:Day0 (acNew t22) t22 (p22 0 0 0) [500000,900000]:=Day0.new rep22
theorem Day0.owes{a:Ac}{x y c:Int}{R:List Int}(h:Day0 a t22 (p22 x y c) R):a.owes=x+y-c:=by unfold Ac.owes;rw [h.pos.1];simp only [p22,sumI];omega
theorem ee_num{a:Ac}{k d tr am re:Int}{x y c:Int}{R:List Int}(h:Day0 a t22 (p22 x y c) R)(ht:k=2∨(1≤tr∧tr≤2))(hm:(k=7∧0≤am∧am≤10000000)∨(¬k=7∧1≤am∧am≤1000000000000000)):
  a.ee ⟨k,d,tr,am,re⟩=if k=1 then(if 1000<x+y-c+am then 9 else 0) else if k=3 then(if d<10957∨10957<d then 10 else if a.oldB d=true then 11 else 0) else if k=4 then(if [x,y].getD (tr-1).toNat 0<am then 9 else Ch a.D tr am) else 0:=by
 have hlen:(a.t.trs.length:Int)=2:=by rw [h.tt];rfl
 rw [Ac.ee_in (c:=⟨k,d,tr,am,re⟩) (ht.imp id fun e=>by rw [hlen];exact e) hm,h.owes,h.tt,h.td,h.pos.1]
 rfl
theorem Day0.draw{a:Ac}{x y c tr am x' y' c':Int}(h:Day0 a t22 (p22 x y c) [500000,900000])(hl:a.L.length≤50)(ht:(tr=1∧x'=x+(am-minI am c)∧y'=y)∨(tr=2∧x'=x∧y'=y+(am-minI am c)))(hc:c'=c-minI am c)(hm:1≤am∧am≤1000000000000000)(hb:x+y-c+am≤1000)
  (hp:Ps.rightB (p22 x y c)=true) (hq:Ps.rightB (p22 x' y' c')=true):
  a.xe ⟨1,0,tr,am,0⟩=0∧a.xr ⟨1,0,tr,am,0⟩=0∧Day0 (a.chg ⟨1,0,tr,am,0⟩) t22 (p22 x' y' c') [500000,900000]∧(a.chg ⟨1,0,tr,am,0⟩).seq=a.seq+1∧(a.chg ⟨1,0,tr,am,0⟩).D=a.D∧(a.chg ⟨1,0,tr,am,0⟩).L.length=a.L.length+1:=by
 have hee:a.ee ⟨1,0,tr,am,0⟩=0:=by rw [ee_num h (by omega) (.inr ⟨by decide,hm⟩),if_pos rfl,if_neg (by omega)]
 have hxz:a.xz ⟨1,0,tr,am,0⟩=0:=by unfold Ac.xz;rw [if_neg (by show¬((1:Int)=5∨(1:Int)=6);decide)];exact hee
 have hxv:a.xev ⟨1,0,tr,am,0⟩=⟨1,10957,tr,am,0⟩:=by
  unfold Ac.xev
  rw [if_neg (by show¬((1:Int)=5∨(1:Int)=6);decide),Ac.ee_yes hee,h.td]
  rfl
 have hxD:a.xD ⟨1,0,tr,am,0⟩=a.D:=by unfold Ac.xD;rw [if_neg (by show¬((1:Int)=5∨(1:Int)=6);decide)];exact Ac.eD_no (by show(1:Int)≠4;decide)
 obtain⟨h1,h2,h3,h4,h5⟩:=h.chg (c:=⟨1,0,tr,am,0⟩) hl (by show(1:Int)≠6;decide) hxz (by rw [hxv];exact evErr22 (by omega) (by omega) (.inr ⟨by decide,hm⟩) (by decide) (.inr ⟨by decide,rfl⟩)) (by rw [hxv];rfl) (by rw [hxv];exact charge2 hp (by decide) (by decide) (.inl rfl) ⟨by omega,hm.2⟩ ht hc hq)
 exact⟨h1,by rw [(Ac.chg_yes h1).2,if_neg (by show¬(1:Int)=4;decide)],h2,h3,by rw [h4,hxD],h5⟩
theorem right22{a b c:Int}(ha:0≤a∧a≤1000000)(hb:0≤b∧b≤1000000)(hc:0≤c∧c≤1000000)(h0:c=0∨a+b=0):Ps.rightB (p22 a b c)=true:=right2 ha.1 hb.1 (by omega) (by omega) (by omega) h0
theorem pay22{a d day tr m re:Int}(hp:Ps.rightB ⟨[a,0],0,d⟩=true)(_:0≤a)(hd:0≤d∧d≤a)(hm:0≤m∧m≤1000000000000000)(hq:Ps.rightB ⟨[a-minI m a,0],m-minI m a,d-minI m d⟩=true):
  applyR ⟨[a,0],0,d⟩ [500000,900000] ⟨2,day,tr,m,re⟩=(⟨[a-minI m a,0],m-minI m a,d-minI m d⟩, [500000,900000],0):=by
 have hmay:=mayA2 (e:=⟨2,day,tr,m,re⟩) (r1:=500000) (r2:=900000) hp (by omega) (by omega) (by show(1:Int)≤2∧(2:Int)≤6;omega) (.inl rfl) (by intro (h:(2:Int)=6);omega)
 have hask:askE ⟨[a,0],0,d⟩ [] m=0:=by
  unfold askE
  rw [if_pos hp,if_pos (by rfl),if_pos ((moneyP_iff' m).2 hm)]
 have r1:rankL false [500000,900000]= [1,2]:=by decide+kernel
 have r2:rankL true [500000,900000]= [2,1]:=by decide+kernel
 have hg:payP ⟨[a,0],0,d⟩ [500000,900000] m=⟨[a-minI m a,0],m-minI m a,d-minI m d⟩:=by
  unfold payP payL
  rw [r1,r2]
  have e1:minI (minI m d) a=minI m d:=by unfold minI;split<;>split<;>omega
  have z1:minI (m-minI m d) 0=0:=by unfold minI;split<;>split<;>omega
  have e2:minI (m-minI m d) (a-minI m d)=minI m a-minI m d:=by unfold minI;split<;>split<;>split<;>omega
  have z0:minI 0 0=0:=rfl
  simp [intoL,intoS,e1,e2,z0,z1]
  constructor<;>omega
 have hgr:payR ⟨[a,0],0,d⟩ [500000,900000] m=(⟨[a-minI m a,0],m-minI m a,d-minI m d⟩,0):=by
  unfold payR
  rw [if_pos hask,hg,if_pos hq]
 unfold applyR
 rw [if_pos hmay]
 have hq2:applyQ ⟨[a,0],0,d⟩ [500000,900000] ⟨2,day,tr,m,re⟩=(⟨[a-minI m a,0],m-minI m a,d-minI m d⟩,0):=by
  unfold applyQ
  rw [if_neg (by show¬((2:Int)=1∨(2:Int)=5);omega),if_pos rfl]
  exact hgr
 rw [hq2]
 simp only [if_true,applyRt]
 rw [if_neg (by show¬(2:Int)=6;omega)]
theorem Day0.payd{a:Ac}{x am:Int}(h:Day0 a t22 (p22 x 0 0) [500000,900000])(hl:a.L.length≤50)(hx:0≤x∧x≤1000000)(hm:1≤am∧am≤1000000):
  a.xe ⟨2,0,0,am,0⟩=0∧a.xr ⟨2,0,0,am,0⟩=0∧Day0 (a.chg ⟨2,0,0,am,0⟩) t22 (p22 (x-minI am x) 0 (am-minI am x)) [500000,900000]∧(a.chg ⟨2,0,0,am,0⟩).seq=a.seq+1∧(a.chg ⟨2,0,0,am,0⟩).L.length=a.L.length+1:=by
 have hee:a.ee ⟨2,0,0,am,0⟩=0:=by rw [ee_num h (.inl rfl) (.inr ⟨by decide,by omega,by omega⟩),if_neg (by decide),if_neg (by decide),if_neg (by decide)]
 have hxz:a.xz ⟨2,0,0,am,0⟩=0:=by unfold Ac.xz;rw [if_neg (by show¬((2:Int)=5∨(2:Int)=6);decide)];exact hee
 have hxv:a.xev ⟨2,0,0,am,0⟩=⟨2,10957,0,am,0⟩:=by
  unfold Ac.xev
  rw [if_neg (by show¬((2:Int)=5∨(2:Int)=6);decide),Ac.ee_yes hee,h.td]
  rfl
 have hmin:minI am x≤am∧minI am x≤x∧(minI am x=am∨minI am x=x):=by unfold minI;split<;>omega
 have e0:minI am 0=0:=by unfold minI;split<;>omega
 have hpay:=pay22 (a:=x) (d:=0) (day:=10957) (tr:=0) (m:=am) (re:=0) (right22 hx (by omega) (by omega) (.inl rfl)) hx.1 (by omega) (by omega) (by rw [e0];exact right22 (by omega) (by omega) (by omega) (by omega))
 rw [e0,Int.sub_zero] at hpay
 obtain⟨h1,h2,h3,h4,h5⟩:=h.chg (c:=⟨2,0,0,am,0⟩) hl (by show(2:Int)≠6;decide) hxz (by rw [hxv];exact evErr22 (by omega) (.inl ⟨rfl,rfl⟩) (.inr ⟨by decide,by omega⟩) (by decide) (.inr ⟨by decide,rfl⟩)) (by rw [hxv];rfl) (by rw [hxv];exact hpay)
 exact⟨h1,by rw [(Ac.chg_yes h1).2,if_neg (by show¬(2:Int)=4;decide)],h2,h3,h5⟩
set_option maxRecDepth 100000
set_option maxHeartbeats 400000
theorem r11may_any(v:Int)(w:World):Calls Tryz.prog 67 #[.int .i64 v] w fun e w'=>e= .returned (.bool (moneyP v))∧w=w':=by
 by_cases h1:v<0
 ·have hf:moneyP v=false:=by simp [moneyP];omega
  have h1':¬0≤v:=by omega
  have Hf:=Lib.hid hf;clear hf
  go_enter Tryz.func67,Tryz.ntmps67
  go_wp2
  go_ret
  exact⟨by rw [Hf.out];rfl,rfl⟩
 ·by_cases h2:1000000000000000<v
  ·have hf:moneyP v=false:=by simp [moneyP];omega
   have hd:decide (v≤1000000000000000)=false:=by rw [decide_eq_false_iff_not];omega
   have h1':0≤v:=by omega
   have Hf:=Lib.hid hf;clear hf
   go_enter Tryz.func67,Tryz.ntmps67
   go_wp2
   go_ret
   exact⟨by rw [Hf.out];rfl,rfl⟩
  ·have hf:moneyP v=true:=by simp [moneyP];omega
   have h1':0≤v:=by omega
   have Hf:=Lib.hid hf;clear hf
   go_enter Tryz.func67,Tryz.ntmps67
   go_wp2
   go_ret
   exact⟨by rw [Hf.out];rfl,rfl⟩
theorem Bq{v:Int}{b:Bool}(h:moneyP v=b)(w:World):Calls Tryz.prog 67 #[.int .i64 v] w fun e w'=>e= .returned (.bool b)∧w=w':=by subst h;exact r11may_any v w
set_option maxHeartbeats 3200000
theorem r11Right_any(L:List Int)(cr du:Int)(ad:Option Addr)(cap n:Nat)(w:World)(hr:Reads w 1 (.slice ad n cap) n (L.flatMap i64c))(hN:L.length=n)(hl:n≤9223372036854775807):
  Calls Tryz.prog 45 #[.agg #[.slice ad n cap,.int .i64 cr,.int .i64 du]] w fun e w'=>e= .returned (.bool (Ps.rightB ⟨L,cr,du⟩))∧Keeps (fun _=>False) w w':=by
 obtain⟨z,hz⟩:∃z,Ps.rightB ⟨L,cr,du⟩=z:=⟨_,rfl⟩
 rw [hz]
 rcases m1:moneyP cr with _|_
 ·rcases m2:moneyP du with _|_
  all_goals
   by_cases n1:n<1
   ·have n1I:(n:Int)<1:=by omega
    have hf:Ps.rightB ⟨L,cr,du⟩=false:=by unfold Ps.rightB;simp [m1]
    obtain rfl:z=false:=hz.symm.trans hf
    obtain⟨Hf,Hz,Hr,HN⟩:=hid4 hf hz hr hN;clear hN hr hz hf
    go_enter Tryz.func45,Tryz.ntmps45
    go_wp2_with (first|(go_at_call 67;(with_reducible refine(Bq m1 _).mono ?_);rintro e w1 ⟨rfl,rfl⟩)|(go_at_call 67;(with_reducible refine(Bq m2 _).mono ?_);rintro e w1 ⟨rfl,rfl⟩))
    go_ret
    exact⟨rfl,Keeps.alloc w _⟩
   ·have n1I:¬(n:Int)<1:=by omega
    by_cases n8:8<n
    ·have n8I:(8:Int)<(n:Int):=by omega
     have hf:Ps.rightB ⟨L,cr,du⟩=false:=by unfold Ps.rightB;simp [m1]
     obtain rfl:z=false:=hz.symm.trans hf
     obtain⟨Hf,Hz,Hr,HN⟩:=hid4 hf hz hr hN;clear hN hr hz hf
     go_enter Tryz.func45,Tryz.ntmps45
     go_wp2_with (first|(go_at_call 67;(with_reducible refine(Bq m1 _).mono ?_);rintro e w1 ⟨rfl,rfl⟩)|(go_at_call 67;(with_reducible refine(Bq m2 _).mono ?_);rintro e w1 ⟨rfl,rfl⟩))
     go_ret
     exact⟨rfl,Keeps.alloc w _⟩
    ·have n8I:¬(8:Int)<(n:Int):=by omega
     have hf:Ps.rightB ⟨L,cr,du⟩=false:=by unfold Ps.rightB;simp [m1]
     obtain rfl:z=false:=hz.symm.trans hf
     obtain⟨Hf,Hz,Hr,HN⟩:=hid4 hf hz hr hN;clear hN hr hz hf
     go_enter Tryz.func45,Tryz.ntmps45
     go_wp2_with (first|(go_at_call 67;(with_reducible refine(Bq m1 _).mono ?_);rintro e w1 ⟨rfl,rfl⟩)|(go_at_call 67;(with_reducible refine(Bq m2 _).mono ?_);rintro e w1 ⟨rfl,rfl⟩))
     go_ret
     exact⟨rfl,Keeps.alloc w _⟩
 rcases m2:moneyP du with _|_
 ·by_cases n1:n<1
  ·have n1I:(n:Int)<1:=by omega
   have hf:Ps.rightB ⟨L,cr,du⟩=false:=by unfold Ps.rightB;simp [m2]
   obtain rfl:z=false:=hz.symm.trans hf
   obtain⟨Hf,Hz,Hr,HN⟩:=hid4 hf hz hr hN;clear hN hr hz hf
   go_enter Tryz.func45,Tryz.ntmps45
   go_wp2_with (first|(go_at_call 67;(with_reducible refine(Bq m1 _).mono ?_);rintro e w1 ⟨rfl,rfl⟩)|(go_at_call 67;(with_reducible refine(Bq m2 _).mono ?_);rintro e w1 ⟨rfl,rfl⟩))
   go_ret
   exact⟨rfl,Keeps.alloc w _⟩
  ·have n1I:¬(n:Int)<1:=by omega
   by_cases n8:8<n
   ·have n8I:(8:Int)<(n:Int):=by omega
    have hf:Ps.rightB ⟨L,cr,du⟩=false:=by unfold Ps.rightB;simp [m2]
    obtain rfl:z=false:=hz.symm.trans hf
    obtain⟨Hf,Hz,Hr,HN⟩:=hid4 hf hz hr hN;clear hN hr hz hf
    go_enter Tryz.func45,Tryz.ntmps45
    go_wp2_with (first|(go_at_call 67;(with_reducible refine(Bq m1 _).mono ?_);rintro e w1 ⟨rfl,rfl⟩)|(go_at_call 67;(with_reducible refine(Bq m2 _).mono ?_);rintro e w1 ⟨rfl,rfl⟩))
    go_ret
    exact⟨rfl,Keeps.alloc w _⟩
   ·have n8I:¬(8:Int)<(n:Int):=by omega
    have hf:Ps.rightB ⟨L,cr,du⟩=false:=by unfold Ps.rightB;simp [m2]
    obtain rfl:z=false:=hz.symm.trans hf
    obtain⟨Hf,Hz,Hr,HN⟩:=hid4 hf hz hr hN;clear hN hr hz hf
    go_enter Tryz.func45,Tryz.ntmps45
    go_wp2_with (first|(go_at_call 67;(with_reducible refine(Bq m1 _).mono ?_);rintro e w1 ⟨rfl,rfl⟩)|(go_at_call 67;(with_reducible refine(Bq m2 _).mono ?_);rintro e w1 ⟨rfl,rfl⟩))
    go_ret
    exact⟨rfl,Keeps.alloc w _⟩
 by_cases n1:n<1
 ·have n1I:(n:Int)<1:=by omega
  have hq:¬1≤L.length:=by omega
  have hf:Ps.rightB ⟨L,cr,du⟩=false:=by unfold Ps.rightB;simp [hq]
  obtain rfl:z=false:=hz.symm.trans hf
  obtain⟨Hf,Hz,Hr,HN⟩:=hid4 hf hz hr hN;clear hN hr hz hf
  go_enter Tryz.func45,Tryz.ntmps45
  go_wp2_with (first|(go_at_call 67;(with_reducible refine(Bq m1 _).mono ?_);rintro e w1 ⟨rfl,rfl⟩)|(go_at_call 67;(with_reducible refine(Bq m2 _).mono ?_);rintro e w1 ⟨rfl,rfl⟩))
  go_ret
  exact⟨rfl,Keeps.alloc w _⟩
 have n1I:¬(n:Int)<1:=by omega
 by_cases n8:8<n
 ·have n8I:(8:Int)<(n:Int):=by omega
  have hq:¬L.length≤8:=by omega
  have hf:Ps.rightB ⟨L,cr,du⟩=false:=by unfold Ps.rightB;simp [hq]
  obtain rfl:z=false:=hz.symm.trans hf
  obtain⟨Hf,Hz,Hr,HN⟩:=hid4 hf hz hr hN;clear hN hr hz hf
  go_enter Tryz.func45,Tryz.ntmps45
  go_wp2_with (first|(go_at_call 67;(with_reducible refine(Bq m1 _).mono ?_);rintro e w1 ⟨rfl,rfl⟩)|(go_at_call 67;(with_reducible refine(Bq m2 _).mono ?_);rintro e w1 ⟨rfl,rfl⟩))
  go_ret
  exact⟨rfl,Keeps.alloc w _⟩
 have n8I:¬(8:Int)<(n:Int):=by omega
 have n1':1≤n:=by omega
 have n8':n≤8:=by omega
 have hbx:∀W,Keeps (fun _=>False) (w.alloc (.cells #[.slice ad n cap,.int .i64 cr,.int .i64 du] 34)) W→W.heap[w.heap.size]?=some (.cells #[.slice ad n cap,.int .i64 cr,.int .i64 du] 34 (0,0)):=fun W hW=>Ad (heap_alloc_new w _) hW (by simp)
 obtain⟨Hr,Hz,Hbx⟩:=hid3 hr hz hbx;clear hbx hz hr
 go_enter Tryz.func45,Tryz.ntmps45
 go_wp2_with (first|(go_at_call 67;(with_reducible refine(Bq m1 _).mono ?_);rintro e w1 ⟨rfl,rfl⟩)|(go_at_call 67;(with_reducible refine(Bq m2 _).mono ?_);rintro e w1 ⟨rfl,rfl⟩))
 go_loopw [3,4] (fun x y wx=>∃(i:Nat) (s:Int),x= .int .i64 s∧y= .int .i64 (i:Nat)∧i≤n∧sumI (L.take i)=s∧(L.take i).all moneyP=true∧0≤s∧s≤i*1000000000000000∧Keeps (fun _=>False) (w.alloc (.cells #[.slice ad n cap,.int .i64 cr,.int .i64 du] 34)) wx) (fun _ y _=>n-(intOf y).toNat)
 case atStart=>exact⟨0,0,rfl,rfl,Nat.zero_le _,rfl,rfl,by omega,by omega,Keeps.refl _ _⟩
 case round=>
  obtain⟨i,s,rfl,rfl,hin,hs,hall,hs0,hs1,hk⟩:=hrel
  obtain⟨wq,hwq⟩:∃x,x=wr:=⟨_,rfl⟩
  subst hwq
  have hb:=Hbx.out _ hk
  have c0:=Aa hb 0
  have c1:=Aa hb 1
  have c2:=Aa hb 2
  have bl:=lt_of_block hb
  have hs2:s≤8000000000000000:=by omega
  by_cases hlt:i<n
  ·have hltI:(i:Int)<(n:Int):=by omega
   obtain⟨x,hx⟩:=Av (L:=L) (k:=i) (by omega)
   obtain⟨g,o,he,hc⟩:=(Hr.out.keeps ((Keeps.alloc w _).nt hk) (by simp)).int (k:= .i64) hx
   subst he
   have hgl:=Ag hc
   have hsn:=sumI_snoc hx
   rw [hs] at hsn
   rcases m3:moneyP x with _|_
   ·have hf:Ps.rightB ⟨L,cr,du⟩=false:=by unfold Ps.rightB;rw [show scanB L=false from scan_bad1 hx m3];rfl
    obtain rfl:z=false:=Hz.out.symm.trans hf
    obtain⟨Hall,Hk,Hs,Hsn,Hx,Hf,Hb⟩:=hid7 hall hk hs hsn hx hf hb;clear hb hf hx hsn hs hk hall
    go_wp2_with (go_at_call 67;(with_reducible refine(Bq m3 _).mono ?_);rintro e w1 ⟨rfl,rfl⟩)
    go_ret
    exact⟨rfl,(Keeps.alloc w _).nt Hk.out⟩
   ·obtain⟨x0,x1⟩:=(Bg x).1 m3
    have hall2:(L.take (i+1)).all moneyP=true:=by rw [take_snoc' hx,List.all_append,hall];simp [m3]
    obtain⟨Hall,Hall2,Hk,Hs,Hsn,Hx,Hb⟩:=hid7 hall hall2 hk hs hsn hx hb;clear hb hx hsn hs hk hall2 hall
    go_wp2_with (go_at_call 67;(with_reducible refine(Bq m3 _).mono ?_);rintro e w1 ⟨rfl,rfl⟩)
    go_roundw
    case rel=>exact⟨i+1,s+x,rfl,by go_num,by omega,Hsn.out,Hall2.out,by omega,by omega,Hk.out⟩
    case measure=>simp [intOf];omega
  ·obtain rfl:n=i:=by omega
   rw [List.take_of_length_le (by omega)] at hs hall
   have Hb:=Lib.hid hb;clear hb
   rcases m5:moneyP s with _|_
   ·skip
    have hf:Ps.rightB ⟨L,cr,du⟩=false:=by unfold Ps.rightB scanB;simp only [hall,hs,hN,m1,m2,m5,Bool.true_and,Bool.false_and,Bool.and_false,decide_eq_true n1',decide_eq_true n8']
    obtain rfl:z=false:=Hz.out.symm.trans hf
    obtain⟨Hf,Hs,Hall,Hk⟩:=hid4 hf hs hall hk;clear hk hall hs hf
    go_wp2_with (go_at_call 67;(with_reducible refine(Bq m5 _).mono ?_);rintro e w1 ⟨rfl,rfl⟩)
    go_ret
    exact⟨rfl,(Keeps.alloc w _).nt Hk.out⟩
   ·by_cases h6:cr=0
    ·have h6I:(cr==0)=true:=by rw [beq_iff_eq];exact h6
     have h6d:decide (cr=0)=true:=decide_eq_true h6
     clear h6
     have hf:Ps.rightB ⟨L,cr,du⟩=true:=by unfold Ps.rightB scanB;simp only [hall,hs,hN,m1,m2,m5,h6d,Bool.and_true,Bool.true_or,decide_eq_true n1',decide_eq_true n8']
     obtain rfl:z=true:=Hz.out.symm.trans hf
     obtain⟨Hf,Hs,Hall,Hk⟩:=hid4 hf hs hall hk;clear hk hall hs hf
     go_wp2_with (go_at_call 67;(with_reducible refine(Bq m5 _).mono ?_);rintro e w1 ⟨rfl,rfl⟩)
     go_ret
     exact⟨rfl,(Keeps.alloc w _).nt Hk.out⟩
    ·have h6I:(cr==0)=false:=beq_eq_false_iff_ne.2 h6
     have h6d:decide (cr=0)=false:=decide_eq_false h6
     by_cases h7:s=0
     ·have h7I:(s==0)=true:=by rw [beq_iff_eq];exact h7
      have h7d:decide (s=0)=true:=decide_eq_true h7
      clear h6 h7
      have hf:Ps.rightB ⟨L,cr,du⟩=true:=by unfold Ps.rightB scanB;simp only [hall,hs,hN,m1,m2,m5,h6d,h7d,Bool.and_true,Bool.or_true,decide_eq_true n1',decide_eq_true n8']
      obtain rfl:z=true:=Hz.out.symm.trans hf
      obtain⟨Hf,Hs,Hall,Hk⟩:=hid4 hf hs hall hk;clear hk hall hs hf
      go_wp2_with (go_at_call 67;(with_reducible refine(Bq m5 _).mono ?_);rintro e w1 ⟨rfl,rfl⟩)
      go_ret
      exact⟨rfl,(Keeps.alloc w _).nt Hk.out⟩
     ·have h7I:(s==0)=false:=beq_eq_false_iff_ne.2 h7
      have h7d:decide (s=0)=false:=decide_eq_false h7
      clear h6 h7
      have hf:Ps.rightB ⟨L,cr,du⟩=false:=by unfold Ps.rightB scanB;simp only [hall,hs,hN,m1,m2,m5,h6d,h7d,Bool.and_true,Bool.and_false,Bool.or_false,decide_eq_true n1',decide_eq_true n8']
      obtain rfl:z=false:=Hz.out.symm.trans hf
      obtain⟨Hf,Hs,Hall,Hk⟩:=hid4 hf hs hall hk;clear hk hall hs hf
      go_wp2_with (go_at_call 67;(with_reducible refine(Bq m5 _).mono ?_);rintro e w1 ⟨rfl,rfl⟩)
      go_ret
      exact⟨rfl,(Keeps.alloc w _).nt Hk.out⟩
set_option maxHeartbeats 1600000
theorem r11Total_any(L:List Int)(cr du:Int)(ad:Option Addr)(cap n:Nat)(w:World)(hr:Reads w 1 (.slice ad n cap) n (L.flatMap i64c))(hN:L.length=n)(hl:n≤9223372036854775807)(hright:Ps.rightB ⟨L,cr,du⟩=true):
  Calls Tryz.prog 17 #[.agg #[.slice ad n cap,.int .i64 cr,.int .i64 du]] w fun e w'=>e= .returned (.int .i64 (sumI L))∧Keeps (fun _=>False) w w':=by
 obtain⟨hm,n1,n8⟩:(∀x∈L,0≤x∧x≤1000000000000000)∧1≤n∧n≤8:=by
  have h:=Cz hright
  exact⟨h.1,by have h2:=h.2.2.2.1;simp only at h2;omega,by have h2:=h.2.2.2.2;simp only at h2;omega⟩
 have hri:=fun W (hW:Keeps (fun _=>False) w W)=>r11Right_any L cr du ad cap n W (hr.keeps hW (by simp)) hN hl
 rw [hright] at hri
 obtain⟨R,hR⟩:∃R,sumI L=R:=⟨_,rfl⟩
 rw [hR]
 obtain⟨Hr,Hm,Hri,HR,Hright⟩:=hid5 hr hm hri hR hright;clear hright hR hri hm hr
 go_enter Tryz.func17,Tryz.ntmps17
 go_wp2_with (go_at_call 45;(with_reducible refine(Hri.out _ (Keeps.alloc _ _)).mono ?_);rintro e w1 ⟨rfl,hk1⟩;have hb1:=box_new hk1 (by simp);have c0:=Aa hb1 0;have bl:=lt_of_block hb1;have Hk1:=Lib.hid hk1;have Hb1:=Lib.hid hb1;clear hk1 hb1)
 clear c0 bl
 go_loopw [3,4] (fun x y wx=>∃(i:Nat) (s:Int),x= .int .i64 s∧y= .int .i64 (i:Nat)∧i≤n∧sumI (L.take i)=s∧0≤s∧s≤i*1000000000000000∧Keeps (fun _=>False) w1 wx) (fun _ y _=>n-(intOf y).toNat)
 case atStart=>exact⟨0,0,rfl,rfl,Nat.zero_le _,rfl,by omega,by omega,Keeps.refl _ _⟩
 case round=>
  obtain⟨i,s,rfl,rfl,hin,hs,hs0,hs1,hk⟩:=hrel
  obtain⟨wq,hwq⟩:∃x,x=wr:=⟨_,rfl⟩
  subst hwq
  have hb:=Ad Hb1.out hk (by simp)
  have c0:=Aa hb 0
  have bl:=lt_of_block hb
  by_cases hlt:i<n
  ·have hltI:(i:Int)<(n:Int):=by omega
   obtain⟨x,hx⟩:=Av (L:=L) (k:=i) (by omega)
   obtain⟨g,o,he,hc⟩:=(Hr.out.keeps (((Keeps.alloc w _).nt Hk1.out).nt hk) (by simp)).int (k:= .i64) hx
   subst he
   have hgl:=Ag hc
   have hsn:=sumI_snoc hx
   rw [hs] at hsn
   obtain⟨x0,x1⟩:=Hm.out x (List.mem_of_getElem? hx)
   obtain⟨Hk,Hs,Hsn,Hx,Hb⟩:=hid5 hk hs hsn hx hb;clear hb hx hsn hs hk
   go_wp2
   go_roundw
   case rel=>exact⟨i+1,s+x,rfl,by go_num,by omega,Hsn.out,by omega,by omega,Hk.out⟩
   case measure=>simp [intOf];omega
  ·obtain rfl:n=i:=by omega
   rw [List.take_of_length_le (by omega),HR.out] at hs
   subst hs
   obtain⟨Hk,Hb⟩:=hid2 hk hb;clear hb hk
   go_wp2
   go_ret
   exact⟨rfl,((Keeps.alloc w _).nt Hk1.out).nt Hk.out⟩
end Go.Proofs.YthffbjldpfionaaGreat
