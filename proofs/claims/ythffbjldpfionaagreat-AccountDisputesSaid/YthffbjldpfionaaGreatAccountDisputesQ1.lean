/- Part 1 of the proof of AccountDisputes: walks and plain laws. -/
import Derived.Test.YthffbjldpfionaaGreatB11
namespace Go.Proofs.YthffbjldpfionaaGreat
open Go.RowKit
theorem moneyP_iff'(v:Int):moneyP v=true↔0≤v∧v≤1000000000000000:=by simp [moneyP]
theorem right2{a b c d:Int}(ha:0≤a)(hb:0≤b)(hab:a+b≤1000000000000000)(hc:0≤c∧c≤1000000000000000)(hd:0≤d∧d≤1000000000000000)(h0:c=0∨a+b=0):Ps.rightB ⟨[a,b],c,d⟩=true:=by
 have h0':c=0∨a+(b+0)=0:=by omega
 simp only [Ps.rightB,scanB,List.all_cons,List.all_nil,sumI,Bool.and_eq_true,Bool.or_eq_true,decide_eq_true_eq,moneyP_iff',List.length_cons,List.length_nil]
 refine⟨⟨⟨⟨?_, ?_⟩,⟨?_, ?_⟩,trivial⟩, ?_, ?_⟩, ?_, ?_,hc,hd,h0'.imp id (fun h=>decide_eq_true h)⟩<;>omega
theorem mayA2{a b c d r1 r2:Int}{e:Ev}(hp:Ps.rightB ⟨[a,b],c,d⟩=true)(h1:0≤r1∧r1≤10000000)(h2:0≤r2∧r2≤10000000)(hk:1≤e.kind∧e.kind≤6)(ht:e.kind=2∨(1≤e.tranche∧e.tranche≤2))(hm:e.kind=6→0≤e.amount∧e.amount≤10000000):mayA ⟨[a,b],c,d⟩ [r1,r2] e=true:=by
 have e1:rateB r1=false:=(rateB_iff r1).2 h1
 have e2:rateB r2=false:=(rateB_iff r2).2 h2
 have k1:decide (e.kind<1)=false:=by simp;omega
 have k6:decide (6<e.kind)=false:=by simp;omega
 have kt:((e.kind !=2)&&(decide (e.tranche<1)||decide ((2:Int)<e.tranche)))=false:=by
  rcases ht with h|h
  ·simp [h]
  ·have:decide (e.tranche<1)=false:=by simp;omega
   have:decide (2<e.tranche)=false:=by simp;omega
   simp [*]
 have km:((e.kind !=6)||(decide (0≤e.amount)&&decide (e.amount≤10000000)))=true:=by
  by_cases h:e.kind=6
  ·have:=hm h;simp [this]
  ·simp [h]
 unfold mayA
 rw [hp]
 show(true&&(decide (([r1,r2]:List Int).length=([a,b]:List Int).length)&&(!([r1,r2].any rateB)&&_)))=true
 have kt':((e.kind !=2)&&(decide (e.tranche<1)||decide ((([r1,r2]:List Int).length:Int)<e.tranche)))=false:=kt
 rw [kt',k1,k6,km]
 simp [e1,e2]
theorem charge2{a b c d r1 r2 day ki tr m re a' b' c':Int}(hp:Ps.rightB ⟨[a,b],c,d⟩=true)(h1:0≤r1∧r1≤10000000)(h2:0≤r2∧r2≤10000000)(hk:ki=1∨ki=5)(hm:0≤m∧m≤1000000000000000)
  (ht:(tr=1∧a'=a+(m-minI m c)∧b'=b)∨(tr=2∧a'=a∧b'=b+(m-minI m c))) (hc:c'=c-minI m c) (hq:Ps.rightB ⟨[a',b'],c',d⟩=true):
  applyR ⟨[a,b],c,d⟩ [r1,r2] ⟨ki,day,tr,m,re⟩=(⟨[a',b'],c',d⟩, [r1,r2],0):=by
 have hmay:=mayA2 (e:=⟨ki,day,tr,m,re⟩) hp h1 h2 (by show 1≤ki∧ki≤6;omega) (by show ki=2∨(1≤tr∧tr≤2);omega) (by intro (h:ki=6);omega)
 have htr:trB 2 tr=true:=by rcases ht with⟨rfl,_⟩|⟨rfl,_⟩<;>rfl
 have hask:askE ⟨[a,b],c,d⟩ [tr] m=0:=by
  unfold askE
  rw [if_pos hp,if_pos (by show([tr].all (trB 2))=true;simp [htr]),if_pos ((moneyP_iff' m).2 hm)]
 have hch:chargeP ⟨[a,b],c,d⟩ tr m=⟨[a',b'],c',d⟩:=by
  subst hc
  rcases ht with⟨rfl,rfl,rfl⟩|⟨rfl,rfl,rfl⟩<;>rfl
 have hcr:chargeR ⟨[a,b],c,d⟩ tr m=(⟨[a',b'],c',d⟩,0):=by
  unfold chargeR
  rw [if_pos hask,hch,if_pos hq]
 unfold applyR
 rw [if_pos hmay]
 have hq2:applyQ ⟨[a,b],c,d⟩ [r1,r2] ⟨ki,day,tr,m,re⟩=(⟨[a',b'],c',d⟩,0):=by
  unfold applyQ
  rw [if_pos hk]
  exact hcr
 rw [hq2]
 simp only [if_true,applyRt]
 rw [if_neg (by show¬ki=6;omega)]
theorem give2{a b c d r1 r2 day ki tr m re a' b':Int}(hp:Ps.rightB ⟨[a,b],c,d⟩=true)(ha:0≤a)(hb:0≤b)(h1:0≤r1∧r1≤10000000)(h2:0≤r2∧r2≤10000000)(hk:ki=3∨ki=4)(hm:0≤m∧m≤1000000000000000)
  (ht:(tr=1∧m≤a∧a'=a-m∧b'=b)∨(tr=2∧m≤b∧a'=a∧b'=b-m)) (hq:Ps.rightB ⟨[a',b'],c,d⟩=true):
  applyR ⟨[a,b],c,d⟩ [r1,r2] ⟨ki,day,tr,m,re⟩=(⟨[a',b'],c,d⟩, [r1,r2],0):=by
 have hmay:=mayA2 (e:=⟨ki,day,tr,m,re⟩) hp h1 h2 (by show 1≤ki∧ki≤6;omega) (by show ki=2∨(1≤tr∧tr≤2);omega) (by intro (h:ki=6);omega)
 have htr:trB 2 tr=true:=by rcases ht with⟨rfl,_⟩|⟨rfl,_⟩<;>rfl
 have hask:askE ⟨[a,b],c,d⟩ [tr] m=0:=by
  unfold askE
  rw [if_pos hp,if_pos (by show([tr].all (trB 2))=true;simp [htr]),if_pos ((moneyP_iff' m).2 hm)]
 have hrk:rankL true [r1,r2]= [1,2]∨rankL true [r1,r2]= [2,1]:=by
  simp only [rankL,rankN,List.length_cons,List.length_nil,insR,plR,List.take_nil,List.drop_nil,List.nil_append,List.append_nil,List.getD_cons_zero]
  split
  ·right;rfl
  ·left;rfl
 have hgo:giveO tr (rankL true [r1,r2])=if tr=1 then [1,2] else [2,1]:=by
  rcases ht with⟨rfl,_⟩|⟨rfl,_⟩<;>rcases hrk with h|h<;>rw [h]<;>decide
 have hg:giveP ⟨[a,b],c,d⟩ [r1,r2] tr m=⟨[a',b'],c,d⟩:=by
  unfold giveP
  rw [hgo]
  rcases ht with⟨rfl,hle,rfl,rfl⟩|⟨rfl,hle,rfl,rfl⟩
  ·have e1:minI m a=m:=by unfold minI;rw [if_pos hle]
   have e2:minI 0 b'=0:=by unfold minI;rw [if_pos hb]
   simp [intoL,intoS,e1,e2]
  ·have e1:minI m b=m:=by unfold minI;rw [if_pos hle]
   have e2:minI 0 a'=0:=by unfold minI;rw [if_pos ha]
   simp [intoL,intoS,e1,e2]
 have hgr:giveR ⟨[a,b],c,d⟩ [r1,r2] tr m=(⟨[a',b'],c,d⟩,0):=by
  unfold giveR
  rw [if_pos hask,hg,if_pos hq]
 unfold applyR
 rw [if_pos hmay]
 have hq2:applyQ ⟨[a,b],c,d⟩ [r1,r2] ⟨ki,day,tr,m,re⟩=(⟨[a',b'],c,d⟩,0):=by
  unfold applyQ
  rw [if_neg (by show¬(ki=1∨ki=5);omega),if_neg (by show¬ki=2;omega),if_pos (by show ki=3∨ki=4;exact hk)]
  exact hgr
 rw [hq2]
 simp only [if_true,applyRt]
 rw [if_neg (by show¬ki=6;omega)]
theorem sortL_id{L:List Ev}(h:Sorted L):sortL L=L:=(sortL_one (L:=L) (X:=L) h (Alike.refl _)).symm
set_option maxRecDepth 100000
set_option maxHeartbeats 1600000
theorem ask22_any{w0 W:World}{O:Nat→Prop}{B:Nat}{a:Ac}(h:Live w0 O W B a)(ki tr am:Int)(hs:a.seq≤100000)(hk:1≤ki∧ki≤7):
  Calls Tryz.prog 18 #[(.pointer (some ⟨B,0,none⟩)),.int .i64 ki,.int .i64 tr,.int .i64 am] W (ChgPost w0 O W B (a.xe ⟨ki,0,tr,am,0⟩) (a.xr ⟨ki,0,tr,am,0⟩) 0 (a.chg ⟨ki,0,tr,am,0⟩)):=by
 have hdo:=fun(W':World) (hW:Keeps (fun _=>False) W W')=>Di (h.keep hW) ⟨ki,0,tr,am,0⟩ hs hk
 simp only at hdo
 have hr0:=heap_alloc_new W (.cells #[.int .i64 0,.int .i64 0,.int .i64 0,.int .i64 0,.int .i64 0,.slice none 0 0,.int .i64 0,.int .i64 0,.slice none 0 0,.slice none 0 0,.int .i64 0,.int .i64 0,.int .i64 0,.int .i64 0,.int .i64 0,.slice none 0 0,.int .i64 0,.int .i64 0,.int .i64 0,.bool false] 44)
 have hk0:Keeps (fun _=>False) W (W.alloc (.cells #[.int .i64 0,.int .i64 0,.int .i64 0,.int .i64 0,.int .i64 0,.slice none 0 0,.int .i64 0,.int .i64 0,.slice none 0 0,.slice none 0 0,.int .i64 0,.int .i64 0,.int .i64 0,.int .i64 0,.int .i64 0,.slice none 0 0,.int .i64 0,.int .i64 0,.int .i64 0,.bool false] 44)):=Keeps.alloc _ _
 have h2:=(h.more hk0 (fun i=>i=W.heap.size) fun i e=>⟨by omega,by rw [e];exact lt_of_block hr0⟩)
 have hdo:=Di h2 ⟨ki,0,tr,am,0⟩ hs hk
 simp only at hdo
 obtain⟨xe,hxe⟩:∃z,a.xe ⟨ki,0,tr,am,0⟩=z:=⟨_,rfl⟩
 obtain⟨xr,hxr⟩:∃z,a.xr ⟨ki,0,tr,am,0⟩=z:=⟨_,rfl⟩
 rw [hxe,hxr] at hdo
 rw [hxe,hxr]
 obtain⟨H,Hdo,Hr0,Hk0,H2,Hxe,Hxr,Hk⟩:=hid8 h hdo hr0 hk0 h2 hxe hxr hk;clear hk hxr hxe h2 hk0 hr0 hdo h
 go_enter Tryz.func18,Tryz.ntmps18
 go_wp2_with fail
 refine Hdo.out.mono ?_
 rintro e w1 ⟨rfl,hL,hk1⟩
 have hR:=H2.out.blk hk1 (.inr rfl) Hr0.out
 have hput:=setRow_heap w1 W.heap.size #[.int .i64 0,.int .i64 0,.int .i64 0,.int .i64 0,.int .i64 0,.slice none 0 0,.int .i64 0,.int .i64 0,.slice none 0 0,.slice none 0 0,.int .i64 0,.int .i64 0,.int .i64 0,.int .i64 0,.int .i64 0,.slice none 0 0,.int .i64 0,.int .i64 0,.int .i64 0,.bool false] #[.int .i64 xe,.int .i64 xr,.int .i64 0,.int .i64 0,.int .i64 0,.slice none 0 0,.int .i64 0,.int .i64 0,.slice none 0 0,.slice none 0 0,.int .i64 0,.int .i64 0,.int .i64 0,.int .i64 0,.int .i64 0,.slice none 0 0,.int .i64 0,.int .i64 0,.int .i64 0,.bool false] 44 _ hR
 have hkr:=Ca w1 W.heap.size #[.int .i64 xe,.int .i64 xr,.int .i64 0,.int .i64 0,.int .i64 0,.slice none 0 0,.int .i64 0,.int .i64 0,.slice none 0 0,.slice none 0 0,.int .i64 0,.int .i64 0,.int .i64 0,.int .i64 0,.int .i64 0,.slice none 0 0,.int .i64 0,.int .i64 0,.int .i64 0,.bool false]
 have hpost:Live w0 O (w1.setRow W.heap.size #[.int .i64 xe,.int .i64 xr,.int .i64 0,.int .i64 0,.int .i64 0,.slice none 0 0,.int .i64 0,.int .i64 0,.slice none 0 0,.slice none 0 0,.int .i64 0,.int .i64 0,.int .i64 0,.int .i64 0,.int .i64 0,.slice none 0 0,.int .i64 0,.int .i64 0,.int .i64 0,.bool false]) B (a.chg ⟨ki,0,tr,am,0⟩)∧Keeps (fun i=>w0.heap.size≤i∧¬O i) W (w1.setRow W.heap.size #[.int .i64 xe,.int .i64 xr,.int .i64 0,.int .i64 0,.int .i64 0,.slice none 0 0,.int .i64 0,.int .i64 0,.slice none 0 0,.slice none 0 0,.int .i64 0,.int .i64 0,.int .i64 0,.int .i64 0,.int .i64 0,.slice none 0 0,.int .i64 0,.int .i64 0,.int .i64 0,.bool false]):=by
  obtain⟨x,hx1,hx2⟩:=hL.is
  refine⟨⟨⟨x,hx1.keeps hkr fun b hb e=>hx1.other hR b hb e,fun b hb=>⟨(hx2 b hb).1,fun o=>(hx2 b hb).2 (.inl o)⟩⟩,fun b hb=>Nat.lt_of_lt_of_le (H.out.ol b hb) (Nat.le_trans Hk0.out.size (Nat.le_trans hk1.size hkr.size)), ?_⟩, ?_⟩
  ·exact hL.kp.trans (hkr.mono fun i _ e=> .inr (by have e':i=W.heap.size:=e;have:=H.out.kp.size;omega))
  ·exact(Hk0.out.mono (by simp)).trans ((hk1.mono fun i _ e=> .inl ⟨e.1,fun o=>e.2 (.inl o)⟩).trans (hkr.mono fun i _ e=> .inl (.inr (by have e':i=W.heap.size:=e;omega))))
 clear hk1 hL
 obtain⟨HR,Hput,Hkr,Hpost⟩:=hid4 hR hput hkr hpost;clear hpost hkr hput hR
 go_wp2_with (refine wpList_store_row rfl 44 (.tmp 8) (.tmp 14) rfl W.heap.size #[.int .i64 xe,.int .i64 xr,.int .i64 0,.int .i64 0,.int .i64 0,.slice none 0 0,.int .i64 0,.int .i64 0,.slice none 0 0,.slice none 0 0,.int .i64 0,.int .i64 0,.int .i64 0,.int .i64 0,.int .i64 0,.slice none 0 0,.int .i64 0,.int .i64 0,.int .i64 0,.bool false] rfl rfl 44 #[.int .i64 0,.int .i64 0,.int .i64 0,.int .i64 0,.int .i64 0,.slice none 0 0,.int .i64 0,.int .i64 0,.slice none 0 0,.slice none 0 0,.int .i64 0,.int .i64 0,.int .i64 0,.int .i64 0,.int .i64 0,.slice none 0 0,.int .i64 0,.int .i64 0,.int .i64 0,.bool false] HR.out Ar rfl (Br _ _ _) ?_)
 exact bodyPost_ret (results_cell_row rfl _ _ W.heap.size 44 #[.int .i64 xe,.int .i64 xr,.int .i64 0,.int .i64 0,.int .i64 0,.slice none 0 0,.int .i64 0,.int .i64 0,.slice none 0 0,.slice none 0 0,.int .i64 0,.int .i64 0,.int .i64 0,.int .i64 0,.int .i64 0,.slice none 0 0,.int .i64 0,.int .i64 0,.int .i64 0,.bool false] _ _ rfl Hput.out Tryz.underlying44 rfl Ar) rfl ⟨rfl,Hpost.out.1,Hpost.out.2⟩
theorem repErr_at{t:Tm}{L:List Ev}{td:Int}(hz:t.err=0)(hL:∀x∈L,evErr t x=0∧x.day≤td)(hl:L.length≤2000)(hd:t.start≤td∧td≤2932896)(ho:ofE t.start t.cyc td=0):repErr t L td=0:=by
 have hall:L.any (lateQ td)=false:=by
  rcases hb:L.any (lateQ td) with _|_
  ·rfl
  ·obtain⟨x,hx,hq⟩:=List.any_eq_true.1 hb
   have:=(hL x hx).2
   simp [lateQ] at hq
   omega
 unfold repErr
 rw [if_pos hz,if_pos (evsErr_all (fun x hx=>(hL x hx).1)),if_neg (by omega),if_neg (by omega),if_neg (by rw [ho];simp),hall]
 rfl
theorem sorted_same{L:List Ev}{d:Int}(h:∀x∈L,x.day=d):Sorted L:=by
 unfold Sorted
 rw [List.pairwise_iff_forall_sublist]
 intro x y hs
 have h1:=h x (hs.subset (by simp))
 have h2:=h y (hs.subset (by simp))
 omega
theorem putL_last{L:List Ev}{e:Ev}(h:Sorted (L++ [e])):putL L e=L++ [e]:=by
 have h1:Sorted L:=by unfold Sorted at h⊢;exact(List.pairwise_append.1 h).1
 have h2:=sortL_snoc L e
 rw [sortL_id h,sortL_id h1] at h2
 exact h2.symm
theorem evR_snoc{d:Int}{e:Ev}(hd:e.day=d):∀(L:List Ev) (i:Nat) (p q:Ps) (R S:List Int),(∀x∈L,x.day=d)→evR d L i p R=(i+L.length,q,S,0)→(applyR q S e).2.2=0→evR d (L++ [e]) i p R=(i+(L.length+1),(applyR q S e).1,(applyR q S e).2.1,0)
 | [],i,p,q,R,S,_,h,ha=>by
  simp only [evR,Prod.mk.injEq] at h
  obtain⟨_,rfl,rfl,_⟩:=h
  simp only [List.nil_append,evR]
  rw [if_pos hd,if_pos ha]
  rfl
 |x::L,i,p,q,R,S,hL,h,ha=>by
  have hx:=hL x (List.mem_cons_self ..)
  rw [List.cons_append]
  unfold evR at h⊢
  rw [if_pos hx] at h⊢
  split
  ·rename_i h0
   rw [if_pos h0] at h
   have:=evR_snoc hd L (i+1) _ q _ S (fun y hy=>hL y (List.mem_cons_of_mem _ hy)) (by rw [h];simp only [List.length_cons,Prod.mk.injEq,and_true];omega) ha
   rw [this]
   simp only [List.length_cons,Prod.mk.injEq,and_true]
   omega
  ·rename_i h0
   rw [if_neg h0] at h
   simp only [Prod.mk.injEq] at h
   exact absurd h.2.2.2 h0
structure Day0(a:Ac)(t:Tm)(p:Ps)(R:List Int):Prop where
 tt:a.t=t
 td:a.today=t.start
 ev:∀x∈a.L,evErr t x=0∧x.day=t.start
 ll:a.L.length≤100
 rn:evR t.start a.L 0 (st0 t).p (st0 t).R=(0+a.L.length,p,R,0)
 s:a.s=evSt (st0 t) (a.L.length,p,R,0)
 rp:repErr t [] t.start=0
theorem Day0.new{t:Tm}(h:repErr t [] t.start=0):Day0 (acNew t) t (st0 t).p (st0 t).R:=⟨rfl,rfl,by simp [acNew],by simp [acNew],rfl,rfl,h⟩
theorem Day0.pos{a:Ac}{t:Tm}{p:Ps}{R:List Int}(h:Day0 a t p R):a.s.p=p∧a.s.R=R∧a.s.out= []:=by rw [h.s];exact⟨rfl,rfl,rfl⟩
theorem Day0.step{a:Ac}{t:Tm}{p p':Ps}{R R':List Int}{e:Ev}(h:Day0 a t p R)(hl:a.L.length≤50)(he:evErr t e=0)(hd:e.day=t.start)(ha:applyR p R e=(p',R',0)):
  a.ce e=0∧(∀D,Day0 { a.count e with D:=D } t p' R')∧(a.count e).seq=a.seq+1∧(a.count e).L.length=a.L.length+1:=by
 have hz:=(Ct h.rp).tm
 have hr:=Ct h.rp
 have hev:∀x∈a.L++ [e],evErr t x=0∧x.day=t.start:=fun x hx=>by
  rcases List.mem_append.1 hx with hx|hx
  ·exact h.ev x hx
  ·obtain rfl:x=e:=by simpa using hx
   exact⟨he,hd⟩
 have hso:Sorted (a.L++ [e]):=sorted_same fun x hx=>(hev x hx).2
 have hpu:=putL_last hso
 have hrp:repErr t (a.L++ [e]) t.start=0:=repErr_at hz (fun x hx=>⟨(hev x hx).1,by rw [(hev x hx).2];exact Int.le_refl _⟩) (by simp;omega) ⟨Int.le_refl _,hr.d1⟩ (repErr_of h.rp)
 have hrn:=evR_snoc hd a.L 0 _ p _ R (fun x hx=>(h.ev x hx).2) h.rn (by rw [ha])
 rw [ha] at hrn
 have hcz:a.cz e=(evSt (st0 t) (a.L.length+1,p',R',0),0):=by
  unfold Ac.cz walkR
  rw [hpu,h.tt,h.td,if_pos hrp,sortL_id hso,show(t.start-t.start).toNat=0 by omega]
  unfold walkD
  show(evSt (st0 t) (evR t.start (a.L++ [e]) 0 (st0 t).p (st0 t).R),(evR t.start (a.L++ [e]) 0 (st0 t).p (st0 t).R).2.2.2)=_
  rw [hrn,Nat.zero_add]
 have hadd:addErr a.t a.L e=0:=by unfold addErr;rw [h.tt,he,if_neg (by decide),if_neg (by omega)]
 have hout:=h.pos.2.2
 have hcb:a.cb e=(0, []):=by unfold Ac.cb;rw [hcz,hout];rfl
 have hg:=ce_good hadd (by rw [hcz]) (by rw [hcb])
 refine⟨hg.1,fun D=> ?_,by rw [hg.2],by rw [hg.2];show(putL a.L e).length=_;rw [putL_length]⟩
 rw [hg.2,hpu,hcz]
 exact⟨h.tt,h.td,hev,by simp;omega,by simpa using hrn,by simp,h.rp⟩
theorem Day0.chg{a:Ac}{t:Tm}{p p':Ps}{R R':List Int}{c:Cmd}(h:Day0 a t p R)(hl:a.L.length≤50)(hk:c.kind≠6)(hz:a.xz c=0)(he:evErr t (a.xev c)=0)(hd:(a.xev c).day=t.start)(ha:applyR p R (a.xev c)=(p',R',0)):
  a.xe c=0∧Day0 (a.chg c) t p' R'∧(a.chg c).seq=a.seq+1∧(a.chg c).D=a.xD c∧(a.chg c).L.length=a.L.length+1:=by
 obtain⟨h1,h2,h3,h4⟩:=h.step hl he hd ha
 have hx:a.xe c=0:=by rw [Ac.xe_cnt hz hk];exact h1
 have hc:=(Ac.chg_yes hx).1
 have hn:a.nx c=a.count (a.xev c):=by unfold Ac.nx;rw [if_neg hk]
 rw [hn] at hc
 rw [hc]
 exact⟨hx,h2 _,h3,rfl,h4⟩
theorem evErr22{ki day tr m re:Int}(hk:1≤ki∧ki≤6)(ht:(ki=2∧tr=0)∨(¬ki=2∧1≤tr∧tr≤2))(hm:(ki=6∧0≤m∧m≤10000000)∨(¬ki=6∧1≤m∧m≤1000000000000000))(hd:10957≤day∧day≤2932896)(hr:((ki=4∨ki=5)∧1≤re∧re≤2000)∨(¬(ki=4∨ki=5)∧re=0)):evErr t22 ⟨ki,day,tr,m,re⟩=0:=by
 have hst:t22.start=10957:=rfl
 have hln:(t22.trs.length:Int)=2:=rfl
 unfold evErr
 rw [if_neg (by rw [show t22.err=0 by decide+kernel];simp),if_neg (by show¬(ki<1∨6<ki);omega),if_neg (by show¬((ki=2∧¬tr=0)∨(¬ki=2∧(tr<1∨(t22.trs.length:Int)<tr)));rw [hln];omega),
  if_neg (by show¬((ki=6∧(m<0∨10000000<m))∨(¬ki=6∧(m<1∨1000000000000000<m)));omega),if_neg (by show¬(day<t22.start∨2932896<day);rw [hst];omega),
  if_neg (by show¬(((ki=4∨ki=5)∧(re<1∨2000<re))∨(¬(ki=4∨ki=5)∧¬re=0));omega)]
def p22(a b c:Int):Ps:=⟨[a,b],c,0⟩
theorem day22:Day0 (acNew t22) t22 (p22 0 0 0) [500000,900000]:=Day0.new rep22
theorem Day0.owes{a:Ac}{x y c:Int}{R:List Int}(h:Day0 a t22 (p22 x y c) R):a.owes=x+y-c:=by unfold Ac.owes;rw [h.pos.1];simp only [p22,sumI];omega
theorem ee_num{a:Ac}{k d tr am re:Int}{x y c:Int}{R:List Int}(h:Day0 a t22 (p22 x y c) R)(ht:k=2∨(1≤tr∧tr≤2))(hm:(k=7∧0≤am∧am≤10000000)∨(¬k=7∧1≤am∧am≤1000000000000000)):
  a.ee ⟨k,d,tr,am,re⟩=if k=1 then(if 1000<x+y-c+am then 9 else 0) else if k=3 then(if d<10957∨10957<d then 10 else if a.oldB d=true then 11 else 0) else if k=4 then(if [x,y].getD (tr-1).toNat 0<am then 9 else Ch a.D tr am) else 0:=by
 have hlen:(a.t.trs.length:Int)=2:=by rw [h.tt];rfl
 rw [Ac.ee_in (c:=⟨k,d,tr,am,re⟩) (ht.imp id fun e=>by rw [hlen];exact e) hm,h.owes,h.tt,h.td,h.pos.1]
 rfl
theorem Day0.draw{a:Ac}{x y c tr am x' y' c':Int}(h:Day0 a t22 (p22 x y c) [500000,900000])(hl:a.L.length≤50)(ht:(tr=1∧x'=x+(am-minI am c)∧y'=y)∨(tr=2∧x'=x∧y'=y+(am-minI am c)))(hc:c'=c-minI am c)(hm:1≤am∧am≤1000000000000000)(hb:x+y-c+am≤1000)
  (hp:Ps.rightB (p22 x y c)=true) (hq:Ps.rightB (p22 x' y' c')=true):
  a.xe ⟨1,0,tr,am,0⟩=0∧a.xr ⟨1,0,tr,am,0⟩=0∧Day0 (a.chg ⟨1,0,tr,am,0⟩) t22 (p22 x' y' c') [500000,900000]∧(a.chg ⟨1,0,tr,am,0⟩).seq=a.seq+1∧(a.chg ⟨1,0,tr,am,0⟩).D=a.D∧(a.chg ⟨1,0,tr,am,0⟩).L.length=a.L.length+1:=by
 have hee:a.ee ⟨1,0,tr,am,0⟩=0:=by rw [ee_num h (by omega) (.inr ⟨by decide,hm⟩),if_pos rfl,if_neg (by omega)]
 have hxz:a.xz ⟨1,0,tr,am,0⟩=0:=by unfold Ac.xz;rw [if_neg (by show¬((1:Int)=5∨(1:Int)=6);decide)];exact hee
 have hxv:a.xev ⟨1,0,tr,am,0⟩=⟨1,10957,tr,am,0⟩:=by
  unfold Ac.xev
  rw [if_neg (by show¬((1:Int)=5∨(1:Int)=6);decide),Ac.ee_yes hee,h.td]
  rfl
 have hxD:a.xD ⟨1,0,tr,am,0⟩=a.D:=by unfold Ac.xD;rw [if_neg (by show¬((1:Int)=5∨(1:Int)=6);decide)];exact Ac.eD_no (by show(1:Int)≠4;decide)
 obtain⟨h1,h2,h3,h4,h5⟩:=h.chg (c:=⟨1,0,tr,am,0⟩) hl (by show(1:Int)≠6;decide) hxz (by rw [hxv];exact evErr22 (by omega) (by omega) (.inr ⟨by decide,hm⟩) (by decide) (.inr ⟨by decide,rfl⟩)) (by rw [hxv];rfl) (by rw [hxv];exact charge2 hp (by decide) (by decide) (.inl rfl) ⟨by omega,hm.2⟩ ht hc hq)
 exact⟨h1,by rw [(Ac.chg_yes h1).2,if_neg (by show¬(1:Int)=4;decide)],h2,h3,by rw [h4,hxD],h5⟩
theorem right22{a b c:Int}(ha:0≤a∧a≤1000000)(hb:0≤b∧b≤1000000)(hc:0≤c∧c≤1000000)(h0:c=0∨a+b=0):Ps.rightB (p22 a b c)=true:=right2 ha.1 hb.1 (by omega) (by omega) (by omega) h0
end Go.Proofs.YthffbjldpfionaaGreat
