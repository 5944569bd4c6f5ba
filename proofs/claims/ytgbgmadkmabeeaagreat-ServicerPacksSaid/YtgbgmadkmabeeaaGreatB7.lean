/- Part 7 of what the laws of this seat share: walks of functions, and plain laws. -/
import Derived.Test.YtgbgmadkmabeeaaGreatB6
set_option maxRecDepth 100000
set_option maxHeartbeats 3200000
namespace Go.Proofs.YtgbgmadkmabeeaaGreat
open Go.RowKit
theorem indexLate(B:Nat)(q:Ev->Bool)(ad:Option Addr)(cap:Nat)(L:List Ev)(w:World)(hr:Reads w 5 (.slice ad L.length cap) L.length (L.flatMap Ev.cells))(hl:L.length<=1000000)
  (hq:∀W (x:Ev),Keeps (λ_=>False) w W->Calls Tryz.prog 217 #[x.agg,(.pointer (some ⟨B,0,none⟩))] W λe w'=>e= .returned (.bool (q x))/\Keeps (λ_=>False) W w'):
  Calls Tryz.prog 213 #[.slice ad L.length cap,.func (.func 217) #[] #[(.pointer (some ⟨B,0,none⟩))]] w λe w'=>e= .returned (.int .i64 (retI (L.findIdx? q)))/\Keeps (λ_=>False) w w':=by
 obtain⟨n,hn⟩:∃n,L.length=n:=⟨_,rfl⟩;obtain⟨r,hrr⟩:∃r,retI (L.findIdx? q)=r:=⟨_,rfl⟩;rw [hrr];rw [hn] at hr hl⊢;obtain⟨Hr,Hq,Hrr,Hn⟩:=hid4 hr hq hrr hn;clear hn hrr hq hr;go_enter Tryz.func213,Tryz.ntmps213;go_wp2_with fail
 go_loopw [8] (λc wx=>∃j:Nat,j<=n/\c= .int .i64 (j:Nat)/\(∀i y,i<j->L[i]?=some y->q y=false)/\Keeps (λ_=>False) w wx) (λc _=>n-(intOf c).toNat)
 case atStart=>exact⟨0,Nat.zero_le _,rfl,λi y h=>absurd h (Nat.not_lt_zero _),Keeps.refl _ _⟩
 case round=>
  obtain⟨j,hj,rfl,hno,hkx⟩:=hrel;by_cases hjl:j<n
  ·obtain⟨x,hx⟩:=Aq (L:=L) (k:=j) (by rw [Hn.out];exact hjl);have hjI:(j:Int)<(n:Int):=j8;obtain⟨g,o,c,he,hc⟩:=(Hr.out.keeps hkx (by simp)).elem Ev.Aj hx j7;simp only [Value.slice.injEq,true_and] at he;obtain⟨rfl,rfl⟩:=he;have hcall:=Hq.out wr x hkx;obtain⟨qx,hqx⟩:∃b,q x=b:=⟨_,rfl⟩;rw [hqx] at hcall;obtain⟨ki,da,tr,am,re⟩:=x;refine j3g ?_;intro x0 x1 x2 x3 x4;simp only [Ev.agg] at hcall;clear hc;rcases qx with _|_
   ·have hno':∀i y,i<j+1->L[i]?=some y->q y=false:=λi y hi hy=>by
     exact j3h
    obtain⟨Hno,Hno',Hx,Hqx,Hkx,Hcall⟩:=hid6 hno hno' hx hqx hkx hcall;clear hcall hkx hqx hx hno' hno
    go_wp2_with (go_at_call 217;((with_reducible refine Hcall.out.mono ?_);rintro e w1 ⟨rfl,hk1⟩;have Hk1:=Lib.hid hk1;clear hk1))
    exact j3i
   ·have hf:=Wy hx hno hqx;obtain⟨Hno,Hx,Hqx,Hkx,Hcall,Hf⟩:=hid6 hno hx hqx hkx hcall hf;clear hf hcall hkx hqx hx hno
    go_wp2_with (go_at_call 217;((with_reducible refine Hcall.out.mono ?_);rintro e w1 ⟨rfl,hk1⟩;have Hk1:=Lib.hid hk1;clear hk1))
    go_ret;exact⟨by rw [<-Hrr.out,Hf.out];rfl,Keeps.nt Hkx.out Hk1.out⟩
  ·exact j3j
theorem find_any{q:Ev->Bool}{L:List Ev}:decide ((0:Int)<=retI (L.findIdx? q))=L.any q:=by
 rcases h:L.findIdx? q with _|k
 ·have h1:=List.findIdx?_eq_none_iff.1 h
  have h2:L.any q=false:=by
   rw [Bool.eq_false_iff];intro hh;obtain⟨x,hx,h3⟩:=List.any_eq_true.1 hh;have:=h1 x hx;rw [this] at h3;cases h3
  rw [h2];rfl
 ·obtain⟨h1,h2,_⟩:=List.findIdx?_eq_some_iff_getElem.1 h;rw [List.any_eq_true.2 ⟨_,List.getElem_mem h1,h2⟩];simp [retI]
theorem Qm(td:Int)(B:Nat)(ad:Option Addr)(cap n:Nat)(L:List Ev)(w:World)(hB:w.cell? ⟨B,0,none⟩=some (.int .i64 td))(hr:Reads w 5 (.slice ad n cap) n (L.flatMap Ev.cells))(hN:L.length=n)(hl:n<=1000000):
  Calls Tryz.prog 216 #[.slice ad n cap,.func (.func 217) #[] #[(.pointer (some ⟨B,0,none⟩))]] w λe w'=>e= .returned (.bool (L.any (lateQ td)))/\Keeps (λ_=>False) w w':=by
 subst hN;have hi:=indexLate B (lateQ td) ad cap L w hr hl (λW x hW=>Vm td B x W ((hW.cell (Ah hB) (by simp)).trans hB));have hf:=find_any (q:=lateQ td) (L:=L);obtain⟨r,hrr⟩:∃r,retI (L.findIdx? (lateQ td))=r:=⟨_,rfl⟩;obtain⟨z,hz⟩:∃z,L.any (lateQ td)=z:=⟨_,rfl⟩;rw [hrr] at hi hf;rw [hz] at hf⊢;obtain⟨Hr,Hi,Hrr,Hz⟩:=hid4 hr hi hrr hz;clear hz hrr hi hr;go_enter Tryz.func216,Tryz.ntmps216;go_wp2_with fail;refine Hi.out.mono ?_;rintro e w1 ⟨rfl,hk1⟩;have Hk1:=Lib.hid hk1;clear hk1;exact jV
def Dl(t:Tm)(L:List Ev)(td:Int):Int:=if t.err=0 then(if Jl t L=0 then(if 2000<L.length then 14 else if td<t.start\/2932896<td then 10 else if¬ofE t.start t.cyc td=0 then 10 else if L.any (lateQ td)=true then 10 else 0) else Jl t L) else 6
def tdS(b:Nat)(t:Tm)(v:Value)(td:Int)(W:World):Prop:=tbS b t v W/\W.cell? ⟨b+1,0,none⟩=some (.int .i64 td)
theorem Xv(t:Tm)(adt:Option Addr)(ct nt:Nat)(L:List Ev)(ad:Option Addr)(cap n:Nat)(td:Int)(w:World)(hnt:t.trs.length=nt)(htr:Reads w 2 (.slice adt nt ct) nt (t.trs.flatMap Tn.cells))(hn:L.length=n)(hr:Reads w 5 (.slice ad n cap) n (L.flatMap Ev.cells))(hl:n<=1000000)(htl:nt<=1000000):
  Calls Tryz.prog 179 #[.agg #[.int .i64 t.limit,.slice adt nt ct,.int .i64 t.cyc,.int .i64 t.due,.int .i64 t.minFixed,.int .i64 t.minPart,.int .i64 t.start],.slice ad n cap,.int .i64 td] w λe w'=>e= .returned (.int .i64 (Dl t L td))/\Keeps (λ_=>False) w w':=by
 have htm:=λW (hW:Keeps (λ_=>False) w W)=>Jd t adt ct W (by rw [hnt];exact htr.keeps hW (by simp)) j6;have hev:=λx W (hW:Keeps (λ_=>False) w W)=>Rh t x adt ct W (by rw [hnt];exact htr.keeps hW (by simp)) j6;have htb:∀W,Keeps (λ_=>False) ((w.alloc (.cells #[.int .i64 t.limit,.slice adt nt ct,.int .i64 t.cyc,.int .i64 t.due,.int .i64 t.minFixed,.int .i64 t.minPart,.int .i64 t.start] 44)).alloc (.cells #[.int .i64 td] 3)) W->tdS w.heap.size t (.slice adt nt ct) td W:=λW hW=>⟨tbS.of (Ad (Ar (heap_alloc_new w _) _) hW (by simp)),Aa (Ad (Av _ _ (by simp)) hW (by simp)) 0⟩;have hlate:=fun(W:World) (hB:W.cell? ⟨w.heap.size+1,0,none⟩=some (.int .i64 td)) (hW:Keeps (λ_=>False) w W)=>Qm td (w.heap.size+1) ad cap n L W hB (hr.keeps hW (by simp)) hn hl;obtain⟨z,hz⟩:∃z,Dl t L td=z:=⟨_,rfl⟩;have hz':=hz;unfold Dl at hz';obtain⟨y,hy⟩:∃y,t.err=y:=⟨_,rfl⟩;rw [hz];rw [hnt] at htm hev;rw [hy] at htm hz';rw [hn] at hz';simp only [Tm.val] at htm hev⊢;by_cases hy0:y=0
 ·subst hy0;rw [if_pos rfl] at hz';have hnum:=Fg hy;obtain⟨_,_,_,_,_,_,⟨st0,st1⟩⟩:=hnum;have hof:=λW=>Qk t.start t.cyc td W j6;obtain⟨Htm,Hev,Htb,Htr,Hr,Hz,Hz',Hy,Hnt⟩:=hid9 htm hev htb htr hr hz hz' hy hnt;clear hnt hy hz' hz hr htr htb hev htm;obtain⟨Hn,Hlate,Hof⟩:=hid3 hn hlate hof;clear hof hlate hn;go_enter Tryz.func179,Tryz.ntmps179;go_wp2_with fail;refine(Htm.out _ ((Keeps.alloc _ _).Af)).mono ?_;rintro e w1 ⟨rfl,hk1⟩;have Hk1:=Lib.hid hk1;clear hk1;obtain⟨tb,d0⟩:=Htb.out _ Hk1.out;obtain⟨b0,b1,b2,b3,b4,b5,b6⟩:=tb;have bbl:=Ah b0;have dl:=Ah d0;go_wp2
  go_loopw [20] (λx wx=>∃i:Nat,x= .int .i64 (i:Nat)/\i<=n/\(∀j y,j<i->L[j]?=some y->evErr t y=0)/\Keeps (λ_=>False) w1 wx) (λx _=>n-(intOf x).toNat)
  case atStart=>exact⟨0,rfl,Nat.zero_le _,λj y h=>absurd h (Nat.not_lt_zero _),Keeps.refl _ _⟩
  case round=>
   obtain⟨i,rfl,hin,hall,hk⟩:=hrel;obtain⟨wq,hwq⟩:∃x,x=wr:=⟨_,rfl⟩;subst hwq;have hkw:=((Keeps.alloc (S:=λ_=>False) w (.cells #[.int .i64 t.limit,.slice adt nt ct,.int .i64 t.cyc,.int .i64 t.due,.int .i64 t.minFixed,.int .i64 t.minPart,.int .i64 t.start] 44)).Af (o:= .cells #[.int .i64 td] 3)).nt (Hk1.out.nt hk);clear b0 b1 b2 b3 b4 b5 b6 bbl d0 dl;obtain⟨tb,d0⟩:=Htb.out _ (Hk1.out.nt hk);obtain⟨b0,b1,b2,b3,b4,b5,b6⟩:=tb;have bbl:=Ah b0;have dl:=Ah d0;by_cases hlt:i<n
   ·have hltI:(i:Int)<(n:Int):=j8;obtain⟨x,hx⟩:=Aq (L:=L) (k:=i) jQ;obtain⟨g,o,c',he,hc⟩:=(Hr.out.keeps hkw (by simp)).elem Ev.Aj hx j7;simp only [Value.slice.injEq,true_and] at he;obtain⟨rfl,rfl⟩:=he;obtain⟨q,hq⟩:∃q,evErr t x=q:=⟨_,rfl⟩;have hcall:=Hev.out x;rw [hq] at hcall;obtain⟨xk,xd,xt,xa,xf⟩:=x;simp only [Ev.agg] at hcall;have x0:wq.cell? ⟨g,o+i*5,none⟩=some (.int .i64 xk):=hc 0 j7;have x1:wq.cell? ⟨g,o+i*5+1,none⟩=some (.int .i64 xd):=hc 1 j7;have x2:wq.cell? ⟨g,o+i*5+2,none⟩=some (.int .i64 xt):=hc 2 j7;have x3:wq.cell? ⟨g,o+i*5+3,none⟩=some (.int .i64 xa):=hc 3 j7;have x4:wq.cell? ⟨g,o+i*5+4,none⟩=some (.int .i64 xf):=hc 4 j7;have hgl:=Ah x0;clear hc;by_cases hq0:q=0
    ·subst hq0
     have hall2:∀j y,j<i+1->L[j]?=some y->evErr t y=0:=λj y hj hy=>by
      rcases Nat.lt_or_ge j i with h|h
      ·exact hall j y h hy
      ·obtain rfl:j=i:=by omega
       rw [hx] at hy;cases hy;exact hq
     obtain⟨Hall,Hall2,Hk,Hkw,Hx,Hq,Hcall⟩:=hid7 hall hall2 hk hkw hx hq hcall;clear hcall hq hx hkw hk hall2 hall;go_wp2_with fail;refine(Hcall.out _ (Hkw.out.nt (Keeps.alloc _ _))).mono ?_;rintro e w2 ⟨rfl,hk2⟩;have Hk2:=Lib.hid (Hk.out.nt ((Keeps.alloc _ _).nt hk2));clear hk2;go_wp2;go_roundw
     case rel=>exact⟨i+1,by go_num,by omega,Hall2.out,Hk2.out⟩
     case measure=>simp [intOf];omega
    ·have he:=Xd hall hx (by rw [hq];exact hq0);have hqI:(q !=0)=true:=by simp [hq0]
     rw [hq] at he;obtain⟨Hall,Hk,Hkw,Hx,Hq,Hcall,He⟩:=hid7 hall hk hkw hx hq hcall he;clear he hcall hq hx hkw hk hall;go_wp2_with fail;refine(Hcall.out _ (Hkw.out.nt (Keeps.alloc _ _))).mono ?_;rintro e w2 ⟨rfl,hk2⟩;have Hk2:=Lib.hid (Hkw.out.nt ((Keeps.alloc _ _).nt hk2));clear hk2;go_wp2;go_ret;exact⟨by have h:=Hz'.out;rw [He.out,if_neg hq0] at h;subst h;rfl,Hk2.out⟩
   ·obtain rfl:n=i:=by omega
    have he:=Acu (t:=t) (L:=L) λx hx=>by
     obtain⟨j,hj⟩:=List.getElem?_of_mem hx;exact hall j x (by rw [<-Hn.out];exact Db hj) hj
    have h:=Hz'.out;rw [he,if_pos rfl] at h;by_cases h1:2000<n
    ·have h1I:decide ((2000:Int)<(n:Int))=true:=by rw [decide_eq_true_iff];omega
     rw [if_pos h1] at h;exact j1E
    have h1I:decide ((2000:Int)<(n:Int))=false:=by rw [decide_eq_false_iff_not];omega
    rw [if_neg h1] at h;by_cases h2:td<t.start
    ·have h2I:decide (td<t.start)=true:=by simp [h2]
     rw [if_pos (.inl h2)] at h;exact j1E
    have h2I:decide (td<t.start)=false:=by simp [h2]
    by_cases h3:2932896<td
    ·have h3I:decide (2932896<td)=true:=by simp [h3]
     rw [if_pos (.inr h3)] at h;exact j1E
    have h3I:decide (2932896<td)=false:=by simp [h3]
    rw [if_neg j6] at h;obtain⟨oE,hoE⟩:∃oE,ofE t.start t.cyc td=oE:=⟨_,rfl⟩;obtain⟨oV,hoV⟩:∃oV,ofV t.start t.cyc td=oV:=⟨_,rfl⟩;have hof2:=Hof.out;rw [hoE,hoV] at hof2;rw [hoE] at h;by_cases h4:oE=0
    ·subst h4;rw [if_neg (by simp)] at h;rcases h5:L.any (lateQ td) with _|_
     ·rw [h5,if_neg j7] at h;exact j3k
     ·rw [h5,if_pos rfl] at h;exact j3k
    ·have h4I:(oE !=0)=true:=by simp [h4]
     rw [if_pos h4] at h;subst h;obtain⟨Hall,Hk,Hkw,He,HoE,HoV,Hof2⟩:=hid7 hall hk hkw he hoE hoV hof2;clear hof2 hoV hoE he hkw hk hall;go_wp2_with fail;refine(Hof2.out _).mono ?_;rintro e w3 ⟨rfl,hk3⟩;have Hk3:=Lib.hid (Hkw.out.nt hk3);clear hk3;go_wp2;go_ret;exact⟨rfl,Hk3.out⟩
 ·rw [if_neg hy0] at hz';have hy6:=Tm.err_or t;rw [hy] at hy6;obtain rfl:y=6:=hy6.resolve_left hy0;subst hz';obtain⟨Htm,Hev,Htb,Htr,Hr,Hz,Hy,Hnt,Hn⟩:=hid9 htm hev htb htr hr hz hy hnt hn;clear hn hnt hy hz hr htr htb hev htm;have Hlate:=Lib.hid hlate;clear hlate;go_enter Tryz.func179,Tryz.ntmps179;go_wp2_with fail;refine(Htm.out _ ((Keeps.alloc _ _).Af)).mono ?_;rintro e w1 ⟨rfl,hk1⟩;have Hk1:=Lib.hid (((Keeps.alloc (S:=λ_=>False) w _).Af).nt hk1);clear hk1;exact jV
structure Er(q:Ev->Bool)(L X:List Ev)(n i j:Nat):Prop where
 len:X.length=n
 lt:i<j
 le:j<=n
 pre:X.take i=(L.take j).filter (λx=> !q x)
 suf:X.drop j=L.drop j
theorem Er.start{q:Ev->Bool}{L:List Ev}{n k:Nat}(hn:L.length=n)(h:L.findIdx? q=some k):Er q L L n k (k+1):=by
 rw [List.findIdx?_eq_some_iff_getElem] at h;obtain⟨hk,hq,hno⟩:=h;refine⟨hn,Nat.lt_succ_self _,by omega, ?_,rfl⟩
 have hall:(L.take k).filter (λx=> !q x)=L.take k:=by
  rw [List.filter_eq_self];intro x hx;obtain⟨i,hi,he⟩:=List.mem_iff_getElem.1 hx;have hi':i<k:=by simp at hi;omega
  have:=hno i hi';rw [List.getElem_take] at he;rw [he] at this
  simpa using this
 rw [take_snoc' (List.getElem?_eq_getElem hk),List.filter_append,hall];simp [hq]
theorem Er.at{q:Ev->Bool}{L X:List Ev}{n i j:Nat}(h:Er q L X n i j){x:Ev}(hx:X[j]?=some x):L[j]?=some x:=by
 have e:=congrArg (λl:List Ev=>l[0]?) h.suf
 simpa [hx] using e.symm
theorem Er.keep{q:Ev->Bool}{L X:List Ev}{n i j:Nat}(h:Er q L X n i j){x:Ev}(hx:X[j]?=some x)(hq:q x=false):Er q L (X.set i x) n (i+1) (j+1):=by
 have hj:=Db hx;have hl:=h.len;have hlt:=h.lt;refine⟨by rw [List.length_set];exact hl,by omega,by omega, ?_, ?_⟩
 ·rw [take_snoc' (h.at hx),List.filter_append,<-h.pre];have e:(X.set i x)[i]?=some x:=by rw [List.getElem?_set_self j6]
  rw [take_snoc' e,List.take_set_of_le (Nat.le_refl _)];simp [hq]
 ·rw [List.drop_set,if_pos j6,<-List.drop_drop,h.suf,List.drop_drop]
theorem Er.skip{q:Ev->Bool}{L X:List Ev}{n i j:Nat}(h:Er q L X n i j){x:Ev}(hx:X[j]?=some x)(hq:q x=true):Er q L X n i (j+1):=by
 have hj:=Db hx;have hl:=h.len;have hlt:=h.lt;refine⟨hl,by omega,by omega, ?_, ?_⟩
 ·rw [take_snoc' (h.at hx),List.filter_append,<-h.pre];simp [hq]
 ·rw [<-List.drop_drop,h.suf,List.drop_drop]
theorem Er.done{q:Ev->Bool}{L X:List Ev}{n i:Nat}(hn:L.length=n)(h:Er q L X n i n):X.take i=L.filter (λx=> !q x):=by
 rw [h.pre,List.take_of_length_le j6]
theorem Er.cnt{q:Ev->Bool}{L X:List Ev}{n i j:Nat}(h:Er q L X n i j):i<=n:=by have:=h.lt;have:=h.le;omega
theorem Pb(g:Nat)(e:TypeId):∀(vs:List Value) (o:Nat) (w:World) (cur:Array Value),w.heap[g]?=some (.cells cur e (0,0))->∃cur':Array Value,(w.setCells g o vs).heap[g]?=some (.cells cur' e (0,0))/\cur'.size=cur.size/\∀j,j<o->cur'[j]?=cur[j]?
 | [],_,_,cur,h=>⟨cur,h,rfl,λ_ _=>rfl⟩
 |v::r,o,w,cur,h=>by
  obtain⟨cur',h1,h2,h3⟩:=Pb g e r (o+1) (w.setCell ⟨g,o,none⟩ v) _ (heap_setCell_same _ _ o _ _ v h);refine⟨cur',h1,by rw [h2];simp,λj hj=> ?_⟩;rw [h3 j (by omega),Array.getElem?_setIfInBounds_ne (by omega)]
theorem Yz{w:World}{g n cap i:Nat}{X:List Ev}(h:w.ownsRow 0 96 5 (.slice (some ⟨g,0,none⟩) n cap) n (X.flatMap Ev.cells))(_:X.length=n)(hi:i<=n)(vs:List Value):(w.setCells g (i*5) vs).ownsRow 0 96 5 (.slice (some ⟨g,0,none⟩) i cap) i ((X.take i).flatMap Ev.cells):=by
 rcases h.2 with⟨h0,_⟩|⟨g1,cap1,cur,h0,_,hh,h1,h2,h3,h4⟩
 ·simp at h0
 simp only [Value.slice.injEq,Option.some.injEq,Addr.mk.injEq,and_true,true_and] at h0;obtain⟨rfl,rfl⟩:=h0;obtain⟨cur',c1,c2,c3⟩:=Pb g 96 vs (i*5) w cur hh;have hlx:=h.1;refine⟨?_,.inr ⟨g,cap,cur',rfl,Nat.zero_le _,c1,by omega,h2,by rw [c2,h3], ?_⟩⟩
 ·rw [<-Gz Ev.Aj,List.length_take,hlx];omega
 ·rw [<-Gz Ev.Aj,<-h4,List.take_take];rw [show min (i*5) (n*5)=i*5 by omega]
  apply List.ext_getElem?
  intro j;by_cases hj:j<i*5
  ·rw [List.getElem?_take,if_pos hj,List.getElem?_take,if_pos hj,Array.getElem?_toList,Array.getElem?_toList];exact c3 j hj
  ·rw [List.getElem?_take,if_neg hj,List.getElem?_take,if_neg hj]
theorem Nf(w:World)(g o0 o1 o2 o3 o4:Nat)(a b c d e:Value):Keeps (λi=>g=i) w (((((w.setCell ⟨g,o0,none⟩ a).setCell ⟨g,o1,none⟩ b).setCell ⟨g,o2,none⟩ c).setCell ⟨g,o3,none⟩ d).setCell ⟨g,o4,none⟩ e):=
 ((((Keeps.setCell (S:=λi=>g=i) w _ _ rfl).trans (Keeps.setCell _ _ _ (.inl rfl))).trans (Keeps.setCell _ _ _ (.inl rfl))).trans (Keeps.setCell _ _ _ (.inl rfl))).trans (Keeps.setCell _ _ _ (.inl rfl))
theorem Keeps.same{S:Nat->Prop}{a b c:World}(h:Keeps S a b)(h':Keeps S b c):Keeps S a c:=h.trans (h'.mono λ_ _ e=> .inl e)
def RowE(w:World)(g n cap:Nat)(X:List Ev):Prop:=w.ownsRow 0 96 5 (.slice (some ⟨g,0,none⟩) n cap) n (X.flatMap Ev.cells)/\X.length=n
theorem RowE.keep{w w':World}{g n cap:Nat}{X:List Ev}(h:RowE w g n cap X)(hk:Keeps (λ_=>False) w w'):RowE w' g n cap X:=⟨hk.row h.1 (by simp),h.2⟩
theorem RowE.lt{w:World}{g n cap:Nat}{X:List Ev}(h:RowE w g n cap X):g<w.heap.size:=Cj h.1 rfl
theorem RowE.cells{w:World}{g n cap:Nat}{X:List Ev}(h:RowE w g n cap X){k:Nat}{x:Ev}(hx:X[k]?=some x):
  w.cell? ⟨g,k*5,none⟩=some (.int .i64 x.kind)/\w.cell? ⟨g,k*5+1,none⟩=some (.int .i64 x.day)/\w.cell? ⟨g,k*5+2,none⟩=some (.int .i64 x.tranche)/\w.cell? ⟨g,k*5+3,none⟩=some (.int .i64 x.amount)/\w.cell? ⟨g,k*5+4,none⟩=some (.int .i64 x.ref):=by
 obtain⟨h,rfl⟩:=h;exact⟨Cc Ev.Aj h hx 0 j7,Cc Ev.Aj h hx 1 j7,Cc Ev.Aj h hx 2 j7,Cc Ev.Aj h hx 3 j7,Cc Ev.Aj h hx 4 j7⟩
theorem RowE.free{w:World}{g n cap:Nat}{X:List Ev}(h:RowE w g n cap X)(o:Nat):w.frozen? ⟨g,o,none⟩=false:=by
 rcases h.1.2 with⟨h0,_⟩|⟨g1,cap1,cur,h0,_,hh,_⟩
 ·simp at h0
 ·exact j3l
def putE(w:World)(g k:Nat)(a b c d e:Int):World:=((((w.setCell ⟨g,k*5,none⟩ (.int .i64 a)).setCell ⟨g,k*5+1,none⟩ (.int .i64 b)).setCell ⟨g,k*5+2,none⟩ (.int .i64 c)).setCell ⟨g,k*5+3,none⟩ (.int .i64 d)).setCell ⟨g,k*5+4,none⟩ (.int .i64 e)
theorem RowE.put{w:World}{g n cap:Nat}{X:List Ev}(h:RowE w g n cap X){k:Nat}(hk:k<n)(a b c d e:Int):RowE (putE w g k a b c d e) g n cap (X.set k ⟨a,b,c,d,e⟩):=
 ⟨Pj h.1 h.2 hk a b c d e,by simp [h.2]⟩
theorem Ef(w:World)(g k:Nat)(a b c d e:Int):Keeps (λi=>i=g) w (putE w g k a b c d e):=(Nf w g _ _ _ _ _ _ _ _ _ _).mono λ_ _ h=>h.symm
theorem RowE.swp{w:World}{g n cap:Nat}{X:List Ev}(h:RowE w g n cap X){i j:Nat}{a b c d e a' b' c' d' e':Int}(hi:X[i]?=some ⟨a,b,c,d,e⟩)(hj:X[j]?=some ⟨a',b',c',d',e'⟩):
  RowE (putE (putE w g i a' b' c' d' e') g j a b c d e) g n cap (swp X i j):=by
 rw [swp_of hi hj];have:=Db hi;have:=Db hj;have:=h.2;exact(h.put j6 _ _ _ _ _).put j6 _ _ _ _ _
structure Sw(L X:List Ev)(a b i:Nat):Prop where
 len:X.length=L.length
 at':∀t,X[t]?=if a<=t/\t<a+i then L[t+(b-a)]? else if b<=t/\t<b+i then L[t-(b-a)]? else L[t]?
theorem Sw.start(L:List Ev)(a b:Nat):Sw L L a b 0:=⟨rfl,λt=>by rw [if_neg (by omega),if_neg (by omega)]⟩
theorem Sw.next{L X:List Ev}{a b i:Nat}(h:Sw L X a b i)(hab:a+i<b)(hb:b+i<L.length):Sw L (swp X (a+i) (b+i)) a b (i+1):=by
 refine⟨by rw [Ta];exact h.len,λt=> ?_⟩;have hl:=h.len;rw [swp_get j6 j6,h.at',h.at',h.at'];exact j0M
theorem Sw.done{P U M V S:List Ev}{X:List Ev}{n:Nat}(hU:U.length=n)(hV:V.length=n)(h:Sw (P++U++M++V++S) X P.length (P.length+n+M.length) n):X=P++V++M++U++S:=by
 refine List.ext_getElem? λt=> ?_;rw [h.at'];simp only [List.getElem?_append,List.length_append,hU,hV];exact j0M
theorem swapEv_go(g n cap a b m:Nat)(L:List Ev)(fv:Value)(w:World)(h:RowE w g n cap L)(hab:a+m<=b)(hb:b+m<=n)(hn:n<=1000000):
  Calls Tryz.prog 299 #[.slice (some ⟨g,0,none⟩) n cap,.int .i64 a,.int .i64 b,.int .i64 m,fv] w λe w'=>e= .returned (.tuple #[])/\∃X,Sw L X a b m/\RowE w' g n cap X/\Keeps (λi=>i=g) w w':=by
 have H:=Lib.hid h;clear h;go_enter Tryz.func299,Tryz.ntmps299;go_wp2
 go_loopw [10] (λx wx=>∃(i:Nat) (X:List Ev),x= .int .i64 (i:Nat)/\i<=m/\Sw L X a b i/\RowE wx g n cap X/\Keeps (λi=>i=g) w wx) (λx _=>m-(intOf x).toNat)
 case atStart=>exact⟨0,L,rfl,Nat.zero_le _,Sw.start _ _ _,H.out,Keeps.refl _ _⟩
 case round=>
  obtain⟨i,X,rfl,him,hsw,hrow,hk⟩:=hrel;by_cases hlt:i<m
  ·have hltI:(i:Int)<(m:Int):=j8;have hXn:=hrow.2;have hLn:=H.out.2;obtain⟨⟨x0,x1,x2,x3,x4⟩,hx⟩:=Aq (L:=X) (k:=a+i) j6;obtain⟨⟨y0,y1,y2,y3,y4⟩,hy⟩:=Aq (L:=X) (k:=b+i) j6;obtain⟨c0,c1,c2,c3,c4⟩:=hrow.cells hx;obtain⟨d0,d1,d2,d3,d4⟩:=hrow.cells hy;have hnext:=hsw.next j6 j6;have hrow':=(hrow.swp hx hy).keep (Keeps.drew _);have hk2:=hk.same (((Ef wr g (a+i) y0 y1 y2 y3 y4).same (Ef _ g (b+i) x0 x1 x2 x3 x4)).same (Keeps.drew _));have fa0:wr.frozen? ⟨g,(a+i)*5,none⟩=false:=hrow.free _;have fa1:wr.frozen? ⟨g,(a+i)*5+1,none⟩=false:=hrow.free _;have fa2:wr.frozen? ⟨g,(a+i)*5+2,none⟩=false:=hrow.free _;have fa3:wr.frozen? ⟨g,(a+i)*5+3,none⟩=false:=hrow.free _;have fa4:wr.frozen? ⟨g,(a+i)*5+4,none⟩=false:=hrow.free _;have fb0:wr.frozen? ⟨g,(b+i)*5,none⟩=false:=hrow.free _;have fb1:wr.frozen? ⟨g,(b+i)*5+1,none⟩=false:=hrow.free _;have fb2:wr.frozen? ⟨g,(b+i)*5+2,none⟩=false:=hrow.free _;have fb3:wr.frozen? ⟨g,(b+i)*5+3,none⟩=false:=hrow.free _;have fb4:wr.frozen? ⟨g,(b+i)*5+4,none⟩=false:=hrow.free _;have hp0:(0:Int)<=(a:Int)+i:=j8;have hp1:(a:Int)+i<n:=j8;have hq0:(0:Int)<=(b:Int)+i:=j8;have hq1:(b:Int)+i<n:=j8;have e1:((a:Int)+i).toNat=a+i:=j8;have e2:((b:Int)+i).toNat=b+i:=j8;unfold putE at hrow' hk2;obtain⟨Hsw,Hrow,Hx,Hy,Hnext,Hrow',Hk,Hk2⟩:=hid8 hsw hrow hx hy hnext hrow' hk hk2;clear hk2 hk hrow' hnext hy hx hrow hsw;go_wp2_with fail
   go_region
   all_goals go_wp2_with fail
   all_goals go_roundw
   case rel=>exact⟨i+1,_,by go_num,by omega,Hnext.out,Hrow'.out,Hk2.out⟩
   case measure=>simp [intOf];omega
  ·go_wp2;go_end0;obtain rfl:i=m:=by omega
   exact⟨rfl,X,hsw,hrow,hk⟩
theorem Np(P U M V S:List Ev)(g n cap:Nat)(fv:Value)(x y z:Int)(w:World)(h:RowE w g n cap (P++U++M++V++S))(hUV:V.length=U.length)(hn:n<=1000000)(hx:x=P.length)(hy:y=((P.length+U.length+M.length:Nat):Int))(hz:z=U.length):
  Calls Tryz.prog 299 #[.slice (some ⟨g,0,none⟩) n cap,.int .i64 x,.int .i64 y,.int .i64 z,fv] w λe w'=>e= .returned (.tuple #[])/\RowE w' g n cap (P++V++M++U++S)/\Keeps (λi=>i=g) w w':=by
 have hl:=h.2;simp only [List.length_append,hUV] at hl;subst hx hy hz;refine(swapEv_go g n cap _ _ _ _ fv w h j6 j6 hn).mono ?_;rintro e w' ⟨he,X,hX,hr,hk⟩;rw [Sw.done rfl hUV hX] at hr;exact⟨he,hr,hk⟩
theorem rotEv_any(P U V S:List Ev)(g n cap a m b:Nat)(fv:Value)(w:World)(h:RowE w g n cap (P++U++V++S))(hU:U≠ [])(hV:V≠ [])(hn:n<=1000000)(ha:a=P.length)(hm:m=P.length+U.length)(hb:b=P.length+U.length+V.length):
  Calls Tryz.prog 288 #[.slice (some ⟨g,0,none⟩) n cap,.int .i64 a,.int .i64 m,.int .i64 b,fv] w λe w'=>e= .returned (.tuple #[])/\RowE w' g n cap (P++V++U++S)/\Keeps (λi=>i=g) w w':=by
 have hU0:0<U.length:=List.length_pos_iff.2 hU;have hV0:0<V.length:=List.length_pos_iff.2 hV;have hl:=h.2;simp only [List.length_append] at hl;have hma:(m:Int)-a=(U.length:Nat):=j8;have hbm:(b:Int)-m=(V.length:Nat):=j8;have hbn:b<=n:=j8;have ham:a<m:=j8;have hmb:m<b:=j8;obtain⟨G,hG⟩:∃G,P++V++U++S=G:=⟨_,rfl⟩;rw [hG];obtain⟨H,HG,Ha,Hm,Hb,Hl,HU,HV⟩:=hid8 h hG ha hm hb hl hU hV;clear hV hU hl hb hm ha hG h;go_enter Tryz.func288,Tryz.ntmps288;go_wp2
 go_loopw [10,11] (λx y wx=>∃(i j:Nat) (P' U' V' S':List Ev),x= .int .i64 (i:Nat)/\y= .int .i64 (j:Nat)/\U'.length=i/\V'.length=j/\P'.length+i=m/\0<i/\0<j/\m+j<=b/\P'++V'++U'++S'=G/\RowE wx g n cap (P'++U'++V'++S')/\Keeps (λi=>i=g) w wx) (λx y _=>(intOf x).toNat+(intOf y).toNat)
 case atStart=>exact⟨U.length,V.length,P,U,V,S,by go_num,by go_num,rfl,rfl,Hm.out.symm,hU0,hV0,by have:=Hb.out;have:=Hm.out;omega,HG.out,H.out,Keeps.refl _ _⟩
 case round=>
  obtain⟨i,j,P',U',V',S',rfl,rfl,hu,hv,hp,hi,hj,hmj,hg,hrow,hk⟩:=hrel;have him:i<=m:=j8;by_cases hij:i=j
  ·subst hij;have hrow1:RowE wr g n cap (P'++U'++ []++V'++S'):=by simpa using hrow
   have hc:=Np P' U' [] V' S' g n cap fv ((m:Int)-i) m i wr hrow1 j6 hn j6 (by simp only [List.length_nil];omega) j6;simp only [List.append_nil,hg] at hc;obtain⟨Hrow,Hrow1,Hc,Hg,Hk,Hu,Hv,Hp⟩:=hid8 hrow hrow1 hc hg hk hu hv hp;clear hp hv hu hk hg hc hrow1 hrow
   go_wp2_with (go_at_call 299;(with_reducible refine Hc.out.mono ?_);rintro e w1 ⟨rfl,hr1,hk1⟩;have Hr1:=Lib.hid hr1;have Hk1:=Lib.hid hk1;clear hr1 hk1)
   go_end0;exact⟨rfl,Hr1.out,Hk.out.same Hk1.out⟩
  ·by_cases hlt:j<i
   ·obtain⟨U1,U2,rfl,hu1⟩:∃U1 U2,U'=U1++U2/\U1.length=j:=⟨U'.take j,U'.drop j,(List.take_append_drop _ _).symm,by rw [List.length_take];omega⟩;rw [List.length_append] at hu;have hrow1:RowE wr g n cap (P'++U1++U2++V'++S'):=by simpa using hrow
    have hc:=Np P' U1 U2 V' S' g n cap fv ((m:Int)-i) m j wr hrow1 j6 hn j6 j6 j6;have hg':(P'++V')++U1++U2++S'=G:=by rw [<-hg];simp
    have hltI:(j:Int)<i:=j8;have hneI:((i:Int)==j)=false:=by simp;omega
    obtain⟨Hrow,Hrow1,Hc,Hg,Hg',Hk,Hu,Hv,Hp⟩:=hid9 hrow hrow1 hc hg hg' hk hu hv hp;clear hp hv hu hk hg' hg hc hrow1 hrow;have Hu1:=Lib.hid hu1;clear hu1
    go_wp2_with (go_at_call 299;(with_reducible refine Hc.out.mono ?_);rintro e w1 ⟨rfl,hr1,hk1⟩;have Hr1:=Lib.hid hr1;have Hk1:=Lib.hid hk1;clear hr1 hk1)
    go_roundw
    case rel=>exact⟨i-j,j,P'++V',U2,U1,S',by go_num,rfl,by have:=Hu.out;have:=Hu1.out;omega,Hu1.out,by rw [List.length_append,Hv.out];have:=Hp.out;omega,by omega,hj,hmj,Hg'.out,Hr1.out,Hk.out.same Hk1.out⟩
    case measure=>simp [intOf];omega
   ·obtain⟨V1,V2,rfl,hv1⟩:∃V1 V2,V'=V1++V2/\V2.length=i:=⟨V'.take (j-i),V'.drop (j-i),(List.take_append_drop _ _).symm,by rw [List.length_drop];omega⟩;rw [List.length_append] at hv;have hrow1:RowE wr g n cap (P'++U'++V1++V2++S'):=by simpa using hrow
    have hc:=Np P' U' V1 V2 S' g n cap fv ((m:Int)-i) ((m:Int)+j-i) i wr hrow1 j6 hn j6 j6 j6;have hg':P'++V1++V2++(U'++S')=G:=by rw [<-hg];simp
    have hr':∀w1,RowE w1 g n cap (P'++V2++V1++U'++S')->RowE w1 g n cap (P'++V2++V1++(U'++S')):=λw1 h=>by simpa using h
    have hltI:(i:Int)<j:=j8;have hneI:((i:Int)==j)=false:=by simp;omega
    obtain⟨Hrow,Hrow1,Hc,Hg,Hg',Hk,Hu,Hv,Hp⟩:=hid9 hrow hrow1 hc hg hg' hk hu hv hp;clear hp hv hu hk hg' hg hc hrow1 hrow;obtain⟨Hv1,Hr'⟩:=hid2 hv1 hr';clear hr' hv1
    go_wp2_with (go_at_call 299;(with_reducible refine Hc.out.mono ?_);rintro e w1 ⟨rfl,hr1,hk1⟩;have Hr1:=Lib.hid hr1;have Hk1:=Lib.hid hk1;clear hr1 hk1)
    go_roundw
    case rel=>exact⟨i,j-i,P',V2,V1,U'++S',rfl,by go_num,Hv1.out,by have:=Hv.out;have:=Hv1.out;omega,Hp.out,hi,by omega,by omega,Hg'.out,Hr'.out _ Hr1.out,Hk.out.same Hk1.out⟩
    case measure=>simp [intOf];omega
structure CmpBy(f:Nat)(ok:Ev->Prop):Prop where
 eg:∀args w,(callFunc f args).run Tryz.prog w= .ok (.enter f args) w
 call:∀x y W,ok x->ok y->Calls Tryz.prog f #[x.agg,y.agg] W λe w'=>∃z,e= .returned (.int .i64 z)/\(z<0↔x.day<y.day)/\Keeps (λ_=>False) W w'
def twoS(g p q:Nat)(a0 a1 a2 a3 a4 b0 b1 b2 b3 b4:Int)(w:World):Prop:=
 (w.cell? ⟨g,p*5,none⟩=some (.int .i64 a0)/\w.cell? ⟨g,p*5+1,none⟩=some (.int .i64 a1)/\w.cell? ⟨g,p*5+2,none⟩=some (.int .i64 a2)/\w.cell? ⟨g,p*5+3,none⟩=some (.int .i64 a3)/\w.cell? ⟨g,p*5+4,none⟩=some (.int .i64 a4))/\
 (w.cell? ⟨g,q*5,none⟩=some (.int .i64 b0)/\w.cell? ⟨g,q*5+1,none⟩=some (.int .i64 b1)/\w.cell? ⟨g,q*5+2,none⟩=some (.int .i64 b2)/\w.cell? ⟨g,q*5+3,none⟩=some (.int .i64 b3)/\w.cell? ⟨g,q*5+4,none⟩=some (.int .i64 b4))
theorem twoS.of{w:World}{g n cap p q:Nat}{X:List Ev}(h:RowE w g n cap X){a0 a1 a2 a3 a4 b0 b1 b2 b3 b4:Int}(hp:X[p]?=some ⟨a0,a1,a2,a3,a4⟩)(hq:X[q]?=some ⟨b0,b1,b2,b3,b4⟩):twoS g p q a0 a1 a2 a3 a4 b0 b1 b2 b3 b4 w:=⟨h.cells hp,h.cells hq⟩
theorem twoS.keep{w w':World}{S:Nat->Prop}{g p q:Nat}{a0 a1 a2 a3 a4 b0 b1 b2 b3 b4:Int}(h:twoS g p q a0 a1 a2 a3 a4 b0 b1 b2 b3 b4 w)(hk:Keeps S w w')(hS:¬S g):twoS g p q a0 a1 a2 a3 a4 b0 b1 b2 b3 b4 w':=by
 obtain⟨⟨h0,h1,h2,h3,h4⟩,k0,k1,k2,k3,k4⟩:=h;have hl:g<w.heap.size:=Ah h0;have c:=λo=>hk.cell (p:=⟨g,o,none⟩) hl hS;unfold twoS;exact⟨⟨(c _).trans h0,(c _).trans h1,(c _).trans h2,(c _).trans h3,(c _).trans h4⟩,(c _).trans k0,(c _).trans k1,(c _).trans k2,(c _).trans k3,(c _).trans k4⟩
theorem Aaw{X:List Ev}{a i j:Nat}(h:∀s t,a<=s->s<t->t<=i->t≠j+1->dy X s<=dy X t)(haj:a<=j)(hl:j+1<X.length)(hji:j+1<=i)(hd:dy X (j+1)<dy X j):
  ∀s t,a<=s->s<t->t<=i->t≠j->dy (swp X j (j+1)) s<=dy (swp X j (j+1)) t:=by
 have hg:=λt=>swp_get (X:=X) (i:=j) (j:=j+1) j6 hl t;have e1:dy (swp X j (j+1)) (j+1)=dy X j:=Cg (by rw [hg,if_pos rfl]);have e2:dy (swp X j (j+1)) j=dy X (j+1):=Cg (by rw [hg,if_neg j6,if_pos rfl]);have e3:∀t,t≠j->t≠j+1->dy (swp X j (j+1)) t=dy X t:=λt h1 h2=>Cg (by rw [hg,if_neg h2,if_neg h1]);intro s t h1 h2 h3 h4;by_cases ht:t=j+1
 ·subst ht;rw [e1];by_cases hs:s=j
  ·subst hs;rw [e2];omega
  ·rw [e3 s hs j6];exact h s j h1 j6 j6 j6
 ·rw [e3 t h4 ht];by_cases hs:s=j
  ·subst hs;rw [e2];exact h _ t j6 j6 h3 ht
  ·by_cases hs2:s=j+1
   ·subst hs2;rw [e1];exact h j t j6 j6 h3 ht
   ·rw [e3 s hs hs2];exact h s t h1 h2 h3 ht
theorem Ty(f:Nat)(ok:Ev->Prop)(hc:CmpBy f ok)(a b n cap g:Nat)(L:List Ev)(w:World)(h:RowE w g n cap L)(hab:a<=b)(hbn:b<=n)(hok:∀x∈L,ok x)(hn:n<=1000000):
  Calls Tryz.prog 269 #[.slice (some ⟨g,0,none⟩) n cap,.int .i64 a,.int .i64 b,.func (.func f) #[] #[]] w λe w'=>e= .returned (.tuple #[])/\∃X,Turned L X a b/\Upto X a b/\RowE w' g n cap X/\Keeps (λi=>i=g) w w':=by
 have eg:=hc.eg;have hcall:=hc.call;simp only [Ev.agg] at hcall;obtain⟨H,Hok,Hc,Hcall⟩:=hid4 h hok hc hcall;clear hcall hc hok h;go_enter Tryz.func269,Tryz.ntmps269;go_wp2
 go_loopw [8] (λx wx=>∃(i:Nat) (X:List Ev),x= .int .i64 (i:Nat)/\a<i/\i<=b+1/\Turned L X a b/\Upto X a i/\RowE wx g n cap X/\Keeps (λi=>i=g) w wx) (λx _=>b+1-(intOf x).toNat)
 case atStart=>exact⟨a+1,L,by go_num,by omega,by omega,Turned.refl _ _ _,Upto.one j6,H.out,Keeps.refl _ _⟩
 case round=>
  obtain⟨i,X,rfl,hai,hib,ht,hu,hrow,hk⟩:=hrel;by_cases hlt:i<b
  ·have hltI:(i:Int)<(b:Int):=j8;obtain⟨W1,hW1⟩:∃x,x=wr:=⟨_,rfl⟩;subst hW1;have hin:∀s t,a<=s->s<t->t<=i->t≠i->dy X s<=dy X t:=λs t h1 h2 h3 h4=>hu s t h1 h2 j6;obtain⟨Ht,Hu,Hrow,Hk,Hin⟩:=hid5 ht hu hrow hk hin;clear hin hk hrow hu ht;go_wp2
   go_loopw [9] (λx wx=>∃(j:Nat) (Y:List Ev),x= .int .i64 (j:Nat)/\a<=j/\j<=i/\Turned L Y a b/\(∀s t,a<=s->s<t->t<=i->t≠j->dy Y s<=dy Y t)/\RowE wx g n cap Y/\Keeps (λi=>i=g) w wx) (λx _=>(intOf x).toNat)
   case atStart=>exact⟨i,X,rfl,by omega,Nat.le_refl _,Ht.out,Hin.out,Hrow.out,Hk.out⟩
   case round=>
    obtain⟨j,Y,rfl,haj,hji,ht,hin,hrow,hk⟩:=hrel;have hYn:=hrow.2;by_cases hja:a<j
    ·obtain⟨p,rfl⟩:∃p,j=p+1:=⟨j-1,by omega⟩;obtain⟨⟨x0,x1,x2,x3,x4⟩,hx⟩:=Aq (L:=Y) (k:=p+1) j6;obtain⟨⟨y0,y1,y2,y3,y4⟩,hy⟩:=Aq (L:=Y) (k:=p) j6;have okx:ok _:=Hok.out _ (ht.alike.mem (List.mem_of_getElem? hx));have oky:ok _:=Hok.out _ (ht.alike.mem (List.mem_of_getElem? hy));have hS:=twoS.of (hrow.keep (Keeps.drew _)) hx hy;have hxd:=En hx;have hyd:=En hy;simp only at hxd hyd;have q1:IntKind.i64.wrap (((p+1:Nat):Int)-1)=(p:Int):=by rw [show((p+1:Nat):Int)-1=(p:Int) by omega];exact IntWalk.i64_in _ ⟨by omega,by omega⟩
     have q2:(a:Int)<((p+1:Nat):Int):=j8;have q3:(p:Int)<(n:Int):=j8;have p0:(0:Int)<=(p:Int)+1:=j8;have e0:((p:Int)+1).toNat=p+1:=j8;have q9:IntKind.i64.wrap (p:Int)=(p:Int):=IntWalk.i64_in _ ⟨by omega,by omega⟩;have q6:(a:Int)<(p:Int)+1:=j8;have q7:(p:Int)+1<(n:Int):=j8;have q8:IntKind.i64.wrap ((p:Int)+1-1)=(p:Int):=by rw [show(p:Int)+1-1=(p:Int) by omega];exact IntWalk.i64_in _ ⟨by omega,by omega⟩
     have q5:((p+1:Nat):Int)<(n:Int):=j8;obtain⟨Ht,Hin,Hrow,Hk,Hx,Hy,Okx,Oky,HS⟩:=hid9 ht hin hrow hk hx hy okx oky hS;clear hS oky okx hy hx hk hrow hin ht;obtain⟨Hxd,Hyd⟩:=hid2 hxd hyd;clear hyd hxd;have hcl:=λW=>Hcall.out ⟨x0,x1,x2,x3,x4⟩ ⟨y0,y1,y2,y3,y4⟩ W Okx.out Oky.out;simp only at hcl;have Hcl:=Lib.hid hcl;clear hcl;by_cases hd:x1<y1
     ·go_wp2_with fail;refine Al (twoS g (p+1) p x0 x1 x2 x3 x4 y0 y1 y2 y3 y4) (.take 0 (.take 1 (.take 2 (.take 3 (.take 4 (.take 5 (.take 6 (.take 7 (.take 8 (.take 9 (.take 10 (.take 11 (.take 12 (.take 13 (.move 14 (.take 15 (.take 16 .done))))))))))))))))) j9 j9 ?_ ?_
      ·exact HS.out
      intro w1 hs1 hk1;refine je ?_;intro K hK
      go_at_fn f
      ((with_reducible refine(Hcl.out w1).mono ?_);rintro e w2 ⟨z,rfl,hz,hk2⟩;dsimp only)
      have hz':z<0:=hz.2 hd;refine j02 ?_;clear hK K;refine j03 ?_;intro hrow2 hkw;clear hs1 hz;have hstep:=Aaw Hin.out j6 j6 j6 (by rw [Hxd.out,Hyd.out];exact hd);have htn:=Ht.out.trans (Nn (X:=Y) (i:=p) (a:=a) (b:=b) j6 j6 j6 (by rw [Hxd.out,Hyd.out];exact hd));obtain⟨c0,c1,c2,c3,c4⟩:=(hrow2).cells Hx.out;obtain⟨d0,d1,d2,d3,d4⟩:=(hrow2).cells Hy.out;have fa0:(w2).frozen? ⟨g,(p+1)*5,none⟩=false:=(hrow2).free _;have fa1:(w2).frozen? ⟨g,(p+1)*5+1,none⟩=false:=(hrow2).free _;have fa2:(w2).frozen? ⟨g,(p+1)*5+2,none⟩=false:=(hrow2).free _;have fa3:(w2).frozen? ⟨g,(p+1)*5+3,none⟩=false:=(hrow2).free _;have fa4:(w2).frozen? ⟨g,(p+1)*5+4,none⟩=false:=(hrow2).free _;have fb0:(w2).frozen? ⟨g,(p)*5,none⟩=false:=(hrow2).free _;have fb1:(w2).frozen? ⟨g,(p)*5+1,none⟩=false:=(hrow2).free _;have fb2:(w2).frozen? ⟨g,(p)*5+2,none⟩=false:=(hrow2).free _;have fb3:(w2).frozen? ⟨g,(p)*5+3,none⟩=false:=(hrow2).free _;have fb4:(w2).frozen? ⟨g,(p)*5+4,none⟩=false:=(hrow2).free _;have hrow3:=(hrow2.swp Hx.out Hy.out).keep (Keeps.drew _);rw [Zq Y p j6] at hrow3;have hk3:=hkw.same (((Ef w2 g (p+1) y0 y1 y2 y3 y4).same (Ef _ g p x0 x1 x2 x3 x4)).same (Keeps.drew _));unfold putE at hrow3 hk3;obtain⟨Hk1,Hk2,Hrow2,Hkw,Hrow3,Hk3,Hstep,Htn⟩:=hid8 hk1 hk2 hrow2 hkw hrow3 hk3 hstep htn;clear htn hstep hk3 hrow3 hkw hrow2 hk2 hk1;clear hz';go_wp2_with fail
      go_region
      all_goals go_wp2_with fail
      all_goals go_roundw
      case rel=>exact⟨p,_,by go_num,by omega,by omega,Htn.out,Hstep.out,Hrow3.out,Hk3.out⟩
      case measure=>simp [intOf]
     ·go_wp2_with fail;refine Al (twoS g (p+1) p x0 x1 x2 x3 x4 y0 y1 y2 y3 y4) (.take 0 (.take 1 (.take 2 (.take 3 (.take 4 (.take 5 (.take 6 (.take 7 (.take 8 (.take 9 (.take 10 (.take 11 (.take 12 (.take 13 (.move 14 (.take 15 (.take 16 .done))))))))))))))))) j9 j9 ?_ ?_
      ·exact HS.out
      intro w1 hs1 hk1;refine je ?_;intro K hK
      go_at_fn f
      ((with_reducible refine(Hcl.out w1).mono ?_);rintro e w2 ⟨z,rfl,hz,hk2⟩;dsimp only)
      have hz':¬z<0:=λh=>by have:=hz.1 h;omega
      refine j02 ?_;clear hK K;refine j03 ?_;intro hrow2 hkw
      have hup:Upto Y a (i+1):=λs t h1 h2 h3=>by
       by_cases hte:t=p+1
       ·subst hte;rcases Nat.lt_or_ge s p with h4|h4
        ·have e1:=Hin.out s p h1 h4 j6 j6;rw [Hxd.out];rw [Hyd.out] at e1;omega
        ·obtain rfl:s=p:=by omega
         rw [Hxd.out,Hyd.out];omega
       ·exact Hin.out s t h1 h2 j6 hte
      clear hs1 hz;obtain⟨Hk1,Hk2,Hrow2,Hkw,Hup,Hz'⟩:=hid6 hk1 hk2 hrow2 hkw hup hz';clear hz' hup hkw hrow2 hk2 hk1;go_wp2;go_roundw
      case rel=>exact⟨i+1,Y,by go_num,by omega,by omega,Ht.out,Hup.out,Hrow2.out,Hkw.out⟩
      case measure=>simp [intOf];omega
    ·obtain rfl:j=a:=by omega
     have hup:Upto Y j (i+1):=λs t h1 h2 h3=>hin s t h1 h2 j6 j6;have hrow2:=hrow.keep (Keeps.drew wr);have hkw:=hk.same (Keeps.drew wr);obtain⟨Ht,Hin,Hrow,Hk,Hup,Hrow2,Hkw⟩:=hid7 ht hin hrow hk hup hrow2 hkw;clear hkw hrow2 hup hk hrow hin ht;go_wp2_with fail
     go_region
     all_goals go_wp2
     all_goals go_roundw
     case rel=>exact⟨i+1,Y,by go_num,by omega,by omega,Ht.out,Hup.out,Hrow2.out,Hkw.out⟩
     case measure=>simp [intOf];omega
  ·go_wp2;go_end0;exact⟨rfl,X,ht,hu.sub (Nat.le_refl _) j6,hrow,hk⟩
def Gu(L:List Ev)(g n cap a b:Nat)(w:World)(e:Ending)(w':World):Prop:=e= .returned (.tuple #[])/\∃X,Turned L X a b/\Upto X a b/\RowE w' g n cap X/\Keeps (λi=>i=g) w w'
def Zk(f:Nat)(ok:Ev->Prop)(d:Nat):Prop:=∀(a m b n cap g:Nat) (L:List Ev) (w:World),b-a<=d->RowE w g n cap L->a<m->m<b->b<=n->(∀x∈L,ok x)->n<=1000000->Upto L a m->Upto L m b->
  Calls Tryz.prog 270 #[.slice (some ⟨g,0,none⟩) n cap,.int .i64 a,.int .i64 m,.int .i64 b,.func (.func f) #[] #[]] w (Gu L g n cap a b w)
theorem left_step{L Y:List Ev}{a _b k:Nat}(h1:dy Y k=dy L a)(h2:∀t,a<=t->t<k->dy Y t=dy L (t+1))(h3:∀t,k<t->Y[t]?=L[t]?)(hk:a<=k)(hl:k+1<Y.length):
  dy (swp Y k (k+1)) (k+1)=dy L a/\(∀t,a<=t->t<k+1->dy (swp Y k (k+1)) t=dy L (t+1))/\(∀t,k+1<t->(swp Y k (k+1))[t]?=L[t]?):=by
 have hg:=λt=>swp_get (X:=Y) (i:=k) (j:=k+1) j6 hl t;refine⟨(Cg (by rw [hg,if_pos rfl])).trans h1,λt h4 h5=> ?_,λt h4=> ?_⟩
 ·by_cases ht:t=k
  ·subst ht;exact Cg (by rw [hg,if_neg j6,if_pos rfl];exact h3 _ j6)
  ·exact(Cg (by rw [hg,if_neg j6,if_neg ht])).trans (h2 t h4 j6)
 ·rw [hg,if_neg j6,if_neg j6];exact h3 t j6
theorem left_done{L Y:List Ev}{a b i:Nat}(h1:dy Y (i-1)=dy L a)(h2:∀t,a<=t->t<i-1->dy Y t=dy L (t+1))(h3:∀t,i-1<t->Y[t]?=L[t]?)(hs:Upto L (a+1) b)(hbs:Bs (λt=>dy L a<=dy L t) (a+1) b i i):Upto Y a b:=by
 have hlo:=hbs.lo';have hhi:=hbs.hi';have e3:∀t,i-1<t->dy Y t=dy L t:=λt ht=>Cg (h3 t ht);intro s t h4 h5 h6;rcases Nat.lt_trichotomy t (i-1) with h|h|h
 ·rw [h2 s h4 j6,h2 t j6 h];exact hs _ _ j6 j6 j6
 ·subst h;have:=hbs.below (s+1) j6 j6;rw [h2 s h4 h5,h1];omega
 ·rw [e3 t h];have:=hbs.above t j6 h6;rcases Nat.lt_trichotomy s (i-1) with h'|h'|h'
  ·rw [h2 s h4 h'];exact hs _ _ j6 j6 h6
  ·subst h';rw [h1];exact this
  ·rw [e3 s h'];exact hs _ _ j6 h5 h6
theorem Ach(f:Nat)(ok:Ev->Prop)(hc:CmpBy f ok)(a b n cap g:Nat)(L:List Ev)(w:World)(h:RowE w g n cap L)(hmb:a+1<b)(hbn:b<=n)(hok:∀x∈L,ok x)(hn:n<=1000000)(h1:Upto L (a+1) b):
  Calls Tryz.prog 270 #[.slice (some ⟨g,0,none⟩) n cap,.int .i64 a,.int .i64 (a+1:Nat),.int .i64 b,.func (.func f) #[] #[]] w (Gu L g n cap a b w):=by
 have eg:=hc.eg;have hcall:=hc.call;simp only [Ev.agg] at hcall;have q0:((a+1:Nat):Int)-(a:Int)=1:=j8;obtain⟨m,hm⟩:∃m,a+1=m:=⟨_,rfl⟩;rw [hm] at h1 q0 hmb⊢;have hmI:(m:Int)=(a:Int)+1:=j8;have hln:=h.2;obtain⟨H,Hok,Hc,Hcall,H1,Hm,HmI⟩:=hid7 h hok hc hcall h1 hm hmI;clear hmI hm h1 hcall hc hok h;go_enter Tryz.func270,Tryz.ntmps270;go_wp2
 go_loopw [10,11] (λx y wx=>∃(i j:Nat),x= .int .i64 (i:Nat)/\y= .int .i64 (j:Nat)/\Bs (λt=>dy L a<=dy L t) m b i j/\RowE wx g n cap L/\Keeps (λi=>i=g) w wx) (λx y _=>(intOf y).toNat-(intOf x).toNat)
 case atStart=>exact⟨m,b,rfl,rfl,Bs.start j6,H.out,Keeps.refl _ _⟩
 case round=>
  obtain⟨i,j,rfl,rfl,hbs,hrow,hk⟩:=hrel;by_cases hlt:i<j
  ·refine j0N ?_;intro hltI hbhi hblo h hh hih hhj;obtain⟨⟨x0,x1,x2,x3,x4⟩,hx⟩:=Aq (L:=L) (k:=h) j6;obtain⟨⟨y0,y1,y2,y3,y4⟩,hy⟩:=Aq (L:=L) (k:=a) j6;refine j0O ?_;intro okx oky hS hxd hyd;simp only at hxd hyd;have q2:(h:Int)<(n:Int):=j8;have q3:(a:Int)<(n:Int):=j8;have hmono:∀s t,m<=s->s<=t->t<b->dy L a<=dy L s->dy L a<=dy L t:=λs t h1 h2 h3 h4=>by have:=H1.out.le h1 h2 h3;omega
   have hcl:=j1F;simp only at hcl;obtain⟨Hbs,Hrow,Hk,Hx,Hy,Okx,Oky,HS,Hxd⟩:=hid9 hbs hrow hk hx hy okx oky hS hxd;clear hxd hS oky okx hy hx hk hrow hbs;obtain⟨Hyd,Hmono,Hcl⟩:=hid3 hyd hmono hcl;clear hcl hmono hyd;go_wp2_with fail
   try rw [hh]
   clear hh;by_cases hd:x1<y1
   ·skip
    refine Al (twoS g h a x0 x1 x2 x3 x4 y0 y1 y2 y3 y4) (.take 0 (.take 1 (.take 2 (.take 3 (.take 4 (.take 5 (.take 6 (.take 7 (.take 8 (.move 9 (.take 10 .done))))))))))) j9 j9 ?_ ?_
    ·exact HS.out
    intro w1 hs1 hk1;refine je ?_;intro K hK
    go_at_fn f
    ((with_reducible refine(Hcl.out w1).mono ?_);rintro e w2 ⟨z,rfl,hz,hk2⟩;dsimp only)
    have hz':z<0:=hz.2 hd;exact j3m
   ·skip
    refine Al (twoS g h a x0 x1 x2 x3 x4 y0 y1 y2 y3 y4) (.take 0 (.take 1 (.take 2 (.take 3 (.take 4 (.take 5 (.take 6 (.take 7 (.take 8 (.move 9 (.take 10 .done))))))))))) j9 j9 ?_ ?_
    ·exact HS.out
    intro w1 hs1 hk1;refine je ?_;intro K hK
    go_at_fn f
    ((with_reducible refine(Hcl.out w1).mono ?_);rintro e w2 ⟨z,rfl,hz,hk2⟩;dsimp only)
    have hz':¬z<0:=λh=>by have:=hz.1 h;omega
    exact j3n
  ·obtain rfl:j=i:=by have:=hbs.le;omega
   have hbhi:=hbs.hi';have hblo:=hbs.lo';obtain⟨W1,hW1⟩:∃x,x=wr:=⟨_,rfl⟩;subst hW1;obtain⟨Hbs,Hrow,Hk⟩:=hid3 hbs hrow hk;clear hk hrow hbs;go_wp2
   go_loopw [13] (λx wx=>∃(k:Nat) (Y:List Ev),x= .int .i64 (k:Nat)/\a<=k/\k<=j-1/\Turned L Y a b/\dy Y k=dy L a/\(∀t,a<=t->t<k->dy Y t=dy L (t+1))/\(∀t,k<t->Y[t]?=L[t]?)/\RowE wx g n cap Y/\Keeps (λi=>i=g) w wx) (λx _=>j-(intOf x).toNat)
   case atStart=>exact⟨a,L,rfl,Nat.le_refl _,by omega,Turned.refl _ _ _,rfl,λt h1 h2=>by omega,λ_ _=>rfl,Hrow.out,Hk.out⟩
   case round=>
    obtain⟨k,Y,rfl,hak,hkj,ht,e1,e2,e3,hrow,hk⟩:=hrel;have hYn:=hrow.2;by_cases hlt:k<j-1
    ·have hltI:(k:Int)<(j:Int)-1:=j8;obtain⟨⟨x0,x1,x2,x3,x4⟩,hx⟩:=Aq (L:=Y) (k:=k) j6;obtain⟨⟨y0,y1,y2,y3,y4⟩,hy⟩:=Aq (L:=Y) (k:=k+1) j6;have hbel:=Hbs.out.below (k+1) j6 j6;have hd:dy Y (k+1)<dy Y k:=by rw [e1,Cg (e3 (k+1) j6)];omega
     have hstep:=left_step (_b:=b) e1 e2 e3 hak j6;have htn:=ht.trans (Nn (X:=Y) (i:=k) (a:=a) (b:=b) j6 j6 j6 hd);obtain⟨c0,c1,c2,c3,c4⟩:=(hrow).cells hx;obtain⟨d0,d1,d2,d3,d4⟩:=(hrow).cells hy;have fa0:(wr).frozen? ⟨g,(k)*5,none⟩=false:=(hrow).free _;have fa1:(wr).frozen? ⟨g,(k)*5+1,none⟩=false:=(hrow).free _;have fa2:(wr).frozen? ⟨g,(k)*5+2,none⟩=false:=(hrow).free _;have fa3:(wr).frozen? ⟨g,(k)*5+3,none⟩=false:=(hrow).free _;have fa4:(wr).frozen? ⟨g,(k)*5+4,none⟩=false:=(hrow).free _;have fb0:(wr).frozen? ⟨g,(k+1)*5,none⟩=false:=(hrow).free _;have fb1:(wr).frozen? ⟨g,(k+1)*5+1,none⟩=false:=(hrow).free _;have fb2:(wr).frozen? ⟨g,(k+1)*5+2,none⟩=false:=(hrow).free _;have fb3:(wr).frozen? ⟨g,(k+1)*5+3,none⟩=false:=(hrow).free _;have fb4:(wr).frozen? ⟨g,(k+1)*5+4,none⟩=false:=(hrow).free _;have hrow3:=(hrow.swp hx hy).keep (Keeps.drew _);have hk3:=hk.same (((Ef wr g k y0 y1 y2 y3 y4).same (Ef _ g (k+1) x0 x1 x2 x3 x4)).same (Keeps.drew _));unfold putE at hrow3 hk3;have p0:(0:Int)<=(k:Int)+1:=j8;have p1:(k:Int)+1<(n:Int):=j8;have p2:(k:Int)<(n:Int):=j8;have p3:((k:Int)+1).toNat=k+1:=j8;obtain⟨Hrow,Hk,Hx,Hy,Hbel,Hd,Hstep,Htn,Ht⟩:=hid9 hrow hk hx hy hbel hd hstep htn ht;clear ht htn hstep hd hbel hy hx hk hrow;obtain⟨E1,E2,E3,Hrow3,Hk3⟩:=hid5 e1 e2 e3 hrow3 hk3;clear hk3 hrow3 e3 e2 e1;go_wp2_with fail
     go_region
     all_goals go_wp2_with fail
     all_goals go_roundw
     case rel=>exact⟨k+1,_,by go_num,by omega,by omega,Htn.out,Hstep.out.1,Hstep.out.2.1,Hstep.out.2.2,Hrow3.out,Hk3.out⟩
     case measure=>simp [intOf];omega
    ·obtain rfl:k=j-1:=by omega
     have hup:Upto Y a b:=left_done e1 e2 e3 (by have:=H1.out;rwa [<-Hm.out] at this) (by have:=Hbs.out;rwa [<-Hm.out] at this);have hltI:¬((j-1:Nat):Int)<(j:Int)-1:=j8;obtain⟨k,hkk⟩:∃k,j-1=k:=⟨_,rfl⟩;rw [hkk] at hltI⊢;exact j3o
theorem right_step{L Y:List Ev}{m k:Nat}(h1:dy Y (k+1)=dy L m)(h2:∀t,k+1<t->t<=m->dy Y t=dy L (t-1))(h3:∀t,t<k+1->Y[t]?=L[t]?)(hl:k+1<Y.length):
  dy (swp Y k (k+1)) k=dy L m/\(∀t,k<t->t<=m->dy (swp Y k (k+1)) t=dy L (t-1))/\(∀t,t<k->(swp Y k (k+1))[t]?=L[t]?):=by
 have hg:=λt=>swp_get (X:=Y) (i:=k) (j:=k+1) j6 hl t;refine⟨(Cg (by rw [hg,if_neg j6,if_pos rfl])).trans h1,λt h4 h5=> ?_,λt h4=> ?_⟩
 ·by_cases ht:t=k+1
  ·subst ht;exact Cg (by rw [hg,if_pos rfl];exact h3 _ j6)
  ·exact(Cg (by rw [hg,if_neg ht,if_neg j6])).trans (h2 t j6 h5)
 ·rw [hg,if_neg j6,if_neg j6];exact h3 t j6
theorem Ac4{L Y:List Ev}{a m i:Nat}(h1:dy Y i=dy L m)(h2:∀t,i<t->t<=m->dy Y t=dy L (t-1))(h3:∀t,t<i->Y[t]?=L[t]?)(hs:Upto L a m)(hbs:Bs (λt=>dy L m<dy L t) a m i i):Upto Y a (m+1):=by
 have hlo:=hbs.lo';have hhi:=hbs.hi';have e3:∀t,t<i->dy Y t=dy L t:=λt ht=>Cg (h3 t ht);intro s t h4 h5 h6;rcases Nat.lt_trichotomy t i with h|h|h
 ·rw [e3 s j6,e3 t h];exact hs _ _ h4 h5 j6
 ·subst h;have:=hbs.below s h4 h5;rw [e3 s h5,h1];omega
 ·rw [h2 t h j6];have:=hbs.above (t-1) j6 j6;rcases Nat.lt_trichotomy s i with h'|h'|h'
  ·rw [e3 s h'];exact hs.le h4 j6 j6
  ·subst h';rw [h1];omega
  ·rw [h2 s h' j6];exact hs.le j6 j6 j6
theorem Aao(f:Nat)(ok:Ev->Prop)(hc:CmpBy f ok)(a m n cap g:Nat)(L:List Ev)(w:World)(h:RowE w g n cap L)(ham:a+1<m)(hbn:m+1<=n)(hok:∀x∈L,ok x)(hn:n<=1000000)(h1:Upto L a m):
  Calls Tryz.prog 270 #[.slice (some ⟨g,0,none⟩) n cap,.int .i64 a,.int .i64 m,.int .i64 (m+1:Nat),.func (.func f) #[] #[]] w (Gu L g n cap a (m+1) w):=by
 have eg:=hc.eg;have hcall:=hc.call;simp only [Ev.agg] at hcall;have q0:(((m:Int)-(a:Int))==1)=false:=by simp;omega
 have q1:((m+1:Nat):Int)-(m:Int)=1:=j8;obtain⟨b,hm⟩:∃b,m+1=b:=⟨_,rfl⟩;rw [hm] at q1 hbn⊢;have hmb:m<b:=j8;have hln:=h.2;obtain⟨H,Hok,Hc,Hcall,H1,Hm⟩:=hid6 h hok hc hcall h1 hm;clear hm h1 hcall hc hok h;go_enter Tryz.func270,Tryz.ntmps270;go_wp2
 go_loopw [14,15] (λx y wx=>∃(i j:Nat),x= .int .i64 (i:Nat)/\y= .int .i64 (j:Nat)/\Bs (λt=>dy L m<dy L t) a m i j/\RowE wx g n cap L/\Keeps (λi=>i=g) w wx) (λx y _=>(intOf y).toNat-(intOf x).toNat)
 case atStart=>exact⟨a,m,rfl,rfl,Bs.start j6,H.out,Keeps.refl _ _⟩
 case round=>
  obtain⟨i,j,rfl,rfl,hbs,hrow,hk⟩:=hrel;by_cases hlt:i<j
  ·refine j0N ?_;intro hltI hbhi hblo h hh hih hhj;obtain⟨⟨x0,x1,x2,x3,x4⟩,hx⟩:=Aq (L:=L) (k:=m) j6;obtain⟨⟨y0,y1,y2,y3,y4⟩,hy⟩:=Aq (L:=L) (k:=h) j6;refine j0O ?_;intro okx oky hS hxd hyd;simp only at hxd hyd;have q2:(h:Int)<(n:Int):=j8;have q3:(m:Int)<(n:Int):=j8;have hmono:∀s t,a<=s->s<=t->t<m->dy L m<dy L s->dy L m<dy L t:=λs t h1 h2 h3 h4=>by have:=H1.out.le h1 h2 h3;omega
   have hcl:=j1F;simp only at hcl;obtain⟨Hbs,Hrow,Hk,Hx,Hy,Okx,Oky,HS,Hxd⟩:=hid9 hbs hrow hk hx hy okx oky hS hxd;clear hxd hS oky okx hy hx hk hrow hbs;obtain⟨Hyd,Hmono,Hcl⟩:=hid3 hyd hmono hcl;clear hcl hmono hyd;go_wp2_with fail
   try rw [hh]
   clear hh;by_cases hd:x1<y1
   ·skip
    refine Al (twoS g m h x0 x1 x2 x3 x4 y0 y1 y2 y3 y4) (.take 0 (.take 1 (.take 2 (.take 3 (.take 4 (.take 5 (.take 6 (.take 7 (.take 8 (.move 9 (.take 10 (.take 11 .done)))))))))))) j9 j9 ?_ ?_
    ·exact HS.out
    intro w1 hs1 hk1;refine je ?_;intro K hK
    go_at_fn f
    ((with_reducible refine(Hcl.out w1).mono ?_);rintro e w2 ⟨z,rfl,hz,hk2⟩;dsimp only)
    have hz':z<0:=hz.2 hd;exact j3n
   ·skip
    refine Al (twoS g m h x0 x1 x2 x3 x4 y0 y1 y2 y3 y4) (.take 0 (.take 1 (.take 2 (.take 3 (.take 4 (.take 5 (.take 6 (.take 7 (.take 8 (.move 9 (.take 10 (.take 11 .done)))))))))))) j9 j9 ?_ ?_
    ·exact HS.out
    intro w1 hs1 hk1;refine je ?_;intro K hK
    go_at_fn f
    ((with_reducible refine(Hcl.out w1).mono ?_);rintro e w2 ⟨z,rfl,hz,hk2⟩;dsimp only)
    have hz':¬z<0:=λh=>by have:=hz.1 h;omega
    exact j3m
  ·obtain rfl:j=i:=by have:=hbs.le;omega
   have hbhi:=hbs.hi';have hblo:=hbs.lo';obtain⟨W1,hW1⟩:∃x,x=wr:=⟨_,rfl⟩;subst hW1;obtain⟨Hbs,Hrow,Hk⟩:=hid3 hbs hrow hk;clear hk hrow hbs;go_wp2
   go_loopw [17] (λx wx=>∃(k:Nat) (Y:List Ev),x= .int .i64 (k:Nat)/\j<=k/\k<=m/\Turned L Y a b/\dy Y k=dy L m/\(∀t,k<t->t<=m->dy Y t=dy L (t-1))/\(∀t,t<k->Y[t]?=L[t]?)/\RowE wx g n cap Y/\Keeps (λi=>i=g) w wx) (λx _=>(intOf x).toNat)
   case atStart=>exact⟨m,L,rfl,by omega,Nat.le_refl _,Turned.refl _ _ _,rfl,λt h1 h2=>by omega,λ_ _=>rfl,Hrow.out,Hk.out⟩
   case round=>
    obtain⟨k,Y,rfl,hak,hkj,ht,e1,e2,e3,hrow,hk⟩:=hrel;have hYn:=hrow.2;by_cases hlt:j<k
    ·obtain⟨p,rfl⟩:∃p,k=p+1:=⟨k-1,by omega⟩;have hltI:(j:Int)<(p:Int)+1:=j8;obtain⟨⟨x0,x1,x2,x3,x4⟩,hx⟩:=Aq (L:=Y) (k:=p+1) j6;obtain⟨⟨y0,y1,y2,y3,y4⟩,hy⟩:=Aq (L:=Y) (k:=p) j6;have habv:=Hbs.out.above p j6 j6;have hd:dy Y (p+1)<dy Y p:=by rw [e1,Cg (e3 p j6)];omega
     have hstep:=right_step e1 e2 e3 j6;have htn:=ht.trans (Nn (X:=Y) (i:=p) (a:=a) (b:=b) j6 j6 j6 hd);obtain⟨c0,c1,c2,c3,c4⟩:=(hrow).cells hx;obtain⟨d0,d1,d2,d3,d4⟩:=(hrow).cells hy;have fa0:(wr).frozen? ⟨g,(p+1)*5,none⟩=false:=(hrow).free _;have fa1:(wr).frozen? ⟨g,(p+1)*5+1,none⟩=false:=(hrow).free _;have fa2:(wr).frozen? ⟨g,(p+1)*5+2,none⟩=false:=(hrow).free _;have fa3:(wr).frozen? ⟨g,(p+1)*5+3,none⟩=false:=(hrow).free _;have fa4:(wr).frozen? ⟨g,(p+1)*5+4,none⟩=false:=(hrow).free _;have fb0:(wr).frozen? ⟨g,(p)*5,none⟩=false:=(hrow).free _;have fb1:(wr).frozen? ⟨g,(p)*5+1,none⟩=false:=(hrow).free _;have fb2:(wr).frozen? ⟨g,(p)*5+2,none⟩=false:=(hrow).free _;have fb3:(wr).frozen? ⟨g,(p)*5+3,none⟩=false:=(hrow).free _;have fb4:(wr).frozen? ⟨g,(p)*5+4,none⟩=false:=(hrow).free _;have hrow3:=(hrow.swp hx hy).keep (Keeps.drew _);rw [Zq Y p j6] at hrow3;have hk3:=hk.same (((Ef wr g (p+1) y0 y1 y2 y3 y4).same (Ef _ g p x0 x1 x2 x3 x4)).same (Keeps.drew _));unfold putE at hrow3 hk3;have p0:(0:Int)<=(p:Int)+1:=j8;have p1:(p:Int)+1<(n:Int):=j8;have p2:(p:Int)<(n:Int):=j8;have p3:((p:Int)+1).toNat=p+1:=j8;have p4:IntKind.i64.wrap (p:Int)=(p:Int):=IntWalk.i64_in _ ⟨by omega,by omega⟩;obtain⟨Hrow,Hk,Hx,Hy,Habv,Hd,Hstep,Htn,Ht⟩:=hid9 hrow hk hx hy habv hd hstep htn ht;clear ht htn hstep hd habv hy hx hk hrow;obtain⟨E1,E2,E3,Hrow3,Hk3⟩:=hid5 e1 e2 e3 hrow3 hk3;clear hk3 hrow3 e3 e2 e1;go_wp2_with fail
     go_region
     all_goals go_wp2_with fail
     all_goals go_roundw
     case rel=>exact⟨p,_,by go_num,by omega,by omega,Htn.out,Hstep.out.1,Hstep.out.2.1,Hstep.out.2.2,Hrow3.out,Hk3.out⟩
     case measure=>simp [intOf]
    ·obtain rfl:k=j:=by omega
     have hup:Upto Y a b:=by rw [<-Hm.out];exact Ac4 e1 e2 e3 H1.out Hbs.out
     exact j3o
structure Sym(L:List Ev)(a m b mid s0 fin:Nat):Prop where
 al:a<=s0
 sm:s0<=m
 mf:m<=fin
 fb:fin<=b
 smid:s0<=mid
 midf:mid<=fin
 sum:s0+fin=mid+m
 vu:∀s t,s0<=s->s<m->m<=t->t<fin->dy L t<dy L s
 ab:∀s t,a<=s->s<s0->fin<=t->t<b->dy L s<=dy L t
theorem sym_of{L:List Ev}{a m b mid lo hi s0:Nat}(h1:Upto L a m)(h2:Upto L m b)(ham:a<m)(hmb:m<b)(hmid:mid=(a+b) / 2)
  (hlh:(mid<m/\lo+b=mid+m/\hi=mid)\/(m<=mid/\lo=a/\hi=m)) (hbs:Bs (λc=>dy L (mid+m-1-c)<dy L c) lo hi s0 s0):Sym L a m b mid s0 (mid+m-s0):=by
 have e1:=hbs.lo';have e2:=hbs.hi';refine⟨by omega,by omega,by omega,by omega,by omega,by omega,by omega,λs t h3 h4 h5 h6=> ?_,λs t h3 h4 h5 h6=> ?_⟩
 ·have:=hbs.above s0 (Nat.le_refl _) j6;have k1:=h1.le (s:=s0) (t:=s) j6 h3 h4;have k2:=h2.le (s:=t) (t:=mid+m-1-s0) h5 j6 j6;omega
 ·have:=hbs.below (s0-1) j6 j6;have k1:=h1.le (s:=s) (t:=s0-1) h3 j6 j6;have k2:=h2.le (s:=mid+m-1-(s0-1)) (t:=t) j6 j6 h6;omega
theorem Zp{L:List Ev}{a m b mid lo hi:Nat}(h1:Upto L a m)(h2:Upto L m b)(ham:a<m)(hmb:m<b)(hmid:mid=(a+b) / 2)
  (hlh:(mid<m/\lo+b=mid+m/\hi=mid)\/(m<=mid/\lo=a/\hi=m)):∀s t,lo<=s->s<=t->t<hi->dy L (mid+m-1-s)<dy L s->dy L (mid+m-1-t)<dy L t:=λs t h3 h4 h5 h6=>by
 have k1:=h1.le (s:=s) (t:=t) j6 h4 j6;have k2:=h2.le (s:=mid+m-1-t) (t:=mid+m-1-s) j6 j6 j6;omega
structure Rot(L X:List Ev)(a m b mid s0 fin:Nat):Prop where
 t:Turned L X a b
 lo:∀i,i<s0->X[i]?=L[i]?
 v:∀i,s0<=i->i<mid->dy X i=dy L (i+(m-s0))
 u:∀i,mid<=i->i<fin->dy X i=dy L (i-(fin-m))
 hi:∀i,fin<=i->X[i]?=L[i]?
theorem split4(L:List Ev){s0 m fin:Nat}(h1:s0<=m)(h2:m<=fin)(h3:fin<=L.length):∃P U V S,L=P++U++V++S/\P.length=s0/\U.length=m-s0/\V.length=fin-m:=by
 refine⟨L.take s0,(L.take m).drop s0,(L.take fin).drop m,L.drop fin, ?_, ?_, ?_, ?_⟩
 ·have e1:L.take s0++(L.take m).drop s0=L.take m:=by
   conv=>rhs;rw [<-List.take_append_drop s0 (L.take m)]
   rw [List.take_take,Nat.min_eq_left h1]
  have e2:L.take m++(L.take fin).drop m=L.take fin:=by
   conv=>rhs;rw [<-List.take_append_drop m (L.take fin)]
   rw [List.take_take,Nat.min_eq_left h2]
  rw [e1,e2,List.take_append_drop]
 ·rw [List.length_take];omega
 ·rw [List.length_drop,List.length_take];omega
 ·rw [List.length_drop,List.length_take];omega
theorem rot_of{P U V S:List Ev}{a m b mid s0 fin:Nat}(hs:Sym (P++U++V++S) a m b mid s0 fin)(hP:P.length=s0)(hU:U.length=m-s0)(hV:V.length=fin-m):Rot (P++U++V++S) (P++V++U++S) a m b mid s0 fin:=by
 obtain⟨k1,k2,k3,k4,k5,k6,k7,hvu,_⟩:=hs
 have gL:∀i,(P++U++V++S)[i]?=if i<s0 then P[i]? else if i<m then U[i-s0]? else if i<fin then V[i-m]? else S[i-fin]?:=λi=>by
  simp only [List.getElem?_append,List.length_append,hP,hU,hV];exact j0M
 have gX:∀i,(P++V++U++S)[i]?=if i<s0 then P[i]? else if i<mid then V[i-s0]? else if i<fin then U[i-mid]? else S[i-fin]?:=λi=>by
  simp only [List.getElem?_append,List.length_append,hP,hU,hV];exact j0M
 refine⟨⟨by simp only [List.length_append];omega,λi hi=> ?_, ?_⟩,λi hi=> ?_,λi h1 h2=> ?_,λi h1 h2=> ?_,λi hi=> ?_⟩
 ·rw [gL,gX];rcases hi with h|h
  ·rw [if_pos j6,if_pos j6]
  ·rw [if_neg j6,if_neg j6,if_neg j6,if_neg j6,if_neg j6,if_neg j6]
 ·rw [List.append_assoc P V U,List.append_assoc P U V];refine Alike.app (Alike.app (Alike.refl _) (Alike.turn λu hu v hv=> ?_)) (Alike.refl _);obtain⟨i,hi,he⟩:=List.getElem_of_mem hu;obtain⟨j,hj,he'⟩:=List.getElem_of_mem hv;have h1:=hvu (s0+i) (m+j) j6 j6 j6 j6
  rwa [En (x:=v) (by rw [gL,if_neg j6,if_neg j6,if_pos j6,Nat.add_sub_cancel_left,List.getElem?_eq_getElem hj,he']),En (x:=u) (by rw [gL,if_neg j6,if_pos j6,Nat.add_sub_cancel_left,List.getElem?_eq_getElem hi,he])] at h1
 ·rw [gL,gX,if_pos hi,if_pos hi]
 ·refine Cg ?_;rw [gL,gX,if_neg j6,if_pos h2,if_neg j6,if_neg j6,if_pos j6]
  congr 1;omega
 ·refine Cg ?_;rw [gL,gX,if_neg j6,if_neg j6,if_pos h2,if_neg j6,if_pos j6]
  congr 1;omega
 ·rw [gL,gX,if_neg j6,if_neg j6,if_neg j6,if_neg j6,if_neg j6,if_neg j6]
theorem Aa2{L:List Ev}{a m b mid s0 fin:Nat}(hs:Sym L a m b mid s0 fin)(h:s0=m\/fin=m):Rot L L a m b mid s0 fin:=by
 obtain⟨k1,k2,k3,k4,k5,k6,k7,_,_⟩:=hs;refine⟨Turned.refl _ _ _,λ_ _=>rfl,λi h1 h2=> ?_,λi h1 h2=> ?_,λ_ _=>rfl⟩
 ·exact Cg (by congr 1;omega)
 ·exact Cg (by congr 1;omega)
theorem Rot.left{L X:List Ev}{a m b mid s0 fin:Nat}(h:Rot L X a m b mid s0 fin)(hs:Sym L a m b mid s0 fin)(h1:Upto L a m)(h2:Upto L m b):Upto X a s0/\Upto X s0 mid:=by
 obtain⟨k1,k2,k3,k4,k5,k6,k7,_,_⟩:=hs;refine⟨(h1.sub (Nat.le_refl _) k2).eq λt _ ht=>h.lo t ht,λs t h3 h4 h5=> ?_⟩;rw [h.v s h3 j6,h.v t j6 h5];exact h2 _ _ j6 j6 j6
theorem Rot.right{L X:List Ev}{a m b mid s0 fin:Nat}(h:Rot L X a m b mid s0 fin)(hs:Sym L a m b mid s0 fin)(h1:Upto L a m)(h2:Upto L m b):Upto X mid fin/\Upto X fin b:=by
 obtain⟨k1,k2,k3,k4,k5,k6,k7,_,_⟩:=hs;refine⟨λs t h3 h4 h5=> ?_,(h2.sub k3 (Nat.le_refl _)).eq λt ht _=>h.hi t ht⟩;rw [h.u s h3 j6,h.u t j6 h5];exact h1 _ _ j6 j6 j6
theorem Rot.cross{L X:List Ev}{a m b mid s0 fin:Nat}(h:Rot L X a m b mid s0 fin)(hs:Sym L a m b mid s0 fin)(h1:Upto L a m)(h2:Upto L m b):∀s t,a<=s->s<mid->mid<=t->t<b->dy X s<=dy X t:=by
 obtain⟨k1,k2,k3,k4,k5,k6,k7,hvu,hab⟩:=hs;intro s t h3 h4 h5 h6;rcases Nat.lt_or_ge s s0 with hs|hs
 ·rw [Cg (h.lo s hs)];rcases Nat.lt_or_ge t fin with ht|ht
  ·rw [h.u t h5 ht];exact h1.le h3 j6 j6
  ·rw [Cg (h.hi t ht)];exact hab s t h3 hs ht h6
 ·rw [h.v s hs h4];rcases Nat.lt_or_ge t fin with ht|ht
  ·rw [h.u t h5 ht];have:=hvu (t-(fin-m)) (s+(m-s0)) j6 j6 j6 j6;omega
  ·rw [Cg (h.hi t ht)];exact h2.le j6 j6 h6
theorem Bb{X Y Z:List Ev}{a mid b:Nat}(hab:a<=mid)(hmb:mid<=b)(hb:b<=X.length)(hc:∀s t,a<=s->s<mid->mid<=t->t<b->dy X s<=dy X t)
  (h1:Turned X Y a mid) (h2:Upto Y a mid) (h3:Turned Y Z mid b) (h4:Upto Z mid b):Turned X Z a b/\Upto Z a b:=by
 refine⟨(h1.wide (Nat.le_refl _) hmb).trans (h3.wide hab (Nat.le_refl _)),λs t h5 h6 h7=> ?_⟩
 have c1:∀s,a<=s->s<mid->∀t,mid<=t->t<b->dy Y s<=dy Y t:=λs hs1 hs2 t ht1 ht2=>by
  rw [Cg (h1.out t (.inr ht1))];exact h1.bound (q:=λv=>∀t,mid<=t->t<b->v<=dy X t) j6 (λs hs1 hs2 t ht1 ht2=>hc s t hs1 hs2 ht1 ht2) s hs1 hs2 t ht1 ht2
 rcases Nat.lt_or_ge s mid with hs|hs
 ·rw [Cg (h3.out s (.inl hs))];rcases Nat.lt_or_ge t mid with ht|ht
  ·rw [Cg (h3.out t (.inl ht))];exact h2 s t h5 h6 ht
  ·exact h3.bound (q:=λv=>dy Y s<=v) (by have:=h1.len;omega) (λt ht1 ht2=>c1 s h5 hs t ht1 ht2) t ht h7
 ·exact h4 s t hs h6 h7
theorem halt{p:Prop}(h:Hid p):p:=h.out
def Half(a m b mid lo hi:Nat):Prop:=(mid<m/\lo+b=mid+m/\hi=mid)\/(m<=mid/\lo=a/\hi=m)
theorem Aa3{L:List Ev}{g n cap a m b mid s0 fin:Nat}{w:World}(fv:Value)(hrow:RowE w g n cap L)(hs:Sym L a m b mid s0 fin)(h1:s0<m)(h2:m<fin)(hn:n<=1000000)(hb:b<=n):
  ∃X,Rot L X a m b mid s0 fin/\Calls Tryz.prog 288 #[.slice (some ⟨g,0,none⟩) n cap,.int .i64 s0,.int .i64 m,.int .i64 fin,fv] w λe w'=>e= .returned (.tuple #[])/\RowE w' g n cap X/\Keeps (λi=>i=g) w w':=by
 have hl:=hrow.2;have hf:=hs.fb;obtain⟨P,U,V,S,rfl,hP,hU,hV⟩:=split4 L (s0:=s0) (m:=m) (fin:=fin) j6 j6 j6;refine⟨P++V++U++S,rot_of hs hP hU hV, ?_⟩;exact rotEv_any P U V S g n cap s0 m fin fv w hrow (λe=>by subst e;simp at hU;omega) (λe=>by subst e;simp at hV;omega) hn hP.symm j6 j6
theorem Acg(f:Nat)(ok:Ev->Prop)(hc:CmpBy f ok)(d:Nat)(ih:Zk f ok d)(a m b n cap g:Nat)(L:List Ev)(w:World)(hd:b-a<=d+1)(h:RowE w g n cap L)(ham:a<m)(hmb:m<b)(ha1:¬m=a+1)(hb1:¬b=m+1)(hbn:b<=n)(hok:∀x∈L,ok x)(hn:n<=1000000)(h1:Upto L a m)(h2:Upto L m b)(mid:Nat)(hmid:mid=(a+b) / 2)(hmm:mid<m):
  Calls Tryz.prog 270 #[.slice (some ⟨g,0,none⟩) n cap,.int .i64 a,.int .i64 m,.int .i64 b,.func (.func f) #[] #[]] w (Gu L g n cap a b w):=by
 have eg:=hc.eg;have hcall:=hc.call;simp only [Ev.agg] at hcall;have q0:(((m:Int)-(a:Int))==1)=false:=by simp;omega
 have q1:(((b:Int)-(m:Int))==1)=false:=by simp;omega
 have hln:=h.2;have hmI:((a:Int)+b) / 2=mid:=j8;have hamid:a<mid:=j8;have hmidb:mid<b:=j8;obtain⟨p,hp⟩:∃p,mid+m-1=p:=⟨_,rfl⟩;have hpI:(mid:Int)+m-1=p:=j8;obtain⟨lo,hlo⟩:∃lo,mid+m-b=lo:=⟨_,rfl⟩;have hloI:(mid:Int)+m-b=lo:=j8;have hlh:Half a m b mid lo mid:= .inl ⟨hmm,by omega,rfl⟩;obtain⟨H,Hok,Hc,Hcall,H1,H2,Hmid,Hp,Ih⟩:=hid9 h hok hc hcall h1 h2 hmid hp ih;clear ih hp hmid h2 h1 hcall hc hok h;have Hlh:=Lib.hid hlh;clear hlh;go_enter Tryz.func270,Tryz.ntmps270;go_wp2
 go_loopw [20,21] (λx y wx=>∃(i j:Nat),x= .int .i64 (i:Nat)/\y= .int .i64 (j:Nat)/\Bs (λc=>dy L (p-c)<dy L c) lo mid i j/\RowE wx g n cap L/\Keeps (λi=>i=g) w wx) (λx y _=>(intOf y).toNat-(intOf x).toNat)
 case atStart=>exact⟨lo,mid,by go_num,by go_num,Bs.start j6,H.out,Keeps.refl _ _⟩
 case round=>
  obtain⟨i,j,rfl,rfl,hbs,hrow,hk⟩:=hrel;by_cases hlt:i<j
  ·refine j0N ?_;intro hltI hbhi hblo h hh hih hhj;obtain⟨q,hq⟩:∃q,p-h=q:=⟨_,rfl⟩;have hqI:(p:Int)-(h:Int)=q:=j8;have hqn:q<n:=j8;obtain⟨⟨x0,x1,x2,x3,x4⟩,hx⟩:=Aq (L:=L) (k:=q) j6;obtain⟨⟨y0,y1,y2,y3,y4⟩,hy⟩:=Aq (L:=L) (k:=h) j6;refine j0O ?_;intro okx oky hS hxd hyd;simp only at hxd hyd;have q2:(h:Int)<(n:Int):=j8;have q3:(q:Int)<(n:Int):=j8;have q5:IntKind.i64.wrap (q:Int)=(q:Int):=IntWalk.i64_in _ ⟨by omega,by omega⟩;have hmono:=Zp (lo:=lo) (hi:=mid) H1.out H2.out ham hmb Hmid.out Hlh.out;exact j3p
  ·obtain rfl:j=i:=by have:=hbs.le;omega
   rw [<-Hp.out] at hbs;have hsym:=sym_of (lo:=lo) (hi:=mid) H1.out H2.out ham hmb Hmid.out Hlh.out hbs;exact j3q
theorem Acf(f:Nat)(ok:Ev->Prop)(hc:CmpBy f ok)(d:Nat)(ih:Zk f ok d)(a m b n cap g:Nat)(L:List Ev)(w:World)(hd:b-a<=d+1)(h:RowE w g n cap L)(ham:a<m)(hmb:m<b)(ha1:¬m=a+1)(hb1:¬b=m+1)(hbn:b<=n)(hok:∀x∈L,ok x)(hn:n<=1000000)(h1:Upto L a m)(h2:Upto L m b)(mid:Nat)(hmid:mid=(a+b) / 2)(hmm:m<=mid):
  Calls Tryz.prog 270 #[.slice (some ⟨g,0,none⟩) n cap,.int .i64 a,.int .i64 m,.int .i64 b,.func (.func f) #[] #[]] w (Gu L g n cap a b w):=by
 have eg:=hc.eg;have hcall:=hc.call;simp only [Ev.agg] at hcall;have q0:(((m:Int)-(a:Int))==1)=false:=by simp;omega
 have q1:(((b:Int)-(m:Int))==1)=false:=by simp;omega
 have hln:=h.2;have hmI:((a:Int)+b) / 2=mid:=j8;have hamid:a<mid:=j8;have hmidb:mid<b:=j8;obtain⟨p,hp⟩:∃p,mid+m-1=p:=⟨_,rfl⟩;have hpI:(mid:Int)+m-1=p:=j8;have hlh:Half a m b mid a m:= .inr ⟨hmm,rfl,rfl⟩;have hmmI:¬(m:Int)>(mid:Int):=j8;have hmmJ:(m:Int)<=(mid:Int):=j8;obtain⟨H,Hok,Hc,Hcall,H1,H2,Hmid,Hp,Ih⟩:=hid9 h hok hc hcall h1 h2 hmid hp ih;clear ih hp hmid h2 h1 hcall hc hok h;have Hlh:=Lib.hid hlh;clear hlh;go_enter Tryz.func270,Tryz.ntmps270;go_wp2
 go_loopw [20,21] (λx y wx=>∃(i j:Nat),x= .int .i64 (i:Nat)/\y= .int .i64 (j:Nat)/\Bs (λc=>dy L (p-c)<dy L c) a m i j/\RowE wx g n cap L/\Keeps (λi=>i=g) w wx) (λx y _=>(intOf y).toNat-(intOf x).toNat)
 case atStart=>exact⟨a,m,by go_num,by go_num,Bs.start j6,H.out,Keeps.refl _ _⟩
 case round=>
  obtain⟨i,j,rfl,rfl,hbs,hrow,hk⟩:=hrel;by_cases hlt:i<j
  ·refine j0N ?_;intro hltI hbhi hblo h hh hih hhj;obtain⟨q,hq⟩:∃q,p-h=q:=⟨_,rfl⟩;have hqI:(p:Int)-(h:Int)=q:=j8;have hqn:q<n:=j8;obtain⟨⟨x0,x1,x2,x3,x4⟩,hx⟩:=Aq (L:=L) (k:=q) j6;obtain⟨⟨y0,y1,y2,y3,y4⟩,hy⟩:=Aq (L:=L) (k:=h) j6;refine j0O ?_;intro okx oky hS hxd hyd;simp only at hxd hyd;have q2:(h:Int)<(n:Int):=j8;have q3:(q:Int)<(n:Int):=j8;have q5:IntKind.i64.wrap (q:Int)=(q:Int):=IntWalk.i64_in _ ⟨by omega,by omega⟩;have hmono:=Zp (lo:=a) (hi:=m) H1.out H2.out ham hmb Hmid.out Hlh.out;exact j3p
  ·obtain rfl:j=i:=by have:=hbs.le;omega
   rw [<-Hp.out] at hbs;have hsym:=sym_of (lo:=a) (hi:=m) H1.out H2.out ham hmb Hmid.out Hlh.out hbs;exact j3q
theorem Jf(f:Nat)(ok:Ev->Prop)(hc:CmpBy f ok):∀d,Zk f ok d
 |0=>λa m b n cap g L w hd _ h1 h2 _ _ _ _ _=>by omega
 |d+1=>λa m b n cap g L w hd hrow ham hmb hbn hok hn h1 h2=>by
  by_cases e1:m=a+1
  ·subst e1;exact Ach f ok hc a b n cap g L w hrow hmb hbn hok hn h2
  ·by_cases e2:b=m+1
   ·subst e2;exact Aao f ok hc a m n cap g L w hrow (by omega) hbn hok hn h1
   ·rcases Nat.lt_or_ge ((a+b) / 2) m with h|h
    ·exact Acg f ok hc d (Jf f ok hc d) a m b n cap g L w hd hrow ham hmb e1 e2 hbn hok hn h1 h2 _ rfl h
    ·exact Acf f ok hc d (Jf f ok hc d) a m b n cap g L w hd hrow ham hmb e1 e2 hbn hok hn h1 h2 _ rfl h
def Blk(s n:Nat)(X:List Ev):Prop:=∀t,Upto X (t*s) (min (t*s+s) n)
structure BlkTo(s n k:Nat)(X:List Ev):Prop where
 lo:∀t,t<k->Upto X (2*(t*s)) (2*(t*s)+2*s)
 hi:∀t,2*k<=t->Upto X (t*s) (min (t*s+s) n)
theorem Blk.te{s n:Nat}{X:List Ev}(h:Blk s n X):BlkTo s n 0 X:=⟨λt ht=>by omega,λt _=>h t⟩
theorem Pm{t k s:Nat}(h:t<k):t*s+s<=k*s:=by
 have:=Nat.mul_le_mul_right s (show t+1<=k from h)
 rwa [Nat.succ_mul] at this
theorem Sz(k s:Nat):2*k*s=2*(k*s):=Nat.mul_assoc 2 k s
theorem BlkTo.halves{s n k:Nat}{X:List Ev}(h:BlkTo s n k X):Upto X (2*(k*s)) (min (2*(k*s)+s) n)/\Upto X (2*(k*s)+s) (min (2*(k*s)+s+s) n):=by
 have h1:=h.hi (2*k) (Nat.le_refl _);have h2:=h.hi (2*k+1) j6;rw [Sz] at h1;rw [Nat.succ_mul,Sz] at h2;exact⟨h1,h2⟩
theorem BlkTo.next{s n k:Nat}{X Y:List Ev}(h:BlkTo s n k X)(ht:Turned X Y (2*(k*s)) (2*(k*s)+2*s))(hu:Upto Y (2*(k*s)) (2*(k*s)+2*s)):BlkTo s n (k+1) Y:=by
 refine⟨λt hlt=> ?_,λt hge=> ?_⟩
 ·by_cases he:t=k
  ·subst he;exact hu
  ·have:=Pm (s:=s) (show t<k by omega);exact(h.lo t j6).eq λi h1 h2=>ht.out i (.inl j6)
 ·have:=Pm (s:=s) (show 2*k+1<t by omega);rw [Nat.succ_mul,Sz] at this;exact(h.hi t j6).eq λi h1 h2=>ht.out i (.inr j6)
theorem BlkTo.done{s n k:Nat}{X Y:List Ev}(h:BlkTo s n k X)(h1:2*(k*s)<=n)(h2:n<2*(k*s)+2*s)(ht:Turned X Y (2*(k*s)) n)(hu:Upto Y (2*(k*s)) n):Blk (2*s) n Y:=by
 intro t;rw [show t*(2*s)=2*(t*s) from Nat.mul_left_comm _ _ _];rcases Nat.lt_trichotomy t k with hk|hk|hk
 ·have:=Pm (s:=s) hk;exact((h.lo t hk).sub (Nat.le_refl _) (Nat.min_le_left _ _)).eq λi h3 h4=>ht.out i (.inl j6)
 ·subst hk;exact hu.sub (Nat.le_refl _) (Nat.min_le_right _ _)
 ·have:=Pm (s:=s) hk;exact Upto.one (by have:=Nat.min_le_right (2*(t*s)+2*s) n;omega)
theorem Blk.all{s n:Nat}{X:List Ev}(h:Blk s n X)(hs:n<=s):Upto X 0 n:=by
 have:=h 0;rw [Nat.zero_mul,Nat.zero_add,Nat.min_eq_right hs] at this;exact this
theorem Xp(f:Nat)(ok:Ev->Prop)(hc:CmpBy f ok)(n cap g:Nat)(L:List Ev)(w:World)(h:RowE w g n cap L)(hok:∀x∈L,ok x)(hn:n<=1000000):
  Calls Tryz.prog 248 #[.slice (some ⟨g,0,none⟩) n cap,.int .i64 n,.func (.func f) #[] #[]] w (Gu L g n cap 0 n w):=by
 have hln:=h.2;obtain⟨H,Hok,Hc⟩:=hid3 h hok hc;clear hc hok h;go_enter Tryz.func248,Tryz.ntmps248;go_wp2
 go_loopw [7,8] (λx y wx=>∃(k:Nat) (X:List Ev),x= .int .i64 (20*k:Nat)/\y= .int .i64 (20*k+20:Nat)/\20*k<=n/\Turned L X 0 n/\(∀t,t<k->Upto X (20*t) (20*t+20))/\RowE wx g n cap X/\Keeps (λi=>i=g) w wx) (λx y _=>n+20-(intOf y).toNat)
 case atStart=>exact⟨0,L,rfl,rfl,by omega,Turned.refl _ _ _,λt ht=>by omega,H.out,Keeps.refl _ _⟩
 case round=>
  obtain⟨k,X,rfl,rfl,hkn,ht,hb,hrow,hk⟩:=hrel;obtain⟨a,ha⟩:∃a,20*k=a:=⟨_,rfl⟩;obtain⟨b,hb'⟩:∃b,a+20=b:=⟨_,rfl⟩;rw [ha,hb'];rw [ha] at hkn;by_cases hlt:b<=n
  ·have hltI:(b:Int)<=(n:Int):=j8;have hins:=Ty f ok Hc.out a b n cap g X wr hrow j6 hlt (λx hx=>Hok.out x (ht.alike.mem hx)) hn;obtain⟨Ht,Hb,Hrow,Hk,Hins⟩:=hid5 ht hb hrow hk hins;clear hins hk hrow hb ht
   go_wp2_with (go_at_call 269;(with_reducible refine Hins.out.mono ?_);rintro e w1 ⟨rfl,Y,htY,huY,hrow1,hk1⟩;have HtY:=Lib.hid htY;have HuY:=Lib.hid huY;have Hrow1:=Lib.hid hrow1;have Hk1:=Lib.hid (Hk.out.same hk1);clear htY huY hrow1 hk1)
   go_roundw
   case rel=>
    refine⟨k+1,Y,by go_num,by go_num,by omega,Ht.out.trans (HtY.out.wide (Nat.zero_le _) hlt),λt hk=> ?_,Hrow1.out,Hk1.out⟩;by_cases he:t=k
    ·subst he;rw [show 20*t+20=b by omega,ha];exact HuY.out
    ·exact(Hb.out t j6).eq λi h1 h2=>HtY.out.out i (.inl j6)
   case measure=>simp [intOf];omega
  ·have hltI:¬(b:Int)<=(n:Int):=j8;have hins:=Ty f ok Hc.out a n n cap g X wr hrow hkn (Nat.le_refl _) (λx hx=>Hok.out x (ht.alike.mem hx)) hn
   have hblk:∀Y,Turned X Y a n->Upto Y a n->Blk 20 n Y:=λY htY huY t=>by
    rw [Nat.mul_comm t 20];rcases Nat.lt_trichotomy t k with h|h|h
    ·exact((hb t h).sub (Nat.le_refl _) (Nat.min_le_left _ _)).eq λi h1 h2=>htY.out i (.inl j6)
    ·subst h;rw [ha];exact huY.sub (Nat.le_refl _) (Nat.min_le_right _ _)
    ·exact Upto.one j6
   obtain⟨Ht,Hb,Hrow,Hk,Hins,Hblk⟩:=hid6 ht hb hrow hk hins hblk;clear hblk hins hk hrow hb ht
   go_wp2_with (go_at_call 269;(with_reducible refine Hins.out.mono ?_);rintro e w1 ⟨rfl,Y,htY,huY,hrow1,hk1⟩;have HtY:=Lib.hid (Ht.out.trans (htY.wide (Nat.zero_le _) (Nat.le_refl _)));have HbY:=Lib.hid (Hblk.out Y htY huY);have Hrow1:=Lib.hid hrow1;have Hk1:=Lib.hid (Hk.out.same hk1);clear htY huY hrow1 hk1)
   clear Hblk Hins Hrow Hk Hb
   go_loopw [6] (λx wx=>∃(s:Nat) (X:List Ev),x= .int .i64 (s:Nat)/\0<s/\s<=2*n+20/\Turned L X 0 n/\Blk s n X/\RowE wx g n cap X/\Keeps (λi=>i=g) w wx) (λx _=>2*n+21-(intOf x).toNat)
   case atStart=>exact⟨20,Y,rfl,by omega,by omega,HtY.out,HbY.out,Hrow1.out,Hk1.out⟩
   case round=>
    obtain⟨s,X,rfl,hs0,hsn,ht,hb,hrow,hk⟩:=hrel;obtain⟨W1,hW1⟩:∃x,x=wr:=⟨_,rfl⟩;subst hW1;by_cases hlt:s<n
    ·have hltI:(s:Int)<(n:Int):=j8;have hb0:=hb.te;obtain⟨Ht,Hb,Hrow,Hk,Hb0⟩:=hid5 ht hb hrow hk hb0;clear hb0 hk hrow hb ht;go_wp2
     go_loopw [7,8] (λx y wx=>∃(k a b:Nat) (X:List Ev),x= .int .i64 (a:Nat)/\y= .int .i64 (b:Nat)/\a=2*(k*s)/\b=a+2*s/\a<=n/\Turned L X 0 n/\BlkTo s n k X/\RowE wx g n cap X/\Keeps (λi=>i=g) w wx) (λx y _=>n+2*s-(intOf y).toNat)
     case atStart=>exact⟨0,0,2*s,X,by go_num,by go_num,by simp,by simp,by omega,Ht.out,Hb0.out,Hrow.out,Hk.out⟩
     case round=>
      obtain⟨k,a,b,X,rfl,rfl,ha,hb',han,ht,hb,hrow,hk⟩:=hrel;have hh:=hb.halves;rw [<-ha] at hh;by_cases hlt2:b<=n
      ·have hlt2I:(b:Int)<=(n:Int):=j8;obtain⟨m,hm⟩:∃m,a+s=m:=⟨_,rfl⟩;have hmI:(a:Int)+s=m:=j8;rw [Nat.min_eq_left j6,Nat.min_eq_left j6,hm] at hh;have hmg:=Jf f ok Hc.out (b-a) a m b n cap g X wr (Nat.le_refl _) hrow j6 j6 hlt2 (λx hx=>Hok.out x (ht.alike.mem hx)) hn hh.1 (by rw [show b=m+s by omega];exact hh.2);have hne:∀Y,Turned X Y a b->Upto Y a b->BlkTo s n (k+1) Y:=λY h1 h2=>hb.next (by rw [<-ha,<-hb'];exact h1) (by rw [<-ha,<-hb'];exact h2);have hb2:b=2*((k+1)*s):=by rw [Nat.succ_mul k s];omega
       obtain⟨Ht,Hb,Hrow,Hk,Hmg,Hne,Hb2,Hh,Ha⟩:=hid9 ht hb hrow hk hmg hne hb2 hh ha;clear ha hh hb2 hne hmg hk hrow hb ht;obtain⟨Hm,Hb'⟩:=hid2 hm hb';clear hb' hm
       go_wp2_with (go_at_call 270;(with_reducible refine Hmg.out.mono ?_);rintro e w2 ⟨rfl,Y,htY,huY,hrow2,hk2⟩;have HtY:=Lib.hid htY;have HbY:=Lib.hid (Hne.out Y htY huY);have Hrow2:=Lib.hid hrow2;have Hk2:=Lib.hid (Hk.out.same hk2);clear htY huY hrow2 hk2)
       go_roundw
       case rel=>exact⟨k+1,b,b+2*s,Y,by go_num,by go_num,Hb2.out,rfl,hlt2,Ht.out.trans (HtY.out.wide (Nat.zero_le _) hlt2),HbY.out,Hrow2.out,Hk2.out⟩
       case measure=>simp [intOf];omega
      ·have hlt2I:¬(b:Int)<=(n:Int):=j8;have hdn:∀Y,Turned X Y a n->Upto Y a n->Blk (2*s) n Y:=λY h1 h2=>hb.done j6 j6 (by rw [<-ha];exact h1) (by rw [<-ha];exact h2);by_cases hlt3:a+s<n
       ·obtain⟨m,hm⟩:∃m,a+s=m:=⟨_,rfl⟩;have hmI:(a:Int)+s=m:=j8;have hmnI:(m:Int)<n:=j8;rw [Nat.min_eq_left j6,Nat.min_eq_right j6,hm] at hh;have hmg:=Jf f ok Hc.out (n-a) a m n n cap g X wr (Nat.le_refl _) hrow j6 j6 (Nat.le_refl _) (λx hx=>Hok.out x (ht.alike.mem hx)) hn hh.1 hh.2;obtain⟨Ht,Hb,Hrow,Hk,Hmg,Hdn,Hh,Ha,Hm⟩:=hid9 ht hb hrow hk hmg hdn hh ha hm;clear hm ha hh hdn hmg hk hrow hb ht;have Hb':=Lib.hid hb';clear hb'
        go_wp2_with (go_at_call 270;(with_reducible refine Hmg.out.mono ?_);rintro e w2 ⟨rfl,Y,htY,huY,hrow2,hk2⟩;have HtY:=Lib.hid htY;have HbY:=Lib.hid (Hdn.out Y htY huY);have Hrow2:=Lib.hid hrow2;have Hk2:=Lib.hid (Hk.out.same hk2);clear htY huY hrow2 hk2)
        go_roundw
        case rel=>exact⟨2*s,Y,by go_num,by omega,by omega,Ht.out.trans (HtY.out.wide (Nat.zero_le _) (Nat.le_refl _)),HbY.out,Hrow2.out,Hk2.out⟩
        case measure=>simp [intOf];omega
       ·have hlt3I:¬(a:Int)+s<n:=j8;have hfin:=hdn X (Turned.refl _ _ _) (by have:=hh.1;rwa [Nat.min_eq_right j6] at this);obtain⟨Ht,Hb,Hrow,Hk,Hdn,Hh,Ha,Hfin,Hb'⟩:=hid9 ht hb hrow hk hdn hh ha hfin hb';clear hb' hfin ha hh hdn hk hrow hb ht;go_wp2;go_roundw
        case rel=>exact⟨2*s,X,by go_num,by omega,by omega,Ht.out,Hfin.out,Hrow.out,Hk.out⟩
        case measure=>simp [intOf];omega
    ·have hltI:¬(s:Int)<(n:Int):=j8;have hup:=hb.all j6;obtain⟨Ht,Hb,Hrow,Hk,Hup⟩:=hid5 ht hb hrow hk hup;clear hup hk hrow hb ht;go_wp2;go_end0;exact⟨rfl,X,Ht.out,Hup.out,Hrow.out,Hk.out⟩
theorem Aax(fv v:Value)(w:World):Calls Tryz.prog 269 #[v,.int .i64 0,.int .i64 0,fv] w λe w'=>e= .returned (.tuple #[])/\Keeps (λ_=>False) w w':=by
 go_enter Tryz.func269,Tryz.ntmps269;go_wp2;refine wp_loop_rounds 1 ?_;rw [rounds_succ];go_wp2;go_end0;exact⟨rfl,Keeps.refl _ _⟩
theorem Vf(fv v:Value)(w:World):Calls Tryz.prog 248 #[v,.int .i64 0,fv] w λe w'=>e= .returned (.tuple #[])/\Keeps (λ_=>False) w w':=by
 go_enter Tryz.func248,Tryz.ntmps248;go_wp2;refine wp_loop_rounds 1 ?_;rw [rounds_succ]
 go_wp2_with (go_at_call 269;(with_reducible refine(Aax _ _ _).mono ?_);rintro e w1 ⟨rfl,hk1⟩;have Hk1:=Lib.hid hk1;clear hk1)
 refine wp_loop_rounds 1 ?_;rw [rounds_succ];go_wp2;go_end0;exact⟨rfl,Hk1.out⟩
theorem Ac1(f:Nat)(ok:Ev->Prop)(hc:CmpBy f ok)(v:Value)(L:List Ev)(w:World)(h:w.ownsRow 0 96 5 v L.length (L.flatMap Ev.cells))(hok:∀x∈L,ok x)(hn:L.length<=1000000):
  Calls Tryz.prog 214 #[v,.func (.func f) #[] #[]] w λe w'=>e= .returned (.tuple #[])/\w'.ownsRow 0 96 5 v L.length ((sortL L).flatMap Ev.cells)/\Keeps (λi=>v.ownBlock=some i) w w':=by
 obtain⟨ad,cap,rfl,_,hnone⟩:=Ae h;rcases Nat.eq_zero_or_pos L.length with h0|h0
 ·obtain rfl:L= []:=List.length_eq_zero_iff.1 h0;simp only [List.length_nil] at h⊢;obtain⟨H,Hc,Hok,Hnone⟩:=hid4 h hc hok hnone;clear hnone hok hc h;go_enter Tryz.func214,Tryz.ntmps214
  go_wp2_with (go_at_call 248;(with_reducible refine(Vf _ _ _).mono ?_);rintro e w1 ⟨rfl,hk1⟩;have Hk1:=Lib.hid hk1;clear hk1)
  go_end0;exact⟨rfl,H.out.of_keeps Hk1.out,Hk1.out.mono (by simp)⟩
 ·obtain⟨g,c2,he,hg⟩:=Ga h h0;simp only [Value.slice.injEq,true_and] at he;obtain⟨rfl,rfl⟩:=he;have hst:=Xp f ok hc L.length cap g L w ⟨h,rfl⟩ hok hn;obtain⟨n,hln⟩:∃n,L.length=n:=⟨_,rfl⟩;rw [hln] at hst hn⊢;obtain⟨H,Hc,Hok,Hnone,Hst,Hln⟩:=hid6 h hc hok hnone hst hln;clear hln hst hnone hok hc h;go_enter Tryz.func214,Tryz.ntmps214
  go_wp2_with (go_at_call 248;(with_reducible refine Hst.out.mono ?_);rintro e w1 ⟨rfl,X,ht,hu,hrow,hk1⟩;have HT:=Lib.hid ht;have HU:=Lib.hid hu;have Hrow:=Lib.hid hrow;have Hk1:=Lib.hid hk1;clear hk1 ht hu hrow)
  go_end0;have he:=sortL_one (X:=X) (L:=L) (Upto.pair (by rw [HT.out.len,Hln.out];exact HU.out)) HT.out.alike;rw [<-he];exact⟨rfl,Hrow.out.1,Hk1.out.mono λi _ e=>by rw [e];rfl⟩
theorem Jh:(Tryz.prog.info? 96).map (λi=>(i.zero,i.size,i.bytes))=some (some (.agg #[.int .i64 0,.int .i64 0,.int .i64 0,.int .i64 0,.int .i64 0]),5,40):=by kernel_rfl
theorem Mc(w:World)(v:Value)(n:Nat)(xs:List Value)(hr:Reads w 5 v n xs)(h1:∀u∈xs,u.oneCell'=true)(hn:n<=1000000000000):
  Calls Tryz.prog 165 #[v] w λe w'=>∃v',e= .returned v'/\w'.ownsRow 0 96 5 v' n xs/\Keeps (λ_=>False) w w'/\(∀k,v'.ownBlock=some k->w.heap.size<=k):=by
 obtain⟨i0,hi,hz0,hz1,hz2⟩:=info_parts Jh;have hr':=hr;obtain⟨ad,c,rfl,hnc,hl,hnone,hcells⟩:=hr';clear hcells;have heq:=fun(wx:World) (ad:Option Addr) (l c:Nat)=>Lib.run_eql_slice_nil (P:=Tryz.prog) wx 82 _ ad l c 0 0 Tryz.underlying82;rcases ad with _|a
 ·obtain rfl:=hnone rfl;obtain rfl:n=0:=by omega
  obtain rfl:xs= []:=List.eq_nil_of_length_eq_zero jr;have hr0:=Lib.hid hr;clear hr;go_enter Tryz.func165,Tryz.ntmps165;exact jH
 ·have Hr:=Lib.hid hr;clear hr;obtain⟨Hl,Hnone,H1⟩:=hid3 hl hnone h1;clear h1 hnone hl;go_enter Tryz.func165,Tryz.ntmps165
  go_wp2_with (at_builtin;refine Ao rfl (.tmp 5) (.tmp 6) 82 rfl 0 96 i0 _ 5 40 Tryz.underlying82 hi hz0 hz1 hz2 rfl j7 _ 0 [] rfl (World.ownsRow_lit w #[] 0 j6 jd rfl) _ n xs rfl (Hr.out.keeps (Keeps.alloc (S:=λ_=>False) _ _) (by simp)) H1.out jd j6 j6 ?_)
  intro v' w1 hown1 hk1 hfr
  have hend:w1.ownsRow 0 96 5 v' n xs/\Keeps (λ_=>False) w w1/\(∀k,v'.ownBlock=some k->w.heap.size<=k):=by
   exact jI
  exact jJ
theorem Yo(x y:Ev)(w:World):Calls Tryz.prog 215 #[x.agg,y.agg] w λe w'=>∃z,e= .returned (.int .i64 z)/\(z<0↔x.day<y.day)/\Keeps (λ_=>False) w w':=by
 obtain⟨x0,x1,x2,x3,x4⟩:=x;obtain⟨y0,y1,y2,y3,y4⟩:=y;simp only [Ev.agg];by_cases h:x1<y1
 ·go_enter Tryz.func215,Tryz.ntmps215;go_wp2;go_ret;exact⟨_,rfl,by simp;exact h,by(repeat (first|exact Keeps.refl _ _|exact Keeps.alloc _ _|exact Keeps.drew _|exact Keeps.drewN _ _|refine Keeps.Am ?_|refine Keeps.Ak ?_|refine Keeps.Af ?_))⟩
 ·by_cases h2:x1>y1
  ·exact j3r
  ·exact j3r
theorem Abg:CmpBy 215 (λ_=>True):=⟨enters_of Tryz.func215 (by kernel_rfl) rfl,λx y W _ _=>Yo x y W⟩
theorem Abf(v:Value)(L:List Ev)(w:World)(hr:Reads w 5 v L.length (L.flatMap Ev.cells))(hl:L.length<=1000000):
  Calls Tryz.prog 178 #[v] w λe w'=>∃v',e= .returned v'/\w'.ownsRow 0 96 5 v' L.length ((sortL L).flatMap Ev.cells)/\Keeps (λ_=>False) w w'/\(∀g,v'.ownBlock=some g->w.heap.size<=g):=by
 have hcl:=Mc w v L.length (L.flatMap Ev.cells) hr (λu hu=>Ev.one _ u hu) j6;obtain⟨ad,cap,rfl,_⟩:=id hr;obtain⟨Hr,Hcl⟩:=hid2 hr hcl;clear hcl hr;go_enter Tryz.func178,Tryz.ntmps178
 go_wp2_with (go_at_call 165;(with_reducible refine Hcl.out.mono ?_);rintro e w1 ⟨v1,rfl,hrow1,hk1,hnew1⟩;obtain⟨ad1,c1,rfl,_,_⟩:=Ae hrow1;have Hs:=Lib.hid (Ac1 215 _ Abg _ L w1 hrow1 (λ_ _=>trivial) hl);have Hk1:=Lib.hid hk1;have Hnew1:=Lib.hid hnew1;clear hk1 hnew1 hrow1)
 go_wp2_with (go_at_call 214;(with_reducible refine Hs.out.mono ?_);rintro e w2 ⟨rfl,hrow2,hk2⟩;have Hrow2:=Lib.hid hrow2;have Hk2:=Lib.hid hk2;clear hk2 hrow2)
 go_ret;exact⟨_,rfl,Hrow2.out,Hk1.out.trans (Hk2.out.mono λi _ e=> .inr (Hnew1.out i e)),Hnew1.out⟩
theorem Uc:(Tryz.prog.info? 50).map (λi=>(i.zero,i.size,i.bytes))=some (some (.slice none 0 0),1,24):=by kernel_rfl
structure St where
 i:Nat
 day:Int
 p:Ps
 R:List Int
 e0:List (List Int)
 e1:List (List Int)
 out:List Stm
structure Fx where
 X:Nat->Prop
 Y:Nat->Prop
 Z:World
instance:CoeFun Fx (λ_=>Nat->Prop):=⟨Fx.X⟩
def OwnB(w0:World)(X:Fx)(b:Nat):Prop:=w0.heap.size<=b/\¬X b
def Own(w0:World)(X:Fx)(v:Value):Prop:=∀b,v.ownBlock=some b->OwnB w0 X b
structure RunV(w0:World)(X:Fx)(B:Nat)(t:Tm)(n:Nat)(vt:Value)(L:List Ev)(f0 f1 f2:Value)(s:St)(vl vb vr:Value)(g0 g1:Nat)(S0 S1:List SI)(vo:Value)(P:List SV)(W:World):Prop where
 blk:W.heap[B]?=some (.cells #[.int .i64 t.limit,vt,.int .i64 t.cyc,.int .i64 t.due,.int .i64 t.minFixed,.int .i64 t.minPart,.int .i64 t.start,vl,.int .i64 (s.i:Nat),.int .i64 s.day,vb,.int .i64 s.p.cr,.int .i64 s.p.du,vr,.slice (some ⟨g0,0,none⟩) n n,.slice (some ⟨g1,0,none⟩) n n,vo,f0,f1,f2] 250 (0,0))
 trs:Reads W 2 vt n (t.trs.flatMap Tn.cells)
 evs:W.ownsRow 0 96 5 vl L.length (L.flatMap Ev.cells)
 bal:W.ownsRow 0 2 1 vb n (s.p.bal.flatMap i64c)
 rts:W.ownsRow 0 2 1 vr n (s.R.flatMap i64c)
 o0:W.heap[g0]?=some (.cells (S0.map SI.v).toArray 50 (0,0))
 o1:W.heap[g1]?=some (.cells (S1.map SI.v).toArray 50 (0,0))
 i0:∀x∈S0,W.ownsRow 0 2 1 x.v x.L.length (x.L.flatMap i64c)
 i1:∀x∈S1,W.ownsRow 0 2 1 x.v x.L.length (x.L.flatMap i64c)
 out:W.ownsRow 0 60 9 vo P.length (P.flatMap SV.cells)
 ln:∀x∈P,W.ownsRow 0 160 3 x.v x.s.lines.length (x.s.lines.flatMap Ln.cells)
 l0:S0.map SI.L=s.e0
 l1:S1.map SI.L=s.e1
 lp:P.map SV.s=s.out
 n0:S0.length=n
 n1:S1.length=n
 nb:s.p.bal.length=n
 nr:s.R.length=n
 d00:∀(j k:Nat) (x y:SI),S0[j]?=some x->S0[k]?=some y->j≠k->∀b,x.v.ownBlock=some b->y.v.ownBlock≠some b
 d11:∀(j k:Nat) (x y:SI),S1[j]?=some x->S1[k]?=some y->j≠k->∀b,x.v.ownBlock=some b->y.v.ownBlock≠some b
 d01:∀(x y:SI),x∈S0->y∈S1->∀b,x.v.ownBlock=some b->y.v.ownBlock≠some b
 db0:∀x∈S0,∀b,x.v.ownBlock=some b->vb.ownBlock≠some b/\vr.ownBlock≠some b
 db1:∀x∈S1,∀b,x.v.ownBlock=some b->vb.ownBlock≠some b/\vr.ownBlock≠some b
 g01:g0≠g1
 wB:OwnB w0 X B
 w0':OwnB w0 X g0
 w1':OwnB w0 X g1
 wl:Own w0 X vl
 wb:Own w0 X vb
 wr:Own w0 X vr
 wo:Own w0 X vo
 wi0:∀x∈S0,Own w0 X x.v
 wi1:∀x∈S1,Own w0 X x.v
 wln:∀x∈P,Own w0 X x.v
 wt:∀b,vt.ownBlock=some b->b<w0.heap.size/\¬X b
 xl:∀b,X b->b<W.heap.size
 yx:∀b,X.Y b->X b
 fz:∀b,X.Y b->W.heap[b]?=X.Z.heap[b]?
 kp:Keeps X.X w0 W
section
variable {w0:World} {X:Fx} {B:Nat} {t:Tm} {n:Nat} {vt:Value} {L:List Ev} {f0 f1 f2:Value} {s:St} {vl vb vr:Value} {g0 g1:Nat} {S0 S1:List SI} {vo:Value} {P:List SV} {W W':World}
theorem RunV.keep(h:RunV w0 X B t n vt L f0 f1 f2 s vl vb vr g0 g1 S0 S1 vo P W){S:Nat->Prop}(hk:Keeps S W W')(hS:∀b,S b->X b)(hY:∀b,S b->¬X.Y b):RunV w0 X B t n vt L f0 f1 f2 s vl vb vr g0 g1 S0 S1 vo P W':=
 { h with
  blk:=Ad h.blk hk (λe=>h.wB.2 (hS _ e))
  trs:=h.trs.keeps hk (λb hb e=>(h.wt b hb).2 (hS _ e))
  evs:=hk.row h.evs (λb hb e=>(h.wl b hb).2 (hS _ e))
  bal:=hk.row h.bal (λb hb e=>(h.wb b hb).2 (hS _ e))
  rts:=hk.row h.rts (λb hb e=>(h.wr b hb).2 (hS _ e))
  o0:=Ad h.o0 hk (λe=>h.w0'.2 (hS _ e))
  o1:=Ad h.o1 hk (λe=>h.w1'.2 (hS _ e))
  i0:=λx hx=>hk.row (h.i0 x hx) (λb hb e=>(h.wi0 x hx b hb).2 (hS _ e))
  i1:=λx hx=>hk.row (h.i1 x hx) (λb hb e=>(h.wi1 x hx b hb).2 (hS _ e))
  out:=hk.row h.out (λb hb e=>(h.wo b hb).2 (hS _ e))
  ln:=λx hx=>hk.row (h.ln x hx) (λb hb e=>(h.wln x hx b hb).2 (hS _ e))
  xl:=λb hb=>Nat.lt_of_lt_of_le (h.xl b hb) hk.size
  fz:=λb hb=>(hk.block b (h.xl b (h.yx b hb)) (λe=>hY b e hb)).trans (h.fz b hb)
  kp:=h.kp.trans (hk.mono λb _ e=> .inl (hS b e)) }
theorem RunV.keep0(h:RunV w0 X B t n vt L f0 f1 f2 s vl vb vr g0 g1 S0 S1 vo P W)(hk:Keeps (λ_=>False) W W'):RunV w0 X B t n vt L f0 f1 f2 s vl vb vr g0 g1 S0 S1 vo P W':=h.keep hk (by simp) (by simp)
theorem RunV.new(h:RunV w0 X B t n vt L f0 f1 f2 s vl vb vr g0 g1 S0 S1 vo P W){b:Nat}(hb:W.heap.size<=b):OwnB w0 X b:=⟨by have:=h.kp.size;omega,λe=>by have:=h.xl b e;omega⟩
theorem RunV.ownN(h:RunV w0 X B t n vt L f0 f1 f2 s vl vb vr g0 g1 S0 S1 vo P W){v:Value}(hv:∀b,v.ownBlock=some b->W.heap.size<=b):Own w0 X v:=λb e=>h.new (hv b e)
theorem Sl{S:List SI}{g:Nat}{e:TypeId}{k:Nat}{x:SI}(h:W.heap[g]?=some (.cells (S.map SI.v).toArray e (0,0)))(hx:S[k]?=some x):W.cell? ⟨g,k,none⟩=some x.v:=by
 rw [Aa h,List.getElem?_toArray,List.getElem?_map,hx];rfl
theorem si_set{S:List SI}{g:Nat}{e:TypeId}{k:Nat}(x:SI)(h:W.heap[g]?=some (.cells (S.map SI.v).toArray e (0,0))):(W.setCell ⟨g,k,none⟩ x.v).heap[g]?=some (.cells ((S.set k x).map SI.v).toArray e (0,0)):=by
 rw [heap_setCell_same _ _ k _ _ x.v h,List.setIfInBounds_toArray,List.map_set]
theorem Aap(n:Nat):madeCells (Value.slice none 0 0).cells n=((List.replicate n (⟨none,0, []⟩:SI)).map SI.v).toArray:=by
 apply Array.ext'
 rw [List.map_replicate]
 apply List.ext_getElem?
 intro i;rw [List.getElem?_replicate];by_cases h:i<n
 ·rw [if_pos h];have h2:i<(madeCells (Value.slice none 0 0).cells n).toList.length:=by simp [madeCells,Value.cells];exact h
  rw [List.getElem?_eq_getElem h2];simp [madeCells,Value.cells,SI.v,Nat.mod_one]
 ·rw [if_neg h,List.getElem?_eq_none (by simp [madeCells,Value.cells];omega)]
def si0:SI:=⟨none,0, []⟩
theorem RunV.renew(h:RunV w0 X B t n vt L f0 f1 f2 s vl vb vr g0 g1 S0 S1 vo P W){W2:World}(hk:Keeps (λ_=>False) W W2){a b:Nat}(ha:W.heap.size<=a)(hb:W.heap.size<=b)(hab:a≠b)
  (h0:W2.heap[a]?=some (.cells ((List.replicate n si0).map SI.v).toArray 50 (0,0))) (h1:W2.heap[b]?=some (.cells ((List.replicate n si0).map SI.v).toArray 50 (0,0))):
  RunV w0 X B t n vt L f0 f1 f2 { s with e0:=List.replicate n [],e1:=List.replicate n [] } vl vb vr a b (List.replicate n si0) (List.replicate n si0) vo P ((W2.setCell ⟨B,14,none⟩ (.slice (some ⟨a,0,none⟩) n n)).setCell ⟨B,15,none⟩ (.slice (some ⟨b,0,none⟩) n n)):=by
 have h2:=h.keep0 hk;have hBl:=lt_of_block h.blk;have kB:Keeps (λi=>i=B) W2 ((W2.setCell ⟨B,14,none⟩ (.slice (some ⟨a,0,none⟩) n n)).setCell ⟨B,15,none⟩ (.slice (some ⟨b,0,none⟩) n n)):=(Keeps.setCell (S:=λi=>i=B) _ _ _ rfl).trans (Keeps.setCell _ _ _ (.inl rfl));have hne:∀{e:TypeId} {sz m:Nat} {v:Value} {xs:List Value},W2.ownsRow 0 e sz v m xs->250≠e->∀i,v.ownBlock=some i->¬i=B:=λhr hne i hi e=>by subst e;exact Ai hr h2.blk hne hi
 refine j3s ?_;intro hnil hget
 exact { h2 with
  blk:=(heap_setCell_same _ _ 15 _ _ _ ((heap_setCell_same _ _ 14 _ _ _ h2.blk).trans rfl)).trans rfl
  trs:=h2.trs.keeps kB (λi hi e=>by have e':i=B:=e;have:=(h.wt i hi).1;have:=h.wB.1;omega)
  evs:=kB.row h2.evs (hne h2.evs j7)
  bal:=kB.row h2.bal (hne h2.bal j7)
  rts:=kB.row h2.rts (hne h2.rts j7)
  o0:=Ad h0 kB j6
  o1:=Ad h1 kB j6
  i0:=λx hx=>by rw [hnil x hx];exact World.ownsRow_nil _ _ _ _
  i1:=λx hx=>by rw [hnil x hx];exact World.ownsRow_nil _ _ _ _
  out:=kB.row h2.out (hne h2.out j7)
  ln:=λx hx=>kB.row (h2.ln x hx) (hne (h2.ln x hx) j7)
  l0:=by simp [si0]
  l1:=by simp [si0]
  n0:=by simp
  n1:=by simp
  d00:=λj k x y hx hy _ b e=>by rw [hget j x hx] at e;simp [si0,SI.v,Value.ownBlock] at e
  d11:=λj k x y hx hy _ b e=>by rw [hget j x hx] at e;simp [si0,SI.v,Value.ownBlock] at e
  d01:=λx y hx hy b e=>by rw [hnil x hx] at e;simp [si0,SI.v,Value.ownBlock] at e
  db0:=λx hx b e=>by rw [hnil x hx] at e;simp [si0,SI.v,Value.ownBlock] at e
  db1:=λx hx b e=>by rw [hnil x hx] at e;simp [si0,SI.v,Value.ownBlock] at e
  g01:=hab
  w0':=h.new ha
  w1':=h.new hb
  wi0:=λx hx b e=>by rw [hnil x hx] at e;simp [si0,SI.v,Value.ownBlock] at e
  wi1:=λx hx b e=>by rw [hnil x hx] at e;simp [si0,SI.v,Value.ownBlock] at e
  xl:=λb hb=>Nat.lt_of_lt_of_le (h2.xl b hb) kB.size
  fz:=λb hb=>(kB.block b (h2.xl b (h2.yx b hb)) (λe=>by have e':b=B:=e;exact h.wB.2 (e'▸h.yx b hb))).trans (h2.fz b hb)
  kp:=h2.kp.trans (kB.mono λi _ e=> .inr (by have e':i=B:=e;rw [e'];exact h.wB.1)) }
end
end Go.Proofs.YtgbgmadkmabeeaaGreat
