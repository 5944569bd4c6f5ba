/- Part 7 of what the laws of this seat share: walks of functions, and plain laws. -/
import Derived.Test.YtjkdnaljkdnomaaGreatDoorS1
set_option maxRecDepth 100000
set_option maxHeartbeats 3200000
namespace Go.Proofs.YtjkdnaljkdnomaaGreatDoor
open Go.RowKit
structure Tn where
 rate:Int
 grace:Bool
deriving DecidableEq,Inhabited
def Tn.cells(d:Tn):List Value:= [.int .i64 d.rate,.bool d.grace]
theorem Tn.Aj(d:Tn):d.cells.length=2:=rfl
theorem Tn.one(L:List Tn):∀u∈L.flatMap Tn.cells,u.oneCell'=true:=by
 intro u hu;obtain⟨d,_,hd⟩:=List.mem_flatMap.1 hu;simp only [Tn.cells,List.mem_cons,List.not_mem_nil,or_false] at hd;rcases hd with rfl|rfl<;>rfl
structure Ev where
 kind:Int
 day:Int
 tranche:Int
 amount:Int
 ref:Int
deriving DecidableEq,Inhabited
def Ev.cells(d:Ev):List Value:= [.int .i64 d.kind,.int .i64 d.day,.int .i64 d.tranche,.int .i64 d.amount,.int .i64 d.ref]
theorem Ev.Aj(d:Ev):d.cells.length=5:=rfl
theorem Ev.one(L:List Ev):∀u∈L.flatMap Ev.cells,u.oneCell'=true:=by
 intro u hu;obtain⟨d,_,hd⟩:=List.mem_flatMap.1 hu;simp only [Ev.cells,List.mem_cons,List.not_mem_nil,or_false] at hd;rcases hd with rfl|rfl|rfl|rfl|rfl<;>rfl
structure Tm where
 limit:Int
 cyc:Int
 due:Int
 minFixed:Int
 minPart:Int
 start:Int
 trs:List Tn
def Tm.val(t:Tm)(v:Value):Value:= .agg #[.int .i64 t.limit,v,.int .i64 t.cyc,.int .i64 t.due,.int .i64 t.minFixed,.int .i64 t.minPart,.int .i64 t.start]
def Ev.agg(e:Ev):Value:= .agg #[.int .i64 e.kind,.int .i64 e.day,.int .i64 e.tranche,.int .i64 e.amount,.int .i64 e.ref]
def inB(v a b:Int):Bool:=decide (a<=v)&&decide (v<=b)
def Tn.okB(x:Tn):Bool:=inB x.rate 0 10000000
def Tm.okB(t:Tm):Bool:=inB t.limit 0 1000000000000000&&inB t.trs.length 1 8&&t.trs.all Tn.okB&&(inB t.cyc 1 28&&inB t.due 1 25&&inB t.minFixed 0 1000000000000000&&inB t.minPart 0 1000&&inB t.start (-135140) 2922896)
def Tm.err(t:Tm):Int:=if t.okB then 0 else 6
theorem Vn(v a b:Int)(w:World):Calls Tryz.prog 77 #[.int .i64 v,.int .i64 a,.int .i64 b] w λe w'=>e= .returned (.bool (inB v a b))/\w=w':=by
 by_cases h1:a<=v
 ·by_cases h2:v<=b
  ·have h:inB v a b=true:=by simp [inB,h1,h2]
   exact j1m
  ·have h:inB v a b=false:=by simp [inB,h2]
   exact j1m
 ·have h:inB v a b=false:=by simp [inB,h1]
  exact j1m
theorem Cj{v a b:Int}{r:Bool}(hr:inB v a b=r)(w:World):Calls Tryz.prog 77 #[.int .i64 v,.int .i64 a,.int .i64 b] w λe w'=>e= .returned (.bool r)/\w=w':=by
 subst hr;exact Vn v a b w
theorem Jj(t:Tm)(ad:Option Addr)(cap:Nat)(w:World)(hr:Reads w 2 (.slice ad t.trs.length cap) t.trs.length (t.trs.flatMap Tn.cells))(hl:t.trs.length<=1000000):
  Calls Tryz.prog 40 #[t.val (.slice ad t.trs.length cap)] w λe w'=>e= .returned (.int .i64 t.err)/\K0 w w':=by
 obtain⟨li,cy,du,mf,mp,st,L⟩:=t;simp only [Tm.val] at hr hl⊢;rcases b1:inB li 0 1000000000000000 with _|_
 ·have hf:Tm.err ⟨li,cy,du,mf,mp,st,L⟩=6:=by simp [Tm.err,Tm.okB,b1]
  obtain⟨Hr,Hf,B1⟩:=hid3 hr hf b1;clear b1 hf hr;exact j1n
 obtain⟨n,hn⟩:=eX L.length
 have hf0:Tm.err ⟨li,cy,du,mf,mp,st,L⟩=if(inB (n:Int) 1 8&&L.all Tn.okB&&(inB cy 1 28&&inB du 1 25&&inB mf 0 1000000000000000&&inB mp 0 1000&&inB st (-135140) 2922896))=true then 0 else 6:=by
  simp only [Tm.err,Tm.okB,b1,hn,Bool.true_and]
 rw [hn] at hr hl⊢;by_cases l1:n<1
 ·have hf:Tm.err ⟨li,cy,du,mf,mp,st,L⟩=6:=by rw [hf0];have:inB (n:Int) 1 8=false:=(by simp [inB];omega);simp [this]
  obtain rfl:n=0:=by omega
  obtain⟨Hr,Hf,B1,Hf0,Hn⟩:=hid5 hr hf b1 hf0 hn;clear hn hf0 b1 hf hr;exact j1n
 by_cases l2:8<n
 ·have hf:Tm.err ⟨li,cy,du,mf,mp,st,L⟩=6:=by rw [hf0];have:inB (n:Int) 1 8=false:=(by simp [inB];omega);simp [this]
  have l2':(8:Int)<(n:Int):=j8;obtain⟨Hr,Hf,B1,Hf0,Hn⟩:=hid5 hr hf b1 hf0 hn;clear hn hf0 b1 hf hr;exact j1n
 have l1':(1:Int)<=(n:Int):=j8;have l2':(n:Int)<=8:=j8;have b2:inB (n:Int) 1 8=true:=by simp [inB];omega
 rw [b2,Bool.true_and] at hf0;have hbox:=heap_alloc_new w (.cells #[.int .i64 li,.slice ad n cap,.int .i64 cy,.int .i64 du,.int .i64 mf,.int .i64 mp,.int .i64 st] 26);obtain⟨Hr,B1⟩:=hid2 hr b1;clear b1 hr b2;obtain⟨Hf0,Hn,Hbox⟩:=hid3 hf0 hn hbox;clear hbox hn hf0;go_enter Tryz.func40,Tryz.ntmps40;go_wp2;refine Ay 0 rfl ?_
 go_wp2_with (go_at_call 77;((with_reducible refine(Cj B1.o _).mono ?_);rintro e w1 ⟨rfl,rfl⟩))
 go_loopw [24] (λc wr=>∃j:Nat,j<=n/\c= .int .i64 (j:Nat)/\(L.take j).all Tn.okB=true/\K0 w wr/\wr.heap[w.heap.size]?=some (.cells #[.int .i64 li,.slice ad n cap,.int .i64 cy,.int .i64 du,.int .i64 mf,.int .i64 mp,.int .i64 st] 26 (0,0))) (λc _=>n-(intOf c).toNat)
 case atStart=>exact⟨0,Nat.zero_le _,rfl,rfl,Keeps.alloc _ _,Hbox.o⟩
 case round=>
  obtain⟨j,hj,rfl,hok,hk,hb⟩:=hrel;by_cases hjl:j<n
  ·obtain⟨⟨xr,xg⟩,hx⟩:=Ar (L:=L) (k:=j) (by rw [Hn.o];exact hjl);obtain⟨g,o,c,he,hc⟩:=(Hr.o.keeps hk (by simp)).elem Tn.Aj hx j7;simp only [Value.slice.injEq,true_and] at he;obtain⟨rfl,rfl⟩:=he;have x0:wr.cell? ⟨g,o+j*2,none⟩=some (.int .i64 xr):=hc 0 j7;have x1:wr.cell? ⟨g,o+j*2+1,none⟩=some (.bool xg):=hc 1 j7;clear hc;rcases b3:inB xr 0 10000000 with _|_
   ·have hall:L.all Tn.okB=false:=by
     rw [Bool.eq_false_iff];intro hm;have:=List.all_eq_true.1 hm _ (List.mem_of_getElem? hx);simp only [Tn.okB,b3] at this;simp at this
    have hf:Tm.err ⟨li,cy,du,mf,mp,st,L⟩=6:=by rw [Hf0.o,hall];simp
    clear hx hok;obtain⟨Hk,Hb,B3⟩:=hid3 hk hb b3;clear b3 hb hk hall;have Hf:=Lib.hid hf;clear hf
    go_wp2_with (go_at_call 77;((with_reducible refine(Cj B3.o _).mono ?_);rintro e w1 ⟨rfl,rfl⟩))
    go_step3;go_wp2;refine Av ?_;go_wp2;rw [Exit.noGoto_ret];go_ret;exact⟨by rw [Hf.o];rfl,Hk.o.nt jg⟩
   ·have hok':(L.take (j+1)).all Tn.okB=true:=by rw [take_snoc' hx,List.all_append,hok];simp [Tn.okB,b3]
    clear hx hok;obtain⟨Hk,Hb,B3,Hok'⟩:=hid4 hk hb b3 hok';clear hok' b3 hb hk
    go_wp2_with (go_at_call 77;((with_reducible refine(Cj B3.o _).mono ?_);rintro e w1 ⟨rfl,rfl⟩))
    go_roundw
    case rel=>exact⟨j+1,by omega,by go_num,Hok'.o,Hk.o.nt jg,Ap Hb.o _⟩
    case measure=>simp [intOf];omega
  ·obtain rfl:j=n:=by omega
   have hall:L.all Tn.okB=true:=by rw [List.take_of_length_le j1j] at hok;exact hok
   have hf1:=Hf0.o;rw [hall,Bool.true_and] at hf1;have c2:wr.cell? ⟨w.heap.size,2,none⟩=some (.int .i64 cy):=Aa hb 2;have c3:wr.cell? ⟨w.heap.size,3,none⟩=some (.int .i64 du):=Aa hb 3;have c4:wr.cell? ⟨w.heap.size,4,none⟩=some (.int .i64 mf):=Aa hb 4;have c5:wr.cell? ⟨w.heap.size,5,none⟩=some (.int .i64 mp):=Aa hb 5;have c6:wr.cell? ⟨w.heap.size,6,none⟩=some (.int .i64 st):=Aa hb 6;have f1:inB cy 1 28=(decide (1<=cy)&&decide (cy<=28)):=rfl;have f2:inB du 1 25=(decide (1<=du)&&decide (du<=25)):=rfl;have f3:inB st (-135140) 2922896=(decide (-135140<=st)&&decide (st<=2922896)):=rfl;have F1:=Lib.hid f1;clear f1;have F2:=Lib.hid f2;clear f2;have F3:=Lib.hid f3;clear f3;by_cases q:cy<1
   ·have hz:inB cy 1 28=false:=by rw [F1.o];simp;omega
    exact j0K
   have p1:1<=cy:=j8;clear q;by_cases q:28<cy
   ·have hz:inB cy 1 28=false:=by rw [F1.o];simp;omega
    exact j0K
   have p2:cy<=28:=j8;clear q;by_cases q:du<1
   ·have hz:inB du 1 25=false:=by rw [F2.o];simp;omega
    exact j0K
   have p3:1<=du:=j8;clear q;by_cases q:25<du
   ·have hz:inB du 1 25=false:=by rw [F2.o];simp;omega
    exact j0K
   have p4:du<=25:=j8;clear q;rcases bf:inB mf 0 1000000000000000 with _|_
   ·have hf:Tm.err ⟨li,cy,du,mf,mp,st,L⟩=6:=by rw [hf1,bf];simp
    clear hok;obtain⟨Hk,Hb⟩:=hid2 hk hb;clear hb hk hall;have Hf:=Lib.hid hf;clear hf hf1;have Bf:=Lib.hid bf;clear bf
    go_wp2_with (go_at_call 77;((with_reducible refine(Cj Bf.o _).mono ?_);rintro e w1 ⟨rfl,rfl⟩))
    go_step3;go_wp2;exact j1o
   rcases bp:inB mp 0 1000 with _|_
   ·have hf:Tm.err ⟨li,cy,du,mf,mp,st,L⟩=6:=by rw [hf1,bp];simp
    clear hok;obtain⟨Hk,Hb⟩:=hid2 hk hb;clear hb hk hall;have Hf:=Lib.hid hf;clear hf hf1;obtain⟨Bf,Bp⟩:=hid2 bf bp;clear bp bf;exact j2G
   by_cases q:st< -135140
   ·exact j2H
   have p5: -135140<=st:=j8;clear q;by_cases q:2922896<st
   ·exact j2H
   have p6:st<=2922896:=j8;clear q;have hf:Tm.err ⟨li,cy,du,mf,mp,st,L⟩=0:=by rw [hf1,bf,bp,F1.o,F2.o,F3.o];simp;omega
   clear hok;obtain⟨Hk,Hb⟩:=hid2 hk hb;clear hb hk hall;have Hf:=Lib.hid hf;clear hf hf1;obtain⟨Bf,Bp⟩:=hid2 bf bp;clear bp bf
   go_wp2_with (first|(go_at_call 77;((with_reducible refine(Cj Bf.o _).mono ?_);rintro e w1 ⟨rfl,rfl⟩))|(go_at_call 77;((with_reducible refine(Cj Bp.o _).mono ?_);rintro e w1 ⟨rfl,rfl⟩)))
   exact j1o
def evErr(t:Tm)(e:Ev):Int:=
 if¬t.err=0 then 6
 else if e.kind<1\/6<e.kind then 1
 else if(e.kind=2/\¬e.tranche=0)\/(¬e.kind=2/\(e.tranche<1\/(t.trs.length:Int)<e.tranche)) then 7
 else if(e.kind=6/\(e.amount<0\/10000000<e.amount))\/(¬e.kind=6/\(e.amount<1\/1000000000000000<e.amount)) then 8
 else if e.day<t.start\/2932896<e.day then 10
 else if((e.kind=4\/e.kind=5)/\(e.ref<1\/2000<e.ref))\/(¬(e.kind=4\/e.kind=5)/\¬e.ref=0) then 1
 else 0
theorem Tm.err_or(t:Tm):t.err=0\/t.err=6:=by unfold Tm.err;split<;>simp
theorem Fw(k:Int)(w:World)(r:Bool)(hr:r=(decide (k=4)||decide (k=5))):Calls Tryz.prog 145 #[.int .i64 k] w λe w'=>e= .returned (.bool r)/\w=w':=by
 by_cases h1:k=4
 ·subst h1;exact j2I
 ·by_cases h2:k=5
  ·subst h2;exact j2I
  ·have h:r=false:=by rw [hr];simp [h1,h2]
   subst h;clear hr;have h1':(k==4)=false:=beq_eq_false_iff_ne.2 h1;have h2':(k==5)=false:=beq_eq_false_iff_ne.2 h2;go_enter Tryz.func145,Tryz.ntmps145;exact jn
theorem Ki(t:Tm)(v:Value)(w:World){z:Int}(hz:t.err=z)(hr:Reads w 2 v t.trs.length (t.trs.flatMap Tn.cells))(hl:t.trs.length<=1000000):
  Calls Tryz.prog 40 #[.agg #[.int .i64 t.limit,v,.int .i64 t.cyc,.int .i64 t.due,.int .i64 t.minFixed,.int .i64 t.minPart,.int .i64 t.start]] w λe w'=>e= .returned (.int .i64 z)/\K0 w w':=by
 have hr':=hr;obtain⟨ad,c,rfl,_⟩:=hr';subst hz;exact Jj t ad c w hr hl
theorem haltE{p:Prop}(h:Hid p):p:=h.out
def evCells(B n:Nat)(ad:Option Addr)(cap:Nat)(st ki da tr am re:Int)(W:World):Prop:=
 W.cell? ⟨B,1,none⟩=some (.slice ad n cap)/\W.cell? ⟨B,6,none⟩=some (.int .i64 st)/\W.cell? ⟨B+1,0,none⟩=some (.int .i64 ki)/\W.cell? ⟨B+1,1,none⟩=some (.int .i64 da)/\W.cell? ⟨B+1,2,none⟩=some (.int .i64 tr)/\W.cell? ⟨B+1,3,none⟩=some (.int .i64 am)/\W.cell? ⟨B+1,4,none⟩=some (.int .i64 re)
theorem Adi(w:World)(n:Nat)(ad:Option Addr)(cap:Nat)(li cy du mf mp st ki da tr am re:Int):∀W,K0 ((w.alloc (.cells #[.int .i64 li,.slice ad n cap,.int .i64 cy,.int .i64 du,.int .i64 mf,.int .i64 mp,.int .i64 st] 26)).alloc (.cells #[.int .i64 ki,.int .i64 da,.int .i64 tr,.int .i64 am,.int .i64 re] 186)) W->evCells w.heap.size n ad cap st ki da tr am re W:=by
 intro W hk;have h1:=Ad (Ap (heap_alloc_new w (.cells #[.int .i64 li,.slice ad n cap,.int .i64 cy,.int .i64 du,.int .i64 mf,.int .i64 mp,.int .i64 st] 26)) (.cells #[.int .i64 ki,.int .i64 da,.int .i64 tr,.int .i64 am,.int .i64 re] 186)) hk (by simp);have h2:=Nc hk (by simp);rw [show(w.alloc (.cells #[.int .i64 li,.slice ad n cap,.int .i64 cy,.int .i64 du,.int .i64 mf,.int .i64 mp,.int .i64 st] 26)).heap.size=w.heap.size+1 by simp] at h2;exact⟨Aa h1 1,Aa h1 6,Aa h2 0,Aa h2 1,Aa h2 2,Aa h2 3,Aa h2 4⟩
theorem Adh(li cy du mf mp st ki da tr am re:Int)(L:List Tn)(n:Nat)(ad:Option Addr)(cap:Nat)(w:World)(hr:Reads w 2 (.slice ad n cap) n (L.flatMap Tn.cells))(hl:n<=1000000)(hn:L.length=n):
  Calls Tryz.prog 126 #[.agg #[.int .i64 li,.slice ad n cap,.int .i64 cy,.int .i64 du,.int .i64 mf,.int .i64 mp,.int .i64 st],.agg #[.int .i64 ki,.int .i64 da,.int .i64 tr,.int .i64 am,.int .i64 re]] w λe w'=>e= .returned (.int .i64 (evErr ⟨li,cy,du,mf,mp,st,L⟩ ⟨ki,da,tr,am,re⟩))/\K0 w w':=by
 have hc:=Adi w n ad cap li cy du mf mp st ki da tr am re;obtain⟨z,hz⟩:=eX (evErr ⟨li,cy,du,mf,mp,st,L⟩ ⟨ki,da,tr,am,re⟩);rw [hz];obtain⟨y,hy⟩:=eX (Tm.err ⟨li,cy,du,mf,mp,st,L⟩);have hy2:=Tm.err_or ⟨li,cy,du,mf,mp,st,L⟩;rw [hy] at hy2;unfold evErr at hz;rw [hy,hn] at hz;dsimp only at hz;obtain⟨Hr,Hn,Hc,Hz,Hy⟩:=hid5 hr hn hc hz hy;clear hy hz hc hn hr;go_enter Tryz.func126,Tryz.ntmps126;go_wp2;refine Ay 0 rfl ?_
 go_wp2_with (go_at_call 40;((with_reducible refine(Ki ⟨li,cy,du,mf,mp,st,L⟩ (.slice ad n cap) _ Hy.o (by rw [Hn.o];exact(Hr.o.keeps (S:=λ_=>False) jg (by simp))) j05).mono ?_);rintro e w1 ⟨rfl,hk1⟩;obtain⟨c1,c6,d0,d1,d2,d3,d4⟩:=Hc.o _ hk1;have Hk1:=Lib.hid hk1;clear hk1;refine haltE ?_))
 refine Lib.hid ?_;rcases hy2 with rfl|rfl
 ·have hz:=Hz.o;clear Hz;rw [if_neg j7] at hz
  go_upto_region 4 with fail
  go_cut [17] from 10 to 17 (λc wx=>c= .bool (decide (ki<1\/6<ki))/\w1=wx)
  case first=>
   have Hz:=Lib.hid hz;clear hz;by_cases q6:ki<1
   ·exact j0L
   ·skip
    by_cases q8:6<ki
    ·exact j0L
    ·skip
     go_wp2_with fail;go_meet;exact jQ
  case rest=>
   obtain⟨rfl,rfl⟩:=hcut;by_cases c4:ki<1\/6<ki
   ·rw [if_pos c4] at hz;rw [decide_eq_true c4];subst hz;clear c4;exact j0q
   rw [if_neg c4] at hz;rw [decide_eq_false c4];clear c4
   go_upto_region 6 with fail
   go_cut [43] from 18 to 43 (λc wx=>c= .bool (decide ((ki=2/\¬tr=0)\/(¬ki=2/\(tr<1\/(n:Int)<tr))))/\w1=wx)
   case first=>
    have Hz:=Lib.hid hz;clear hz;by_cases q8:ki=2
    ·skip
     have p8:(ki==2)=true:=by simp [q8]
     have p8':(ki !=2)=false:=by simp [q8]
     have Q8:=Lib.hid q8;clear q8;by_cases q10:tr=0
     ·skip
      have p10:(tr==0)=true:=jZ;have p10':(tr !=0)=false:=jZ;have Q10:=Lib.hid q10;clear q10;go_wp2_with fail;go_meet;have q8:=Q8.o;have q10:=Q10.o;exact jQ
     ·skip
      have p10:(tr==0)=false:=jZ;have p10':(tr !=0)=true:=jZ;have Q10:=Lib.hid q10;clear q10;go_wp2_with fail;go_meet;have q8:=Q8.o;have q10:=Q10.o;exact j00
    ·skip
     have p8:(ki==2)=false:=by simp [q8]
     have p8':(ki !=2)=true:=by simp [q8]
     have Q8:=Lib.hid q8;clear q8;by_cases q10:tr<1
     ·skip
      go_wp2_with fail;go_meet;have q8:=Q8.o;exact j00
     ·skip
      by_cases q12:(n:Int)<tr
      ·skip
       go_wp2_with fail;go_meet;have q8:=Q8.o;exact j00
      ·skip
       go_wp2_with fail;go_meet;have q8:=Q8.o;exact jQ
   case rest=>
    obtain⟨rfl,rfl⟩:=hcut;by_cases c6:(ki=2/\¬tr=0)\/(¬ki=2/\(tr<1\/(n:Int)<tr))
    ·rw [if_pos c6] at hz;rw [decide_eq_true c6];subst hz;clear c6;exact j0q
    rw [if_neg c6] at hz;rw [decide_eq_false c6];clear c6
    go_upto_region 8 with fail
    go_cut [71] from 44 to 71 (λc wx=>c= .bool (decide ((ki=6/\(am<0\/10000000<am))\/(¬ki=6/\(am<1\/1000000000000000<am))))/\w1=wx)
    case first=>
     have Hz:=Lib.hid hz;clear hz;by_cases q10:ki=6
     ·skip
      have p10:(ki==6)=true:=jZ;have p10':(ki !=6)=false:=jZ;have Q10:=Lib.hid q10;clear q10;by_cases q12:am<0
      ·exact j0M
      ·skip
       by_cases q14:10000000<am
       ·exact j0M
       ·skip
        go_wp2_with fail;go_meet;have q10:=Q10.o;exact jQ
     ·skip
      have p10:(ki==6)=false:=jZ;have p10':(ki !=6)=true:=jZ;have Q10:=Lib.hid q10;clear q10;by_cases q12:am<1
      ·exact j0M
      ·skip
       by_cases q14:1000000000000000<am
       ·exact j0M
       ·skip
        go_wp2_with fail;go_meet;have q10:=Q10.o;exact jQ
    case rest=>
     obtain⟨rfl,rfl⟩:=hcut;by_cases c8:(ki=6/\(am<0\/10000000<am))\/(¬ki=6/\(am<1\/1000000000000000<am))
     ·rw [if_pos c8] at hz;rw [decide_eq_true c8];subst hz;clear c8;exact j0q
     rw [if_neg c8] at hz;rw [decide_eq_false c8];clear c8
     go_upto_region 10 with fail
     go_cut [81] from 72 to 81 (λc wx=>c= .bool (decide (da<st\/2932896<da))/\w1=wx)
     case first=>
      have Hz:=Lib.hid hz;clear hz;by_cases q12:da<st
      ·exact j0L
      ·skip
       by_cases q14:2932896<da
       ·exact j0L
       ·skip
        go_wp2_with fail;go_meet;exact jQ
     case rest=>
      obtain⟨rfl,rfl⟩:=hcut;by_cases c10:da<st\/2932896<da
      ·rw [if_pos c10] at hz;rw [decide_eq_true c10];subst hz;clear c10;exact j0q
      rw [if_neg c10] at hz;rw [decide_eq_false c10];clear c10
      go_upto_region 12 with fail
      go_cut [105] from 82 to 105 (λc wx=>c= .bool (decide (((ki=4\/ki=5)/\(re<1\/2000<re))\/(¬(ki=4\/ki=5)/\¬re=0)))/\w1=wx)
      case first=>
       have Hz:=Lib.hid hz;clear hz;by_cases q14:ki=4
       ·skip
        have Q14:=Lib.hid q14;clear q14;by_cases q16:re<1
        ·exact j2J
        ·skip
         by_cases q18:2000<re
         ·exact j2J
         ·skip
          have hr:true=(decide (ki=4)||decide (ki=5)):=by simp [Q14.o]
          have HR:=Lib.hid hr;clear hr
          go_wp2_with (go_at_call 145;((with_reducible refine(Fw ki _ true HR.o).mono ?_);rintro e w2 ⟨rfl,rfl⟩))
          go_meet;have q14:=Q14.o;exact jQ
       ·skip
        have Q14:=Lib.hid q14;clear q14;by_cases q16:ki=5
        ·skip
         have Q16:=Lib.hid q16;clear q16;by_cases q18:re<1
         ·exact j2K
         ·skip
          by_cases q20:2000<re
          ·exact j2K
          ·skip
           have hr:true=(decide (ki=4)||decide (ki=5)):=by simp [Q16.o]
           have HR:=Lib.hid hr;clear hr
           go_wp2_with (go_at_call 145;((with_reducible refine(Fw ki _ true HR.o).mono ?_);rintro e w2 ⟨rfl,rfl⟩))
           go_meet;have q14:=Q14.o;have q16:=Q16.o;exact jQ
        ·skip
         have Q16:=Lib.hid q16;clear q16;by_cases q18:re=0
         ·skip
          have p18':(re !=0)=false:=by simp [q18]
          have Q18:=Lib.hid q18;clear q18;have hr:false=(decide (ki=4)||decide (ki=5)):=by simp [Q14.o,Q16.o]
          have HR:=Lib.hid hr;clear hr
          go_wp2_with (go_at_call 145;((with_reducible refine(Fw ki _ false HR.o).mono ?_);rintro e w2 ⟨rfl,rfl⟩))
          go_meet;have q14:=Q14.o;have q16:=Q16.o;have q18:=Q18.o;exact jQ
         ·skip
          have p18':(re !=0)=true:=by simp [q18]
          have Q18:=Lib.hid q18;clear q18;have hr:false=(decide (ki=4)||decide (ki=5)):=by simp [Q14.o,Q16.o]
          have HR:=Lib.hid hr;clear hr
          go_wp2_with (go_at_call 145;((with_reducible refine(Fw ki _ false HR.o).mono ?_);rintro e w2 ⟨rfl,rfl⟩))
          go_meet;have q14:=Q14.o;have q16:=Q16.o;have q18:=Q18.o;exact j00
      case rest=>
       obtain⟨rfl,rfl⟩:=hcut;by_cases c12:((ki=4\/ki=5)/\(re<1\/2000<re))\/(¬(ki=4\/ki=5)/\¬re=0)
       ·rw [if_pos c12] at hz;rw [decide_eq_true c12];subst hz;clear c12;exact j0q
       rw [if_neg c12] at hz;rw [decide_eq_false c12];clear c12;subst hz;go_wp2_with fail;go_step3;go_wp2;refine Bo ?_;exact j2L
 ·go_wp2_with fail;go_step3;go_wp2;refine Av ?_;go_wp2;rw [Exit.noGoto_ret];go_ret;exact⟨by rw [<-Hz.o];rfl,Keeps.nt jg Hk1.o⟩
theorem Rw(t:Tm)(ev:Ev)(ad:Option Addr)(cap:Nat)(w:World)(hr:Reads w 2 (.slice ad t.trs.length cap) t.trs.length (t.trs.flatMap Tn.cells))(hl:t.trs.length<=1000000):
  Calls Tryz.prog 126 #[t.val (.slice ad t.trs.length cap),ev.agg] w λe w'=>e= .returned (.int .i64 (evErr t ev))/\K0 w w':=Adh _ _ _ _ _ _ _ _ _ _ _ _ _ ad cap w hr hl rfl
end Go.Proofs.YtjkdnaljkdnomaaGreatDoor
