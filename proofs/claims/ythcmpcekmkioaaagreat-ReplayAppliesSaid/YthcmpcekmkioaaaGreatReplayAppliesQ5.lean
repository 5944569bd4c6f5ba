/- Part 5 of the proof of ReplayApplies: walks and plain laws. -/
import Derived.Test.YthcmpcekmkioaaaGreatReplayAppliesQ4
namespace Go.Proofs.YthcmpcekmkioaaaGreat
open Go.RowKit
set_option maxRecDepth 100000
set_option maxHeartbeats 1600000
theorem cycAll_any(st cd day:Int)(w:World)(hst: -1000000000000≤st∧st≤1000000000000):Calls Tryz.prog 64 #[.int .i64 st, .int .i64 cd, .int .i64 day] w fun e w'=>∃v,e= .returned v∧w'.ownsRow 0 77 2 v (allL st cd day).length ((allL st cd day).flatMap spc)∧Fresh w w' v:=by
 have hfi:=cycFind_any st cd day w hst
 unfold FindPost at hfi
 obtain⟨A,hA⟩:∃A,allL st cd day=A:=⟨_,rfl⟩
 have hA':=hA
 unfold allL at hA'
 rw [hA]
 rcases hb:(findW cd day 300 st).2 with _|_
 ·rw [hb,if_neg (by decide)] at hA'
  subst hA'
  rw [hb] at hfi
  obtain⟨Hfi,HA,Hb⟩:=hid3 hfi hA hb;clear hb hA hfi
  go_enter Tryz.func64,Tryz.ntmps64
  go_wp2_with fail
  refine Hfi.out.mono ?_
  rintro e w2 ⟨v,rfl,hr,hf⟩
  have Hk2:=Lib.hid hf.1
  obtain⟨ad,cap,rfl,_,_⟩:=ownsRow_shape hr
  clear hr hf
  go_wp2
  go_ret
  exact⟨_,rfl,World.ownsRow_nil _ _ _ _,Hk2.out,by simp [Value.ownBlock]⟩
 ·rw [hb,if_pos rfl] at hA'
  rw [hA',hb] at hfi
  obtain⟨Hfi,HA,Hb,HA'⟩:=hid4 hfi hA hb hA';clear hA' hb hA hfi
  go_enter Tryz.func64,Tryz.ntmps64
  go_wp2_with fail
  refine Hfi.out.mono ?_
  rintro e w2 ⟨v,rfl,hr,hf⟩
  have Hr2:=Lib.hid hr
  have Hf2:=Lib.hid hf
  obtain⟨ad,cap,rfl,_,_⟩:=ownsRow_shape hr
  clear hr hf
  go_wp2
  go_ret
  exact⟨_,rfl,Hr2.out,Hf2.out⟩
def lateQ(td:Int)(x:Ev):Bool:=decide (td<x.day)
set_option maxHeartbeats 400000
theorem repRight1_any(td:Int)(B:Nat)(x:Ev)(w:World)(hB:w.cell? ⟨B,0,none⟩=some (.int .i64 td)):Calls Tryz.prog 99 #[x.agg,(.pointer (some ⟨B,0,none⟩))] w fun e w'=>e= .returned (.bool (lateQ td x))∧Keeps (fun _=>False) w w':=by
 obtain⟨ki,da,tr,am,re⟩:=x
 simp only [Ev.agg]
 have hk:=Keeps.alloc (S:=fun _=>False) w (.cells #[.int .i64 ki, .int .i64 da, .int .i64 tr, .int .i64 am, .int .i64 re] 26)
 have hl:=cell_lt hB
 obtain⟨z,hz⟩:∃z,lateQ td ⟨ki,da,tr,am,re⟩=z:=⟨_,rfl⟩
 rw [hz]
 have hz':decide (td<da)=z:=hz
 obtain⟨Hk,Hz⟩:=hid2 hk hz;clear hz hk
 go_enter Tryz.func99,Tryz.ntmps99
 go_wp2
 go_ret
 exact⟨rfl,Hk.out⟩
set_option maxHeartbeats 800000
theorem indexLate(B:Nat)(q:Ev→Bool)(ad:Option Addr)(cap:Nat)(L:List Ev)(w:World)(hr:Reads w 5 (.slice ad L.length cap) L.length (L.flatMap Ev.cells))(hl:L.length≤1000000)
  (hq:∀W (x:Ev),Keeps (fun _=>False) w W→Calls Tryz.prog 99 #[x.agg,(.pointer (some ⟨B,0,none⟩))] W fun e w'=>e= .returned (.bool (q x))∧Keeps (fun _=>False) W w'):
  Calls Tryz.prog 120 #[.slice ad L.length cap, .func (.func 99) #[] #[(.pointer (some ⟨B,0,none⟩))]] w fun e w'=>e= .returned (.int .i64 (retI (L.findIdx? q)))∧Keeps (fun _=>False) w w':=by
 obtain⟨n,hn⟩:∃n,L.length=n:=⟨_,rfl⟩
 obtain⟨r,hrr⟩:∃r,retI (L.findIdx? q)=r:=⟨_,rfl⟩
 rw [hrr]
 rw [hn] at hr hl⊢
 obtain⟨Hr,Hq,Hrr,Hn⟩:=hid4 hr hq hrr hn;clear hn hrr hq hr
 go_enter Tryz.func120,Tryz.ntmps120
 go_wp2_with fail
 go_loopw [8] (fun c wx=>∃j:Nat,j≤n∧c= .int .i64 (j:Nat)∧(∀i y,i<j→L[i]?=some y→q y=false)∧Keeps (fun _=>False) w wx) (fun c _=>n-(intOf c).toNat)
 case atStart=>exact⟨0,Nat.zero_le _,rfl,fun i y h=>absurd h (Nat.not_lt_zero _),Keeps.refl _ _⟩
 case round=>
  obtain⟨j,hj,rfl,hno,hkx⟩:=hrel
  by_cases hjl:j<n
  ·obtain⟨x,hx⟩:=get_some (L:=L) (k:=j) (by rw [Hn.out];exact hjl)
   have hjI:(j:Int)<(n:Int):=by omega
   obtain⟨g,o,c,he,hc⟩:=(Hr.out.keeps hkx (by simp)).elem Ev.cells_length hx (by decide)
   simp only [Value.slice.injEq,true_and] at he
   obtain⟨rfl,rfl⟩:=he
   have hcall:=Hq.out wr x hkx
   obtain⟨qx,hqx⟩:∃b,q x=b:=⟨_,rfl⟩
   rw [hqx] at hcall
   obtain⟨ki,da,tr,am,re⟩:=x
   have x0:wr.cell? ⟨g,o+j*5,none⟩=some (.int .i64 ki):=hc 0 (by decide)
   have x1:wr.cell? ⟨g,o+j*5+1,none⟩=some (.int .i64 da):=hc 1 (by decide)
   have x2:wr.cell? ⟨g,o+j*5+2,none⟩=some (.int .i64 tr):=hc 2 (by decide)
   have x3:wr.cell? ⟨g,o+j*5+3,none⟩=some (.int .i64 am):=hc 3 (by decide)
   have x4:wr.cell? ⟨g,o+j*5+4,none⟩=some (.int .i64 re):=hc 4 (by decide)
   simp only [Ev.agg] at hcall
   clear hc
   rcases qx with _|_
   ·have hno':∀i y,i<j+1→L[i]?=some y→q y=false:=fun i y hi hy=>by
     rcases Nat.lt_or_ge i j with h|h
     ·exact hno i y h hy
     ·obtain rfl:i=j:=by omega
      rw [hx] at hy;cases hy;exact hqx
    obtain⟨Hno,Hno',Hx,Hqx,Hkx,Hcall⟩:=hid6 hno hno' hx hqx hkx hcall;clear hcall hkx hqx hx hno' hno
    go_wp2_with (go_at_call 99;((with_reducible refine Hcall.out.mono ?_);rintro e w1 ⟨rfl,hk1⟩;have Hk1:=Lib.hid hk1;clear hk1))
    go_roundw
    case rel=>exact⟨j+1,by omega,by go_num,Hno'.out,Keeps.nt Hkx.out Hk1.out⟩
    case measure=>simp [intOf];omega
   ·have hf:=find_snoc hx hno hqx
    obtain⟨Hno,Hx,Hqx,Hkx,Hcall,Hf⟩:=hid6 hno hx hqx hkx hcall hf;clear hf hcall hkx hqx hx hno
    go_wp2_with (go_at_call 99;((with_reducible refine Hcall.out.mono ?_);rintro e w1 ⟨rfl,hk1⟩;have Hk1:=Lib.hid hk1;clear hk1))
    go_ret
    exact⟨by rw [←Hrr.out,Hf.out];rfl,Keeps.nt Hkx.out Hk1.out⟩
  ·obtain rfl:j=n:=by omega
   have hf:=find_no (q:=q) (L:=L) (fun i y hi hy=>hno i y (by rw [Hn.out] at hi;exact hi) hy)
   obtain⟨Hno,Hkx,Hf⟩:=hid3 hno hkx hf;clear hf hkx hno
   go_wp2_with fail
   go_ret
   exact⟨by rw [←Hrr.out,Hf.out];rfl,Hkx.out⟩
theorem find_any{q:Ev→Bool}{L:List Ev}:decide ((0:Int)≤retI (L.findIdx? q))=L.any q:=by
 rcases h:L.findIdx? q with _|k
 ·have h1:=List.findIdx?_eq_none_iff.1 h
  have h2:L.any q=false:=by
   rw [Bool.eq_false_iff]
   intro hh
   obtain⟨x,hx,h3⟩:=List.any_eq_true.1 hh
   have:=h1 x hx
   rw [this] at h3;cases h3
  rw [h2];rfl
 ·obtain⟨h1,h2,_⟩:=List.findIdx?_eq_some_iff_getElem.1 h
  rw [List.any_eq_true.2 ⟨_,List.getElem_mem h1,h2⟩]
  simp [retI]
set_option maxHeartbeats 400000
theorem containsLate_any(td:Int)(B:Nat)(ad:Option Addr)(cap n:Nat)(L:List Ev)(w:World)(hB:w.cell? ⟨B,0,none⟩=some (.int .i64 td))(hr:Reads w 5 (.slice ad n cap) n (L.flatMap Ev.cells))(hN:L.length=n)(hl:n≤1000000):
  Calls Tryz.prog 98 #[.slice ad n cap, .func (.func 99) #[] #[(.pointer (some ⟨B,0,none⟩))]] w fun e w'=>e= .returned (.bool (L.any (lateQ td)))∧Keeps (fun _=>False) w w':=by
 subst hN
 have hi:=indexLate B (lateQ td) ad cap L w hr hl (fun W x hW=>repRight1_any td B x W ((hW.cell (cell_lt hB) (by simp)).trans hB))
 have hf:=find_any (q:=lateQ td) (L:=L)
 obtain⟨r,hrr⟩:∃r,retI (L.findIdx? (lateQ td))=r:=⟨_,rfl⟩
 obtain⟨z,hz⟩:∃z,L.any (lateQ td)=z:=⟨_,rfl⟩
 rw [hrr] at hi hf
 rw [hz] at hf⊢
 obtain⟨Hr,Hi,Hrr,Hz⟩:=hid4 hr hi hrr hz;clear hz hrr hi hr
 go_enter Tryz.func98,Tryz.ntmps98
 go_wp2_with fail
 refine Hi.out.mono ?_
 rintro e w1 ⟨rfl,hk1⟩
 have Hk1:=Lib.hid hk1;clear hk1
 go_wp2
 go_ret
 exact⟨rfl,Hk1.out⟩
def repErr(t:Tm)(L:List Ev)(td:Int):Int:=if t.err=0 then(if evsErr t L=0 then(if 2000<L.length then 14 else if td<t.start∨2932896<td then 10 else if¬ofE t.start t.cyc td=0 then 10 else if L.any (lateQ td)=true then 10 else 0) else evsErr t L) else 6
def tdS(b:Nat)(t:Tm)(v:Value)(td:Int)(W:World):Prop:=tbS b t v W∧W.cell? ⟨b+1,0,none⟩=some (.int .i64 td)
set_option maxHeartbeats 3200000
theorem repRight_any(t:Tm)(adt:Option Addr)(ct nt:Nat)(L:List Ev)(ad:Option Addr)(cap n:Nat)(td:Int)(w:World)(hnt:t.trs.length=nt)(htr:Reads w 2 (.slice adt nt ct) nt (t.trs.flatMap Tn.cells))(hn:L.length=n)(hr:Reads w 5 (.slice ad n cap) n (L.flatMap Ev.cells))(hl:n≤1000000)(htl:nt≤1000000):
  Calls Tryz.prog 63 #[.agg #[.int .i64 t.limit, .slice adt nt ct, .int .i64 t.cyc, .int .i64 t.due, .int .i64 t.minFixed, .int .i64 t.minPart, .int .i64 t.start], .slice ad n cap, .int .i64 td] w fun e w'=>e= .returned (.int .i64 (repErr t L td))∧Keeps (fun _=>False) w w':=by
 have htm:=fun W (hW:Keeps (fun _=>False) w W)=>tmRight_any t adt ct W (by rw [hnt];exact htr.keeps hW (by simp)) (by omega)
 have hev:=fun x W (hW:Keeps (fun _=>False) w W)=>evRight_any t x adt ct W (by rw [hnt];exact htr.keeps hW (by simp)) (by omega)
 have htb:∀W,Keeps (fun _=>False) ((w.alloc (.cells #[.int .i64 t.limit, .slice adt nt ct, .int .i64 t.cyc, .int .i64 t.due, .int .i64 t.minFixed, .int .i64 t.minPart, .int .i64 t.start] 38)).alloc (.cells #[.int .i64 td] 3)) W→tdS w.heap.size t (.slice adt nt ct) td W:=fun W hW=>⟨tbS.of (box_old (box_alloc (heap_alloc_new w _) _) hW (by simp)),cell_of_cells (box_old (halloc_at2 _ _ (by simp)) hW (by simp)) 0⟩
 have hlate:=fun(W:World) (hB:W.cell? ⟨w.heap.size+1,0,none⟩=some (.int .i64 td)) (hW:Keeps (fun _=>False) w W)=>containsLate_any td (w.heap.size+1) ad cap n L W hB (hr.keeps hW (by simp)) hn hl
 obtain⟨z,hz⟩:∃z,repErr t L td=z:=⟨_,rfl⟩
 have hz':=hz
 unfold repErr at hz'
 obtain⟨y,hy⟩:∃y,t.err=y:=⟨_,rfl⟩
 rw [hz]
 rw [hnt] at htm hev
 rw [hy] at htm hz'
 rw [hn] at hz'
 simp only [Tm.val] at htm hev⊢
 by_cases hy0:y=0
 ·subst hy0
  rw [if_pos rfl] at hz'
  have hnum:=tm_nums hy
  obtain⟨_,_,_,_,_,_,⟨st0,st1⟩⟩:=hnum
  have hof:=fun W=>cycOf_any t.start t.cyc td W (by omega)
  obtain⟨Htm,Hev,Htb,Htr,Hr,Hz,Hz',Hy,Hnt⟩:=hid9 htm hev htb htr hr hz hz' hy hnt;clear hnt hy hz' hz hr htr htb hev htm;obtain⟨Hn,Hlate,Hof⟩:=hid3 hn hlate hof;clear hof hlate hn
  go_enter Tryz.func63,Tryz.ntmps63
  go_wp2_with fail
  refine(Htm.out _ ((Keeps.alloc _ _).trans_alloc)).mono ?_
  rintro e w1 ⟨rfl,hk1⟩
  have Hk1:=Lib.hid hk1;clear hk1
  obtain⟨tb,d0⟩:=Htb.out _ Hk1.out
  obtain⟨b0,b1,b2,b3,b4,b5,b6⟩:=tb
  have bbl:=cell_lt b0
  have dl:=cell_lt d0
  go_wp2
  go_loopw [20] (fun x wx=>∃i:Nat,x= .int .i64 (i:Nat)∧i≤n∧(∀j y,j<i→L[j]?=some y→evErr t y=0)∧Keeps (fun _=>False) w1 wx) (fun x _=>n-(intOf x).toNat)
  case atStart=>exact⟨0,rfl,Nat.zero_le _,fun j y h=>absurd h (Nat.not_lt_zero _),Keeps.refl _ _⟩
  case round=>
   obtain⟨i,rfl,hin,hall,hk⟩:=hrel
   obtain⟨wq,hwq⟩:∃x,x=wr:=⟨_,rfl⟩
   subst hwq
   have hkw:=((Keeps.alloc (S:=fun _=>False) w (.cells #[.int .i64 t.limit, .slice adt nt ct, .int .i64 t.cyc, .int .i64 t.due, .int .i64 t.minFixed, .int .i64 t.minPart, .int .i64 t.start] 38)).trans_alloc (o:= .cells #[.int .i64 td] 3)).nt (Hk1.out.nt hk)
   clear b0 b1 b2 b3 b4 b5 b6 bbl d0 dl
   obtain⟨tb,d0⟩:=Htb.out _ (Hk1.out.nt hk)
   obtain⟨b0,b1,b2,b3,b4,b5,b6⟩:=tb
   have bbl:=cell_lt b0
   have dl:=cell_lt d0
   by_cases hlt:i<n
   ·have hltI:(i:Int)<(n:Int):=by omega
    obtain⟨x,hx⟩:=get_some (L:=L) (k:=i) (by rw [Hn.out];exact hlt)
    obtain⟨g,o,c',he,hc⟩:=(Hr.out.keeps hkw (by simp)).elem Ev.cells_length hx (by decide)
    simp only [Value.slice.injEq,true_and] at he
    obtain⟨rfl,rfl⟩:=he
    obtain⟨q,hq⟩:∃q,evErr t x=q:=⟨_,rfl⟩
    have hcall:=Hev.out x
    rw [hq] at hcall
    obtain⟨xk,xd,xt,xa,xf⟩:=x
    simp only [Ev.agg] at hcall
    have x0:wq.cell? ⟨g,o+i*5,none⟩=some (.int .i64 xk):=hc 0 (by decide)
    have x1:wq.cell? ⟨g,o+i*5+1,none⟩=some (.int .i64 xd):=hc 1 (by decide)
    have x2:wq.cell? ⟨g,o+i*5+2,none⟩=some (.int .i64 xt):=hc 2 (by decide)
    have x3:wq.cell? ⟨g,o+i*5+3,none⟩=some (.int .i64 xa):=hc 3 (by decide)
    have x4:wq.cell? ⟨g,o+i*5+4,none⟩=some (.int .i64 xf):=hc 4 (by decide)
    have hgl:=cell_lt x0
    clear hc
    by_cases hq0:q=0
    ·subst hq0
     have hall2:∀j y,j<i+1→L[j]?=some y→evErr t y=0:=fun j y hj hy=>by
      rcases Nat.lt_or_ge j i with h|h
      ·exact hall j y h hy
      ·obtain rfl:j=i:=by omega
       rw [hx] at hy;cases hy;exact hq
     obtain⟨Hall,Hall2,Hk,Hkw,Hx,Hq,Hcall⟩:=hid7 hall hall2 hk hkw hx hq hcall;clear hcall hq hx hkw hk hall2 hall
     go_wp2_with fail
     refine(Hcall.out _ (Hkw.out.nt (Keeps.alloc _ _))).mono ?_
     rintro e w2 ⟨rfl,hk2⟩
     have Hk2:=Lib.hid (Hk.out.nt ((Keeps.alloc _ _).nt hk2));clear hk2
     go_wp2
     go_roundw
     case rel=>exact⟨i+1,by go_num,by omega,Hall2.out,Hk2.out⟩
     case measure=>simp [intOf];omega
    ·have he:=evsErr_at hall hx (by rw [hq];exact hq0)
     have hqI:(q !=0)=true:=by simp [hq0]
     rw [hq] at he
     obtain⟨Hall,Hk,Hkw,Hx,Hq,Hcall,He⟩:=hid7 hall hk hkw hx hq hcall he;clear he hcall hq hx hkw hk hall
     go_wp2_with fail
     refine(Hcall.out _ (Hkw.out.nt (Keeps.alloc _ _))).mono ?_
     rintro e w2 ⟨rfl,hk2⟩
     have Hk2:=Lib.hid (Hkw.out.nt ((Keeps.alloc _ _).nt hk2));clear hk2
     go_wp2
     go_ret
     exact⟨by have h:=Hz'.out;rw [He.out,if_neg hq0] at h;subst h;rfl,Hk2.out⟩
   ·obtain rfl:n=i:=by omega
    have he:=evsErr_all (t:=t) (L:=L) fun x hx=>by
     obtain⟨j,hj⟩:=List.getElem?_of_mem hx
     exact hall j x (by rw [←Hn.out];exact lt_of_get hj) hj
    have h:=Hz'.out
    rw [he,if_pos rfl] at h
    by_cases h1:2000<n
    ·have h1I:decide ((2000:Int)<(n:Int))=true:=by rw [decide_eq_true_iff];omega
     rw [if_pos h1] at h
     subst h
     obtain⟨Hall,Hk,Hkw,He⟩:=hid4 hall hk hkw he;clear he hkw hk hall
     go_wp2
     go_ret
     exact⟨rfl,Hkw.out⟩
    have h1I:decide ((2000:Int)<(n:Int))=false:=by rw [decide_eq_false_iff_not];omega
    rw [if_neg h1] at h
    by_cases h2:td<t.start
    ·have h2I:decide (td<t.start)=true:=by simp [h2]
     rw [if_pos (.inl h2)] at h
     subst h
     obtain⟨Hall,Hk,Hkw,He⟩:=hid4 hall hk hkw he;clear he hkw hk hall
     go_wp2
     go_ret
     exact⟨rfl,Hkw.out⟩
    have h2I:decide (td<t.start)=false:=by simp [h2]
    by_cases h3:2932896<td
    ·have h3I:decide (2932896<td)=true:=by simp [h3]
     rw [if_pos (.inr h3)] at h
     subst h
     obtain⟨Hall,Hk,Hkw,He⟩:=hid4 hall hk hkw he;clear he hkw hk hall
     go_wp2
     go_ret
     exact⟨rfl,Hkw.out⟩
    have h3I:decide (2932896<td)=false:=by simp [h3]
    rw [if_neg (by omega)] at h
    obtain⟨oE,hoE⟩:∃oE,ofE t.start t.cyc td=oE:=⟨_,rfl⟩
    obtain⟨oV,hoV⟩:∃oV,ofV t.start t.cyc td=oV:=⟨_,rfl⟩
    have hof2:=Hof.out
    rw [hoE,hoV] at hof2
    rw [hoE] at h
    by_cases h4:oE=0
    ·subst h4
     rw [if_neg (by simp)] at h
     rcases h5:L.any (lateQ td) with _|_
     ·rw [h5,if_neg (by decide)] at h
      subst h
      have hla:=Hlate.out
      rw [h5] at hla
      obtain⟨Hall,Hk,Hkw,He,HoE,HoV,Hof2,H5,Hla⟩:=hid9 hall hk hkw he hoE hoV hof2 h5 hla;clear hla h5 hof2 hoV hoE he hkw hk hall
      go_wp2_with fail
      refine(Hof2.out _).mono ?_
      rintro e w3 ⟨rfl,hk3⟩
      have hkw3:=Hkw.out.nt hk3
      have htd3:=Htb.out _ ((Hk1.out.nt Hk.out).nt hk3)
      clear b0 b1 b2 b3 b4 b5 b6 bbl d0 dl
      obtain⟨tb,d0⟩:=htd3
      obtain⟨b0,b1,b2,b3,b4,b5,b6⟩:=tb
      have bbl:=cell_lt b0
      have dl:=cell_lt d0
      obtain⟨Hk3,Hkw3⟩:=hid2 hk3 hkw3;clear hkw3 hk3
      go_wp2_with fail
      refine(Hla.out _ d0 Hkw3.out).mono ?_
      rintro e w4 ⟨rfl,hk4⟩
      have Hk4:=Lib.hid (Hkw3.out.nt hk4);clear hk4
      go_wp2
      go_ret
      exact⟨rfl,Hk4.out⟩
     ·rw [h5,if_pos rfl] at h
      subst h
      have hla:=Hlate.out
      rw [h5] at hla
      obtain⟨Hall,Hk,Hkw,He,HoE,HoV,Hof2,H5,Hla⟩:=hid9 hall hk hkw he hoE hoV hof2 h5 hla;clear hla h5 hof2 hoV hoE he hkw hk hall
      go_wp2_with fail
      refine(Hof2.out _).mono ?_
      rintro e w3 ⟨rfl,hk3⟩
      have hkw3:=Hkw.out.nt hk3
      have htd3:=Htb.out _ ((Hk1.out.nt Hk.out).nt hk3)
      clear b0 b1 b2 b3 b4 b5 b6 bbl d0 dl
      obtain⟨tb,d0⟩:=htd3
      obtain⟨b0,b1,b2,b3,b4,b5,b6⟩:=tb
      have bbl:=cell_lt b0
      have dl:=cell_lt d0
      obtain⟨Hk3,Hkw3⟩:=hid2 hk3 hkw3;clear hkw3 hk3
      go_wp2_with fail
      refine(Hla.out _ d0 Hkw3.out).mono ?_
      rintro e w4 ⟨rfl,hk4⟩
      have Hk4:=Lib.hid (Hkw3.out.nt hk4);clear hk4
      go_wp2
      go_ret
      exact⟨rfl,Hk4.out⟩
    ·have h4I:(oE !=0)=true:=by simp [h4]
     rw [if_pos h4] at h
     subst h
     obtain⟨Hall,Hk,Hkw,He,HoE,HoV,Hof2⟩:=hid7 hall hk hkw he hoE hoV hof2;clear hof2 hoV hoE he hkw hk hall
     go_wp2_with fail
     refine(Hof2.out _).mono ?_
     rintro e w3 ⟨rfl,hk3⟩
     have Hk3:=Lib.hid (Hkw.out.nt hk3);clear hk3
     go_wp2
     go_ret
     exact⟨rfl,Hk3.out⟩
 ·rw [if_neg hy0] at hz'
  have hy6:=Tm.err_or t
  rw [hy] at hy6
  obtain rfl:y=6:=hy6.resolve_left hy0
  subst hz'
  obtain⟨Htm,Hev,Htb,Htr,Hr,Hz,Hy,Hnt,Hn⟩:=hid9 htm hev htb htr hr hz hy hnt hn;clear hn hnt hy hz hr htr htb hev htm;have Hlate:=Lib.hid hlate;clear hlate
  go_enter Tryz.func63,Tryz.ntmps63
  go_wp2_with fail
  refine(Htm.out _ ((Keeps.alloc _ _).trans_alloc)).mono ?_
  rintro e w1 ⟨rfl,hk1⟩
  have Hk1:=Lib.hid (((Keeps.alloc (S:=fun _=>False) w _).trans_alloc).nt hk1);clear hk1
  go_wp2
  go_ret
  exact⟨rfl,Hk1.out⟩
theorem keeps_storeEv(w:World)(g o0 o1 o2 o3 o4:Nat)(a b c d e:Value):Keeps (fun i=>g=i) w (((((w.setCell ⟨g,o0,none⟩ a).setCell ⟨g,o1,none⟩ b).setCell ⟨g,o2,none⟩ c).setCell ⟨g,o3,none⟩ d).setCell ⟨g,o4,none⟩ e):=
 ((((Keeps.setCell (S:=fun i=>g=i) w _ _ rfl).trans (Keeps.setCell _ _ _ (.inl rfl))).trans (Keeps.setCell _ _ _ (.inl rfl))).trans (Keeps.setCell _ _ _ (.inl rfl))).trans (Keeps.setCell _ _ _ (.inl rfl))
theorem Keeps.same{S:Nat→Prop}{a b c:World}(h:Keeps S a b)(h':Keeps S b c):Keeps S a c:=h.trans (h'.mono fun _ _ e=> .inl e)
def RowE(w:World)(g n cap:Nat)(X:List Ev):Prop:=w.ownsRow 0 26 5 (.slice (some ⟨g,0,none⟩) n cap) n (X.flatMap Ev.cells)∧X.length=n
theorem RowE.keep{w w':World}{g n cap:Nat}{X:List Ev}(h:RowE w g n cap X)(hk:Keeps (fun _=>False) w w'):RowE w' g n cap X:=⟨hk.row h.1 (by simp),h.2⟩
theorem RowE.lt{w:World}{g n cap:Nat}{X:List Ev}(h:RowE w g n cap X):g<w.heap.size:=own_lt h.1 rfl
theorem RowE.cells{w:World}{g n cap:Nat}{X:List Ev}(h:RowE w g n cap X){k:Nat}{x:Ev}(hx:X[k]?=some x):
  w.cell? ⟨g,k*5,none⟩=some (.int .i64 x.kind)∧w.cell? ⟨g,k*5+1,none⟩=some (.int .i64 x.day)∧w.cell? ⟨g,k*5+2,none⟩=some (.int .i64 x.tranche)∧w.cell? ⟨g,k*5+3,none⟩=some (.int .i64 x.amount)∧w.cell? ⟨g,k*5+4,none⟩=some (.int .i64 x.ref):=by
 obtain⟨h,rfl⟩:=h
 exact⟨owns_elem Ev.cells_length h hx 0 (by decide),owns_elem Ev.cells_length h hx 1 (by decide),owns_elem Ev.cells_length h hx 2 (by decide),owns_elem Ev.cells_length h hx 3 (by decide),owns_elem Ev.cells_length h hx 4 (by decide)⟩
theorem RowE.free{w:World}{g n cap:Nat}{X:List Ev}(h:RowE w g n cap X)(o:Nat):w.frozen? ⟨g,o,none⟩=false:=by
 rcases h.1.2 with⟨h0,_⟩|⟨g1,cap1,cur,h0,_,hh,_⟩
 ·simp at h0
 ·simp only [Value.slice.injEq,Option.some.injEq,Addr.mk.injEq,and_true,true_and] at h0
  obtain⟨rfl,rfl⟩:=h0
  exact free_of_cells hh o
def putE(w:World)(g k:Nat)(a b c d e:Int):World:=((((w.setCell ⟨g,k*5,none⟩ (.int .i64 a)).setCell ⟨g,k*5+1,none⟩ (.int .i64 b)).setCell ⟨g,k*5+2,none⟩ (.int .i64 c)).setCell ⟨g,k*5+3,none⟩ (.int .i64 d)).setCell ⟨g,k*5+4,none⟩ (.int .i64 e)
theorem RowE.put{w:World}{g n cap:Nat}{X:List Ev}(h:RowE w g n cap X){k:Nat}(hk:k<n)(a b c d e:Int):RowE (putE w g k a b c d e) g n cap (X.set k ⟨a,b,c,d,e⟩):=
 ⟨owns_storeEv h.1 h.2 hk a b c d e,by simp [h.2]⟩
theorem putE_keeps(w:World)(g k:Nat)(a b c d e:Int):Keeps (fun i=>i=g) w (putE w g k a b c d e):=(keeps_storeEv w g _ _ _ _ _ _ _ _ _ _).mono fun _ _ h=>h.symm
theorem RowE.swp{w:World}{g n cap:Nat}{X:List Ev}(h:RowE w g n cap X){i j:Nat}{a b c d e a' b' c' d' e':Int}(hi:X[i]?=some ⟨a,b,c,d,e⟩)(hj:X[j]?=some ⟨a',b',c',d',e'⟩):
  RowE (putE (putE w g i a' b' c' d' e') g j a b c d e) g n cap (swp X i j):=by
 rw [swp_of hi hj]
 have:=lt_of_get hi
 have:=lt_of_get hj
 have:=h.2
 exact(h.put (by omega) _ _ _ _ _).put (by omega) _ _ _ _ _
structure Sw(L X:List Ev)(a b i:Nat):Prop where
 len:X.length=L.length
 at':∀t,X[t]?=if a≤t∧t<a+i then L[t+(b-a)]? else if b≤t∧t<b+i then L[t-(b-a)]? else L[t]?
theorem Sw.start(L:List Ev)(a b:Nat):Sw L L a b 0:=⟨rfl,fun t=>by rw [if_neg (by omega),if_neg (by omega)]⟩
theorem Sw.next{L X:List Ev}{a b i:Nat}(h:Sw L X a b i)(hab:a+i<b)(hb:b+i<L.length):Sw L (swp X (a+i) (b+i)) a b (i+1):=by
 refine⟨by rw [swp_length];exact h.len,fun t=> ?_⟩
 have hl:=h.len
 rw [swp_get (by omega) (by omega),h.at',h.at',h.at']
 repeat' split
 all_goals first|(exfalso;omega)|rfl|(congr 1;omega)
theorem Sw.done{P U M V S:List Ev}{X:List Ev}{n:Nat}(hU:U.length=n)(hV:V.length=n)(h:Sw (P++U++M++V++S) X P.length (P.length+n+M.length) n):X=P++V++M++U++S:=by
 refine List.ext_getElem? fun t=> ?_
 rw [h.at']
 simp only [List.getElem?_append,List.length_append,hU,hV]
 repeat' split
 all_goals first|(exfalso;omega)|rfl|(congr 1;omega)
theorem swapEv_go(g n cap a b m:Nat)(L:List Ev)(fv:Value)(w:World)(h:RowE w g n cap L)(hab:a+m≤b)(hb:b+m≤n)(hn:n≤1000000):
  Calls Tryz.prog 161 #[.slice (some ⟨g,0,none⟩) n cap, .int .i64 a, .int .i64 b, .int .i64 m,fv] w fun e w'=>e= .returned (.tuple #[])∧∃X,Sw L X a b m∧RowE w' g n cap X∧Keeps (fun i=>i=g) w w':=by
 have H:=Lib.hid h;clear h
 go_enter Tryz.func161,Tryz.ntmps161
 go_wp2
 go_loopw [10] (fun x wx=>∃(i:Nat) (X:List Ev),x= .int .i64 (i:Nat)∧i≤m∧Sw L X a b i∧RowE wx g n cap X∧Keeps (fun i=>i=g) w wx) (fun x _=>m-(intOf x).toNat)
 case atStart=>exact⟨0,L,rfl,Nat.zero_le _,Sw.start _ _ _,H.out,Keeps.refl _ _⟩
 case round=>
  obtain⟨i,X,rfl,him,hsw,hrow,hk⟩:=hrel
  by_cases hlt:i<m
  ·have hltI:(i:Int)<(m:Int):=by omega
   have hXn:=hrow.2
   have hLn:=H.out.2
   obtain⟨⟨x0,x1,x2,x3,x4⟩,hx⟩:=get_some (L:=X) (k:=a+i) (by omega)
   obtain⟨⟨y0,y1,y2,y3,y4⟩,hy⟩:=get_some (L:=X) (k:=b+i) (by omega)
   obtain⟨c0,c1,c2,c3,c4⟩:=hrow.cells hx
   obtain⟨d0,d1,d2,d3,d4⟩:=hrow.cells hy
   have hnext:=hsw.next (by omega) (by omega)
   have hrow':=(hrow.swp hx hy).keep (Keeps.drew _)
   have hk2:=hk.same (((putE_keeps wr g (a+i) y0 y1 y2 y3 y4).same (putE_keeps _ g (b+i) x0 x1 x2 x3 x4)).same (Keeps.drew _))
   have fa0:wr.frozen? ⟨g,(a+i)*5,none⟩=false:=hrow.free _
   have fa1:wr.frozen? ⟨g,(a+i)*5+1,none⟩=false:=hrow.free _
   have fa2:wr.frozen? ⟨g,(a+i)*5+2,none⟩=false:=hrow.free _
   have fa3:wr.frozen? ⟨g,(a+i)*5+3,none⟩=false:=hrow.free _
   have fa4:wr.frozen? ⟨g,(a+i)*5+4,none⟩=false:=hrow.free _
   have fb0:wr.frozen? ⟨g,(b+i)*5,none⟩=false:=hrow.free _
   have fb1:wr.frozen? ⟨g,(b+i)*5+1,none⟩=false:=hrow.free _
   have fb2:wr.frozen? ⟨g,(b+i)*5+2,none⟩=false:=hrow.free _
   have fb3:wr.frozen? ⟨g,(b+i)*5+3,none⟩=false:=hrow.free _
   have fb4:wr.frozen? ⟨g,(b+i)*5+4,none⟩=false:=hrow.free _
   have hp0:(0:Int)≤(a:Int)+i:=by omega
   have hp1:(a:Int)+i<n:=by omega
   have hq0:(0:Int)≤(b:Int)+i:=by omega
   have hq1:(b:Int)+i<n:=by omega
   have e1:((a:Int)+i).toNat=a+i:=by omega
   have e2:((b:Int)+i).toNat=b+i:=by omega
   unfold putE at hrow' hk2
   obtain⟨Hsw,Hrow,Hx,Hy,Hnext,Hrow',Hk,Hk2⟩:=hid8 hsw hrow hx hy hnext hrow' hk hk2;clear hk2 hk hrow' hnext hy hx hrow hsw
   go_wp2_with fail
   go_region
   all_goals go_wp2_with fail
   all_goals go_roundw
   case rel=>exact⟨i+1,_,by go_num,by omega,Hnext.out,Hrow'.out,Hk2.out⟩
   case measure=>simp [intOf];omega
  ·go_wp2
   go_end0
   obtain rfl:i=m:=by omega
   exact⟨rfl,X,hsw,hrow,hk⟩
theorem swapEv_any(P U M V S:List Ev)(g n cap:Nat)(fv:Value)(x y z:Int)(w:World)(h:RowE w g n cap (P++U++M++V++S))(hUV:V.length=U.length)(hn:n≤1000000)(hx:x=P.length)(hy:y=((P.length+U.length+M.length:Nat):Int))(hz:z=U.length):
  Calls Tryz.prog 161 #[.slice (some ⟨g,0,none⟩) n cap, .int .i64 x, .int .i64 y, .int .i64 z,fv] w fun e w'=>e= .returned (.tuple #[])∧RowE w' g n cap (P++V++M++U++S)∧Keeps (fun i=>i=g) w w':=by
 have hl:=h.2
 simp only [List.length_append,hUV] at hl
 subst hx hy hz
 refine(swapEv_go g n cap _ _ _ _ fv w h (by omega) (by omega) hn).mono ?_
 rintro e w' ⟨he,X,hX,hr,hk⟩
 rw [Sw.done rfl hUV hX] at hr
 exact⟨he,hr,hk⟩
theorem rotEv_any(P U V S:List Ev)(g n cap a m b:Nat)(fv:Value)(w:World)(h:RowE w g n cap (P++U++V++S))(hU:U≠ [])(hV:V≠ [])(hn:n≤1000000)(ha:a=P.length)(hm:m=P.length+U.length)(hb:b=P.length+U.length+V.length):
  Calls Tryz.prog 151 #[.slice (some ⟨g,0,none⟩) n cap, .int .i64 a, .int .i64 m, .int .i64 b,fv] w fun e w'=>e= .returned (.tuple #[])∧RowE w' g n cap (P++V++U++S)∧Keeps (fun i=>i=g) w w':=by
 have hU0:0<U.length:=List.length_pos_iff.2 hU
 have hV0:0<V.length:=List.length_pos_iff.2 hV
 have hl:=h.2
 simp only [List.length_append] at hl
 have hma:(m:Int)-a=(U.length:Nat):=by omega
 have hbm:(b:Int)-m=(V.length:Nat):=by omega
 have hbn:b≤n:=by omega
 have ham:a<m:=by omega
 have hmb:m<b:=by omega
 obtain⟨G,hG⟩:∃G,P++V++U++S=G:=⟨_,rfl⟩
 rw [hG]
 obtain⟨H,HG,Ha,Hm,Hb,Hl,HU,HV⟩:=hid8 h hG ha hm hb hl hU hV;clear hV hU hl hb hm ha hG h
 go_enter Tryz.func151,Tryz.ntmps151
 go_wp2
 go_loopw [10,11] (fun x y wx=>∃(i j:Nat) (P' U' V' S':List Ev),x= .int .i64 (i:Nat)∧y= .int .i64 (j:Nat)∧U'.length=i∧V'.length=j∧P'.length+i=m∧0<i∧0<j∧m+j≤b∧P'++V'++U'++S'=G∧RowE wx g n cap (P'++U'++V'++S')∧Keeps (fun i=>i=g) w wx) (fun x y _=>(intOf x).toNat+(intOf y).toNat)
 case atStart=>exact⟨U.length,V.length,P,U,V,S,by go_num,by go_num,rfl,rfl,Hm.out.symm,hU0,hV0,by have:=Hb.out;have:=Hm.out;omega,HG.out,H.out,Keeps.refl _ _⟩
 case round=>
  obtain⟨i,j,P',U',V',S',rfl,rfl,hu,hv,hp,hi,hj,hmj,hg,hrow,hk⟩:=hrel
  have him:i≤m:=by omega
  by_cases hij:i=j
  ·subst hij
   have hrow1:RowE wr g n cap (P'++U'++ []++V'++S'):=by simpa using hrow
   have hc:=swapEv_any P' U' [] V' S' g n cap fv ((m:Int)-i) m i wr hrow1 (by omega) hn (by omega) (by simp only [List.length_nil];omega) (by omega)
   simp only [List.append_nil,hg] at hc
   obtain⟨Hrow,Hrow1,Hc,Hg,Hk,Hu,Hv,Hp⟩:=hid8 hrow hrow1 hc hg hk hu hv hp;clear hp hv hu hk hg hc hrow1 hrow
   go_wp2_with (go_at_call 161;(with_reducible refine Hc.out.mono ?_);rintro e w1 ⟨rfl,hr1,hk1⟩;have Hr1:=Lib.hid hr1;have Hk1:=Lib.hid hk1;clear hr1 hk1)
   go_end0
   exact⟨rfl,Hr1.out,Hk.out.same Hk1.out⟩
  ·by_cases hlt:j<i
   ·obtain⟨U1,U2,rfl,hu1⟩:∃U1 U2,U'=U1++U2∧U1.length=j:=⟨U'.take j,U'.drop j,(List.take_append_drop _ _).symm,by rw [List.length_take];omega⟩
    rw [List.length_append] at hu
    have hrow1:RowE wr g n cap (P'++U1++U2++V'++S'):=by simpa using hrow
    have hc:=swapEv_any P' U1 U2 V' S' g n cap fv ((m:Int)-i) m j wr hrow1 (by omega) hn (by omega) (by omega) (by omega)
    have hg':(P'++V')++U1++U2++S'=G:=by rw [←hg];simp
    have hltI:(j:Int)<i:=by omega
    have hneI:((i:Int)==j)=false:=by simp;omega
    obtain⟨Hrow,Hrow1,Hc,Hg,Hg',Hk,Hu,Hv,Hp⟩:=hid9 hrow hrow1 hc hg hg' hk hu hv hp;clear hp hv hu hk hg' hg hc hrow1 hrow;have Hu1:=Lib.hid hu1;clear hu1
    go_wp2_with (go_at_call 161;(with_reducible refine Hc.out.mono ?_);rintro e w1 ⟨rfl,hr1,hk1⟩;have Hr1:=Lib.hid hr1;have Hk1:=Lib.hid hk1;clear hr1 hk1)
    go_roundw
    case rel=>exact⟨i-j,j,P'++V',U2,U1,S',by go_num,rfl,by have:=Hu.out;have:=Hu1.out;omega,Hu1.out,by rw [List.length_append,Hv.out];have:=Hp.out;omega,by omega,hj,hmj,Hg'.out,Hr1.out,Hk.out.same Hk1.out⟩
    case measure=>simp [intOf];omega
   ·obtain⟨V1,V2,rfl,hv1⟩:∃V1 V2,V'=V1++V2∧V2.length=i:=⟨V'.take (j-i),V'.drop (j-i),(List.take_append_drop _ _).symm,by rw [List.length_drop];omega⟩
    rw [List.length_append] at hv
    have hrow1:RowE wr g n cap (P'++U'++V1++V2++S'):=by simpa using hrow
    have hc:=swapEv_any P' U' V1 V2 S' g n cap fv ((m:Int)-i) ((m:Int)+j-i) i wr hrow1 (by omega) hn (by omega) (by omega) (by omega)
    have hg':P'++V1++V2++(U'++S')=G:=by rw [←hg];simp
    have hr':∀w1,RowE w1 g n cap (P'++V2++V1++U'++S')→RowE w1 g n cap (P'++V2++V1++(U'++S')):=fun w1 h=>by simpa using h
    have hltI:(i:Int)<j:=by omega
    have hneI:((i:Int)==j)=false:=by simp;omega
    obtain⟨Hrow,Hrow1,Hc,Hg,Hg',Hk,Hu,Hv,Hp⟩:=hid9 hrow hrow1 hc hg hg' hk hu hv hp;clear hp hv hu hk hg' hg hc hrow1 hrow;obtain⟨Hv1,Hr'⟩:=hid2 hv1 hr';clear hr' hv1
    go_wp2_with (go_at_call 161;(with_reducible refine Hc.out.mono ?_);rintro e w1 ⟨rfl,hr1,hk1⟩;have Hr1:=Lib.hid hr1;have Hk1:=Lib.hid hk1;clear hr1 hk1)
    go_roundw
    case rel=>exact⟨i,j-i,P',V2,V1,U'++S',rfl,by go_num,Hv1.out,by have:=Hv.out;have:=Hv1.out;omega,Hp.out,hi,by omega,by omega,Hg'.out,Hr'.out _ Hr1.out,Hk.out.same Hk1.out⟩
    case measure=>simp [intOf];omega
structure CmpBy(f:Nat)(ok:Ev→Prop):Prop where
 eg:∀args w,(callFunc f args).run Tryz.prog w= .ok (.enter f args) w
 call:∀x y W,ok x→ok y→Calls Tryz.prog f #[x.agg,y.agg] W fun e w'=>∃z,e= .returned (.int .i64 z)∧(z<0↔x.day<y.day)∧Keeps (fun _=>False) W w'
def twoS(g p q:Nat)(a0 a1 a2 a3 a4 b0 b1 b2 b3 b4:Int)(w:World):Prop:=
 (w.cell? ⟨g,p*5,none⟩=some (.int .i64 a0)∧w.cell? ⟨g,p*5+1,none⟩=some (.int .i64 a1)∧w.cell? ⟨g,p*5+2,none⟩=some (.int .i64 a2)∧w.cell? ⟨g,p*5+3,none⟩=some (.int .i64 a3)∧w.cell? ⟨g,p*5+4,none⟩=some (.int .i64 a4))∧
 (w.cell? ⟨g,q*5,none⟩=some (.int .i64 b0)∧w.cell? ⟨g,q*5+1,none⟩=some (.int .i64 b1)∧w.cell? ⟨g,q*5+2,none⟩=some (.int .i64 b2)∧w.cell? ⟨g,q*5+3,none⟩=some (.int .i64 b3)∧w.cell? ⟨g,q*5+4,none⟩=some (.int .i64 b4))
theorem twoS.of{w:World}{g n cap p q:Nat}{X:List Ev}(h:RowE w g n cap X){a0 a1 a2 a3 a4 b0 b1 b2 b3 b4:Int}(hp:X[p]?=some ⟨a0,a1,a2,a3,a4⟩)(hq:X[q]?=some ⟨b0,b1,b2,b3,b4⟩):twoS g p q a0 a1 a2 a3 a4 b0 b1 b2 b3 b4 w:=⟨h.cells hp,h.cells hq⟩
theorem twoS.keep{w w':World}{S:Nat→Prop}{g p q:Nat}{a0 a1 a2 a3 a4 b0 b1 b2 b3 b4:Int}(h:twoS g p q a0 a1 a2 a3 a4 b0 b1 b2 b3 b4 w)(hk:Keeps S w w')(hS:¬S g):twoS g p q a0 a1 a2 a3 a4 b0 b1 b2 b3 b4 w':=by
 obtain⟨⟨h0,h1,h2,h3,h4⟩,k0,k1,k2,k3,k4⟩:=h
 have hl:g<w.heap.size:=cell_lt h0
 have c:=fun o=>hk.cell (p:=⟨g,o,none⟩) hl hS
 unfold twoS
 exact⟨⟨(c _).trans h0,(c _).trans h1,(c _).trans h2,(c _).trans h3,(c _).trans h4⟩,(c _).trans k0,(c _).trans k1,(c _).trans k2,(c _).trans k3,(c _).trans k4⟩
theorem inssEv_step{X:List Ev}{a i j:Nat}(h:∀s t,a≤s→s<t→t≤i→t≠j+1→dy X s≤dy X t)(haj:a≤j)(hl:j+1<X.length)(hji:j+1≤i)(hd:dy X (j+1)<dy X j):
  ∀s t,a≤s→s<t→t≤i→t≠j→dy (swp X j (j+1)) s≤dy (swp X j (j+1)) t:=by
 have hg:=fun t=>swp_get (X:=X) (i:=j) (j:=j+1) (by omega) hl t
 have e1:dy (swp X j (j+1)) (j+1)=dy X j:=dy_congr (by rw [hg,if_pos rfl])
 have e2:dy (swp X j (j+1)) j=dy X (j+1):=dy_congr (by rw [hg,if_neg (by omega),if_pos rfl])
 have e3:∀t,t≠j→t≠j+1→dy (swp X j (j+1)) t=dy X t:=fun t h1 h2=>dy_congr (by rw [hg,if_neg h2,if_neg h1])
 intro s t h1 h2 h3 h4
 by_cases ht:t=j+1
 ·subst ht
  rw [e1]
  by_cases hs:s=j
  ·subst hs;rw [e2];omega
  ·rw [e3 s hs (by omega)];exact h s j h1 (by omega) (by omega) (by omega)
 ·rw [e3 t h4 ht]
  by_cases hs:s=j
  ·subst hs;rw [e2];exact h _ t (by omega) (by omega) h3 ht
  ·by_cases hs2:s=j+1
   ·subst hs2;rw [e1];exact h j t (by omega) (by omega) h3 ht
   ·rw [e3 s hs hs2];exact h s t h1 h2 h3 ht
theorem inssEv_any(f:Nat)(ok:Ev→Prop)(hc:CmpBy f ok)(a b n cap g:Nat)(L:List Ev)(w:World)(h:RowE w g n cap L)(hab:a≤b)(hbn:b≤n)(hok:∀x∈L,ok x)(hn:n≤1000000):
  Calls Tryz.prog 137 #[.slice (some ⟨g,0,none⟩) n cap, .int .i64 a, .int .i64 b, .func (.func f) #[] #[]] w fun e w'=>e= .returned (.tuple #[])∧∃X,Turned L X a b∧Upto X a b∧RowE w' g n cap X∧Keeps (fun i=>i=g) w w':=by
 have eg:=hc.eg
 have hcall:=hc.call
 simp only [Ev.agg] at hcall
 obtain⟨H,Hok,Hc,Hcall⟩:=hid4 h hok hc hcall;clear hcall hc hok h
 go_enter Tryz.func137,Tryz.ntmps137
 go_wp2
 go_loopw [8] (fun x wx=>∃(i:Nat) (X:List Ev),x= .int .i64 (i:Nat)∧a<i∧i≤b+1∧Turned L X a b∧Upto X a i∧RowE wx g n cap X∧Keeps (fun i=>i=g) w wx) (fun x _=>b+1-(intOf x).toNat)
 case atStart=>exact⟨a+1,L,by go_num,by omega,by omega,Turned.refl _ _ _,Upto.one (by omega),H.out,Keeps.refl _ _⟩
 case round=>
  obtain⟨i,X,rfl,hai,hib,ht,hu,hrow,hk⟩:=hrel
  by_cases hlt:i<b
  ·have hltI:(i:Int)<(b:Int):=by omega
   obtain⟨W1,hW1⟩:∃x,x=wr:=⟨_,rfl⟩;subst hW1
   have hin:∀s t,a≤s→s<t→t≤i→t≠i→dy X s≤dy X t:=fun s t h1 h2 h3 h4=>hu s t h1 h2 (by omega)
   obtain⟨Ht,Hu,Hrow,Hk,Hin⟩:=hid5 ht hu hrow hk hin;clear hin hk hrow hu ht
   go_wp2
   go_loopw [9] (fun x wx=>∃(j:Nat) (Y:List Ev),x= .int .i64 (j:Nat)∧a≤j∧j≤i∧Turned L Y a b∧(∀s t,a≤s→s<t→t≤i→t≠j→dy Y s≤dy Y t)∧RowE wx g n cap Y∧Keeps (fun i=>i=g) w wx) (fun x _=>(intOf x).toNat)
   case atStart=>exact⟨i,X,rfl,by omega,Nat.le_refl _,Ht.out,Hin.out,Hrow.out,Hk.out⟩
   case round=>
    obtain⟨j,Y,rfl,haj,hji,ht,hin,hrow,hk⟩:=hrel
    have hYn:=hrow.2
    by_cases hja:a<j
    ·obtain⟨p,rfl⟩:∃p,j=p+1:=⟨j-1,by omega⟩
     obtain⟨⟨x0,x1,x2,x3,x4⟩,hx⟩:=get_some (L:=Y) (k:=p+1) (by omega)
     obtain⟨⟨y0,y1,y2,y3,y4⟩,hy⟩:=get_some (L:=Y) (k:=p) (by omega)
     have okx:ok _:=Hok.out _ (ht.alike.mem (List.mem_of_getElem? hx))
     have oky:ok _:=Hok.out _ (ht.alike.mem (List.mem_of_getElem? hy))
     have hS:=twoS.of (hrow.keep (Keeps.drew _)) hx hy
     have hxd:=dy_of hx
     have hyd:=dy_of hy
     simp only at hxd hyd
     have q1:IntKind.i64.wrap (((p+1:Nat):Int)-1)=(p:Int):=by rw [show((p+1:Nat):Int)-1=(p:Int) by omega];exact IntWalk.i64_in _ ⟨by omega,by omega⟩
     have q2:(a:Int)<((p+1:Nat):Int):=by omega
     have q3:(p:Int)<(n:Int):=by omega
     have p0:(0:Int)≤(p:Int)+1:=by omega
     have e0:((p:Int)+1).toNat=p+1:=by omega
     have q9:IntKind.i64.wrap (p:Int)=(p:Int):=IntWalk.i64_in _ ⟨by omega,by omega⟩
     have q6:(a:Int)<(p:Int)+1:=by omega
     have q7:(p:Int)+1<(n:Int):=by omega
     have q8:IntKind.i64.wrap ((p:Int)+1-1)=(p:Int):=by rw [show(p:Int)+1-1=(p:Int) by omega];exact IntWalk.i64_in _ ⟨by omega,by omega⟩
     have q5:((p+1:Nat):Int)<(n:Int):=by omega
     obtain⟨Ht,Hin,Hrow,Hk,Hx,Hy,Okx,Oky,HS⟩:=hid9 ht hin hrow hk hx hy okx oky hS;clear hS oky okx hy hx hk hrow hin ht;obtain⟨Hxd,Hyd⟩:=hid2 hxd hyd;clear hyd hxd
     have hcl:=fun W=>Hcall.out ⟨x0,x1,x2,x3,x4⟩ ⟨y0,y1,y2,y3,y4⟩ W Okx.out Oky.out
     simp only at hcl
     have Hcl:=Lib.hid hcl;clear hcl
     by_cases hd:x1<y1
     ·go_wp2_with fail
      refine wp_region_mixw (twoS g (p+1) p x0 x1 x2 x3 x4 y0 y1 y2 y3 y4) (.take 0 (.take 1 (.take 2 (.take 3 (.take 4 (.take 5 (.take 6 (.take 7 (.take 8 (.take 9 (.take 10 (.take 11 (.take 12 (.take 13 (.move 14 (.take 15 (.take 16 .done))))))))))))))))) (by kernel_rfl) (by kernel_rfl) ?_ ?_
      ·exact HS.out
      intro w1 hs1 hk1
      repeat (first
       |(refine mix_skip rfl (by rfl) ?_;try simp only [Act.put,List.setIfInBounds_toArray,List.set_cons_zero,List.set_cons_succ])
       |(refine mix_skipm rfl (by rfl) ?_;try simp only [Act.put,List.setIfInBounds_toArray,List.set_cons_zero,List.set_cons_succ])
       |(refine mix_take (v:= ?_) rfl (by rfl) ?_ ?_;rotate_left;(· intro w' hSw;unfold twoS at hSw;go_simp;(try with_reducible rfl));rotate_right;try simp only [Act.put,List.setIfInBounds_toArray,List.set_cons_zero,List.set_cons_succ]))
      refine mix_move rfl (fun K hK=> ?_)
      go_simp
      go_at_fn f
      ((with_reducible refine(Hcl.out w1).mono ?_);rintro e w2 ⟨z,rfl,hz,hk2⟩;dsimp only)
      have hz':z<0:=hz.2 hd
      refine hK.out _ _ (by exact hs1.keep hk2 (by simp)) ?_
      clear hK K
      try simp only [Act.put,List.setIfInBounds_toArray,List.set_cons_zero,List.set_cons_succ]
      repeat (first
       |(refine mix_skip rfl (by rfl) ?_;try simp only [Act.put,List.setIfInBounds_toArray,List.set_cons_zero,List.set_cons_succ])
       |(refine mix_skipm rfl (by rfl) ?_;try simp only [Act.put,List.setIfInBounds_toArray,List.set_cons_zero,List.set_cons_succ])
       |(refine mix_take (v:= ?_) rfl (by rfl) ?_ ?_;rotate_left;(· intro w' hSw;unfold twoS at hSw;go_simp;(try with_reducible rfl));rotate_right;try simp only [Act.put,List.setIfInBounds_toArray,List.set_cons_zero,List.set_cons_succ]))
      refine mix_done ?_
      have hrow2:=(Hrow.out.keep hk1).keep hk2
      have hkw:=(Hk.out.trans (hk1.mono (by simp))).trans (hk2.mono (by simp))
      clear hs1 hz
      have hstep:=inssEv_step Hin.out (by omega) (by omega) (by omega) (by rw [Hxd.out,Hyd.out];exact hd)
      have htn:=Ht.out.trans (swp_turned (X:=Y) (i:=p) (a:=a) (b:=b) (by omega) (by omega) (by omega) (by rw [Hxd.out,Hyd.out];exact hd))
      obtain⟨c0,c1,c2,c3,c4⟩:=(hrow2).cells Hx.out
      obtain⟨d0,d1,d2,d3,d4⟩:=(hrow2).cells Hy.out
      have fa0:(w2).frozen? ⟨g,(p+1)*5,none⟩=false:=(hrow2).free _
      have fa1:(w2).frozen? ⟨g,(p+1)*5+1,none⟩=false:=(hrow2).free _
      have fa2:(w2).frozen? ⟨g,(p+1)*5+2,none⟩=false:=(hrow2).free _
      have fa3:(w2).frozen? ⟨g,(p+1)*5+3,none⟩=false:=(hrow2).free _
      have fa4:(w2).frozen? ⟨g,(p+1)*5+4,none⟩=false:=(hrow2).free _
      have fb0:(w2).frozen? ⟨g,(p)*5,none⟩=false:=(hrow2).free _
      have fb1:(w2).frozen? ⟨g,(p)*5+1,none⟩=false:=(hrow2).free _
      have fb2:(w2).frozen? ⟨g,(p)*5+2,none⟩=false:=(hrow2).free _
      have fb3:(w2).frozen? ⟨g,(p)*5+3,none⟩=false:=(hrow2).free _
      have fb4:(w2).frozen? ⟨g,(p)*5+4,none⟩=false:=(hrow2).free _
      have hrow3:=(hrow2.swp Hx.out Hy.out).keep (Keeps.drew _)
      rw [swp_comm Y p (by omega)] at hrow3
      have hk3:=hkw.same (((putE_keeps w2 g (p+1) y0 y1 y2 y3 y4).same (putE_keeps _ g p x0 x1 x2 x3 x4)).same (Keeps.drew _))
      unfold putE at hrow3 hk3
      obtain⟨Hk1,Hk2,Hrow2,Hkw,Hrow3,Hk3,Hstep,Htn⟩:=hid8 hk1 hk2 hrow2 hkw hrow3 hk3 hstep htn;clear htn hstep hk3 hrow3 hkw hrow2 hk2 hk1
      clear hz'
      go_wp2_with fail
      go_region
      all_goals go_wp2_with fail
      all_goals go_roundw
      case rel=>exact⟨p,_,by go_num,by omega,by omega,Htn.out,Hstep.out,Hrow3.out,Hk3.out⟩
      case measure=>simp [intOf]
     ·go_wp2_with fail
      refine wp_region_mixw (twoS g (p+1) p x0 x1 x2 x3 x4 y0 y1 y2 y3 y4) (.take 0 (.take 1 (.take 2 (.take 3 (.take 4 (.take 5 (.take 6 (.take 7 (.take 8 (.take 9 (.take 10 (.take 11 (.take 12 (.take 13 (.move 14 (.take 15 (.take 16 .done))))))))))))))))) (by kernel_rfl) (by kernel_rfl) ?_ ?_
      ·exact HS.out
      intro w1 hs1 hk1
      repeat (first
       |(refine mix_skip rfl (by rfl) ?_;try simp only [Act.put,List.setIfInBounds_toArray,List.set_cons_zero,List.set_cons_succ])
       |(refine mix_skipm rfl (by rfl) ?_;try simp only [Act.put,List.setIfInBounds_toArray,List.set_cons_zero,List.set_cons_succ])
       |(refine mix_take (v:= ?_) rfl (by rfl) ?_ ?_;rotate_left;(· intro w' hSw;unfold twoS at hSw;go_simp;(try with_reducible rfl));rotate_right;try simp only [Act.put,List.setIfInBounds_toArray,List.set_cons_zero,List.set_cons_succ]))
      refine mix_move rfl (fun K hK=> ?_)
      go_simp
      go_at_fn f
      ((with_reducible refine(Hcl.out w1).mono ?_);rintro e w2 ⟨z,rfl,hz,hk2⟩;dsimp only)
      have hz':¬z<0:=fun h=>by have:=hz.1 h;omega
      refine hK.out _ _ (by exact hs1.keep hk2 (by simp)) ?_
      clear hK K
      try simp only [Act.put,List.setIfInBounds_toArray,List.set_cons_zero,List.set_cons_succ]
      repeat (first
       |(refine mix_skip rfl (by rfl) ?_;try simp only [Act.put,List.setIfInBounds_toArray,List.set_cons_zero,List.set_cons_succ])
       |(refine mix_skipm rfl (by rfl) ?_;try simp only [Act.put,List.setIfInBounds_toArray,List.set_cons_zero,List.set_cons_succ])
       |(refine mix_take (v:= ?_) rfl (by rfl) ?_ ?_;rotate_left;(· intro w' hSw;unfold twoS at hSw;go_simp;(try with_reducible rfl));rotate_right;try simp only [Act.put,List.setIfInBounds_toArray,List.set_cons_zero,List.set_cons_succ]))
      refine mix_done ?_
      have hrow2:=(Hrow.out.keep hk1).keep hk2
      have hkw:=(Hk.out.trans (hk1.mono (by simp))).trans (hk2.mono (by simp))
      have hup:Upto Y a (i+1):=fun s t h1 h2 h3=>by
       by_cases hte:t=p+1
       ·subst hte
        rcases Nat.lt_or_ge s p with h4|h4
        ·have e1:=Hin.out s p h1 h4 (by omega) (by omega)
         rw [Hxd.out];rw [Hyd.out] at e1;omega
        ·obtain rfl:s=p:=by omega
         rw [Hxd.out,Hyd.out];omega
       ·exact Hin.out s t h1 h2 (by omega) hte
      clear hs1 hz
      obtain⟨Hk1,Hk2,Hrow2,Hkw,Hup,Hz'⟩:=hid6 hk1 hk2 hrow2 hkw hup hz';clear hz' hup hkw hrow2 hk2 hk1
      go_wp2
      go_roundw
      case rel=>exact⟨i+1,Y,by go_num,by omega,by omega,Ht.out,Hup.out,Hrow2.out,Hkw.out⟩
      case measure=>simp [intOf];omega
    ·obtain rfl:j=a:=by omega
     have hup:Upto Y j (i+1):=fun s t h1 h2 h3=>hin s t h1 h2 (by omega) (by omega)
     have hrow2:=hrow.keep (Keeps.drew wr)
     have hkw:=hk.same (Keeps.drew wr)
     obtain⟨Ht,Hin,Hrow,Hk,Hup,Hrow2,Hkw⟩:=hid7 ht hin hrow hk hup hrow2 hkw;clear hkw hrow2 hup hk hrow hin ht
     go_wp2_with fail
     go_region
     all_goals go_wp2
     all_goals go_roundw
     case rel=>exact⟨i+1,Y,by go_num,by omega,by omega,Ht.out,Hup.out,Hrow2.out,Hkw.out⟩
     case measure=>simp [intOf];omega
  ·go_wp2
   go_end0
   exact⟨rfl,X,ht,hu.sub (Nat.le_refl _) (by omega),hrow,hk⟩
def MergePost(L:List Ev)(g n cap a b:Nat)(w:World)(e:Ending)(w':World):Prop:=e= .returned (.tuple #[])∧∃X,Turned L X a b∧Upto X a b∧RowE w' g n cap X∧Keeps (fun i=>i=g) w w'
def MergeAt(f:Nat)(ok:Ev→Prop)(d:Nat):Prop:=∀(a m b n cap g:Nat) (L:List Ev) (w:World),b-a≤d→RowE w g n cap L→a<m→m<b→b≤n→(∀x∈L,ok x)→n≤1000000→Upto L a m→Upto L m b→
  Calls Tryz.prog 138 #[.slice (some ⟨g,0,none⟩) n cap, .int .i64 a, .int .i64 m, .int .i64 b, .func (.func f) #[] #[]] w (MergePost L g n cap a b w)
theorem left_step{L Y:List Ev}{a b k:Nat}(h1:dy Y k=dy L a)(h2:∀t,a≤t→t<k→dy Y t=dy L (t+1))(h3:∀t,k<t→Y[t]?=L[t]?)(hk:a≤k)(hl:k+1<Y.length):
  dy (swp Y k (k+1)) (k+1)=dy L a∧(∀t,a≤t→t<k+1→dy (swp Y k (k+1)) t=dy L (t+1))∧(∀t,k+1<t→(swp Y k (k+1))[t]?=L[t]?):=by
 have hg:=fun t=>swp_get (X:=Y) (i:=k) (j:=k+1) (by omega) hl t
 refine⟨(dy_congr (by rw [hg,if_pos rfl])).trans h1,fun t h4 h5=> ?_,fun t h4=> ?_⟩
 ·by_cases ht:t=k
  ·subst ht;exact dy_congr (by rw [hg,if_neg (by omega),if_pos rfl];exact h3 _ (by omega))
  ·exact(dy_congr (by rw [hg,if_neg (by omega),if_neg ht])).trans (h2 t h4 (by omega))
 ·rw [hg,if_neg (by omega),if_neg (by omega)];exact h3 t (by omega)
theorem left_done{L Y:List Ev}{a b i:Nat}(h1:dy Y (i-1)=dy L a)(h2:∀t,a≤t→t<i-1→dy Y t=dy L (t+1))(h3:∀t,i-1<t→Y[t]?=L[t]?)(hs:Upto L (a+1) b)(hbs:Bs (fun t=>dy L a≤dy L t) (a+1) b i i):Upto Y a b:=by
 have hlo:=hbs.lo'
 have hhi:=hbs.hi'
 have e3:∀t,i-1<t→dy Y t=dy L t:=fun t ht=>dy_congr (h3 t ht)
 intro s t h4 h5 h6
 rcases Nat.lt_trichotomy t (i-1) with h|h|h
 ·rw [h2 s h4 (by omega),h2 t (by omega) h];exact hs _ _ (by omega) (by omega) (by omega)
 ·subst h
  have:=hbs.below (s+1) (by omega) (by omega)
  rw [h2 s h4 h5,h1];omega
 ·rw [e3 t h]
  have:=hbs.above t (by omega) h6
  rcases Nat.lt_trichotomy s (i-1) with h'|h'|h'
  ·rw [h2 s h4 h'];exact hs _ _ (by omega) (by omega) h6
  ·subst h';rw [h1];exact this
  ·rw [e3 s h'];exact hs _ _ (by omega) h5 h6
theorem merge_left(f:Nat)(ok:Ev→Prop)(hc:CmpBy f ok)(a b n cap g:Nat)(L:List Ev)(w:World)(h:RowE w g n cap L)(hmb:a+1<b)(hbn:b≤n)(hok:∀x∈L,ok x)(hn:n≤1000000)(h1:Upto L (a+1) b):
  Calls Tryz.prog 138 #[.slice (some ⟨g,0,none⟩) n cap, .int .i64 a, .int .i64 (a+1:Nat), .int .i64 b, .func (.func f) #[] #[]] w (MergePost L g n cap a b w):=by
 have eg:=hc.eg
 have hcall:=hc.call
 simp only [Ev.agg] at hcall
 have q0:((a+1:Nat):Int)-(a:Int)=1:=by omega
 obtain⟨m,hm⟩:∃m,a+1=m:=⟨_,rfl⟩
 rw [hm] at h1 q0 hmb⊢
 have hmI:(m:Int)=(a:Int)+1:=by omega
 have hln:=h.2
 obtain⟨H,Hok,Hc,Hcall,H1,Hm,HmI⟩:=hid7 h hok hc hcall h1 hm hmI;clear hmI hm h1 hcall hc hok h
 go_enter Tryz.func138,Tryz.ntmps138
 go_wp2
 go_loopw [10,11] (fun x y wx=>∃(i j:Nat),x= .int .i64 (i:Nat)∧y= .int .i64 (j:Nat)∧Bs (fun t=>dy L a≤dy L t) m b i j∧RowE wx g n cap L∧Keeps (fun i=>i=g) w wx) (fun x y _=>(intOf y).toNat-(intOf x).toNat)
 case atStart=>exact⟨m,b,rfl,rfl,Bs.start (by omega),H.out,Keeps.refl _ _⟩
 case round=>
  obtain⟨i,j,rfl,rfl,hbs,hrow,hk⟩:=hrel
  by_cases hlt:i<j
  ·have hltI:(i:Int)<(j:Int):=by omega
   have hbhi:=hbs.hi'
   have hblo:=hbs.lo'
   obtain⟨h,hh⟩:∃h:Nat,((i:Int)+j) / 2=h:=⟨(i+j) / 2,by omega⟩
   have hih:i≤h:=by omega
   have hhj:h<j:=by omega
   obtain⟨⟨x0,x1,x2,x3,x4⟩,hx⟩:=get_some (L:=L) (k:=h) (by omega)
   obtain⟨⟨y0,y1,y2,y3,y4⟩,hy⟩:=get_some (L:=L) (k:=a) (by omega)
   have okx:ok _:=Hok.out _ (List.mem_of_getElem? hx)
   have oky:ok _:=Hok.out _ (List.mem_of_getElem? hy)
   have hS:=twoS.of (hrow.keep (Keeps.drew _)) hx hy
   have hxd:=dy_of hx
   have hyd:=dy_of hy
   simp only at hxd hyd
   have q2:(h:Int)<(n:Int):=by omega
   have q3:(a:Int)<(n:Int):=by omega
   have hmono:∀s t,m≤s→s≤t→t<b→dy L a≤dy L s→dy L a≤dy L t:=fun s t h1 h2 h3 h4=>by have:=H1.out.le h1 h2 h3;omega
   have hcl:=fun W=>Hcall.out ⟨x0,x1,x2,x3,x4⟩ ⟨y0,y1,y2,y3,y4⟩ W okx oky
   simp only at hcl
   obtain⟨Hbs,Hrow,Hk,Hx,Hy,Okx,Oky,HS,Hxd⟩:=hid9 hbs hrow hk hx hy okx oky hS hxd;clear hxd hS oky okx hy hx hk hrow hbs;obtain⟨Hyd,Hmono,Hcl⟩:=hid3 hyd hmono hcl;clear hcl hmono hyd
   go_wp2_with fail
   try rw [hh]
   clear hh
   by_cases hd:x1<y1
   ·skip
    refine wp_region_mixw (twoS g h a x0 x1 x2 x3 x4 y0 y1 y2 y3 y4) (.take 0 (.take 1 (.take 2 (.take 3 (.take 4 (.take 5 (.take 6 (.take 7 (.take 8 (.move 9 (.take 10 .done))))))))))) (by kernel_rfl) (by kernel_rfl) ?_ ?_
    ·exact HS.out
    intro w1 hs1 hk1
    repeat (first
     |(refine mix_skip rfl (by rfl) ?_;try simp only [Act.put,List.setIfInBounds_toArray,List.set_cons_zero,List.set_cons_succ])
     |(refine mix_skipm rfl (by rfl) ?_;try simp only [Act.put,List.setIfInBounds_toArray,List.set_cons_zero,List.set_cons_succ])
     |(refine mix_take (v:= ?_) rfl (by rfl) ?_ ?_;rotate_left;(· intro w' hSw;unfold twoS at hSw;go_simp;(try with_reducible rfl));rotate_right;try simp only [Act.put,List.setIfInBounds_toArray,List.set_cons_zero,List.set_cons_succ]))
    refine mix_move rfl (fun K hK=> ?_)
    go_simp
    go_at_fn f
    ((with_reducible refine(Hcl.out w1).mono ?_);rintro e w2 ⟨z,rfl,hz,hk2⟩;dsimp only)
    have hz':z<0:=hz.2 hd
    refine hK.out _ _ (by exact hs1.keep hk2 (by simp)) ?_
    clear hK K
    try simp only [Act.put,List.setIfInBounds_toArray,List.set_cons_zero,List.set_cons_succ]
    repeat (first
     |(refine mix_skip rfl (by rfl) ?_;try simp only [Act.put,List.setIfInBounds_toArray,List.set_cons_zero,List.set_cons_succ])
     |(refine mix_skipm rfl (by rfl) ?_;try simp only [Act.put,List.setIfInBounds_toArray,List.set_cons_zero,List.set_cons_succ])
     |(refine mix_take (v:= ?_) rfl (by rfl) ?_ ?_;rotate_left;(· intro w' hSw;unfold twoS at hSw;go_simp;(try with_reducible rfl));rotate_right;try simp only [Act.put,List.setIfInBounds_toArray,List.set_cons_zero,List.set_cons_succ]))
    refine mix_done ?_
    have hrow2:=(Hrow.out.keep hk1).keep hk2
    have hkw:=(Hk.out.trans (hk1.mono (by simp))).trans (hk2.mono (by simp))
    have hb2:=Hbs.out.up Hmono.out hih hhj (by rw [Hxd.out,Hyd.out];omega)
    clear hs1 hz
    obtain⟨Hk1,Hk2,Hrow2,Hkw,Hb2⟩:=hid5 hk1 hk2 hrow2 hkw hb2;clear hb2 hkw hrow2 hk2 hk1
    go_wp2_with fail
    go_roundw
    case rel=>exact⟨h+1,j,by go_num,rfl,Hb2.out,Hrow2.out,Hkw.out⟩
    case measure=>simp [intOf];omega
   ·skip
    refine wp_region_mixw (twoS g h a x0 x1 x2 x3 x4 y0 y1 y2 y3 y4) (.take 0 (.take 1 (.take 2 (.take 3 (.take 4 (.take 5 (.take 6 (.take 7 (.take 8 (.move 9 (.take 10 .done))))))))))) (by kernel_rfl) (by kernel_rfl) ?_ ?_
    ·exact HS.out
    intro w1 hs1 hk1
    repeat (first
     |(refine mix_skip rfl (by rfl) ?_;try simp only [Act.put,List.setIfInBounds_toArray,List.set_cons_zero,List.set_cons_succ])
     |(refine mix_skipm rfl (by rfl) ?_;try simp only [Act.put,List.setIfInBounds_toArray,List.set_cons_zero,List.set_cons_succ])
     |(refine mix_take (v:= ?_) rfl (by rfl) ?_ ?_;rotate_left;(· intro w' hSw;unfold twoS at hSw;go_simp;(try with_reducible rfl));rotate_right;try simp only [Act.put,List.setIfInBounds_toArray,List.set_cons_zero,List.set_cons_succ]))
    refine mix_move rfl (fun K hK=> ?_)
    go_simp
    go_at_fn f
    ((with_reducible refine(Hcl.out w1).mono ?_);rintro e w2 ⟨z,rfl,hz,hk2⟩;dsimp only)
    have hz':¬z<0:=fun h=>by have:=hz.1 h;omega
    refine hK.out _ _ (by exact hs1.keep hk2 (by simp)) ?_
    clear hK K
    try simp only [Act.put,List.setIfInBounds_toArray,List.set_cons_zero,List.set_cons_succ]
    repeat (first
     |(refine mix_skip rfl (by rfl) ?_;try simp only [Act.put,List.setIfInBounds_toArray,List.set_cons_zero,List.set_cons_succ])
     |(refine mix_skipm rfl (by rfl) ?_;try simp only [Act.put,List.setIfInBounds_toArray,List.set_cons_zero,List.set_cons_succ])
     |(refine mix_take (v:= ?_) rfl (by rfl) ?_ ?_;rotate_left;(· intro w' hSw;unfold twoS at hSw;go_simp;(try with_reducible rfl));rotate_right;try simp only [Act.put,List.setIfInBounds_toArray,List.set_cons_zero,List.set_cons_succ]))
    refine mix_done ?_
    have hrow2:=(Hrow.out.keep hk1).keep hk2
    have hkw:=(Hk.out.trans (hk1.mono (by simp))).trans (hk2.mono (by simp))
    have hb2:=Hbs.out.down Hmono.out hih hhj (by rw [Hxd.out,Hyd.out];omega)
    clear hs1 hz
    obtain⟨Hk1,Hk2,Hrow2,Hkw,Hb2⟩:=hid5 hk1 hk2 hrow2 hkw hb2;clear hb2 hkw hrow2 hk2 hk1
    go_wp2_with fail
    go_roundw
    case rel=>exact⟨i,h,rfl,rfl,Hb2.out,Hrow2.out,Hkw.out⟩
    case measure=>simp [intOf];omega
  ·obtain rfl:j=i:=by have:=hbs.le;omega
   have hbhi:=hbs.hi'
   have hblo:=hbs.lo'
   obtain⟨W1,hW1⟩:∃x,x=wr:=⟨_,rfl⟩;subst hW1
   obtain⟨Hbs,Hrow,Hk⟩:=hid3 hbs hrow hk;clear hk hrow hbs
   go_wp2
   go_loopw [13] (fun x wx=>∃(k:Nat) (Y:List Ev),x= .int .i64 (k:Nat)∧a≤k∧k≤j-1∧Turned L Y a b∧dy Y k=dy L a∧(∀t,a≤t→t<k→dy Y t=dy L (t+1))∧(∀t,k<t→Y[t]?=L[t]?)∧RowE wx g n cap Y∧Keeps (fun i=>i=g) w wx) (fun x _=>j-(intOf x).toNat)
   case atStart=>exact⟨a,L,rfl,Nat.le_refl _,by omega,Turned.refl _ _ _,rfl,fun t h1 h2=>by omega,fun _ _=>rfl,Hrow.out,Hk.out⟩
   case round=>
    obtain⟨k,Y,rfl,hak,hkj,ht,e1,e2,e3,hrow,hk⟩:=hrel
    have hYn:=hrow.2
    by_cases hlt:k<j-1
    ·have hltI:(k:Int)<(j:Int)-1:=by omega
     obtain⟨⟨x0,x1,x2,x3,x4⟩,hx⟩:=get_some (L:=Y) (k:=k) (by omega)
     obtain⟨⟨y0,y1,y2,y3,y4⟩,hy⟩:=get_some (L:=Y) (k:=k+1) (by omega)
     have hbel:=Hbs.out.below (k+1) (by omega) (by omega)
     have hd:dy Y (k+1)<dy Y k:=by rw [e1,dy_congr (e3 (k+1) (by omega))];omega
     have hstep:=left_step (b:=b) e1 e2 e3 hak (by omega)
     have htn:=ht.trans (swp_turned (X:=Y) (i:=k) (a:=a) (b:=b) (by omega) (by omega) (by omega) hd)
     obtain⟨c0,c1,c2,c3,c4⟩:=(hrow).cells hx
     obtain⟨d0,d1,d2,d3,d4⟩:=(hrow).cells hy
     have fa0:(wr).frozen? ⟨g,(k)*5,none⟩=false:=(hrow).free _
     have fa1:(wr).frozen? ⟨g,(k)*5+1,none⟩=false:=(hrow).free _
     have fa2:(wr).frozen? ⟨g,(k)*5+2,none⟩=false:=(hrow).free _
     have fa3:(wr).frozen? ⟨g,(k)*5+3,none⟩=false:=(hrow).free _
     have fa4:(wr).frozen? ⟨g,(k)*5+4,none⟩=false:=(hrow).free _
     have fb0:(wr).frozen? ⟨g,(k+1)*5,none⟩=false:=(hrow).free _
     have fb1:(wr).frozen? ⟨g,(k+1)*5+1,none⟩=false:=(hrow).free _
     have fb2:(wr).frozen? ⟨g,(k+1)*5+2,none⟩=false:=(hrow).free _
     have fb3:(wr).frozen? ⟨g,(k+1)*5+3,none⟩=false:=(hrow).free _
     have fb4:(wr).frozen? ⟨g,(k+1)*5+4,none⟩=false:=(hrow).free _
     have hrow3:=(hrow.swp hx hy).keep (Keeps.drew _)
     have hk3:=hk.same (((putE_keeps wr g k y0 y1 y2 y3 y4).same (putE_keeps _ g (k+1) x0 x1 x2 x3 x4)).same (Keeps.drew _))
     unfold putE at hrow3 hk3
     have p0:(0:Int)≤(k:Int)+1:=by omega
     have p1:(k:Int)+1<(n:Int):=by omega
     have p2:(k:Int)<(n:Int):=by omega
     have p3:((k:Int)+1).toNat=k+1:=by omega
     obtain⟨Hrow,Hk,Hx,Hy,Hbel,Hd,Hstep,Htn,Ht⟩:=hid9 hrow hk hx hy hbel hd hstep htn ht;clear ht htn hstep hd hbel hy hx hk hrow;obtain⟨E1,E2,E3,Hrow3,Hk3⟩:=hid5 e1 e2 e3 hrow3 hk3;clear hk3 hrow3 e3 e2 e1
     go_wp2_with fail
     go_region
     all_goals go_wp2_with fail
     all_goals go_roundw
     case rel=>exact⟨k+1,_,by go_num,by omega,by omega,Htn.out,Hstep.out.1,Hstep.out.2.1,Hstep.out.2.2,Hrow3.out,Hk3.out⟩
     case measure=>simp [intOf];omega
    ·obtain rfl:k=j-1:=by omega
     have hup:Upto Y a b:=left_done e1 e2 e3 (by have:=H1.out;rwa [←Hm.out] at this) (by have:=Hbs.out;rwa [←Hm.out] at this)
     have hltI:¬((j-1:Nat):Int)<(j:Int)-1:=by omega
     obtain⟨k,hkk⟩:∃k,j-1=k:=⟨_,rfl⟩
     rw [hkk] at hltI⊢
     obtain⟨Ht,E1,E2,E3,Hrow,Hk,Hup⟩:=hid7 ht e1 e2 e3 hrow hk hup;clear hup hk hrow e3 e2 e1 ht
     go_wp2
     go_end0
     exact⟨rfl,Y,Ht.out,Hup.out,Hrow.out,Hk.out⟩
theorem right_step{L Y:List Ev}{m k:Nat}(h1:dy Y (k+1)=dy L m)(h2:∀t,k+1<t→t≤m→dy Y t=dy L (t-1))(h3:∀t,t<k+1→Y[t]?=L[t]?)(hl:k+1<Y.length):
  dy (swp Y k (k+1)) k=dy L m∧(∀t,k<t→t≤m→dy (swp Y k (k+1)) t=dy L (t-1))∧(∀t,t<k→(swp Y k (k+1))[t]?=L[t]?):=by
 have hg:=fun t=>swp_get (X:=Y) (i:=k) (j:=k+1) (by omega) hl t
 refine⟨(dy_congr (by rw [hg,if_neg (by omega),if_pos rfl])).trans h1,fun t h4 h5=> ?_,fun t h4=> ?_⟩
 ·by_cases ht:t=k+1
  ·subst ht;exact dy_congr (by rw [hg,if_pos rfl];exact h3 _ (by omega))
  ·exact(dy_congr (by rw [hg,if_neg ht,if_neg (by omega)])).trans (h2 t (by omega) h5)
 ·rw [hg,if_neg (by omega),if_neg (by omega)];exact h3 t (by omega)
theorem right_done{L Y:List Ev}{a m i:Nat}(h1:dy Y i=dy L m)(h2:∀t,i<t→t≤m→dy Y t=dy L (t-1))(h3:∀t,t<i→Y[t]?=L[t]?)(hs:Upto L a m)(hbs:Bs (fun t=>dy L m<dy L t) a m i i):Upto Y a (m+1):=by
 have hlo:=hbs.lo'
 have hhi:=hbs.hi'
 have e3:∀t,t<i→dy Y t=dy L t:=fun t ht=>dy_congr (h3 t ht)
 intro s t h4 h5 h6
 rcases Nat.lt_trichotomy t i with h|h|h
 ·rw [e3 s (by omega),e3 t h];exact hs _ _ h4 h5 (by omega)
 ·subst h
  have:=hbs.below s h4 h5
  rw [e3 s h5,h1];omega
 ·rw [h2 t h (by omega)]
  have:=hbs.above (t-1) (by omega) (by omega)
  rcases Nat.lt_trichotomy s i with h'|h'|h'
  ·rw [e3 s h'];exact hs.le h4 (by omega) (by omega)
  ·subst h';rw [h1];omega
  ·rw [h2 s h' (by omega)];exact hs.le (by omega) (by omega) (by omega)
theorem merge_right(f:Nat)(ok:Ev→Prop)(hc:CmpBy f ok)(a m n cap g:Nat)(L:List Ev)(w:World)(h:RowE w g n cap L)(ham:a+1<m)(hbn:m+1≤n)(hok:∀x∈L,ok x)(hn:n≤1000000)(h1:Upto L a m):
  Calls Tryz.prog 138 #[.slice (some ⟨g,0,none⟩) n cap, .int .i64 a, .int .i64 m, .int .i64 (m+1:Nat), .func (.func f) #[] #[]] w (MergePost L g n cap a (m+1) w):=by
 have eg:=hc.eg
 have hcall:=hc.call
 simp only [Ev.agg] at hcall
 have q0:(((m:Int)-(a:Int))==1)=false:=by simp;omega
 have q1:((m+1:Nat):Int)-(m:Int)=1:=by omega
 obtain⟨b,hm⟩:∃b,m+1=b:=⟨_,rfl⟩
 rw [hm] at q1 hbn⊢
 have hmb:m<b:=by omega
 have hln:=h.2
 obtain⟨H,Hok,Hc,Hcall,H1,Hm⟩:=hid6 h hok hc hcall h1 hm;clear hm h1 hcall hc hok h
 go_enter Tryz.func138,Tryz.ntmps138
 go_wp2
 go_loopw [14,15] (fun x y wx=>∃(i j:Nat),x= .int .i64 (i:Nat)∧y= .int .i64 (j:Nat)∧Bs (fun t=>dy L m<dy L t) a m i j∧RowE wx g n cap L∧Keeps (fun i=>i=g) w wx) (fun x y _=>(intOf y).toNat-(intOf x).toNat)
 case atStart=>exact⟨a,m,rfl,rfl,Bs.start (by omega),H.out,Keeps.refl _ _⟩
 case round=>
  obtain⟨i,j,rfl,rfl,hbs,hrow,hk⟩:=hrel
  by_cases hlt:i<j
  ·have hltI:(i:Int)<(j:Int):=by omega
   have hbhi:=hbs.hi'
   have hblo:=hbs.lo'
   obtain⟨h,hh⟩:∃h:Nat,((i:Int)+j) / 2=h:=⟨(i+j) / 2,by omega⟩
   have hih:i≤h:=by omega
   have hhj:h<j:=by omega
   obtain⟨⟨x0,x1,x2,x3,x4⟩,hx⟩:=get_some (L:=L) (k:=m) (by omega)
   obtain⟨⟨y0,y1,y2,y3,y4⟩,hy⟩:=get_some (L:=L) (k:=h) (by omega)
   have okx:ok _:=Hok.out _ (List.mem_of_getElem? hx)
   have oky:ok _:=Hok.out _ (List.mem_of_getElem? hy)
   have hS:=twoS.of (hrow.keep (Keeps.drew _)) hx hy
   have hxd:=dy_of hx
   have hyd:=dy_of hy
   simp only at hxd hyd
   have q2:(h:Int)<(n:Int):=by omega
   have q3:(m:Int)<(n:Int):=by omega
   have hmono:∀s t,a≤s→s≤t→t<m→dy L m<dy L s→dy L m<dy L t:=fun s t h1 h2 h3 h4=>by have:=H1.out.le h1 h2 h3;omega
   have hcl:=fun W=>Hcall.out ⟨x0,x1,x2,x3,x4⟩ ⟨y0,y1,y2,y3,y4⟩ W okx oky
   simp only at hcl
   obtain⟨Hbs,Hrow,Hk,Hx,Hy,Okx,Oky,HS,Hxd⟩:=hid9 hbs hrow hk hx hy okx oky hS hxd;clear hxd hS oky okx hy hx hk hrow hbs;obtain⟨Hyd,Hmono,Hcl⟩:=hid3 hyd hmono hcl;clear hcl hmono hyd
   go_wp2_with fail
   try rw [hh]
   clear hh
   by_cases hd:x1<y1
   ·skip
    refine wp_region_mixw (twoS g m h x0 x1 x2 x3 x4 y0 y1 y2 y3 y4) (.take 0 (.take 1 (.take 2 (.take 3 (.take 4 (.take 5 (.take 6 (.take 7 (.take 8 (.move 9 (.take 10 (.take 11 .done)))))))))))) (by kernel_rfl) (by kernel_rfl) ?_ ?_
    ·exact HS.out
    intro w1 hs1 hk1
    repeat (first
     |(refine mix_skip rfl (by rfl) ?_;try simp only [Act.put,List.setIfInBounds_toArray,List.set_cons_zero,List.set_cons_succ])
     |(refine mix_skipm rfl (by rfl) ?_;try simp only [Act.put,List.setIfInBounds_toArray,List.set_cons_zero,List.set_cons_succ])
     |(refine mix_take (v:= ?_) rfl (by rfl) ?_ ?_;rotate_left;(· intro w' hSw;unfold twoS at hSw;go_simp;(try with_reducible rfl));rotate_right;try simp only [Act.put,List.setIfInBounds_toArray,List.set_cons_zero,List.set_cons_succ]))
    refine mix_move rfl (fun K hK=> ?_)
    go_simp
    go_at_fn f
    ((with_reducible refine(Hcl.out w1).mono ?_);rintro e w2 ⟨z,rfl,hz,hk2⟩;dsimp only)
    have hz':z<0:=hz.2 hd
    refine hK.out _ _ (by exact hs1.keep hk2 (by simp)) ?_
    clear hK K
    try simp only [Act.put,List.setIfInBounds_toArray,List.set_cons_zero,List.set_cons_succ]
    repeat (first
     |(refine mix_skip rfl (by rfl) ?_;try simp only [Act.put,List.setIfInBounds_toArray,List.set_cons_zero,List.set_cons_succ])
     |(refine mix_skipm rfl (by rfl) ?_;try simp only [Act.put,List.setIfInBounds_toArray,List.set_cons_zero,List.set_cons_succ])
     |(refine mix_take (v:= ?_) rfl (by rfl) ?_ ?_;rotate_left;(· intro w' hSw;unfold twoS at hSw;go_simp;(try with_reducible rfl));rotate_right;try simp only [Act.put,List.setIfInBounds_toArray,List.set_cons_zero,List.set_cons_succ]))
    refine mix_done ?_
    have hrow2:=(Hrow.out.keep hk1).keep hk2
    have hkw:=(Hk.out.trans (hk1.mono (by simp))).trans (hk2.mono (by simp))
    have hb2:=Hbs.out.down Hmono.out hih hhj (by rw [Hxd.out,Hyd.out];omega)
    clear hs1 hz
    obtain⟨Hk1,Hk2,Hrow2,Hkw,Hb2⟩:=hid5 hk1 hk2 hrow2 hkw hb2;clear hb2 hkw hrow2 hk2 hk1
    go_wp2_with fail
    go_roundw
    case rel=>exact⟨i,h,rfl,rfl,Hb2.out,Hrow2.out,Hkw.out⟩
    case measure=>simp [intOf];omega
   ·skip
    refine wp_region_mixw (twoS g m h x0 x1 x2 x3 x4 y0 y1 y2 y3 y4) (.take 0 (.take 1 (.take 2 (.take 3 (.take 4 (.take 5 (.take 6 (.take 7 (.take 8 (.move 9 (.take 10 (.take 11 .done)))))))))))) (by kernel_rfl) (by kernel_rfl) ?_ ?_
    ·exact HS.out
    intro w1 hs1 hk1
    repeat (first
     |(refine mix_skip rfl (by rfl) ?_;try simp only [Act.put,List.setIfInBounds_toArray,List.set_cons_zero,List.set_cons_succ])
     |(refine mix_skipm rfl (by rfl) ?_;try simp only [Act.put,List.setIfInBounds_toArray,List.set_cons_zero,List.set_cons_succ])
     |(refine mix_take (v:= ?_) rfl (by rfl) ?_ ?_;rotate_left;(· intro w' hSw;unfold twoS at hSw;go_simp;(try with_reducible rfl));rotate_right;try simp only [Act.put,List.setIfInBounds_toArray,List.set_cons_zero,List.set_cons_succ]))
    refine mix_move rfl (fun K hK=> ?_)
    go_simp
    go_at_fn f
    ((with_reducible refine(Hcl.out w1).mono ?_);rintro e w2 ⟨z,rfl,hz,hk2⟩;dsimp only)
    have hz':¬z<0:=fun h=>by have:=hz.1 h;omega
    refine hK.out _ _ (by exact hs1.keep hk2 (by simp)) ?_
    clear hK K
    try simp only [Act.put,List.setIfInBounds_toArray,List.set_cons_zero,List.set_cons_succ]
    repeat (first
     |(refine mix_skip rfl (by rfl) ?_;try simp only [Act.put,List.setIfInBounds_toArray,List.set_cons_zero,List.set_cons_succ])
     |(refine mix_skipm rfl (by rfl) ?_;try simp only [Act.put,List.setIfInBounds_toArray,List.set_cons_zero,List.set_cons_succ])
     |(refine mix_take (v:= ?_) rfl (by rfl) ?_ ?_;rotate_left;(· intro w' hSw;unfold twoS at hSw;go_simp;(try with_reducible rfl));rotate_right;try simp only [Act.put,List.setIfInBounds_toArray,List.set_cons_zero,List.set_cons_succ]))
    refine mix_done ?_
    have hrow2:=(Hrow.out.keep hk1).keep hk2
    have hkw:=(Hk.out.trans (hk1.mono (by simp))).trans (hk2.mono (by simp))
    have hb2:=Hbs.out.up Hmono.out hih hhj (by rw [Hxd.out,Hyd.out];omega)
    clear hs1 hz
    obtain⟨Hk1,Hk2,Hrow2,Hkw,Hb2⟩:=hid5 hk1 hk2 hrow2 hkw hb2;clear hb2 hkw hrow2 hk2 hk1
    go_wp2_with fail
    go_roundw
    case rel=>exact⟨h+1,j,by go_num,rfl,Hb2.out,Hrow2.out,Hkw.out⟩
    case measure=>simp [intOf];omega
  ·obtain rfl:j=i:=by have:=hbs.le;omega
   have hbhi:=hbs.hi'
   have hblo:=hbs.lo'
   obtain⟨W1,hW1⟩:∃x,x=wr:=⟨_,rfl⟩;subst hW1
   obtain⟨Hbs,Hrow,Hk⟩:=hid3 hbs hrow hk;clear hk hrow hbs
   go_wp2
   go_loopw [17] (fun x wx=>∃(k:Nat) (Y:List Ev),x= .int .i64 (k:Nat)∧j≤k∧k≤m∧Turned L Y a b∧dy Y k=dy L m∧(∀t,k<t→t≤m→dy Y t=dy L (t-1))∧(∀t,t<k→Y[t]?=L[t]?)∧RowE wx g n cap Y∧Keeps (fun i=>i=g) w wx) (fun x _=>(intOf x).toNat)
   case atStart=>exact⟨m,L,rfl,by omega,Nat.le_refl _,Turned.refl _ _ _,rfl,fun t h1 h2=>by omega,fun _ _=>rfl,Hrow.out,Hk.out⟩
   case round=>
    obtain⟨k,Y,rfl,hak,hkj,ht,e1,e2,e3,hrow,hk⟩:=hrel
    have hYn:=hrow.2
    by_cases hlt:j<k
    ·obtain⟨p,rfl⟩:∃p,k=p+1:=⟨k-1,by omega⟩
     have hltI:(j:Int)<(p:Int)+1:=by omega
     obtain⟨⟨x0,x1,x2,x3,x4⟩,hx⟩:=get_some (L:=Y) (k:=p+1) (by omega)
     obtain⟨⟨y0,y1,y2,y3,y4⟩,hy⟩:=get_some (L:=Y) (k:=p) (by omega)
     have habv:=Hbs.out.above p (by omega) (by omega)
     have hd:dy Y (p+1)<dy Y p:=by rw [e1,dy_congr (e3 p (by omega))];omega
     have hstep:=right_step e1 e2 e3 (by omega)
     have htn:=ht.trans (swp_turned (X:=Y) (i:=p) (a:=a) (b:=b) (by omega) (by omega) (by omega) hd)
     obtain⟨c0,c1,c2,c3,c4⟩:=(hrow).cells hx
     obtain⟨d0,d1,d2,d3,d4⟩:=(hrow).cells hy
     have fa0:(wr).frozen? ⟨g,(p+1)*5,none⟩=false:=(hrow).free _
     have fa1:(wr).frozen? ⟨g,(p+1)*5+1,none⟩=false:=(hrow).free _
     have fa2:(wr).frozen? ⟨g,(p+1)*5+2,none⟩=false:=(hrow).free _
     have fa3:(wr).frozen? ⟨g,(p+1)*5+3,none⟩=false:=(hrow).free _
     have fa4:(wr).frozen? ⟨g,(p+1)*5+4,none⟩=false:=(hrow).free _
     have fb0:(wr).frozen? ⟨g,(p)*5,none⟩=false:=(hrow).free _
     have fb1:(wr).frozen? ⟨g,(p)*5+1,none⟩=false:=(hrow).free _
     have fb2:(wr).frozen? ⟨g,(p)*5+2,none⟩=false:=(hrow).free _
     have fb3:(wr).frozen? ⟨g,(p)*5+3,none⟩=false:=(hrow).free _
     have fb4:(wr).frozen? ⟨g,(p)*5+4,none⟩=false:=(hrow).free _
     have hrow3:=(hrow.swp hx hy).keep (Keeps.drew _)
     rw [swp_comm Y p (by omega)] at hrow3
     have hk3:=hk.same (((putE_keeps wr g (p+1) y0 y1 y2 y3 y4).same (putE_keeps _ g p x0 x1 x2 x3 x4)).same (Keeps.drew _))
     unfold putE at hrow3 hk3
     have p0:(0:Int)≤(p:Int)+1:=by omega
     have p1:(p:Int)+1<(n:Int):=by omega
     have p2:(p:Int)<(n:Int):=by omega
     have p3:((p:Int)+1).toNat=p+1:=by omega
     have p4:IntKind.i64.wrap (p:Int)=(p:Int):=IntWalk.i64_in _ ⟨by omega,by omega⟩
     obtain⟨Hrow,Hk,Hx,Hy,Habv,Hd,Hstep,Htn,Ht⟩:=hid9 hrow hk hx hy habv hd hstep htn ht;clear ht htn hstep hd habv hy hx hk hrow;obtain⟨E1,E2,E3,Hrow3,Hk3⟩:=hid5 e1 e2 e3 hrow3 hk3;clear hk3 hrow3 e3 e2 e1
     go_wp2_with fail
     go_region
     all_goals go_wp2_with fail
     all_goals go_roundw
     case rel=>exact⟨p,_,by go_num,by omega,by omega,Htn.out,Hstep.out.1,Hstep.out.2.1,Hstep.out.2.2,Hrow3.out,Hk3.out⟩
     case measure=>simp [intOf]
    ·obtain rfl:k=j:=by omega
     have hup:Upto Y a b:=by rw [←Hm.out];exact right_done e1 e2 e3 H1.out Hbs.out
     obtain⟨Ht,E1,E2,E3,Hrow,Hk,Hup⟩:=hid7 ht e1 e2 e3 hrow hk hup;clear hup hk hrow e3 e2 e1 ht
     go_wp2
     go_end0
     exact⟨rfl,Y,Ht.out,Hup.out,Hrow.out,Hk.out⟩
structure Sym(L:List Ev)(a m b mid s0 fin:Nat):Prop where
 al:a≤s0
 sm:s0≤m
 mf:m≤fin
 fb:fin≤b
 smid:s0≤mid
 midf:mid≤fin
 sum:s0+fin=mid+m
 vu:∀s t,s0≤s→s<m→m≤t→t<fin→dy L t<dy L s
 ab:∀s t,a≤s→s<s0→fin≤t→t<b→dy L s≤dy L t
theorem sym_of{L:List Ev}{a m b mid lo hi s0:Nat}(h1:Upto L a m)(h2:Upto L m b)(ham:a<m)(hmb:m<b)(hmid:mid=(a+b) / 2)
  (hlh:(mid<m∧lo+b=mid+m∧hi=mid)∨(m≤mid∧lo=a∧hi=m)) (hbs:Bs (fun c=>dy L (mid+m-1-c)<dy L c) lo hi s0 s0):Sym L a m b mid s0 (mid+m-s0):=by
 have e1:=hbs.lo'
 have e2:=hbs.hi'
 refine⟨by omega,by omega,by omega,by omega,by omega,by omega,by omega,fun s t h3 h4 h5 h6=> ?_,fun s t h3 h4 h5 h6=> ?_⟩
 ·have:=hbs.above s0 (Nat.le_refl _) (by omega)
  have k1:=h1.le (s:=s0) (t:=s) (by omega) h3 h4
  have k2:=h2.le (s:=t) (t:=mid+m-1-s0) h5 (by omega) (by omega)
  omega
 ·have:=hbs.below (s0-1) (by omega) (by omega)
  have k1:=h1.le (s:=s) (t:=s0-1) h3 (by omega) (by omega)
  have k2:=h2.le (s:=mid+m-1-(s0-1)) (t:=t) (by omega) (by omega) h6
  omega
theorem sym_mono{L:List Ev}{a m b mid lo hi:Nat}(h1:Upto L a m)(h2:Upto L m b)(ham:a<m)(hmb:m<b)(hmid:mid=(a+b) / 2)
  (hlh:(mid<m∧lo+b=mid+m∧hi=mid)∨(m≤mid∧lo=a∧hi=m)):∀s t,lo≤s→s≤t→t<hi→dy L (mid+m-1-s)<dy L s→dy L (mid+m-1-t)<dy L t:=fun s t h3 h4 h5 h6=>by
 have k1:=h1.le (s:=s) (t:=t) (by omega) h4 (by omega)
 have k2:=h2.le (s:=mid+m-1-t) (t:=mid+m-1-s) (by omega) (by omega) (by omega)
 omega
structure Rot(L X:List Ev)(a m b mid s0 fin:Nat):Prop where
 t:Turned L X a b
 lo:∀i,i<s0→X[i]?=L[i]?
 v:∀i,s0≤i→i<mid→dy X i=dy L (i+(m-s0))
 u:∀i,mid≤i→i<fin→dy X i=dy L (i-(fin-m))
 hi:∀i,fin≤i→X[i]?=L[i]?
theorem split4(L:List Ev){s0 m fin:Nat}(h1:s0≤m)(h2:m≤fin)(h3:fin≤L.length):∃P U V S,L=P++U++V++S∧P.length=s0∧U.length=m-s0∧V.length=fin-m:=by
 refine⟨L.take s0,(L.take m).drop s0,(L.take fin).drop m,L.drop fin, ?_, ?_, ?_, ?_⟩
 ·have e1:L.take s0++(L.take m).drop s0=L.take m:=by
   conv=>rhs;rw [←List.take_append_drop s0 (L.take m)]
   rw [List.take_take,Nat.min_eq_left h1]
  have e2:L.take m++(L.take fin).drop m=L.take fin:=by
   conv=>rhs;rw [←List.take_append_drop m (L.take fin)]
   rw [List.take_take,Nat.min_eq_left h2]
  rw [e1,e2,List.take_append_drop]
 ·rw [List.length_take];omega
 ·rw [List.length_drop,List.length_take];omega
 ·rw [List.length_drop,List.length_take];omega
theorem rot_of{P U V S:List Ev}{a m b mid s0 fin:Nat}(hs:Sym (P++U++V++S) a m b mid s0 fin)(hP:P.length=s0)(hU:U.length=m-s0)(hV:V.length=fin-m):Rot (P++U++V++S) (P++V++U++S) a m b mid s0 fin:=by
 obtain⟨k1,k2,k3,k4,k5,k6,k7,hvu,_⟩:=hs
 have gL:∀i,(P++U++V++S)[i]?=if i<s0 then P[i]? else if i<m then U[i-s0]? else if i<fin then V[i-m]? else S[i-fin]?:=fun i=>by
  simp only [List.getElem?_append,List.length_append,hP,hU,hV]
  repeat' split
  all_goals first|(exfalso;omega)|rfl|(congr 1;omega)
 have gX:∀i,(P++V++U++S)[i]?=if i<s0 then P[i]? else if i<mid then V[i-s0]? else if i<fin then U[i-mid]? else S[i-fin]?:=fun i=>by
  simp only [List.getElem?_append,List.length_append,hP,hU,hV]
  repeat' split
  all_goals first|(exfalso;omega)|rfl|(congr 1;omega)
 refine⟨⟨by simp only [List.length_append];omega,fun i hi=> ?_, ?_⟩,fun i hi=> ?_,fun i h1 h2=> ?_,fun i h1 h2=> ?_,fun i hi=> ?_⟩
 ·rw [gL,gX]
  rcases hi with h|h
  ·rw [if_pos (by omega),if_pos (by omega)]
  ·rw [if_neg (by omega),if_neg (by omega),if_neg (by omega),if_neg (by omega),if_neg (by omega),if_neg (by omega)]
 ·rw [List.append_assoc P V U,List.append_assoc P U V]
  refine Alike.app (Alike.app (Alike.refl _) (Alike.turn fun u hu v hv=> ?_)) (Alike.refl _)
  obtain⟨i,hi,he⟩:=List.getElem_of_mem hu
  obtain⟨j,hj,he'⟩:=List.getElem_of_mem hv
  have h1:=hvu (s0+i) (m+j) (by omega) (by omega) (by omega) (by omega)
  rwa [dy_of (x:=v) (by rw [gL,if_neg (by omega),if_neg (by omega),if_pos (by omega),Nat.add_sub_cancel_left,List.getElem?_eq_getElem hj,he']),dy_of (x:=u) (by rw [gL,if_neg (by omega),if_pos (by omega),Nat.add_sub_cancel_left,List.getElem?_eq_getElem hi,he])] at h1
 ·rw [gL,gX,if_pos hi,if_pos hi]
 ·refine dy_congr ?_
  rw [gL,gX,if_neg (by omega),if_pos h2,if_neg (by omega),if_neg (by omega),if_pos (by omega)]
  congr 1;omega
 ·refine dy_congr ?_
  rw [gL,gX,if_neg (by omega),if_neg (by omega),if_pos h2,if_neg (by omega),if_pos (by omega)]
  congr 1;omega
 ·rw [gL,gX,if_neg (by omega),if_neg (by omega),if_neg (by omega),if_neg (by omega),if_neg (by omega),if_neg (by omega)]
theorem rot_none{L:List Ev}{a m b mid s0 fin:Nat}(hs:Sym L a m b mid s0 fin)(h:s0=m∨fin=m):Rot L L a m b mid s0 fin:=by
 obtain⟨k1,k2,k3,k4,k5,k6,k7,_,_⟩:=hs
 refine⟨Turned.refl _ _ _,fun _ _=>rfl,fun i h1 h2=> ?_,fun i h1 h2=> ?_,fun _ _=>rfl⟩
 ·exact dy_congr (by congr 1;omega)
 ·exact dy_congr (by congr 1;omega)
theorem Rot.left{L X:List Ev}{a m b mid s0 fin:Nat}(h:Rot L X a m b mid s0 fin)(hs:Sym L a m b mid s0 fin)(h1:Upto L a m)(h2:Upto L m b):Upto X a s0∧Upto X s0 mid:=by
 obtain⟨k1,k2,k3,k4,k5,k6,k7,_,_⟩:=hs
 refine⟨(h1.sub (Nat.le_refl _) k2).eq fun t _ ht=>h.lo t ht,fun s t h3 h4 h5=> ?_⟩
 rw [h.v s h3 (by omega),h.v t (by omega) h5]
 exact h2 _ _ (by omega) (by omega) (by omega)
theorem Rot.right{L X:List Ev}{a m b mid s0 fin:Nat}(h:Rot L X a m b mid s0 fin)(hs:Sym L a m b mid s0 fin)(h1:Upto L a m)(h2:Upto L m b):Upto X mid fin∧Upto X fin b:=by
 obtain⟨k1,k2,k3,k4,k5,k6,k7,_,_⟩:=hs
 refine⟨fun s t h3 h4 h5=> ?_,(h2.sub k3 (Nat.le_refl _)).eq fun t ht _=>h.hi t ht⟩
 rw [h.u s h3 (by omega),h.u t (by omega) h5]
 exact h1 _ _ (by omega) (by omega) (by omega)
theorem Rot.cross{L X:List Ev}{a m b mid s0 fin:Nat}(h:Rot L X a m b mid s0 fin)(hs:Sym L a m b mid s0 fin)(h1:Upto L a m)(h2:Upto L m b):∀s t,a≤s→s<mid→mid≤t→t<b→dy X s≤dy X t:=by
 obtain⟨k1,k2,k3,k4,k5,k6,k7,hvu,hab⟩:=hs
 intro s t h3 h4 h5 h6
 rcases Nat.lt_or_ge s s0 with hs|hs
 ·rw [dy_congr (h.lo s hs)]
  rcases Nat.lt_or_ge t fin with ht|ht
  ·rw [h.u t h5 ht];exact h1.le h3 (by omega) (by omega)
  ·rw [dy_congr (h.hi t ht)];exact hab s t h3 hs ht h6
 ·rw [h.v s hs h4]
  rcases Nat.lt_or_ge t fin with ht|ht
  ·rw [h.u t h5 ht];have:=hvu (t-(fin-m)) (s+(m-s0)) (by omega) (by omega) (by omega) (by omega);omega
  ·rw [dy_congr (h.hi t ht)];exact h2.le (by omega) (by omega) h6
theorem sym_done{X Y Z:List Ev}{a mid b:Nat}(hab:a≤mid)(hmb:mid≤b)(hb:b≤X.length)(hc:∀s t,a≤s→s<mid→mid≤t→t<b→dy X s≤dy X t)
  (h1:Turned X Y a mid) (h2:Upto Y a mid) (h3:Turned Y Z mid b) (h4:Upto Z mid b):Turned X Z a b∧Upto Z a b:=by
 refine⟨(h1.wide (Nat.le_refl _) hmb).trans (h3.wide hab (Nat.le_refl _)),fun s t h5 h6 h7=> ?_⟩
 have c1:∀s,a≤s→s<mid→∀t,mid≤t→t<b→dy Y s≤dy Y t:=fun s hs1 hs2 t ht1 ht2=>by
  rw [dy_congr (h1.out t (.inr ht1))]
  exact h1.bound (q:=fun v=>∀t,mid≤t→t<b→v≤dy X t) (by omega) (fun s hs1 hs2 t ht1 ht2=>hc s t hs1 hs2 ht1 ht2) s hs1 hs2 t ht1 ht2
 rcases Nat.lt_or_ge s mid with hs|hs
 ·rw [dy_congr (h3.out s (.inl hs))]
  rcases Nat.lt_or_ge t mid with ht|ht
  ·rw [dy_congr (h3.out t (.inl ht))];exact h2 s t h5 h6 ht
  ·exact h3.bound (q:=fun v=>dy Y s≤v) (by have:=h1.len;omega) (fun t ht1 ht2=>c1 s h5 hs t ht1 ht2) t ht h7
 ·exact h4 s t hs h6 h7
theorem halt{p:Prop}(h:Hid p):p:=h.out
def Half(a m b mid lo hi:Nat):Prop:=(mid<m∧lo+b=mid+m∧hi=mid)∨(m≤mid∧lo=a∧hi=m)
theorem rot_call{L:List Ev}{g n cap a m b mid s0 fin:Nat}{w:World}(fv:Value)(hrow:RowE w g n cap L)(hs:Sym L a m b mid s0 fin)(h1:s0<m)(h2:m<fin)(hn:n≤1000000)(hb:b≤n):
  ∃X,Rot L X a m b mid s0 fin∧Calls Tryz.prog 151 #[.slice (some ⟨g,0,none⟩) n cap, .int .i64 s0, .int .i64 m, .int .i64 fin,fv] w fun e w'=>e= .returned (.tuple #[])∧RowE w' g n cap X∧Keeps (fun i=>i=g) w w':=by
 have hl:=hrow.2
 have hf:=hs.fb
 obtain⟨P,U,V,S,rfl,hP,hU,hV⟩:=split4 L (s0:=s0) (m:=m) (fin:=fin) (by omega) (by omega) (by omega)
 refine⟨P++V++U++S,rot_of hs hP hU hV, ?_⟩
 exact rotEv_any P U V S g n cap s0 m fin fv w hrow (fun e=>by subst e;simp at hU;omega) (fun e=>by subst e;simp at hV;omega) hn hP.symm (by omega) (by omega)
theorem merge_mid1(f:Nat)(ok:Ev→Prop)(hc:CmpBy f ok)(d:Nat)(ih:MergeAt f ok d)(a m b n cap g:Nat)(L:List Ev)(w:World)(hd:b-a≤d+1)(h:RowE w g n cap L)(ham:a<m)(hmb:m<b)(ha1:¬m=a+1)(hb1:¬b=m+1)(hbn:b≤n)(hok:∀x∈L,ok x)(hn:n≤1000000)(h1:Upto L a m)(h2:Upto L m b)(mid:Nat)(hmid:mid=(a+b) / 2)(hmm:mid<m):
  Calls Tryz.prog 138 #[.slice (some ⟨g,0,none⟩) n cap, .int .i64 a, .int .i64 m, .int .i64 b, .func (.func f) #[] #[]] w (MergePost L g n cap a b w):=by
 have eg:=hc.eg
 have hcall:=hc.call
 simp only [Ev.agg] at hcall
 have q0:(((m:Int)-(a:Int))==1)=false:=by simp;omega
 have q1:(((b:Int)-(m:Int))==1)=false:=by simp;omega
 have hln:=h.2
 have hmI:((a:Int)+b) / 2=mid:=by omega
 have hamid:a<mid:=by omega
 have hmidb:mid<b:=by omega
 obtain⟨p,hp⟩:∃p,mid+m-1=p:=⟨_,rfl⟩
 have hpI:(mid:Int)+m-1=p:=by omega
 obtain⟨lo,hlo⟩:∃lo,mid+m-b=lo:=⟨_,rfl⟩
 have hloI:(mid:Int)+m-b=lo:=by omega
 have hlh:Half a m b mid lo mid:= .inl ⟨hmm,by omega,rfl⟩
 obtain⟨H,Hok,Hc,Hcall,H1,H2,Hmid,Hp,Ih⟩:=hid9 h hok hc hcall h1 h2 hmid hp ih;clear ih hp hmid h2 h1 hcall hc hok h;have Hlh:=Lib.hid hlh;clear hlh
 go_enter Tryz.func138,Tryz.ntmps138
 go_wp2
 go_loopw [20,21] (fun x y wx=>∃(i j:Nat),x= .int .i64 (i:Nat)∧y= .int .i64 (j:Nat)∧Bs (fun c=>dy L (p-c)<dy L c) lo mid i j∧RowE wx g n cap L∧Keeps (fun i=>i=g) w wx) (fun x y _=>(intOf y).toNat-(intOf x).toNat)
 case atStart=>exact⟨lo,mid,by go_num,by go_num,Bs.start (by omega),H.out,Keeps.refl _ _⟩
 case round=>
  obtain⟨i,j,rfl,rfl,hbs,hrow,hk⟩:=hrel
  by_cases hlt:i<j
  ·have hltI:(i:Int)<(j:Int):=by omega
   have hbhi:=hbs.hi'
   have hblo:=hbs.lo'
   obtain⟨h,hh⟩:∃h:Nat,((i:Int)+j) / 2=h:=⟨(i+j) / 2,by omega⟩
   have hih:i≤h:=by omega
   have hhj:h<j:=by omega
   obtain⟨q,hq⟩:∃q,p-h=q:=⟨_,rfl⟩
   have hqI:(p:Int)-(h:Int)=q:=by omega
   have hqn:q<n:=by omega
   obtain⟨⟨x0,x1,x2,x3,x4⟩,hx⟩:=get_some (L:=L) (k:=q) (by omega)
   obtain⟨⟨y0,y1,y2,y3,y4⟩,hy⟩:=get_some (L:=L) (k:=h) (by omega)
   have okx:ok _:=Hok.out _ (List.mem_of_getElem? hx)
   have oky:ok _:=Hok.out _ (List.mem_of_getElem? hy)
   have hS:=twoS.of (hrow.keep (Keeps.drew _)) hx hy
   have hxd:=dy_of hx
   have hyd:=dy_of hy
   simp only at hxd hyd
   have q2:(h:Int)<(n:Int):=by omega
   have q3:(q:Int)<(n:Int):=by omega
   have q5:IntKind.i64.wrap (q:Int)=(q:Int):=IntWalk.i64_in _ ⟨by omega,by omega⟩
   have hmono:=sym_mono (lo:=lo) (hi:=mid) H1.out H2.out ham hmb Hmid.out Hlh.out
   rw [Hp.out] at hmono
   have hcl:=fun W=>Hcall.out ⟨x0,x1,x2,x3,x4⟩ ⟨y0,y1,y2,y3,y4⟩ W okx oky
   simp only at hcl
   obtain⟨Hbs,Hrow,Hk,Hx,Hy,Okx,Oky,HS,Hxd⟩:=hid9 hbs hrow hk hx hy okx oky hS hxd;clear hxd hS oky okx hy hx hk hrow hbs;obtain⟨Hyd,Hmono,Hcl,Hq⟩:=hid4 hyd hmono hcl hq;clear hq hcl hmono hyd
   go_wp2_with fail
   try rw [hh]
   clear hh
   by_cases hlt2:x1<y1
   ·skip
    refine wp_region_mixw (twoS g q h x0 x1 x2 x3 x4 y0 y1 y2 y3 y4) (.take 0 (.take 1 (.take 2 (.take 3 (.take 4 (.take 5 (.take 6 (.take 7 (.take 8 (.take 9 (.take 10 (.move 11 (.take 12 (.take 13 .done)))))))))))))) (by kernel_rfl) (by kernel_rfl) ?_ ?_
    ·exact HS.out
    intro w1 hs1 hk1
    repeat (first
     |(refine mix_skip rfl (by rfl) ?_;try simp only [Act.put,List.setIfInBounds_toArray,List.set_cons_zero,List.set_cons_succ])
     |(refine mix_skipm rfl (by rfl) ?_;try simp only [Act.put,List.setIfInBounds_toArray,List.set_cons_zero,List.set_cons_succ])
     |(refine mix_take (v:= ?_) rfl (by rfl) ?_ ?_;rotate_left;(· intro w' hSw;unfold twoS at hSw;go_simp;(try with_reducible rfl));rotate_right;try simp only [Act.put,List.setIfInBounds_toArray,List.set_cons_zero,List.set_cons_succ]))
    refine mix_move rfl (fun K hK=> ?_)
    go_simp
    go_at_fn f
    ((with_reducible refine(Hcl.out w1).mono ?_);rintro e w2 ⟨z,rfl,hz,hk2⟩;dsimp only)
    have hz':z<0:=hz.2 hlt2
    refine hK.out _ _ (by exact hs1.keep hk2 (by simp)) ?_
    clear hK K
    try simp only [Act.put,List.setIfInBounds_toArray,List.set_cons_zero,List.set_cons_succ]
    repeat (first
     |(refine mix_skip rfl (by rfl) ?_;try simp only [Act.put,List.setIfInBounds_toArray,List.set_cons_zero,List.set_cons_succ])
     |(refine mix_skipm rfl (by rfl) ?_;try simp only [Act.put,List.setIfInBounds_toArray,List.set_cons_zero,List.set_cons_succ])
     |(refine mix_take (v:= ?_) rfl (by rfl) ?_ ?_;rotate_left;(· intro w' hSw;unfold twoS at hSw;go_simp;(try with_reducible rfl));rotate_right;try simp only [Act.put,List.setIfInBounds_toArray,List.set_cons_zero,List.set_cons_succ]))
    refine mix_done ?_
    have hrow2:=(Hrow.out.keep hk1).keep hk2
    have hkw:=(Hk.out.trans (hk1.mono (by simp))).trans (hk2.mono (by simp))
    have hb2:=Hbs.out.down Hmono.out hih hhj (by rw [Hq.out,Hxd.out,Hyd.out];omega)
    clear hs1 hz
    obtain⟨Hk1,Hk2,Hrow2,Hkw,Hb2⟩:=hid5 hk1 hk2 hrow2 hkw hb2;clear hb2 hkw hrow2 hk2 hk1
    go_wp2_with fail
    go_roundw
    case rel=>exact⟨i,h,rfl,rfl,Hb2.out,Hrow2.out,Hkw.out⟩
    case measure=>simp [intOf];omega
   ·skip
    refine wp_region_mixw (twoS g q h x0 x1 x2 x3 x4 y0 y1 y2 y3 y4) (.take 0 (.take 1 (.take 2 (.take 3 (.take 4 (.take 5 (.take 6 (.take 7 (.take 8 (.take 9 (.take 10 (.move 11 (.take 12 (.take 13 .done)))))))))))))) (by kernel_rfl) (by kernel_rfl) ?_ ?_
    ·exact HS.out
    intro w1 hs1 hk1
    repeat (first
     |(refine mix_skip rfl (by rfl) ?_;try simp only [Act.put,List.setIfInBounds_toArray,List.set_cons_zero,List.set_cons_succ])
     |(refine mix_skipm rfl (by rfl) ?_;try simp only [Act.put,List.setIfInBounds_toArray,List.set_cons_zero,List.set_cons_succ])
     |(refine mix_take (v:= ?_) rfl (by rfl) ?_ ?_;rotate_left;(· intro w' hSw;unfold twoS at hSw;go_simp;(try with_reducible rfl));rotate_right;try simp only [Act.put,List.setIfInBounds_toArray,List.set_cons_zero,List.set_cons_succ]))
    refine mix_move rfl (fun K hK=> ?_)
    go_simp
    go_at_fn f
    ((with_reducible refine(Hcl.out w1).mono ?_);rintro e w2 ⟨z,rfl,hz,hk2⟩;dsimp only)
    have hz':¬z<0:=fun h=>by have:=hz.1 h;omega
    refine hK.out _ _ (by exact hs1.keep hk2 (by simp)) ?_
    clear hK K
    try simp only [Act.put,List.setIfInBounds_toArray,List.set_cons_zero,List.set_cons_succ]
    repeat (first
     |(refine mix_skip rfl (by rfl) ?_;try simp only [Act.put,List.setIfInBounds_toArray,List.set_cons_zero,List.set_cons_succ])
     |(refine mix_skipm rfl (by rfl) ?_;try simp only [Act.put,List.setIfInBounds_toArray,List.set_cons_zero,List.set_cons_succ])
     |(refine mix_take (v:= ?_) rfl (by rfl) ?_ ?_;rotate_left;(· intro w' hSw;unfold twoS at hSw;go_simp;(try with_reducible rfl));rotate_right;try simp only [Act.put,List.setIfInBounds_toArray,List.set_cons_zero,List.set_cons_succ]))
    refine mix_done ?_
    have hrow2:=(Hrow.out.keep hk1).keep hk2
    have hkw:=(Hk.out.trans (hk1.mono (by simp))).trans (hk2.mono (by simp))
    have hb2:=Hbs.out.up Hmono.out hih hhj (by rw [Hq.out,Hxd.out,Hyd.out];omega)
    clear hs1 hz
    obtain⟨Hk1,Hk2,Hrow2,Hkw,Hb2⟩:=hid5 hk1 hk2 hrow2 hkw hb2;clear hb2 hkw hrow2 hk2 hk1
    go_wp2_with fail
    go_roundw
    case rel=>exact⟨h+1,j,by go_num,rfl,Hb2.out,Hrow2.out,Hkw.out⟩
    case measure=>simp [intOf];omega
  ·obtain rfl:j=i:=by have:=hbs.le;omega
   rw [←Hp.out] at hbs
   have hsym:=sym_of (lo:=lo) (hi:=mid) H1.out H2.out ham hmb Hmid.out Hlh.out hbs
   obtain⟨fin,hfin⟩:∃fin,mid+m-j=fin:=⟨_,rfl⟩
   rw [hfin] at hsym
   have z1:=hsym.al
   have z2:=hsym.sm
   have z3:=hsym.mf
   have z4:=hsym.fb
   have z5:=hsym.smid
   have z6:=hsym.midf
   have z7:=hsym.sum
   have hfI:(mid:Int)+m-j=fin:=by omega
   obtain⟨W1,hW1⟩:∃x,x=wr:=⟨_,rfl⟩;subst hW1
   obtain⟨Hbs,Hrow,Hk,Hsym,Hfin⟩:=hid5 hbs hrow hk hsym hfin;clear hfin hsym hk hrow hbs
   by_cases hR:j<m∧m<fin
   ·have hR1:(j:Int)<(m:Int):=by omega
    have hR2:(m:Int)<(fin:Int):=by omega
    obtain⟨X,hrot,hcR⟩:=rot_call (.func (.func f) #[] #[]) Hrow.out Hsym.out hR.1 hR.2 hn hbn
    obtain⟨Hrot,HcR⟩:=hid2 hrot hcR;clear hcR hrot
    go_wp2_with (go_at_call 151;(with_reducible refine HcR.out.mono ?_);rintro e w2 ⟨rfl,hrow2,hk2⟩;have Hrow2:=Lib.hid hrow2;have Hk2:=Lib.hid (Hk.out.same hk2);clear hrow2 hk2;refine halt ?_)
    refine Lib.hid ?_
    have hrl:=Hrot.out.left Hsym.out H1.out H2.out
    have hrr:=Hrot.out.right Hsym.out H1.out H2.out
    have hcr:=Hrot.out.cross Hsym.out H1.out H2.out
    obtain⟨Hrl,Hrr,Hcr⟩:=hid3 hrl hrr hcr;clear hcr hrr hrl
    by_cases hA:a<j∧j<mid
    ·have hA1:(a:Int)<(j:Int):=by omega
     have hA2:(j:Int)<(mid:Int):=by omega
     have hcA:=Ih.out a j mid n cap g X w2 (by omega) Hrow2.out (by omega) (by omega) (by omega) (fun x hx=>Hok.out x (Hrot.out.t.alike.mem hx)) hn Hrl.out.1 Hrl.out.2
     have HcA:=Lib.hid hcA;clear hcA
     go_wp2_with (first|(go_at_call 138;(with_reducible refine HcA.out.mono ?_);rintro e w3 ⟨rfl,Y,htY,huY,hrow3,hk3⟩;have HtY:=Lib.hid htY;have HuY:=Lib.hid huY;have Hrow3:=Lib.hid hrow3;have Hk3:=Lib.hid (Hk2.out.same hk3);clear htY huY hrow3 hk3;refine halt ?_))
     refine Lib.hid ?_
     by_cases hB:fin<b∧mid<fin
     ·have hB1:(mid:Int)<(fin:Int):=by omega
      have hB2:(fin:Int)<(b:Int):=by omega
      have hcB:=Ih.out mid fin b n cap g Y w3 (by omega) Hrow3.out (by omega) (by omega) hbn (fun x hx=>Hok.out x (Hrot.out.t.alike.mem (HtY.out.alike.mem hx))) hn
       ((Hrr.out.1.eq fun t h1 h2=>HtY.out.out t (.inr h1))) ((Hrr.out.2.eq fun t h1 h2=>HtY.out.out t (.inr (by omega))))
      have HcB:=Lib.hid hcB;clear hcB
      go_wp2_with (go_at_call 138;(with_reducible refine HcB.out.mono ?_);rintro e w4 ⟨rfl,Z,htZ,huZ,hrow4,hk4⟩;have HtZ:=Lib.hid htZ;have HuZ:=Lib.hid huZ;have Hrow4:=Lib.hid hrow4;have Hk4:=Lib.hid hk4;clear htZ huZ hrow4 hk4)
      go_end0
      have hd:=sym_done (X:=X) (by omega) (by omega) (by have:=Hrot.out.t.len;omega) Hcr.out HtY.out HuY.out HtZ.out HuZ.out
      exact⟨rfl,Z,Hrot.out.t.trans hd.1,hd.2,Hrow4.out,Hk3.out.same Hk4.out⟩
     ·have huZ:Upto Y mid b:=by
       have e1:=Hrr.out
       by_cases hB3:mid<fin
       ·exact(e1.1.sub (Nat.le_refl _) (by omega)).eq fun t h1 h2=>HtY.out.out t (.inr h1)
       ·exact(e1.2.sub (by omega) (Nat.le_refl _)).eq fun t h1 h2=>HtY.out.out t (.inr h1)
      have HuZ:=Lib.hid huZ;clear huZ
      by_cases hB3:(mid:Int)<(fin:Int)
      ·have hB4:¬(fin:Int)<(b:Int):=by omega
       go_wp2
       go_end0
       have hd:=sym_done (X:=X) (by omega) (by omega) (by have:=Hrot.out.t.len;omega) Hcr.out HtY.out HuY.out (Turned.refl _ _ _) HuZ.out
       exact⟨rfl,Y,Hrot.out.t.trans hd.1,hd.2,Hrow3.out,Hk3.out⟩
      ·go_wp2
       go_end0
       have hd:=sym_done (X:=X) (by omega) (by omega) (by have:=Hrot.out.t.len;omega) Hcr.out HtY.out HuY.out (Turned.refl _ _ _) HuZ.out
       exact⟨rfl,Y,Hrot.out.t.trans hd.1,hd.2,Hrow3.out,Hk3.out⟩
    ·have huY:Upto X a mid:=by
      by_cases hA3:a<j
      ·exact Hrl.out.1.sub (Nat.le_refl _) (by omega)
      ·exact Hrl.out.2.sub (by omega) (Nat.le_refl _)
     obtain⟨Y,hY⟩:∃Y,Y=X:=⟨_,rfl⟩
     obtain⟨w3,hw3⟩:∃w3,w3=w2:=⟨_,rfl⟩
     have htY:Turned X Y a mid:=by rw [hY];exact Turned.refl _ _ _
     have hrow3:RowE w3 g n cap Y:=by rw [hY,hw3];exact Hrow2.out
     have hk3:Keeps (fun i=>i=g) w w3:=by rw [hw3];exact Hk2.out
     rw [←hY] at huY
     rw [←hw3]
     obtain⟨HuY,HtY,Hrow3,Hk3,HY,Hw3⟩:=hid6 huY htY hrow3 hk3 hY hw3;clear hw3 hY hk3 hrow3 htY huY
     by_cases hA3:(a:Int)<(j:Int)
     ·have hA4:¬(j:Int)<(mid:Int):=by omega
      by_cases hB:fin<b∧mid<fin
      ·have hB1:(mid:Int)<(fin:Int):=by omega
       have hB2:(fin:Int)<(b:Int):=by omega
       have hcB:=Ih.out mid fin b n cap g Y w3 (by omega) Hrow3.out (by omega) (by omega) hbn (fun x hx=>Hok.out x (Hrot.out.t.alike.mem (HtY.out.alike.mem hx))) hn
        ((Hrr.out.1.eq fun t h1 h2=>HtY.out.out t (.inr h1))) ((Hrr.out.2.eq fun t h1 h2=>HtY.out.out t (.inr (by omega))))
       have HcB:=Lib.hid hcB;clear hcB
       go_wp2_with (go_at_call 138;(with_reducible refine HcB.out.mono ?_);rintro e w4 ⟨rfl,Z,htZ,huZ,hrow4,hk4⟩;have HtZ:=Lib.hid htZ;have HuZ:=Lib.hid huZ;have Hrow4:=Lib.hid hrow4;have Hk4:=Lib.hid hk4;clear htZ huZ hrow4 hk4)
       go_end0
       have hd:=sym_done (X:=X) (by omega) (by omega) (by have:=Hrot.out.t.len;omega) Hcr.out HtY.out HuY.out HtZ.out HuZ.out
       exact⟨rfl,Z,Hrot.out.t.trans hd.1,hd.2,Hrow4.out,Hk3.out.same Hk4.out⟩
      ·have huZ:Upto Y mid b:=by
        have e1:=Hrr.out
        by_cases hB3:mid<fin
        ·exact(e1.1.sub (Nat.le_refl _) (by omega)).eq fun t h1 h2=>HtY.out.out t (.inr h1)
        ·exact(e1.2.sub (by omega) (Nat.le_refl _)).eq fun t h1 h2=>HtY.out.out t (.inr h1)
       have HuZ:=Lib.hid huZ;clear huZ
       by_cases hB3:(mid:Int)<(fin:Int)
       ·have hB4:¬(fin:Int)<(b:Int):=by omega
        go_wp2
        go_end0
        have hd:=sym_done (X:=X) (by omega) (by omega) (by have:=Hrot.out.t.len;omega) Hcr.out HtY.out HuY.out (Turned.refl _ _ _) HuZ.out
        exact⟨rfl,Y,Hrot.out.t.trans hd.1,hd.2,Hrow3.out,Hk3.out⟩
       ·go_wp2
        go_end0
        have hd:=sym_done (X:=X) (by omega) (by omega) (by have:=Hrot.out.t.len;omega) Hcr.out HtY.out HuY.out (Turned.refl _ _ _) HuZ.out
        exact⟨rfl,Y,Hrot.out.t.trans hd.1,hd.2,Hrow3.out,Hk3.out⟩
     ·skip
      by_cases hB:fin<b∧mid<fin
      ·have hB1:(mid:Int)<(fin:Int):=by omega
       have hB2:(fin:Int)<(b:Int):=by omega
       have hcB:=Ih.out mid fin b n cap g Y w3 (by omega) Hrow3.out (by omega) (by omega) hbn (fun x hx=>Hok.out x (Hrot.out.t.alike.mem (HtY.out.alike.mem hx))) hn
        ((Hrr.out.1.eq fun t h1 h2=>HtY.out.out t (.inr h1))) ((Hrr.out.2.eq fun t h1 h2=>HtY.out.out t (.inr (by omega))))
       have HcB:=Lib.hid hcB;clear hcB
       go_wp2_with (go_at_call 138;(with_reducible refine HcB.out.mono ?_);rintro e w4 ⟨rfl,Z,htZ,huZ,hrow4,hk4⟩;have HtZ:=Lib.hid htZ;have HuZ:=Lib.hid huZ;have Hrow4:=Lib.hid hrow4;have Hk4:=Lib.hid hk4;clear htZ huZ hrow4 hk4)
       go_end0
       have hd:=sym_done (X:=X) (by omega) (by omega) (by have:=Hrot.out.t.len;omega) Hcr.out HtY.out HuY.out HtZ.out HuZ.out
       exact⟨rfl,Z,Hrot.out.t.trans hd.1,hd.2,Hrow4.out,Hk3.out.same Hk4.out⟩
      ·have huZ:Upto Y mid b:=by
        have e1:=Hrr.out
        by_cases hB3:mid<fin
        ·exact(e1.1.sub (Nat.le_refl _) (by omega)).eq fun t h1 h2=>HtY.out.out t (.inr h1)
        ·exact(e1.2.sub (by omega) (Nat.le_refl _)).eq fun t h1 h2=>HtY.out.out t (.inr h1)
       have HuZ:=Lib.hid huZ;clear huZ
       by_cases hB3:(mid:Int)<(fin:Int)
       ·have hB4:¬(fin:Int)<(b:Int):=by omega
        go_wp2
        go_end0
        have hd:=sym_done (X:=X) (by omega) (by omega) (by have:=Hrot.out.t.len;omega) Hcr.out HtY.out HuY.out (Turned.refl _ _ _) HuZ.out
        exact⟨rfl,Y,Hrot.out.t.trans hd.1,hd.2,Hrow3.out,Hk3.out⟩
       ·go_wp2
        go_end0
        have hd:=sym_done (X:=X) (by omega) (by omega) (by have:=Hrot.out.t.len;omega) Hcr.out HtY.out HuY.out (Turned.refl _ _ _) HuZ.out
        exact⟨rfl,Y,Hrot.out.t.trans hd.1,hd.2,Hrow3.out,Hk3.out⟩
   ·have hrot:=rot_none Hsym.out (by omega)
    obtain⟨X,hX⟩:∃X,X=L:=⟨_,rfl⟩
    obtain⟨w2,hw2⟩:∃w2,w2=W1:=⟨_,rfl⟩
    have hrot':Rot L X a m b mid j fin:=by rw [hX];exact hrot
    have hrow2:RowE w2 g n cap X:=by rw [hX,hw2];exact Hrow.out
    have hk2:Keeps (fun i=>i=g) w w2:=by rw [hw2];exact Hk.out
    have Hrot:=Lib.hid hrot';clear hrot hrot'
    rw [←hw2]
    obtain⟨Hrow2,Hk2,HX,Hw2⟩:=hid4 hrow2 hk2 hX hw2;clear hw2 hX hk2 hrow2
    by_cases hR3:(j:Int)<(m:Int)
    ·have hR4:¬(m:Int)<(fin:Int):=by omega
     have hrl:=Hrot.out.left Hsym.out H1.out H2.out
     have hrr:=Hrot.out.right Hsym.out H1.out H2.out
     have hcr:=Hrot.out.cross Hsym.out H1.out H2.out
     obtain⟨Hrl,Hrr,Hcr⟩:=hid3 hrl hrr hcr;clear hcr hrr hrl
     by_cases hA:a<j∧j<mid
     ·have hA1:(a:Int)<(j:Int):=by omega
      have hA2:(j:Int)<(mid:Int):=by omega
      have hcA:=Ih.out a j mid n cap g X w2 (by omega) Hrow2.out (by omega) (by omega) (by omega) (fun x hx=>Hok.out x (Hrot.out.t.alike.mem hx)) hn Hrl.out.1 Hrl.out.2
      have HcA:=Lib.hid hcA;clear hcA
      go_wp2_with (first|(go_at_call 138;(with_reducible refine HcA.out.mono ?_);rintro e w3 ⟨rfl,Y,htY,huY,hrow3,hk3⟩;have HtY:=Lib.hid htY;have HuY:=Lib.hid huY;have Hrow3:=Lib.hid hrow3;have Hk3:=Lib.hid (Hk2.out.same hk3);clear htY huY hrow3 hk3;refine halt ?_))
      refine Lib.hid ?_
      by_cases hB:fin<b∧mid<fin
      ·have hB1:(mid:Int)<(fin:Int):=by omega
       have hB2:(fin:Int)<(b:Int):=by omega
       have hcB:=Ih.out mid fin b n cap g Y w3 (by omega) Hrow3.out (by omega) (by omega) hbn (fun x hx=>Hok.out x (Hrot.out.t.alike.mem (HtY.out.alike.mem hx))) hn
        ((Hrr.out.1.eq fun t h1 h2=>HtY.out.out t (.inr h1))) ((Hrr.out.2.eq fun t h1 h2=>HtY.out.out t (.inr (by omega))))
       have HcB:=Lib.hid hcB;clear hcB
       go_wp2_with (go_at_call 138;(with_reducible refine HcB.out.mono ?_);rintro e w4 ⟨rfl,Z,htZ,huZ,hrow4,hk4⟩;have HtZ:=Lib.hid htZ;have HuZ:=Lib.hid huZ;have Hrow4:=Lib.hid hrow4;have Hk4:=Lib.hid hk4;clear htZ huZ hrow4 hk4)
       go_end0
       have hd:=sym_done (X:=X) (by omega) (by omega) (by have:=Hrot.out.t.len;omega) Hcr.out HtY.out HuY.out HtZ.out HuZ.out
       exact⟨rfl,Z,Hrot.out.t.trans hd.1,hd.2,Hrow4.out,Hk3.out.same Hk4.out⟩
      ·have huZ:Upto Y mid b:=by
        have e1:=Hrr.out
        by_cases hB3:mid<fin
        ·exact(e1.1.sub (Nat.le_refl _) (by omega)).eq fun t h1 h2=>HtY.out.out t (.inr h1)
        ·exact(e1.2.sub (by omega) (Nat.le_refl _)).eq fun t h1 h2=>HtY.out.out t (.inr h1)
       have HuZ:=Lib.hid huZ;clear huZ
       by_cases hB3:(mid:Int)<(fin:Int)
       ·have hB4:¬(fin:Int)<(b:Int):=by omega
        go_wp2
        go_end0
        have hd:=sym_done (X:=X) (by omega) (by omega) (by have:=Hrot.out.t.len;omega) Hcr.out HtY.out HuY.out (Turned.refl _ _ _) HuZ.out
        exact⟨rfl,Y,Hrot.out.t.trans hd.1,hd.2,Hrow3.out,Hk3.out⟩
       ·go_wp2
        go_end0
        have hd:=sym_done (X:=X) (by omega) (by omega) (by have:=Hrot.out.t.len;omega) Hcr.out HtY.out HuY.out (Turned.refl _ _ _) HuZ.out
        exact⟨rfl,Y,Hrot.out.t.trans hd.1,hd.2,Hrow3.out,Hk3.out⟩
     ·have huY:Upto X a mid:=by
       by_cases hA3:a<j
       ·exact Hrl.out.1.sub (Nat.le_refl _) (by omega)
       ·exact Hrl.out.2.sub (by omega) (Nat.le_refl _)
      obtain⟨Y,hY⟩:∃Y,Y=X:=⟨_,rfl⟩
      obtain⟨w3,hw3⟩:∃w3,w3=w2:=⟨_,rfl⟩
      have htY:Turned X Y a mid:=by rw [hY];exact Turned.refl _ _ _
      have hrow3:RowE w3 g n cap Y:=by rw [hY,hw3];exact Hrow2.out
      have hk3:Keeps (fun i=>i=g) w w3:=by rw [hw3];exact Hk2.out
      rw [←hY] at huY
      rw [←hw3]
      obtain⟨HuY,HtY,Hrow3,Hk3,HY,Hw3⟩:=hid6 huY htY hrow3 hk3 hY hw3;clear hw3 hY hk3 hrow3 htY huY
      by_cases hA3:(a:Int)<(j:Int)
      ·have hA4:¬(j:Int)<(mid:Int):=by omega
       by_cases hB:fin<b∧mid<fin
       ·have hB1:(mid:Int)<(fin:Int):=by omega
        have hB2:(fin:Int)<(b:Int):=by omega
        have hcB:=Ih.out mid fin b n cap g Y w3 (by omega) Hrow3.out (by omega) (by omega) hbn (fun x hx=>Hok.out x (Hrot.out.t.alike.mem (HtY.out.alike.mem hx))) hn
         ((Hrr.out.1.eq fun t h1 h2=>HtY.out.out t (.inr h1))) ((Hrr.out.2.eq fun t h1 h2=>HtY.out.out t (.inr (by omega))))
        have HcB:=Lib.hid hcB;clear hcB
        go_wp2_with (go_at_call 138;(with_reducible refine HcB.out.mono ?_);rintro e w4 ⟨rfl,Z,htZ,huZ,hrow4,hk4⟩;have HtZ:=Lib.hid htZ;have HuZ:=Lib.hid huZ;have Hrow4:=Lib.hid hrow4;have Hk4:=Lib.hid hk4;clear htZ huZ hrow4 hk4)
        go_end0
        have hd:=sym_done (X:=X) (by omega) (by omega) (by have:=Hrot.out.t.len;omega) Hcr.out HtY.out HuY.out HtZ.out HuZ.out
        exact⟨rfl,Z,Hrot.out.t.trans hd.1,hd.2,Hrow4.out,Hk3.out.same Hk4.out⟩
       ·have huZ:Upto Y mid b:=by
         have e1:=Hrr.out
         by_cases hB3:mid<fin
         ·exact(e1.1.sub (Nat.le_refl _) (by omega)).eq fun t h1 h2=>HtY.out.out t (.inr h1)
         ·exact(e1.2.sub (by omega) (Nat.le_refl _)).eq fun t h1 h2=>HtY.out.out t (.inr h1)
        have HuZ:=Lib.hid huZ;clear huZ
        by_cases hB3:(mid:Int)<(fin:Int)
        ·have hB4:¬(fin:Int)<(b:Int):=by omega
         go_wp2
         go_end0
         have hd:=sym_done (X:=X) (by omega) (by omega) (by have:=Hrot.out.t.len;omega) Hcr.out HtY.out HuY.out (Turned.refl _ _ _) HuZ.out
         exact⟨rfl,Y,Hrot.out.t.trans hd.1,hd.2,Hrow3.out,Hk3.out⟩
        ·go_wp2
         go_end0
         have hd:=sym_done (X:=X) (by omega) (by omega) (by have:=Hrot.out.t.len;omega) Hcr.out HtY.out HuY.out (Turned.refl _ _ _) HuZ.out
         exact⟨rfl,Y,Hrot.out.t.trans hd.1,hd.2,Hrow3.out,Hk3.out⟩
      ·skip
       by_cases hB:fin<b∧mid<fin
       ·have hB1:(mid:Int)<(fin:Int):=by omega
        have hB2:(fin:Int)<(b:Int):=by omega
        have hcB:=Ih.out mid fin b n cap g Y w3 (by omega) Hrow3.out (by omega) (by omega) hbn (fun x hx=>Hok.out x (Hrot.out.t.alike.mem (HtY.out.alike.mem hx))) hn
         ((Hrr.out.1.eq fun t h1 h2=>HtY.out.out t (.inr h1))) ((Hrr.out.2.eq fun t h1 h2=>HtY.out.out t (.inr (by omega))))
        have HcB:=Lib.hid hcB;clear hcB
        go_wp2_with (go_at_call 138;(with_reducible refine HcB.out.mono ?_);rintro e w4 ⟨rfl,Z,htZ,huZ,hrow4,hk4⟩;have HtZ:=Lib.hid htZ;have HuZ:=Lib.hid huZ;have Hrow4:=Lib.hid hrow4;have Hk4:=Lib.hid hk4;clear htZ huZ hrow4 hk4)
        go_end0
        have hd:=sym_done (X:=X) (by omega) (by omega) (by have:=Hrot.out.t.len;omega) Hcr.out HtY.out HuY.out HtZ.out HuZ.out
        exact⟨rfl,Z,Hrot.out.t.trans hd.1,hd.2,Hrow4.out,Hk3.out.same Hk4.out⟩
       ·have huZ:Upto Y mid b:=by
         have e1:=Hrr.out
         by_cases hB3:mid<fin
         ·exact(e1.1.sub (Nat.le_refl _) (by omega)).eq fun t h1 h2=>HtY.out.out t (.inr h1)
         ·exact(e1.2.sub (by omega) (Nat.le_refl _)).eq fun t h1 h2=>HtY.out.out t (.inr h1)
        have HuZ:=Lib.hid huZ;clear huZ
        by_cases hB3:(mid:Int)<(fin:Int)
        ·have hB4:¬(fin:Int)<(b:Int):=by omega
         go_wp2
         go_end0
         have hd:=sym_done (X:=X) (by omega) (by omega) (by have:=Hrot.out.t.len;omega) Hcr.out HtY.out HuY.out (Turned.refl _ _ _) HuZ.out
         exact⟨rfl,Y,Hrot.out.t.trans hd.1,hd.2,Hrow3.out,Hk3.out⟩
        ·go_wp2
         go_end0
         have hd:=sym_done (X:=X) (by omega) (by omega) (by have:=Hrot.out.t.len;omega) Hcr.out HtY.out HuY.out (Turned.refl _ _ _) HuZ.out
         exact⟨rfl,Y,Hrot.out.t.trans hd.1,hd.2,Hrow3.out,Hk3.out⟩
    ·skip
     have hrl:=Hrot.out.left Hsym.out H1.out H2.out
     have hrr:=Hrot.out.right Hsym.out H1.out H2.out
     have hcr:=Hrot.out.cross Hsym.out H1.out H2.out
     obtain⟨Hrl,Hrr,Hcr⟩:=hid3 hrl hrr hcr;clear hcr hrr hrl
     by_cases hA:a<j∧j<mid
     ·have hA1:(a:Int)<(j:Int):=by omega
      have hA2:(j:Int)<(mid:Int):=by omega
      have hcA:=Ih.out a j mid n cap g X w2 (by omega) Hrow2.out (by omega) (by omega) (by omega) (fun x hx=>Hok.out x (Hrot.out.t.alike.mem hx)) hn Hrl.out.1 Hrl.out.2
      have HcA:=Lib.hid hcA;clear hcA
      go_wp2_with (first|(go_at_call 138;(with_reducible refine HcA.out.mono ?_);rintro e w3 ⟨rfl,Y,htY,huY,hrow3,hk3⟩;have HtY:=Lib.hid htY;have HuY:=Lib.hid huY;have Hrow3:=Lib.hid hrow3;have Hk3:=Lib.hid (Hk2.out.same hk3);clear htY huY hrow3 hk3;refine halt ?_))
      refine Lib.hid ?_
      by_cases hB:fin<b∧mid<fin
      ·have hB1:(mid:Int)<(fin:Int):=by omega
       have hB2:(fin:Int)<(b:Int):=by omega
       have hcB:=Ih.out mid fin b n cap g Y w3 (by omega) Hrow3.out (by omega) (by omega) hbn (fun x hx=>Hok.out x (Hrot.out.t.alike.mem (HtY.out.alike.mem hx))) hn
        ((Hrr.out.1.eq fun t h1 h2=>HtY.out.out t (.inr h1))) ((Hrr.out.2.eq fun t h1 h2=>HtY.out.out t (.inr (by omega))))
       have HcB:=Lib.hid hcB;clear hcB
       go_wp2_with (go_at_call 138;(with_reducible refine HcB.out.mono ?_);rintro e w4 ⟨rfl,Z,htZ,huZ,hrow4,hk4⟩;have HtZ:=Lib.hid htZ;have HuZ:=Lib.hid huZ;have Hrow4:=Lib.hid hrow4;have Hk4:=Lib.hid hk4;clear htZ huZ hrow4 hk4)
       go_end0
       have hd:=sym_done (X:=X) (by omega) (by omega) (by have:=Hrot.out.t.len;omega) Hcr.out HtY.out HuY.out HtZ.out HuZ.out
       exact⟨rfl,Z,Hrot.out.t.trans hd.1,hd.2,Hrow4.out,Hk3.out.same Hk4.out⟩
      ·have huZ:Upto Y mid b:=by
        have e1:=Hrr.out
        by_cases hB3:mid<fin
        ·exact(e1.1.sub (Nat.le_refl _) (by omega)).eq fun t h1 h2=>HtY.out.out t (.inr h1)
        ·exact(e1.2.sub (by omega) (Nat.le_refl _)).eq fun t h1 h2=>HtY.out.out t (.inr h1)
       have HuZ:=Lib.hid huZ;clear huZ
       by_cases hB3:(mid:Int)<(fin:Int)
       ·have hB4:¬(fin:Int)<(b:Int):=by omega
        go_wp2
        go_end0
        have hd:=sym_done (X:=X) (by omega) (by omega) (by have:=Hrot.out.t.len;omega) Hcr.out HtY.out HuY.out (Turned.refl _ _ _) HuZ.out
        exact⟨rfl,Y,Hrot.out.t.trans hd.1,hd.2,Hrow3.out,Hk3.out⟩
       ·go_wp2
        go_end0
        have hd:=sym_done (X:=X) (by omega) (by omega) (by have:=Hrot.out.t.len;omega) Hcr.out HtY.out HuY.out (Turned.refl _ _ _) HuZ.out
        exact⟨rfl,Y,Hrot.out.t.trans hd.1,hd.2,Hrow3.out,Hk3.out⟩
     ·have huY:Upto X a mid:=by
       by_cases hA3:a<j
       ·exact Hrl.out.1.sub (Nat.le_refl _) (by omega)
       ·exact Hrl.out.2.sub (by omega) (Nat.le_refl _)
      obtain⟨Y,hY⟩:∃Y,Y=X:=⟨_,rfl⟩
      obtain⟨w3,hw3⟩:∃w3,w3=w2:=⟨_,rfl⟩
      have htY:Turned X Y a mid:=by rw [hY];exact Turned.refl _ _ _
      have hrow3:RowE w3 g n cap Y:=by rw [hY,hw3];exact Hrow2.out
      have hk3:Keeps (fun i=>i=g) w w3:=by rw [hw3];exact Hk2.out
      rw [←hY] at huY
      rw [←hw3]
      obtain⟨HuY,HtY,Hrow3,Hk3,HY,Hw3⟩:=hid6 huY htY hrow3 hk3 hY hw3;clear hw3 hY hk3 hrow3 htY huY
      by_cases hA3:(a:Int)<(j:Int)
      ·have hA4:¬(j:Int)<(mid:Int):=by omega
       by_cases hB:fin<b∧mid<fin
       ·have hB1:(mid:Int)<(fin:Int):=by omega
        have hB2:(fin:Int)<(b:Int):=by omega
        have hcB:=Ih.out mid fin b n cap g Y w3 (by omega) Hrow3.out (by omega) (by omega) hbn (fun x hx=>Hok.out x (Hrot.out.t.alike.mem (HtY.out.alike.mem hx))) hn
         ((Hrr.out.1.eq fun t h1 h2=>HtY.out.out t (.inr h1))) ((Hrr.out.2.eq fun t h1 h2=>HtY.out.out t (.inr (by omega))))
        have HcB:=Lib.hid hcB;clear hcB
        go_wp2_with (go_at_call 138;(with_reducible refine HcB.out.mono ?_);rintro e w4 ⟨rfl,Z,htZ,huZ,hrow4,hk4⟩;have HtZ:=Lib.hid htZ;have HuZ:=Lib.hid huZ;have Hrow4:=Lib.hid hrow4;have Hk4:=Lib.hid hk4;clear htZ huZ hrow4 hk4)
        go_end0
        have hd:=sym_done (X:=X) (by omega) (by omega) (by have:=Hrot.out.t.len;omega) Hcr.out HtY.out HuY.out HtZ.out HuZ.out
        exact⟨rfl,Z,Hrot.out.t.trans hd.1,hd.2,Hrow4.out,Hk3.out.same Hk4.out⟩
       ·have huZ:Upto Y mid b:=by
         have e1:=Hrr.out
         by_cases hB3:mid<fin
         ·exact(e1.1.sub (Nat.le_refl _) (by omega)).eq fun t h1 h2=>HtY.out.out t (.inr h1)
         ·exact(e1.2.sub (by omega) (Nat.le_refl _)).eq fun t h1 h2=>HtY.out.out t (.inr h1)
        have HuZ:=Lib.hid huZ;clear huZ
        by_cases hB3:(mid:Int)<(fin:Int)
        ·have hB4:¬(fin:Int)<(b:Int):=by omega
         go_wp2
         go_end0
         have hd:=sym_done (X:=X) (by omega) (by omega) (by have:=Hrot.out.t.len;omega) Hcr.out HtY.out HuY.out (Turned.refl _ _ _) HuZ.out
         exact⟨rfl,Y,Hrot.out.t.trans hd.1,hd.2,Hrow3.out,Hk3.out⟩
        ·go_wp2
         go_end0
         have hd:=sym_done (X:=X) (by omega) (by omega) (by have:=Hrot.out.t.len;omega) Hcr.out HtY.out HuY.out (Turned.refl _ _ _) HuZ.out
         exact⟨rfl,Y,Hrot.out.t.trans hd.1,hd.2,Hrow3.out,Hk3.out⟩
      ·skip
       by_cases hB:fin<b∧mid<fin
       ·have hB1:(mid:Int)<(fin:Int):=by omega
        have hB2:(fin:Int)<(b:Int):=by omega
        have hcB:=Ih.out mid fin b n cap g Y w3 (by omega) Hrow3.out (by omega) (by omega) hbn (fun x hx=>Hok.out x (Hrot.out.t.alike.mem (HtY.out.alike.mem hx))) hn
         ((Hrr.out.1.eq fun t h1 h2=>HtY.out.out t (.inr h1))) ((Hrr.out.2.eq fun t h1 h2=>HtY.out.out t (.inr (by omega))))
        have HcB:=Lib.hid hcB;clear hcB
        go_wp2_with (go_at_call 138;(with_reducible refine HcB.out.mono ?_);rintro e w4 ⟨rfl,Z,htZ,huZ,hrow4,hk4⟩;have HtZ:=Lib.hid htZ;have HuZ:=Lib.hid huZ;have Hrow4:=Lib.hid hrow4;have Hk4:=Lib.hid hk4;clear htZ huZ hrow4 hk4)
        go_end0
        have hd:=sym_done (X:=X) (by omega) (by omega) (by have:=Hrot.out.t.len;omega) Hcr.out HtY.out HuY.out HtZ.out HuZ.out
        exact⟨rfl,Z,Hrot.out.t.trans hd.1,hd.2,Hrow4.out,Hk3.out.same Hk4.out⟩
       ·have huZ:Upto Y mid b:=by
         have e1:=Hrr.out
         by_cases hB3:mid<fin
         ·exact(e1.1.sub (Nat.le_refl _) (by omega)).eq fun t h1 h2=>HtY.out.out t (.inr h1)
         ·exact(e1.2.sub (by omega) (Nat.le_refl _)).eq fun t h1 h2=>HtY.out.out t (.inr h1)
        have HuZ:=Lib.hid huZ;clear huZ
        by_cases hB3:(mid:Int)<(fin:Int)
        ·have hB4:¬(fin:Int)<(b:Int):=by omega
         go_wp2
         go_end0
         have hd:=sym_done (X:=X) (by omega) (by omega) (by have:=Hrot.out.t.len;omega) Hcr.out HtY.out HuY.out (Turned.refl _ _ _) HuZ.out
         exact⟨rfl,Y,Hrot.out.t.trans hd.1,hd.2,Hrow3.out,Hk3.out⟩
        ·go_wp2
         go_end0
         have hd:=sym_done (X:=X) (by omega) (by omega) (by have:=Hrot.out.t.len;omega) Hcr.out HtY.out HuY.out (Turned.refl _ _ _) HuZ.out
         exact⟨rfl,Y,Hrot.out.t.trans hd.1,hd.2,Hrow3.out,Hk3.out⟩
theorem merge_mid2(f:Nat)(ok:Ev→Prop)(hc:CmpBy f ok)(d:Nat)(ih:MergeAt f ok d)(a m b n cap g:Nat)(L:List Ev)(w:World)(hd:b-a≤d+1)(h:RowE w g n cap L)(ham:a<m)(hmb:m<b)(ha1:¬m=a+1)(hb1:¬b=m+1)(hbn:b≤n)(hok:∀x∈L,ok x)(hn:n≤1000000)(h1:Upto L a m)(h2:Upto L m b)(mid:Nat)(hmid:mid=(a+b) / 2)(hmm:m≤mid):
  Calls Tryz.prog 138 #[.slice (some ⟨g,0,none⟩) n cap, .int .i64 a, .int .i64 m, .int .i64 b, .func (.func f) #[] #[]] w (MergePost L g n cap a b w):=by
 have eg:=hc.eg
 have hcall:=hc.call
 simp only [Ev.agg] at hcall
 have q0:(((m:Int)-(a:Int))==1)=false:=by simp;omega
 have q1:(((b:Int)-(m:Int))==1)=false:=by simp;omega
 have hln:=h.2
 have hmI:((a:Int)+b) / 2=mid:=by omega
 have hamid:a<mid:=by omega
 have hmidb:mid<b:=by omega
 obtain⟨p,hp⟩:∃p,mid+m-1=p:=⟨_,rfl⟩
 have hpI:(mid:Int)+m-1=p:=by omega
 have hlh:Half a m b mid a m:= .inr ⟨hmm,rfl,rfl⟩
 have hmmI:¬(m:Int)>(mid:Int):=by omega
 have hmmJ:(m:Int)≤(mid:Int):=by omega
 obtain⟨H,Hok,Hc,Hcall,H1,H2,Hmid,Hp,Ih⟩:=hid9 h hok hc hcall h1 h2 hmid hp ih;clear ih hp hmid h2 h1 hcall hc hok h;have Hlh:=Lib.hid hlh;clear hlh
 go_enter Tryz.func138,Tryz.ntmps138
 go_wp2
 go_loopw [20,21] (fun x y wx=>∃(i j:Nat),x= .int .i64 (i:Nat)∧y= .int .i64 (j:Nat)∧Bs (fun c=>dy L (p-c)<dy L c) a m i j∧RowE wx g n cap L∧Keeps (fun i=>i=g) w wx) (fun x y _=>(intOf y).toNat-(intOf x).toNat)
 case atStart=>exact⟨a,m,by go_num,by go_num,Bs.start (by omega),H.out,Keeps.refl _ _⟩
 case round=>
  obtain⟨i,j,rfl,rfl,hbs,hrow,hk⟩:=hrel
  by_cases hlt:i<j
  ·have hltI:(i:Int)<(j:Int):=by omega
   have hbhi:=hbs.hi'
   have hblo:=hbs.lo'
   obtain⟨h,hh⟩:∃h:Nat,((i:Int)+j) / 2=h:=⟨(i+j) / 2,by omega⟩
   have hih:i≤h:=by omega
   have hhj:h<j:=by omega
   obtain⟨q,hq⟩:∃q,p-h=q:=⟨_,rfl⟩
   have hqI:(p:Int)-(h:Int)=q:=by omega
   have hqn:q<n:=by omega
   obtain⟨⟨x0,x1,x2,x3,x4⟩,hx⟩:=get_some (L:=L) (k:=q) (by omega)
   obtain⟨⟨y0,y1,y2,y3,y4⟩,hy⟩:=get_some (L:=L) (k:=h) (by omega)
   have okx:ok _:=Hok.out _ (List.mem_of_getElem? hx)
   have oky:ok _:=Hok.out _ (List.mem_of_getElem? hy)
   have hS:=twoS.of (hrow.keep (Keeps.drew _)) hx hy
   have hxd:=dy_of hx
   have hyd:=dy_of hy
   simp only at hxd hyd
   have q2:(h:Int)<(n:Int):=by omega
   have q3:(q:Int)<(n:Int):=by omega
   have q5:IntKind.i64.wrap (q:Int)=(q:Int):=IntWalk.i64_in _ ⟨by omega,by omega⟩
   have hmono:=sym_mono (lo:=a) (hi:=m) H1.out H2.out ham hmb Hmid.out Hlh.out
   rw [Hp.out] at hmono
   have hcl:=fun W=>Hcall.out ⟨x0,x1,x2,x3,x4⟩ ⟨y0,y1,y2,y3,y4⟩ W okx oky
   simp only at hcl
   obtain⟨Hbs,Hrow,Hk,Hx,Hy,Okx,Oky,HS,Hxd⟩:=hid9 hbs hrow hk hx hy okx oky hS hxd;clear hxd hS oky okx hy hx hk hrow hbs;obtain⟨Hyd,Hmono,Hcl,Hq⟩:=hid4 hyd hmono hcl hq;clear hq hcl hmono hyd
   go_wp2_with fail
   try rw [hh]
   clear hh
   by_cases hlt2:x1<y1
   ·skip
    refine wp_region_mixw (twoS g q h x0 x1 x2 x3 x4 y0 y1 y2 y3 y4) (.take 0 (.take 1 (.take 2 (.take 3 (.take 4 (.take 5 (.take 6 (.take 7 (.take 8 (.take 9 (.take 10 (.move 11 (.take 12 (.take 13 .done)))))))))))))) (by kernel_rfl) (by kernel_rfl) ?_ ?_
    ·exact HS.out
    intro w1 hs1 hk1
    repeat (first
     |(refine mix_skip rfl (by rfl) ?_;try simp only [Act.put,List.setIfInBounds_toArray,List.set_cons_zero,List.set_cons_succ])
     |(refine mix_skipm rfl (by rfl) ?_;try simp only [Act.put,List.setIfInBounds_toArray,List.set_cons_zero,List.set_cons_succ])
     |(refine mix_take (v:= ?_) rfl (by rfl) ?_ ?_;rotate_left;(· intro w' hSw;unfold twoS at hSw;go_simp;(try with_reducible rfl));rotate_right;try simp only [Act.put,List.setIfInBounds_toArray,List.set_cons_zero,List.set_cons_succ]))
    refine mix_move rfl (fun K hK=> ?_)
    go_simp
    go_at_fn f
    ((with_reducible refine(Hcl.out w1).mono ?_);rintro e w2 ⟨z,rfl,hz,hk2⟩;dsimp only)
    have hz':z<0:=hz.2 hlt2
    refine hK.out _ _ (by exact hs1.keep hk2 (by simp)) ?_
    clear hK K
    try simp only [Act.put,List.setIfInBounds_toArray,List.set_cons_zero,List.set_cons_succ]
    repeat (first
     |(refine mix_skip rfl (by rfl) ?_;try simp only [Act.put,List.setIfInBounds_toArray,List.set_cons_zero,List.set_cons_succ])
     |(refine mix_skipm rfl (by rfl) ?_;try simp only [Act.put,List.setIfInBounds_toArray,List.set_cons_zero,List.set_cons_succ])
     |(refine mix_take (v:= ?_) rfl (by rfl) ?_ ?_;rotate_left;(· intro w' hSw;unfold twoS at hSw;go_simp;(try with_reducible rfl));rotate_right;try simp only [Act.put,List.setIfInBounds_toArray,List.set_cons_zero,List.set_cons_succ]))
    refine mix_done ?_
    have hrow2:=(Hrow.out.keep hk1).keep hk2
    have hkw:=(Hk.out.trans (hk1.mono (by simp))).trans (hk2.mono (by simp))
    have hb2:=Hbs.out.down Hmono.out hih hhj (by rw [Hq.out,Hxd.out,Hyd.out];omega)
    clear hs1 hz
    obtain⟨Hk1,Hk2,Hrow2,Hkw,Hb2⟩:=hid5 hk1 hk2 hrow2 hkw hb2;clear hb2 hkw hrow2 hk2 hk1
    go_wp2_with fail
    go_roundw
    case rel=>exact⟨i,h,rfl,rfl,Hb2.out,Hrow2.out,Hkw.out⟩
    case measure=>simp [intOf];omega
   ·skip
    refine wp_region_mixw (twoS g q h x0 x1 x2 x3 x4 y0 y1 y2 y3 y4) (.take 0 (.take 1 (.take 2 (.take 3 (.take 4 (.take 5 (.take 6 (.take 7 (.take 8 (.take 9 (.take 10 (.move 11 (.take 12 (.take 13 .done)))))))))))))) (by kernel_rfl) (by kernel_rfl) ?_ ?_
    ·exact HS.out
    intro w1 hs1 hk1
    repeat (first
     |(refine mix_skip rfl (by rfl) ?_;try simp only [Act.put,List.setIfInBounds_toArray,List.set_cons_zero,List.set_cons_succ])
     |(refine mix_skipm rfl (by rfl) ?_;try simp only [Act.put,List.setIfInBounds_toArray,List.set_cons_zero,List.set_cons_succ])
     |(refine mix_take (v:= ?_) rfl (by rfl) ?_ ?_;rotate_left;(· intro w' hSw;unfold twoS at hSw;go_simp;(try with_reducible rfl));rotate_right;try simp only [Act.put,List.setIfInBounds_toArray,List.set_cons_zero,List.set_cons_succ]))
    refine mix_move rfl (fun K hK=> ?_)
    go_simp
    go_at_fn f
    ((with_reducible refine(Hcl.out w1).mono ?_);rintro e w2 ⟨z,rfl,hz,hk2⟩;dsimp only)
    have hz':¬z<0:=fun h=>by have:=hz.1 h;omega
    refine hK.out _ _ (by exact hs1.keep hk2 (by simp)) ?_
    clear hK K
    try simp only [Act.put,List.setIfInBounds_toArray,List.set_cons_zero,List.set_cons_succ]
    repeat (first
     |(refine mix_skip rfl (by rfl) ?_;try simp only [Act.put,List.setIfInBounds_toArray,List.set_cons_zero,List.set_cons_succ])
     |(refine mix_skipm rfl (by rfl) ?_;try simp only [Act.put,List.setIfInBounds_toArray,List.set_cons_zero,List.set_cons_succ])
     |(refine mix_take (v:= ?_) rfl (by rfl) ?_ ?_;rotate_left;(· intro w' hSw;unfold twoS at hSw;go_simp;(try with_reducible rfl));rotate_right;try simp only [Act.put,List.setIfInBounds_toArray,List.set_cons_zero,List.set_cons_succ]))
    refine mix_done ?_
    have hrow2:=(Hrow.out.keep hk1).keep hk2
    have hkw:=(Hk.out.trans (hk1.mono (by simp))).trans (hk2.mono (by simp))
    have hb2:=Hbs.out.up Hmono.out hih hhj (by rw [Hq.out,Hxd.out,Hyd.out];omega)
    clear hs1 hz
    obtain⟨Hk1,Hk2,Hrow2,Hkw,Hb2⟩:=hid5 hk1 hk2 hrow2 hkw hb2;clear hb2 hkw hrow2 hk2 hk1
    go_wp2_with fail
    go_roundw
    case rel=>exact⟨h+1,j,by go_num,rfl,Hb2.out,Hrow2.out,Hkw.out⟩
    case measure=>simp [intOf];omega
  ·obtain rfl:j=i:=by have:=hbs.le;omega
   rw [←Hp.out] at hbs
   have hsym:=sym_of (lo:=a) (hi:=m) H1.out H2.out ham hmb Hmid.out Hlh.out hbs
   obtain⟨fin,hfin⟩:∃fin,mid+m-j=fin:=⟨_,rfl⟩
   rw [hfin] at hsym
   have z1:=hsym.al
   have z2:=hsym.sm
   have z3:=hsym.mf
   have z4:=hsym.fb
   have z5:=hsym.smid
   have z6:=hsym.midf
   have z7:=hsym.sum
   have hfI:(mid:Int)+m-j=fin:=by omega
   obtain⟨W1,hW1⟩:∃x,x=wr:=⟨_,rfl⟩;subst hW1
   obtain⟨Hbs,Hrow,Hk,Hsym,Hfin⟩:=hid5 hbs hrow hk hsym hfin;clear hfin hsym hk hrow hbs
   by_cases hR:j<m∧m<fin
   ·have hR1:(j:Int)<(m:Int):=by omega
    have hR2:(m:Int)<(fin:Int):=by omega
    obtain⟨X,hrot,hcR⟩:=rot_call (.func (.func f) #[] #[]) Hrow.out Hsym.out hR.1 hR.2 hn hbn
    obtain⟨Hrot,HcR⟩:=hid2 hrot hcR;clear hcR hrot
    go_wp2_with (go_at_call 151;(with_reducible refine HcR.out.mono ?_);rintro e w2 ⟨rfl,hrow2,hk2⟩;have Hrow2:=Lib.hid hrow2;have Hk2:=Lib.hid (Hk.out.same hk2);clear hrow2 hk2;refine halt ?_)
    refine Lib.hid ?_
    have hrl:=Hrot.out.left Hsym.out H1.out H2.out
    have hrr:=Hrot.out.right Hsym.out H1.out H2.out
    have hcr:=Hrot.out.cross Hsym.out H1.out H2.out
    obtain⟨Hrl,Hrr,Hcr⟩:=hid3 hrl hrr hcr;clear hcr hrr hrl
    by_cases hA:a<j∧j<mid
    ·have hA1:(a:Int)<(j:Int):=by omega
     have hA2:(j:Int)<(mid:Int):=by omega
     have hcA:=Ih.out a j mid n cap g X w2 (by omega) Hrow2.out (by omega) (by omega) (by omega) (fun x hx=>Hok.out x (Hrot.out.t.alike.mem hx)) hn Hrl.out.1 Hrl.out.2
     have HcA:=Lib.hid hcA;clear hcA
     go_wp2_with (first|(go_at_call 138;(with_reducible refine HcA.out.mono ?_);rintro e w3 ⟨rfl,Y,htY,huY,hrow3,hk3⟩;have HtY:=Lib.hid htY;have HuY:=Lib.hid huY;have Hrow3:=Lib.hid hrow3;have Hk3:=Lib.hid (Hk2.out.same hk3);clear htY huY hrow3 hk3;refine halt ?_))
     refine Lib.hid ?_
     by_cases hB:fin<b∧mid<fin
     ·have hB1:(mid:Int)<(fin:Int):=by omega
      have hB2:(fin:Int)<(b:Int):=by omega
      have hcB:=Ih.out mid fin b n cap g Y w3 (by omega) Hrow3.out (by omega) (by omega) hbn (fun x hx=>Hok.out x (Hrot.out.t.alike.mem (HtY.out.alike.mem hx))) hn
       ((Hrr.out.1.eq fun t h1 h2=>HtY.out.out t (.inr h1))) ((Hrr.out.2.eq fun t h1 h2=>HtY.out.out t (.inr (by omega))))
      have HcB:=Lib.hid hcB;clear hcB
      go_wp2_with (go_at_call 138;(with_reducible refine HcB.out.mono ?_);rintro e w4 ⟨rfl,Z,htZ,huZ,hrow4,hk4⟩;have HtZ:=Lib.hid htZ;have HuZ:=Lib.hid huZ;have Hrow4:=Lib.hid hrow4;have Hk4:=Lib.hid hk4;clear htZ huZ hrow4 hk4)
      go_end0
      have hd:=sym_done (X:=X) (by omega) (by omega) (by have:=Hrot.out.t.len;omega) Hcr.out HtY.out HuY.out HtZ.out HuZ.out
      exact⟨rfl,Z,Hrot.out.t.trans hd.1,hd.2,Hrow4.out,Hk3.out.same Hk4.out⟩
     ·have huZ:Upto Y mid b:=by
       have e1:=Hrr.out
       by_cases hB3:mid<fin
       ·exact(e1.1.sub (Nat.le_refl _) (by omega)).eq fun t h1 h2=>HtY.out.out t (.inr h1)
       ·exact(e1.2.sub (by omega) (Nat.le_refl _)).eq fun t h1 h2=>HtY.out.out t (.inr h1)
      have HuZ:=Lib.hid huZ;clear huZ
      by_cases hB3:(mid:Int)<(fin:Int)
      ·have hB4:¬(fin:Int)<(b:Int):=by omega
       go_wp2
       go_end0
       have hd:=sym_done (X:=X) (by omega) (by omega) (by have:=Hrot.out.t.len;omega) Hcr.out HtY.out HuY.out (Turned.refl _ _ _) HuZ.out
       exact⟨rfl,Y,Hrot.out.t.trans hd.1,hd.2,Hrow3.out,Hk3.out⟩
      ·go_wp2
       go_end0
       have hd:=sym_done (X:=X) (by omega) (by omega) (by have:=Hrot.out.t.len;omega) Hcr.out HtY.out HuY.out (Turned.refl _ _ _) HuZ.out
       exact⟨rfl,Y,Hrot.out.t.trans hd.1,hd.2,Hrow3.out,Hk3.out⟩
    ·have huY:Upto X a mid:=by
      by_cases hA3:a<j
      ·exact Hrl.out.1.sub (Nat.le_refl _) (by omega)
      ·exact Hrl.out.2.sub (by omega) (Nat.le_refl _)
     obtain⟨Y,hY⟩:∃Y,Y=X:=⟨_,rfl⟩
     obtain⟨w3,hw3⟩:∃w3,w3=w2:=⟨_,rfl⟩
     have htY:Turned X Y a mid:=by rw [hY];exact Turned.refl _ _ _
     have hrow3:RowE w3 g n cap Y:=by rw [hY,hw3];exact Hrow2.out
     have hk3:Keeps (fun i=>i=g) w w3:=by rw [hw3];exact Hk2.out
     rw [←hY] at huY
     rw [←hw3]
     obtain⟨HuY,HtY,Hrow3,Hk3,HY,Hw3⟩:=hid6 huY htY hrow3 hk3 hY hw3;clear hw3 hY hk3 hrow3 htY huY
     by_cases hA3:(a:Int)<(j:Int)
     ·have hA4:¬(j:Int)<(mid:Int):=by omega
      by_cases hB:fin<b∧mid<fin
      ·have hB1:(mid:Int)<(fin:Int):=by omega
       have hB2:(fin:Int)<(b:Int):=by omega
       have hcB:=Ih.out mid fin b n cap g Y w3 (by omega) Hrow3.out (by omega) (by omega) hbn (fun x hx=>Hok.out x (Hrot.out.t.alike.mem (HtY.out.alike.mem hx))) hn
        ((Hrr.out.1.eq fun t h1 h2=>HtY.out.out t (.inr h1))) ((Hrr.out.2.eq fun t h1 h2=>HtY.out.out t (.inr (by omega))))
       have HcB:=Lib.hid hcB;clear hcB
       go_wp2_with (go_at_call 138;(with_reducible refine HcB.out.mono ?_);rintro e w4 ⟨rfl,Z,htZ,huZ,hrow4,hk4⟩;have HtZ:=Lib.hid htZ;have HuZ:=Lib.hid huZ;have Hrow4:=Lib.hid hrow4;have Hk4:=Lib.hid hk4;clear htZ huZ hrow4 hk4)
       go_end0
       have hd:=sym_done (X:=X) (by omega) (by omega) (by have:=Hrot.out.t.len;omega) Hcr.out HtY.out HuY.out HtZ.out HuZ.out
       exact⟨rfl,Z,Hrot.out.t.trans hd.1,hd.2,Hrow4.out,Hk3.out.same Hk4.out⟩
      ·have huZ:Upto Y mid b:=by
        have e1:=Hrr.out
        by_cases hB3:mid<fin
        ·exact(e1.1.sub (Nat.le_refl _) (by omega)).eq fun t h1 h2=>HtY.out.out t (.inr h1)
        ·exact(e1.2.sub (by omega) (Nat.le_refl _)).eq fun t h1 h2=>HtY.out.out t (.inr h1)
       have HuZ:=Lib.hid huZ;clear huZ
       by_cases hB3:(mid:Int)<(fin:Int)
       ·have hB4:¬(fin:Int)<(b:Int):=by omega
        go_wp2
        go_end0
        have hd:=sym_done (X:=X) (by omega) (by omega) (by have:=Hrot.out.t.len;omega) Hcr.out HtY.out HuY.out (Turned.refl _ _ _) HuZ.out
        exact⟨rfl,Y,Hrot.out.t.trans hd.1,hd.2,Hrow3.out,Hk3.out⟩
       ·go_wp2
        go_end0
        have hd:=sym_done (X:=X) (by omega) (by omega) (by have:=Hrot.out.t.len;omega) Hcr.out HtY.out HuY.out (Turned.refl _ _ _) HuZ.out
        exact⟨rfl,Y,Hrot.out.t.trans hd.1,hd.2,Hrow3.out,Hk3.out⟩
     ·skip
      by_cases hB:fin<b∧mid<fin
      ·have hB1:(mid:Int)<(fin:Int):=by omega
       have hB2:(fin:Int)<(b:Int):=by omega
       have hcB:=Ih.out mid fin b n cap g Y w3 (by omega) Hrow3.out (by omega) (by omega) hbn (fun x hx=>Hok.out x (Hrot.out.t.alike.mem (HtY.out.alike.mem hx))) hn
        ((Hrr.out.1.eq fun t h1 h2=>HtY.out.out t (.inr h1))) ((Hrr.out.2.eq fun t h1 h2=>HtY.out.out t (.inr (by omega))))
       have HcB:=Lib.hid hcB;clear hcB
       go_wp2_with (go_at_call 138;(with_reducible refine HcB.out.mono ?_);rintro e w4 ⟨rfl,Z,htZ,huZ,hrow4,hk4⟩;have HtZ:=Lib.hid htZ;have HuZ:=Lib.hid huZ;have Hrow4:=Lib.hid hrow4;have Hk4:=Lib.hid hk4;clear htZ huZ hrow4 hk4)
       go_end0
       have hd:=sym_done (X:=X) (by omega) (by omega) (by have:=Hrot.out.t.len;omega) Hcr.out HtY.out HuY.out HtZ.out HuZ.out
       exact⟨rfl,Z,Hrot.out.t.trans hd.1,hd.2,Hrow4.out,Hk3.out.same Hk4.out⟩
      ·have huZ:Upto Y mid b:=by
        have e1:=Hrr.out
        by_cases hB3:mid<fin
        ·exact(e1.1.sub (Nat.le_refl _) (by omega)).eq fun t h1 h2=>HtY.out.out t (.inr h1)
        ·exact(e1.2.sub (by omega) (Nat.le_refl _)).eq fun t h1 h2=>HtY.out.out t (.inr h1)
       have HuZ:=Lib.hid huZ;clear huZ
       by_cases hB3:(mid:Int)<(fin:Int)
       ·have hB4:¬(fin:Int)<(b:Int):=by omega
        go_wp2
        go_end0
        have hd:=sym_done (X:=X) (by omega) (by omega) (by have:=Hrot.out.t.len;omega) Hcr.out HtY.out HuY.out (Turned.refl _ _ _) HuZ.out
        exact⟨rfl,Y,Hrot.out.t.trans hd.1,hd.2,Hrow3.out,Hk3.out⟩
       ·go_wp2
        go_end0
        have hd:=sym_done (X:=X) (by omega) (by omega) (by have:=Hrot.out.t.len;omega) Hcr.out HtY.out HuY.out (Turned.refl _ _ _) HuZ.out
        exact⟨rfl,Y,Hrot.out.t.trans hd.1,hd.2,Hrow3.out,Hk3.out⟩
   ·have hrot:=rot_none Hsym.out (by omega)
    obtain⟨X,hX⟩:∃X,X=L:=⟨_,rfl⟩
    obtain⟨w2,hw2⟩:∃w2,w2=W1:=⟨_,rfl⟩
    have hrot':Rot L X a m b mid j fin:=by rw [hX];exact hrot
    have hrow2:RowE w2 g n cap X:=by rw [hX,hw2];exact Hrow.out
    have hk2:Keeps (fun i=>i=g) w w2:=by rw [hw2];exact Hk.out
    have Hrot:=Lib.hid hrot';clear hrot hrot'
    rw [←hw2]
    obtain⟨Hrow2,Hk2,HX,Hw2⟩:=hid4 hrow2 hk2 hX hw2;clear hw2 hX hk2 hrow2
    by_cases hR3:(j:Int)<(m:Int)
    ·have hR4:¬(m:Int)<(fin:Int):=by omega
     have hrl:=Hrot.out.left Hsym.out H1.out H2.out
     have hrr:=Hrot.out.right Hsym.out H1.out H2.out
     have hcr:=Hrot.out.cross Hsym.out H1.out H2.out
     obtain⟨Hrl,Hrr,Hcr⟩:=hid3 hrl hrr hcr;clear hcr hrr hrl
     by_cases hA:a<j∧j<mid
     ·have hA1:(a:Int)<(j:Int):=by omega
      have hA2:(j:Int)<(mid:Int):=by omega
      have hcA:=Ih.out a j mid n cap g X w2 (by omega) Hrow2.out (by omega) (by omega) (by omega) (fun x hx=>Hok.out x (Hrot.out.t.alike.mem hx)) hn Hrl.out.1 Hrl.out.2
      have HcA:=Lib.hid hcA;clear hcA
      go_wp2_with (first|(go_at_call 138;(with_reducible refine HcA.out.mono ?_);rintro e w3 ⟨rfl,Y,htY,huY,hrow3,hk3⟩;have HtY:=Lib.hid htY;have HuY:=Lib.hid huY;have Hrow3:=Lib.hid hrow3;have Hk3:=Lib.hid (Hk2.out.same hk3);clear htY huY hrow3 hk3;refine halt ?_))
      refine Lib.hid ?_
      by_cases hB:fin<b∧mid<fin
      ·have hB1:(mid:Int)<(fin:Int):=by omega
       have hB2:(fin:Int)<(b:Int):=by omega
       have hcB:=Ih.out mid fin b n cap g Y w3 (by omega) Hrow3.out (by omega) (by omega) hbn (fun x hx=>Hok.out x (Hrot.out.t.alike.mem (HtY.out.alike.mem hx))) hn
        ((Hrr.out.1.eq fun t h1 h2=>HtY.out.out t (.inr h1))) ((Hrr.out.2.eq fun t h1 h2=>HtY.out.out t (.inr (by omega))))
       have HcB:=Lib.hid hcB;clear hcB
       go_wp2_with (go_at_call 138;(with_reducible refine HcB.out.mono ?_);rintro e w4 ⟨rfl,Z,htZ,huZ,hrow4,hk4⟩;have HtZ:=Lib.hid htZ;have HuZ:=Lib.hid huZ;have Hrow4:=Lib.hid hrow4;have Hk4:=Lib.hid hk4;clear htZ huZ hrow4 hk4)
       go_end0
       have hd:=sym_done (X:=X) (by omega) (by omega) (by have:=Hrot.out.t.len;omega) Hcr.out HtY.out HuY.out HtZ.out HuZ.out
       exact⟨rfl,Z,Hrot.out.t.trans hd.1,hd.2,Hrow4.out,Hk3.out.same Hk4.out⟩
      ·have huZ:Upto Y mid b:=by
        have e1:=Hrr.out
        by_cases hB3:mid<fin
        ·exact(e1.1.sub (Nat.le_refl _) (by omega)).eq fun t h1 h2=>HtY.out.out t (.inr h1)
        ·exact(e1.2.sub (by omega) (Nat.le_refl _)).eq fun t h1 h2=>HtY.out.out t (.inr h1)
       have HuZ:=Lib.hid huZ;clear huZ
       by_cases hB3:(mid:Int)<(fin:Int)
       ·have hB4:¬(fin:Int)<(b:Int):=by omega
        go_wp2
        go_end0
        have hd:=sym_done (X:=X) (by omega) (by omega) (by have:=Hrot.out.t.len;omega) Hcr.out HtY.out HuY.out (Turned.refl _ _ _) HuZ.out
        exact⟨rfl,Y,Hrot.out.t.trans hd.1,hd.2,Hrow3.out,Hk3.out⟩
       ·go_wp2
        go_end0
        have hd:=sym_done (X:=X) (by omega) (by omega) (by have:=Hrot.out.t.len;omega) Hcr.out HtY.out HuY.out (Turned.refl _ _ _) HuZ.out
        exact⟨rfl,Y,Hrot.out.t.trans hd.1,hd.2,Hrow3.out,Hk3.out⟩
     ·have huY:Upto X a mid:=by
       by_cases hA3:a<j
       ·exact Hrl.out.1.sub (Nat.le_refl _) (by omega)
       ·exact Hrl.out.2.sub (by omega) (Nat.le_refl _)
      obtain⟨Y,hY⟩:∃Y,Y=X:=⟨_,rfl⟩
      obtain⟨w3,hw3⟩:∃w3,w3=w2:=⟨_,rfl⟩
      have htY:Turned X Y a mid:=by rw [hY];exact Turned.refl _ _ _
      have hrow3:RowE w3 g n cap Y:=by rw [hY,hw3];exact Hrow2.out
      have hk3:Keeps (fun i=>i=g) w w3:=by rw [hw3];exact Hk2.out
      rw [←hY] at huY
      rw [←hw3]
      obtain⟨HuY,HtY,Hrow3,Hk3,HY,Hw3⟩:=hid6 huY htY hrow3 hk3 hY hw3;clear hw3 hY hk3 hrow3 htY huY
      by_cases hA3:(a:Int)<(j:Int)
      ·have hA4:¬(j:Int)<(mid:Int):=by omega
       by_cases hB:fin<b∧mid<fin
       ·have hB1:(mid:Int)<(fin:Int):=by omega
        have hB2:(fin:Int)<(b:Int):=by omega
        have hcB:=Ih.out mid fin b n cap g Y w3 (by omega) Hrow3.out (by omega) (by omega) hbn (fun x hx=>Hok.out x (Hrot.out.t.alike.mem (HtY.out.alike.mem hx))) hn
         ((Hrr.out.1.eq fun t h1 h2=>HtY.out.out t (.inr h1))) ((Hrr.out.2.eq fun t h1 h2=>HtY.out.out t (.inr (by omega))))
        have HcB:=Lib.hid hcB;clear hcB
        go_wp2_with (go_at_call 138;(with_reducible refine HcB.out.mono ?_);rintro e w4 ⟨rfl,Z,htZ,huZ,hrow4,hk4⟩;have HtZ:=Lib.hid htZ;have HuZ:=Lib.hid huZ;have Hrow4:=Lib.hid hrow4;have Hk4:=Lib.hid hk4;clear htZ huZ hrow4 hk4)
        go_end0
        have hd:=sym_done (X:=X) (by omega) (by omega) (by have:=Hrot.out.t.len;omega) Hcr.out HtY.out HuY.out HtZ.out HuZ.out
        exact⟨rfl,Z,Hrot.out.t.trans hd.1,hd.2,Hrow4.out,Hk3.out.same Hk4.out⟩
       ·have huZ:Upto Y mid b:=by
         have e1:=Hrr.out
         by_cases hB3:mid<fin
         ·exact(e1.1.sub (Nat.le_refl _) (by omega)).eq fun t h1 h2=>HtY.out.out t (.inr h1)
         ·exact(e1.2.sub (by omega) (Nat.le_refl _)).eq fun t h1 h2=>HtY.out.out t (.inr h1)
        have HuZ:=Lib.hid huZ;clear huZ
        by_cases hB3:(mid:Int)<(fin:Int)
        ·have hB4:¬(fin:Int)<(b:Int):=by omega
         go_wp2
         go_end0
         have hd:=sym_done (X:=X) (by omega) (by omega) (by have:=Hrot.out.t.len;omega) Hcr.out HtY.out HuY.out (Turned.refl _ _ _) HuZ.out
         exact⟨rfl,Y,Hrot.out.t.trans hd.1,hd.2,Hrow3.out,Hk3.out⟩
        ·go_wp2
         go_end0
         have hd:=sym_done (X:=X) (by omega) (by omega) (by have:=Hrot.out.t.len;omega) Hcr.out HtY.out HuY.out (Turned.refl _ _ _) HuZ.out
         exact⟨rfl,Y,Hrot.out.t.trans hd.1,hd.2,Hrow3.out,Hk3.out⟩
      ·skip
       by_cases hB:fin<b∧mid<fin
       ·have hB1:(mid:Int)<(fin:Int):=by omega
        have hB2:(fin:Int)<(b:Int):=by omega
        have hcB:=Ih.out mid fin b n cap g Y w3 (by omega) Hrow3.out (by omega) (by omega) hbn (fun x hx=>Hok.out x (Hrot.out.t.alike.mem (HtY.out.alike.mem hx))) hn
         ((Hrr.out.1.eq fun t h1 h2=>HtY.out.out t (.inr h1))) ((Hrr.out.2.eq fun t h1 h2=>HtY.out.out t (.inr (by omega))))
        have HcB:=Lib.hid hcB;clear hcB
        go_wp2_with (go_at_call 138;(with_reducible refine HcB.out.mono ?_);rintro e w4 ⟨rfl,Z,htZ,huZ,hrow4,hk4⟩;have HtZ:=Lib.hid htZ;have HuZ:=Lib.hid huZ;have Hrow4:=Lib.hid hrow4;have Hk4:=Lib.hid hk4;clear htZ huZ hrow4 hk4)
        go_end0
        have hd:=sym_done (X:=X) (by omega) (by omega) (by have:=Hrot.out.t.len;omega) Hcr.out HtY.out HuY.out HtZ.out HuZ.out
        exact⟨rfl,Z,Hrot.out.t.trans hd.1,hd.2,Hrow4.out,Hk3.out.same Hk4.out⟩
       ·have huZ:Upto Y mid b:=by
         have e1:=Hrr.out
         by_cases hB3:mid<fin
         ·exact(e1.1.sub (Nat.le_refl _) (by omega)).eq fun t h1 h2=>HtY.out.out t (.inr h1)
         ·exact(e1.2.sub (by omega) (Nat.le_refl _)).eq fun t h1 h2=>HtY.out.out t (.inr h1)
        have HuZ:=Lib.hid huZ;clear huZ
        by_cases hB3:(mid:Int)<(fin:Int)
        ·have hB4:¬(fin:Int)<(b:Int):=by omega
         go_wp2
         go_end0
         have hd:=sym_done (X:=X) (by omega) (by omega) (by have:=Hrot.out.t.len;omega) Hcr.out HtY.out HuY.out (Turned.refl _ _ _) HuZ.out
         exact⟨rfl,Y,Hrot.out.t.trans hd.1,hd.2,Hrow3.out,Hk3.out⟩
        ·go_wp2
         go_end0
         have hd:=sym_done (X:=X) (by omega) (by omega) (by have:=Hrot.out.t.len;omega) Hcr.out HtY.out HuY.out (Turned.refl _ _ _) HuZ.out
         exact⟨rfl,Y,Hrot.out.t.trans hd.1,hd.2,Hrow3.out,Hk3.out⟩
    ·skip
     have hrl:=Hrot.out.left Hsym.out H1.out H2.out
     have hrr:=Hrot.out.right Hsym.out H1.out H2.out
     have hcr:=Hrot.out.cross Hsym.out H1.out H2.out
     obtain⟨Hrl,Hrr,Hcr⟩:=hid3 hrl hrr hcr;clear hcr hrr hrl
     by_cases hA:a<j∧j<mid
     ·have hA1:(a:Int)<(j:Int):=by omega
      have hA2:(j:Int)<(mid:Int):=by omega
      have hcA:=Ih.out a j mid n cap g X w2 (by omega) Hrow2.out (by omega) (by omega) (by omega) (fun x hx=>Hok.out x (Hrot.out.t.alike.mem hx)) hn Hrl.out.1 Hrl.out.2
      have HcA:=Lib.hid hcA;clear hcA
      go_wp2_with (first|(go_at_call 138;(with_reducible refine HcA.out.mono ?_);rintro e w3 ⟨rfl,Y,htY,huY,hrow3,hk3⟩;have HtY:=Lib.hid htY;have HuY:=Lib.hid huY;have Hrow3:=Lib.hid hrow3;have Hk3:=Lib.hid (Hk2.out.same hk3);clear htY huY hrow3 hk3;refine halt ?_))
      refine Lib.hid ?_
      by_cases hB:fin<b∧mid<fin
      ·have hB1:(mid:Int)<(fin:Int):=by omega
       have hB2:(fin:Int)<(b:Int):=by omega
       have hcB:=Ih.out mid fin b n cap g Y w3 (by omega) Hrow3.out (by omega) (by omega) hbn (fun x hx=>Hok.out x (Hrot.out.t.alike.mem (HtY.out.alike.mem hx))) hn
        ((Hrr.out.1.eq fun t h1 h2=>HtY.out.out t (.inr h1))) ((Hrr.out.2.eq fun t h1 h2=>HtY.out.out t (.inr (by omega))))
       have HcB:=Lib.hid hcB;clear hcB
       go_wp2_with (go_at_call 138;(with_reducible refine HcB.out.mono ?_);rintro e w4 ⟨rfl,Z,htZ,huZ,hrow4,hk4⟩;have HtZ:=Lib.hid htZ;have HuZ:=Lib.hid huZ;have Hrow4:=Lib.hid hrow4;have Hk4:=Lib.hid hk4;clear htZ huZ hrow4 hk4)
       go_end0
       have hd:=sym_done (X:=X) (by omega) (by omega) (by have:=Hrot.out.t.len;omega) Hcr.out HtY.out HuY.out HtZ.out HuZ.out
       exact⟨rfl,Z,Hrot.out.t.trans hd.1,hd.2,Hrow4.out,Hk3.out.same Hk4.out⟩
      ·have huZ:Upto Y mid b:=by
        have e1:=Hrr.out
        by_cases hB3:mid<fin
        ·exact(e1.1.sub (Nat.le_refl _) (by omega)).eq fun t h1 h2=>HtY.out.out t (.inr h1)
        ·exact(e1.2.sub (by omega) (Nat.le_refl _)).eq fun t h1 h2=>HtY.out.out t (.inr h1)
       have HuZ:=Lib.hid huZ;clear huZ
       by_cases hB3:(mid:Int)<(fin:Int)
       ·have hB4:¬(fin:Int)<(b:Int):=by omega
        go_wp2
        go_end0
        have hd:=sym_done (X:=X) (by omega) (by omega) (by have:=Hrot.out.t.len;omega) Hcr.out HtY.out HuY.out (Turned.refl _ _ _) HuZ.out
        exact⟨rfl,Y,Hrot.out.t.trans hd.1,hd.2,Hrow3.out,Hk3.out⟩
       ·go_wp2
        go_end0
        have hd:=sym_done (X:=X) (by omega) (by omega) (by have:=Hrot.out.t.len;omega) Hcr.out HtY.out HuY.out (Turned.refl _ _ _) HuZ.out
        exact⟨rfl,Y,Hrot.out.t.trans hd.1,hd.2,Hrow3.out,Hk3.out⟩
     ·have huY:Upto X a mid:=by
       by_cases hA3:a<j
       ·exact Hrl.out.1.sub (Nat.le_refl _) (by omega)
       ·exact Hrl.out.2.sub (by omega) (Nat.le_refl _)
      obtain⟨Y,hY⟩:∃Y,Y=X:=⟨_,rfl⟩
      obtain⟨w3,hw3⟩:∃w3,w3=w2:=⟨_,rfl⟩
      have htY:Turned X Y a mid:=by rw [hY];exact Turned.refl _ _ _
      have hrow3:RowE w3 g n cap Y:=by rw [hY,hw3];exact Hrow2.out
      have hk3:Keeps (fun i=>i=g) w w3:=by rw [hw3];exact Hk2.out
      rw [←hY] at huY
      rw [←hw3]
      obtain⟨HuY,HtY,Hrow3,Hk3,HY,Hw3⟩:=hid6 huY htY hrow3 hk3 hY hw3;clear hw3 hY hk3 hrow3 htY huY
      by_cases hA3:(a:Int)<(j:Int)
      ·have hA4:¬(j:Int)<(mid:Int):=by omega
       by_cases hB:fin<b∧mid<fin
       ·have hB1:(mid:Int)<(fin:Int):=by omega
        have hB2:(fin:Int)<(b:Int):=by omega
        have hcB:=Ih.out mid fin b n cap g Y w3 (by omega) Hrow3.out (by omega) (by omega) hbn (fun x hx=>Hok.out x (Hrot.out.t.alike.mem (HtY.out.alike.mem hx))) hn
         ((Hrr.out.1.eq fun t h1 h2=>HtY.out.out t (.inr h1))) ((Hrr.out.2.eq fun t h1 h2=>HtY.out.out t (.inr (by omega))))
        have HcB:=Lib.hid hcB;clear hcB
        go_wp2_with (go_at_call 138;(with_reducible refine HcB.out.mono ?_);rintro e w4 ⟨rfl,Z,htZ,huZ,hrow4,hk4⟩;have HtZ:=Lib.hid htZ;have HuZ:=Lib.hid huZ;have Hrow4:=Lib.hid hrow4;have Hk4:=Lib.hid hk4;clear htZ huZ hrow4 hk4)
        go_end0
        have hd:=sym_done (X:=X) (by omega) (by omega) (by have:=Hrot.out.t.len;omega) Hcr.out HtY.out HuY.out HtZ.out HuZ.out
        exact⟨rfl,Z,Hrot.out.t.trans hd.1,hd.2,Hrow4.out,Hk3.out.same Hk4.out⟩
       ·have huZ:Upto Y mid b:=by
         have e1:=Hrr.out
         by_cases hB3:mid<fin
         ·exact(e1.1.sub (Nat.le_refl _) (by omega)).eq fun t h1 h2=>HtY.out.out t (.inr h1)
         ·exact(e1.2.sub (by omega) (Nat.le_refl _)).eq fun t h1 h2=>HtY.out.out t (.inr h1)
        have HuZ:=Lib.hid huZ;clear huZ
        by_cases hB3:(mid:Int)<(fin:Int)
        ·have hB4:¬(fin:Int)<(b:Int):=by omega
         go_wp2
         go_end0
         have hd:=sym_done (X:=X) (by omega) (by omega) (by have:=Hrot.out.t.len;omega) Hcr.out HtY.out HuY.out (Turned.refl _ _ _) HuZ.out
         exact⟨rfl,Y,Hrot.out.t.trans hd.1,hd.2,Hrow3.out,Hk3.out⟩
        ·go_wp2
         go_end0
         have hd:=sym_done (X:=X) (by omega) (by omega) (by have:=Hrot.out.t.len;omega) Hcr.out HtY.out HuY.out (Turned.refl _ _ _) HuZ.out
         exact⟨rfl,Y,Hrot.out.t.trans hd.1,hd.2,Hrow3.out,Hk3.out⟩
      ·skip
       by_cases hB:fin<b∧mid<fin
       ·have hB1:(mid:Int)<(fin:Int):=by omega
        have hB2:(fin:Int)<(b:Int):=by omega
        have hcB:=Ih.out mid fin b n cap g Y w3 (by omega) Hrow3.out (by omega) (by omega) hbn (fun x hx=>Hok.out x (Hrot.out.t.alike.mem (HtY.out.alike.mem hx))) hn
         ((Hrr.out.1.eq fun t h1 h2=>HtY.out.out t (.inr h1))) ((Hrr.out.2.eq fun t h1 h2=>HtY.out.out t (.inr (by omega))))
        have HcB:=Lib.hid hcB;clear hcB
        go_wp2_with (go_at_call 138;(with_reducible refine HcB.out.mono ?_);rintro e w4 ⟨rfl,Z,htZ,huZ,hrow4,hk4⟩;have HtZ:=Lib.hid htZ;have HuZ:=Lib.hid huZ;have Hrow4:=Lib.hid hrow4;have Hk4:=Lib.hid hk4;clear htZ huZ hrow4 hk4)
        go_end0
        have hd:=sym_done (X:=X) (by omega) (by omega) (by have:=Hrot.out.t.len;omega) Hcr.out HtY.out HuY.out HtZ.out HuZ.out
        exact⟨rfl,Z,Hrot.out.t.trans hd.1,hd.2,Hrow4.out,Hk3.out.same Hk4.out⟩
       ·have huZ:Upto Y mid b:=by
         have e1:=Hrr.out
         by_cases hB3:mid<fin
         ·exact(e1.1.sub (Nat.le_refl _) (by omega)).eq fun t h1 h2=>HtY.out.out t (.inr h1)
         ·exact(e1.2.sub (by omega) (Nat.le_refl _)).eq fun t h1 h2=>HtY.out.out t (.inr h1)
        have HuZ:=Lib.hid huZ;clear huZ
        by_cases hB3:(mid:Int)<(fin:Int)
        ·have hB4:¬(fin:Int)<(b:Int):=by omega
         go_wp2
         go_end0
         have hd:=sym_done (X:=X) (by omega) (by omega) (by have:=Hrot.out.t.len;omega) Hcr.out HtY.out HuY.out (Turned.refl _ _ _) HuZ.out
         exact⟨rfl,Y,Hrot.out.t.trans hd.1,hd.2,Hrow3.out,Hk3.out⟩
        ·go_wp2
         go_end0
         have hd:=sym_done (X:=X) (by omega) (by omega) (by have:=Hrot.out.t.len;omega) Hcr.out HtY.out HuY.out (Turned.refl _ _ _) HuZ.out
         exact⟨rfl,Y,Hrot.out.t.trans hd.1,hd.2,Hrow3.out,Hk3.out⟩
theorem mergeEv_any(f:Nat)(ok:Ev→Prop)(hc:CmpBy f ok):∀d,MergeAt f ok d
 |0=>fun a m b n cap g L w hd _ h1 h2 _ _ _ _ _=>by omega
 |d+1=>fun a m b n cap g L w hd hrow ham hmb hbn hok hn h1 h2=>by
  by_cases e1:m=a+1
  ·subst e1;exact merge_left f ok hc a b n cap g L w hrow hmb hbn hok hn h2
  ·by_cases e2:b=m+1
   ·subst e2;exact merge_right f ok hc a m n cap g L w hrow (by omega) hbn hok hn h1
   ·rcases Nat.lt_or_ge ((a+b) / 2) m with h|h
    ·exact merge_mid1 f ok hc d (mergeEv_any f ok hc d) a m b n cap g L w hd hrow ham hmb e1 e2 hbn hok hn h1 h2 _ rfl h
    ·exact merge_mid2 f ok hc d (mergeEv_any f ok hc d) a m b n cap g L w hd hrow ham hmb e1 e2 hbn hok hn h1 h2 _ rfl h
def Blk(s n:Nat)(X:List Ev):Prop:=∀t,Upto X (t*s) (min (t*s+s) n)
structure BlkTo(s n k:Nat)(X:List Ev):Prop where
 lo:∀t,t<k→Upto X (2*(t*s)) (2*(t*s)+2*s)
 hi:∀t,2*k≤t→Upto X (t*s) (min (t*s+s) n)
theorem Blk.te{s n:Nat}{X:List Ev}(h:Blk s n X):BlkTo s n 0 X:=⟨fun t ht=>by omega,fun t _=>h t⟩
theorem mul_mono{t k s:Nat}(h:t<k):t*s+s≤k*s:=by
 have:=Nat.mul_le_mul_right s (show t+1≤k from h)
 rwa [Nat.succ_mul] at this
theorem two_mul'(k s:Nat):2*k*s=2*(k*s):=Nat.mul_assoc 2 k s
theorem BlkTo.halves{s n k:Nat}{X:List Ev}(h:BlkTo s n k X):Upto X (2*(k*s)) (min (2*(k*s)+s) n)∧Upto X (2*(k*s)+s) (min (2*(k*s)+s+s) n):=by
 have h1:=h.hi (2*k) (Nat.le_refl _)
 have h2:=h.hi (2*k+1) (by omega)
 rw [two_mul'] at h1
 rw [Nat.succ_mul,two_mul'] at h2
 exact⟨h1,h2⟩
theorem BlkTo.next{s n k:Nat}{X Y:List Ev}(h:BlkTo s n k X)(ht:Turned X Y (2*(k*s)) (2*(k*s)+2*s))(hu:Upto Y (2*(k*s)) (2*(k*s)+2*s)):BlkTo s n (k+1) Y:=by
 refine⟨fun t hlt=> ?_,fun t hge=> ?_⟩
 ·by_cases he:t=k
  ·subst he;exact hu
  ·have:=mul_mono (s:=s) (show t<k by omega)
   exact(h.lo t (by omega)).eq fun i h1 h2=>ht.out i (.inl (by omega))
 ·have:=mul_mono (s:=s) (show 2*k+1<t by omega)
  rw [Nat.succ_mul,two_mul'] at this
  exact(h.hi t (by omega)).eq fun i h1 h2=>ht.out i (.inr (by omega))
theorem BlkTo.done{s n k:Nat}{X Y:List Ev}(h:BlkTo s n k X)(h1:2*(k*s)≤n)(h2:n<2*(k*s)+2*s)(ht:Turned X Y (2*(k*s)) n)(hu:Upto Y (2*(k*s)) n):Blk (2*s) n Y:=by
 intro t
 rw [show t*(2*s)=2*(t*s) from Nat.mul_left_comm _ _ _]
 rcases Nat.lt_trichotomy t k with hk|hk|hk
 ·have:=mul_mono (s:=s) hk
  exact((h.lo t hk).sub (Nat.le_refl _) (Nat.min_le_left _ _)).eq fun i h3 h4=>ht.out i (.inl (by omega))
 ·subst hk;exact hu.sub (Nat.le_refl _) (Nat.min_le_right _ _)
 ·have:=mul_mono (s:=s) hk
  exact Upto.one (by have:=Nat.min_le_right (2*(t*s)+2*s) n;omega)
theorem Blk.all{s n:Nat}{X:List Ev}(h:Blk s n X)(hs:n≤s):Upto X 0 n:=by
 have:=h 0
 rw [Nat.zero_mul,Nat.zero_add,Nat.min_eq_right hs] at this
 exact this
end Go.Proofs.YthcmpcekmkioaaaGreat
