/- Part 2 of the proof of ReplayApplies: walks and plain laws. -/
import Derived.Test.YthcmpcekmkioaaaGreatReplayAppliesQ1
namespace Go.Proofs.YthcmpcekmkioaaaGreat
open Go.RowKit
set_option maxRecDepth 100000
set_option maxHeartbeats 400000
theorem poolMay_any(v:Int)(w:World):Calls Tryz.prog 80 #[.int .i64 v] w fun e w'=>e= .returned (.bool (moneyP v))∧w=w':=by
 by_cases h1:v<0
 ·have hf:moneyP v=false:=by simp [moneyP];omega
  have h1':¬0≤v:=by omega
  have Hf:=Lib.hid hf;clear hf
  go_enter Tryz.func80,Tryz.ntmps80
  go_wp2
  go_ret
  exact⟨by rw [Hf.out];rfl,rfl⟩
 ·by_cases h2:1000000000000000<v
  ·have hf:moneyP v=false:=by simp [moneyP];omega
   have hd:decide (v≤1000000000000000)=false:=by rw [decide_eq_false_iff_not];omega
   have h1':0≤v:=by omega
   have Hf:=Lib.hid hf;clear hf
   go_enter Tryz.func80,Tryz.ntmps80
   go_wp2
   go_ret
   exact⟨by rw [Hf.out];rfl,rfl⟩
  ·have hf:moneyP v=true:=by simp [moneyP];omega
   have h1':0≤v:=by omega
   have Hf:=Lib.hid hf;clear hf
   go_enter Tryz.func80,Tryz.ntmps80
   go_wp2
   go_ret
   exact⟨by rw [Hf.out];rfl,rfl⟩
theorem poolMay_at{v:Int}{b:Bool}(h:moneyP v=b)(w:World):Calls Tryz.prog 80 #[.int .i64 v] w fun e w'=>e= .returned (.bool b)∧w=w':=by subst h;exact poolMay_any v w
set_option maxHeartbeats 3200000
theorem poolRight_go(L:List Int)(cr du:Int)(ad:Option Addr)(cap n:Nat)(w:World)(hr:Reads w 1 (.slice ad n cap) n (L.flatMap i64c))(hN:L.length=n)(hl:n≤1000):
  Calls Tryz.prog 45 #[.agg #[.slice ad n cap, .int .i64 cr, .int .i64 du]] w fun e w'=>e= .returned (.bool (Ps.rightB ⟨L,cr,du⟩))∧Keeps (fun _=>False) w w':=by
 obtain⟨z,hz⟩:∃z,Ps.rightB ⟨L,cr,du⟩=z:=⟨_,rfl⟩
 rw [hz]
 have hbx:∀W,Keeps (fun _=>False) (w.alloc (.cells #[.slice ad n cap, .int .i64 cr, .int .i64 du] 24)) W→W.heap[w.heap.size]?=some (.cells #[.slice ad n cap, .int .i64 cr, .int .i64 du] 24 (0,0)):=fun W hW=>box_old (heap_alloc_new w _) hW (by simp)
 obtain⟨Hr,Hz,Hbx⟩:=hid3 hr hz hbx;clear hbx hz hr
 go_enter Tryz.func45,Tryz.ntmps45
 go_wp2
 go_loopw [3,9] (fun x y wx=>∃(i:Nat) (s:Int),x= .int .i64 s∧y= .int .i64 (i:Nat)∧i≤n∧sumI (L.take i)=s∧(L.take i).all moneyP=true∧0≤s∧s≤1000000000000000∧Keeps (fun _=>False) (w.alloc (.cells #[.slice ad n cap, .int .i64 cr, .int .i64 du] 24)) wx) (fun _ y _=>n-(intOf y).toNat)
 case atStart=>exact⟨0,0,rfl,rfl,Nat.zero_le _,rfl,rfl,by omega,by omega,Keeps.refl _ _⟩
 case round=>
  obtain⟨i,s,rfl,rfl,hin,hs,hall,hs0,hs1,hk⟩:=hrel
  obtain⟨wq,hwq⟩:∃x,x=wr:=⟨_,rfl⟩
  subst hwq
  by_cases hlt:i<n
  ·have hltI:(i:Int)<(n:Int):=by omega
   obtain⟨x,hx⟩:=get_some (L:=L) (k:=i) (by omega)
   obtain⟨g,o,he,hc⟩:=(Hr.out.keeps ((Keeps.alloc w _).nt hk) (by simp)).int (k:= .i64) hx
   subst he
   have hgl:=cell_lt hc
   have hsn:=sumI_snoc hx
   rw [hs] at hsn
   rcases m3:moneyP x with _|_
   ·have hf:Ps.rightB ⟨L,cr,du⟩=false:=by unfold Ps.rightB;rw [show scanB L=false from scan_bad1 hx m3];rfl
    obtain rfl:z=false:=Hz.out.symm.trans hf
    obtain⟨Hall,Hk,Hs,Hsn,Hx,Hf⟩:=hid6 hall hk hs hsn hx hf;clear hf hx hsn hs hk hall
    go_wp2_with (go_at_call 80;(with_reducible refine(poolMay_at m3 _).mono ?_);rintro e w1 ⟨rfl,rfl⟩)
    go_ret
    exact⟨rfl,(Keeps.alloc w _).nt Hk.out⟩
   ·obtain⟨x0,x1⟩:=(moneyP_iff x).1 m3
    rcases m4:moneyP (s+x) with _|_
    ·have hf:Ps.rightB ⟨L,cr,du⟩=false:=by
      unfold Ps.rightB
      rw [show scanB L=false from scan_bad2 (k:=i+1) (by rw [hsn];have h4:¬(0≤s+x∧s+x≤1000000000000000):=fun h=>(by rw [(moneyP_iff _).2 h] at m4;cases m4);omega)];rfl
     obtain rfl:z=false:=Hz.out.symm.trans hf
     obtain⟨Hall,Hk,Hs,Hsn,Hx,Hf⟩:=hid6 hall hk hs hsn hx hf;clear hf hx hsn hs hk hall
     go_wp2_with (first|(go_at_call 80;(with_reducible refine(poolMay_at m3 _).mono ?_);rintro e w1 ⟨rfl,rfl⟩)|(go_at_call 80;(with_reducible refine(poolMay_at m4 _).mono ?_);rintro e w1 ⟨rfl,rfl⟩))
     go_ret
     exact⟨rfl,(Keeps.alloc w _).nt Hk.out⟩
    ·obtain⟨y0,y1⟩:=(moneyP_iff _).1 m4
     have hall2:(L.take (i+1)).all moneyP=true:=by rw [take_snoc' hx,List.all_append,hall];simp [m3]
     obtain⟨Hall,Hk,Hs,Hsn,Hx,Hall2⟩:=hid6 hall hk hs hsn hx hall2;clear hall2 hx hsn hs hk hall
     go_wp2_with (first|(go_at_call 80;(with_reducible refine(poolMay_at m3 _).mono ?_);rintro e w1 ⟨rfl,rfl⟩)|(go_at_call 80;(with_reducible refine(poolMay_at m4 _).mono ?_);rintro e w1 ⟨rfl,rfl⟩))
     go_roundw
     case rel=>exact⟨i+1,s+x,rfl,by go_num,by omega,Hsn.out,Hall2.out,by omega,by omega,Hk.out⟩
     case measure=>simp [intOf];omega
  ·obtain rfl:i=n:=by omega
   rw [List.take_of_length_le (by omega)] at hs hall
   have hsc:scanB L=true:=by unfold scanB;rw [hall,hs,(moneyP_iff s).2 ⟨hs0,hs1⟩];rfl
   have hb:=Hbx.out wq hk
   have b0:=cell_of_cells hb 0
   have b1:=cell_of_cells hb 1
   have b2:=cell_of_cells hb 2
   have bl:=lt_of_block hb
   have m3:moneyP cr=moneyP cr:=rfl
   have m4:moneyP du=moneyP du:=rfl
   clear hb
   by_cases h1:1≤i
   ·have h1I:decide ((1:Int)≤(i:Int))=true:=by rw [decide_eq_true_iff];omega
    by_cases h2:i≤8
    ·have h2I:decide ((i:Int)≤8)=true:=by rw [decide_eq_true_iff];omega
     clear m3 m4
     rcases m3:moneyP cr with _|_
     ·have m4:moneyP du=moneyP du:=rfl
      have hf:Ps.rightB ⟨L,cr,du⟩=false:=by unfold Ps.rightB;simp only [hsc,hN,hs, *,decide_true,decide_false,Bool.and_true,Bool.true_and,Bool.false_and,Bool.and_false,Bool.or_true,Bool.true_or,Bool.or_false,Bool.or_self]
      obtain rfl:z=false:=Hz.out.symm.trans hf
      obtain⟨Hf,Hsc,HN,Hall,Hk⟩:=hid5 hf hsc hN hall hk;clear hk hall hN hsc hf
      go_wp2_with (first|(go_at_call 80;(with_reducible refine(poolMay_at m3 _).mono ?_);rintro e w1 ⟨rfl,rfl⟩)|(go_at_call 80;(with_reducible refine(poolMay_at m4 _).mono ?_);rintro e w1 ⟨rfl,rfl⟩))
      go_ret
      exact⟨rfl,(Keeps.alloc w _).nt Hk.out⟩
     ·rcases m4:moneyP du with _|_
      ·skip
       have hf:Ps.rightB ⟨L,cr,du⟩=false:=by unfold Ps.rightB;simp only [hsc,hN,hs, *,decide_true,decide_false,Bool.and_true,Bool.true_and,Bool.false_and,Bool.and_false,Bool.or_true,Bool.true_or,Bool.or_false,Bool.or_self]
       obtain rfl:z=false:=Hz.out.symm.trans hf
       obtain⟨Hf,Hsc,HN,Hall,Hk⟩:=hid5 hf hsc hN hall hk;clear hk hall hN hsc hf
       go_wp2_with (first|(go_at_call 80;(with_reducible refine(poolMay_at m3 _).mono ?_);rintro e w1 ⟨rfl,rfl⟩)|(go_at_call 80;(with_reducible refine(poolMay_at m4 _).mono ?_);rintro e w1 ⟨rfl,rfl⟩))
       go_ret
       exact⟨rfl,(Keeps.alloc w _).nt Hk.out⟩
      ·by_cases h5:cr=0
       ·have h5I:(cr==0)=true:=by simp [h5]
        have h5D:decide (cr=0)=true:=by simp [h5]
        clear h5
        have hf:Ps.rightB ⟨L,cr,du⟩=true:=by unfold Ps.rightB;simp only [hsc,hN,hs, *,decide_true,decide_false,Bool.and_true,Bool.true_and,Bool.false_and,Bool.and_false,Bool.or_true,Bool.true_or,Bool.or_false,Bool.or_self]
        obtain rfl:z=true:=Hz.out.symm.trans hf
        obtain⟨Hf,Hsc,HN,Hall,Hk⟩:=hid5 hf hsc hN hall hk;clear hk hall hN hsc hf
        go_wp2_with (first|(go_at_call 80;(with_reducible refine(poolMay_at m3 _).mono ?_);rintro e w1 ⟨rfl,rfl⟩)|(go_at_call 80;(with_reducible refine(poolMay_at m4 _).mono ?_);rintro e w1 ⟨rfl,rfl⟩))
        go_ret
        exact⟨rfl,(Keeps.alloc w _).nt Hk.out⟩
       ·have h5I:(cr==0)=false:=beq_eq_false_iff_ne.2 h5
        by_cases h6:s=0
        ·subst h6
         have hf:Ps.rightB ⟨L,cr,du⟩=true:=by unfold Ps.rightB;simp only [hsc,hN,hs, *,decide_true,decide_false,Bool.and_true,Bool.true_and,Bool.false_and,Bool.and_false,Bool.or_true,Bool.true_or,Bool.or_false,Bool.or_self]
         obtain rfl:z=true:=Hz.out.symm.trans hf
         obtain⟨Hf,Hsc,HN,Hall,Hk⟩:=hid5 hf hsc hN hall hk;clear hk hall hN hsc hf
         go_wp2_with (first|(go_at_call 80;(with_reducible refine(poolMay_at m3 _).mono ?_);rintro e w1 ⟨rfl,rfl⟩)|(go_at_call 80;(with_reducible refine(poolMay_at m4 _).mono ?_);rintro e w1 ⟨rfl,rfl⟩))
         go_ret
         exact⟨rfl,(Keeps.alloc w _).nt Hk.out⟩
        ·have h6I:(s==0)=false:=beq_eq_false_iff_ne.2 h6
         have hf:Ps.rightB ⟨L,cr,du⟩=false:=by unfold Ps.rightB;simp only [hsc,hN,hs, *,decide_true,decide_false,Bool.and_true,Bool.true_and,Bool.false_and,Bool.and_false,Bool.or_true,Bool.true_or,Bool.or_false,Bool.or_self]
         obtain rfl:z=false:=Hz.out.symm.trans hf
         obtain⟨Hf,Hsc,HN,Hall,Hk⟩:=hid5 hf hsc hN hall hk;clear hk hall hN hsc hf
         go_wp2_with (first|(go_at_call 80;(with_reducible refine(poolMay_at m3 _).mono ?_);rintro e w1 ⟨rfl,rfl⟩)|(go_at_call 80;(with_reducible refine(poolMay_at m4 _).mono ?_);rintro e w1 ⟨rfl,rfl⟩))
         go_ret
         exact⟨rfl,(Keeps.alloc w _).nt Hk.out⟩
    ·have h2I:decide ((i:Int)≤8)=false:=by rw [decide_eq_false_iff_not];omega
     have hf:Ps.rightB ⟨L,cr,du⟩=false:=by unfold Ps.rightB;simp only [hsc,hN,hs, *,decide_true,decide_false,Bool.and_true,Bool.true_and,Bool.false_and,Bool.and_false,Bool.or_true,Bool.true_or,Bool.or_false,Bool.or_self]
     obtain rfl:z=false:=Hz.out.symm.trans hf
     obtain⟨Hf,Hsc,HN,Hall,Hk⟩:=hid5 hf hsc hN hall hk;clear hk hall hN hsc hf
     go_wp2_with (first|(go_at_call 80;(with_reducible refine(poolMay_at m3 _).mono ?_);rintro e w1 ⟨rfl,rfl⟩)|(go_at_call 80;(with_reducible refine(poolMay_at m4 _).mono ?_);rintro e w1 ⟨rfl,rfl⟩))
     go_ret
     exact⟨rfl,(Keeps.alloc w _).nt Hk.out⟩
   ·have h1I:decide ((1:Int)≤(i:Int))=false:=by rw [decide_eq_false_iff_not];omega
    have hf:Ps.rightB ⟨L,cr,du⟩=false:=by unfold Ps.rightB;simp only [hsc,hN,hs, *,decide_true,decide_false,Bool.and_true,Bool.true_and,Bool.false_and,Bool.and_false,Bool.or_true,Bool.true_or,Bool.or_false,Bool.or_self]
    obtain rfl:z=false:=Hz.out.symm.trans hf
    obtain⟨Hf,Hsc,HN,Hall,Hk⟩:=hid5 hf hsc hN hall hk;clear hk hall hN hsc hf
    go_wp2_with (first|(go_at_call 80;(with_reducible refine(poolMay_at m3 _).mono ?_);rintro e w1 ⟨rfl,rfl⟩)|(go_at_call 80;(with_reducible refine(poolMay_at m4 _).mono ?_);rintro e w1 ⟨rfl,rfl⟩))
    go_ret
    exact⟨rfl,(Keeps.alloc w _).nt Hk.out⟩
open Go.ChangeShapes Go.WideShapes Go.RowKit Go.Deep
def Ps.list(s:Ps)(ad:Option Addr)(cap:Nat):List Value:= [.slice ad s.bal.length cap, .int .i64 s.cr, .int .i64 s.du]
theorem open_Ps{H:Type}{enc:TypeId×Value→H}{w:World}{spare:Nat→Bool}{held:Bool}(n:Nat)(cs:List Value)(d:DataW H×List MemPlace)(h:DataW.trod enc Tryz.prog w 0 spare held n 24 cs=some d):
  ∃(s:Ps) (ad:Option Addr) (cap:Nat),cs=s.list ad cap∧
   Reads w 1 (.slice ad s.bal.length cap) s.bal.length (s.bal.flatMap i64c)∧s.bal.length≤maxLen:=by
 obtain⟨xs,m,rfl,_,hlen,hxs,hf⟩:=DataW.trod_struct Tryz.underlying24 h
 have hl:cs.length=3:=hlen.trans (by kernel_rfl)
 have hx:xs.length=3:=hxs
 have g0:=hf 0 _ rfl
 have g1:=hf 1 _ rfl
 have g2:=hf 2 _ rfl
 rw [show Tryz.prog.cellsOf _=1 from by kernel_rfl,List.getElem?_eq_getElem (show 0<xs.length by omega)] at g0
 rw [show Tryz.prog.cellsOf _=1 from by kernel_rfl,List.getElem?_eq_getElem (show 1<xs.length by omega)] at g1
 rw [show Tryz.prog.cellsOf _=1 from by kernel_rfl,List.getElem?_eq_getElem (show 2<xs.length by omega)] at g2
 match cs,hl with
 | [c0,c1,c2],_=>
  obtain⟨ad,len,cap,e0⟩:∃ad len cap,c0= .slice ad len cap:=by
   rcases open_slice Tryz.underlying22 g0 with⟨h0,_⟩|⟨a,len',cap',m,n,D,Pl,h0,_⟩
   ·simp at h0;exact⟨_,_,_,h0⟩
   ·simp at h0;exact⟨_,_,_,h0⟩
  subst e0
  obtain⟨L,hLl,hr,_,hm⟩:=open_reads (f:=i64c) (size:=1) i64c_length (by decide) Tryz.underlying22 (by kernel_rfl) (fun n cs d hd=>elem_int Tryz.underlying2 n cs d hd) g0
  subst hLl
  obtain⟨a1,e1,_,w1⟩:=DataW.trod_int Tryz.underlying2 g1
  simp at e1
  subst e1
  obtain⟨a2,e2,_,w2⟩:=DataW.trod_int Tryz.underlying2 g2
  simp at e2
  subst e2
  exact⟨⟨L,a1,a2⟩,ad,cap,rfl,hr,hm⟩
set_option maxHeartbeats 400000
theorem cloneI64_any(w:World)(v:Value)(n:Nat)(xs:List Value)(hr:Reads w 1 v n xs)(h1:∀u∈xs,u.oneCell'=true)(hn:n≤1000000000000):
  Calls Tryz.prog 25 #[v] w fun e w'=>∃v',e= .returned v'∧w'.ownsRow 0 2 1 v' n xs∧Keeps (fun _=>False) w w'∧(∀k,v'.ownBlock=some k→w.heap.size≤k):=by
 obtain⟨i0,hi,hz0,hz1,hz2⟩:=info_parts info_tInt64
 have hr':=hr
 obtain⟨ad,c,rfl,hnc,hl,hnone,hcells⟩:=hr'
 clear hcells
 have heq:=fun(wx:World) (ad:Option Addr) (l c:Nat)=>Lib.run_eql_slice_nil (P:=Tryz.prog) wx 22 _ ad l c 0 0 Tryz.underlying22
 rcases ad with _|a
 ·obtain rfl:=hnone rfl
  obtain rfl:n=0:=by omega
  obtain rfl:xs= []:=List.eq_nil_of_length_eq_zero (by simpa using hl)
  have hr0:=Lib.hid hr;clear hr
  go_enter Tryz.func25,Tryz.ntmps25
  go_wp2
  go_ret
  exact⟨_,rfl,World.ownsRow_nil _ _ _ _,Keeps.refl _ _,by simp [Value.ownBlock]⟩
 ·have Hr:=Lib.hid hr;clear hr
  obtain⟨Hl,Hnone,H1⟩:=hid3 hl hnone h1;clear h1 hnone hl
  go_enter Tryz.func25,Tryz.ntmps25
  go_wp2_with (at_builtin;refine wpList_append_row rfl (.tmp 5) (.tmp 6) 22 rfl 0 2 i0 _ 1 8 Tryz.underlying22 hi hz0 hz1 hz2 rfl (by decide) _ 0 [] rfl (World.ownsRow_lit w #[] 0 (by omega) (by unfold maxLen;omega) rfl) _ n xs rfl (Hr.out.keeps (Keeps.alloc (S:=fun _=>False) _ _) (by simp)) H1.out (by unfold maxLen;omega) (by omega) (by omega) ?_)
  intro v' w1 hown1 hk1 hfr
  have hend:w1.ownsRow 0 2 1 v' n xs∧Keeps (fun _=>False) w w1∧(∀k,v'.ownBlock=some k→w.heap.size≤k):=by
   refine⟨by simpa using hown1,(Keeps.alloc w _).trans (hk1.mono fun k _ hk=> ?_),fun k hk=> ?_⟩
   ·simp only [Value.ownBlock,Option.some.injEq] at hk;omega
   ·rcases hfr with hf|⟨g,hg,hh⟩
    ·rw [hf] at hk;simp only [Value.ownBlock,Option.some.injEq] at hk;omega
    ·rw [hg] at hk;simp only [Option.some.injEq] at hk;omega
  have Hend:=Lib.hid hend;clear hend hown1 hk1 hfr
  go_wp2
  go_ret
  exact⟨_,rfl,Hend.out⟩
def ps0:Ps:=⟨[],0,0⟩
def GivesP(p:Ps)(z:Int)(w:World)(e:Ending)(w':World):Prop:=∃v,e= .returned (.tuple #[.agg #[v, .int .i64 p.cr, .int .i64 p.du], .int .i64 z])∧w'.ownsRow 0 2 1 v p.bal.length (p.bal.flatMap i64c)∧Fresh w w' v
set_option maxHeartbeats 1600000
theorem poolOwn_any(L:List Int)(cr du:Int)(v:Value)(n:Nat)(w:World)(hr:Reads w 1 v n (L.flatMap i64c))(hl:n≤1000):
  Calls Tryz.prog 49 #[.agg #[v, .int .i64 cr, .int .i64 du]] w fun e w'=>∃v',e= .returned (.agg #[v', .int .i64 cr, .int .i64 du])∧w'.ownsRow 0 2 1 v' n (L.flatMap i64c)∧Fresh w w' v':=by
 have hcl:=fun W (hW:Keeps (fun _=>False) w W)=>cloneI64_any W v n (L.flatMap i64c) (hr.keeps hW (by simp)) (i64c_one _) (by omega)
 obtain⟨ad,cap,rfl,_⟩:=id hr
 obtain⟨Hr,Hcl⟩:=hid2 hr hcl;clear hcl hr
 go_enter Tryz.func49,Tryz.ntmps49
 go_wp2_with fail
 refine(Hcl.out _ (by(repeat (first|exact Keeps.refl _ _|exact Keeps.alloc _ _|exact Keeps.drew _|exact Keeps.drewN _ _|refine Keeps.trans_drew ?_|refine Keeps.trans_drewN ?_|refine Keeps.trans_alloc ?_)))).mono ?_
 rintro e w1 ⟨v1,rfl,hrow,hk1,hnew⟩
 have hkw:=(by(repeat (first|exact Keeps.refl _ _|exact Keeps.alloc _ _|exact Keeps.drew _|exact Keeps.drewN _ _|refine Keeps.trans_drew ?_|refine Keeps.trans_drewN ?_|refine Keeps.trans_alloc ?_)):Keeps (fun _=>False) w ((w.alloc (.cells #[.slice ad n cap, .int .i64 cr, .int .i64 du] 24)).alloc (.cells #[.slice none 0 0, .int .i64 0, .int .i64 0] 24))).nt hk1
 have hb:=box_old (box_alloc (heap_alloc_new w (.cells #[.slice ad n cap, .int .i64 cr, .int .i64 du] 24)) (.cells #[.slice none 0 0, .int .i64 0, .int .i64 0] 24)) hk1 (by simp)
 have hrs:w1.heap[w.heap.size+1]?=some (.cells #[.slice none 0 0, .int .i64 0, .int .i64 0] 24 (0,0)):=box_old (halloc_at2 _ _ (by simp)) hk1 (by simp)
 have k0:Keeps (fun i=>i=w.heap.size) w1 (w1.setCell ⟨w.heap.size,0,none⟩ v1):=Keeps.setCell _ _ _ rfl
 have hrs2:=box_old hrs k0 (by simp)
 have hb3:((((w1.setCell ⟨w.heap.size,0,none⟩ v1).setCell ⟨w.heap.size+1,0,none⟩ v1).setCell ⟨w.heap.size+1,1,none⟩ (.int .i64 cr)).setCell ⟨w.heap.size+1,2,none⟩ (.int .i64 du)).heap[w.heap.size+1]?=some (.cells #[v1, .int .i64 cr, .int .i64 du] 24 (0,0)):=(heap_setCell_same _ _ 2 _ _ _ ((heap_setCell_same _ _ 1 _ _ _ ((heap_setCell_same _ _ 0 _ _ _ hrs2).trans rfl)).trans rfl)).trans rfl
 have k3:Keeps (fun i=>w.heap.size≤i) w1 ((((w1.setCell ⟨w.heap.size,0,none⟩ v1).setCell ⟨w.heap.size+1,0,none⟩ v1).setCell ⟨w.heap.size+1,1,none⟩ (.int .i64 cr)).setCell ⟨w.heap.size+1,2,none⟩ (.int .i64 du)):=
  (((Keeps.setCell (S:=fun i=>w.heap.size≤i) _ _ _ (Nat.le_refl _)).trans (Keeps.setCell _ _ _ (.inl (by simp)))).trans (Keeps.setCell _ _ _ (.inl (by simp)))).trans (Keeps.setCell _ _ _ (.inl (by simp)))
 have k4:Keeps (fun i=>i=w.heap.size∨i=w.heap.size+1) w1 ((((w1.setCell ⟨w.heap.size,0,none⟩ v1).setCell ⟨w.heap.size+1,0,none⟩ v1).setCell ⟨w.heap.size+1,1,none⟩ (.int .i64 cr)).setCell ⟨w.heap.size+1,2,none⟩ (.int .i64 du)):=
  (((Keeps.setCell (S:=fun i=>i=w.heap.size∨i=w.heap.size+1) _ _ _ (.inl rfl)).trans (Keeps.setCell _ _ _ (.inl (.inr rfl)))).trans (Keeps.setCell _ _ _ (.inl (.inr rfl)))).trans (Keeps.setCell _ _ _ (.inl (.inr rfl)))
 have hrow3:=k4.row hrow (fun g hg e=>by have:=hnew g hg;simp at this;omega)
 have hfin:Fresh w ((((w1.setCell ⟨w.heap.size,0,none⟩ v1).setCell ⟨w.heap.size+1,0,none⟩ v1).setCell ⟨w.heap.size+1,1,none⟩ (.int .i64 cr)).setCell ⟨w.heap.size+1,2,none⟩ (.int .i64 du)) v1:=⟨hkw.trans (k3.mono fun i _ e=> .inr e),fun g hg=>by have:=hnew g hg;simp at this;omega⟩
 have b0:=cell_of_cells hb 0
 have b1:=cell_of_cells hb 1
 have b2:=cell_of_cells hb 2
 have bf:=free_of_cells hb 0
 have bl:=lt_of_block hb
 have r0:=cell_of_cells hrs 0
 have r1:=cell_of_cells hrs 1
 have r2:=cell_of_cells hrs 2
 have rf0:=free_of_cells hrs 0
 have rf1:=free_of_cells hrs 1
 have rf2:=free_of_cells hrs 2
 have rl:=lt_of_block hrs
 have sr0:=cell_of_cells hb3 0
 have sr1:=cell_of_cells hb3 1
 have sr2:=cell_of_cells hb3 2
 obtain⟨ad1,c1,rfl,_,_⟩:=ownsRow_shape hrow
 obtain⟨Hrow,Hk1,Hnew,Hkw,Hb,Hrs,K0,Hrs2,Hb3⟩:=hid9 hrow hk1 hnew hkw hb hrs k0 hrs2 hb3;clear hb3 hrs2 k0 hrs hb hkw hnew hk1 hrow;obtain⟨K3,K4,Hrow3,Hfin,Sr0,Sr1,Sr2⟩:=hid7 k3 k4 hrow3 hfin sr0 sr1 sr2;clear sr2 sr1 sr0 hfin hrow3 k4 k3
 go_wp2
 have R0':=Sr0.out
 have R1':=Sr1.out
 have R2':=Sr2.out
 clear r0 r1 r2 b0 b1 b2
 exact bodyPost_ret (v:= .agg #[.slice ad1 n c1, .int .i64 cr, .int .i64 du]) (by simp [results,Tryz.results49,go_sem,R0',R1',R2']) rfl ⟨_,rfl,Hrow3.out,Hfin.out⟩
theorem poolJudged_any(L:List Int)(cr du:Int)(ad:Option Addr)(cap n:Nat)(w:World)(hr:Reads w 1 (.slice ad n cap) n (L.flatMap i64c))(hN:L.length=n)(hl:n≤1000):
  Calls Tryz.prog 51 #[.agg #[.slice ad n cap, .int .i64 cr, .int .i64 du]] w fun e w'=>e= .returned (.tuple #[.agg (if Ps.rightB ⟨L,cr,du⟩=true then #[.slice ad n cap, .int .i64 cr, .int .i64 du] else #[.slice none 0 0, .int .i64 0, .int .i64 0]), .int .i64 (if Ps.rightB ⟨L,cr,du⟩=true then 0 else 5)])∧Keeps (fun _=>False) w w':=by
 have hri:=fun W (hW:Keeps (fun _=>False) w W)=>poolRight_go L cr du ad cap n W (hr.keeps hW (by simp)) hN hl
 rcases hb:Ps.rightB ⟨L,cr,du⟩ with _|_
 ·rw [hb] at hri
  rw [if_neg (by decide),if_neg (by decide)]
  obtain⟨Hr,Hri,Hb⟩:=hid3 hr hri hb;clear hb hri hr
  go_enter Tryz.func51,Tryz.ntmps51
  go_wp2_with fail
  refine(Hri.out _ (by(repeat (first|exact Keeps.refl _ _|exact Keeps.alloc _ _|exact Keeps.drew _|exact Keeps.drewN _ _|refine Keeps.trans_drew ?_|refine Keeps.trans_drewN ?_|refine Keeps.trans_alloc ?_)))).mono ?_
  rintro e w1 ⟨rfl,hk1⟩
  have Hk1:=Lib.hid ((by(repeat (first|exact Keeps.refl _ _|exact Keeps.alloc _ _|exact Keeps.drew _|exact Keeps.drewN _ _|refine Keeps.trans_drew ?_|refine Keeps.trans_drewN ?_|refine Keeps.trans_alloc ?_)):Keeps (fun _=>False) w ((w.alloc (.cells #[.slice ad n cap, .int .i64 cr, .int .i64 du] 24)).alloc (.cells #[.slice none 0 0, .int .i64 0, .int .i64 0] 24))).nt hk1)
  have hrs:w1.heap[w.heap.size+1]?=some (.cells #[.slice none 0 0, .int .i64 0, .int .i64 0] 24 (0,0)):=box_old (halloc_at2 _ _ (by simp)) hk1 (by simp)
  have r0:=cell_of_cells hrs 0
  have r1:=cell_of_cells hrs 1
  have r2:=cell_of_cells hrs 2
  have rf0:=free_of_cells hrs 0
  have rf1:=free_of_cells hrs 1
  have rf2:=free_of_cells hrs 2
  have rl:=lt_of_block hrs
  have hb3:(((w1.setCell ⟨w.heap.size+1,0,none⟩ (.slice none 0 0)).setCell ⟨w.heap.size+1,1,none⟩ (.int .i64 0)).setCell ⟨w.heap.size+1,2,none⟩ (.int .i64 0)).heap[w.heap.size+1]?=some (.cells #[.slice none 0 0, .int .i64 0, .int .i64 0] 24 (0,0)):=(heap_setCell_same _ _ 2 _ _ _ ((heap_setCell_same _ _ 1 _ _ _ ((heap_setCell_same _ _ 0 _ _ _ hrs).trans rfl)).trans rfl)).trans rfl
  have sr0:=cell_of_cells hb3 0
  have sr1:=cell_of_cells hb3 1
  have sr2:=cell_of_cells hb3 2
  have hfin:Keeps (fun _=>False) w (((w1.setCell ⟨w.heap.size+1,0,none⟩ (.slice none 0 0)).setCell ⟨w.heap.size+1,1,none⟩ (.int .i64 0)).setCell ⟨w.heap.size+1,2,none⟩ (.int .i64 0)):=Hk1.out.trans ((((Keeps.setCell (S:=fun i=>w.heap.size≤i) _ _ _ (by simp)).trans (Keeps.setCell _ _ _ (.inl (by simp)))).trans (Keeps.setCell _ _ _ (.inl (by simp)))).mono fun i _ e=> .inr e)
  obtain⟨Hk1,Hrs,Hb3,Hfin,Sr0,Sr1,Sr2⟩:=hid7 hk1 hrs hb3 hfin sr0 sr1 sr2;clear sr2 sr1 sr0 hfin hb3 hrs hk1
  go_wp2
  have R0':=Sr0.out
  have R1':=Sr1.out
  have R2':=Sr2.out
  clear r0 r1 r2
  exact bodyPost_ret (v:= .tuple #[.agg #[.slice none 0 0, .int .i64 0, .int .i64 0], .int .i64 5]) (by simp [results,Tryz.results51,go_sem,R0',R1',R2']) rfl ⟨rfl,Hfin.out⟩
 ·rw [hb] at hri
  rw [if_pos rfl,if_pos rfl]
  obtain⟨Hr,Hri,Hb⟩:=hid3 hr hri hb;clear hb hri hr
  go_enter Tryz.func51,Tryz.ntmps51
  go_wp2_with fail
  refine(Hri.out _ (by(repeat (first|exact Keeps.refl _ _|exact Keeps.alloc _ _|exact Keeps.drew _|exact Keeps.drewN _ _|refine Keeps.trans_drew ?_|refine Keeps.trans_drewN ?_|refine Keeps.trans_alloc ?_)))).mono ?_
  rintro e w1 ⟨rfl,hk1⟩
  have hbx:=box_old (box_alloc (heap_alloc_new w (.cells #[.slice ad n cap, .int .i64 cr, .int .i64 du] 24)) (.cells #[.slice none 0 0, .int .i64 0, .int .i64 0] 24)) hk1 (by simp)
  have b0:=cell_of_cells hbx 0
  have b1:=cell_of_cells hbx 1
  have b2:=cell_of_cells hbx 2
  have bl:=lt_of_block hbx
  have Hk1:=Lib.hid ((by(repeat (first|exact Keeps.refl _ _|exact Keeps.alloc _ _|exact Keeps.drew _|exact Keeps.drewN _ _|refine Keeps.trans_drew ?_|refine Keeps.trans_drewN ?_|refine Keeps.trans_alloc ?_)):Keeps (fun _=>False) w ((w.alloc (.cells #[.slice ad n cap, .int .i64 cr, .int .i64 du] 24)).alloc (.cells #[.slice none 0 0, .int .i64 0, .int .i64 0] 24))).nt hk1)
  have hrs:w1.heap[w.heap.size+1]?=some (.cells #[.slice none 0 0, .int .i64 0, .int .i64 0] 24 (0,0)):=box_old (halloc_at2 _ _ (by simp)) hk1 (by simp)
  have Hbx:=Lib.hid hbx;clear hbx
  have r0:=cell_of_cells hrs 0
  have r1:=cell_of_cells hrs 1
  have r2:=cell_of_cells hrs 2
  have rf0:=free_of_cells hrs 0
  have rf1:=free_of_cells hrs 1
  have rf2:=free_of_cells hrs 2
  have rl:=lt_of_block hrs
  have hb3:(((w1.setCell ⟨w.heap.size+1,0,none⟩ (.slice ad n cap)).setCell ⟨w.heap.size+1,1,none⟩ (.int .i64 cr)).setCell ⟨w.heap.size+1,2,none⟩ (.int .i64 du)).heap[w.heap.size+1]?=some (.cells #[.slice ad n cap, .int .i64 cr, .int .i64 du] 24 (0,0)):=(heap_setCell_same _ _ 2 _ _ _ ((heap_setCell_same _ _ 1 _ _ _ ((heap_setCell_same _ _ 0 _ _ _ hrs).trans rfl)).trans rfl)).trans rfl
  have sr0:=cell_of_cells hb3 0
  have sr1:=cell_of_cells hb3 1
  have sr2:=cell_of_cells hb3 2
  have hfin:Keeps (fun _=>False) w (((w1.setCell ⟨w.heap.size+1,0,none⟩ (.slice ad n cap)).setCell ⟨w.heap.size+1,1,none⟩ (.int .i64 cr)).setCell ⟨w.heap.size+1,2,none⟩ (.int .i64 du)):=Hk1.out.trans ((((Keeps.setCell (S:=fun i=>w.heap.size≤i) _ _ _ (by simp)).trans (Keeps.setCell _ _ _ (.inl (by simp)))).trans (Keeps.setCell _ _ _ (.inl (by simp)))).mono fun i _ e=> .inr e)
  obtain⟨Hk1,Hrs,Hb3,Hfin,Sr0,Sr1,Sr2⟩:=hid7 hk1 hrs hb3 hfin sr0 sr1 sr2;clear sr2 sr1 sr0 hfin hb3 hrs hk1
  go_wp2
  have R0':=Sr0.out
  have R1':=Sr1.out
  have R2':=Sr2.out
  clear r0 r1 r2
  exact bodyPost_ret (v:= .tuple #[.agg #[.slice ad n cap, .int .i64 cr, .int .i64 du], .int .i64 0]) (by simp [results,Tryz.results51,go_sem,R0',R1',R2']) rfl ⟨rfl,Hfin.out⟩
def trB(n:Nat)(k:Int):Bool:=decide (1≤k)&&decide (k≤n)
def askE(p:Ps)(T:List Int)(a:Int):Int:=if p.rightB=true then(if T.all (trB p.bal.length)=true then(if moneyP a=true then 0 else 8) else 7) else 1
theorem poolAsked_any(L:List Int)(cr du a:Int)(T:List Int)(ad adT:Option Addr)(cap capT n m:Nat)(w:World)(hr:Reads w 1 (.slice ad n cap) n (L.flatMap i64c))(hN:L.length=n)(hl:n≤1000)(hT:Reads w 1 (.slice adT m capT) m (T.flatMap i64c))(hM:T.length=m)(hm:m≤1000):
  Calls Tryz.prog 48 #[.agg #[.slice ad n cap, .int .i64 cr, .int .i64 du], .int .i64 a, .slice adT m capT] w fun e w'=>e= .returned (.int .i64 (askE ⟨L,cr,du⟩ T a))∧Keeps (fun _=>False) w w':=by
 have hri:=fun W (hW:Keeps (fun _=>False) w W)=>poolRight_go L cr du ad cap n W (hr.keeps hW (by simp)) hN hl
 obtain⟨z,hz⟩:∃z,askE ⟨L,cr,du⟩ T a=z:=⟨_,rfl⟩
 have hz':=hz
 unfold askE at hz'
 simp only at hz'
 rw [hN] at hz'
 rw [hz]
 have hbx:∀W,Keeps (fun _=>False) (w.alloc (.cells #[.slice ad n cap, .int .i64 cr, .int .i64 du] 24)) W→W.heap[w.heap.size]?=some (.cells #[.slice ad n cap, .int .i64 cr, .int .i64 du] 24 (0,0)):=fun W hW=>box_old (heap_alloc_new w _) hW (by simp)
 rcases hb:Ps.rightB ⟨L,cr,du⟩ with _|_
 ·rw [hb] at hri hz'
  rw [if_neg (by decide)] at hz'
  subst hz'
  obtain⟨Hr,HT,Hri,Hb,Hz,Hbx⟩:=hid6 hr hT hri hb hz hbx;clear hbx hz hb hri hT hr
  go_enter Tryz.func48,Tryz.ntmps48
  go_wp2_with fail
  refine(Hri.out _ (by(repeat (first|exact Keeps.refl _ _|exact Keeps.alloc _ _|exact Keeps.drew _|exact Keeps.drewN _ _|refine Keeps.trans_drew ?_|refine Keeps.trans_drewN ?_|refine Keeps.trans_alloc ?_)))).mono ?_
  rintro e w1 ⟨rfl,hk1⟩
  have Hk1:=Lib.hid ((Keeps.alloc w _).nt hk1)
  clear hk1
  go_wp2
  go_ret
  exact⟨rfl,Hk1.out⟩
 ·rw [hb] at hri hz'
  rw [if_pos rfl] at hz'
  obtain⟨Hr,HT,Hri,Hb,Hz,Hz',Hbx⟩:=hid7 hr hT hri hb hz hz' hbx;clear hbx hz' hz hb hri hT hr
  go_enter Tryz.func48,Tryz.ntmps48
  go_wp2_with fail
  refine(Hri.out _ (by(repeat (first|exact Keeps.refl _ _|exact Keeps.alloc _ _|exact Keeps.drew _|exact Keeps.drewN _ _|refine Keeps.trans_drew ?_|refine Keeps.trans_drewN ?_|refine Keeps.trans_alloc ?_)))).mono ?_
  rintro e w1 ⟨rfl,hk1⟩
  have Hk1:=Lib.hid hk1
  clear hk1
  go_wp2
  go_loopw [14] (fun x wx=>∃i:Nat,x= .int .i64 (i:Nat)∧i≤m∧(T.take i).all (trB n)=true∧Keeps (fun _=>False) w1 wx) (fun x _=>m-(intOf x).toNat)
  case atStart=>exact⟨0,rfl,Nat.zero_le _,rfl,Keeps.refl _ _⟩
  case round=>
   obtain⟨i,rfl,him,hall,hk⟩:=hrel
   obtain⟨wq,hwq⟩:∃x,x=wr:=⟨_,rfl⟩
   subst hwq
   have hkb:=Hk1.out.nt hk
   have hkw:=(Keeps.alloc w _).nt hkb
   by_cases hlt:i<m
   ·have hltI:(i:Int)<(m:Int):=by omega
    obtain⟨k,hx⟩:=get_some (L:=T) (k:=i) (by omega)
    obtain⟨g,o,he,hc⟩:=(HT.out.keeps hkw (by simp)).int (k:= .i64) hx
    subst he
    have hgl:=cell_lt hc
    have hb:=Hbx.out wq hkb
    have b0:=cell_of_cells hb 0
    have bl:=lt_of_block hb
    clear hb
    by_cases hk1:1≤k∧k≤n
    ·obtain⟨k1,k2⟩:=hk1
     have hall2:(T.take (i+1)).all (trB n)=true:=by rw [take_snoc' hx,List.all_append,hall];simp [trB,k1,k2]
     have k1':¬k<1:=by omega
     have k2':¬(n:Int)<k:=by omega
     obtain⟨Hall,Hk,Hkb,Hkw,Hx,Hall2⟩:=hid6 hall hk hkb hkw hx hall2;clear hall2 hx hkw hkb hk hall
     go_wp2
     go_roundw
     case rel=>exact⟨i+1,by go_num,by omega,Hall2.out,Hk.out⟩
     case measure=>simp [intOf];omega
    ·have hbad:T.all (trB n)=false:=by
      rw [Bool.eq_false_iff];intro h
      have:=List.all_eq_true.1 h k (List.mem_of_getElem? hx)
      simp [trB] at this;omega
     have h:=Hz'.out
     rw [hbad,if_neg (by decide)] at h
     subst h
     obtain⟨Hall,Hk,Hkb,Hkw,Hx,Hbad⟩:=hid6 hall hk hkb hkw hx hbad;clear hbad hx hkw hkb hk hall
     by_cases k1:k<1
     ·clear hk1
      go_wp2
      go_ret
      exact⟨rfl,Hkw.out⟩
     ·have k2:(n:Int)<k:=by omega
      clear hk1
      go_wp2
      go_ret
      exact⟨rfl,Hkw.out⟩
   ·obtain rfl:i=m:=by omega
    rw [List.take_of_length_le (by omega)] at hall
    have h:=Hz'.out
    rw [hall,if_pos rfl] at h
    rcases m3:moneyP a with _|_
    ·rw [m3,if_neg (by decide)] at h
     subst h
     obtain⟨Hall,Hk,Hkb,Hkw⟩:=hid4 hall hk hkb hkw;clear hkw hkb hk hall
     go_wp2_with (go_at_call 80;(with_reducible refine(poolMay_at m3 _).mono ?_);rintro e w2 ⟨rfl,rfl⟩)
     go_ret
     exact⟨rfl,Hkw.out⟩
    ·rw [m3,if_pos rfl] at h
     subst h
     obtain⟨Hall,Hk,Hkb,Hkw⟩:=hid4 hall hk hkb hkw;clear hkw hkb hk hall
     go_wp2_with (go_at_call 80;(with_reducible refine(poolMay_at m3 _).mono ?_);rintro e w2 ⟨rfl,rfl⟩)
     go_ret
     exact⟨rfl,Hkw.out⟩
def chargeP(p:Ps)(k a:Int):Ps:=⟨p.bal.set (k-1).toNat (p.bal.getD (k-1).toNat 0+(a-minI a p.cr)),p.cr-minI a p.cr,p.du⟩
theorem poolCharge0_any(B g c:Nat)(L:List Int)(cr du k a:Int)(n:Nat)(w:World)(hb:w.heap[B]?=some (.cells #[.slice (some ⟨g,0,none⟩) n c, .int .i64 cr, .int .i64 du] 24 (0,0)))(hrow:RowZ w 2 g n c L)(hm:∀x,L[(k-1).toNat]?=some x→0≤x∧x≤1000000000000000)(hcr:0≤cr∧cr≤1000000000000000)(ha:0≤a∧a≤1000000000000000)(hk:1≤k∧k≤n)(hn:n≤1000):
  Calls Tryz.prog 50 #[(.pointer (some ⟨B,0,none⟩)), .int .i64 k, .int .i64 a] w fun e w'=>e= .returned (.tuple #[])∧w'.heap[B]?=some (.cells #[.slice (some ⟨g,0,none⟩) n c, .int .i64 (cr-minI a cr), .int .i64 du] 24 (0,0))∧RowZ w' 2 g n c (L.set (k-1).toNat (L.getD (k-1).toNat 0+(a-minI a cr)))∧Keeps (fun i=>i=B∨i=g) w w':=by
 obtain⟨i,hi⟩:∃i:Nat,(i:Int)=k-1:=⟨(k-1).toNat,by omega⟩
 have hlen:=hrow.2
 obtain⟨x,hx⟩:=get_some (L:=L) (k:=i) (by omega)
 have q3:(k-1).toNat=i:=by omega
 obtain⟨x1,x2⟩:=hm x (by rw [q3];exact hx)
 have hxD:L.getD (k-1).toNat 0=x:=by rw [q3,List.getD_eq_getElem?_getD,hx];rfl
 rw [hxD,q3]
 obtain⟨m,hmin⟩:∃m,minI a cr=m:=⟨_,rfl⟩
 have hm2:0≤m∧m≤a∧m≤cr:=by rw [←hmin];unfold minI;split<;>omega
 rw [hmin]
 have hgB:g≠B:=fun e=>by
  subst e
  exact ownsRow_ne hrow.1 hb (by decide) rfl
 have b0:=cell_of_cells hb 0
 have b1:=cell_of_cells hb 1
 have b2:=cell_of_cells hb 2
 have f1:=free_of_cells hb 1
 have bl:=lt_of_block hb
 have ck:=hrow.cell hx
 have fk:=hrow.free i
 have lg:=hrow.lt
 have q1:(0:Int)≤k-1:=by omega
 have q2:k-1<(n:Int):=by omega
 have q4:IntKind.i64.wrap (k-1)=k-1:=IntWalk.i64_in _ ⟨by omega,by omega⟩
 have k1:Keeps (fun i=>i=B) w (w.setCell ⟨B,1,none⟩ (.int .i64 (cr-m))):=Keeps.setCell _ _ _ rfl
 have k2:Keeps (fun i=>i=g) (w.setCell ⟨B,1,none⟩ (.int .i64 (cr-m))) ((w.setCell ⟨B,1,none⟩ (.int .i64 (cr-m))).setCell ⟨g,i,none⟩ (.int .i64 (x+(a-m)))):=Keeps.setCell _ _ _ rfl
 have hrow1:RowZ (w.setCell ⟨B,1,none⟩ (.int .i64 (cr-m))) 2 g n c L:=⟨k1.row hrow.1 (fun g' hg e=>by simp only [Value.ownBlock,Option.some.injEq] at hg;subst hg;exact hgB e),hrow.2⟩
 have hin:i<n:=by omega
 have hpost:((w.setCell ⟨B,1,none⟩ (.int .i64 (cr-m))).setCell ⟨g,i,none⟩ (.int .i64 (x+(a-m)))).heap[B]?=some (.cells #[.slice (some ⟨g,0,none⟩) n c, .int .i64 (cr-m), .int .i64 du] 24 (0,0))∧RowZ ((w.setCell ⟨B,1,none⟩ (.int .i64 (cr-m))).setCell ⟨g,i,none⟩ (.int .i64 (x+(a-m)))) 2 g n c (L.set i (x+(a-m)))∧Keeps (fun i=>i=B∨i=g) w ((w.setCell ⟨B,1,none⟩ (.int .i64 (cr-m))).setCell ⟨g,i,none⟩ (.int .i64 (x+(a-m)))):=
  ⟨box_old ((heap_setCell_same _ _ 1 _ _ _ hb).trans rfl) k2 (fun e=>hgB e.symm),hrow1.set hin _,(k1.mono fun i _ e=> .inl e).trans (k2.mono fun i _ e=> .inl (.inr e))⟩
 have hgB2:¬B=g:=fun e=>hgB e.symm
 obtain⟨ha0,ha1⟩:=ha
 obtain⟨hc0,hc1⟩:=hcr
 obtain⟨m0,m1,m2⟩:=hm2
 by_cases hle:a≤cr
 ·obtain rfl:m=a:=by rw [←hmin];unfold minI;rw [if_pos hle]
  rw [Int.sub_self,Int.add_zero] at hpost⊢
  obtain⟨Hb,Hrow,Hx,HxD,Hmin,K1,K2,Hrow1,Hpost⟩:=hid9 hb hrow hx hxD hmin k1 k2 hrow1 hpost;clear hpost hrow1 k2 k1 hmin hxD hx hrow hb;obtain⟨Hi,Hm⟩:=hid2 hi hm;clear hm hi
  go_enter Tryz.func50,Tryz.ntmps50
  go_wp2
  go_end0
  exact⟨rfl,Hpost.out⟩
 ·obtain rfl:m=cr:=by rw [←hmin];unfold minI;rw [if_neg hle]
  rw [Int.sub_self] at hpost⊢
  obtain⟨Hb,Hrow,Hx,HxD,Hmin,K1,K2,Hrow1,Hpost⟩:=hid9 hb hrow hx hxD hmin k1 k2 hrow1 hpost;clear hpost hrow1 k2 k1 hmin hxD hx hrow hb;obtain⟨Hi,Hm⟩:=hid2 hi hm;clear hm hi
  go_enter Tryz.func50,Tryz.ntmps50
  go_wp2
  go_end0
  exact⟨rfl,Hpost.out⟩
theorem Keeps.te{S T:Nat→Prop}{w w1 w2:World}(h:Keeps S w w1)(h2:Keeps T w1 w2)(hs:∀i,T i→S i):Keeps S w w2:=h.trans (h2.mono fun i _ e=> .inl (hs i e))
theorem store3 {W : World} {R : Nat} {t : TypeId} {v0 c0 d0 : Value} (h : W.heap[R]? = some (.cells #[v0, c0, d0] t (0, 0))) (v c d : Value) :
    (((W.setCell ⟨R, 0, none⟩ v).setCell ⟨R, 1, none⟩ c).setCell ⟨R, 2, none⟩ d).heap[R]? = some (.cells #[v, c, d] t (0, 0)) ∧ Keeps (fun i => i = R) W (((W.setCell ⟨R, 0, none⟩ v).setCell ⟨R, 1, none⟩ c).setCell ⟨R, 2, none⟩ d) :=
  ⟨(heap_setCell_same _ _ 2 _ _ _ ((heap_setCell_same _ _ 1 _ _ _ ((heap_setCell_same _ _ 0 _ _ _ h).trans rfl)).trans rfl)).trans rfl,
   ((Keeps.setCell (S := fun i => i = R) _ _ _ rfl).trans (Keeps.setCell _ _ _ (.inl rfl))).trans (Keeps.setCell _ _ _ (.inl rfl))⟩
theorem owns_head{w:World}{b:Nat}{e:TypeId}{s:Nat}{v:Value}{n:Nat}{xs:List Value}(h:w.ownsRow b e s v n xs)(hn:1≤n):∃g c,v= .slice (some ⟨g,0,none⟩) n c:=by
 rcases h.2 with⟨_,h0⟩|⟨g,c,_,h,_⟩
 ·omega
 ·exact⟨g,c,h⟩
theorem askE_zero{p:Ps}{T:List Int}{a:Int}(h:askE p T a=0):p.rightB=true∧T.all (trB p.bal.length)=true∧moneyP a=true:=by
 unfold askE at h
 rcases h1:p.rightB with _|_
 ·rw [h1,if_neg (by decide)] at h;omega
 ·rw [h1,if_pos rfl] at h
  rcases h2:T.all (trB p.bal.length) with _|_
  ·rw [h2,if_neg (by decide)] at h;omega
  ·rw [h2,if_pos rfl] at h
   rcases h3:moneyP a with _|_
   ·rw [h3,if_neg (by decide)] at h;omega
   ·exact⟨rfl,rfl,rfl⟩
theorem right_nums{p:Ps}(h:p.rightB=true):(∀x∈p.bal,0≤x∧x≤1000000000000000)∧(0≤p.cr∧p.cr≤1000000000000000)∧(0≤p.du∧p.du≤1000000000000000)∧1≤p.bal.length∧p.bal.length≤8:=by
 simp only [Ps.rightB,scanB,Bool.and_eq_true,decide_eq_true_eq] at h
 obtain⟨⟨h1,_⟩,h2,h3,h4,h5,_⟩:=h
 exact⟨fun x hx=>(moneyP_iff x).1 (List.all_eq_true.1 h1 x hx),(moneyP_iff _).1 h4,(moneyP_iff _).1 h5,h2,h3⟩
def chargeR(p:Ps)(k a:Int):Ps×Int:=if askE p [k] a=0 then(if(chargeP p k a).rightB=true then(chargeP p k a,0) else(ps0,5)) else(ps0,askE p [k] a)
theorem poolCharge_any(L:List Int)(cr du k a:Int)(ad:Option Addr)(cap n:Nat)(w:World)(hr:Reads w 1 (.slice ad n cap) n (L.flatMap i64c))(hN:L.length=n)(hl:n≤1000):
  Calls Tryz.prog 26 #[.agg #[.slice ad n cap, .int .i64 cr, .int .i64 du], .int .i64 k, .int .i64 a] w (GivesP (chargeR ⟨L,cr,du⟩ k a).1 (chargeR ⟨L,cr,du⟩ k a).2 w):=by
 obtain⟨z,hz⟩:∃z,askE ⟨L,cr,du⟩ [k] a=z:=⟨_,rfl⟩
 have hask:=fun(W:World) (g:Nat) (hW:Keeps (fun _=>False) w W) (hT:Reads W 1 (.slice (some ⟨g,0,none⟩) 1 1) 1 ([k].flatMap i64c))=>poolAsked_any L cr du a [k] ad (some ⟨g,0,none⟩) cap 1 n 1 W (hr.keeps hW (by simp)) hN hl hT rfl (by decide)
 rw [hz] at hask
 unfold chargeR
 rw [hz]
 by_cases h0:z=0
 ·subst h0
  rw [if_pos rfl]
  obtain⟨hright,htr,hmon⟩:=askE_zero hz
  obtain⟨hbal,hcr,hdu,hn1,hn8⟩:=right_nums hright
  simp only at hbal hcr hdu hn1 hn8
  rw [hN] at hn1 hn8
  have hkk:1≤k∧k≤n:=by simpa [trB,hN] using htr
  have ham:=(moneyP_iff a).1 hmon
  have hown:=fun W (hW:Keeps (fun _=>False) w W)=>poolOwn_any L cr du (.slice ad n cap) n W (hr.keeps hW (by simp)) hl
  obtain⟨q,hq⟩:∃q,chargeP ⟨L,cr,du⟩ k a=q:=⟨_,rfl⟩
  rw [hq]
  obtain⟨R,hR⟩:∃R:Ps×Int,(if q.rightB=true then(q,0) else(ps0,5))=R:=⟨_,rfl⟩
  rw [hR]
  obtain⟨Hr,Hask,Hown,Hz,Hright,Htr,Hmon,Hbal,Hcr⟩:=hid9 hr hask hown hz hright htr hmon hbal hcr;clear hcr hbal hmon htr hright hz hown hask hr;obtain⟨Hdu,Hkk,Ham,Hq,HR⟩:=hid5 hdu hkk ham hq hR;clear hR hq ham hkk hdu
  go_enter Tryz.func26,Tryz.ntmps26
  go_wp2_with fail
  all_goals
   refine(Hask.out _ _ (by(repeat (first|exact Keeps.refl _ _|exact Keeps.alloc _ _|exact Keeps.drew _|exact Keeps.drewN _ _|refine Keeps.trans_drew ?_|refine Keeps.trans_drewN ?_|refine Keeps.trans_alloc ?_))) (Reads.litAt _ _ _ 1 1 _ (by simp) rfl)).mono ?_
   rintro e w1 ⟨rfl,hk1⟩
   have hkw:Keeps (fun _=>False) w w1:=(by(repeat (first|exact Keeps.refl _ _|exact Keeps.alloc _ _|exact Keeps.drew _|exact Keeps.drewN _ _|refine Keeps.trans_drew ?_|refine Keeps.trans_drewN ?_|refine Keeps.trans_alloc ?_)):Keeps (fun _=>False) w (((w.alloc (.cells #[.slice ad n cap, .int .i64 cr, .int .i64 du] 24)).alloc (.cells #[.slice none 0 0, .int .i64 0, .int .i64 0] 24)).alloc (.cells #[.int .i64 k] 3))).nt hk1
   have hbx:w1.heap[w.heap.size]?=some (.cells #[.slice ad n cap, .int .i64 cr, .int .i64 du] 24 (0,0)):=box_old (box_alloc (box_alloc (heap_alloc_new w _) _) _) hk1 (by simp)
   have hrs:w1.heap[w.heap.size+1]?=some (.cells #[.slice none 0 0, .int .i64 0, .int .i64 0] 24 (0,0)):=box_old (box_alloc (halloc_at2 _ _ (by simp)) _) hk1 (by simp)
   have b0:=cell_of_cells hbx 0
   have b1:=cell_of_cells hbx 1
   have b2:=cell_of_cells hbx 2
   have bl:=lt_of_block hbx
   obtain⟨Hk1,Hkw,Hbx,Hrs⟩:=hid4 hk1 hkw hbx hrs;clear hrs hbx hkw hk1
   go_wp2_with fail
   refine(Hown.out _ Hkw.out).mono ?_
   rintro e w2 ⟨v1,rfl,hrow,hk2,hnew⟩
   obtain⟨g,c,rfl⟩:=owns_head hrow hn1
   have hgn:w1.heap.size≤g:=hnew g rfl
   have hbx2:=box_old Hbx.out hk2 (by simp)
   clear b0 b1 b2 bl
   have hgB:g≠w.heap.size:=by have:=lt_of_block Hbx.out;omega
   have hgR:g≠w.heap.size+1:=by have:=lt_of_block Hrs.out;omega
   have hS:=store3 hbx2 (.slice (some ⟨g,0,none⟩) n c) (.int .i64 cr) (.int .i64 du)
   obtain⟨hb3,k3⟩:=hS
   have hrow3:=k3.row hrow (fun g' hg e=>by simp only [Value.ownBlock,Option.some.injEq] at hg;subst hg;exact hgB e)
   have hc0:=poolCharge0_any w.heap.size g c L cr du k a n _ hb3 ⟨hrow3,hN⟩ (fun x hx=>Hbal.out x (List.mem_of_getElem? hx)) Hcr.out Ham.out Hkk.out hl
   have c0:=cell_of_cells hbx2 0
   have c1:=cell_of_cells hbx2 1
   have c2:=cell_of_cells hbx2 2
   have f0:=free_of_cells hbx2 0
   have f1:=free_of_cells hbx2 1
   have f2:=free_of_cells hbx2 2
   have bl2:=lt_of_block hbx2
   obtain⟨Hrow,Hk2,Hnew,Hgn,Hbx2,HgB,HgR,Hb3,K3⟩:=hid9 hrow hk2 hnew hgn hbx2 hgB hgR hb3 k3;clear k3 hb3 hgR hgB hbx2 hgn hnew hk2 hrow;obtain⟨Hrow3,Hc0⟩:=hid2 hrow3 hc0;clear hc0 hrow3
   go_wp2_with fail
   refine Hc0.out.mono ?_
   rintro e w4 ⟨rfl,hb4,hrow4,hk4⟩
   clear c0 c1 c2 f0 f1 f2 bl2
   obtain⟨L2,hL2⟩:∃x,L.set (k-1).toNat (L.getD (k-1).toNat 0+(a-minI a cr))=x:=⟨_,rfl⟩
   obtain⟨c2,hc2⟩:∃x,cr-minI a cr=x:=⟨_,rfl⟩
   have hq:=Hq.out
   unfold chargeP at hq
   simp only at hq
   rw [hL2,hc2] at hq
   rw [hL2] at hrow4
   rw [hc2] at hb4
   clear Hq
   subst hq
   have hrs4:w4.heap[w.heap.size+1]?=some (.cells #[.slice none 0 0, .int .i64 0, .int .i64 0] 24 (0,0)):=box_old (box_old (box_old Hrs.out Hk2.out (by simp)) K3.out (by simp)) hk4 (by have:=HgR.out;simp;omega)
   have hjud:=poolJudged_any L2 c2 du (some ⟨g,0,none⟩) c n w4 hrow4.reads hrow4.2 hl
   have b0:=cell_of_cells hb4 0
   have b1:=cell_of_cells hb4 1
   have b2:=cell_of_cells hb4 2
   have bl:=lt_of_block hb4
   rcases hrt:Ps.rightB ⟨L2,c2,du⟩ with _|_
   ·skip
    rw [hrt,if_neg (by decide),if_neg (by decide)] at hjud
    have hR:=HR.out
    clear HR
    rw [hrt,if_neg (by decide)] at hR
    subst hR
    obtain⟨HL2,Hc2,Hb4,Hrow4,Hk4,Hrs4,Hjud,Hrt⟩:=hid8 hL2 hc2 hb4 hrow4 hk4 hrs4 hjud hrt;clear hrt hjud hrs4 hk4 hrow4 hb4 hc2 hL2
    go_wp2_with fail
    refine Hjud.out.mono ?_
    rintro e w5 ⟨rfl,hk5⟩
    clear b0 b1 b2 bl
    have hrs5:=box_old Hrs4.out hk5 (by simp)
    have hS3:=store3 hrs5 (.slice none 0 0) (.int .i64 0) (.int .i64 0)
    obtain⟨hb9,k9⟩:=hS3
    have r0:=cell_of_cells hrs5 0
    have r1:=cell_of_cells hrs5 1
    have r2:=cell_of_cells hrs5 2
    have rf0:=free_of_cells hrs5 0
    have rf1:=free_of_cells hrs5 1
    have rf2:=free_of_cells hrs5 2
    have rl:=lt_of_block hrs5
    have sr0:=cell_of_cells hb9 0
    have sr1:=cell_of_cells hb9 1
    have sr2:=cell_of_cells hb9 2
    obtain⟨Hrs5,Hb9,K9,Sr0,Sr1,Sr2⟩:=hid6 hrs5 hb9 k9 sr0 sr1 sr2;clear sr2 sr1 sr0 k9 hb9 hrs5
    have Hk5:=Lib.hid hk5;clear hk5
    go_wp2
    have R0':=Sr0.out
    have R1':=Sr1.out
    have R2':=Sr2.out
    clear r0 r1 r2
    exact bodyPost_ret (v:= .tuple #[.agg #[.slice none 0 0, .int .i64 0, .int .i64 0], .int .i64 5]) (by simp [results,Tryz.results26,go_sem,R0',R1',R2']) rfl ⟨_,rfl,⟨by simp [ps0], .inl ⟨rfl,rfl⟩⟩,Hkw.out.trans (((((Hk2.out.mono (fun _ _ e=>e.elim):Keeps (fun i=>w.heap.size≤i) _ _).te K3.out (fun i e=>by have e':i=w.heap.size:=e;omega)).te Hk4.out (fun i e=>by have h1:=Hgn.out;have h2:=Hkw.out.size;rcases e with e'|e'<;>omega)).te Hk5.out (fun i e=>e.elim)).te K9.out (fun i e=>by have e':i=w.heap.size+1:=e;omega)|>.mono fun i _ e=> .inr e),fun g hg=>by simp [Value.ownBlock] at hg⟩
   ·skip
    rw [hrt,if_pos rfl,if_pos rfl] at hjud
    have hR:=HR.out
    clear HR
    rw [hrt,if_pos rfl] at hR
    subst hR
    obtain⟨HL2,Hc2,Hb4,Hrow4,Hk4,Hrs4,Hjud,Hrt⟩:=hid8 hL2 hc2 hb4 hrow4 hk4 hrs4 hjud hrt;clear hrt hjud hrs4 hk4 hrow4 hb4 hc2 hL2
    go_wp2_with fail
    refine Hjud.out.mono ?_
    rintro e w5 ⟨rfl,hk5⟩
    clear b0 b1 b2 bl
    have hrs5:=box_old Hrs4.out hk5 (by simp)
    have hS3:=store3 hrs5 (.slice (some ⟨g,0,none⟩) n c) (.int .i64 c2) (.int .i64 du)
    obtain⟨hb9,k9⟩:=hS3
    have r0:=cell_of_cells hrs5 0
    have r1:=cell_of_cells hrs5 1
    have r2:=cell_of_cells hrs5 2
    have rf0:=free_of_cells hrs5 0
    have rf1:=free_of_cells hrs5 1
    have rf2:=free_of_cells hrs5 2
    have rl:=lt_of_block hrs5
    have sr0:=cell_of_cells hb9 0
    have sr1:=cell_of_cells hb9 1
    have sr2:=cell_of_cells hb9 2
    obtain⟨Hrs5,Hb9,K9,Sr0,Sr1,Sr2⟩:=hid6 hrs5 hb9 k9 sr0 sr1 sr2;clear sr2 sr1 sr0 k9 hb9 hrs5
    have Hk5:=Lib.hid hk5;clear hk5
    go_wp2
    have R0':=Sr0.out
    have R1':=Sr1.out
    have R2':=Sr2.out
    clear r0 r1 r2
    have hrow6:=K9.out.row (Hrow4.out.1.of_keeps Hk5.out) (fun g' hg e=>by simp only [Value.ownBlock,Option.some.injEq] at hg;subst hg;exact HgR.out e)
    have hlen2:=Hrow4.out.2
    exact bodyPost_ret (v:= .tuple #[.agg #[.slice (some ⟨g,0,none⟩) n c, .int .i64 c2, .int .i64 du], .int .i64 0]) (by simp [results,Tryz.results26,go_sem,R0',R1',R2']) rfl ⟨_,rfl,(by rw [hlen2];exact hrow6),Hkw.out.trans (((((Hk2.out.mono (fun _ _ e=>e.elim):Keeps (fun i=>w.heap.size≤i) _ _).te K3.out (fun i e=>by have e':i=w.heap.size:=e;omega)).te Hk4.out (fun i e=>by have h1:=Hgn.out;have h2:=Hkw.out.size;rcases e with e'|e'<;>omega)).te Hk5.out (fun i e=>e.elim)).te K9.out (fun i e=>by have e':i=w.heap.size+1:=e;omega)|>.mono fun i _ e=> .inr e),fun g' hg=>by simp only [Value.ownBlock,Option.some.injEq] at hg;subst hg;have h1:=Hgn.out;have h2:=Hkw.out.size;omega⟩
 ·rw [if_neg h0]
  obtain⟨Hr,Hask,Hz⟩:=hid3 hr hask hz;clear hz hask hr
  go_enter Tryz.func26,Tryz.ntmps26
  go_wp2_with fail
  all_goals
   refine(Hask.out _ _ (by(repeat (first|exact Keeps.refl _ _|exact Keeps.alloc _ _|exact Keeps.drew _|exact Keeps.drewN _ _|refine Keeps.trans_drew ?_|refine Keeps.trans_drewN ?_|refine Keeps.trans_alloc ?_))) (Reads.litAt _ _ _ 1 1 _ (by simp) rfl)).mono ?_
   rintro e w1 ⟨rfl,hk1⟩
   have hkw:Keeps (fun _=>False) w w1:=(by(repeat (first|exact Keeps.refl _ _|exact Keeps.alloc _ _|exact Keeps.drew _|exact Keeps.drewN _ _|refine Keeps.trans_drew ?_|refine Keeps.trans_drewN ?_|refine Keeps.trans_alloc ?_)):Keeps (fun _=>False) w (((w.alloc (.cells #[.slice ad n cap, .int .i64 cr, .int .i64 du] 24)).alloc (.cells #[.slice none 0 0, .int .i64 0, .int .i64 0] 24)).alloc (.cells #[.int .i64 k] 3))).nt hk1
   have hrs:w1.heap[w.heap.size+1]?=some (.cells #[.slice none 0 0, .int .i64 0, .int .i64 0] 24 (0,0)):=box_old (box_alloc (halloc_at2 _ _ (by simp)) _) hk1 (by simp)
   have hS3:=store3 hrs (.slice none 0 0) (.int .i64 0) (.int .i64 0)
   obtain⟨hb9,k9⟩:=hS3
   have r0:=cell_of_cells hrs 0
   have r1:=cell_of_cells hrs 1
   have r2:=cell_of_cells hrs 2
   have rf0:=free_of_cells hrs 0
   have rf1:=free_of_cells hrs 1
   have rf2:=free_of_cells hrs 2
   have rl:=lt_of_block hrs
   have sr0:=cell_of_cells hb9 0
   have sr1:=cell_of_cells hb9 1
   have sr2:=cell_of_cells hb9 2
   obtain⟨Hrs,Hb9,K9,Sr0,Sr1,Sr2⟩:=hid6 hrs hb9 k9 sr0 sr1 sr2;clear sr2 sr1 sr0 k9 hb9 hrs
   obtain⟨Hk1,Hkw⟩:=hid2 hk1 hkw;clear hkw hk1
   go_wp2
   have R0':=Sr0.out
   have R1':=Sr1.out
   have R2':=Sr2.out
   clear r0 r1 r2
   exact bodyPost_ret (v:= .tuple #[.agg #[.slice none 0 0, .int .i64 0, .int .i64 0], .int .i64 z]) (by simp [results,Tryz.results26,go_sem,R0',R1',R2']) rfl ⟨_,rfl,⟨by simp [ps0], .inl ⟨rfl,rfl⟩⟩,Hkw.out.trans (K9.out.mono fun i _ e=> .inr (by have e':i=w.heap.size+1:=e;omega)),fun g hg=>by simp [Value.ownBlock] at hg⟩
def mayS(v:Int):Bool:=decide (-1000000000000000≤v)&&decide (v≤1000000000000000)
theorem mayS_iff(v:Int):mayS v=true↔ -1000000000000000≤v∧v≤1000000000000000:=by simp [mayS]
set_option maxHeartbeats 400000
theorem cashMay_any(v:Int)(w:World):Calls Tryz.prog 158 #[.int .i64 v] w fun e w'=>e= .returned (.bool (mayS v))∧w=w':=by
 by_cases h1:v< -1000000000000000
 ·have hf:mayS v=false:=by simp [mayS];omega
  have hd:decide (-1000000000000000≤v)=false:=by rw [decide_eq_false_iff_not];omega
  have Hf:=Lib.hid hf;clear hf
  go_enter Tryz.func158,Tryz.ntmps158
  go_wp2
  go_ret
  exact⟨by rw [Hf.out];rfl,rfl⟩
 ·by_cases h2:1000000000000000<v
  ·have hf:mayS v=false:=by simp [mayS];omega
   have hd:decide (v≤1000000000000000)=false:=by rw [decide_eq_false_iff_not];omega
   have h1':decide (-1000000000000000≤v)=true:=by rw [decide_eq_true_iff];omega
   have Hf:=Lib.hid hf;clear hf
   go_enter Tryz.func158,Tryz.ntmps158
   go_wp2
   go_ret
   exact⟨by rw [Hf.out];rfl,rfl⟩
  ·have hf:mayS v=true:=by simp [mayS];omega
   have hd:decide (v≤1000000000000000)=true:=by rw [decide_eq_true_iff];omega
   have h1':decide (-1000000000000000≤v)=true:=by rw [decide_eq_true_iff];omega
   have Hf:=Lib.hid hf;clear hf
   go_enter Tryz.func158,Tryz.ntmps158
   go_wp2
   go_ret
   exact⟨by rw [Hf.out];rfl,rfl⟩
theorem cashMay_at{v:Int}{b:Bool}(h:mayS v=b)(w:World):Calls Tryz.prog 158 #[.int .i64 v] w fun e w'=>e= .returned (.bool b)∧w=w':=by subst h;exact cashMay_any v w
def addS:List Int→Int→Int×Int
 | [],s=>(s,0)
 |x::L,s=>if(mayS x&&mayS (s+x))=true then addS L (s+x) else(0,5)
theorem addS_right:∀(L:List Int) (s:Int),0≤s→L.all moneyP=true→s+sumI L≤1000000000000000→addS L s=(s+sumI L,0):=by
 intro L
 induction L with
 |nil=>intro s _ _ _;simp [addS,sumI]
 |cons x L ih=>
  intro s h0 h1 h2
  simp only [List.all_cons,Bool.and_eq_true] at h1
  obtain⟨x0,x1⟩:=(moneyP_iff x).1 h1.1
  have h3:=sumI_nonneg h1.2
  simp only [sumI] at h2⊢
  have m1:mayS x=true:=(mayS_iff x).2 (by omega)
  have m2:mayS (s+x)=true:=(mayS_iff _).2 (by omega)
  simp only [addS,m1,m2,Bool.and_self,if_true]
  rw [ih (s+x) (by omega) h1.2 (by omega),Int.add_assoc]
set_option maxHeartbeats 1600000
theorem cashAdd_any(L:List Int)(ad:Option Addr)(cap n:Nat)(w:World)(hr:Reads w 1 (.slice ad n cap) n (L.flatMap i64c))(hN:L.length=n)(hl:n≤1000000):
  Calls Tryz.prog 145 #[.slice ad n cap] w fun e w'=>e= .returned (.tuple #[.int .i64 (addS L 0).1, .int .i64 (addS L 0).2])∧w=w':=by
 obtain⟨z,hz⟩:∃z,addS L 0=z:=⟨_,rfl⟩
 rw [hz]
 obtain⟨Hr,Hz,HN⟩:=hid3 hr hz hN;clear hN hz hr
 go_enter Tryz.func145,Tryz.ntmps145
 go_wp2_with fail
 refine wp_scope_ahead 0 rfl ?_
 go_wp2_with fail
 go_loopw [4,9] (fun x y wx=>∃(i:Nat) (s:Int),x= .int .i64 s∧y= .int .i64 (i:Nat)∧i≤n∧mayS s=true∧addS (L.drop i) s=z∧w=wx) (fun _ y _=>n-(intOf y).toNat)
 case atStart=>exact⟨0,0,rfl,rfl,Nat.zero_le _,rfl,Hz.out,rfl⟩
 case round=>
  obtain⟨i,s,rfl,rfl,hin,hms,hs,hw⟩:=hrel
  subst hw
  by_cases hlt:i<n
  ·have hltI:(i:Int)<(n:Int):=by omega
   obtain⟨x,hx⟩:=get_some (L:=L) (k:=i) (by rw [HN.out];exact hlt)
   obtain⟨g,o,he,hc⟩:=Hr.out.int (k:= .i64) hx
   subst he
   have hgl:=cell_lt hc
   obtain⟨s0,s1⟩:=(mayS_iff s).1 hms
   have hd:L.drop i=x::L.drop (i+1):=by
    obtain⟨h1,h2⟩:=List.getElem?_eq_some_iff.1 hx
    rw [List.drop_eq_getElem_cons h1,h2]
   rw [hd] at hs
   simp only [addS] at hs
   rcases m3:mayS x with _|_
   ·rw [m3,Bool.false_and,if_neg (by decide)] at hs
    subst hs
    obtain⟨Hx,Hms,Hd⟩:=hid3 hx hms hd;clear hd hms hx
    go_wp2_with (go_at_call 158;(with_reducible refine(cashMay_at m3 _).mono ?_);rintro e w1 ⟨rfl,rfl⟩)
    go_step3
    go_wp2
    refine jump_goto ?_
    go_wp2
    rw [Exit.noGoto_ret]
    exact bodyPost_ret (v:= .tuple #[.int .i64 0, .int .i64 5]) (by simp [results,Tryz.results145,go_sem]) rfl ⟨rfl,rfl⟩
   ·obtain⟨x0,x1⟩:=(mayS_iff x).1 m3
    rcases m4:mayS (s+x) with _|_
    ·rw [m4,Bool.and_false,if_neg (by decide)] at hs
     subst hs
     obtain⟨Hx,Hms,Hd⟩:=hid3 hx hms hd;clear hd hms hx
     go_wp2_with (first|(go_at_call 158;(with_reducible refine(cashMay_at m3 _).mono ?_);rintro e w1 ⟨rfl,rfl⟩)|(go_at_call 158;(with_reducible refine(cashMay_at m4 _).mono ?_);rintro e w1 ⟨rfl,rfl⟩))
     go_step3
     go_wp2
     refine jump_goto ?_
     go_wp2
     rw [Exit.noGoto_ret]
     exact bodyPost_ret (v:= .tuple #[.int .i64 0, .int .i64 5]) (by simp [results,Tryz.results145,go_sem]) rfl ⟨rfl,rfl⟩
    ·obtain⟨y0,y1⟩:=(mayS_iff _).1 m4
     rw [m3,m4,Bool.and_self,if_pos rfl] at hs
     obtain⟨Hx,Hms,Hd,Hs⟩:=hid4 hx hms hd hs;clear hs hd hms hx
     go_wp2_with (first|(go_at_call 158;(with_reducible refine(cashMay_at m3 _).mono ?_);rintro e w1 ⟨rfl,rfl⟩)|(go_at_call 158;(with_reducible refine(cashMay_at m4 _).mono ?_);rintro e w1 ⟨rfl,rfl⟩))
     go_roundw
     case rel=>exact⟨i+1,s+x,rfl,by go_num,by omega,m4,Hs.out,by first|rfl|trivial⟩
     case measure=>simp [intOf];omega
  ·obtain rfl:i=n:=by omega
   rw [List.drop_eq_nil_of_le (by rw [HN.out];exact Nat.le_refl _)] at hs
   simp only [addS] at hs
   subst hs
   go_wp2
   refine jump_ret ?_
   exact bodyPost_ret (v:= .tuple #[.int .i64 s, .int .i64 0]) (by simp [results,Tryz.results145,go_sem]) rfl ⟨rfl,rfl⟩
theorem poolTotal_any(p:Ps)(ad:Option Addr)(cap:Nat)(w:World)(hr:Reads w 1 (.slice ad p.bal.length cap) p.bal.length (p.bal.flatMap i64c))(hl:p.bal.length≤1000):
  Calls Tryz.prog 127 #[p.val (.slice ad p.bal.length cap)] w fun e w'=>e= .returned (.int .i64 (if p.rightB=true then sumI p.bal else 0))∧Keeps (fun _=>False) w w':=by
 obtain⟨L,cr,du⟩:=p
 simp only [Ps.val] at hr hl⊢
 obtain⟨n,hN⟩:∃n,L.length=n:=⟨_,rfl⟩
 rw [hN] at hr hl⊢
 have hri:=fun W (hW:Keeps (fun _=>False) w W)=>poolRight_go L cr du ad cap n W (hr.keeps hW (by simp)) hN hl
 have hbx:∀W,Keeps (fun _=>False) (w.alloc (.cells #[.slice ad n cap, .int .i64 cr, .int .i64 du] 24)) W→W.heap[w.heap.size]?=some (.cells #[.slice ad n cap, .int .i64 cr, .int .i64 du] 24 (0,0)):=fun W hW=>box_old (heap_alloc_new w _) hW (by simp)
 rcases hb:Ps.rightB ⟨L,cr,du⟩ with _|_
 ·rw [hb] at hri
  rw [if_neg (by decide)]
  obtain⟨Hr,Hri,Hb,Hbx⟩:=hid4 hr hri hb hbx;clear hbx hb hri hr
  go_enter Tryz.func127,Tryz.ntmps127
  go_wp2_with fail
  refine(Hri.out _ (by(repeat (first|exact Keeps.refl _ _|exact Keeps.alloc _ _|exact Keeps.drew _|exact Keeps.drewN _ _|refine Keeps.trans_drew ?_|refine Keeps.trans_drewN ?_|refine Keeps.trans_alloc ?_)))).mono ?_
  rintro e w1 ⟨rfl,hk1⟩
  have Hk1:=Lib.hid ((Keeps.alloc w _).nt hk1)
  clear hk1
  go_wp2
  go_ret
  exact⟨rfl,Hk1.out⟩
 ·rw [hb] at hri
  rw [if_pos rfl]
  have had:addS L 0=(sumI L,0):=by
   have h1:=hb
   simp only [Ps.rightB,scanB,Bool.and_eq_true] at h1
   have h2:=addS_right L 0 (Int.le_refl _) h1.1.1 (by have:=(moneyP_iff _).1 h1.1.2;omega)
   rw [h2,Int.zero_add]
  obtain⟨S,hS⟩:∃S,sumI L=S:=⟨_,rfl⟩
  rw [hS] at had⊢
  have hadd:=fun W (hW:Keeps (fun _=>False) w W)=>cashAdd_any L ad cap n W (hr.keeps hW (by simp)) hN (by omega)
  rw [had] at hadd
  obtain⟨Hr,Hri,Hb,Hbx,Had,Hadd,HS⟩:=hid7 hr hri hb hbx had hadd hS;clear hS hadd had hbx hb hri hr
  go_enter Tryz.func127,Tryz.ntmps127
  go_wp2_with fail
  refine(Hri.out _ (by(repeat (first|exact Keeps.refl _ _|exact Keeps.alloc _ _|exact Keeps.drew _|exact Keeps.drewN _ _|refine Keeps.trans_drew ?_|refine Keeps.trans_drewN ?_|refine Keeps.trans_alloc ?_)))).mono ?_
  rintro e w1 ⟨rfl,hk1⟩
  have hkw:=(Keeps.alloc w _).nt hk1
  have hb1:=Hbx.out w1 hk1
  have b0:=cell_of_cells hb1 0
  have bl:=lt_of_block hb1
  obtain⟨Hk1,Hkw,Hb1⟩:=hid3 hk1 hkw hb1;clear hb1 hkw hk1
  go_wp2_with (go_at_call 145;(with_reducible refine(Hadd.out _ Hkw.out).mono ?_);rintro e w2 ⟨rfl,rfl⟩)
  go_ret
  exact⟨rfl,Hkw.out⟩
theorem or_pow(k:Nat)(a c:Int)(h0:0≤a)(h1:a*((2 ^ k:Nat):Int)<18446744073709551616)(c0:0≤c)(c1:c<((2 ^ k:Nat):Int))(c2:c<18446744073709551616):bits .or .u64 (a*((2 ^ k:Nat):Int)) c=(a*((2 ^ k:Nat):Int)+c) % 18446744073709551616:=by
 obtain⟨m,rfl⟩:=Int.eq_ofNat_of_zero_le h0
 obtain⟨d,rfl⟩:=Int.eq_ofNat_of_zero_le c0
 have hor:2 ^ k*m|||d=2 ^ k*m+d:=(Nat.two_pow_add_eq_or_of_lt (i:=k) (b:=d) (by omega) m).symm
 have e1:((m:Int)*((2 ^ k:Nat):Int))=((2 ^ k*m:Nat):Int):=by push_cast;rw [Int.mul_comm]
 rw [e1] at h1⊢
 have hm:(((2 ^ k*m:Nat):Int) % 18446744073709551616).toNat=2 ^ k*m:=by omega
 have hd:((d:Int) % 18446744073709551616).toNat=d:=by omega
 simp only [bits,show IntKind.u64.bits=64 from rfl,BitVec.toNat_or,BitVec.toNat_ofInt]
 simp only [show((2 ^ 64:Nat):Int)=18446744073709551616 from rfl]
 rw [hm,hd,hor]
 simp [IntKind.wrap,IntKind.signed,IntKind.bits]
theorem and_mask32(x:Int)(h0:0≤x)(h1:x<18446744073709551616):bits .and .u64 x 4294967295=x % 4294967296:=by
 obtain⟨m,rfl⟩:=Int.eq_ofNat_of_zero_le h0
 have hm:((m:Int) % 18446744073709551616).toNat=m:=by omega
 have hand:m&&&4294967295=m % 4294967296:=Nat.and_two_pow_sub_one_eq_mod m 32
 simp only [bits,show IntKind.u64.bits=64 from rfl,BitVec.toNat_and,BitVec.toNat_ofInt]
 simp only [show((2 ^ 64:Nat):Int)=18446744073709551616 from rfl]
 rw [hm,show((4294967295:Int) % 18446744073709551616).toNat=4294967295 by decide,hand]
 simp [IntKind.wrap,IntKind.signed,IntKind.bits]
 omega
set_option maxHeartbeats 400000
theorem len64_9(w:World):Calls Tryz.prog 164 #[.int .u64 1000000000] w fun e w'=>e= .returned (.int .i64 30)∧w=w':=by
 go_enter Tryz.func164,Tryz.ntmps164
 go_wp2
 go_ret
 exact⟨by kernel_rfl,rfl⟩
theorem len64_3(w:World):Calls Tryz.prog 164 #[.int .u64 1000] w fun e w'=>e= .returned (.int .i64 10)∧w=w':=by
 go_enter Tryz.func164,Tryz.ntmps164
 go_wp2
 go_ret
 exact⟨by kernel_rfl,rfl⟩
theorem lz64_9(w:World):Calls Tryz.prog 163 #[.int .u64 1000000000] w fun e w'=>e= .returned (.int .i64 34)∧w=w':=by
 go_enter Tryz.func163,Tryz.ntmps163
 go_wp2_with (go_at_call 164;(with_reducible refine(len64_9 _).mono ?_);rintro e w1 ⟨rfl,rfl⟩)
 go_ret
 exact⟨rfl,rfl⟩
theorem lz64_3(w:World):Calls Tryz.prog 163 #[.int .u64 1000] w fun e w'=>e= .returned (.int .i64 54)∧w=w':=by
 go_enter Tryz.func163,Tryz.ntmps163
 go_wp2_with (go_at_call 164;(with_reducible refine(len64_3 _).mono ?_);rintro e w1 ⟨rfl,rfl⟩)
 go_ret
 exact⟨rfl,rfl⟩
set_option maxHeartbeats 800000
theorem div64_9(hi lo:Int)(w:World)(h0:0≤hi)(h1:hi<1000000000)(l0:0≤lo)(l1:lo<18446744073709551616):
  Calls Tryz.prog 157 #[.int .u64 hi, .int .u64 lo, .int .u64 1000000000] w fun e w'=>e= .returned (.tuple #[.int .u64 ((hi*18446744073709551616+lo) / 1000000000), .int .u64 ((hi*18446744073709551616+lo) % 1000000000)])∧Keeps (fun _=>False) w w':=by
 by_cases hz:hi=0
 ·subst hz
  have e1:(0*18446744073709551616+lo)=lo:=by omega
  rw [e1]
  have t1:lo.tdiv 1000000000=lo / 1000000000:=Int.tdiv_eq_ediv_of_nonneg l0
  have t2:lo.tmod 1000000000=lo % 1000000000:=Int.tmod_eq_emod_of_nonneg l0
  have b1:0≤lo / 1000000000:=by omega
  have b2:lo / 1000000000<18446744073709551616:=by omega
  have b3:0≤lo % 1000000000:=by omega
  have b4:lo % 1000000000<1000000000:=by omega
  have b5:IntKind.u64.wrap (lo / 1000000000)=lo / 1000000000:=by simp [IntKind.wrap,IntKind.signed,IntKind.bits];omega
  have b6:IntKind.u64.wrap (lo % 1000000000)=lo % 1000000000:=by simp [IntKind.wrap,IntKind.signed,IntKind.bits];omega
  go_enter Tryz.func157,Tryz.ntmps157
  go_wp2
  refine wp_region_mixw (fun _=>True) (.take 0 (.take 1 (.take 2 (.take 3 (.take 4 (.take 5 (.take 6 (.take 7 .done)))))))) (by kernel_rfl) (by kernel_rfl) ?_ ?_
  ·trivial
  intro w1 hs1 hk1
  repeat (first
   |(refine mix_skip rfl (by rfl) ?_;try simp only [Act.put,List.setIfInBounds_toArray,List.set_cons_zero,List.set_cons_succ])
   |(refine mix_skipm rfl (by rfl) ?_;try simp only [Act.put,List.setIfInBounds_toArray,List.set_cons_zero,List.set_cons_succ])
   |(refine mix_take (v:= ?_) rfl (by rfl) ?_ ?_;rotate_left;(· intro w' hSw;unfold id at hSw;go_simp;(try with_reducible rfl));rotate_right;try simp only [Act.put,List.setIfInBounds_toArray,List.set_cons_zero,List.set_cons_succ]))
  refine mix_done ?_
  go_wp2
  exact bodyPost_ret (v:= .tuple #[.int .u64 (lo / 1000000000), .int .u64 (lo % 1000000000)]) (by simp [results,Tryz.results157,go_sem]) rfl ⟨rfl,hk1⟩
 ·have hzI:(hi==0)=false:=beq_eq_false_iff_ne.2 hz
  have hleI:decide ((1000000000:Int)≤hi)=false:=by rw [decide_eq_false_iff_not];omega
  obtain⟨V,hV⟩:∃V,V=IntKind.u64.wrap (lo*17179869184):=⟨_,rfl⟩
  have hV2:V=lo*17179869184 % 18446744073709551616:=by rw [hV];simp [IntKind.wrap,IntKind.signed,IntKind.bits]
  have hV':IntKind.u64.wrap (lo*17179869184)=V:=hV.symm
  obtain⟨V1,hV1⟩:∃V1,V / 4294967296=V1:=⟨_,rfl⟩
  obtain⟨V0,hV0⟩:∃V0,bits .and .u64 V 4294967295=V0:=⟨_,rfl⟩
  have hV0':V % 4294967296=V0:=by rw [←hV0,and_mask32 V (by omega) (by omega)]
  have hA0:bits .and .u64 17179869184000000000 4294967295=0:=by rw [and_mask32 _ (by decide) (by decide)];decide
  obtain⟨U,hU⟩:∃U,bits .or .u64 (hi*17179869184) (lo / 1073741824)=U:=⟨_,rfl⟩
  have hU2:U=hi*17179869184+lo / 1073741824:=by
   have h:=or_pow 34 hi (lo / 1073741824) h0 (by simp only [show((2 ^ 34:Nat):Int)=17179869184 from rfl];omega) (by omega) (by simp only [show((2 ^ 34:Nat):Int)=17179869184 from rfl];omega) (by omega)
   simp only [show((2 ^ 34:Nat):Int)=17179869184 from rfl] at h
   rw [←hU,h];omega
  have u0:0≤U:=by omega
  have u1:U<4000000000*4294967296:=by omega
  obtain⟨q1,hq1⟩:∃q1,U.tdiv 4000000000=q1:=⟨_,rfl⟩
  have hq1':q1=U / 4000000000:=by rw [←hq1];exact Int.tdiv_eq_ediv_of_nonneg u0
  have q10:0≤q1:=by omega
  have q11:q1<4294967296:=by omega
  obtain⟨r1,hr1⟩:∃r1,U-q1*4000000000=r1:=⟨_,rfl⟩
  have r10:0≤r1:=by omega
  have r11:r1<4000000000:=by omega
  have v10:0≤V1:=by omega
  have v11:V1<4294967296:=by omega
  have qn:decide (4294967296≤q1)=false:=by rw [decide_eq_false_iff_not];omega
  obtain⟨X,hX⟩:∃X,X=r1*4294967296+V1:=⟨_,rfl⟩
  have x0:0≤X:=by omega
  have x1:X<18446744073709551616:=by omega
  have hxx:4294967296*r1+V1=X:=by omega
  have xn:decide (X<0)=false:=by rw [decide_eq_false_iff_not];omega
  obtain⟨A1,hA1⟩:∃A1,IntKind.u64.wrap (U*4294967296)=A1:=⟨_,rfl⟩
  obtain⟨A2,hA2⟩:∃A2,IntKind.u64.wrap (A1+V1)=A2:=⟨_,rfl⟩
  obtain⟨A3,hA3⟩:∃A3,IntKind.u64.wrap (q1*17179869184000000000)=A3:=⟨_,rfl⟩
  have hA4:IntKind.u64.wrap (A2-A3)=X:=by
   simp [IntKind.wrap,IntKind.signed,IntKind.bits] at hA1 hA2 hA3⊢
   omega
  obtain⟨q0,hq0⟩:∃q0,X.tdiv 4000000000=q0:=⟨_,rfl⟩
  have hq0':q0=X / 4000000000:=by rw [←hq0];exact Int.tdiv_eq_ediv_of_nonneg x0
  have q00:0≤q0:=by omega
  have q01:q0<4294967296:=by omega
  obtain⟨r0,hr0⟩:∃r0,X-q0*4000000000=r0:=⟨_,rfl⟩
  have r00:0≤r0:=by omega
  have r01:r0<4000000000:=by omega
  have qn0:decide (4294967296≤q0)=false:=by rw [decide_eq_false_iff_not];omega
  have v00:0≤V0:=by omega
  have v01:V0<4294967296:=by omega
  obtain⟨Y,hY⟩:∃Y,Y=r0*4294967296+V0:=⟨_,rfl⟩
  have y0:0≤Y:=by omega
  have y1:Y<18446744073709551616:=by omega
  have hyy:4294967296*r0+V0=Y:=by omega
  have yn:decide (Y<0)=false:=by rw [decide_eq_false_iff_not];omega
  obtain⟨B1,hB1⟩:∃B1,IntKind.u64.wrap (X*4294967296)=B1:=⟨_,rfl⟩
  obtain⟨B2,hB2⟩:∃B2,IntKind.u64.wrap (B1+V0)=B2:=⟨_,rfl⟩
  obtain⟨B3,hB3⟩:∃B3,IntKind.u64.wrap (q0*17179869184000000000)=B3:=⟨_,rfl⟩
  have hB4:IntKind.u64.wrap (B2-B3)=Y:=by
   simp [IntKind.wrap,IntKind.signed,IntKind.bits] at hB1 hB2 hB3⊢
   omega
  obtain⟨N,hN⟩:∃N,N=hi*18446744073709551616+lo:=⟨_,rfl⟩
  have hfin:q1*4294967296+q0=N / 1000000000∧Y / 17179869184=N % 1000000000:=by
   have k1:N*17179869184=U*18446744073709551616+V:=by omega
   have k2:N*17179869184=(q1*4294967296+q0)*17179869184000000000+Y:=by omega
   omega
  rw [←hN]
  obtain⟨HV,HV2,HU2,Hq1',HX,Hq0',HY,HN,Hfin⟩:=hid9 hV hV2 hU2 hq1' hX hq0' hY hN hfin;clear hfin hN hY hq0' hX hq1' hU2 hV2 hV;have HV0':=Lib.hid hV0';clear hV0'
  go_enter Tryz.func157,Tryz.ntmps157
  go_wp2_with (go_at_call 163;(with_reducible refine(lz64_9 _).mono ?_);rintro e w1 ⟨rfl,rfl⟩)
  go_loop [15,16] (fun x y=>x= .int .u64 q1∧y= .int .u64 r1) (fun _ _=>0)
  case atStart=>exact⟨rfl,rfl⟩
  case round=>
   obtain⟨rfl,rfl⟩:=hrel
   go_wp2
   go_loop [18,16] (fun x y=>x= .int .u64 q0∧y= .int .u64 r0) (fun _ _=>0)
   case atStart=>exact⟨rfl,rfl⟩
   case round=>
    obtain⟨rfl,rfl⟩:=hrel
    go_wp2
    exact bodyPost_ret (v:= .tuple #[.int .u64 (q1*4294967296+q0), .int .u64 (Y / 17179869184)]) (by simp [results,Tryz.results157,go_sem]) rfl ⟨by rw [Hfin.out.1,Hfin.out.2],Keeps.refl _ _⟩
theorem div64_3(hi lo:Int)(w:World)(h0:0≤hi)(h1:hi<1000)(l0:0≤lo)(l1:lo<18446744073709551616):
  Calls Tryz.prog 157 #[.int .u64 hi, .int .u64 lo, .int .u64 1000] w fun e w'=>e= .returned (.tuple #[.int .u64 ((hi*18446744073709551616+lo) / 1000), .int .u64 ((hi*18446744073709551616+lo) % 1000)])∧Keeps (fun _=>False) w w':=by
 by_cases hz:hi=0
 ·subst hz
  have e1:(0*18446744073709551616+lo)=lo:=by omega
  rw [e1]
  have t1:lo.tdiv 1000=lo / 1000:=Int.tdiv_eq_ediv_of_nonneg l0
  have t2:lo.tmod 1000=lo % 1000:=Int.tmod_eq_emod_of_nonneg l0
  have b1:0≤lo / 1000:=by omega
  have b2:lo / 1000<18446744073709551616:=by omega
  have b3:0≤lo % 1000:=by omega
  have b4:lo % 1000<1000:=by omega
  have b5:IntKind.u64.wrap (lo / 1000)=lo / 1000:=by simp [IntKind.wrap,IntKind.signed,IntKind.bits];omega
  have b6:IntKind.u64.wrap (lo % 1000)=lo % 1000:=by simp [IntKind.wrap,IntKind.signed,IntKind.bits];omega
  go_enter Tryz.func157,Tryz.ntmps157
  go_wp2
  refine wp_region_mixw (fun _=>True) (.take 0 (.take 1 (.take 2 (.take 3 (.take 4 (.take 5 (.take 6 (.take 7 .done)))))))) (by kernel_rfl) (by kernel_rfl) ?_ ?_
  ·trivial
  intro w1 hs1 hk1
  repeat (first
   |(refine mix_skip rfl (by rfl) ?_;try simp only [Act.put,List.setIfInBounds_toArray,List.set_cons_zero,List.set_cons_succ])
   |(refine mix_skipm rfl (by rfl) ?_;try simp only [Act.put,List.setIfInBounds_toArray,List.set_cons_zero,List.set_cons_succ])
   |(refine mix_take (v:= ?_) rfl (by rfl) ?_ ?_;rotate_left;(· intro w' hSw;unfold id at hSw;go_simp;(try with_reducible rfl));rotate_right;try simp only [Act.put,List.setIfInBounds_toArray,List.set_cons_zero,List.set_cons_succ]))
  refine mix_done ?_
  go_wp2
  exact bodyPost_ret (v:= .tuple #[.int .u64 (lo / 1000), .int .u64 (lo % 1000)]) (by simp [results,Tryz.results157,go_sem]) rfl ⟨rfl,hk1⟩
 ·have hzI:(hi==0)=false:=beq_eq_false_iff_ne.2 hz
  have hleI:decide ((1000:Int)≤hi)=false:=by rw [decide_eq_false_iff_not];omega
  obtain⟨V,hV⟩:∃V,V=IntKind.u64.wrap (lo*18014398509481984):=⟨_,rfl⟩
  have hV2:V=lo*18014398509481984 % 18446744073709551616:=by rw [hV];simp [IntKind.wrap,IntKind.signed,IntKind.bits]
  have hV':IntKind.u64.wrap (lo*18014398509481984)=V:=hV.symm
  obtain⟨V1,hV1⟩:∃V1,V / 4294967296=V1:=⟨_,rfl⟩
  obtain⟨V0,hV0⟩:∃V0,bits .and .u64 V 4294967295=V0:=⟨_,rfl⟩
  have hV0':V % 4294967296=V0:=by rw [←hV0,and_mask32 V (by omega) (by omega)]
  have hA0:bits .and .u64 18014398509481984000 4294967295=0:=by rw [and_mask32 _ (by decide) (by decide)];decide
  obtain⟨U,hU⟩:∃U,bits .or .u64 (hi*18014398509481984) (lo / 1024)=U:=⟨_,rfl⟩
  have hU2:U=hi*18014398509481984+lo / 1024:=by
   have h:=or_pow 54 hi (lo / 1024) h0 (by simp only [show((2 ^ 54:Nat):Int)=18014398509481984 from rfl];omega) (by omega) (by simp only [show((2 ^ 54:Nat):Int)=18014398509481984 from rfl];omega) (by omega)
   simp only [show((2 ^ 54:Nat):Int)=18014398509481984 from rfl] at h
   rw [←hU,h];omega
  have u0:0≤U:=by omega
  have u1:U<4194304000*4294967296:=by omega
  obtain⟨q1,hq1⟩:∃q1,U.tdiv 4194304000=q1:=⟨_,rfl⟩
  have hq1':q1=U / 4194304000:=by rw [←hq1];exact Int.tdiv_eq_ediv_of_nonneg u0
  have q10:0≤q1:=by omega
  have q11:q1<4294967296:=by omega
  obtain⟨r1,hr1⟩:∃r1,U-q1*4194304000=r1:=⟨_,rfl⟩
  have r10:0≤r1:=by omega
  have r11:r1<4194304000:=by omega
  have v10:0≤V1:=by omega
  have v11:V1<4294967296:=by omega
  have qn:decide (4294967296≤q1)=false:=by rw [decide_eq_false_iff_not];omega
  obtain⟨X,hX⟩:∃X,X=r1*4294967296+V1:=⟨_,rfl⟩
  have x0:0≤X:=by omega
  have x1:X<18446744073709551616:=by omega
  have hxx:4294967296*r1+V1=X:=by omega
  have xn:decide (X<0)=false:=by rw [decide_eq_false_iff_not];omega
  obtain⟨A1,hA1⟩:∃A1,IntKind.u64.wrap (U*4294967296)=A1:=⟨_,rfl⟩
  obtain⟨A2,hA2⟩:∃A2,IntKind.u64.wrap (A1+V1)=A2:=⟨_,rfl⟩
  obtain⟨A3,hA3⟩:∃A3,IntKind.u64.wrap (q1*18014398509481984000)=A3:=⟨_,rfl⟩
  have hA4:IntKind.u64.wrap (A2-A3)=X:=by
   simp [IntKind.wrap,IntKind.signed,IntKind.bits] at hA1 hA2 hA3⊢
   omega
  obtain⟨q0,hq0⟩:∃q0,X.tdiv 4194304000=q0:=⟨_,rfl⟩
  have hq0':q0=X / 4194304000:=by rw [←hq0];exact Int.tdiv_eq_ediv_of_nonneg x0
  have q00:0≤q0:=by omega
  have q01:q0<4294967296:=by omega
  obtain⟨r0,hr0⟩:∃r0,X-q0*4194304000=r0:=⟨_,rfl⟩
  have r00:0≤r0:=by omega
  have r01:r0<4194304000:=by omega
  have qn0:decide (4294967296≤q0)=false:=by rw [decide_eq_false_iff_not];omega
  have v00:0≤V0:=by omega
  have v01:V0<4294967296:=by omega
  obtain⟨Y,hY⟩:∃Y,Y=r0*4294967296+V0:=⟨_,rfl⟩
  have y0:0≤Y:=by omega
  have y1:Y<18446744073709551616:=by omega
  have hyy:4294967296*r0+V0=Y:=by omega
  have yn:decide (Y<0)=false:=by rw [decide_eq_false_iff_not];omega
  obtain⟨B1,hB1⟩:∃B1,IntKind.u64.wrap (X*4294967296)=B1:=⟨_,rfl⟩
  obtain⟨B2,hB2⟩:∃B2,IntKind.u64.wrap (B1+V0)=B2:=⟨_,rfl⟩
  obtain⟨B3,hB3⟩:∃B3,IntKind.u64.wrap (q0*18014398509481984000)=B3:=⟨_,rfl⟩
  have hB4:IntKind.u64.wrap (B2-B3)=Y:=by
   simp [IntKind.wrap,IntKind.signed,IntKind.bits] at hB1 hB2 hB3⊢
   omega
  obtain⟨N,hN⟩:∃N,N=hi*18446744073709551616+lo:=⟨_,rfl⟩
  have hfin:q1*4294967296+q0=N / 1000∧Y / 18014398509481984=N % 1000:=by
   have k1:N*18014398509481984=U*18446744073709551616+V:=by omega
   have k2:N*18014398509481984=(q1*4294967296+q0)*18014398509481984000+Y:=by omega
   omega
  rw [←hN]
  obtain⟨HV,HV2,HU2,Hq1',HX,Hq0',HY,HN,Hfin⟩:=hid9 hV hV2 hU2 hq1' hX hq0' hY hN hfin;clear hfin hN hY hq0' hX hq1' hU2 hV2 hV;have HV0':=Lib.hid hV0';clear hV0'
  go_enter Tryz.func157,Tryz.ntmps157
  go_wp2_with (go_at_call 163;(with_reducible refine(lz64_3 _).mono ?_);rintro e w1 ⟨rfl,rfl⟩)
  go_loop [15,16] (fun x y=>x= .int .u64 q1∧y= .int .u64 r1) (fun _ _=>0)
  case atStart=>exact⟨rfl,rfl⟩
  case round=>
   obtain⟨rfl,rfl⟩:=hrel
   go_wp2
   go_loop [18,16] (fun x y=>x= .int .u64 q0∧y= .int .u64 r0) (fun _ _=>0)
   case atStart=>exact⟨rfl,rfl⟩
   case round=>
    obtain⟨rfl,rfl⟩:=hrel
    go_wp2
    exact bodyPost_ret (v:= .tuple #[.int .u64 (q1*4294967296+q0), .int .u64 (Y / 18014398509481984)]) (by simp [results,Tryz.results157,go_sem]) rfl ⟨by rw [Hfin.out.1,Hfin.out.2],Keeps.refl _ _⟩
open Go.Shelf Go.RowKit
def lays264_ren:Go.Shelf.Ren:=⟨fun|264=>155|n=>n,fun|53=>67|46=>41|n=>n,fun|n=>n⟩
theorem lays264:Go.Proofs.Lays.n264 Tryz.prog lays264_ren:={
 mixed:=by kernel_rfl
 f264:=Tryz.func155.trans (congrArg some (by kernel_rfl))
 t46:=Tryz.underlying41
 a46:=Tryz.isAgg41
 z46:=Tryz.sizeOf41
 v46:=Tryz.zeroValue41
 t53:=Tryz.underlying67
 a53:=Tryz.isAgg67
 z53:=Tryz.sizeOf67
 v53:=Tryz.zeroValue67 }
theorem mul64_any(x y:Int)(hx:0≤x)(hx':x<18446744073709551616)(hy:0≤y)(hy':y<18446744073709551616)(w:World):
  Calls Tryz.prog 155 #[.int .u64 x, .int .u64 y] w fun e w'=>e= .returned (.tuple #[.int .u64 (x*y / 18446744073709551616), .int .u64 (x*y % 18446744073709551616)])∧w=w':=by
 obtain⟨a,rfl⟩:=Int.eq_ofNat_of_zero_le hx
 obtain⟨b,rfl⟩:=Int.eq_ofNat_of_zero_le hy
 refine(Any.bits_Mul64 lays264 a b (by omega) (by omega) w).mono ?_
 rintro e w' ⟨rfl,rfl⟩
 refine⟨?_,rfl⟩
 congr 4
theorem add64_run(x y:Int)(hx:0≤x)(hx':x<18446744073709551616)(hy:0≤y)(hy':y<18446744073709551616)(w:World):
  (callFunc 156 #[.int .u64 x, .int .u64 y, .int .u64 0]).run Tryz.prog w= .ok (.value (.tuple #[.int .u64 ((x+y) % 18446744073709551616), .int .u64 ((x+y) / 18446744073709551616)])) w:=by
 obtain⟨a,rfl⟩:=Int.eq_ofNat_of_zero_le hx
 obtain⟨b,rfl⟩:=Int.eq_ofNat_of_zero_le hy
 have h:=run_add64 (P:=Tryz.prog) a b 0 (by omega) (by omega) (by omega) (by omega) w
 rw [run_callFunc_extern Tryz.func156 (by kernel_rfl) (by kernel_rfl) (by kernel_rfl) (e:=add64Entry) (by kernel_rfl)]
 rw [h]
 simp only [Result.andThen,Int.add_zero]
def evenI(N D:Int):Int:=if 2*(N % D)<D∨(2*(N % D)=D∧N / D % 2=0) then N / D else N / D+1
theorem cashEven_go(hi lo D N:Int)(hD:0<D)(hD2:D<4294967296)(hN:hi*18446744073709551616+lo=N)(h0:0≤hi)(h1:hi<D)(l0:0≤lo)(l1:lo<18446744073709551616)(hq:N / D<1000000000000000000)(hr:0≤N % D∧N % D<D)(hq0:0≤N / D)
  (hdiv:∀w,Calls Tryz.prog 157 #[.int .u64 hi, .int .u64 lo, .int .u64 D] w fun e w'=>e= .returned (.tuple #[.int .u64 (N / D), .int .u64 (N % D)])∧Keeps (fun _=>False) w w') (w:World):
  Calls Tryz.prog 143 #[.int .u64 hi, .int .u64 lo, .int .u64 D] w fun e w'=>e= .returned (.tuple #[.int .u64 (evenI N D), .bool true])∧Keeps (fun _=>False) w w':=by
 obtain⟨Z,hZ⟩:∃Z,evenI N D=Z:=⟨_,rfl⟩
 rw [hZ]
 unfold evenI at hZ
 obtain⟨q,hqq⟩:∃q,N / D=q:=⟨_,rfl⟩
 obtain⟨r,hrr⟩:∃r,N % D=r:=⟨_,rfl⟩
 rw [hqq] at hq hq0 hdiv hZ
 rw [hrr] at hr hdiv hZ
 obtain⟨r0,r1⟩:=hr
 have hdn:¬D≤hi:=by omega
 by_cases c1:r<D-r
 ·have c1I:decide (r<D-r)=true:=by rw [decide_eq_true_iff];exact c1
  rw [if_pos (by omega)] at hZ
  subst hZ
  clear c1
  obtain⟨Hdiv,HN,Hqq,Hrr⟩:=hid4 hdiv hN hqq hrr;clear hrr hqq hN hdiv
  go_enter Tryz.func143,Tryz.ntmps143
  go_wp2_with fail
  refine wp_scope_ahead 0 rfl ?_
  go_wp2_with fail
  refine(Hdiv.out _).mono ?_
  rintro e w1 ⟨rfl,hk1⟩
  have Hk1:=Lib.hid hk1;clear hk1
  go_wp2_with fail
  refine jump_ret ?_
  exact bodyPost_ret (v:= .tuple #[.int .u64 q, .bool true]) (by simp [results,Tryz.results143,go_sem]) rfl ⟨rfl,Hk1.out⟩
 ·have c1I:decide (r<D-r)=false:=by rw [decide_eq_false_iff_not];exact c1
  by_cases c2:r=D-r
  ·have c2I:(r==D-r)=true:=by rw [beq_iff_eq];exact c2
   by_cases c3:q % 2=0
   ·have c3I:(q % 2==0)=true:=by rw [beq_iff_eq];exact c3
    rw [if_pos (by omega)] at hZ
    subst hZ
    clear c1 c2 c3
    obtain⟨Hdiv,HN,Hqq,Hrr⟩:=hid4 hdiv hN hqq hrr;clear hrr hqq hN hdiv
    go_enter Tryz.func143,Tryz.ntmps143
    go_wp2_with fail
    refine wp_scope_ahead 0 rfl ?_
    go_wp2_with fail
    refine(Hdiv.out _).mono ?_
    rintro e w1 ⟨rfl,hk1⟩
    have Hk1:=Lib.hid hk1;clear hk1
    go_wp2_with fail
    refine jump_ret ?_
    exact bodyPost_ret (v:= .tuple #[.int .u64 q, .bool true]) (by simp [results,Tryz.results143,go_sem]) rfl ⟨rfl,Hk1.out⟩
   ·have c3I:(q % 2==0)=false:=beq_eq_false_iff_ne.2 c3
    rw [if_neg (by omega)] at hZ
    subst hZ
    clear c1 c2 c3
    have hpos:0<q+1:=by omega
    obtain⟨Hdiv,HN,Hqq,Hrr⟩:=hid4 hdiv hN hqq hrr;clear hrr hqq hN hdiv
    go_enter Tryz.func143,Tryz.ntmps143
    go_wp2_with fail
    refine wp_scope_ahead 0 rfl ?_
    go_wp2_with fail
    refine(Hdiv.out _).mono ?_
    rintro e w1 ⟨rfl,hk1⟩
    have Hk1:=Lib.hid hk1;clear hk1
    go_wp2_with fail
    refine jump_ret ?_
    exact bodyPost_ret (v:= .tuple #[.int .u64 (q+1), .bool true]) (by simp [results,Tryz.results143,go_sem]) rfl ⟨rfl,Hk1.out⟩
  ·have c2I:(r==D-r)=false:=beq_eq_false_iff_ne.2 c2
   rw [if_neg (by omega)] at hZ
   subst hZ
   clear c1 c2
   have hpos:0<q+1:=by omega
   obtain⟨Hdiv,HN,Hqq,Hrr⟩:=hid4 hdiv hN hqq hrr;clear hrr hqq hN hdiv
   go_enter Tryz.func143,Tryz.ntmps143
   go_wp2_with fail
   refine wp_scope_ahead 0 rfl ?_
   go_wp2_with fail
   refine(Hdiv.out _).mono ?_
   rintro e w1 ⟨rfl,hk1⟩
   have Hk1:=Lib.hid hk1;clear hk1
   go_wp2_with fail
   refine jump_ret ?_
   exact bodyPost_ret (v:= .tuple #[.int .u64 (q+1), .bool true]) (by simp [results,Tryz.results143,go_sem]) rfl ⟨rfl,Hk1.out⟩
theorem even9(N:Int)(n0:0≤N)(n1:N<1000000000000000000000000000)(w:World):
  Calls Tryz.prog 143 #[.int .u64 (N / 18446744073709551616), .int .u64 (N % 18446744073709551616), .int .u64 1000000000] w fun e w'=>e= .returned (.tuple #[.int .u64 (evenI N 1000000000), .bool true])∧Keeps (fun _=>False) w w':=by
 have e1:N / 18446744073709551616*18446744073709551616+N % 18446744073709551616=N:=by omega
 refine cashEven_go _ _ _ N (by decide) (by decide) e1 (by omega) (by omega) (by omega) (by omega) (by omega) (by omega) (by omega) (fun w=> ?_) w
 have h:=div64_9 (N / 18446744073709551616) (N % 18446744073709551616) w (by omega) (by omega) (by omega) (by omega)
 rw [e1] at h
 exact h
theorem even3(N:Int)(n0:0≤N)(n1:N≤1000000000000000000)(w:World):
  Calls Tryz.prog 143 #[.int .u64 (N / 18446744073709551616), .int .u64 (N % 18446744073709551616), .int .u64 1000] w fun e w'=>e= .returned (.tuple #[.int .u64 (evenI N 1000), .bool true])∧Keeps (fun _=>False) w w':=by
 have e1:N / 18446744073709551616*18446744073709551616+N % 18446744073709551616=N:=by omega
 refine cashEven_go _ _ _ N (by decide) (by decide) e1 (by omega) (by omega) (by omega) (by omega) (by omega) (by omega) (by omega) (fun w=> ?_) w
 have h:=div64_3 (N / 18446744073709551616) (N % 18446744073709551616) w (by omega) (by omega) (by omega) (by omega)
 rw [e1] at h
 exact h
theorem evenI_bd{N D M:Int}(hD:0<D)(h0:0≤N)(h:N≤M*D):0≤evenI N D∧evenI N D≤M:=by
 have h1:0≤N % D:=Int.emod_nonneg _ (by omega)
 have h2:N % D<D:=Int.emod_lt_of_pos _ hD
 have h3:N / D*D+N % D=N:=Int.ediv_mul_add_emod N D
 have h4:0≤N / D:=Int.ediv_nonneg h0 (by omega)
 have h5:N / D≤M:=Int.ediv_le_of_le_mul hD h
 unfold evenI
 split
 ·exact⟨h4,h5⟩
 ·rename_i hn
  refine⟨by omega, ?_⟩
  rcases Int.lt_or_eq_of_le h5 with h6|h6
  ·omega
  ·exfalso;rw [h6] at h3;omega
theorem cashShare_go(a num:Int)(h0:0≤a)(h1:a≤1000000000000000)(n0:0≤num)(n1:num≤1000)(w:World):
  Calls Tryz.prog 146 #[.int .i64 a, .int .i64 num, .int .i64 1000] w fun e w'=>e= .returned (.tuple #[.int .i64 (evenI (a*num) 1000), .int .i64 0])∧Keeps (fun _=>False) w w':=by
 have hN0:0≤a*num:=Int.mul_nonneg h0 n0
 have hN1:a*num≤1000000000000000*1000:=Int.mul_le_mul h1 n1 n0 (by decide)
 have hmay:=fun W=>cashMay_at (v:=a) (b:=true) ((mayS_iff a).2 (by omega)) W
 have hmul:=fun W=>mul64_any a num h0 (by omega) n0 (by omega) W
 have hev:=even3 (a*num) hN0 (by omega)
 obtain⟨N,hN⟩:∃N,a*num=N:=⟨_,rfl⟩
 rw [hN] at hN0 hN1 hmul hev⊢
 have hbd:=evenI_bd (N:=N) (D:=1000) (M:=1000000000000000) (by decide) hN0 hN1
 obtain⟨Z,hZ⟩:∃Z,evenI N 1000=Z:=⟨_,rfl⟩
 rw [hZ] at hev hbd⊢
 obtain⟨z0,z1⟩:=hbd
 have zn:decide (1000000000000000<Z)=false:=by rw [decide_eq_false_iff_not];omega
 have an:¬a<0:=by omega
 obtain⟨A,hA⟩:∃A,N / 18446744073709551616=A:=⟨_,rfl⟩
 obtain⟨B,hB⟩:∃B,N % 18446744073709551616=B:=⟨_,rfl⟩
 rw [hA,hB] at hmul hev
 obtain⟨Hmay,Hmul,Hev,HN,HA,HB,HZ⟩:=hid7 hmay hmul hev hN hA hB hZ;clear hZ hB hA hN hev hmul hmay
 go_enter Tryz.func146,Tryz.ntmps146
 go_wp2_with (first|(go_at_call 158;(with_reducible refine(Hmay.out _).mono ?_);rintro e w1 ⟨rfl,rfl⟩)|(go_at_call 155;(with_reducible refine(Hmul.out _).mono ?_);rintro e w1 ⟨rfl,rfl⟩)|(go_at_call 143;(with_reducible refine(Hev.out _).mono ?_);rintro e w1 ⟨rfl,hk1⟩;have Hk1:=Lib.hid hk1;clear hk1))
 exact bodyPost_ret (v:= .tuple #[.int .i64 Z, .int .i64 0]) (by simp [results,Tryz.results146,go_sem]) rfl ⟨rfl,Hk1.out⟩
def outM(m v:Int):Bool:=decide (v<0)||decide (m<v)
set_option maxHeartbeats 400000
theorem intWithin1_any(B:Nat)(m x:Int)(w:World)(hB:w.cell? ⟨B,0,none⟩=some (.int .i64 m)):Calls Tryz.prog 162 #[.int .i64 x,(.pointer (some ⟨B,0,none⟩))] w fun e w'=>e= .returned (.bool (outM m x))∧w=w':=by
 have hl:=cell_lt hB
 by_cases h1:x<0
 ·have hf:outM m x=true:=by simp [outM];omega
  have h1I:decide (x<0)=true:=by simp [h1]
  have Hf:=Lib.hid hf;clear hf
  go_enter Tryz.func162,Tryz.ntmps162
  go_wp2
  go_ret
  exact⟨by rw [Hf.out];rfl,rfl⟩
 ·have h1I:decide (x<0)=false:=by simp [h1]
  have hf:outM m x=decide (m<x):=by simp [outM,h1I]
  rcases h2:decide (m<x) with _|_
  ·rw [h2] at hf
   have Hf:=Lib.hid hf;clear hf
   go_enter Tryz.func162,Tryz.ntmps162
   go_wp2
   go_ret
   exact⟨by rw [Hf.out];rfl,rfl⟩
  ·rw [h2] at hf
   have Hf:=Lib.hid hf;clear hf
   go_enter Tryz.func162,Tryz.ntmps162
   go_wp2
   go_ret
   exact⟨by rw [Hf.out];rfl,rfl⟩
set_option maxHeartbeats 800000
theorem indexWithin_any(Bm:Nat)(m:Int)(ad:Option Addr)(cap:Nat)(L:List Int)(w:World)(hB:w.cell? ⟨Bm,0,none⟩=some (.int .i64 m))(hr:Reads w 1 (.slice ad L.length cap) L.length (L.flatMap i64c))(hl:L.length≤100000):
  Calls Tryz.prog 81 #[.slice ad L.length cap, .func (.func 162) #[] #[(.pointer (some ⟨Bm,0,none⟩))]] w fun e w'=>∃r:Int,e= .returned (.int .i64 r)∧decide (0≤r)=L.any (outM m)∧w=w':=by
 obtain⟨Hr,HB⟩:=hid2 hr hB;clear hB hr
 go_enter Tryz.func81,Tryz.ntmps81
 go_wp2_with fail
 go_loop [8] (fun c=>∃j:Nat,j≤L.length∧c= .int .i64 (j:Nat)∧(L.take j).any (outM m)=false) (fun c=>L.length-(intOf c).toNat)
 case atStart=>exact⟨0,Nat.zero_le _,rfl,rfl⟩
 case round=>
  obtain⟨j,hj,rfl,hok⟩:=hrel
  by_cases hjl:j<L.length
  ·obtain⟨x,hx⟩:=get_some hjl
   obtain⟨g,o,rfl,x0⟩:=Hr.out.int hx
   have hsn:=any_take_snoc (q:=(outM m)) hx
   rw [hok] at hsn
   have hcl:=intWithin1_any Bm m x w HB.out
   rcases m1:outM m x with _|_
   ·have hok':(L.take (j+1)).any (outM m)=false:=by rw [hsn,m1];rfl
    rw [m1] at hcl
    obtain⟨Hsn,Hx,Hok,Hok',Hcl⟩:=hid5 hsn hx hok hok' hcl;clear hcl hok' hok hx hsn
    go_wp2_with (go_at_call 162;((with_reducible refine Hcl.out.mono ?_);rintro e w1 ⟨rfl,rfl⟩))
    go_round
    case rel=>exact⟨j+1,by omega,by go_num,Hok'.out⟩
    case measure=>simp [intOf];omega
   ·have hf:=any_of_get (q:=(outM m)) hx m1
    have hj0:decide ((0:Int)≤(j:Int))=true:=by simp
    rw [m1] at hcl
    obtain⟨Hf,Hsn,Hx,Hj0,Hcl⟩:=hid5 hf hsn hx hj0 hcl;clear hcl hj0 hx hsn hf
    go_wp2_with (go_at_call 162;((with_reducible refine Hcl.out.mono ?_);rintro e w1 ⟨rfl,rfl⟩))
    go_ret
    exact⟨_,rfl,by rw [Hf.out,Hj0.out],rfl⟩
  ·obtain rfl:j=L.length:=by omega
   rw [List.take_length] at hok
   have Hok:=Lib.hid hok;clear hok
   go_wp2_with fail
   go_ret
   exact⟨_,rfl,by rw [Hok.out];rfl,rfl⟩
set_option maxHeartbeats 400000
theorem containsWithin_any(Bm:Nat)(m:Int)(ad:Option Addr)(cap:Nat)(L:List Int)(w:World)(hB:w.cell? ⟨Bm,0,none⟩=some (.int .i64 m))(hr:Reads w 1 (.slice ad L.length cap) L.length (L.flatMap i64c))(hl:L.length≤100000):
  Calls Tryz.prog 46 #[.slice ad L.length cap, .func (.func 162) #[] #[(.pointer (some ⟨Bm,0,none⟩))]] w fun e w'=>e= .returned (.bool (L.any (outM m)))∧w=w':=by
 obtain⟨Hr,HB⟩:=hid2 hr hB;clear hB hr
 go_enter Tryz.func46,Tryz.ntmps46
 go_wp2_with (go_at_call 81;refine(indexWithin_any Bm m _ _ L _ HB.out Hr.out hl).mono ?_;rintro e w1 ⟨r,rfl,hd,rfl⟩;have Hd:=Lib.hid hd;clear hd)
 go_ret
 exact⟨by rw [←Hd.out];rfl,rfl⟩
theorem intWithin_any(m:Int)(ad:Option Addr)(cap n:Nat)(L:List Int)(w:World)(hr:Reads w 1 (.slice ad n cap) n (L.flatMap i64c))(hN:L.length=n)(hl:n≤100000):
  Calls Tryz.prog 154 #[.slice ad n cap, .int .i64 m] w fun e w'=>e= .returned (.bool (!(L.any (outM m))))∧Keeps (fun _=>False) w w':=by
 subst hN
 have hc:=fun(W:World) (hB:W.cell? ⟨w.heap.size,0,none⟩=some (.int .i64 m)) (hW:Keeps (fun _=>False) w W)=>containsWithin_any w.heap.size m ad cap L W hB (hr.keeps hW (by simp)) hl
 obtain⟨z,hz⟩:∃z,L.any (outM m)=z:=⟨_,rfl⟩
 rw [hz] at hc⊢
 obtain⟨Hr,Hc,Hz⟩:=hid3 hr hc hz;clear hz hc hr
 go_enter Tryz.func154,Tryz.ntmps154
 go_wp2_with fail
 refine(Hc.out _ (cell_of_cells (heap_alloc_new w _) 0) (Keeps.alloc _ _)).mono ?_
 rintro e w1 ⟨rfl,rfl⟩
 go_wp2
 go_ret
 exact⟨rfl,Keeps.alloc _ _⟩
theorem outM_none{m:Int}{L:List Int}(h:∀x∈L,0≤x∧x≤m):L.any (outM m)=false:=by
 rw [Bool.eq_false_iff]
 intro hh
 obtain⟨x,hx,h2⟩:=List.any_eq_true.1 hh
 have:=h x hx
 simp [outM] at h2
 omega
def dotI:List Int→List Int→Int
 |x::X,y::Y=>x*y+dotI X Y
 |_,_=>0
theorem dotI_snoc:∀(X Y:List Int) (x y:Int),X.length=Y.length→dotI (X++ [x]) (Y++ [y])=dotI X Y+x*y:=by
 intro X
 induction X with
 |nil=>intro Y x y h;cases Y<;>simp_all [dotI]
 |cons a X ih=>
  intro Y x y h
  cases Y with
  |nil=>simp at h
  |cons b Y=>
   simp only [List.cons_append,dotI]
   rw [ih Y x y (by simpa using h)]
   omega
theorem dotI_take{X Y:List Int}{k:Nat}{x y:Int}(hl:X.length=Y.length)(hx:X[k]?=some x)(hy:Y[k]?=some y):dotI (X.take (k+1)) (Y.take (k+1))=dotI (X.take k) (Y.take k)+x*y:=by
 rw [take_snoc' hx,take_snoc' hy,dotI_snoc _ _ _ _ (by rw [List.length_take,List.length_take,hl])]
theorem prod_bd{x y:Int}(hx:0≤x∧x≤1000000000000000)(hy:0≤y∧y≤10000000):0≤x*y∧x*y≤10000000000000000000000:=
 ⟨Int.mul_nonneg hx.1 hy.1,Int.le_trans (Int.mul_le_mul hx.2 hy.2 hy.1 (by decide)) (by decide)⟩
theorem dotI_bd:∀(X Y:List Int),(∀x∈X,0≤x∧x≤1000000000000000)→(∀y∈Y,0≤y∧y≤10000000)→0≤dotI X Y∧dotI X Y≤10000000000000000000000*X.length:=by
 intro X
 induction X with
 |nil=>intro Y _ _;cases Y<;>simp [dotI]
 |cons a X ih=>
  intro Y hX hY
  cases Y with
  |nil=>simp only [dotI,List.length_cons];omega
  |cons b Y=>
   have h1:=ih Y (fun x hx=>hX x (List.mem_cons_of_mem _ hx)) (fun y hy=>hY y (List.mem_cons_of_mem _ hy))
   have h2:=prod_bd (hX a (List.mem_cons_self ..)) (hY b (List.mem_cons_self ..))
   simp only [dotI,List.length_cons]
   push_cast
   omega
theorem add64c_run(x y c:Int)(hx:0≤x)(hx':x<18446744073709551616)(hy:0≤y)(hy':y<18446744073709551616)(hc:0≤c)(hc':c≤1)(w:World):
  (callFunc 156 #[.int .u64 x, .int .u64 y, .int .u64 c]).run Tryz.prog w= .ok (.value (.tuple #[.int .u64 ((x+y+c) % 18446744073709551616), .int .u64 ((x+y+c) / 18446744073709551616)])) w:=by
 obtain⟨a,rfl⟩:=Int.eq_ofNat_of_zero_le hx
 obtain⟨b,rfl⟩:=Int.eq_ofNat_of_zero_le hy
 obtain⟨d,rfl⟩:=Int.eq_ofNat_of_zero_le hc
 have h:=run_add64 (P:=Tryz.prog) a b d (by omega) (by omega) (by omega) (by omega) w
 rw [run_callFunc_extern Tryz.func156 (by kernel_rfl) (by kernel_rfl) (by kernel_rfl) (e:=add64Entry) (by kernel_rfl)]
 rw [h]
 simp only [Result.andThen]
def ofR(X Y:List Int):Int×Int:=if 1000000000000000<evenI (dotI X Y) 1000000000 then(0,5) else(evenI (dotI X Y) 1000000000,0)
def exS(g1 o1 g2 o2:Nat)(x y:Int)(W:World):Prop:=W.cell? ⟨g1,o1,none⟩=some (.int .i64 x)∧W.cell? ⟨g2,o2,none⟩=some (.int .i64 y)
def exFr(v1 v2:Value)(hi lo:Int)(k:Nat)(u:Nat→Value):Act:={ tmps:= #[v1,v2,u 2,u 3,u 4,u 5,u 6, .int .u64 hi, .int .u64 lo,u 9,u 10,u 11, .int .i64 k,u 13,u 14,u 15,u 16,u 17,u 18,u 19,u 20,u 21,u 22,u 23,u 24,u 25,u 26,u 27,u 28,u 29,u 30,u 31,u 32,u 33,u 34,u 35,u 36,u 37,u 38,u 39,u 40,u 41,u 42,u 43,u 44,u 45,u 46,u 47,u 48,u 49,u 50,u 51,u 52,u 53,u 54,u 55,u 56,u 57,u 58,u 59,u 60,u 61,u 62,u 63,u 64,u 65,u 66,u 67],defers:= [] }
def exJ(w:World)(v1 v2:Value)(X Y:List Int)(n:Nat)(a':Act)(W:World):Prop:=∃(k:Nat) (N:Int) (u:Nat→Value),a'=exFr v1 v2 (N / 18446744073709551616) (N % 18446744073709551616) k u∧Keeps (fun _=>False) w W∧k≤n∧dotI (X.take k) (Y.take k)=N
theorem exJ.mk{w W:World}{v1 v2:Value}{X Y:List Int}{n:Nat}{a':Act}(k:Nat)(N:Int)(h:a'=exFr v1 v2 (N / 18446744073709551616) (N % 18446744073709551616) k (fun i=>a'.tmps.getD i undef))(hw:Keeps (fun _=>False) w W)(hn:k≤n)(hp:dotI (X.take k) (Y.take k)=N):exJ w v1 v2 X Y n a' W:=⟨k,N,_,h,hw,hn,hp⟩
def slotNat'(i:Nat)(a':Act):Nat:=match a'.tmps.getD i undef with| .int _ n=>n.toNat|_=>0
set_option maxHeartbeats 1600000
theorem intExact_any(X Y:List Int)(ad1 ad2:Option Addr)(c1 c2 n:Nat)(w:World)(hr1:Reads w 1 (.slice ad1 n c1) n (X.flatMap i64c))(hX:X.length=n)(hr2:Reads w 1 (.slice ad2 n c2) n (Y.flatMap i64c))(hY:Y.length=n)(hn:n≤40000)
  (hXb:∀x∈X,0≤x∧x≤1000000000000000) (hYb:∀y∈Y,0≤y∧y≤10000000):
  Calls Tryz.prog 142 #[.slice ad1 n c1, .slice ad2 n c2] w fun e w'=>e= .returned (.tuple #[.int .u64 (dotI X Y / 18446744073709551616), .int .u64 (dotI X Y % 18446744073709551616), .int .i64 0])∧Keeps (fun _=>False) w w':=by
 have hw1:=fun W (hW:Keeps (fun _=>False) w W)=>intWithin_any 1000000000000000 ad1 c1 n X W (hr1.keeps hW (by simp)) hX (by omega)
 have hw2:=fun W (hW:Keeps (fun _=>False) w W)=>intWithin_any 10000000 ad2 c2 n Y W (hr2.keeps hW (by simp)) hY (by omega)
 rw [outM_none hXb,Bool.not_false] at hw1
 rw [outM_none hYb,Bool.not_false] at hw2
 obtain⟨R,hR⟩:∃R,dotI X Y=R:=⟨_,rfl⟩
 rw [hR]
 have hnI:decide ((40000:Int)<(n:Int))=false:=by rw [decide_eq_false_iff_not];omega
 have hne:((n:Int) !=(n:Int))=false:=by simp
 obtain⟨Hr1,HX,Hr2,HY,HXb,HYb,Hw1,Hw2,HR⟩:=hid9 hr1 hX hr2 hY hXb hYb hw1 hw2 hR;clear hR hw2 hw1 hYb hXb hY hr2 hX hr1
 go_enter Tryz.func142,Tryz.ntmps142
 go_wp2
 refine wp_scope_back 0 (exJ w (.slice ad1 n c1) (.slice ad2 n c2) X Y n) (fun a' _=>n-slotNat' 12 a') rfl ?_ ?_
 ·rintro a' W ⟨k,N,u,rfl,hk,hkn,hN⟩
  unfold exFr
  have hbd:=dotI_bd (X.take k) (Y.take k) (fun x hx=>HXb.out x (List.mem_of_mem_take hx)) (fun y hy=>HYb.out y (List.mem_of_mem_take hy))
  rw [hN,List.length_take,HX.out] at hbd
  obtain⟨N0,N1⟩:=hbd
  have N2:N≤400000000000000000000000000:=by
   have:min k n≤40000:=by omega
   omega
  clear N1
  by_cases hlt:k<n
  ·have hltI:(k:Int)<(n:Int):=by omega
   have hneI:((k:Int)==(n:Int))=false:=beq_eq_false_iff_ne.2 (by omega)
   obtain⟨x,hx⟩:=get_some (L:=X) (k:=k) (by rw [HX.out];exact hlt)
   obtain⟨y,hy⟩:=get_some (L:=Y) (k:=k) (by rw [HY.out];exact hlt)
   obtain⟨g1,o1,he1,x0⟩:=(Hr1.out.keeps hk (by simp)).int (k:= .i64) hx
   obtain⟨g2,o2,he2,y0⟩:=(Hr2.out.keeps hk (by simp)).int (k:= .i64) hy
   subst he1
   subst he2
   have hS:exS g1 (o1+k) g2 (o2+k) x y W.drew:=⟨x0,y0⟩
   have xb:=HXb.out x (List.mem_of_getElem? hx)
   have yb:=HYb.out y (List.mem_of_getElem? hy)
   have pb:=prod_bd xb yb
   have hsn:=dotI_take (by rw [HX.out,HY.out]) hx hy
   rw [hN] at hsn
   have hmul:=fun W=>mul64_any x y xb.1 (by omega) yb.1 (by omega) W
   obtain⟨p,hp⟩:∃p,x*y=p:=⟨_,rfl⟩
   rw [hp] at pb hmul hsn
   have lx:=cell_lt x0
   have ly:=cell_lt y0
   obtain⟨A,hA⟩:∃A,p / 18446744073709551616=A:=⟨_,rfl⟩
   obtain⟨B,hB⟩:∃B,p % 18446744073709551616=B:=⟨_,rfl⟩
   obtain⟨Hi,hHi⟩:∃Hi,N / 18446744073709551616=Hi:=⟨_,rfl⟩
   obtain⟨Lo,hLo⟩:∃Lo,N % 18446744073709551616=Lo:=⟨_,rfl⟩
   rw [hA,hB] at hmul
   rw [hHi,hLo]
   have b1:0≤Lo∧Lo<18446744073709551616:=by omega
   have b2:0≤B∧B<18446744073709551616:=by omega
   have b3:0≤Hi∧Hi<1000000000:=by omega
   have b4:0≤A∧A<1000000000:=by omega
   have hadd:=fun(W:World)=>add64_run Lo B b1.1 b1.2 b2.1 b2.2 W
   obtain⟨C,hC⟩:∃C,(Lo+B) / 18446744073709551616=C:=⟨_,rfl⟩
   obtain⟨E,hE⟩:∃E,(Lo+B) % 18446744073709551616=E:=⟨_,rfl⟩
   have b5:0≤C∧C≤1:=by omega
   rw [hC,hE] at hadd
   have hadd2:=fun(W:World)=>add64c_run Hi A C b3.1 (by omega) b4.1 (by omega) b5.1 b5.2 W
   rw [show(Hi+A+C) % 18446744073709551616=(N+p) / 18446744073709551616 by omega] at hadd2
   rw [show E=(N+p) % 18446744073709551616 by omega] at hadd
   obtain⟨xb0,xb1⟩:=xb
   obtain⟨yb0,yb1⟩:=yb
   have q1:IntKind.u64.wrap x=x:=by simp [IntKind.wrap,IntKind.signed,IntKind.bits];omega
   have q2:IntKind.u64.wrap y=y:=by simp [IntKind.wrap,IntKind.signed,IntKind.bits];omega
   obtain⟨Hk,HN,Hx,Hy,Hsn,Hmul,Hp,HA,HB⟩:=hid9 hk hN hx hy hsn hmul hp hA hB;clear hB hA hp hmul hsn hy hx hN hk;obtain⟨HHi,HLo,HC,HE,HS⟩:=hid5 hHi hLo hC hE hS;clear hS hE hC hLo hHi
   clear pb
   go_wp2_with fail
   refine wp_region_mixw (exS g1 (o1+k) g2 (o2+k) x y) (.take 0 (.take 1 (.take 2 (.take 3 (.take 4 (.take 5 (.take 6 (.take 7 (.take 8 (.take 9 (.take 10 (.take 11 (.take 12 (.take 13 (.take 14 (.take 15 .done)))))))))))))))) (by kernel_rfl) (by kernel_rfl) ?_ ?_
   ·exact HS.out
   intro w1 hs1 hk1
   repeat (first
    |(refine mix_skip rfl (by rfl) ?_;try simp only [Act.put,List.setIfInBounds_toArray,List.set_cons_zero,List.set_cons_succ])
    |(refine mix_skipm rfl (by rfl) ?_;try simp only [Act.put,List.setIfInBounds_toArray,List.set_cons_zero,List.set_cons_succ])
    |(refine mix_take (v:= ?_) rfl (by rfl) ?_ ?_;rotate_left;(· intro w' hSw;unfold exS at hSw;go_simp;(try with_reducible rfl));rotate_right;try simp only [Act.put,List.setIfInBounds_toArray,List.set_cons_zero,List.set_cons_succ]))
   refine mix_pure (v:= ?_) rfl (by rfl) ?_ ?_ ?_ ?_ ?_
   rotate_left 3
   ·intro w' hSw;unfold exS at hSw;go_simp;(first|done|(constructor<;>with_reducible rfl)|with_reducible rfl)
   ·intro w' hSw;exact(Hmul.out _)
   rotate_right 3
   try simp only [Act.put,List.setIfInBounds_toArray,List.set_cons_zero,List.set_cons_succ]
   repeat (first
    |(refine mix_skip rfl (by rfl) ?_;try simp only [Act.put,List.setIfInBounds_toArray,List.set_cons_zero,List.set_cons_succ])
    |(refine mix_skipm rfl (by rfl) ?_;try simp only [Act.put,List.setIfInBounds_toArray,List.set_cons_zero,List.set_cons_succ])
    |(refine mix_take (v:= ?_) rfl (by rfl) ?_ ?_;rotate_left;(· intro w' hSw;unfold exS at hSw;go_simp;(try with_reducible rfl));rotate_right;try simp only [Act.put,List.setIfInBounds_toArray,List.set_cons_zero,List.set_cons_succ]))
   refine mix_done ?_
   have Hk1:=Lib.hid (Hk.out.nt hk1)
   clear hk1 hs1
   go_wp2_with fail
   go_step3
   go_wp2
   exact jump_goto ⟨exJ.mk (k+1) (N+p) rfl Hk1.out (by omega) Hsn.out,by simp [slotNat'];omega⟩
  ·obtain rfl:k=n:=by omega
   rw [List.take_of_length_le (by rw [HX.out];exact Nat.le_refl _),List.take_of_length_le (by rw [HY.out];exact Nat.le_refl _),HR.out] at hN
   subst hN
   have Hk:=Lib.hid hk;clear hk
   have hkk:((k:Int)==(k:Int))=true:=by simp
   go_wp2
   refine jump_ret ?_
   exact bodyPost_ret (v:= .tuple #[.int .u64 (R / 18446744073709551616), .int .u64 (R % 18446744073709551616), .int .i64 0]) (by simp [results,Tryz.results142,go_sem]) rfl ⟨rfl,Hk.out⟩
 ·intro hfirst
  have Hfirst:=Lib.hid hfirst;clear hfirst
  go_wp2_with fail
  refine(Hw1.out _ (Keeps.refl _ _)).mono ?_
  rintro e w1 ⟨rfl,hk1⟩
  have Hk1:=Lib.hid hk1;clear hk1
  go_wp2_with fail
  refine(Hw2.out _ Hk1.out).mono ?_
  rintro e w2 ⟨rfl,hk2⟩
  have Hk2:=Lib.hid (Hk1.out.nt hk2);clear hk2
  go_wp2
  go_step3
  rename_i hK
  refine hK _ _ ?_
  refine Hfirst.out _ _ ?_
  exact exJ.mk 0 0 rfl Hk2.out (Nat.zero_le _) rfl
set_option maxHeartbeats 800000
theorem intOf_any(X Y:List Int)(ad1 ad2:Option Addr)(c1 c2 n:Nat)(w:World)(hr1:Reads w 1 (.slice ad1 n c1) n (X.flatMap i64c))(hX:X.length=n)(hr2:Reads w 1 (.slice ad2 n c2) n (Y.flatMap i64c))(hY:Y.length=n)(hn:n≤40000)
  (hXb:∀x∈X,0≤x∧x≤1000000000000000) (hYb:∀y∈Y,0≤y∧y≤10000000):
  Calls Tryz.prog 124 #[.slice ad1 n c1, .slice ad2 n c2] w fun e w'=>e= .returned (.tuple #[.int .i64 (ofR X Y).1, .int .i64 (ofR X Y).2])∧Keeps (fun _=>False) w w':=by
 have hex:=intExact_any X Y ad1 ad2 c1 c2 n w hr1 hX hr2 hY hn hXb hYb
 have hbd:=dotI_bd X Y hXb hYb
 unfold ofR
 obtain⟨N,hN⟩:∃N,dotI X Y=N:=⟨_,rfl⟩
 rw [hN] at hex hbd⊢
 have hev:=even9 N hbd.1 (by omega)
 have hb2:=evenI_bd (N:=N) (D:=1000000000) (M:=1000000000000000000) (by decide) hbd.1 (by omega)
 obtain⟨Z,hZ⟩:∃Z,evenI N 1000000000=Z:=⟨_,rfl⟩
 rw [hZ] at hev hb2⊢
 obtain⟨A,hA⟩:∃A,N / 18446744073709551616=A:=⟨_,rfl⟩
 obtain⟨B,hB⟩:∃B,N % 18446744073709551616=B:=⟨_,rfl⟩
 rw [hA,hB] at hev hex
 obtain⟨z0,z1⟩:=hb2
 by_cases hz:1000000000000000<Z
 ·rw [if_pos hz]
  have hzI:decide (1000000000000000<Z)=true:=by simp [hz]
  clear hz
  obtain⟨Hr1,HX,Hr2,HY,HXb,HYb,Hex,Hbd,HN⟩:=hid9 hr1 hX hr2 hY hXb hYb hex hbd hN;clear hN hbd hex hYb hXb hY hr2 hX hr1;obtain⟨Hev,HZ,HA,HB⟩:=hid4 hev hZ hA hB;clear hB hA hZ hev
  go_enter Tryz.func124,Tryz.ntmps124
  go_wp2_with fail
  refine Hex.out.mono ?_
  rintro e w1 ⟨rfl,hk1⟩
  have Hk1:=Lib.hid hk1;clear hk1
  go_wp2_with fail
  refine(Hev.out _).mono ?_
  rintro e w2 ⟨rfl,hk2⟩
  have Hk2:=Lib.hid (Hk1.out.nt hk2);clear hk2
  go_wp2
  exact bodyPost_ret (v:= .tuple #[.int .i64 0, .int .i64 5]) (by simp [results,Tryz.results124,go_sem]) rfl ⟨rfl,Hk2.out⟩
 ·rw [if_neg hz]
  have hzI:decide (1000000000000000<Z)=false:=by simp [hz]
  have hz2:Z≤1000000000000000:=by omega
  clear hz
  obtain⟨Hr1,HX,Hr2,HY,HXb,HYb,Hex,Hbd,HN⟩:=hid9 hr1 hX hr2 hY hXb hYb hex hbd hN;clear hN hbd hex hYb hXb hY hr2 hX hr1;obtain⟨Hev,HZ,HA,HB⟩:=hid4 hev hZ hA hB;clear hB hA hZ hev
  go_enter Tryz.func124,Tryz.ntmps124
  go_wp2_with fail
  refine Hex.out.mono ?_
  rintro e w1 ⟨rfl,hk1⟩
  have Hk1:=Lib.hid hk1;clear hk1
  go_wp2_with fail
  refine(Hev.out _).mono ?_
  rintro e w2 ⟨rfl,hk2⟩
  have Hk2:=Lib.hid (Hk1.out.nt hk2);clear hk2
  go_wp2
  exact bodyPost_ret (v:= .tuple #[.int .i64 Z, .int .i64 0]) (by simp [results,Tryz.results124,go_sem]) rfl ⟨rfl,Hk2.out⟩
def evErr(t:Tm)(e:Ev):Int:=
 if¬t.err=0 then 6
 else if e.kind<1∨6<e.kind then 1
 else if(e.kind=2∧¬e.tranche=0)∨(¬e.kind=2∧(e.tranche<1∨(t.trs.length:Int)<e.tranche)) then 7
 else if(e.kind=6∧(e.amount<0∨10000000<e.amount))∨(¬e.kind=6∧(e.amount<1∨1000000000000000<e.amount)) then 8
 else if e.day<t.start∨2932896<e.day then 10
 else if((e.kind=4∨e.kind=5)∧(e.ref<1∨2000<e.ref))∨(¬(e.kind=4∨e.kind=5)∧¬e.ref=0) then 1
 else 0
theorem Tm.err_or(t:Tm):t.err=0∨t.err=6:=by unfold Tm.err;split<;>simp
set_option maxHeartbeats 400000
theorem evRef_any(k:Int)(w:World)(r:Bool)(hr:r=(decide (k=4)||decide (k=5))):Calls Tryz.prog 118 #[.int .i64 k] w fun e w'=>e= .returned (.bool r)∧w=w':=by
 by_cases h1:k=4
 ·subst h1
  have h:r=true:=by rw [hr];rfl
  subst h
  clear hr
  go_enter Tryz.func118,Tryz.ntmps118
  go_wp2
  go_ret
  exact⟨rfl,rfl⟩
 ·by_cases h2:k=5
  ·subst h2
   have h:r=true:=by rw [hr];rfl
   subst h
   clear hr
   go_enter Tryz.func118,Tryz.ntmps118
   go_wp2
   go_ret
   exact⟨rfl,rfl⟩
  ·have h:r=false:=by rw [hr];simp [h1,h2]
   subst h
   clear hr
   have h1':(k==4)=false:=beq_eq_false_iff_ne.2 h1
   have h2':(k==5)=false:=beq_eq_false_iff_ne.2 h2
   go_enter Tryz.func118,Tryz.ntmps118
   go_wp2
   go_ret
   exact⟨rfl,rfl⟩
theorem tmRight_at(t:Tm)(v:Value)(w:World){z:Int}(hz:t.err=z)(hr:Reads w 2 v t.trs.length (t.trs.flatMap Tn.cells))(hl:t.trs.length≤1000000):
  Calls Tryz.prog 95 #[.agg #[.int .i64 t.limit,v, .int .i64 t.cyc, .int .i64 t.due, .int .i64 t.minFixed, .int .i64 t.minPart, .int .i64 t.start]] w fun e w'=>e= .returned (.int .i64 z)∧Keeps (fun _=>False) w w':=by
 have hr':=hr
 obtain⟨ad,c,rfl,_⟩:=hr'
 subst hz
 exact tmRight_any t ad c w hr hl
theorem haltE{p:Prop}(h:Hid p):p:=h.out
def evCells(B n:Nat)(ad:Option Addr)(cap:Nat)(st ki da tr am re:Int)(W:World):Prop:=
 W.cell? ⟨B,1,none⟩=some (.slice ad n cap)∧W.cell? ⟨B,6,none⟩=some (.int .i64 st)∧W.cell? ⟨B+1,0,none⟩=some (.int .i64 ki)∧W.cell? ⟨B+1,1,none⟩=some (.int .i64 da)∧W.cell? ⟨B+1,2,none⟩=some (.int .i64 tr)∧W.cell? ⟨B+1,3,none⟩=some (.int .i64 am)∧W.cell? ⟨B+1,4,none⟩=some (.int .i64 re)
theorem evCells_of(w:World)(n:Nat)(ad:Option Addr)(cap:Nat)(li cy du mf mp st ki da tr am re:Int):∀W,Keeps (fun _=>False) ((w.alloc (.cells #[.int .i64 li, .slice ad n cap, .int .i64 cy, .int .i64 du, .int .i64 mf, .int .i64 mp, .int .i64 st] 38)).alloc (.cells #[.int .i64 ki, .int .i64 da, .int .i64 tr, .int .i64 am, .int .i64 re] 26)) W→evCells w.heap.size n ad cap st ki da tr am re W:=by
 intro W hk
 have h1:=box_old (box_alloc (heap_alloc_new w (.cells #[.int .i64 li, .slice ad n cap, .int .i64 cy, .int .i64 du, .int .i64 mf, .int .i64 mp, .int .i64 st] 38)) (.cells #[.int .i64 ki, .int .i64 da, .int .i64 tr, .int .i64 am, .int .i64 re] 26)) hk (by simp)
 have h2:=box_new hk (by simp)
 rw [show(w.alloc (.cells #[.int .i64 li, .slice ad n cap, .int .i64 cy, .int .i64 du, .int .i64 mf, .int .i64 mp, .int .i64 st] 38)).heap.size=w.heap.size+1 by simp] at h2
 exact⟨cell_of_cells h1 1,cell_of_cells h1 6,cell_of_cells h2 0,cell_of_cells h2 1,cell_of_cells h2 2,cell_of_cells h2 3,cell_of_cells h2 4⟩
set_option maxHeartbeats 3200000
theorem evRight_go(li cy du mf mp st ki da tr am re:Int)(L:List Tn)(n:Nat)(ad:Option Addr)(cap:Nat)(w:World)(hr:Reads w 2 (.slice ad n cap) n (L.flatMap Tn.cells))(hl:n≤1000000)(hn:L.length=n):
  Calls Tryz.prog 96 #[.agg #[.int .i64 li, .slice ad n cap, .int .i64 cy, .int .i64 du, .int .i64 mf, .int .i64 mp, .int .i64 st], .agg #[.int .i64 ki, .int .i64 da, .int .i64 tr, .int .i64 am, .int .i64 re]] w fun e w'=>e= .returned (.int .i64 (evErr ⟨li,cy,du,mf,mp,st,L⟩ ⟨ki,da,tr,am,re⟩))∧Keeps (fun _=>False) w w':=by
 have hc:=evCells_of w n ad cap li cy du mf mp st ki da tr am re
 obtain⟨z,hz⟩:∃z,evErr ⟨li,cy,du,mf,mp,st,L⟩ ⟨ki,da,tr,am,re⟩=z:=⟨_,rfl⟩
 rw [hz]
 obtain⟨y,hy⟩:∃y,Tm.err ⟨li,cy,du,mf,mp,st,L⟩=y:=⟨_,rfl⟩
 have hy2:=Tm.err_or ⟨li,cy,du,mf,mp,st,L⟩
 rw [hy] at hy2
 unfold evErr at hz
 rw [hy,hn] at hz
 dsimp only at hz
 obtain⟨Hr,Hn,Hc,Hz,Hy⟩:=hid5 hr hn hc hz hy;clear hy hz hc hn hr
 go_enter Tryz.func96,Tryz.ntmps96
 go_wp2
 refine wp_scope_ahead 0 rfl ?_
 go_wp2_with (go_at_call 95;((with_reducible refine(tmRight_at ⟨li,cy,du,mf,mp,st,L⟩ (.slice ad n cap) _ Hy.out (by rw [Hn.out];exact(Hr.out.keeps (S:=fun _=>False) (by(repeat (first|exact Keeps.refl _ _|exact Keeps.alloc _ _|exact Keeps.drew _|exact Keeps.drewN _ _|refine Keeps.trans_drew ?_|refine Keeps.trans_drewN ?_|refine Keeps.trans_alloc ?_))) (by simp))) (by rw [Hn.out];omega)).mono ?_);rintro e w1 ⟨rfl,hk1⟩;obtain⟨c1,c6,d0,d1,d2,d3,d4⟩:=Hc.out _ hk1;have Hk1:=Lib.hid hk1;clear hk1;refine haltE ?_))
 refine Lib.hid ?_
 rcases hy2 with rfl|rfl
 ·have hz:=Hz.out
  clear Hz
  rw [if_neg (by decide)] at hz
  go_upto_region 4 with fail
  go_cut [17] from 10 to 17 (fun c wx=>c= .bool (decide (ki<1∨6<ki))∧w1=wx)
  case first=>
   have Hz:=Lib.hid hz;clear hz
   by_cases q6:ki<1
   ·skip
    go_wp2_with fail
    go_meet
    exact⟨congrArg Value.bool (decide_eq_true (by omega)).symm,rfl⟩
   ·skip
    by_cases q8:6<ki
    ·skip
     go_wp2_with fail
     go_meet
     exact⟨congrArg Value.bool (decide_eq_true (by omega)).symm,rfl⟩
    ·skip
     go_wp2_with fail
     go_meet
     first|exact⟨congrArg Value.bool (decide_eq_false (by omega)).symm,rfl⟩|exact⟨congrArg Value.bool ((show _=false by simp;omega).trans (decide_eq_false (by omega)).symm),rfl⟩
  case rest=>
   obtain⟨rfl,rfl⟩:=hcut
   by_cases c4:ki<1∨6<ki
   ·rw [if_pos c4] at hz
    rw [decide_eq_true c4]
    subst hz
    clear c4
    go_wp2_with fail
    go_step3
    go_wp2
    refine jump_goto ?_
    go_wp2
    rw [Exit.noGoto_ret]
    go_ret
    exact⟨rfl,Keeps.nt (by(repeat (first|exact Keeps.refl _ _|exact Keeps.alloc _ _|exact Keeps.drew _|exact Keeps.drewN _ _|refine Keeps.trans_drew ?_|refine Keeps.trans_drewN ?_|refine Keeps.trans_alloc ?_))) Hk1.out⟩
   rw [if_neg c4] at hz
   rw [decide_eq_false c4]
   clear c4
   go_upto_region 6 with fail
   go_cut [43] from 18 to 43 (fun c wx=>c= .bool (decide ((ki=2∧¬tr=0)∨(¬ki=2∧(tr<1∨(n:Int)<tr))))∧w1=wx)
   case first=>
    have Hz:=Lib.hid hz;clear hz
    by_cases q8:ki=2
    ·skip
     have p8:(ki==2)=true:=by simp [q8]
     have p8':(ki !=2)=false:=by simp [q8]
     have Q8:=Lib.hid q8;clear q8
     by_cases q10:tr=0
     ·skip
      have p10:(tr==0)=true:=by simp [q10]
      have p10':(tr !=0)=false:=by simp [q10]
      have Q10:=Lib.hid q10;clear q10
      go_wp2_with fail
      go_meet
      have q8:=Q8.out
      have q10:=Q10.out
      first|exact⟨congrArg Value.bool (decide_eq_false (by omega)).symm,rfl⟩|exact⟨congrArg Value.bool ((show _=false by simp;omega).trans (decide_eq_false (by omega)).symm),rfl⟩
     ·skip
      have p10:(tr==0)=false:=by simp [q10]
      have p10':(tr !=0)=true:=by simp [q10]
      have Q10:=Lib.hid q10;clear q10
      go_wp2_with fail
      go_meet
      have q8:=Q8.out
      have q10:=Q10.out
      exact⟨congrArg Value.bool (decide_eq_true (by omega)).symm,rfl⟩
    ·skip
     have p8:(ki==2)=false:=by simp [q8]
     have p8':(ki !=2)=true:=by simp [q8]
     have Q8:=Lib.hid q8;clear q8
     by_cases q10:tr<1
     ·skip
      go_wp2_with fail
      go_meet
      have q8:=Q8.out
      exact⟨congrArg Value.bool (decide_eq_true (by omega)).symm,rfl⟩
     ·skip
      by_cases q12:(n:Int)<tr
      ·skip
       go_wp2_with fail
       go_meet
       have q8:=Q8.out
       exact⟨congrArg Value.bool (decide_eq_true (by omega)).symm,rfl⟩
      ·skip
       go_wp2_with fail
       go_meet
       have q8:=Q8.out
       first|exact⟨congrArg Value.bool (decide_eq_false (by omega)).symm,rfl⟩|exact⟨congrArg Value.bool ((show _=false by simp;omega).trans (decide_eq_false (by omega)).symm),rfl⟩
   case rest=>
    obtain⟨rfl,rfl⟩:=hcut
    by_cases c6:(ki=2∧¬tr=0)∨(¬ki=2∧(tr<1∨(n:Int)<tr))
    ·rw [if_pos c6] at hz
     rw [decide_eq_true c6]
     subst hz
     clear c6
     go_wp2_with fail
     go_step3
     go_wp2
     refine jump_goto ?_
     go_wp2
     rw [Exit.noGoto_ret]
     go_ret
     exact⟨rfl,Keeps.nt (by(repeat (first|exact Keeps.refl _ _|exact Keeps.alloc _ _|exact Keeps.drew _|exact Keeps.drewN _ _|refine Keeps.trans_drew ?_|refine Keeps.trans_drewN ?_|refine Keeps.trans_alloc ?_))) Hk1.out⟩
    rw [if_neg c6] at hz
    rw [decide_eq_false c6]
    clear c6
    go_upto_region 8 with fail
    go_cut [71] from 44 to 71 (fun c wx=>c= .bool (decide ((ki=6∧(am<0∨10000000<am))∨(¬ki=6∧(am<1∨1000000000000000<am))))∧w1=wx)
    case first=>
     have Hz:=Lib.hid hz;clear hz
     by_cases q10:ki=6
     ·skip
      have p10:(ki==6)=true:=by simp [q10]
      have p10':(ki !=6)=false:=by simp [q10]
      have Q10:=Lib.hid q10;clear q10
      by_cases q12:am<0
      ·skip
       go_wp2_with fail
       go_meet
       have q10:=Q10.out
       exact⟨congrArg Value.bool (decide_eq_true (by omega)).symm,rfl⟩
      ·skip
       by_cases q14:10000000<am
       ·skip
        go_wp2_with fail
        go_meet
        have q10:=Q10.out
        exact⟨congrArg Value.bool (decide_eq_true (by omega)).symm,rfl⟩
       ·skip
        go_wp2_with fail
        go_meet
        have q10:=Q10.out
        first|exact⟨congrArg Value.bool (decide_eq_false (by omega)).symm,rfl⟩|exact⟨congrArg Value.bool ((show _=false by simp;omega).trans (decide_eq_false (by omega)).symm),rfl⟩
     ·skip
      have p10:(ki==6)=false:=by simp [q10]
      have p10':(ki !=6)=true:=by simp [q10]
      have Q10:=Lib.hid q10;clear q10
      by_cases q12:am<1
      ·skip
       go_wp2_with fail
       go_meet
       have q10:=Q10.out
       exact⟨congrArg Value.bool (decide_eq_true (by omega)).symm,rfl⟩
      ·skip
       by_cases q14:1000000000000000<am
       ·skip
        go_wp2_with fail
        go_meet
        have q10:=Q10.out
        exact⟨congrArg Value.bool (decide_eq_true (by omega)).symm,rfl⟩
       ·skip
        go_wp2_with fail
        go_meet
        have q10:=Q10.out
        first|exact⟨congrArg Value.bool (decide_eq_false (by omega)).symm,rfl⟩|exact⟨congrArg Value.bool ((show _=false by simp;omega).trans (decide_eq_false (by omega)).symm),rfl⟩
    case rest=>
     obtain⟨rfl,rfl⟩:=hcut
     by_cases c8:(ki=6∧(am<0∨10000000<am))∨(¬ki=6∧(am<1∨1000000000000000<am))
     ·rw [if_pos c8] at hz
      rw [decide_eq_true c8]
      subst hz
      clear c8
      go_wp2_with fail
      go_step3
      go_wp2
      refine jump_goto ?_
      go_wp2
      rw [Exit.noGoto_ret]
      go_ret
      exact⟨rfl,Keeps.nt (by(repeat (first|exact Keeps.refl _ _|exact Keeps.alloc _ _|exact Keeps.drew _|exact Keeps.drewN _ _|refine Keeps.trans_drew ?_|refine Keeps.trans_drewN ?_|refine Keeps.trans_alloc ?_))) Hk1.out⟩
     rw [if_neg c8] at hz
     rw [decide_eq_false c8]
     clear c8
     go_upto_region 10 with fail
     go_cut [81] from 72 to 81 (fun c wx=>c= .bool (decide (da<st∨2932896<da))∧w1=wx)
     case first=>
      have Hz:=Lib.hid hz;clear hz
      by_cases q12:da<st
      ·skip
       go_wp2_with fail
       go_meet
       exact⟨congrArg Value.bool (decide_eq_true (by omega)).symm,rfl⟩
      ·skip
       by_cases q14:2932896<da
       ·skip
        go_wp2_with fail
        go_meet
        exact⟨congrArg Value.bool (decide_eq_true (by omega)).symm,rfl⟩
       ·skip
        go_wp2_with fail
        go_meet
        first|exact⟨congrArg Value.bool (decide_eq_false (by omega)).symm,rfl⟩|exact⟨congrArg Value.bool ((show _=false by simp;omega).trans (decide_eq_false (by omega)).symm),rfl⟩
     case rest=>
      obtain⟨rfl,rfl⟩:=hcut
      by_cases c10:da<st∨2932896<da
      ·rw [if_pos c10] at hz
       rw [decide_eq_true c10]
       subst hz
       clear c10
       go_wp2_with fail
       go_step3
       go_wp2
       refine jump_goto ?_
       go_wp2
       rw [Exit.noGoto_ret]
       go_ret
       exact⟨rfl,Keeps.nt (by(repeat (first|exact Keeps.refl _ _|exact Keeps.alloc _ _|exact Keeps.drew _|exact Keeps.drewN _ _|refine Keeps.trans_drew ?_|refine Keeps.trans_drewN ?_|refine Keeps.trans_alloc ?_))) Hk1.out⟩
      rw [if_neg c10] at hz
      rw [decide_eq_false c10]
      clear c10
      go_upto_region 12 with fail
      go_cut [105] from 82 to 105 (fun c wx=>c= .bool (decide (((ki=4∨ki=5)∧(re<1∨2000<re))∨(¬(ki=4∨ki=5)∧¬re=0)))∧w1=wx)
      case first=>
       have Hz:=Lib.hid hz;clear hz
       by_cases q14:ki=4
       ·skip
        have p14:(ki==4)=true:=by simp [q14]
        have p14':(ki !=4)=false:=by simp [q14]
        have Q14:=Lib.hid q14;clear q14
        by_cases q16:re<1
        ·skip
         have hr:true=(decide (ki=4)||decide (ki=5)):=by simp [Q14.out]
         have HR:=Lib.hid hr;clear hr
         go_wp2_with (go_at_call 118;((with_reducible refine(evRef_any ki _ true HR.out).mono ?_);rintro e w2 ⟨rfl,rfl⟩))
         go_meet
         have q14:=Q14.out
         exact⟨congrArg Value.bool (decide_eq_true (by omega)).symm,rfl⟩
        ·skip
         by_cases q18:2000<re
         ·skip
          have hr:true=(decide (ki=4)||decide (ki=5)):=by simp [Q14.out]
          have HR:=Lib.hid hr;clear hr
          go_wp2_with (go_at_call 118;((with_reducible refine(evRef_any ki _ true HR.out).mono ?_);rintro e w2 ⟨rfl,rfl⟩))
          go_meet
          have q14:=Q14.out
          exact⟨congrArg Value.bool (decide_eq_true (by omega)).symm,rfl⟩
         ·skip
          have hr:true=(decide (ki=4)||decide (ki=5)):=by simp [Q14.out]
          have HR:=Lib.hid hr;clear hr
          go_wp2_with (go_at_call 118;((with_reducible refine(evRef_any ki _ true HR.out).mono ?_);rintro e w2 ⟨rfl,rfl⟩))
          go_meet
          have q14:=Q14.out
          first|exact⟨congrArg Value.bool (decide_eq_false (by omega)).symm,rfl⟩|exact⟨congrArg Value.bool ((show _=false by simp;omega).trans (decide_eq_false (by omega)).symm),rfl⟩
       ·skip
        have p14:(ki==4)=false:=by simp [q14]
        have p14':(ki !=4)=true:=by simp [q14]
        have Q14:=Lib.hid q14;clear q14
        by_cases q16:ki=5
        ·skip
         have p16:(ki==5)=true:=by simp [q16]
         have p16':(ki !=5)=false:=by simp [q16]
         have Q16:=Lib.hid q16;clear q16
         by_cases q18:re<1
         ·skip
          have hr:true=(decide (ki=4)||decide (ki=5)):=by simp [Q14.out,Q16.out]
          have HR:=Lib.hid hr;clear hr
          go_wp2_with (go_at_call 118;((with_reducible refine(evRef_any ki _ true HR.out).mono ?_);rintro e w2 ⟨rfl,rfl⟩))
          go_meet
          have q14:=Q14.out
          have q16:=Q16.out
          exact⟨congrArg Value.bool (decide_eq_true (by omega)).symm,rfl⟩
         ·skip
          by_cases q20:2000<re
          ·skip
           have hr:true=(decide (ki=4)||decide (ki=5)):=by simp [Q14.out,Q16.out]
           have HR:=Lib.hid hr;clear hr
           go_wp2_with (go_at_call 118;((with_reducible refine(evRef_any ki _ true HR.out).mono ?_);rintro e w2 ⟨rfl,rfl⟩))
           go_meet
           have q14:=Q14.out
           have q16:=Q16.out
           exact⟨congrArg Value.bool (decide_eq_true (by omega)).symm,rfl⟩
          ·skip
           have hr:true=(decide (ki=4)||decide (ki=5)):=by simp [Q14.out,Q16.out]
           have HR:=Lib.hid hr;clear hr
           go_wp2_with (go_at_call 118;((with_reducible refine(evRef_any ki _ true HR.out).mono ?_);rintro e w2 ⟨rfl,rfl⟩))
           go_meet
           have q14:=Q14.out
           have q16:=Q16.out
           first|exact⟨congrArg Value.bool (decide_eq_false (by omega)).symm,rfl⟩|exact⟨congrArg Value.bool ((show _=false by simp;omega).trans (decide_eq_false (by omega)).symm),rfl⟩
        ·skip
         have p16:(ki==5)=false:=by simp [q16]
         have p16':(ki !=5)=true:=by simp [q16]
         have Q16:=Lib.hid q16;clear q16
         by_cases q18:re=0
         ·skip
          have p18:(re==0)=true:=by simp [q18]
          have p18':(re !=0)=false:=by simp [q18]
          have Q18:=Lib.hid q18;clear q18
          have hr:false=(decide (ki=4)||decide (ki=5)):=by simp [Q14.out,Q16.out,Q18.out]
          have HR:=Lib.hid hr;clear hr
          go_wp2_with (go_at_call 118;((with_reducible refine(evRef_any ki _ false HR.out).mono ?_);rintro e w2 ⟨rfl,rfl⟩))
          go_meet
          have q14:=Q14.out
          have q16:=Q16.out
          have q18:=Q18.out
          first|exact⟨congrArg Value.bool (decide_eq_false (by omega)).symm,rfl⟩|exact⟨congrArg Value.bool ((show _=false by simp;omega).trans (decide_eq_false (by omega)).symm),rfl⟩
         ·skip
          have p18:(re==0)=false:=by simp [q18]
          have p18':(re !=0)=true:=by simp [q18]
          have Q18:=Lib.hid q18;clear q18
          have hr:false=(decide (ki=4)||decide (ki=5)):=by simp [Q14.out,Q16.out,Q18.out]
          have HR:=Lib.hid hr;clear hr
          go_wp2_with (go_at_call 118;((with_reducible refine(evRef_any ki _ false HR.out).mono ?_);rintro e w2 ⟨rfl,rfl⟩))
          go_meet
          have q14:=Q14.out
          have q16:=Q16.out
          have q18:=Q18.out
          exact⟨congrArg Value.bool (decide_eq_true (by omega)).symm,rfl⟩
      case rest=>
       obtain⟨rfl,rfl⟩:=hcut
       by_cases c12:((ki=4∨ki=5)∧(re<1∨2000<re))∨(¬(ki=4∨ki=5)∧¬re=0)
       ·rw [if_pos c12] at hz
        rw [decide_eq_true c12]
        subst hz
        clear c12
        go_wp2_with fail
        go_step3
        go_wp2
        refine jump_goto ?_
        go_wp2
        rw [Exit.noGoto_ret]
        go_ret
        exact⟨rfl,Keeps.nt (by(repeat (first|exact Keeps.refl _ _|exact Keeps.alloc _ _|exact Keeps.drew _|exact Keeps.drewN _ _|refine Keeps.trans_drew ?_|refine Keeps.trans_drewN ?_|refine Keeps.trans_alloc ?_))) Hk1.out⟩
       rw [if_neg c12] at hz
       rw [decide_eq_false c12]
       clear c12
       subst hz
       go_wp2_with fail
       go_step3
       go_wp2
       refine jump_ret ?_
       go_ret
       exact⟨rfl,Keeps.nt (by(repeat (first|exact Keeps.refl _ _|exact Keeps.alloc _ _|exact Keeps.drew _|exact Keeps.drewN _ _|refine Keeps.trans_drew ?_|refine Keeps.trans_drewN ?_|refine Keeps.trans_alloc ?_))) Hk1.out⟩
 ·go_wp2_with fail
  go_step3
  go_wp2
  refine jump_goto ?_
  go_wp2
  rw [Exit.noGoto_ret]
  go_ret
  exact⟨by rw [←Hz.out];rfl,Keeps.nt (by(repeat (first|exact Keeps.refl _ _|exact Keeps.alloc _ _|exact Keeps.drew _|exact Keeps.drewN _ _|refine Keeps.trans_drew ?_|refine Keeps.trans_drewN ?_|refine Keeps.trans_alloc ?_))) Hk1.out⟩
theorem evRight_any(t:Tm)(ev:Ev)(ad:Option Addr)(cap:Nat)(w:World)(hr:Reads w 2 (.slice ad t.trs.length cap) t.trs.length (t.trs.flatMap Tn.cells))(hl:t.trs.length≤1000000):
  Calls Tryz.prog 96 #[t.val (.slice ad t.trs.length cap),ev.agg] w fun e w'=>e= .returned (.int .i64 (evErr t ev))∧Keeps (fun _=>False) w w':=evRight_go _ _ _ _ _ _ _ _ _ _ _ _ _ ad cap w hr hl rfl
def maxI(a b:Int):Int:=if a≤b then b else a
def leastI(mf mp total:Int):Int:=minI total (maxI mf (evenI (total*mp) 1000))
theorem tm_okB{t:Tm}(h:t.err=0):t.okB=true:=by
 unfold Tm.err at h
 split at h
 ·assumption
 ·cases h
theorem tm_nums{t:Tm}(h:t.err=0):(1≤t.trs.length∧t.trs.length≤8)∧(∀x∈t.trs,0≤x.rate∧x.rate≤10000000)∧(1≤t.cyc∧t.cyc≤28)∧(1≤t.due∧t.due≤25)∧(0≤t.minFixed∧t.minFixed≤1000000000000000)∧(0≤t.minPart∧t.minPart≤1000)∧(-135140≤t.start∧t.start≤2922896):=by
 have h1:=tm_okB h
 simp only [Tm.okB,inB,Bool.and_eq_true,decide_eq_true_eq] at h1
 refine⟨⟨by omega,by omega⟩,fun x hx=> ?_,by omega,by omega,by omega,by omega,by omega⟩
 have:=List.all_eq_true.1 h1.1.2 x hx
 simpa [Tn.okB,inB] using this
set_option maxHeartbeats 1600000
theorem leastOf_any(t:Tm)(v:Value)(total:Int)(w:World)(hz:t.err=0)(hr:Reads w 2 v t.trs.length (t.trs.flatMap Tn.cells))(h0:0≤total)(h1:total≤1000000000000000):
  Calls Tryz.prog 128 #[.agg #[.int .i64 t.limit,v, .int .i64 t.cyc, .int .i64 t.due, .int .i64 t.minFixed, .int .i64 t.minPart, .int .i64 t.start], .int .i64 total] w fun e w'=>e= .returned (.tuple #[.int .i64 (leastI t.minFixed t.minPart total), .int .i64 0])∧Keeps (fun _=>False) w w':=by
 obtain⟨⟨l0,l1⟩,_,_,_,⟨f0,f1⟩,⟨p0,p1⟩,_⟩:=tm_nums hz
 have htm:=fun W (hW:Keeps (fun _=>False) w W)=>tmRight_at t v W hz (hr.keeps hW (by simp)) (by omega)
 have hsh:=fun W=>cashShare_go total t.minPart h0 h1 p0 p1 W
 have hbd:=evenI_bd (N:=total*t.minPart) (D:=1000) (M:=1000000000000000) (by decide) (Int.mul_nonneg h0 p0) (Int.mul_le_mul h1 p1 p0 (by decide))
 obtain⟨li,cy,du,mf,mp,st,L⟩:=t
 simp only at *
 unfold leastI
 obtain⟨q,hq⟩:∃q,evenI (total*mp) 1000=q:=⟨_,rfl⟩
 rw [hq] at hsh hbd⊢
 obtain⟨ad,c,rfl,_⟩:=id hr
 obtain⟨q0,q1⟩:=hbd
 have b0:∀W,Keeps (fun _=>False) (w.alloc (.cells #[.int .i64 li, .slice ad L.length c, .int .i64 cy, .int .i64 du, .int .i64 mf, .int .i64 mp, .int .i64 st] 38)) W→W.heap[w.heap.size]?=some (.cells #[.int .i64 li, .slice ad L.length c, .int .i64 cy, .int .i64 du, .int .i64 mf, .int .i64 mp, .int .i64 st] 38 (0,0)):=fun W hW=>box_old (heap_alloc_new w _) hW (by simp)
 have tn:decide (total<0)=false:=by rw [decide_eq_false_iff_not];omega
 have tn2:decide (1000000000000000<total)=false:=by rw [decide_eq_false_iff_not];omega
 obtain⟨n,hn⟩:∃n,L.length=n:=⟨_,rfl⟩
 rw [hn] at hr htm b0⊢
 have key:∀z:Int,minI total (maxI mf q)=z→Calls Tryz.prog 128 #[.agg #[.int .i64 li, .slice ad n c, .int .i64 cy, .int .i64 du, .int .i64 mf, .int .i64 mp, .int .i64 st], .int .i64 total] w fun e w'=>e= .returned (.tuple #[.int .i64 z, .int .i64 0])∧Keeps (fun _=>False) w w':=by
  intro z hzz
  rcases Int.lt_trichotomy mf q with m1|m1|m1
  ·rw [show maxI mf q=q by unfold maxI;rw [if_pos (by omega)]] at hzz
   rcases Int.lt_trichotomy total q with m2|m2|m2
   ·rw [show minI total q=total by unfold minI;rw [if_pos (by omega)]] at hzz
    subst hzz
    obtain⟨Hr,Hz,Htm,Hsh,Hq,B0,Hn⟩:=hid7 hr hz htm hsh hq b0 hn;clear hn b0 hq hsh htm hz hr
    go_enter Tryz.func128,Tryz.ntmps128
    go_wp2_with fail
    refine wp_scope_ahead 0 rfl ?_
    go_wp2_with fail
    refine(Htm.out _ (Keeps.alloc _ _)).mono ?_
    rintro e w1 ⟨rfl,hk1⟩
    have hb:=B0.out _ hk1
    have c5:=cell_of_cells hb 5
    have cl:=lt_of_block hb
    have Hk1:=Lib.hid ((Keeps.alloc w _).nt hk1)
    clear hk1 hb
    go_wp2_with fail
    refine(Hsh.out _).mono ?_
    rintro e w2 ⟨rfl,hk2⟩
    have Hk2:=Lib.hid (Hk1.out.nt hk2)
    clear hk2
    go_wp2
    refine jump_ret ?_
    exact bodyPost_ret (v:= .tuple #[.int .i64 total, .int .i64 0]) (by simp [results,Tryz.results128,go_sem]) rfl ⟨rfl,Hk2.out⟩
   ·subst m2
    rw [show minI total total=total by unfold minI;rw [if_pos (by omega)]] at hzz
    subst hzz
    obtain⟨Hr,Hz,Htm,Hsh,Hq,B0,Hn⟩:=hid7 hr hz htm hsh hq b0 hn;clear hn b0 hq hsh htm hz hr
    go_enter Tryz.func128,Tryz.ntmps128
    go_wp2_with fail
    refine wp_scope_ahead 0 rfl ?_
    go_wp2_with fail
    refine(Htm.out _ (Keeps.alloc _ _)).mono ?_
    rintro e w1 ⟨rfl,hk1⟩
    have hb:=B0.out _ hk1
    have c5:=cell_of_cells hb 5
    have cl:=lt_of_block hb
    have Hk1:=Lib.hid ((Keeps.alloc w _).nt hk1)
    clear hk1 hb
    go_wp2_with fail
    refine(Hsh.out _).mono ?_
    rintro e w2 ⟨rfl,hk2⟩
    have Hk2:=Lib.hid (Hk1.out.nt hk2)
    clear hk2
    go_wp2
    refine jump_ret ?_
    exact bodyPost_ret (v:= .tuple #[.int .i64 total, .int .i64 0]) (by simp [results,Tryz.results128,go_sem]) rfl ⟨rfl,Hk2.out⟩
   ·rw [show minI total q=q by unfold minI;rw [if_neg (by omega)]] at hzz
    subst hzz
    obtain⟨Hr,Hz,Htm,Hsh,Hq,B0,Hn⟩:=hid7 hr hz htm hsh hq b0 hn;clear hn b0 hq hsh htm hz hr
    go_enter Tryz.func128,Tryz.ntmps128
    go_wp2_with fail
    refine wp_scope_ahead 0 rfl ?_
    go_wp2_with fail
    refine(Htm.out _ (Keeps.alloc _ _)).mono ?_
    rintro e w1 ⟨rfl,hk1⟩
    have hb:=B0.out _ hk1
    have c5:=cell_of_cells hb 5
    have cl:=lt_of_block hb
    have Hk1:=Lib.hid ((Keeps.alloc w _).nt hk1)
    clear hk1 hb
    go_wp2_with fail
    refine(Hsh.out _).mono ?_
    rintro e w2 ⟨rfl,hk2⟩
    have Hk2:=Lib.hid (Hk1.out.nt hk2)
    clear hk2
    go_wp2
    refine jump_ret ?_
    exact bodyPost_ret (v:= .tuple #[.int .i64 q, .int .i64 0]) (by simp [results,Tryz.results128,go_sem]) rfl ⟨rfl,Hk2.out⟩
  ·subst m1
   rw [show maxI mf mf=mf by unfold maxI;rw [if_pos (by omega)]] at hzz
   rcases Int.lt_trichotomy total mf with m2|m2|m2
   ·rw [show minI total mf=total by unfold minI;rw [if_pos (by omega)]] at hzz
    subst hzz
    obtain⟨Hr,Hz,Htm,Hsh,Hq,B0,Hn⟩:=hid7 hr hz htm hsh hq b0 hn;clear hn b0 hq hsh htm hz hr
    go_enter Tryz.func128,Tryz.ntmps128
    go_wp2_with fail
    refine wp_scope_ahead 0 rfl ?_
    go_wp2_with fail
    refine(Htm.out _ (Keeps.alloc _ _)).mono ?_
    rintro e w1 ⟨rfl,hk1⟩
    have hb:=B0.out _ hk1
    have c5:=cell_of_cells hb 5
    have cl:=lt_of_block hb
    have Hk1:=Lib.hid ((Keeps.alloc w _).nt hk1)
    clear hk1 hb
    go_wp2_with fail
    refine(Hsh.out _).mono ?_
    rintro e w2 ⟨rfl,hk2⟩
    have Hk2:=Lib.hid (Hk1.out.nt hk2)
    clear hk2
    go_wp2
    refine jump_ret ?_
    exact bodyPost_ret (v:= .tuple #[.int .i64 total, .int .i64 0]) (by simp [results,Tryz.results128,go_sem]) rfl ⟨rfl,Hk2.out⟩
   ·subst m2
    rw [show minI total total=total by unfold minI;rw [if_pos (by omega)]] at hzz
    subst hzz
    obtain⟨Hr,Hz,Htm,Hsh,Hq,B0,Hn⟩:=hid7 hr hz htm hsh hq b0 hn;clear hn b0 hq hsh htm hz hr
    go_enter Tryz.func128,Tryz.ntmps128
    go_wp2_with fail
    refine wp_scope_ahead 0 rfl ?_
    go_wp2_with fail
    refine(Htm.out _ (Keeps.alloc _ _)).mono ?_
    rintro e w1 ⟨rfl,hk1⟩
    have hb:=B0.out _ hk1
    have c5:=cell_of_cells hb 5
    have cl:=lt_of_block hb
    have Hk1:=Lib.hid ((Keeps.alloc w _).nt hk1)
    clear hk1 hb
    go_wp2_with fail
    refine(Hsh.out _).mono ?_
    rintro e w2 ⟨rfl,hk2⟩
    have Hk2:=Lib.hid (Hk1.out.nt hk2)
    clear hk2
    go_wp2
    refine jump_ret ?_
    exact bodyPost_ret (v:= .tuple #[.int .i64 total, .int .i64 0]) (by simp [results,Tryz.results128,go_sem]) rfl ⟨rfl,Hk2.out⟩
   ·rw [show minI total mf=mf by unfold minI;rw [if_neg (by omega)]] at hzz
    subst hzz
    obtain⟨Hr,Hz,Htm,Hsh,Hq,B0,Hn⟩:=hid7 hr hz htm hsh hq b0 hn;clear hn b0 hq hsh htm hz hr
    go_enter Tryz.func128,Tryz.ntmps128
    go_wp2_with fail
    refine wp_scope_ahead 0 rfl ?_
    go_wp2_with fail
    refine(Htm.out _ (Keeps.alloc _ _)).mono ?_
    rintro e w1 ⟨rfl,hk1⟩
    have hb:=B0.out _ hk1
    have c5:=cell_of_cells hb 5
    have cl:=lt_of_block hb
    have Hk1:=Lib.hid ((Keeps.alloc w _).nt hk1)
    clear hk1 hb
    go_wp2_with fail
    refine(Hsh.out _).mono ?_
    rintro e w2 ⟨rfl,hk2⟩
    have Hk2:=Lib.hid (Hk1.out.nt hk2)
    clear hk2
    go_wp2
    refine jump_ret ?_
    exact bodyPost_ret (v:= .tuple #[.int .i64 mf, .int .i64 0]) (by simp [results,Tryz.results128,go_sem]) rfl ⟨rfl,Hk2.out⟩
  ·rw [show maxI mf q=mf by unfold maxI;rw [if_neg (by omega)]] at hzz
   rcases Int.lt_trichotomy total mf with m2|m2|m2
   ·rw [show minI total mf=total by unfold minI;rw [if_pos (by omega)]] at hzz
    subst hzz
    obtain⟨Hr,Hz,Htm,Hsh,Hq,B0,Hn⟩:=hid7 hr hz htm hsh hq b0 hn;clear hn b0 hq hsh htm hz hr
    go_enter Tryz.func128,Tryz.ntmps128
    go_wp2_with fail
    refine wp_scope_ahead 0 rfl ?_
    go_wp2_with fail
    refine(Htm.out _ (Keeps.alloc _ _)).mono ?_
    rintro e w1 ⟨rfl,hk1⟩
    have hb:=B0.out _ hk1
    have c5:=cell_of_cells hb 5
    have cl:=lt_of_block hb
    have Hk1:=Lib.hid ((Keeps.alloc w _).nt hk1)
    clear hk1 hb
    go_wp2_with fail
    refine(Hsh.out _).mono ?_
    rintro e w2 ⟨rfl,hk2⟩
    have Hk2:=Lib.hid (Hk1.out.nt hk2)
    clear hk2
    go_wp2
    refine jump_ret ?_
    exact bodyPost_ret (v:= .tuple #[.int .i64 total, .int .i64 0]) (by simp [results,Tryz.results128,go_sem]) rfl ⟨rfl,Hk2.out⟩
   ·subst m2
    rw [show minI total total=total by unfold minI;rw [if_pos (by omega)]] at hzz
    subst hzz
    obtain⟨Hr,Hz,Htm,Hsh,Hq,B0,Hn⟩:=hid7 hr hz htm hsh hq b0 hn;clear hn b0 hq hsh htm hz hr
    go_enter Tryz.func128,Tryz.ntmps128
    go_wp2_with fail
    refine wp_scope_ahead 0 rfl ?_
    go_wp2_with fail
    refine(Htm.out _ (Keeps.alloc _ _)).mono ?_
    rintro e w1 ⟨rfl,hk1⟩
    have hb:=B0.out _ hk1
    have c5:=cell_of_cells hb 5
    have cl:=lt_of_block hb
    have Hk1:=Lib.hid ((Keeps.alloc w _).nt hk1)
    clear hk1 hb
    go_wp2_with fail
    refine(Hsh.out _).mono ?_
    rintro e w2 ⟨rfl,hk2⟩
    have Hk2:=Lib.hid (Hk1.out.nt hk2)
    clear hk2
    go_wp2
    refine jump_ret ?_
    exact bodyPost_ret (v:= .tuple #[.int .i64 total, .int .i64 0]) (by simp [results,Tryz.results128,go_sem]) rfl ⟨rfl,Hk2.out⟩
   ·rw [show minI total mf=mf by unfold minI;rw [if_neg (by omega)]] at hzz
    subst hzz
    obtain⟨Hr,Hz,Htm,Hsh,Hq,B0,Hn⟩:=hid7 hr hz htm hsh hq b0 hn;clear hn b0 hq hsh htm hz hr
    go_enter Tryz.func128,Tryz.ntmps128
    go_wp2_with fail
    refine wp_scope_ahead 0 rfl ?_
    go_wp2_with fail
    refine(Htm.out _ (Keeps.alloc _ _)).mono ?_
    rintro e w1 ⟨rfl,hk1⟩
    have hb:=B0.out _ hk1
    have c5:=cell_of_cells hb 5
    have cl:=lt_of_block hb
    have Hk1:=Lib.hid ((Keeps.alloc w _).nt hk1)
    clear hk1 hb
    go_wp2_with fail
    refine(Hsh.out _).mono ?_
    rintro e w2 ⟨rfl,hk2⟩
    have Hk2:=Lib.hid (Hk1.out.nt hk2)
    clear hk2
    go_wp2
    refine jump_ret ?_
    exact bodyPost_ret (v:= .tuple #[.int .i64 mf, .int .i64 0]) (by simp [results,Tryz.results128,go_sem]) rfl ⟨rfl,Hk2.out⟩
 exact key _ rfl
def payQ(f d:Int)(x:Ev):Bool:=decide (x.kind=2)&&(decide (f≤x.day)&&decide (x.day≤d))
def paidS(f d:Int):List Ev→Int→Int
 | [],s=>s
 |x::L,s=>paidS f d L (if payQ f d x=true then minI (s+x.amount) 1000000000000000 else s)
def gpFr(f d:Int)(v:Value)(s:Int)(k:Nat)(u:Nat→Value):Act:={ tmps:= #[.int .i64 f, .int .i64 d,v,u 3,u 4,u 5,u 6,u 7, .int .i64 s, .int .i64 k,u 10,u 11,u 12,u 13,u 14,u 15,u 16,u 17,u 18,u 19,u 20,u 21,u 22,u 23,u 24,u 25,u 26,u 27,u 28,u 29,u 30,u 31,u 32,u 33,u 34,u 35,u 36,u 37,u 38,u 39,u 40,u 41,u 42,u 43,u 44,u 45,u 46,u 47,u 48,u 49],defers:= [] }
def gpJ(w:World)(f d:Int)(v:Value)(L:List Ev)(n:Nat)(R:Int)(a':Act)(W:World):Prop:=∃(k:Nat) (s:Int) (u:Nat→Value),a'=gpFr f d v s k u∧Keeps (fun _=>False) w W∧k≤n∧0≤s∧s≤1000000000000000∧paidS f d (L.drop k) s=R
theorem gpJ.mk{w W:World}{f d:Int}{v:Value}{L:List Ev}{n:Nat}{R:Int}{a':Act}(k:Nat)(s:Int)(h:a'=gpFr f d v s k (fun i=>a'.tmps.getD i undef))(hw:Keeps (fun _=>False) w W)(hn:k≤n)(h0:0≤s)(h1:s≤1000000000000000)(hp:paidS f d (L.drop k) s=R):gpJ w f d v L n R a' W:=⟨k,s,_,h,hw,hn,h0,h1,hp⟩
def slotNat9(i:Nat)(a':Act):Nat:=match a'.tmps.getD i undef with| .int _ n=>n.toNat|_=>0
theorem drop_cons'{α:Type}{L:List α}{i:Nat}{x:α}(hx:L[i]?=some x):L.drop i=x::L.drop (i+1):=by
 obtain⟨h1,h2⟩:=List.getElem?_eq_some_iff.1 hx
 rw [List.drop_eq_getElem_cons h1,h2]
theorem gracePaid_any(f d:Int)(L:List Ev)(ad:Option Addr)(cap n:Nat)(w:World)(hr:Reads w 5 (.slice ad n cap) n (L.flatMap Ev.cells))(hN:L.length=n)(hn:n≤1000000)(hok:∀x∈L,x.kind=2→0≤x.amount∧x.amount≤1000000000000000):
  Calls Tryz.prog 141 #[.int .i64 f, .int .i64 d, .slice ad n cap] w fun e w'=>e= .returned (.tuple #[.int .i64 (paidS f d L 0), .int .i64 0])∧Keeps (fun _=>False) w w':=by
 obtain⟨R,hR⟩:∃R,paidS f d L 0=R:=⟨_,rfl⟩
 rw [hR]
 obtain⟨Hr,HN,Hok,HR⟩:=hid4 hr hN hok hR;clear hR hok hN hr
 go_enter Tryz.func141,Tryz.ntmps141
 go_wp2
 refine wp_scope_back 0 (gpJ w f d (.slice ad n cap) L n R) (fun a' _=>n-slotNat9 9 a') rfl ?_ ?_
 ·rintro a' W ⟨k,s,u,rfl,hk,hkn,s0,s1,hR2⟩
  unfold gpFr
  by_cases hlt:k<n
  ·have hltI:(k:Int)<(n:Int):=by omega
   have hneI:((k:Int)==(n:Int))=false:=beq_eq_false_iff_ne.2 (by omega)
   obtain⟨x,hx⟩:=get_some (L:=L) (k:=k) (by rw [HN.out];exact hlt)
   obtain⟨g,o,c,he,hc⟩:=(Hr.out.keeps hk (by simp)).elem Ev.cells_length hx (by decide)
   simp only [Value.slice.injEq,true_and] at he
   obtain⟨rfl,rfl⟩:=he
   have hok1:=Hok.out x (List.mem_of_getElem? hx)
   obtain⟨ki,da,tr,am,re⟩:=x
   have x0:W.cell? ⟨g,o+k*5,none⟩=some (.int .i64 ki):=hc 0 (by decide)
   have x1:W.cell? ⟨g,o+k*5+1,none⟩=some (.int .i64 da):=hc 1 (by decide)
   have x2:W.cell? ⟨g,o+k*5+2,none⟩=some (.int .i64 tr):=hc 2 (by decide)
   have x3:W.cell? ⟨g,o+k*5+3,none⟩=some (.int .i64 am):=hc 3 (by decide)
   have x4:W.cell? ⟨g,o+k*5+4,none⟩=some (.int .i64 re):=hc 4 (by decide)
   have xl:=cell_lt x0
   simp only at hok1
   clear hc
   obtain⟨Hk,Hx,HR2⟩:=hid3 hk hx hR2;clear hR2 hx hk
   by_cases e1:ki=2
   ·subst e1
    obtain⟨a0,a1⟩:=hok1 rfl
    by_cases e2:f≤da
    ·have e2I:decide (f≤da)=true:=by simp [e2]
     by_cases e3:da≤d
     ·have e3I:decide (da≤d)=true:=by simp [e3]
      have a0I:decide (am<0)=false:=by rw [decide_eq_false_iff_not];omega
      have a1I:decide (1000000000000000<am)=false:=by rw [decide_eq_false_iff_not];omega
      rcases Int.lt_trichotomy (s+am) 1000000000000000 with m2|m2|m2
      ·skip
       have hst:paidS f d (L.drop (k+1)) (s+am)=R:=by rw [←HR2.out,drop_cons' Hx.out];simp only [paidS];rw [if_pos (by simp [payQ];omega)];congr 1;unfold minI;split<;>omega
       have Hst:=Lib.hid hst;clear hst
       go_wp2_with fail
       go_step3
       go_wp2
       exact jump_goto ⟨gpJ.mk (k+1) (s+am) rfl (Hk.out.trans (Keeps.alloc _ _)) (by omega) (by omega) (by omega) Hst.out,by simp [slotNat9];omega⟩
      ·skip
       have hst:paidS f d (L.drop (k+1)) (1000000000000000)=R:=by rw [←HR2.out,drop_cons' Hx.out];simp only [paidS];rw [if_pos (by simp [payQ];omega)];congr 1;unfold minI;split<;>omega
       have Hst:=Lib.hid hst;clear hst
       go_wp2_with fail
       go_step3
       go_wp2
       exact jump_goto ⟨gpJ.mk (k+1) (1000000000000000) rfl (Hk.out.trans (Keeps.alloc _ _)) (by omega) (by omega) (by omega) Hst.out,by simp [slotNat9];omega⟩
      ·skip
       have hst:paidS f d (L.drop (k+1)) (1000000000000000)=R:=by rw [←HR2.out,drop_cons' Hx.out];simp only [paidS];rw [if_pos (by simp [payQ];omega)];congr 1;unfold minI;split<;>omega
       have Hst:=Lib.hid hst;clear hst
       go_wp2_with fail
       go_step3
       go_wp2
       exact jump_goto ⟨gpJ.mk (k+1) (1000000000000000) rfl (Hk.out.trans (Keeps.alloc _ _)) (by omega) (by omega) (by omega) Hst.out,by simp [slotNat9];omega⟩
     ·have e3I:decide (da≤d)=false:=by simp [e3]
      have hst:paidS f d (L.drop (k+1)) s=R:=by rw [←HR2.out,drop_cons' Hx.out];simp only [paidS];rw [if_neg (by simp [payQ];omega)]
      have Hst:=Lib.hid hst;clear hst
      go_wp2_with fail
      go_step3
      go_wp2
      exact jump_goto ⟨gpJ.mk (k+1) s rfl (Hk.out.trans (Keeps.alloc _ _)) (by omega) s0 s1 Hst.out,by simp [slotNat9];omega⟩
    ·have e2I:decide (f≤da)=false:=by simp [e2]
     have hst:paidS f d (L.drop (k+1)) s=R:=by rw [←HR2.out,drop_cons' Hx.out];simp only [paidS];rw [if_neg (by simp [payQ];omega)]
     have Hst:=Lib.hid hst;clear hst
     go_wp2_with fail
     go_step3
     go_wp2
     exact jump_goto ⟨gpJ.mk (k+1) s rfl (Hk.out.trans (Keeps.alloc _ _)) (by omega) s0 s1 Hst.out,by simp [slotNat9];omega⟩
   ·have e1I:(ki==2)=false:=beq_eq_false_iff_ne.2 e1
    have hst:paidS f d (L.drop (k+1)) s=R:=by rw [←HR2.out,drop_cons' Hx.out];simp only [paidS];rw [if_neg (by simp [payQ];omega)]
    have Hst:=Lib.hid hst;clear hst
    go_wp2_with fail
    go_step3
    go_wp2
    exact jump_goto ⟨gpJ.mk (k+1) s rfl (Hk.out.trans (Keeps.alloc _ _)) (by omega) s0 s1 Hst.out,by simp [slotNat9];omega⟩
  ·obtain rfl:k=n:=by omega
   rw [List.drop_eq_nil_of_le (by rw [HN.out];exact Nat.le_refl _)] at hR2
   simp only [paidS] at hR2
   subst hR2
   have Hk:=Lib.hid hk;clear hk
   have hkk:((k:Int)==(k:Int))=true:=by simp
   go_wp2
   refine jump_ret ?_
   exact bodyPost_ret (v:= .tuple #[.int .i64 s, .int .i64 0]) (by simp [results,Tryz.results141,go_sem]) rfl ⟨rfl,Hk.out⟩
 ·intro hfirst
  have Hfirst:=Lib.hid hfirst;clear hfirst
  go_wp2
  go_step3
  rename_i hK
  refine hK _ _ ?_
  refine Hfirst.out _ _ ?_
  exact gpJ.mk 0 0 rfl (Keeps.refl _ _) (Nat.zero_le _) (Int.le_refl _) (by decide) HR.out
def hasB(owed f d:Int)(L:List Ev):Bool:=decide (owed≤0)||decide (owed≤paidS f d L 0)
set_option maxHeartbeats 800000
theorem graceHas_any(owed f d:Int)(L:List Ev)(ad:Option Addr)(cap n:Nat)(w:World)(hr:Reads w 5 (.slice ad n cap) n (L.flatMap Ev.cells))(hN:L.length=n)(hn:n≤1000000)(hok:∀x∈L,x.kind=2→0≤x.amount∧x.amount≤1000000000000000):
  Calls Tryz.prog 123 #[.int .i64 owed, .int .i64 f, .int .i64 d, .slice ad n cap] w fun e w'=>e= .returned (.tuple #[.bool (hasB owed f d L), .int .i64 0])∧Keeps (fun _=>False) w w':=by
 have hp:=gracePaid_any f d L ad cap n w hr hN hn hok
 unfold hasB
 obtain⟨p,hpp⟩:∃p,paidS f d L 0=p:=⟨_,rfl⟩
 rw [hpp] at hp⊢
 obtain⟨b1,h1⟩:∃b,decide (owed≤0)=b:=⟨_,rfl⟩
 obtain⟨b2,h2⟩:∃b,decide (owed≤p)=b:=⟨_,rfl⟩
 rw [h1,h2]
 obtain⟨Hr,HN,Hok,Hp,Hpp⟩:=hid5 hr hN hok hp hpp;clear hpp hp hok hN hr
 rcases b1 with _|_<;>rcases b2 with _|_
 all_goals
  go_enter Tryz.func123,Tryz.ntmps123
  go_wp2_with fail
  refine Hp.out.mono ?_
  rintro e w1 ⟨rfl,hk1⟩
  have Hk1:=Lib.hid hk1;clear hk1
  go_wp2
  first
   |exact bodyPost_ret (v:= .tuple #[.bool true, .int .i64 0]) (by simp [results,Tryz.results123,go_sem]) rfl ⟨rfl,Hk1.out⟩
   |exact bodyPost_ret (v:= .tuple #[.bool false, .int .i64 0]) (by simp [results,Tryz.results123,go_sem]) rfl ⟨rfl,Hk1.out⟩
structure SI where
 ad:Option Addr
 cap:Nat
 L:List Int
def SI.v(x:SI):Value:= .slice x.ad x.L.length x.cap
def SI.cells(x:SI):List Value:= [x.v]
theorem SI.cells_length(x:SI):x.cells.length=1:=rfl
def SIs(w:World)(S:List SI):Prop:=∀x∈S,Reads w 1 x.v x.L.length (x.L.flatMap i64c)∧x.L.length≤maxLen
theorem SIs.keep{w w':World}{S:List SI}(h:SIs w S)(hk:Keeps (fun _=>False) w w'):SIs w' S:=fun x hx=>⟨(h x hx).1.keeps hk (by simp),(h x hx).2⟩
theorem info_tBool:(Tryz.prog.info? 4).map (fun i=>(i.zero,i.size,i.bytes))=some (some (.bool false),1,1):=by kernel_rfl
def boolc(b:Bool):List Value:= [.bool b]
theorem boolc_length(b:Bool):(boolc b).length=1:=rfl
def RowB(W:World)(g n cap:Nat)(O:List Bool):Prop:=W.ownsRow 0 4 1 (.slice (some ⟨g,0,none⟩) n cap) n (O.flatMap boolc)∧O.length=n
theorem RowB.cell{W:World}{g n cap:Nat}{O:List Bool}(h:RowB W g n cap O){k:Nat}{x:Bool}(hx:O[k]?=some x):W.cell? ⟨g,k,none⟩=some (.bool x):=by
 obtain⟨h,rfl⟩:=h
 have:=owns_elem boolc_length h hx 0 (by decide)
 rw [Nat.mul_one,Nat.add_zero] at this;exact this
theorem RowB.free{W:World}{g n cap:Nat}{O:List Bool}(h:RowB W g n cap O)(j:Nat):W.frozen? ⟨g,j,none⟩=false:=by
 rcases h.1.2 with⟨h0,_⟩|⟨g1,cap1,cur,h0,_,hh,_⟩
 ·simp at h0
 ·simp only [Value.slice.injEq,Option.some.injEq,Addr.mk.injEq,and_true,true_and] at h0
  obtain⟨rfl,_⟩:=h0
  exact free_of_cells hh j
theorem RowB.set{W:World}{g n cap:Nat}{O:List Bool}(h:RowB W g n cap O){k:Nat}(hk:k<n)(x:Bool):RowB (W.setCell ⟨g,k,none⟩ (.bool x)) g n cap (O.set k x):=by
 obtain⟨h1,h2⟩:=h
 obtain⟨y,hy⟩:=get_some (L:=O) (k:=k) (by omega)
 subst h2
 have:=owns_store boolc_length h1 hy 0 (by decide) (y:=x) (u:= .bool x) rfl
 simp only [Nat.mul_one,Nat.add_zero] at this
 exact⟨this,by simp⟩
theorem RowB.lt{W:World}{g n cap:Nat}{O:List Bool}(h:RowB W g n cap O):g<W.heap.size:=own_lt h.1 rfl
theorem made_bools(n:Nat):(madeCells (Value.bool false).cells n).toList=(List.replicate n false).flatMap boolc:=by
 have hL:((List.replicate n false).flatMap boolc).length=n:=by rw [flat_length boolc_length];simp
 have hM:(madeCells (Value.bool false).cells n).toList.length=n:=by simp [madeCells]
 apply List.ext_getElem?
 intro i
 by_cases h:i<n
 ·have h2:((List.replicate n false).flatMap boolc)[i]?=some (.bool false):=by
   have:=flat_get boolc_length (L:=List.replicate n false) (k:=i) (j:=0) (x:=false) (by simp [h]) (by decide)
   rw [Nat.mul_one,Nat.add_zero] at this;exact this
  rw [h2]
  simp [madeCells,Value.cells,h,Nat.mod_one]
 ·rw [List.getElem?_eq_none (by omega),List.getElem?_eq_none (by omega)]
theorem RowB.made(w:World)(n:Nat)(hn:n≤maxLen):RowB (w.alloc (.cells (madeCells (Value.bool false).cells n) 4)) w.heap.size n n (List.replicate n false):=by
 have hL:((List.replicate n false).flatMap boolc).length=n*1:=by rw [flat_length boolc_length];simp
 refine⟨⟨hL, .inr ⟨_,_,_,rfl,Nat.zero_le _,heap_alloc_new w _,Nat.le_refl _,hn,by simp [madeCells], ?_⟩⟩,by simp⟩
 rw [made_bools,List.take_of_length_le (by rw [hL];exact Nat.le_refl _)]
def SeenL(n:Nat)(T:List Int)(O:List Bool):Prop:=∀j:Nat,j<n→O[j]?=some (decide (((j:Int)+1)∈T))
theorem SeenL.snoc{n:Nat}{T:List Int}{O:List Bool}(h:SeenL n T O)(hO:O.length=n){k:Int}{i:Nat}(hi:(i:Int)=k-1)(hin:i<n):SeenL n (T++ [k]) (O.set i true):=by
 intro j hj
 by_cases e:i=j
 ·subst e
  rw [List.getElem?_set_self (by omega)]
  have:(i:Int)+1=k:=by omega
  simp [this]
 ·rw [List.getElem?_set_ne e,h j hj]
  have:¬(j:Int)+1=k:=by omega
  simp [this]
set_option maxHeartbeats 1600000
theorem fallOrdered_any(L:List Int)(ad:Option Addr)(cap n m:Nat)(w:World)(hr:Reads w 1 (.slice ad m cap) m (L.flatMap i64c))(hM:L.length=m)(hok:∀k∈L,1≤k∧k≤n)(hnd:L.Nodup)(hn:n≤1000)(hm:m≤1000):
  Calls Tryz.prog 87 #[.slice ad m cap, .int .i64 ((n:Nat):Int)] w fun e w'=>e= .returned (.bool true)∧Keeps (fun _=>False) w w':=by
 obtain⟨i0,hi,hi0,hi1,hi2⟩:=info_parts info_tBool
 have hmk:=fun(W:World)=>run_makeSlice (P:=Tryz.prog) W 154 4 i0 (.bool false) Tryz.underlying154 hi hi0 .i64 .i64 (n:Int) (n:Int) (by omega) (by omega) (by rw [hi1];omega) (by rw [hi2];omega) (by omega)
 simp only [Int.toNat_natCast,hi1,Nat.mul_one] at hmk
 obtain⟨Z,hZ⟩:∃Z,Z=madeCells (Value.bool false).cells n:=⟨_,rfl⟩
 rw [←hZ] at hmk
 obtain⟨Hr,HM,Hok,Hnd,Hi,Hi0,Hi1,Hi2,HZ⟩:=hid9 hr hM hok hnd hi hi0 hi1 hi2 hZ;clear hZ hi2 hi1 hi0 hi hnd hok hM hr
 go_enter Tryz.func87,Tryz.ntmps87
 go_wp2
 have hmd:=RowB.made w n (by unfold maxLen;omega)
 rw [←HZ.out] at hmd
 go_loopw [12] (fun x wx=>∃(i:Nat) (O:List Bool),x= .int .i64 (i:Nat)∧i≤m∧RowB wx w.heap.size n n O∧SeenL n (L.take i) O∧Keeps (fun _=>False) w wx) (fun x _=>m-(intOf x).toNat)
 case atStart=>exact⟨0,_,rfl,Nat.zero_le _,hmd,fun j hj=>by simp [hj],by(repeat (first|exact Keeps.refl _ _|exact Keeps.alloc _ _|exact Keeps.drew _|exact Keeps.drewN _ _|refine Keeps.trans_drew ?_|refine Keeps.trans_drewN ?_|refine Keeps.trans_alloc ?_))⟩
 case round=>
  obtain⟨i,O,rfl,him,hrow,hseen,hk⟩:=hrel
  obtain⟨wq,hwq⟩:∃x,x=wr:=⟨_,rfl⟩
  subst hwq
  clear hmd
  by_cases hlt:i<m
  ·have hltI:(i:Int)<(m:Int):=by omega
   obtain⟨k,hx⟩:=get_some (L:=L) (k:=i) (by rw [HM.out];exact hlt)
   obtain⟨k1,k2⟩:=Hok.out k (List.mem_of_getElem? hx)
   obtain⟨p,hp⟩:∃p:Nat,(p:Int)=k-1:=⟨(k-1).toNat,by omega⟩
   have hpn:p<n:=by omega
   have hnot:¬k∈L.take i:=by
    intro hmem
    obtain⟨j,hj,hje⟩:=List.mem_iff_getElem.1 hmem
    rw [List.length_take] at hj
    rw [List.getElem_take] at hje
    obtain⟨h1,h2⟩:=List.getElem?_eq_some_iff.1 hx
    exact(List.pairwise_iff_getElem.1 Hnd.out) j i (by omega) h1 (by omega) (hje.trans h2.symm)
   have hO:O[p]?=some false:=by
    rw [hseen p hpn,show(p:Int)+1=k by omega,decide_eq_false hnot]
   obtain⟨gO,oO,he,hcO⟩:=(Hr.out.keeps hk (by simp)).int (k:= .i64) hx
   subst he
   have lO:=cell_lt hcO
   have ck:=hrow.cell hO
   have fk:=hrow.free p
   have lg:=hrow.lt
   have q1:(0:Int)≤k-1:=by omega
   have q2:k-1<(n:Int):=by omega
   have q3:(k-1).toNat=p:=by omega
   have q4:IntKind.i64.wrap (k-1)=k-1:=IntWalk.i64_in _ ⟨by omega,by omega⟩
   have q5:decide (k<1)=false:=by rw [decide_eq_false_iff_not];omega
   have q6:decide ((n:Int)<k)=false:=by rw [decide_eq_false_iff_not];omega
   have hnew:RowB (wq.setCell ⟨w.heap.size,p,none⟩ (.bool true)) w.heap.size n n (O.set p true)∧SeenL n (L.take (i+1)) (O.set p true)∧Keeps (fun _=>False) w (wq.setCell ⟨w.heap.size,p,none⟩ (.bool true)):=
    ⟨hrow.set hpn true,by rw [take_snoc' hx];exact hseen.snoc hrow.2 hp hpn,hk.trans (Keeps.setCell _ _ _ (.inr (Nat.le_refl _)))⟩
   obtain⟨Hrow,Hseen,Hk,Hx,Hp,Hnot,HO,Hnew⟩:=hid8 hrow hseen hk hx hp hnot hO hnew;clear hnew hO hnot hp hx hk hseen hrow
   go_wp2
   go_roundw
   case rel=>exact⟨i+1,_,by go_num,by omega,Hnew.out.1,Hnew.out.2.1,Hnew.out.2.2⟩
   case measure=>simp [intOf];omega
  ·obtain rfl:i=m:=by omega
   obtain⟨Hrow,Hseen,Hk⟩:=hid3 hrow hseen hk;clear hk hseen hrow
   go_wp2
   go_ret
   exact⟨rfl,Hk.out⟩
theorem fallMay_at{L:List Int}{b:Bool}{n:Nat}(hb:L.all moneyP=b)(hN:L.length=n)(hl:n≤1000)(ad:Option Addr)(cap:Nat)(w:World)(hr:Reads w 1 (.slice ad n cap) n (L.flatMap i64c)):
  Calls Tryz.prog 82 #[.slice ad n cap] w fun e w'=>e= .returned (.bool b)∧w=w':=by
 subst hN;subst hb;exact fallMay_any ad cap L w hr hl
structure OrdOk(n:Nat)(O:List Int):Prop where
 ok:∀k∈O,1≤k∧k≤n
 nd:O.Nodup
end Go.Proofs.YthcmpcekmkioaaaGreat
