/- Part 15 of the proof of ReplayRuns: walks and plain laws. -/
import Derived.Test.YtgfkeeicjjbnpaaGreatReplayRunsQ14
set_option maxRecDepth 100000
set_option maxHeartbeats 6400000
namespace Go.Proofs.YtgfkeeicjjbnpaaGreat
open Go.RowKit
theorem Qe(t:Tm)(adt:Option Addr)(ct n:Nat)(L:List Ev)(ad:Option Addr)(cap N:Nat)(days:Int)(m:Nat)(w:World)(hn:t.trs.length=n)(htr:Reads w 2 (.slice adt n ct) n (t.trs.flatMap Tn.cells))(hN:L.length=N)(hr:Reads w 5 (.slice ad N cap) N (L.flatMap Ev.cells))(hl:N<=1000000)(htl:n<=1000000)(hd0:0<=days)(hd1:days<=1000)(hm:m<=1000)(hs0:10957<=t.start)(hs1:t.start<=11356):
  Calls Tryz.prog 13 #[.agg #[.int .i64 t.limit,.slice adt n ct,.int .i64 t.cyc,.int .i64 t.due,.int .i64 t.minFixed,.int .i64 t.minPart,.int .i64 t.start],.slice ad N cap,.int .i64 days,.int .i64 (m:Nat)] w λe w'=>∃v,e= .returned v/\Us w (playL t days m L []) v w':=by
 obtain⟨i0,hi,hi0,hi1,hi2⟩:=info_parts Es;obtain⟨Z,hZ⟩:∃Z,playL t days m L []=Z:=⟨_,rfl⟩;rw [hZ];have htb:∀W,Keeps (λ_=>False) (w.alloc (.cells #[.int .i64 t.limit,.slice adt n ct,.int .i64 t.cyc,.int .i64 t.due,.int .i64 t.minFixed,.int .i64 t.minPart,.int .i64 t.start] 24)) W->tbS w.heap.size t (.slice adt n ct) W:=λW hW=>tbS.of (Ac (heap_alloc_new w _) hW (by simp));obtain⟨Hn,Htr,HN,Hr,Hi,Hi0,Hi1,Hi2,HZ⟩:=hid9 hn htr hN hr hi hi0 hi1 hi2 hZ;clear hZ hi2 hi1 hi0 hi hr hN htr hn;have Htb:=Lib.hid htb;clear htb;go_enter Tryz.func13,Tryz.ntmps13;go_wp2;obtain⟨W0,hW0⟩:∃x,x=w.alloc (.cells #[.int .i64 t.limit,.slice adt n ct,.int .i64 t.cyc,.int .i64 t.due,.int .i64 t.minFixed,.int .i64 t.minPart,.int .i64 t.start] 24):=⟨_,rfl⟩;have hk0:Keeps (λ_=>False) w W0:=by rw [hW0];exact Keeps.alloc _ _
 have hs0:w.heap.size<W0.heap.size:=by rw [hW0];simp
 rw [<-hW0] at Htb⊢;clear hW0
 go_loopw [9,10] (λy x wx=>∃(i:Nat) (O:List Ev) (v:Value),v=y/\x= .int .i64 (i:Nat)/\i<=N/\O.length<=m/\playL t days m (L.drop i) O=Z/\Us W0 O v wx) (λ_ x _=>N-(intOf x).toNat)
 case atStart=>exact⟨0, [],_,rfl,rfl,Nat.zero_le _,Nat.zero_le _,HZ.out,World.ownsRow_nil _ _ _ _,Keeps.refl _ _,by simp [Value.ownBlock]⟩
 case round=>
  obtain⟨i,O,v,rfl,rfl,hin,hom,hpl,hat⟩:=hrel;have hk:=hat.2.1;refine jc ?_;intro wq hwq;subst hwq;obtain⟨o,ho⟩:∃o,O.length=o:=⟨_,rfl⟩;obtain⟨av,cv,rfl⟩:∃a c,v= .slice a o c:=by obtain⟨a,c,h,_⟩:=Ad hat.1;rw [ho] at h;exact⟨a,c,h⟩
  by_cases hlt:i<N
  ·have hltI:(i:Int)<(N:Int):=j3;obtain⟨x,hx⟩:=Aj (L:=L) (k:=i) jw;rw [Br hx] at hpl;by_cases hlo:o<m
   ·have hloI:(o:Int)<(m:Int):=j3;obtain⟨g,q,c',he,hc⟩:=(Hr.out.keeps (hk0.nt hk) (by simp)).elem Ev.Aq hx j2;simp only [Value.slice.injEq,true_and] at he;obtain⟨rfl,rfl⟩:=he;obtain⟨ki,da,tr,am,re⟩:=x;have x0:wq.cell? ⟨g,q+i*5,none⟩=some (.int .i64 ki):=hc 0 j2;have x1:wq.cell? ⟨g,q+i*5+1,none⟩=some (.int .i64 da):=hc 1 j2;have x2:wq.cell? ⟨g,q+i*5+2,none⟩=some (.int .i64 tr):=hc 2 j2;have x3:wq.cell? ⟨g,q+i*5+3,none⟩=some (.int .i64 am):=hc 3 j2;have x4:wq.cell? ⟨g,q+i*5+4,none⟩=some (.int .i64 re):=hc 4 j2;clear hc;have hu0:0<=IntKind.u64.wrap da:=by rw [IntKind.wrap_u64];omega
    have hu1:0<=IntKind.u64.wrap am:=by rw [IntKind.wrap_u64];omega
    obtain⟨q,hq⟩:∃q,uq da (days+1)=q:=⟨_,rfl⟩;obtain⟨a1,ha1⟩:∃a,uq am 100000000=a:=⟨_,rfl⟩;have hqt:(IntKind.u64.wrap da).tmod (days+1)=q:=by rw [Int.tmod_eq_emod_of_nonneg hu0];exact hq
    have hat1:(IntKind.u64.wrap am).tmod 100000000=a1:=by rw [Int.tmod_eq_emod_of_nonneg hu1];exact ha1
    have qb:=Ei da (m:=days+1) j1;have ab:=Ei am (m:=100000000) j2;rw [hq] at qb;rw [ha1] at ab;obtain⟨q0,q1⟩:=qb;obtain⟨ab0,ab1⟩:=ab;have hwd:IntKind.u64.wrap (days+1)=days+1:=by rw [IntKind.wrap_u64];omega
    have hwd2:IntKind.i64.wrap (days+1)=days+1:=by rw [IntKind.wrap_i64];omega
    have hdn:(days+1==0)=false:=beq_eq_false_iff_ne.2 j1;have hdn2:¬days+1=0:=j3;have hwq:IntKind.i64.wrap q=q:=by rw [IntKind.wrap_i64];omega
    have hws:IntKind.i64.wrap (t.start+q)=t.start+q:=by rw [IntKind.wrap_i64];omega
    have hE:playE t days ⟨ki,da,tr,am,re⟩=⟨ki,t.start+q,tr,if ki=6 then a1 % 3000000 else a1,re⟩:=by unfold playE;simp only [hq,ha1]
    unfold playL at hpl;rw [if_pos j1,hE] at hpl;obtain⟨b,hbe⟩:∃x,x=wq.heap.size:=⟨_,rfl⟩;have hbs:W0.heap.size<=b:=by rw [hbe];exact hk.size
    have hvb:∀i,(Value.slice av o cv).ownBlock=some i->i<b:=λi hi=>by rw [hbe];exact Bh hat.1 hi
    obtain⟨w10,hw10⟩:∃x,x=wq.alloc (.cells #[.int .i64 ki,.int .i64 da,.int .i64 tr,.int .i64 am,.int .i64 re] 32):=⟨_,rfl⟩;have hkq:Keeps (λ_=>False) W0 w10:=by rw [hw10];exact hk.nt (Keeps.alloc _ _)
    have hb10:w10.heap[b]?=some (.cells #[.int .i64 ki,.int .i64 da,.int .i64 tr,.int .i64 am,.int .i64 re] 32 (0,0)):=by rw [hw10,hbe];exact heap_alloc_new _ _
    have hro10:w10.ownsRow 0 32 5 (.slice av o cv) o (O.flatMap Ev.cells):=by
     have h:=hat.1.alloc (.cells #[.int .i64 ki,.int .i64 da,.int .i64 tr,.int .i64 am,.int .i64 re] 32);rw [ho] at h;rw [hw10];exact h
    have hS1:peS w.heap.size b t.start da w10.drew:=(show peS w.heap.size b t.start da w10 from⟨(Htb.out _ hkq).2.2.2.2.2.2,Aa hb10 1⟩).keep (Keeps.drew _);obtain⟨Hk0,Hpl,Hat,Hk,Hx,Ho,Hq,Ha1,HE⟩:=hid9 hk0 hpl hat hk hx ho hq ha1 hE;clear hE ha1 hq ho hx hk hat hpl hk0;obtain⟨Hbs,Hvb,Hkq,Hb10,Hro10,HS1,Hu0,Hu1⟩:=hid8 hbs hvb hkq hb10 hro10 hS1 hu0 hu1;clear hu1 hu0 hS1 hro10 hb10 hkq hvb hbs;go_wp2_with fail;rw [<-hw10];clear hw10 x0 x1 x2 x3 x4;rw [<-hbe];have Hbe:=Lib.hid hbe;clear hbe;refine Bj (peS w.heap.size b t.start da) 12 (.take 0 (.take 1 (.take 2 (.take 3 (.take 4 (.take 5 (.take 6 (.take 7 (.take 8 (.take 9 (.take 10 (.take 11 (.move 12 .done))))))))))))) j4 j4 ?_ ?_
    ·exact HS1.out
    intro w11 hs11 hk11;refine jR ?_;have hb11:=Ac Hb10.out hk11 (by simp);have hkw11:=Hkq.out.nt hk11;have hro11:=Hro10.out.of_keeps hk11;have b0:=Aa hb11 0;have b1:=Aa hb11 1;have b2:=Aa hb11 2;have b3:=Aa hb11 3;have b4:=Aa hb11 4;have f1:=Ab hb11 1;have f3:=Ab hb11 3;have bl:=lt_of_block hb11;refine jh ?_;clear hs11;obtain⟨Hk11,Hb11,Hkw11,Hro11⟩:=hid4 hk11 hb11 hkw11 hro11;clear hro11 hkw11 hb11 hk11;by_cases hki:ki=6
    ·subst hki;rw [if_pos rfl] at HE Hpl;have h3t:a1.tmod 3000000=a1 % 3000000:=Int.tmod_eq_emod_of_nonneg ab0;obtain⟨a2,ha2⟩:∃a2,a1 % 3000000=a2:=⟨_,rfl⟩;rw [ha2] at h3t HE Hpl;have a20:0<=a2:=by rw [<-ha2];omega
     have a21:a2<3000000:=by rw [<-ha2];omega
     have Ha2:=Lib.hid ha2;clear ha2;obtain⟨z,hz⟩:∃z,evErr t ⟨6,t.start+q,tr,a2,re⟩=z:=⟨_,rfl⟩;have hev:=λW (hW:Keeps (λ_=>False) w W)=>Jk t.limit t.cyc t.due t.minFixed t.minPart t.start 6 (t.start+q) tr a2 re t.trs n adt ct W (Htr.out.keeps hW (by simp)) htl Hn.out;have hz':evErr ⟨t.limit,t.cyc,t.due,t.minFixed,t.minPart,t.start,t.trs⟩ ⟨6,t.start+q,tr,a2,re⟩=z:=hz;rw [hz'] at hev;clear hz';obtain⟨w12,hw12⟩:∃x,x=((w11.setCell ⟨b,1,none⟩ (.int .i64 (t.start+q))).setCell ⟨b,3,none⟩ (.int .i64 a1)).setCell ⟨b,3,none⟩ (.int .i64 a2):=⟨_,rfl⟩;have hk12:Keeps (λi=>i=b) w11 w12:=by rw [hw12];exact(((Keeps.setCell (S:=λi=>i=b) _ _ _ rfl).trans (Keeps.setCell _ _ _ (.inl rfl))).trans (Keeps.setCell _ _ _ (.inl rfl)))
     have hb12:w12.heap[b]?=some (.cells #[.int .i64 6,.int .i64 (t.start+q),.int .i64 tr,.int .i64 a2,.int .i64 re] 32 (0,0)):=by
      rw [hw12];exact(heap_setCell_same _ _ 3 _ _ _ ((heap_setCell_same _ _ 3 _ _ _ ((heap_setCell_same _ _ 1 _ _ _ Hb11.out).trans rfl)).trans rfl)).trans rfl
     have hk13:Keeps (λ_=>False) W0 w12:=Hkw11.out.trans (hk12.mono λi _ e=> .inr (by have e':i=b:=e;have:=Hbs.out;omega));have hpl2:=Hpl.out;rw [hz] at hpl2;obtain⟨Hev,Hz,Hk12,Hb12,Hk13,Hpl2⟩:=hid6 hev hz hk12 hb12 hk13 hpl2;clear hpl2 hk13 hb12 hk12 hz hev;refine j6w ?_;intro tcl el Tc0 Tc1 Tc2 Tc3 Tc4 Tc5 Tc6 E0 E1 E2 E3 E4
     go_upto_region 10 with fail
     rw [<-hw12];clear hw12 b0 b1 b2 b3 b4 f1 f3 bl;have tc0:=Tc0.out;have tc1:=Tc1.out;have tc2:=Tc2.out;have tc3:=Tc3.out;have tc4:=Tc4.out;have tc5:=Tc5.out;have tc6:=Tc6.out;have e0:=E0.out;have e1:=E1.out;have e2:=E2.out;have e3:=E3.out;have e4:=E4.out;go_wp2_with fail;refine(Hev.out _ (Hk0.out.nt Hk13.out)).mono ?_;rintro e w14 ⟨rfl,hk14⟩;clear tc0 tc1 tc2 tc3 tc4 tc5 tc6 e0 e1 e2 e3 e4;refine j6x ?_;intro hb14 hro14 hfr14 e0 e1 e2 e3 e4 el;by_cases hz0:z=0
     ·subst hz0;have hpl3:=Hpl2.out;rw [if_pos rfl] at hpl3;obtain⟨Hk14,Hb14,Hro14,Hfr14,Hpl3⟩:=hid5 hk14 hb14 hro14 hfr14 hpl3;clear hpl3 hfr14 hro14 hb14 hk14
      go_wp2_with (at_builtin;refine Ba rfl (.tmp 57) (.tmp 59) 25 rfl 0 32 i0 _ 5 40 Tryz.underlying25 Hi.out Hi0.out Hi1.out Hi2.out rfl j2 (.slice av o cv) o _ rfl (Hro14.out.alloc _) _ 1 _ rfl (Reads.litAt _ _ _ 5 1 _ jd rfl) j9 j6 j1 (Nat.zero_le _) ?_;intro v4 w4 hown4 hk4 hf4;have hg4:Us W0 (O++ [⟨6,t.start+q,tr,a2,re⟩]) v4 w4:=⟨by rw [List.length_append,Ho.out,List.flatMap_append];exact hown4,(Hfr14.out.keep (Keeps.alloc _ _)).app hk4 hf4⟩;obtain⟨ad4,c4,rfl,_,_⟩:=Ad hown4;have Hg4:=Lib.hid hg4;clear hown4 hk4 hf4 hg4)
      go_roundw
      case rel=>exact⟨i+1,O++ [⟨6,t.start+q,tr,a2,re⟩],_,rfl,by go_num,by omega,by rw [List.length_append,Ho.out];simp;omega,Hpl3.out,Hg4.out⟩
      case measure=>simp [intOf];omega
     ·exact j6y
    ·rw [if_neg hki] at HE Hpl;have hkiI:(ki==6)=false:=beq_eq_false_iff_ne.2 hki;have Hki:=Lib.hid hki;clear hki;obtain⟨z,hz⟩:∃z,evErr t ⟨ki,t.start+q,tr,a1,re⟩=z:=⟨_,rfl⟩;have hev:=λW (hW:Keeps (λ_=>False) w W)=>Jk t.limit t.cyc t.due t.minFixed t.minPart t.start ki (t.start+q) tr a1 re t.trs n adt ct W (Htr.out.keeps hW (by simp)) htl Hn.out;have hz':evErr ⟨t.limit,t.cyc,t.due,t.minFixed,t.minPart,t.start,t.trs⟩ ⟨ki,t.start+q,tr,a1,re⟩=z:=hz;rw [hz'] at hev;clear hz';obtain⟨w12,hw12⟩:∃x,x=(w11.setCell ⟨b,1,none⟩ (.int .i64 (t.start+q))).setCell ⟨b,3,none⟩ (.int .i64 a1):=⟨_,rfl⟩;have hk12:Keeps (λi=>i=b) w11 w12:=by rw [hw12];exact((Keeps.setCell (S:=λi=>i=b) _ _ _ rfl).trans (Keeps.setCell _ _ _ (.inl rfl)))
     have hb12:w12.heap[b]?=some (.cells #[.int .i64 ki,.int .i64 (t.start+q),.int .i64 tr,.int .i64 a1,.int .i64 re] 32 (0,0)):=by
      rw [hw12];exact(heap_setCell_same _ _ 3 _ _ _ ((heap_setCell_same _ _ 1 _ _ _ Hb11.out).trans rfl)).trans rfl
     have hk13:Keeps (λ_=>False) W0 w12:=Hkw11.out.trans (hk12.mono λi _ e=> .inr (by have e':i=b:=e;have:=Hbs.out;omega));have hpl2:=Hpl.out;rw [hz] at hpl2;obtain⟨Hev,Hz,Hk12,Hb12,Hk13,Hpl2⟩:=hid6 hev hz hk12 hb12 hk13 hpl2;clear hpl2 hk13 hb12 hk12 hz hev;refine j6w ?_;intro tcl el Tc0 Tc1 Tc2 Tc3 Tc4 Tc5 Tc6 E0 E1 E2 E3 E4
     go_upto_region 10 with fail
     rw [<-hw12];clear hw12 b0 b1 b2 b3 b4 f1 f3 bl;have tc0:=Tc0.out;have tc1:=Tc1.out;have tc2:=Tc2.out;have tc3:=Tc3.out;have tc4:=Tc4.out;have tc5:=Tc5.out;have tc6:=Tc6.out;have e0:=E0.out;have e1:=E1.out;have e2:=E2.out;have e3:=E3.out;have e4:=E4.out;go_wp2_with fail;refine(Hev.out _ (Hk0.out.nt Hk13.out)).mono ?_;rintro e w14 ⟨rfl,hk14⟩;clear tc0 tc1 tc2 tc3 tc4 tc5 tc6 e0 e1 e2 e3 e4;refine j6x ?_;intro hb14 hro14 hfr14 e0 e1 e2 e3 e4 el;by_cases hz0:z=0
     ·subst hz0;have hpl3:=Hpl2.out;rw [if_pos rfl] at hpl3;obtain⟨Hk14,Hb14,Hro14,Hfr14,Hpl3⟩:=hid5 hk14 hb14 hro14 hfr14 hpl3;clear hpl3 hfr14 hro14 hb14 hk14
      go_wp2_with (at_builtin;refine Ba rfl (.tmp 57) (.tmp 59) 25 rfl 0 32 i0 _ 5 40 Tryz.underlying25 Hi.out Hi0.out Hi1.out Hi2.out rfl j2 (.slice av o cv) o _ rfl (Hro14.out.alloc _) _ 1 _ rfl (Reads.litAt _ _ _ 5 1 _ jd rfl) j9 j6 j1 (Nat.zero_le _) ?_;intro v4 w4 hown4 hk4 hf4;have hg4:Us W0 (O++ [⟨ki,t.start+q,tr,a1,re⟩]) v4 w4:=⟨by rw [List.length_append,Ho.out,List.flatMap_append];exact hown4,(Hfr14.out.keep (Keeps.alloc _ _)).app hk4 hf4⟩;obtain⟨ad4,c4,rfl,_,_⟩:=Ad hown4;have Hg4:=Lib.hid hg4;clear hown4 hk4 hf4 hg4)
      go_roundw
      case rel=>exact⟨i+1,O++ [⟨ki,t.start+q,tr,a1,re⟩],_,rfl,by go_num,by omega,by rw [List.length_append,Ho.out];simp;omega,Hpl3.out,Hg4.out⟩
      case measure=>simp [intOf];omega
     ·exact j6y
   ·have hloI:¬(o:Int)<(m:Int):=j3;unfold playL at hpl;rw [if_neg j1] at hpl;obtain⟨Hpl,Hat,Hk,Hx,Ho,Hk0⟩:=hid6 hpl hat hk hx ho hk0;clear hk0 ho hx hk hat hpl;exact j6z
  ·obtain rfl:N=i:=by omega
   rw [List.drop_of_length_le j0f] at hpl;unfold playL at hpl;obtain⟨Hpl,Hat,Hk,Ho,Hk0⟩:=hid5 hpl hat hk ho hk0;clear hk0 ho hk hat hpl;exact j6z
theorem Td(t:Tm)(ad:Option Addr)(cap:Nat)(w:World)(hr:Reads w 2 (.slice ad t.trs.length cap) t.trs.length (t.trs.flatMap Tn.cells))(hl:t.trs.length<=9223372036854775807):
  Calls Tryz.prog 51 #[t.val (.slice ad t.trs.length cap)] w λe w'=>e= .returned (.int .i64 t.err)/\Keeps (λ_=>False) w w':=by
 exact j3P
theorem Pt(t:Tm)(v:Value)(w:World){z:Int}(hz:t.err=z)(hr:Reads w 2 v t.trs.length (t.trs.flatMap Tn.cells))(hl:t.trs.length<=9223372036854775807):
  Calls Tryz.prog 51 #[.agg #[.int .i64 t.limit,v,.int .i64 t.cyc,.int .i64 t.due,.int .i64 t.minFixed,.int .i64 t.minPart,.int .i64 t.start]] w λe w'=>e= .returned (.int .i64 z)/\Keeps (λ_=>False) w w':=by
 have hr':=hr;obtain⟨ad,c,rfl,_⟩:=hr';subst hz;exact Td t ad c w hr hl
theorem info_tTr:(Tryz.prog.info? 100).map (λi=>(i.zero,i.size,i.bytes))=some (some (.agg #[.int .i64 0,.bool false]),2,16):=by kernel_rfl
theorem Pp{W:World}{R:Nat}{t:TypeId}{a0 a1 a2 a3 a4 a5 a6:Value}(h:W.heap[R]?=some (.cells #[a0,a1,a2,a3,a4,a5,a6] t (0,0)))(v0 v1 v2 v3 v4 v5 v6:Value):
  (((((((W.setCell ⟨R,0,none⟩ v0).setCell ⟨R,1,none⟩ v1).setCell ⟨R,2,none⟩ v2).setCell ⟨R,3,none⟩ v3).setCell ⟨R,4,none⟩ v4).setCell ⟨R,5,none⟩ v5).setCell ⟨R,6,none⟩ v6).heap[R]?=some (.cells #[v0,v1,v2,v3,v4,v5,v6] t (0,0))/\Keeps (λi=>i=R) W (((((((W.setCell ⟨R,0,none⟩ v0).setCell ⟨R,1,none⟩ v1).setCell ⟨R,2,none⟩ v2).setCell ⟨R,3,none⟩ v3).setCell ⟨R,4,none⟩ v4).setCell ⟨R,5,none⟩ v5).setCell ⟨R,6,none⟩ v6):=by
 have h0:(W.setCell ⟨R,0,none⟩ v0).heap[R]?=some (.cells #[v0,a1,a2,a3,a4,a5,a6] t (0,0)):=(heap_setCell_same _ _ 0 _ _ _ h).trans rfl;have h1:((W.setCell ⟨R,0,none⟩ v0).setCell ⟨R,1,none⟩ v1).heap[R]?=some (.cells #[v0,v1,a2,a3,a4,a5,a6] t (0,0)):=(heap_setCell_same _ _ 1 _ _ _ h0).trans rfl;have h2:(((W.setCell ⟨R,0,none⟩ v0).setCell ⟨R,1,none⟩ v1).setCell ⟨R,2,none⟩ v2).heap[R]?=some (.cells #[v0,v1,v2,a3,a4,a5,a6] t (0,0)):=(heap_setCell_same _ _ 2 _ _ _ h1).trans rfl;have h3:((((W.setCell ⟨R,0,none⟩ v0).setCell ⟨R,1,none⟩ v1).setCell ⟨R,2,none⟩ v2).setCell ⟨R,3,none⟩ v3).heap[R]?=some (.cells #[v0,v1,v2,v3,a4,a5,a6] t (0,0)):=(heap_setCell_same _ _ 3 _ _ _ h2).trans rfl;have h4:(((((W.setCell ⟨R,0,none⟩ v0).setCell ⟨R,1,none⟩ v1).setCell ⟨R,2,none⟩ v2).setCell ⟨R,3,none⟩ v3).setCell ⟨R,4,none⟩ v4).heap[R]?=some (.cells #[v0,v1,v2,v3,v4,a5,a6] t (0,0)):=(heap_setCell_same _ _ 4 _ _ _ h3).trans rfl;have h5:((((((W.setCell ⟨R,0,none⟩ v0).setCell ⟨R,1,none⟩ v1).setCell ⟨R,2,none⟩ v2).setCell ⟨R,3,none⟩ v3).setCell ⟨R,4,none⟩ v4).setCell ⟨R,5,none⟩ v5).heap[R]?=some (.cells #[v0,v1,v2,v3,v4,v5,a6] t (0,0)):=(heap_setCell_same _ _ 5 _ _ _ h4).trans rfl;have h6:(((((((W.setCell ⟨R,0,none⟩ v0).setCell ⟨R,1,none⟩ v1).setCell ⟨R,2,none⟩ v2).setCell ⟨R,3,none⟩ v3).setCell ⟨R,4,none⟩ v4).setCell ⟨R,5,none⟩ v5).setCell ⟨R,6,none⟩ v6).heap[R]?=some (.cells #[v0,v1,v2,v3,v4,v5,v6] t (0,0)):=(heap_setCell_same _ _ 6 _ _ _ h5).trans rfl;refine j4j ?_;intro k0 k1 k2 k3 k4 k5 k6;exact⟨h6,k6⟩
def pF(x:Tn):Tn:=⟨uq x.rate 3000000,x.grace⟩
structure PtAt(w2:World)(B b3:Nat)(E0 E2:Array Value)(l c d f p st:Int)(L:List Tn)(i:Nat)(v:Value)(wx:World):Prop where
 h0:wx.heap[B]?=some (.cells E0 24 (0,0))
 h2:wx.heap[B+1]?=some (.cells E2 24 (0,0))
 h3:wx.heap[b3]?=some (.cells #[.int .i64 l,v,.int .i64 c,.int .i64 d,.int .i64 f,.int .i64 p,.int .i64 st] 24 (0,0))
 row:wx.ownsRow 0 100 2 v i (((L.take i).map pF).flatMap Tn.cells)
 nw:∀g,v.ownBlock=some g->w2.heap.size<=g
 kp:Keeps (λi=>i=b3) w2 wx
theorem PtAt.app{w2:World}{B b3:Nat}{E0 E2:Array Value}{l c d f p st:Int}{L:List Tn}{i:Nat}{v v9:Value}{wx w8 w9:World}{x:Tn}(h:PtAt w2 B b3 E0 E2 l c d f p st L i v wx)(hB:¬B=b3)(hB1:¬B+1=b3)(hx:L[i]?=some x)(hk8:Keeps (λ_=>False) wx w8)(hr:w9.ownsRow 0 100 2 v9 (i+1) (((L.take i).map pF).flatMap Tn.cells++(pF x).cells))
  (hk:Keeps (λk=>v.ownBlock=some k) w8 w9) (hf:v9.ownBlock=v.ownBlock\/∃g,v9.ownBlock=some g/\w8.heap.size<=g):PtAt w2 B b3 E0 E2 l c d f p st L (i+1) v9 (w9.setCell ⟨b3,1,none⟩ v9):=by
 have hv:∀{b:Nat} {cs:Array Value},wx.heap[b]?=some (.cells cs 24 (0,0))->¬v.ownBlock=some b:=λhb=>Ag h.row hb j2;have kb:Keeps (λi=>i=b3) w9 (w9.setCell ⟨b3,1,none⟩ v9):=Keeps.setCell _ _ _ rfl;have c0:=Ac (Ac (Ac h.h0 hk8 (by simp)) hk (hv h.h0)) kb hB;have c2:=Ac (Ac (Ac h.h2 hk8 (by simp)) hk (hv h.h2)) kb hB1;have c3:=Ac (Ac h.h3 hk8 (by simp)) hk (hv h.h3)
 have hne:∀k,v9.ownBlock=some k->¬k=b3:=λk hk' e=>by
  subst e;exact Ag hr c3 j2 hk'
 refine⟨c0,c2,(heap_setCell_same _ _ 1 _ _ _ c3).trans rfl, ?_, ?_, ?_⟩
 ·rw [take_snoc' hx,List.map_append,List.flatMap_append]
  simpa using kb.row hr hne
 ·intro g hg;rcases hf with e|⟨g',e1,e2⟩
  ·rw [e] at hg;exact h.nw g hg
  ·rw [e1] at hg;injection hg with hg;have:=h.kp.size;have:=hk8.size;omega
 ·exact((h.kp.trans (hk8.mono (by simp))).trans (hk.mono λi _ e=> .inr (h.nw i e))).trans (kb.mono λi _ e=> .inl e)
def pt8(b3 B:Nat)(v vs:Value)(g o:Nat)(r:Int)(gr:Bool)(W:World):Prop:=W.cell? ⟨b3,1,none⟩=some v/\W.cell? ⟨B,1,none⟩=some vs/\W.cell? ⟨g,o,none⟩=some (.int .i64 r)/\W.cell? ⟨g,o+1,none⟩=some (.bool gr)
theorem pt8.keep{b3 B:Nat}{v vs:Value}{g o:Nat}{r:Int}{gr:Bool}{W W':World}{S:Nat->Prop}(h:pt8 b3 B v vs g o r gr W)(hk:Keeps S W W')(h1:¬S b3)(h2:¬S B)(h3:¬S g):pt8 b3 B v vs g o r gr W':=
 ⟨(hk.cell (Ai h.1) h1).trans h.1,(hk.cell (Ai h.2.1) h2).trans h.2.1,(hk.cell (Ai h.2.2.1) h3).trans h.2.2.1,(hk.cell (Ai h.2.2.2) h3).trans h.2.2.2⟩
theorem Rk(t:Tm)(adt:Option Addr)(ct n:Nat)(w:World)(hn:t.trs.length=n)(htr:Reads w 2 (.slice adt n ct) n (t.trs.flatMap Tn.cells))(htl:n<=9223372036854775807):
  Calls Tryz.prog 12 #[.agg #[.int .i64 t.limit,.slice adt n ct,.int .i64 t.cyc,.int .i64 t.due,.int .i64 t.minFixed,.int .i64 t.minPart,.int .i64 t.start]] w λe w'=>∃v,e= .returned (.agg #[.int .i64 (playT t).limit,v,.int .i64 (playT t).cyc,.int .i64 (playT t).due,.int .i64 (playT t).minFixed,.int .i64 (playT t).minPart,.int .i64 (playT t).start])/\Reads w' 2 v (playT t).trs.length ((playT t).trs.flatMap Tn.cells)/\Keeps (λ_=>False) w w'/\(v= .slice adt n ct\/∀g,v.ownBlock=some g->w.heap.size<=g):=by
 obtain⟨i0,hi,hi0,hi1,hi2⟩:=info_parts info_tTr;obtain⟨q,hq⟩:∃q,uq t.start 400=q:=⟨_,rfl⟩;have hu0:∀x,0<=IntKind.u64.wrap x:=λx=>by rw [IntKind.wrap_u64];omega
 have hqt:(IntKind.u64.wrap t.start).tmod 400=q:=by rw [Int.tmod_eq_emod_of_nonneg (hu0 _)];exact hq
 obtain⟨q0,q1⟩:=Ei t.start (m:=400) j2;rw [hq] at q0 q1;have hrt:=λW (hW:Keeps (λ_=>False) w W)=>Pt { t with start:=10957+q } (.slice adt n ct) W rfl (by rw [<-hn] at *;exact htr.keeps hW (by simp)) (by rw [<-hn] at htl;exact htl);obtain⟨E,hE⟩:∃E,({ t with start:=10957+q }:Tm).err=E:=⟨_,rfl⟩;rw [hE] at hrt;have hE2:=Tm.Qr { t with start:=10957+q };rw [hE] at hE2;dsimp only at hrt;obtain⟨Z,hZ⟩:∃Z,playT t=Z:=⟨_,rfl⟩;have hZ2:=hZ;unfold playT at hZ2;rw [hq,hE] at hZ2;rw [hZ];obtain⟨Hi,Hi0,Hi1,Hi2,Hq,Hrt,HE,HZ,Hu0⟩:=hid9 hi hi0 hi1 hi2 hq hrt hE hZ hu0;clear hu0 hZ hE hrt hq hi2 hi1 hi0 hi;obtain⟨Htr,Hn,HZ2⟩:=hid3 htr hn hZ2;clear hZ2 hn htr;go_enter Tryz.func12,Tryz.ntmps12;go_wp2_with fail;refine(Hrt.out _ j8).mono ?_;rintro e w1 ⟨rfl,hk1⟩;have hb0:=Ac (Ap (heap_alloc_new w _) _) hk1 (by simp);have hb2:=Kb hk1 (by simp);rw [World.size_alloc] at hb2;have hk0:Keeps (λ_=>False) w w1:=Keeps.nt j8 hk1;clear hk1;rcases hE2 with rfl|rfl
 ·have hZ3:=HZ2.out;rw [if_pos rfl] at hZ3;refine j31 ?_;intro t0 t1 t2 t3 t4 t5 t6 tl;have s0:=Aa (hb2) 0;have s1:=Aa (hb2) 1;have s2:=Aa (hb2) 2;have s3:=Aa (hb2) 3;have s4:=Aa (hb2) 4;have s5:=Aa (hb2) 5;have s6:=Aa (hb2) 6;have sl:=lt_of_block (hb2);have f0:=Ab (hb2) 0;have f1:=Ab (hb2) 1;have f2:=Ab (hb2) 2;have f3:=Ab (hb2) 3;have f4:=Ab (hb2) 4;have f5:=Ab (hb2) 5;have f6:=Ab (hb2) 6;obtain⟨hb3,hk3⟩:=Pp hb2 (.int .i64 t.limit) (.slice adt n ct) (.int .i64 t.cyc) (.int .i64 t.due) (.int .i64 t.minFixed) (.int .i64 t.minPart) (.int .i64 (10957+q));have hkz:=hk0.trans (hk3.mono λi _ e=> .inr jq);have hrz:∀W,Keeps (λ_=>False) w W->Reads W 2 (.slice adt n ct) Z.trs.length (Z.trs.flatMap Tn.cells):=λW hW=>by rw [<-hZ3];show Reads W 2 _ t.trs.length (t.trs.flatMap Tn.cells);rw [Hn.out];exact Htr.out.keeps hW (by simp)
  obtain⟨Hb0,Hb2,Hk0,HZ3,Hb3,Hk3,Hkz,Hrz⟩:=hid8 hb0 hb2 hk0 hZ3 hb3 hk3 hkz hrz;clear hrz hkz hk3 hb3 hZ3 hk0 hb2 hb0;go_wp2;clear s0 s1 s2 s3 s4 s5 s6;have r0:=Aa (Hb3.out) 0;have r1:=Aa (Hb3.out) 1;have r2:=Aa (Hb3.out) 2;have r3:=Aa (Hb3.out) 3;have r4:=Aa (Hb3.out) 4;have r5:=Aa (Hb3.out) 5;have r6:=Aa (Hb3.out) 6;exact bodyPost_ret (v:= .agg #[.int .i64 (t.limit),.slice adt n ct,.int .i64 (t.cyc),.int .i64 (t.due),.int .i64 (t.minFixed),.int .i64 (t.minPart),.int .i64 (10957+q)]) j32 rfl ⟨.slice adt n ct,by rw [<-HZ3.out],Hrz.out _ Hkz.out,Hkz.out,.inl rfl⟩
 ·have hZ3:=HZ2.out;rw [if_neg j2] at hZ3;obtain⟨ul,hul⟩:∃z,uq t.limit 100000=z:=⟨_,rfl⟩;have tul:(IntKind.u64.wrap t.limit).tmod 100000=ul:=by rw [Int.tmod_eq_emod_of_nonneg (Hu0.out _)];exact hul
  have bul:=Ei t.limit (m:=100000) j2;rw [hul] at bul;obtain⟨bul0,bul1⟩:=bul;obtain⟨uc,huc⟩:∃z,uq t.cyc 28=z:=⟨_,rfl⟩;have tuc:(IntKind.u64.wrap t.cyc).tmod 28=uc:=by rw [Int.tmod_eq_emod_of_nonneg (Hu0.out _)];exact huc
  have buc:=Ei t.cyc (m:=28) j2;rw [huc] at buc;obtain⟨buc0,buc1⟩:=buc;obtain⟨ud,hud⟩:∃z,uq t.due 25=z:=⟨_,rfl⟩;have tud:(IntKind.u64.wrap t.due).tmod 25=ud:=by rw [Int.tmod_eq_emod_of_nonneg (Hu0.out _)];exact hud
  have bud:=Ei t.due (m:=25) j2;rw [hud] at bud;obtain⟨bud0,bud1⟩:=bud;obtain⟨uf,huf⟩:∃z,uq t.minFixed 100=z:=⟨_,rfl⟩;have tuf:(IntKind.u64.wrap t.minFixed).tmod 100=uf:=by rw [Int.tmod_eq_emod_of_nonneg (Hu0.out _)];exact huf
  have buf:=Ei t.minFixed (m:=100) j2;rw [huf] at buf;obtain⟨buf0,buf1⟩:=buf;obtain⟨up,hup⟩:∃z,uq t.minPart 101=z:=⟨_,rfl⟩;have tup:(IntKind.u64.wrap t.minPart).tmod 101=up:=by rw [Int.tmod_eq_emod_of_nonneg (Hu0.out _)];exact hup
  have bup:=Ei t.minPart (m:=101) j2;rw [hup] at bup;obtain⟨bup0,bup1⟩:=bup;rw [hul,huc,hud,huf,hup] at hZ3;obtain⟨B,hBe⟩:∃x,x=w.heap.size:=⟨_,rfl⟩;obtain⟨b3,hb3e⟩:∃x,x=w1.heap.size:=⟨_,rfl⟩;have hs0:B+1<b3:=by rw [hBe,hb3e];exact lt_of_block hb2
  rw [<-hBe] at hb0 hb2;obtain⟨w2,hw2⟩:∃x,x=w1.alloc (.cells #[.int .i64 ul,.slice none 0 0,.int .i64 (1+uc),.int .i64 (1+ud),.int .i64 uf,.int .i64 up,.int .i64 (10957+q)] 24):=⟨_,rfl⟩
  have hst:PtAt w2 B b3 #[.int .i64 t.limit,.slice adt n ct,.int .i64 t.cyc,.int .i64 t.due,.int .i64 t.minFixed,.int .i64 t.minPart,.int .i64 (10957+q)] #[.int .i64 0,.slice none 0 0,.int .i64 0,.int .i64 0,.int .i64 0,.int .i64 0,.int .i64 0] ul (1+uc) (1+ud) uf up (10957+q) t.trs 0 (.slice none 0 0) w2:=
   ⟨by rw [hw2];exact Ap hb0 _,by rw [hw2];exact Ap hb2 _,by rw [hw2,hb3e];exact heap_alloc_new w1 _,World.ownsRow_nil _ _ _ _,by simp [Value.ownBlock],Keeps.refl _ _⟩
  have hk2:Keeps (λ_=>False) w w2:=by rw [hw2];exact hk0.nt (Keeps.alloc _ _)
  have hb3w:w.heap.size<=b3:=by rw [<-hBe];omega
  have hb3s:b3<w2.heap.size:=lt_of_block hst.h3;rw [<-hBe];refine j31 ?_;intro t0 t1 t2 t3 t4 t5 t6 tl;obtain⟨Hb0,Hb2,Hk0,HZ3,Hul,Huc,Hud,Huf,Hup⟩:=hid9 hb0 hb2 hk0 hZ3 hul huc hud huf hup;clear hup huf hud huc hul hZ3 hk0 hb2 hb0;obtain⟨Hst,Hk2,HBe,Hs0,Hb3w,Hb3s⟩:=hid6 hst hk2 hBe hs0 hb3w hb3s;clear hb3s hb3w hs0 hBe hk2 hst;go_wp2;rw [<-hw2];clear hw2 t0 t1 t2 t3 t4 t5 t6 tl;rw [<-hb3e];clear hb3e
  go_loopw [4] (λx wx=>∃(i:Nat) (v:Value),x= .int .i64 (i:Nat)/\i<=n/\i<=8/\PtAt w2 B b3 #[.int .i64 t.limit,.slice adt n ct,.int .i64 t.cyc,.int .i64 t.due,.int .i64 t.minFixed,.int .i64 t.minPart,.int .i64 (10957+q)] #[.int .i64 0,.slice none 0 0,.int .i64 0,.int .i64 0,.int .i64 0,.int .i64 0,.int .i64 0] ul (1+uc) (1+ud) uf up (10957+q) t.trs i v wx) (λx _=>8-(intOf x).toNat)
  case atStart=>exact⟨0,_,rfl,Nat.zero_le _,Nat.zero_le _,Hst.out⟩
  case round=>
   obtain⟨i,v,rfl,hin,hi8,hat⟩:=hrel;refine jc ?_;intro wq hwq;subst hwq;obtain⟨av,cv,rfl⟩:∃a c,v= .slice a i c:=by obtain⟨a,c,h,_⟩:=Ad hat.row;exact⟨a,c,h⟩
   have hkq:Keeps (λ_=>False) w wq:=Hk2.out.trans (hat.kp.mono λi _ e=> .inr (by have e':i=b3:=e;have:=Hb3w.out;omega));by_cases hlt:i<n/\i<8
   ·have hltI:(i:Int)<(n:Int):=j3;have hlt8:(i:Int)<8:=j3;obtain⟨x,hx⟩:=Aj (L:=t.trs) (k:=i) (by rw [Hn.out];exact hlt.1);obtain⟨g,o,c',he,hc⟩:=(Htr.out.keeps hkq (by simp)).elem Tn.Aq hx j2;simp only [Value.slice.injEq,true_and] at he;obtain⟨rfl,rfl⟩:=he;obtain⟨xr,xg⟩:=x;have x0:wq.cell? ⟨g,o+i*2,none⟩=some (.int .i64 xr):=hc 0 j2;have x1:wq.cell? ⟨g,o+i*2+1,none⟩=some (.bool xg):=hc 1 j2;clear hc;obtain⟨ur,hur⟩:∃z,uq xr 3000000=z:=⟨_,rfl⟩;have tur:(IntKind.u64.wrap xr).tmod 3000000=ur:=by rw [Int.tmod_eq_emod_of_nonneg (Hu0.out _)];exact hur
    have bur:=Ei xr (m:=3000000) j2;rw [hur] at bur;obtain⟨bur0,bur1⟩:=bur;have hwr:IntKind.i64.wrap ur=ur:=by rw [IntKind.wrap_i64];omega
    have hS:pt8 b3 B (.slice av i cv) (.slice (some ⟨g,o,none⟩) n ct) g (o+i*2) xr xg wq.drew:=(show pt8 b3 B (.slice av i cv) (.slice (some ⟨g,o,none⟩) n ct) g (o+i*2) xr xg wq from⟨Aa hat.h3 1,Aa hat.h0 1,x0,x1⟩).keep (S:=λ_=>False) (Keeps.drew _) (by simp) (by simp) (by simp);have hne3:¬(Value.slice av i cv).ownBlock=some b3:=Ag hat.row hat.h3 j2;have hneB:¬(Value.slice av i cv).ownBlock=some B:=Ag hat.row hat.h0 j2
    have hneg:¬(Value.slice av i cv).ownBlock=some g:=λe=>by
     have h1:=hat.nw g e;have h2:=Htr.out.lt (λe=>by rw [List.flatMap_eq_nil_iff] at e;have:=e _ (List.mem_of_getElem? hx);simp [Tn.cells] at this);obtain⟨g',e1,e2⟩:=h2;simp only [Value.ownBlock,Option.some.injEq] at e1;have:=Hk2.out.size;omega
    have hbB:=lt_of_block hat.h0;have hb3q:=lt_of_block hat.h3;have hgl:=Ai x0;have c01:=Aa hat.h0 1;obtain⟨Hat,Hkq,Hx,Hur,HS,Hlt⟩:=hid6 hat hkq hx hur hS hlt;clear hlt hS hur hx hkq hat;go_wp2_with fail;clear x0 x1 c01;refine Bj (pt8 b3 B (.slice av i cv) (.slice (some ⟨g,o,none⟩) n ct) g (o+i*2) xr xg) 21 (.take 0 (.take 1 (.take 2 (.take 3 (.take 4 (.take 5 (.take 6 (.take 7 (.take 8 (.take 9 (.take 10 (.take 11 (.take 12 (.take 13 (.take 14 (.take 15 (.take 16 (.take 17 (.move 18 (.move 19 (.take 20 (.move 21 .done)))))))))))))))))))))) j4 j4 ?_ ?_
    ·exact HS.out
    intro w8 hs8 hk8;refine jB ?_;have hk8a:=hk8.nt (Keeps.alloc w8 (.cells #[.int .i64 ur,.bool xg] 100));have hrow8:=Hat.out.row.of_keeps hk8a;refine Ae rfl (λK hK=> ?_);refine Ah rfl (.tmp 58) (.tmp 75) 22 rfl 0 100 i0 _ 2 16 Tryz.underlying22 Hi.out Hi0.out Hi1.out Hi2.out rfl j2 (.slice av i cv) i _ rfl hrow8 _ 1 _ rfl (Reads.litAt _ _ _ 2 1 _ jd rfl) j9 j6 j1 (Nat.zero_le _) ?_;intro v9 w9 hown9 hk9 hf9;obtain⟨a9,c9,rfl,_,_⟩:=Ad hown9;have happ:=Hat.out.app (by have:=Hs0.out;omega) (by have:=Hs0.out;omega) Hx.out hk8a (by unfold pF;rw [Hur.out];exact hown9) hk9 hf9;have hb39:=Ac (Ac Hat.out.h3 hk8a (by simp)) hk9 hne3;have o1:=Aa hb39 1;have f1:=Ab hb39 1;have l1:=lt_of_block hb39;refine hK.out _ _ (by exact(hs8.keep (S:=λ_=>False) (Keeps.alloc _ _) (by simp) (by simp) (by simp)).keep hk9 hne3 hneB hneg) ?_;clear hK K;refine j5 ?_;clear hs8;obtain⟨Hk8a,Hrow8,Happ,Hb39,Hown9,Hk9,Hk8⟩:=hid7 hk8a hrow8 happ hb39 hown9 hk9 hk8;clear hk8 hk9 hown9 hb39 happ hrow8 hk8a;refine jR ?_;refine jh ?_;clear o1 f1 l1;go_wp2_with fail;go_roundw
    case rel=>exact⟨i+1,_,by go_num,by have:=Hlt.out;omega,by have:=Hlt.out;omega,Happ.out⟩
    case measure=>simp [intOf];omega
   ·have hmap:(t.trs.take i).map pF=(t.trs.take 8).map pF:=by
     by_cases h8:i=8
     ·rw [h8]
     ·have:n=i:=j3;rw [List.take_of_length_le jG,List.take_of_length_le jG]
    have hlen:((t.trs.take 8).map pF).length=i:=by rw [<-hmap,List.length_map,List.length_take,Hn.out];omega
    have hpl:Jt t.trs=if(t.trs.take 8).map pF= [] then [⟨500000,false⟩] else(t.trs.take 8).map pF:=rfl;have hrow:=hat.row;rw [hmap] at hrow;have c01:=Aa hat.h0 1;have hbB:=lt_of_block hat.h0;by_cases h0:i=0
    ·subst h0;have hn0:¬((0:Nat):Int)<(n:Int):=j3;rw [if_pos (List.eq_nil_of_length_eq_zero hlen)] at hpl;have hZ4:=HZ3.out;rw [hpl] at hZ4;have o1:=Aa hat.h3 1;have f1:=Ab hat.h3 1;have l1:=lt_of_block hat.h3;obtain⟨W4,hW4⟩:∃x,x=(wq.setCell ⟨b3,1,none⟩ (.slice (some ⟨wq.heap.size,0,none⟩) 1 1)).alloc (.cells #[.int .i64 500000,.bool false] 100):=⟨_,rfl⟩;have hk4:Keeps (λi=>i=b3) wq W4:=by rw [hW4];exact(Keeps.setCell (S:=λi=>i=b3) wq _ _ rfl).trans (Keeps.alloc _ _)
     have hb34:W4.heap[b3]?=some (.cells #[.int .i64 ul,.slice (some ⟨wq.heap.size,0,none⟩) 1 1,.int .i64 (1+uc),.int .i64 (1+ud),.int .i64 uf,.int .i64 up,.int .i64 (10957+q)] 24 (0,0)):=by rw [hW4];exact Ap ((heap_setCell_same _ _ 1 _ _ _ hat.h3).trans rfl) _
     have hb24:=Ac hat.h2 hk4 (by have:=Hs0.out;omega)
     have hrd4:Reads W4 2 (.slice (some ⟨wq.heap.size,0,none⟩) 1 1) 1 ([(⟨500000,false⟩:Tn)].flatMap Tn.cells):=by
      rw [hW4];exact Reads.litAt (n:=1) _ #[.int .i64 500000,.bool false] _ 2 _ (by simp) rfl
     have hkw4:Keeps (λ_=>False) w W4:=hkq.trans (hk4.mono λi _ e=> .inr (by have e':i=b3:=e;have:=Hb3w.out;omega));obtain⟨Hat,Hkq,Hmap,Hlen,Hpl,Hrow,Hlt,HZ4,Hk4⟩:=hid9 hat hkq hmap hlen hpl hrow hlt hZ4 hk4;clear hk4 hZ4 hlt hrow hpl hlen hmap hkq hat;obtain⟨Hb34,Hb24,Hrd4,Hkw4⟩:=hid4 hb34 hb24 hrd4 hkw4;clear hkw4 hrd4 hb24 hb34
     go_upto_region 11 with fail
     rw [<-hW4];clear hW4 o1 f1 l1;have t0:=Aa (Hb34.out) 0;have t1:=Aa (Hb34.out) 1;have t2:=Aa (Hb34.out) 2;have t3:=Aa (Hb34.out) 3;have t4:=Aa (Hb34.out) 4;have t5:=Aa (Hb34.out) 5;have t6:=Aa (Hb34.out) 6;have tl:=lt_of_block (Hb34.out);have s0:=Aa (Hb24.out) 0;have s1:=Aa (Hb24.out) 1;have s2:=Aa (Hb24.out) 2;have s3:=Aa (Hb24.out) 3;have s4:=Aa (Hb24.out) 4;have s5:=Aa (Hb24.out) 5;have s6:=Aa (Hb24.out) 6;have sl:=lt_of_block (Hb24.out);have f0:=Ab (Hb24.out) 0;have f1:=Ab (Hb24.out) 1;have f2:=Ab (Hb24.out) 2;have f3:=Ab (Hb24.out) 3;have f4:=Ab (Hb24.out) 4;have f5:=Ab (Hb24.out) 5;have f6:=Ab (Hb24.out) 6;obtain⟨hb5,hk5⟩:=Pp (Hb24.out) (.int .i64 ul) (.slice (some ⟨wq.heap.size,0,none⟩) 1 1) (.int .i64 (1+uc)) (.int .i64 (1+ud)) (.int .i64 uf) (.int .i64 up) (.int .i64 (10957+q));have hkz:=(Hkw4.out).trans (hk5.mono λi _ e=> .inr (by have e':i=B+1:=e;have:=HBe.out;omega));have hrz:Reads _ 2 (.slice (some ⟨wq.heap.size,0,none⟩) 1 1) Z.trs.length (Z.trs.flatMap Tn.cells):=(by rw [<-HZ4.out];exact Hrd4.out.keeps hk5 (λg hg e=>by simp only [Value.ownBlock,Option.some.injEq] at hg;have e':g=B+1:=e;have:=lt_of_block Hat.out.h2;omega));obtain⟨Hb5,Hk5,Hkz,Hrz⟩:=hid4 hb5 hk5 hkz hrz;clear hrz hkz hk5 hb5;go_wp2;clear s0 s1 s2 s3 s4 s5 s6;have r0:=Aa (Hb5.out) 0;have r1:=Aa (Hb5.out) 1;have r2:=Aa (Hb5.out) 2;have r3:=Aa (Hb5.out) 3;have r4:=Aa (Hb5.out) 4;have r5:=Aa (Hb5.out) 5;have r6:=Aa (Hb5.out) 6;exact bodyPost_ret (v:= .agg #[.int .i64 ul,.slice (some ⟨wq.heap.size,0,none⟩) 1 1,.int .i64 (1+uc),.int .i64 (1+ud),.int .i64 uf,.int .i64 up,.int .i64 (10957+q)]) j32 rfl ⟨.slice (some ⟨wq.heap.size,0,none⟩) 1 1,by rw [<-HZ4.out],Hrz.out,Hkz.out,.inr (λg hg=>by simp only [Value.ownBlock,Option.some.injEq] at hg;have:=Hkq.out.size;omega)⟩
    ·have hi0:((i:Int)==0)=false:=beq_eq_false_iff_ne.2 j1;rw [if_neg (λe=>by rw [e] at hlen;simp at hlen;omega)] at hpl;have hZ4:=HZ3.out;rw [hpl] at hZ4;have hrd4:Reads wq 2 (.slice av i cv) ((t.trs.take 8).map pF).length (((t.trs.take 8).map pF).flatMap Tn.cells):=by rw [hlen];exact Reads.Ay hrow
     have hnb:¬(Value.slice av i cv).ownBlock=some (B+1):=Ag hat.row hat.h2 j2;by_cases h8:i<n
     ·have hltI:(i:Int)<(n:Int):=j3;have hlt8:¬(i:Int)<8:=j3;exact j6A
     ·have hltI:¬(i:Int)<(n:Int):=j3;exact j6A
theorem wpList_append_fits{P:Program}{w:World}{ops:Array Oper}{rest:List Oper}{o:Oper}{a:Act}{Q:Exit->Act->World->Prop}(hgd:o.guard=none)(s x:Operand)(t:TypeId)
  (ho:o.op= .call { callee:= .builtin .append,args:= #[s,x],argTypes:= #[t,t] })
  (e:TypeId) (i:TypeInfo) (size:Nat) (ht:P.underlying t=some (.slice e)) (hi:P.info? e=some i) (hsize:i.size=size)
  (g n cap:Nat) (cur:List Value) (hs:a.eval s= .slice (some ⟨g,0,none⟩) n cap) (hg:w.heap[g]?=some (.cells cur.toArray e (0,0))) (hcs:cur.length=cap*size) (hcm:cap<=maxLen)
  (xv:Value) (m:Nat) (news:List Value) (hx:a.eval x=xv) (hxr:Reads w size xv m news) (h1:∀u∈news,u.oneCell'=true) (hroom:n+m<=cap)
  (h:∀w',w'.heap[g]?=some (.cells (laid cur (n*size) news).toArray e (0,0))->Keeps (λk=>k=g) w w'->wpList P ops Q rest (a.put o.dst (.slice (some ⟨g,0,none⟩) (n+m) cap)) w'):wpList P ops Q (o::rest) a w:=by
 refine wpList_plain hgd λK hK=> ?_;subst hsize;obtain⟨ad,c,rfl,hmc,hl,hnone,hnews⟩:=hxr;have hnc:n*i.size<=cap*i.size:=Nat.mul_le_mul_right _ j1;have hnm:(n+m)*i.size<=cap*i.size:=Nat.mul_le_mul_right _ hroom;rw [Nat.add_mul] at hnm;rcases ad with _|ad
 ·have hc0:=hnone rfl;subst hc0;obtain rfl:m=0:=by omega
  obtain rfl:news= []:=List.eq_nil_of_length_eq_zero (by simpa using hl)
  have hown:w.ownsRow 0 e i.size (.slice (some ⟨g,0,none⟩) n cap) n (cur.take (n*i.size)):=by
   refine⟨by rw [List.length_take];omega,.inr ⟨g,cap,cur.toArray,rfl,Nat.zero_le _,hg,by omega,hcm,by simpa using hcs,by simp⟩⟩
  have hr:=run_append_owned_none (P:=P) w 0 t o.type e i i.size ht hi _ n _ hown;refine j0F ?_;refine hK _ _ (h _ ?_ (Keeps.refl _ _));rw [hg];simp [laid]
 ·have hnews':∀j u,news[j]?=some u->w.cell? (ad.add j)=some u:=λj u hj=>by
   obtain⟨g',o',ha',hh⟩:=hnews j u hj
   cases ha'
   rw [Uq];exact hh
  have hr:=run_append_room (P:=P) w t o.type e i ht hi g n cap cur.toArray hg ad m c news hl hnews' h1 hroom (by rw [List.size_toArray,hl,hcs];exact hnm);refine j0F ?_;exact hK _ _ (h _ (setRow_heap w g _ _ e _ hg) ⟨rfl,rfl,rfl,by simp,λk _ hk=>setRow_other w g k _ hk⟩)
theorem rep_setN{α:Type}(L:List α)(x z:α)(j m:Nat):(L++List.replicate j x++List.replicate (m+1) z).set (L.length+j) x=L++List.replicate (j+1) x++List.replicate m z:=by
 rw [List.set_append_right _ _ (by simp),show L.length+j-(L++List.replicate j x).length=0 by simp,List.replicate_succ,List.set_cons_zero,List.replicate_succ',List.append_assoc,List.append_assoc,List.append_assoc];rfl
theorem Rl(a0:Int)(a1:Int)(a2:Int)(a3:Int)(a4:Int)(w:World):Calls Tryz.prog 118 #[.agg #[.int .i64 a0,.int .i64 a1,.int .i64 a2,.int .i64 a3,.int .i64 a4],.agg #[.int .i64 a0,.int .i64 a1,.int .i64 a2,.int .i64 a3,.int .i64 a4]] w
  λe w'=>e= .returned (.bool true)/\Keeps (λ_=>False) w w':=by
 go_enter Tryz.func118,Tryz.ntmps118;go_wp2;go_ret;exact⟨rfl,(Keeps.alloc _ _).trans (Keeps.alloc _ _)⟩
theorem Vf(L:List Ev)(v1 v2:Value)(w:World)(h1:Reads w 5 v1 L.length (L.flatMap Ev.cells))(h2:Reads w 5 v2 L.length (L.flatMap Ev.cells))(hl:L.length<=1000000000000):
  Calls Tryz.prog 117 #[v1,v2,.func (.func 118) #[] #[]] w λe w'=>e= .returned (.bool true)/\Keeps (λ_=>False) w w':=by
 have g1:=h1;have g2:=h2;obtain⟨ad1,c1,rfl,_,_⟩:=g1;obtain⟨ad2,c2,rfl,_,_⟩:=g2;obtain⟨H1,H2⟩:=hid2 h1 h2;clear h2 h1;go_enter Tryz.func117,Tryz.ntmps117;go_wp2
 go_loopw [7] (λi wr=>∃k:Nat,k<=L.length/\i= .int .i64 k/\Keeps (λ_=>False) w wr) (λi _=>L.length-(intOf i).toNat)
 case atStart=>exact⟨0,Nat.zero_le _,rfl,Keeps.refl _ _⟩
 case round=>
  obtain⟨k,hk,rfl,hkp⟩:=hrel;have Hkp:=Lib.hid hkp;clear hkp;by_cases hlt:k<L.length
  ·obtain⟨x,hx⟩:∃x,L[k]?=some x:=⟨L[k],List.getElem?_eq_getElem hlt⟩;obtain⟨g,o,c,he,hc⟩:=(H1.out.keeps Hkp.out (by simp)).elem Ev.Aq hx j2;obtain⟨g',o',c',he',hc'⟩:=(H2.out.keeps Hkp.out (by simp)).elem Ev.Aq hx j2;simp only [Value.slice.injEq,true_and] at he he';obtain⟨rfl,rfl⟩:=he;obtain⟨rfl,rfl⟩:=he';obtain⟨e0,e1,e2,e3,e4⟩:=x;have x0:wr.cell? ⟨g,o+k*5,none⟩=some (.int .i64 e0):=hc 0 j2;have x1:wr.cell? ⟨g,o+k*5+1,none⟩=some (.int .i64 e1):=hc 1 j2;have x2:wr.cell? ⟨g,o+k*5+2,none⟩=some (.int .i64 e2):=hc 2 j2;have x3:wr.cell? ⟨g,o+k*5+3,none⟩=some (.int .i64 e3):=hc 3 j2;have x4:wr.cell? ⟨g,o+k*5+4,none⟩=some (.int .i64 e4):=hc 4 j2;have y0:wr.cell? ⟨g',o'+k*5,none⟩=some (.int .i64 e0):=hc' 0 j2;have y1:wr.cell? ⟨g',o'+k*5+1,none⟩=some (.int .i64 e1):=hc' 1 j2;have y2:wr.cell? ⟨g',o'+k*5+2,none⟩=some (.int .i64 e2):=hc' 2 j2;have y3:wr.cell? ⟨g',o'+k*5+3,none⟩=some (.int .i64 e3):=hc' 3 j2;have y4:wr.cell? ⟨g',o'+k*5+4,none⟩=some (.int .i64 e4):=hc' 4 j2;clear hc hc';have Hx:=Lib.hid hx;clear hx;go_wp2
   go_still_tail 9,j4
   go_wp2_with (go_at_call 118;refine(Rl _ _ _ _ _ _).mono ?_;rintro e w' ⟨rfl,hk2⟩;have Hk2:=Lib.hid hk2;clear hk2)
   exact j2w
  ·exact j1j
theorem Tz(L:List Ev)(v1 v2:Value)(w:World)(h1:Reads w 5 v1 L.length (L.flatMap Ev.cells))(h2:Reads w 5 v2 L.length (L.flatMap Ev.cells))(hl:L.length<=1000000000000):
  Calls Tryz.prog 59 #[v1,v2] w λe w'=>e= .returned (.bool true)/\Keeps (λ_=>False) w w':=by
 obtain⟨H1,H2⟩:=hid2 h1 h2;clear h2 h1;go_enter Tryz.func59,Tryz.ntmps59
 go_wp2_with (go_at_call 117;refine(Vf L _ _ _ H1.out H2.out hl).mono ?_;rintro e w' ⟨rfl,hk2⟩;have Hk2:=Lib.hid hk2;clear hk2)
 go_ret;exact⟨rfl,Hk2.out⟩
theorem Yi(w:World)(o:Obj){i:Nat}(h:i=w.heap.size):(w.alloc o).heap[i]?=some o:=by subst h;exact heap_alloc_new w o
def ev0:Ev:=⟨0,0,0,0,0⟩
theorem made_evs(m:Nat):(madeCells (Value.agg #[.int .i64 0,.int .i64 0,.int .i64 0,.int .i64 0,.int .i64 0]).cells (m*5)).toList=(List.replicate m ev0).flatMap Ev.cells:=by
 have hL:((List.replicate m ev0).flatMap Ev.cells).length=m*5:=by rw [Cu Ev.Aq];simp
 have hM:(madeCells (Value.agg #[.int .i64 0,.int .i64 0,.int .i64 0,.int .i64 0,.int .i64 0]).cells (m*5)).toList.length=m*5:=by simp [madeCells]
 apply List.ext_getElem?
 intro i;by_cases h:i<m*5
 ·have h5:i % 5<5:=Nat.mod_lt _ j2
  have h2:((List.replicate m ev0).flatMap Ev.cells)[i]?=some (.int .i64 0):=by
   have:=flat_get Ev.Aq (L:=List.replicate m ev0) (k:=i / 5) (j:=i % 5) (x:=ev0) (by rw [List.getElem?_replicate,if_pos j1]) h5;rw [show i / 5*5+i % 5=i by omega] at this;rw [this];rcases(show i % 5=0\/i % 5=1\/i % 5=2\/i % 5=3\/i % 5=4 by omega) with h|h|h|h|h<;>rw [h]<;>rfl
  rw [h2];rw [List.getElem?_eq_getElem (by rw [hM];exact h)];simp only [madeCells,Array.toList_map,List.getElem_map,Array.toList_range,List.getElem_range,Value.cells];rcases(show i % 5=0\/i % 5=1\/i % 5=2\/i % 5=3\/i % 5=4 by omega) with h|h|h|h|h<;>simp [h]
 ·exact j1N
structure OwnE(w:World)(g:Nat)(L:List Ev)(x:Ev):Prop where
 row:w.ownsRow 0 32 5 (.slice (some ⟨g,0,none⟩) (L.length+3) (L.length+3)) (L.length+3) ((L++List.replicate 3 x).flatMap Ev.cells)
theorem OwnE.keep{w w':World}{g:Nat}{L:List Ev}{x:Ev}(h:OwnE w g L x)(hk:Keeps (λ_=>False) w w'):OwnE w' g L x:=⟨h.row.of_keeps hk⟩
theorem OwnE.full{w:World}{g:Nat}{L:List Ev}{x:Ev}(h:OwnE w g L x):Reads w 5 (.slice (some ⟨g,0,none⟩) (L.length+3) (L.length+3)) (L.length+3) ((L++List.replicate 3 x).flatMap Ev.cells):=Reads.Ay h.row
theorem OwnE.reads{w:World}{g:Nat}{L:List Ev}{x:Ev}(h:OwnE w g L x):Reads w 5 (.slice (some ⟨g,0,none⟩) L.length (L.length+3)) L.length (L.flatMap Ev.cells):=by
 have:=h.full.preL Ev.Aq L.length j1
 rwa [List.take_append_of_le_length (Nat.le_refl _),List.take_length] at this
theorem ownEv_any(w:World)(ad:Option Addr)(cap:Nat)(L:List Ev)(x:Ev)(hr:Reads w 5 (.slice ad L.length cap) L.length (L.flatMap Ev.cells))(hl:L.length<=1000000):
  Calls Tryz.prog 14 #[.slice ad L.length cap,x.agg] w λe w'=>e= .returned (.slice (some ⟨w.heap.size+1,0,none⟩) L.length (L.length+3))/\OwnE w' (w.heap.size+1) L x/\Keeps (λ_=>False) w w':=by
 obtain⟨i0,hi,hi0,hi1,hi2⟩:=info_parts Es;obtain⟨n,hn⟩:∃n,L.length=n:=⟨_,rfl⟩;rw [hn] at hr hl⊢;have hmk:=fun(W:World)=>run_makeSlice (P:=Tryz.prog) W 25 32 i0 (.agg #[.int .i64 0,.int .i64 0,.int .i64 0,.int .i64 0,.int .i64 0]) Tryz.underlying25 hi hi0 .i64 .i64 0 ((n:Int)+3) j1 j1 (by rw [hi1];omega) (by rw [hi2];omega) j1;have hn3:((n:Int)+3).toNat=n+3:=j3;simp only [hn3,Int.toNat_zero,hi1] at hmk;obtain⟨Z,hZ⟩:∃Z,Z=madeCells (Value.agg #[.int .i64 0,.int .i64 0,.int .i64 0,.int .i64 0,.int .i64 0]).cells ((n+3)*5):=⟨_,rfl⟩;rw [<-hZ] at hmk;have hZl:Z.toList=(List.replicate (n+3) ev0).flatMap Ev.cells:=by rw [hZ];exact made_evs _
 have hone:=Ev.one L;obtain⟨ki,da,tr,am,re⟩:=x;simp only [Ev.agg];refine j1z ?_;intro hbS;obtain⟨Hr,HZ,HZl,Hn3,Hone,Hn,HbS⟩:=hid7 hr hZ hZl hn3 hone hn hbS;clear hbS hn hone hn3 hZl hZ hr;go_enter Tryz.func14,Tryz.ntmps14
 go_wp2_with (at_builtin;refine wpList_append_fits rfl (.tmp 12) (.tmp 13) 25 rfl 32 i0 5 Tryz.underlying25 hi hi1 (w.heap.size+1) 0 (n+3) Z.toList rfl (Yi _ (.cells Z 32) (by simp)) (by rw [HZl.out,Cu Ev.Aq];simp) j6 _ n _ rfl ((Hr.out.alloc _).alloc _) Hone.out j1 ?_)
 intro w2 hb2 hk2;have hkb:Keeps (λ_=>False) (w.alloc (.cells #[.int .i64 ki,.int .i64 da,.int .i64 tr,.int .i64 am,.int .i64 re] 32)) w2:=(Keeps.alloc _ _).trans (hk2.mono λk _ e=>by right;simp;omega)
 have hrow:w2.ownsRow 0 32 5 (.slice (some ⟨w.heap.size+1,0,none⟩) (n+3) (n+3)) (n+3) ((L++List.replicate 0 (⟨ki,da,tr,am,re⟩:Ev)++List.replicate 3 ev0).flatMap Ev.cells):=by
  have hlen:((L++List.replicate 0 (⟨ki,da,tr,am,re⟩:Ev)++List.replicate 3 ev0).flatMap Ev.cells).length=(n+3)*5:=by rw [Cu Ev.Aq];simp [Hn.out]
  have e0:laid Z.toList (0*5) (L.flatMap Ev.cells)=(L++List.replicate 0 (⟨ki,da,tr,am,re⟩:Ev)++List.replicate 3 ev0).flatMap Ev.cells:=by
   unfold laid;rw [HZl.out];have e1:=Qo Ev.Aq (List.replicate (n+3) ev0) n;have e2:(L.flatMap Ev.cells).length=n*5:=by rw [Cu Ev.Aq,Hn.out]
   simp only [Nat.zero_mul,List.take_zero,List.nil_append,Nat.zero_add,e2,e1,List.drop_replicate,List.replicate_zero,List.append_nil,List.flatMap_append];rw [show n+3-n=3 by omega]
  refine⟨hlen,.inr ⟨_,_,_,rfl,Nat.zero_le _,hb2,Nat.le_refl _,by unfold maxLen;omega, ?_, ?_⟩⟩
  ·rw [e0,List.size_toArray,hlen]
  ·rw [e0,List.take_of_length_le (by rw [hlen];exact Nat.le_refl _)]
 obtain⟨Hkb,Hrow⟩:=hid2 hkb hrow;clear hrow hkb;clear hb2 hk2;clear hmk;go_wp2
 go_loopw [7] (λc wr=>∃(j:Nat),j<=3/\c= .int .i64 ((n+j:Nat):Int)/\wr.ownsRow 0 32 5 (.slice (some ⟨w.heap.size+1,0,none⟩) (n+3) (n+3)) (n+3) ((L++List.replicate j (⟨ki,da,tr,am,re⟩:Ev)++List.replicate (3-j) ev0).flatMap Ev.cells)/\Keeps (λ_=>False) (w.alloc (.cells #[.int .i64 ki,.int .i64 da,.int .i64 tr,.int .i64 am,.int .i64 re] 32)) wr) (λc _=>n+3-(intOf c).toNat)
 case atStart=>exact⟨0,by omega,by simp,Hrow.out,Hkb.out⟩
 case round=>
  obtain⟨j,hj,rfl,hrow,hk⟩:=hrel;by_cases hj3:j<3
  ·obtain⟨m,hm⟩:∃m,3-j=m+1:=⟨3-j-1,by omega⟩;have hll:(L++List.replicate j (⟨ki,da,tr,am,re⟩:Ev)++List.replicate (3-j) ev0).length=n+3:=by simp [Hn.out];omega
   have hst:=Ls hrow hll (k:=n+j) j1 ki da tr am re
   have hset:(L++List.replicate j (⟨ki,da,tr,am,re⟩:Ev)++List.replicate (3-j) ev0).set (n+j) ⟨ki,da,tr,am,re⟩=L++List.replicate (j+1) (⟨ki,da,tr,am,re⟩:Ev)++List.replicate (3-(j+1)) ev0:=by
    rw [hm,<-Hn.out,rep_setN,show 3-(j+1)=m by omega]
   rw [hset] at hst;obtain⟨y,hy⟩:=Aj (L:=L++List.replicate j (⟨ki,da,tr,am,re⟩:Ev)++List.replicate (3-j) ev0) (k:=n+j) (by rw [hll];omega);obtain⟨g',o',c',he,hc⟩:=(Reads.Ay hrow).elem Ev.Aq hy j2;simp only [Value.slice.injEq,true_and,Option.some.injEq,Addr.mk.injEq,and_true] at he;obtain⟨⟨rfl,rfl⟩,rfl⟩:=he;obtain⟨y0,y1,y2,y3,y4⟩:=y;have hbx:=HbS.out _ hk;obtain⟨b0,b1,b2,b3,b4⟩:=hbx;have d0:wr.cell? ⟨w.heap.size+1,(n+j)*5,none⟩=some (.int .i64 y0):=by have:=hc 0 j2;rwa [Nat.zero_add] at this
   have d1:wr.cell? ⟨w.heap.size+1,(n+j)*5+1,none⟩=some (.int .i64 y1):=by have:=hc 1 j2;rwa [Nat.zero_add] at this
   have d2:wr.cell? ⟨w.heap.size+1,(n+j)*5+2,none⟩=some (.int .i64 y2):=by have:=hc 2 j2;rwa [Nat.zero_add] at this
   have d3:wr.cell? ⟨w.heap.size+1,(n+j)*5+3,none⟩=some (.int .i64 y3):=by have:=hc 3 j2;rwa [Nat.zero_add] at this
   have d4:wr.cell? ⟨w.heap.size+1,(n+j)*5+4,none⟩=some (.int .i64 y4):=by have:=hc 4 j2;rwa [Nat.zero_add] at this
   have hfree:∀i,wr.frozen? ⟨w.heap.size+1,i,none⟩=false:=by
    rcases hrow.2 with⟨h0,_⟩|⟨g1,cap1,cur,h0,_,hh,_⟩
    ·simp at h0
    ·simp only [Value.slice.injEq,Option.some.injEq,Addr.mk.injEq,and_true,true_and] at h0;obtain⟨rfl,_⟩:=h0;exact λi=>Ab hh i
   have f0:=hfree ((n+j)*5);have f1:=hfree ((n+j)*5+1);have f2:=hfree ((n+j)*5+2);have f3:=hfree ((n+j)*5+3);have f4:=hfree ((n+j)*5+4);have hbl:=Bh hrow (g:=w.heap.size+1) rfl;have hbl2:w.heap.size<wr.heap.size:=j3;have hkn:=hk.trans ((Kj wr (w.heap.size+1) ((n+j)*5) ((n+j)*5+1) ((n+j)*5+2) ((n+j)*5+3) ((n+j)*5+4) (.int .i64 ki) (.int .i64 da) (.int .i64 tr) (.int .i64 am) (.int .i64 re)).mono λi _ e=>by right;simp;omega);have hjl:((n+j:Nat):Int)<(n:Int)+3:=j3;clear hc hfree;obtain⟨Hrow,Hk,Hst,Hkn,Hm,Hset,Hll,Hy⟩:=hid8 hrow hk hst hkn hm hset hll hy;clear hy hll hset hm hkn hst hk hrow;go_wp2;go_roundw
   case rel=>exact⟨j+1,by omega,by go_num,Hst.out,Hkn.out⟩
   case measure=>simp [intOf];omega
  ·obtain rfl:j=3:=by omega
   have hkw:=(Keeps.alloc w _).nt hk;obtain⟨Hrow,Hk,Hkw⟩:=hid3 hrow hk hkw;clear hkw hk hrow;go_wp2;go_ret;exact⟨rfl,⟨by have:=Hrow.out;rw [Hn.out];simpa using this⟩,Hkw.out⟩
def tenS(g o E:Nat)(ki da tr am re:Int)(w:World):Prop:=
 w.cell? ⟨g,o,none⟩=some (.int .i64 ki)/\w.cell? ⟨g,o+1,none⟩=some (.int .i64 da)/\w.cell? ⟨g,o+2,none⟩=some (.int .i64 tr)/\w.cell? ⟨g,o+3,none⟩=some (.int .i64 am)/\w.cell? ⟨g,o+4,none⟩=some (.int .i64 re)/\
 w.cell? ⟨E,0,none⟩=some (.int .i64 ki)/\w.cell? ⟨E,1,none⟩=some (.int .i64 da)/\w.cell? ⟨E,2,none⟩=some (.int .i64 tr)/\w.cell? ⟨E,3,none⟩=some (.int .i64 am)/\w.cell? ⟨E,4,none⟩=some (.int .i64 re)
theorem Yf(g:Nat)(ad:Option Addr)(cap:Nat)(L:List Ev)(x:Ev)(w:World)(h:OwnE w g L x)(hr:Reads w 5 (.slice ad L.length cap) L.length (L.flatMap Ev.cells))(hl:L.length<=1000000):
  Calls Tryz.prog 22 #[.slice (some ⟨g,0,none⟩) L.length (L.length+3),.slice ad L.length cap,x.agg] w λe w'=>e= .returned (.bool true)/\Keeps (λ_=>False) w w':=by
 have hpl:=λW (hW:Keeps (λ_=>False) w W)=>Tz L _ _ W (h.reads.keeps hW (by simp)) (hr.keeps hW (by simp)) j1;have hful:=h.full;have hlast:∀j,j<3->(L++List.replicate 3 x)[L.length+j]?=some x:=λj hj=>by rw [List.getElem?_append_right j1,List.getElem?_replicate,if_pos j1]
 obtain⟨n,hn⟩:∃n,L.length=n:=⟨_,rfl⟩;rw [hn] at hpl hr hl hlast hful⊢;obtain⟨ki,da,tr,am,re⟩:=x;simp only [Ev.agg];refine j1z ?_;intro hbS;obtain⟨Hr,Hn,HbS,H,Hpl,Hlast,Hful⟩:=hid7 hr hn hbS h hpl hlast hful;clear hful hlast hpl h hbS hn hr;go_enter Tryz.func22,Tryz.ntmps22
 go_wp2_with (go_at_call 59;refine(Hpl.out _ (Keeps.alloc _ _)).mono ?_;rintro e w1 ⟨rfl,hk1⟩;have Hk1:=Lib.hid hk1;clear hk1)
 go_loopw [8] (λc wr=>∃(j:Nat),j<=3/\c= .int .i64 ((n+j:Nat):Int)/\Keeps (λ_=>False) (w.alloc (.cells #[.int .i64 ki,.int .i64 da,.int .i64 tr,.int .i64 am,.int .i64 re] 32)) wr) (λc _=>n+3-(intOf c).toNat)
 case atStart=>exact⟨0,by omega,by simp,Hk1.out⟩
 case round=>
  obtain⟨j,hj,rfl,hk⟩:=hrel;by_cases hj3:j<3
  ·have hjl:((n+j:Nat):Int)<(n:Int)+3:=j3;have p0:(0:Int)<=(n:Int)+(j:Int):=j3;have p1:(n:Int)+(j:Int)<(n:Int)+3:=j3;have p2:((n:Int)+(j:Int)).toNat=n+j:=j3;have hjI:((n+j:Nat):Int)<((n+3:Nat):Int):=j3;obtain⟨g',o',c',he,hc⟩:=(Hful.out.keeps ((Keeps.alloc w _).nt (hk.nt (Keeps.drew wr))) (by simp)).elem Ev.Aq (Hlast.out j hj3) j2;simp only [Value.slice.injEq,true_and,Option.some.injEq,Addr.mk.injEq,and_true] at he;obtain⟨⟨rfl,rfl⟩,rfl⟩:=he
   have hS:tenS g ((n+j)*5) w.heap.size ki da tr am re wr.drew:=by
    obtain⟨b0,b1,b2,b3,b4⟩:=HbS.out _ (hk.nt (Keeps.drew wr));have d0:=hc 0 j2;have d1:=hc 1 j2;have d2:=hc 2 j2;have d3:=hc 3 j2;have d4:=hc 4 j2;simp only [Nat.zero_add,Nat.add_zero] at d0 d1 d2 d3 d4;exact⟨d0,d1,d2,d3,d4,b0,b1,b2,b3,b4⟩
   clear hc;obtain⟨Hk,HS⟩:=hid2 hk hS;clear hS hk;go_wp2_with fail;refine Ak (tenS g ((n+j)*5) w.heap.size ki da tr am re) (.take 0 (.take 1 (.take 2 (.take 3 (.take 4 (.take 5 .done)))))) j4 j4 ?_ ?_
   ·exact HS.out
   intro w2 hs2 hk2;refine jf ?_;have Hk2:=Lib.hid (Hk.out.nt hk2);clear hs2 hk2;go_wp2_with fail;go_roundw
   case rel=>exact⟨j+1,by omega,by go_num,Hk2.out⟩
   case measure=>simp [intOf];omega
  ·obtain rfl:j=3:=by omega
   have hkw:=(Keeps.alloc w _).nt hk;obtain⟨Hk,Hkw⟩:=hid2 hk hkw;clear hkw hk;go_wp2;exact jV
def RunsAt(w:World)(l td:Value)(wx:World):Prop:=∃(P:Tm) (av:Option Addr) (cv m:Nat) (E:List Ev) (aE:Option Addr) (cE o:Nat) (T:Int),l= .slice aE o cE/\td= .int .i64 T/\P.trs.length=m/\E.length=o/\m<=12/\o<=60/\wx.heap[w.heap.size]?=some (.cells #[.int .i64 P.limit,.slice av m cv,.int .i64 P.cyc,.int .i64 P.due,.int .i64 P.minFixed,.int .i64 P.minPart,.int .i64 P.start] 24 (0,0))/\Reads wx 2 (.slice av m cv) m (P.trs.flatMap Tn.cells)/\Reads wx 5 (.slice aE o cE) o (E.flatMap Ev.cells)/\Keeps (λ_=>False) w wx
theorem Nw(w:World)(t:Tm)(adt:Option Addr)(ct:Nat)(htr:Reads w 2 (.slice adt t.trs.length ct) t.trs.length (t.trs.flatMap Tn.cells))(htm:t.trs.length<=maxLen)
  (ad:Option Addr) (cap:Nat) (L:List Ev) (hr:Reads w 5 (.slice ad L.length cap) L.length (L.flatMap Ev.cells)) (_:∀a∈L,a.wf) (hm:L.length<=maxLen) (d:Int) (hdw:(Lit.int .i64 d).wf=true) (tr:Int) (htw:(Lit.int .i64 tr).wf=true) (raw:Bool):
  Calls Tryz.prog 3 #[t.val (.slice adt t.trs.length ct),.slice ad L.length cap,.int .i64 d,.int .i64 tr,.bool raw] w λe w'=>e= .returned (.bool true)/\Below w.heap.size w w':=by
 have htrb:=wf_i64 htw;obtain⟨n,hn⟩:∃n,t.trs.length=n:=⟨_,rfl⟩;obtain⟨N,hN⟩:∃N,L.length=N:=⟨_,rfl⟩;rw [hn] at htr htm;rw [hN] at hr hm;simp only [Tm.val];rw [hn,hN];have hmx:n<=9223372036854775807:=htm;obtain⟨P,hP⟩:∃P,playT t=P:=⟨_,rfl⟩;obtain⟨D,hD⟩:∃D,uq d 500=D:=⟨_,rfl⟩;have hu0:0<=IntKind.u64.wrap d:=by rw [IntKind.wrap_u64];omega
 have hDt:(IntKind.u64.wrap d).tmod 500=D:=by rw [Int.tmod_eq_emod_of_nonneg hu0];exact hD
 have hDb:=Ei d (m:=500) j2;rw [hD] at hDb;obtain⟨D0,D1⟩:=hDb;have hpt:=λW (hW:Keeps (λ_=>False) w W)=>Rk t adt ct n W hn (htr.keeps hW (by simp)) hmx;have hpo:=playT_ok t;rw [hP] at hpt hpo;obtain⟨pz,ps0,ps1⟩:=hpo;obtain⟨⟨pl0,pl1⟩,_,⟨pc0,pc1⟩,_⟩:=Ck pz;by_cases h12:12<n
 ·have h12I:(12:Int)<(n:Int):=j3;exact j6B
 have h12I:¬(12:Int)<(n:Int):=j3;by_cases h60:60<N
 ·have h60I:(60:Int)<(N:Int):=j3;exact j6B
 have h60I:¬(60:Int)<(N:Int):=j3;have hb0:=heap_alloc_new w (.cells #[.int .i64 t.limit,.slice adt n ct,.int .i64 t.cyc,.int .i64 t.due,.int .i64 t.minFixed,.int .i64 t.minPart,.int .i64 t.start] 24);have hk0:=Keeps.alloc (S:=λ_=>False) w (.cells #[.int .i64 t.limit,.slice adt n ct,.int .i64 t.cyc,.int .i64 t.due,.int .i64 t.minFixed,.int .i64 t.minPart,.int .i64 t.start] 24);refine j31 ?_;intro t0 t1 t2 t3 t4 t5 t6 tl;obtain⟨Htr,Hr,Hn,HN,HP,HD,Hu0,Hpt,Hb0⟩:=hid9 htr hr hn hN hP hD hu0 hpt hb0;clear hb0 hpt hu0 hD hP hN hn hr htr;have Hk0:=Lib.hid hk0;clear hk0;go_enter Tryz.func3,Tryz.ntmps3
 go_upto_if 37 with fail
 go_cut [1,11] (λl td wx=>RunsAt w l td wx)
 case first=>
  cases raw with
  |false=>
   clear t0 t1 t2 t3 t4 t5 t6 tl
   go_wp2_with (go_at_call 12;(with_reducible refine(Hpt.out _ (Keeps.alloc _ _)).mono ?_);rintro e w1 ⟨v1,rfl,hrd1,hk1,hfr1⟩;obtain⟨av,cv,rfl,_⟩:=id hrd1;have Hfr1:=Lib.hid hfr1;clear hfr1;have hb1:=Kb hk1 (by simp);have Hrd1:=Lib.hid hrd1;have Hk1:=Lib.hid ((Keeps.alloc (S:=λ_=>False) w _).nt hk1);have Hb1:=Lib.hid hb1;clear hrd1 hk1 hb1;refine haltW ?_)
   refine Lib.hid ?_;obtain⟨B,hBe⟩:∃x,x=w.heap.size:=⟨_,rfl⟩;rw [<-hBe] at Hb1⊢;have hwk1:=Pp Hb1.out (.int .i64 P.limit) (.slice av P.trs.length cv) (.int .i64 P.cyc) (.int .i64 P.due) (.int .i64 P.minFixed) (.int .i64 P.minPart) (.int .i64 P.start);obtain⟨w2,hw2⟩:∃x,x=((((((w1.setCell ⟨B,0,none⟩ (.int .i64 P.limit)).setCell ⟨B,1,none⟩ (.slice av P.trs.length cv)).setCell ⟨B,2,none⟩ (.int .i64 P.cyc)).setCell ⟨B,3,none⟩ (.int .i64 P.due)).setCell ⟨B,4,none⟩ (.int .i64 P.minFixed)).setCell ⟨B,5,none⟩ (.int .i64 P.minPart)).setCell ⟨B,6,none⟩ (.int .i64 P.start):=⟨_,rfl⟩;rw [<-hw2] at hwk1;obtain⟨hb2,hk12⟩:=hwk1;have hk2:Keeps (λ_=>False) w w2:=Hk1.out.trans (hk12.mono λi _ e=> .inr (by have e':i=B:=e;omega))
   have hrd2:Reads w2 2 (.slice av P.trs.length cv) P.trs.length (P.trs.flatMap Tn.cells):=Hrd1.out.keeps hk12 (λg hg e=>by
    have e':g=B:=e;rcases Hfr1.out with h|h
    ·rw [h] at hg
     obtain⟨g',e1,e2⟩:=Htr.out.lt (λe=>by
      have h2:=congrArg List.length e;rw [Gd t.trs,Hn.out] at h2;simp only [Value.slice.injEq] at h;simp at h2
      omega)
     rw [e1] at hg;injection hg with hg;omega
    ·have:=h g hg;simp only [World.size_alloc] at this
     omega)
   have s0:=Aa (Hb1.out) 0;have s1:=Aa (Hb1.out) 1;have s2:=Aa (Hb1.out) 2;have s3:=Aa (Hb1.out) 3;have s4:=Aa (Hb1.out) 4;have s5:=Aa (Hb1.out) 5;have s6:=Aa (Hb1.out) 6;have sl:=lt_of_block (Hb1.out);have f0:=Ab (Hb1.out) 0;have f1:=Ab (Hb1.out) 1;have f2:=Ab (Hb1.out) 2;have f3:=Ab (Hb1.out) 3;have f4:=Ab (Hb1.out) 4;have f5:=Ab (Hb1.out) 5;have f6:=Ab (Hb1.out) 6;obtain⟨Hb2,Hk12,Hk2,Hrd2,HBe⟩:=hid5 hb2 hk12 hk2 hrd2 hBe;clear hBe hrd2 hk2 hk12 hb2
   go_upto_region 8 with fail
   rw [<-hw2];clear hw2 s0 s1 s2 s3 s4 s5 s6 sl f0 f1 f2 f3 f4 f5 f6;have hpe:=Qe P av cv P.trs.length L ad cap N D 60 w2 rfl Hrd2.out HN.out (Hr.out.keeps Hk2.out (by simp)) j1 j1 D0 j1 j2 ps0 ps1;rw [show(((60:Nat)):Int)=60 by rfl] at hpe;obtain⟨E,hE⟩:∃E,playL P D 60 L []=E:=⟨_,rfl⟩;have hok:=playL_ok (t:=P) (days:=D) (n:=60) D0 L [] (by simp) (by simp);rw [hE] at hpe hok;obtain⟨hok1,hok2⟩:=hok;obtain⟨o,ho⟩:∃o,E.length=o:=⟨_,rfl⟩;rw [ho] at hok2;have hsub:P.start+D-P.start=D:=j3;have t0:=Aa (Hb2.out) 0;have t1:=Aa (Hb2.out) 1;have t2:=Aa (Hb2.out) 2;have t3:=Aa (Hb2.out) 3;have t4:=Aa (Hb2.out) 4;have t5:=Aa (Hb2.out) 5;have t6:=Aa (Hb2.out) 6;have tl:=lt_of_block (Hb2.out);obtain⟨Hpe,HE,Hok1,Ho⟩:=hid4 hpe hE hok1 ho;clear ho hok1 hE hpe
   go_wp2_with (go_at_call 13;(with_reducible refine Hpe.out.mono ?_);rintro e w3 ⟨v3,rfl,hat3⟩;have hr3:=hat3.1;rw [Ho.out] at hr3;obtain⟨aE,cE,rfl,_⟩:=Ad hr3;have Hr3:=Lib.hid hr3;have Hk23:=Lib.hid hat3.2.1;clear hr3 hat3;refine haltW ?_)
   refine Lib.hid ?_;clear t0 t1 t2 t3 t4 t5 t6 tl;have hk3:Keeps (λ_=>False) w w3:=Hk2.out.nt Hk23.out;have hb3:=Ac Hb2.out Hk23.out (by simp);have hrd3:=Hrd2.out.keeps Hk23.out (by simp);have hev3:Reads w3 5 (.slice aE o cE) o (E.flatMap Ev.cells):=Reads.Ay Hr3.out;obtain⟨Hk3,Hb3,Hrd3,Hev3⟩:=hid4 hk3 hb3 hrd3 hev3;clear hev3 hrd3 hb3 hk3;have hBB:=HBe.out;subst hBB;go_wp2_with fail;go_meet;exact⟨P,av,cv,P.trs.length,E,aE,cE,o,P.start+D,rfl,rfl,rfl,Ho.out,by omega,by omega,Hb3.out,Hrd3.out,Hev3.out,Hk3.out⟩
  |true=>
   by_cases q1: -135140<=t.start
   ·by_cases q2:t.start<=2932896
    ·by_cases q3:0<=d
     ·by_cases q4:d<=500
      ·skip
       go_wp2_with fail;go_meet;exact⟨t,adt,ct,n,L,ad,cap,N,t.start+d,rfl,rfl,Hn.out,HN.out,by omega,by omega,Hb0.out,Htr.out.alloc _,Hr.out.alloc _,Hk0.out⟩
      ·have q4':500<d:=j3;exact j1E
     ·have q3':d<0:=j3;exact j1E
    ·have q2':2932896<t.start:=j3;exact j1E
   ·have q1':t.start< -135140:=j3;exact j1E
 clear t0 t1 t2 t3 t4 t5 t6 tl;clear Htr Hr Hn HN HP HD Hu0 Hpt Hb0 Hk0 pz ps0 ps1 pl0 pl1 pc0 pc1 hDt D0 D1 hmx h12I h60I h12 h60 hm;obtain⟨P,av,cv,m,E,aE,cE,o,T,rfl,rfl,hm0,ho,hm12,ho60,hbX,hrdX,hevX,hkX⟩:=hcut;have hown:=ownEv_any wc aE cE E ⟨71,0,0,0,0⟩ (by rw [ho];exact hevX) (by rw [ho];omega);simp only [Ev.agg] at hown;rw [ho] at hown;have hkept:=λg W h hr=>Yf g aE cE E ⟨71,0,0,0,0⟩ W h (by rw [ho];exact hr) (by rw [ho];omega);simp only [Ev.agg] at hkept;rw [ho] at hkept;have hrunA:=λW a c (h:Keeps (λ_=>False) wc W) (he:Reads W 5 (.slice a o c) o ((E).flatMap Ev.cells))=>Px P av cv m E a c o (T) W hm0 ((hrdX).keeps h (by simp)) ho he j1 j1;have hrunB:=λW (h:Keeps (λ_=>False) wc W)=>Xq P av cv m E aE cE o (T) W hm0 ((hrdX).keeps h (by simp)) ho ((hevX).keeps h (by simp)) j1 j1;have hserA:=λW a c (h:Keeps (λ_=>False) wc W) (he:Reads W 5 (.slice a o c) o ((E).flatMap Ev.cells))=>Qz P av cv m E a c o (T) tr W hm0 ((hrdX).keeps h (by simp)) ho he j1 j1;have hserB:=λW (h:Keeps (λ_=>False) wc W)=>Rh P av cv m E aE cE o (T) tr W hm0 ((hrdX).keeps h (by simp)) ho ((hevX).keeps h (by simp)) j1 j1 htrb;have hx0:=λh=>walkR_out (t:=P) (L:=E) (td:=T) rfl h;have hds:=λh=>Ym (t:=P) (L:=E) (td:=T) h;obtain⟨Z,hZ⟩:∃Z,walkR P E (T)=Z:=⟨_,rfl⟩;obtain⟨DD,hDD⟩:∃Z,daysR P E (T)=Z:=⟨_,rfl⟩;rw [hZ] at hrunA hrunB hserA hserB hx0 hds;rw [hDD] at hserA hserB hds
 have hx:Z.2=0->(∀x∈Z.1.out,x.lines.length<=8)/\Z.1.out.length<=300:=λh=>by
  have h1:=hx0 h;have h2:=(Ck h1.2.2.1).1.2;exact⟨λx hx=>by rw [h1.1 x hx];exact h2,h1.2.1⟩
 clear hx0;have hbC:=hbX;have hkC:=hkX;have hevC:=hevX;have hoC:=ho;obtain⟨Hown,Hkept,HrunA,HrunB,HserA,HserB,Hds,HZ,HDD⟩:=hid9 hown hkept hrunA hrunB hserA hserB hds hZ hDD;clear hDD hZ hds hserB hserA hrunB hrunA hkept hown;obtain⟨Hx,HbC,HkC,HevC,HoC⟩:=hid5 hx hbC hkC hevC hoC;clear hoC hevC hkC hbC hx;go_wp2_with fail;refine(Hown.out).mono ?_;rintro e v1 ⟨rfl,hoE,hk1⟩;obtain⟨g,hg⟩:∃g,(wc).heap.size+1=g:=⟨_,rfl⟩;rw [hg] at hoE⊢
 have hin:∀W,Keeps (λ_=>False) v1 W->Reads W 5 (.slice (some ⟨g,0,none⟩) o (o+3)) o ((E).flatMap Ev.cells):=λW hW=>by
  have h:=hoE.reads.keeps hW (by simp);rw [HoC.out] at h;exact h
 have hb1:=Ac HbC.out hk1 (by simp);have t0:=Aa (hb1) 0;have t1:=Aa (hb1) 1;have t2:=Aa (hb1) 2;have t3:=Aa (hb1) 3;have t4:=Aa (hb1) 4;have t5:=Aa (hb1) 5;have t6:=Aa (hb1) 6;have tl:=lt_of_block (hb1);clear hg;obtain⟨HoE,Hk1,Hin,Hb1⟩:=hid4 hoE hk1 hin hb1;clear hb1 hin hk1 hoE;go_wp2_with fail;refine(HrunA.out v1 (some ⟨g,0,none⟩) (o+3) Hk1.out (Hin.out _ (Keeps.refl _ _))).mono ?_;clear t0 t1 t2 t3 t4 t5 t6 tl;intro e v2 hpo;obtain⟨vb1,cr1,du1,vr1,vo1,z1,rfl,hi1,hk2,a1,n1,c1,rfl⟩:=run_is hpo;obtain⟨V2,hV2⟩:∃x,x=v2.alloc (.cells #[.slice a1 n1 c1,.int .i64 cr1,.int .i64 du1] 35):=⟨_,rfl⟩;have hk2V:Keeps (λ_=>False) v2 V2:=by rw [hV2];exact Keeps.alloc _ _
 have hp1:V2.heap[v2.heap.size]?=some (.cells #[.slice a1 n1 c1,.int .i64 cr1,.int .i64 du1] 35 (0,0)):=by rw [hV2];exact heap_alloc_new _ _
 obtain⟨p1,hp1e⟩:∃x,x=v2.heap.size:=⟨_,rfl⟩;rw [<-hp1e] at hp1;have hk12:=hk2.nt hk2V;have hb2:=Ac (Ac Hb1.out hk2 (by simp)) hk2V (by simp);have hbv:=hb2;rw [hV2] at hbv;have t0:=Aa (hbv) 0;have t1:=Aa (hbv) 1;have t2:=Aa (hbv) 2;have t3:=Aa (hbv) 3;have t4:=Aa (hbv) 4;have t5:=Aa (hbv) 5;have t6:=Aa (hbv) 6;have tl:=lt_of_block (hbv);clear hpo hbv;obtain⟨Hi1,Hk2,Hk2V,Hp1,Hk12,Hb2⟩:=hid6 hi1 hk2 hk2V hp1 hk12 hb2;clear hb2 hk12 hp1 hk2V hk2 hi1;go_wp2_with fail;rw [<-hV2,<-hp1e];clear hV2 hp1e;refine(HrunB.out V2 (Hk1.out.nt Hk12.out)).mono ?_;clear t0 t1 t2 t3 t4 t5 t6 tl;intro e v3 hpo;obtain⟨vb2,cr2,du2,vr2,vo2,z2,rfl,hi2,hk3,a2,n2,c2,rfl⟩:=run_is hpo;obtain⟨V3,hV3⟩:∃x,x=v3.alloc (.cells #[.slice a2 n2 c2,.int .i64 cr2,.int .i64 du2] 35):=⟨_,rfl⟩;have hk3V:Keeps (λ_=>False) v3 V3:=by rw [hV3];exact Keeps.alloc _ _
 have hp2:V3.heap[v3.heap.size]?=some (.cells #[.slice a2 n2 c2,.int .i64 cr2,.int .i64 du2] 35 (0,0)):=by rw [hV3];exact heap_alloc_new _ _
 obtain⟨p2,hp2e⟩:∃x,x=v3.heap.size:=⟨_,rfl⟩;rw [<-hp2e] at hp2;have hk23:=hk3.nt hk3V;have hb3':=Ac Hb2.out hk23 (by simp);have hp13:=Ac Hp1.out hk23 (by simp);have hk13:=Hk12.out.nt hk23;have hreq:=run_eq (Hi1.out.keep (Hk2V.out.nt hk23)) (hi2.keep hk3V) (Keeps.refl _ _) hm12 Hx.out;obtain rfl:=hreq.ez;have hbv:=hb3';rw [hV3] at hbv;have t0:=Aa (hbv) 0;have t1:=Aa (hbv) 1;have t2:=Aa (hbv) 2;have t3:=Aa (hbv) 3;have t4:=Aa (hbv) 4;have t5:=Aa (hbv) 5;have t6:=Aa (hbv) 6;have tl:=lt_of_block (hbv);clear hpo hbv;obtain⟨Hi2,Hk3,Hk3V,Hp2,Hk23,Hb3',Hp13,Hk13,Hreq⟩:=hid9 hi2 hk3 hk3V hp2 hk23 hb3' hp13 hk13 hreq;clear hreq hk13 hp13 hb3' hk23 hp2 hk3V hk3 hi2;go_wp2_with fail;rw [<-hV3,<-hp2e];clear hV3 hp2e;refine(HserA.out V3 (some ⟨g,0,none⟩) (o+3) (Hk1.out.nt Hk13.out) (Hin.out _ Hk13.out)).mono ?_;clear t0 t1 t2 t3 t4 t5 t6 tl;intro e v4 hpo;obtain⟨s1,y1,rfl,hs1,hk4⟩:=ser_is hpo;have hb4:=Ac Hb3'.out hk4 (by simp);have t0:=Aa (hb4) 0;have t1:=Aa (hb4) 1;have t2:=Aa (hb4) 2;have t3:=Aa (hb4) 3;have t4:=Aa (hb4) 4;have t5:=Aa (hb4) 5;have t6:=Aa (hb4) 6;have tl:=lt_of_block (hb4);clear hpo;obtain⟨Hs1,Hk4,Hb4⟩:=hid3 hs1 hk4 hb4;clear hb4 hk4 hs1;go_wp2_with fail;refine(HserB.out v4 ((Hk1.out.nt Hk13.out).nt Hk4.out)).mono ?_;clear t0 t1 t2 t3 t4 t5 t6 tl;intro e v5 hpo;obtain⟨s2,y2,rfl,hs2,hk5⟩:=ser_is hpo;have hseq:=ser_eq Hs1.out hs2 hk5 Hds.out;obtain rfl:=hseq.1;have hk45:=Hk4.out.nt hk5;clear hpo;obtain⟨Hs2,Hk5,Hseq,Hk45⟩:=hid4 hs2 hk5 hseq hk45;clear hk45 hseq hk5 hs2;go_wp2_with fail;refine(Js _).mono ?_;rintro e v6 ⟨rfl,hk6⟩;have hk36:=Hk45.out.nt hk6;have hx1:=Ac Hp13.out hk36 (by simp);have hx2:=Ac Hp2.out hk36 (by simp);have x0:=Aa hx1 0;have x1:=Aa hx1 1;have x2:=Aa hx1 2;have xl:=lt_of_block hx1;have y0:=Aa hx2 0;have y1':=Aa hx2 1;have y2:=Aa hx2 2;have yl:=lt_of_block hx2;obtain⟨Hk6,Hk36,Hx1,Hx2⟩:=hid4 hk6 hk36 hx1 hx2;clear hx2 hx1 hk36 hk6;go_wp2_with fail;refine(Hreq.out.pos _ Hk36.out).mono ?_;rintro e v7 ⟨rfl,hk7⟩;have hk37:=Hk36.out.nt hk7;have hk57:=Hk6.out.nt hk7;clear x0 x1 x2 xl y0 y1' y2 yl;obtain⟨Hk7,Hk37,Hk57⟩:=hid3 hk7 hk37 hk57;clear hk57 hk37 hk7;go_wp2_with fail;refine(Hreq.out.rts _ Hk37.out).mono ?_;rintro e v8 ⟨rfl,hk8⟩;have hk38:=Hk37.out.nt hk8;have hk58:=Hk57.out.nt hk8;obtain⟨Hk8,Hk38,Hk58⟩:=hid3 hk8 hk38 hk58;clear hk58 hk38 hk8;go_wp2_with fail;refine(Hreq.out.pgs _ Hk38.out).mono ?_;rintro e v9 ⟨rfl,hk9⟩;have hk39:=Hk38.out.nt hk9;have hk59:=Hk58.out.nt hk9;obtain⟨Hk9,Hk39,Hk59⟩:=hid3 hk9 hk39 hk59;clear hk59 hk39 hk9;go_wp2_with fail;refine(Hseq.out.2 _ Hk59.out).mono ?_;rintro e v10 ⟨rfl,hk10⟩;have hk310:=Hk39.out.nt hk10;have hk110:=Hk13.out.nt hk310;have hkp:=Hkept.out g v10 (HoE.out.keep hk110) (HevC.out.keeps (Hk1.out.nt hk110) (by simp));obtain⟨Hk10,Hk310,Hk110,Hkp⟩:=hid4 hk10 hk310 hk110 hkp;clear hkp hk110 hk310 hk10;go_wp2_with fail;refine(Hkp.out).mono ?_;rintro e v11 ⟨rfl,hk11⟩;have hkw:=((HkC.out.nt Hk1.out).nt Hk110.out).nt hk11;obtain⟨Hk11,Hkw⟩:=hid2 hk11 hkw;clear hkw hk11;go_wp2_with fail;go_ret
 exact⟨rfl,Hkw.out.below (by simp) (Nat.le_refl _)⟩
end Go.Proofs.YtgfkeeicjjbnpaaGreat
