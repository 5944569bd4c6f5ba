/- Part 10 of what the laws of this seat share: walks of functions, and plain laws. -/
import Derived.Test.YthffbjldpfionaaGreatC9
namespace Go.Proofs.YthffbjldpfionaaGreat
open Go.RowKit
theorem jZ51{P:Prop}(h:P:=by
 rw [hd]
 obtain⟨H,Hn,Hv,E1,Hd⟩:=hid5 h hn hv e1 hd;clear hd e1 hv hn h
 go_enter Tryz.func88,Tryz.ntmps88
 go_wp2
 go_ret
 exact⟨rfl,rfl⟩):P:=h
theorem jZ63{P:Prop}(h:P:=by
 rw [hd]
 have Hd:=Lib.hid hd;clear hd
 go_enter Tryz.func19,Tryz.ntmps19
 go_wp2
 go_ret
 exact⟨rfl,Keeps.alloc _ _⟩):P:=h
theorem jZ13{P:Prop}(h:P:=by
 skip
 have hne:(z !=0)=true:=by simp [hz0]
 have hend:=Hde1.out (by rw [Hz.out];exact hz0)
 rw [Hz.out] at hend
 have hr2:=Au hr1 (.cells #[.int .i64 dr,.int .i64 dt,.int .i64 dd,.int .i64 da2,.int .i64 ds] 109)
 have hpo:=fun V=>BkPost.put (V:=V) Hb.out Hk0.out hb1 hk1 hf1 (Keeps.alloc w1 (.cells #[.int .i64 dr,.int .i64 dt,.int .i64 dd,.int .i64 da2,.int .i64 ds] 109)) (R:=w.heap.size+1) (Nat.le_succ _) hs0
 clear hb1 hk1 hf1 hAt
 obtain⟨Hc1,Hr1,Hr2,Hpo,Hend,Hz0⟩:=hid6 hc1 hr1 hr2 hpo hend hz0;clear hz0 hend hpo hr2 hr1 hc1
 have hsr:=setRow_heap _ (w.heap.size+1) #[.int .i64 0,.int .i64 0,.int .i64 0,.int .i64 0,.int .i64 0] #[.int .i64 0,.int .i64 0,.int .i64 0,.int .i64 0,.int .i64 0] 77 _ Hr2.out
 have sr0:=Aa hsr 0
 have sr1:=Aa hsr 1
 have sr2:=Aa hsr 2
 have sr3:=Aa hsr 3
 have sr4:=Aa hsr 4
 obtain⟨Hsr,Sr0,Sr1,Sr2,Sr3,Sr4⟩:=hid6 hsr sr0 sr1 sr2 sr3 sr4;clear sr4 sr3 sr2 sr1 sr0 hsr
 go_wp2_with (refine wpList_store_row rfl 77 (.tmp 6) (.tmp 23) rfl (w.heap.size+1) #[.int .i64 0,.int .i64 0,.int .i64 0,.int .i64 0,.int .i64 0] rfl rfl 77 #[.int .i64 0,.int .i64 0,.int .i64 0,.int .i64 0,.int .i64 0] Hr2.out Bj rfl (Cm _ _ _ _ _) ?_)
 have R0':=Sr0.out
 have R1':=Sr1.out
 have R2':=Sr2.out
 have R3':=Sr3.out
 have R4':=Sr4.out
 exact bodyPost_ret (v:= .tuple #[.agg #[.int .i64 0,.int .i64 0,.int .i64 0,.int .i64 0,.int .i64 0],.int .i64 z]) (by simp [results,Tryz.results64,go_sem,R0',R1',R2',R3',R4']) rfl ⟨by rw [Hend.out.1,Hend.out.2];rfl,Hpo.out _⟩):P:=h
theorem jZ62{P:Prop}(h:P:=by
 obtain⟨h1,h2,h3,h4,h5⟩:=h
 exact⟨(hk.cell (Ag h1) (by simp)).trans h1,(hk.cell (Ag h2) (by simp)).trans h2,(hk.cell (Ag h3) (by simp)).trans h3,(hk.cell (Ag h4) (by simp)).trans h4,(hk.cell (Ag h5) (by simp)).trans h5⟩):P:=h
theorem jZ3{P:Prop}(h:P:=by
 obtain⟨Hno,Hpo,Hee,HR0⟩:=hid4 hno hpo hee hR0;clear hR0 hee hpo hno
 go_wp2_with fail
 go_step3
 go_wp2
 refine Az ?_
 have hsr:=setRow_heap _ R #[.int .i64 0,.int .i64 0,.int .i64 0,.int .i64 0,.int .i64 0] #[.int .i64 0,.int .i64 0,.int .i64 0,.int .i64 0,.int .i64 0] 77 _ HR0.out
 have sr0:=Aa hsr 0
 have sr1:=Aa hsr 1
 have sr2:=Aa hsr 2
 have sr3:=Aa hsr 3
 have sr4:=Aa hsr 4
 obtain⟨Hsr,Sr0,Sr1,Sr2,Sr3,Sr4⟩:=hid6 hsr sr0 sr1 sr2 sr3 sr4;clear sr4 sr3 sr2 sr1 sr0 hsr
 go_wp2_with (refine wpList_store_row rfl 77 (.tmp 6) (.tmp 138) rfl R #[.int .i64 0,.int .i64 0,.int .i64 0,.int .i64 0,.int .i64 0] rfl rfl 77 #[.int .i64 0,.int .i64 0,.int .i64 0,.int .i64 0,.int .i64 0] HR0.out Bj rfl (Cm _ _ _ _ _) ?_)
 have R0':=Sr0.out
 have R1':=Sr1.out
 have R2':=Sr2.out
 have R3':=Sr3.out
 have R4':=Sr4.out
 rw [Exit.noGoto_ret]
 exact bodyPost_ret (v:= .tuple #[.agg #[.int .i64 0,.int .i64 0,.int .i64 0,.int .i64 0,.int .i64 0],.int .i64 8]) (by simp [results,Tryz.results63,go_sem,R0',R1',R2',R3',R4']) rfl ⟨by rw [Hno.out.1,Hee.out];rfl,by rw [Hno.out.2];exact Hpo.out⟩):P:=h
theorem jZ97{P:Prop}(h:P:=by
 exact HS.out.keep (Keeps.drew _)):P:=h
theorem jZ18{P:Prop}(h:P:=by
 have hR0:=(Hst3.out).r
 obtain⟨Hno,Hpo,Hee,HR0⟩:=hid4 hno hpo hee hR0;clear hR0 hee hpo hno
 go_wp2_with fail
 go_step3
 go_wp2
 refine Az ?_
 have hsr:=setRow_heap _ R #[.int .i64 0,.int .i64 0,.int .i64 0,.int .i64 0,.int .i64 0] #[.int .i64 0,.int .i64 0,.int .i64 0,.int .i64 0,.int .i64 0] 77 _ HR0.out
 have sr0:=Aa hsr 0
 have sr1:=Aa hsr 1
 have sr2:=Aa hsr 2
 have sr3:=Aa hsr 3
 have sr4:=Aa hsr 4
 obtain⟨Hsr,Sr0,Sr1,Sr2,Sr3,Sr4⟩:=hid6 hsr sr0 sr1 sr2 sr3 sr4;clear sr4 sr3 sr2 sr1 sr0 hsr
 go_wp2_with (refine wpList_store_row rfl 77 (.tmp 6) (.tmp 138) rfl R #[.int .i64 0,.int .i64 0,.int .i64 0,.int .i64 0,.int .i64 0] rfl rfl 77 #[.int .i64 0,.int .i64 0,.int .i64 0,.int .i64 0,.int .i64 0] HR0.out Bj rfl (Cm _ _ _ _ _) ?_)
 have R0':=Sr0.out
 have R1':=Sr1.out
 have R2':=Sr2.out
 have R3':=Sr3.out
 have R4':=Sr4.out
 rw [Exit.noGoto_ret]
 exact bodyPost_ret (v:= .tuple #[.agg #[.int .i64 0,.int .i64 0,.int .i64 0,.int .i64 0,.int .i64 0],.int .i64 9]) (by simp [results,Tryz.results63,go_sem,R0',R1',R2',R3',R4']) rfl ⟨by rw [Hno.out.1,Hee.out];rfl,by rw [Hno.out.2];exact Hpo.out⟩):P:=h
theorem jZ10{P:Prop}(h:P:=by
 have Hin2:=Lib.hid hin;clear hin
 refine Ao (rfdS B C da st td) (.take 0 (.take 1 (.take 2 (.take 3 (.take 4 (.take 5 (.take 6 (.take 7 (.take 8 (.take 9 (.take 10 (.take 11 (.take 12 (.take 13 (.take 14 (.take 15 (.take 16 .done))))))))))))))))) (by kernel_rfl) (by kernel_rfl) ?_ ?_
 ·exact jZ97
 intro w3 hs3 hk3
 repeat ((first|refine Ai rfl (by rfl) ?_|refine Af rfl (by rfl) ?_|(refine Ah (v:= ?_) rfl (by rfl) ?_ ?_;rotate_left;(· intro w' hSw;unfold rfdS at hSw;go_simp;(try with_reducible rfl));rotate_right));try simp only [aps])
 refine Aw ?_
 have hst3:=Hst2.out.keep hk3
 clear hs3
 have Hst3:=Lib.hid hst3;clear hst3
 have nce:=(Hst3.out).ce
 have nec:¬E=C:=fun e=>nce e.symm
 have c0:=Aa (Hst3.out).c 0
 have c1:=Aa (Hst3.out).c 1
 have c2:=Aa (Hst3.out).c 2
 have c3:=Aa (Hst3.out).c 3
 have cl:=lt_of_block (Hst3.out).c
 have e0:=Aa (Hst3.out).e 0
 have e1:=Aa (Hst3.out).e 1
 have e2:=Aa (Hst3.out).e 2
 have e3:=Aa (Hst3.out).e 3
 have e4:=Aa (Hst3.out).e 4
 have el:=lt_of_block (Hst3.out).e
 have f0:=Ab (Hst3.out).e 0
 have f1:=Ab (Hst3.out).e 1
 have f2:=Ab (Hst3.out).e 2
 have f4:=Ab (Hst3.out).e 4
 have hno:=Ac.ee_no (Hin2.out) (by decide)
 have hpo:=((Hst3.out).done (D:=a.D) (V:= #[.int .i64 0,.int .i64 0,.int .i64 0,.int .i64 0,.int .i64 0]) Hb.out)
 have hee:=Hin2.out
 have hR0:=(Hst3.out).r
 obtain⟨Hno,Hpo,Hee,HR0⟩:=hid4 hno hpo hee hR0;clear hR0 hee hpo hno
 go_wp2_with fail
 go_step3
 go_wp2
 refine Az ?_
 have hsr:=setRow_heap _ R #[.int .i64 0,.int .i64 0,.int .i64 0,.int .i64 0,.int .i64 0] #[.int .i64 0,.int .i64 0,.int .i64 0,.int .i64 0,.int .i64 0] 77 _ HR0.out
 have sr0:=Aa hsr 0
 have sr1:=Aa hsr 1
 have sr2:=Aa hsr 2
 have sr3:=Aa hsr 3
 have sr4:=Aa hsr 4
 obtain⟨Hsr,Sr0,Sr1,Sr2,Sr3,Sr4⟩:=hid6 hsr sr0 sr1 sr2 sr3 sr4;clear sr4 sr3 sr2 sr1 sr0 hsr
 go_wp2_with (refine wpList_store_row rfl 77 (.tmp 6) (.tmp 138) rfl R #[.int .i64 0,.int .i64 0,.int .i64 0,.int .i64 0,.int .i64 0] rfl rfl 77 #[.int .i64 0,.int .i64 0,.int .i64 0,.int .i64 0,.int .i64 0] HR0.out Bj rfl (Cm _ _ _ _ _) ?_)
 have R0':=Sr0.out
 have R1':=Sr1.out
 have R2':=Sr2.out
 have R3':=Sr3.out
 have R4':=Sr4.out
 rw [Exit.noGoto_ret]
 exact bodyPost_ret (v:= .tuple #[.agg #[.int .i64 0,.int .i64 0,.int .i64 0,.int .i64 0,.int .i64 0],.int .i64 10]) (by simp [results,Tryz.results63,go_sem,R0',R1',R2',R3',R4']) rfl ⟨by rw [Hno.out.1,Hee.out];rfl,by rw [Hno.out.2];exact Hpo.out⟩):P:=h
theorem dispEnd_any(ref:Int)(lost:Bool)(L:List Disp)(v:Value)(b:Nat)(w:World)(h:BookAt w b v L):
  Calls Tryz.prog 92 #[(.pointer (some ⟨b,0,none⟩)),.int .i64 ref,.bool lost] w (BookPost w b v (dEnd L ref lost) (.tuple #[(dEnded L ref lost).val,.int .i64 (dEndErr L ref)])):=by
 obtain⟨hl,hh,hd⟩:=h.ok
 have h0:=heldOf_nonneg L hd
 have stay:∀n:Int,n≠0→dEndErr L ref=n→∀e w',e= .returned (.tuple #[.agg #[.int .i64 0,.int .i64 0,.int .i64 0,.int .i64 0,.int .i64 0],.int .i64 n])∧Keeps (fun _=>False) w w'→
   BookPost w b v (dEnd L ref lost) (.tuple #[(dEnded L ref lost).val,.int .i64 (dEndErr L ref)]) e w':=by
  rintro n hn he e w' ⟨rfl,hk⟩
  have h1:dEnd L ref lost=L:=by unfold dEnd;rw [if_neg (by omega)]
  have h2:dEnded L ref lost=Disp.zero:=by unfold dEnded;rw [if_neg (by omega)]
  rw [h1,h2,he]
  exact⟨rfl,v,h.keeps hk (by simp),hk.mono (by simp),fun k hk=> .inl hk⟩
 obtain⟨ad,cap,rfl,_,_⟩:=Aj h.row
 by_cases hr:ref<1∨(L.length:Int)<ref
 ·exact(dispEnd_12 ref lost b L.length cap ad _ w hl h.blk hr).mono (stay 12 (by decide) (by unfold dEndErr;rw [if_pos hr]))
 obtain⟨k,rfl⟩:∃k:Nat,ref=k+1:=⟨(ref-1).toNat,by omega⟩
 have hk:k<L.length:=by omega
 obtain⟨g,cap',hv,hg⟩:=Cu h.row (by omega)
 injection hv with e1 e2 e3
 subst e1;subst e3
 have hx:L[k]?=some L[k]:=List.getElem?_eq_getElem hk
 by_cases hs:L[k].state=1
 ·have hA:=dEnd_at hx hs lost
  have hge:=heldOf_ge hd hx hs
  have hok:=dEnd_ok h.ok (k+1) lost
  have hxm:=hd _ (List.mem_of_getElem? hx)
  refine(dispEnd_ok k lost _ g cap L _ b w hx hs hl h0 hh hxm.1 hxm.2 h.blk h.row).mono ?_
  rintro e w' ⟨rfl,hb,hr,hk⟩
  rw [hA.2.2] at hok
  refine⟨by rw [hA.1,hA.2.1],_,⟨?_, ?_, ?_⟩,hk,fun k hk=> .inl hk⟩
  ·rw [hA.2.2,heldOf_set hx hs (by unfold Disp.ended;cases lost<;>simp)];exact hb
  ·rw [hA.2.2];simpa using hr
  ·rw [hA.2.2];exact hok
 ·have he:dEndErr L (k+1)=13:=by
   unfold dEndErr
   rw [if_neg hr,show((k:Int)+1-1).toNat=k from by omega,hx]
   simp [hs]
  have x4:w.cell? ⟨g,k*5+4,none⟩=some (.int .i64 L[k].state):=Bi Disp.Am h.row hx 4 (by decide)
  exact(dispEnd_13 k lost b g L.length cap _ _ w hl hk h.blk x4 (by simpa using hs)).mono (stay 13 (by decide) he)
set_option maxRecDepth 100000
set_option maxHeartbeats 400000
theorem dispAll_any(L:List Disp)(v:Value)(b:Nat)(w:World)(h:BookAt w b v L):Calls Tryz.prog 44 #[(.pointer (some ⟨b,0,none⟩))] w
  fun e w'=>∃v',e= .returned v'∧w'.ownsRow 0 109 5 v' L.length (L.flatMap Disp.cells)∧Keeps (fun _=>False) w w'∧(∀k,v'.ownBlock=some k→w.heap.size≤k):=by
 have c0:w.cell? ⟨b,0,none⟩=some v:=Aa h.blk 0
 obtain⟨ad,cap,rfl,_,_⟩:=Aj h.row
 have H:=Lib.hid h;clear h
 go_enter Tryz.func44,Tryz.ntmps44
 go_wp2_with (go_at_call 66;refine(cloneDisp_any w _ _ _ (Reads.Bh H.out.row) (Disp.one L) (by have:=H.out.ok.1;omega)).mono ?_;rintro e w' ⟨v',rfl,hend⟩;have Hend:=Lib.hid hend;clear hend)
 go_ret
 exact⟨_,rfl,Hend.out⟩
set_option maxHeartbeats 800000
theorem dispFork_any(L:List Disp)(v:Value)(b:Nat)(w:World)(h:BookAt w b v L):Calls Tryz.prog 58 #[(.pointer (some ⟨b,0,none⟩))] w
  fun e w'=>∃b' v',e= .returned (.pointer (some ⟨b',0,none⟩))∧BookAt w' b' v' L∧Keeps (fun _=>False) w w'∧(∀k,Foot b' v' k→w.heap.size≤k):=by
 have c0:w.cell? ⟨b,0,none⟩=some v:=Aa h.blk 0
 have c1:w.cell? ⟨b,1,none⟩=some (.int .i64 (heldOf L)):=Aa h.blk 1
 obtain⟨ad,cap,rfl,_,_⟩:=Aj h.row
 have hbl:=lt_of_block h.blk
 have H:=Lib.hid h;clear h
 go_enter Tryz.func58,Tryz.ntmps58
 go_wp2
 go_region_held3 (fun w'=>w'.cell? ⟨b,0,none⟩=some (.slice ad L.length cap)∧w'.cell? ⟨b,1,none⟩=some (.int .i64 (heldOf L))) (first|go_keep) (first|(go_at_call 66;refine(cloneDisp_any _ _ _ _ (Reads.Bh (H.out.keeps (Keeps.drew (S:=fun _=>False) _) (by simp)).row) (Disp.one L) (by have:=H.out.ok.1;omega)).mono ?_;rintro e w1 ⟨v1,rfl,hown,hk,hf⟩;obtain⟨ad1,cap1,rfl,_,_⟩:=Aj hown;have c0:=hk.cell (p:=⟨b,0,none⟩) hbl (by simp);have c1:=hk.cell (p:=⟨b,1,none⟩) hbl (by simp);have Hend:=Lib.hid (And.intro hown (And.intro hk hf));clear hown hk hf))
 go_wp2
 go_ret
 refine⟨_,_,rfl,⟨heap_alloc_new w1 _,Hend.out.1.alloc _,H.out.ok⟩,((Keeps.drew w).trans (Hend.out.2.1.mono (by simp))).trans (Keeps.alloc _ _), ?_⟩
 rintro k (rfl|hk)
 ·have:=Hend.out.2.1.size;simpa using this
 ·exact Hend.out.2.2 k hk
theorem DL.keepS{W W':World}{B:Nat}{t:Tm}{vt v:Value}{L:List Ev}(h:DL W B t vt L v){S:Nat→Prop}(hk:Keeps S W W')(h1:¬S B)(h2:∀b,vt.ownBlock=some b→¬S b)(h3:∀b,v.ownBlock=some b→¬S b):DL W' B t vt L v:=⟨Ad h.blk hk h1,hk.row h.trs h2,hk.row h.row h3⟩
structure AcV where
 vt:Value
 vl:Value
 vtl:Value
 vb:Value
 vp:Value
 vr:Value
 vn:Value
 vi:Value
 va:Value
 bl:Nat
 bb:Nat
 P:List SV
 I:List SV
def AcV.blk(x:AcV)(a:Ac):Array Value:= #[.int .i64 a.t.limit,x.vt,.int .i64 a.t.cyc,.int .i64 a.t.due,.int .i64 a.t.minFixed,.int .i64 a.t.minPart,.int .i64 a.t.start,.int .i64 a.today,.int .i64 a.seq,(.pointer (some ⟨x.bl,0,none⟩)),(.pointer (some ⟨x.bb,0,none⟩)),x.vp,.int .i64 a.s.p.cr,.int .i64 a.s.p.du,x.vr,x.vn,x.vi,x.va]
def AcV.rd(x:AcV)(b:Nat):Prop:=x.vt.ownBlock=some b∨x.vp.ownBlock=some b∨x.vr.ownBlock=some b∨x.vn.ownBlock=some b∨b=x.bl∨x.vtl.ownBlock=some b∨x.vl.ownBlock=some b∨Foot x.bb x.vb b∨(∃y∈x.P,y.v.ownBlock=some b)∨(∃y∈x.I,y.v.ownBlock=some b)
def AcF(B:Nat)(x:AcV)(b:Nat):Prop:=b=B∨x.vi.ownBlock=some b∨x.va.ownBlock=some b
structure AcOk(a:Ac):Prop where
 wk:walkR a.t a.L a.today=(a.s,0)
 il:a.iss.length=a.s.out.length
 ill:∀y∈a.iss,y.lines.length=a.t.trs.length
 aj:(a.adj.length:Int)≤301000*a.seq
 s0:0≤a.seq
structure AcAt(w:World)(B:Nat)(x:AcV)(a:Ac):Prop where
 blk:w.heap[B]?=some (.cells (x.blk a) 89 (0,0))
 trs:w.ownsRow 0 83 2 x.vt a.t.trs.length (a.t.trs.flatMap Tn.cells)
 dl:DL w x.bl a.t x.vtl a.L x.vl
 bk:BookAt w x.bb x.vb a.D
 bal:w.ownsRow 0 2 1 x.vp a.s.p.bal.length (a.s.p.bal.flatMap i64c)
 rts:w.ownsRow 0 2 1 x.vr a.s.R.length (a.s.R.flatMap i64c)
 now:w.ownsRow 0 42 9 x.vn x.P.length (x.P.flatMap SV.cells)
 nln:∀y∈x.P,w.ownsRow 0 102 3 y.v y.s.lines.length (y.s.lines.flatMap Ln.cells)
 ns:x.P.map SV.s=a.s.out
 iss:w.ownsRow 0 42 9 x.vi x.I.length (x.I.flatMap SV.cells)
 iln:∀y∈x.I,w.ownsRow 0 102 3 y.v y.s.lines.length (y.s.lines.flatMap Ln.cells)
 is:x.I.map SV.s=a.iss
 adj:w.ownsRow 0 70 9 x.va a.adj.length (a.adj.flatMap Adj.cells)
 ok:AcOk a
 sep:∀b,x.rd b→¬AcF B x b
 si:∀b,x.vi.ownBlock=some b→¬(b=B∨x.va.ownBlock=some b)
 sa:∀b,x.va.ownBlock=some b→¬b=B
theorem rowLt{w:World}{e:TypeId}{size n:Nat}{v:Value}{xs:List Value}(h:w.ownsRow 0 e size v n xs){b:Nat}(hb:v.ownBlock=some b):b<w.heap.size:=(h.lt b hb).2
theorem AcAt.lt{w:World}{B:Nat}{x:AcV}{a:Ac}(h:AcAt w B x a):∀b,AcF B x b∨x.rd b→b<w.heap.size:=by
 rintro b ((rfl|hb|hb)|hb|hb|hb|hb|rfl|hb|hb|hb|⟨y,hy,hb⟩|⟨y,hy,hb⟩)
 ·exact lt_of_block h.blk
 ·exact rowLt h.iss hb
 ·exact rowLt h.adj hb
 ·exact rowLt h.trs hb
 ·exact rowLt h.bal hb
 ·exact rowLt h.rts hb
 ·exact rowLt h.now hb
 ·exact lt_of_block h.dl.blk
 ·exact rowLt h.dl.trs hb
 ·exact rowLt h.dl.row hb
 ·exact h.bk.lt b hb
 ·exact rowLt (h.nln y hy) hb
 ·exact rowLt (h.iln y hy) hb
theorem AcAt.keeps{w w':World}{B:Nat}{x:AcV}{a:Ac}(h:AcAt w B x a){S:Nat→Prop}(hk:Keeps S w w')(hS:∀b,AcF B x b∨x.rd b→¬S b):AcAt w' B x a where
 blk:=Ad h.blk hk (hS _ (.inl (.inl rfl)))
 trs:=hk.row h.trs fun b hb=>hS b (.inr (.inl hb))
 dl:=h.dl.keepS hk (hS _ (.inr (.inr (.inr (.inr (.inr (.inl rfl))))))) (fun b hb=>hS b (.inr (.inr (.inr (.inr (.inr (.inr (.inl hb)))))))) (fun b hb=>hS b (.inr (.inr (.inr (.inr (.inr (.inr (.inr (.inl hb)))))))))
 bk:=h.bk.keeps hk fun b hb=>hS b (.inr (.inr (.inr (.inr (.inr (.inr (.inr (.inr (.inl hb)))))))))
 bal:=hk.row h.bal fun b hb=>hS b (.inr (.inr (.inl hb)))
 rts:=hk.row h.rts fun b hb=>hS b (.inr (.inr (.inr (.inl hb))))
 now:=hk.row h.now fun b hb=>hS b (.inr (.inr (.inr (.inr (.inl hb)))))
 nln:=fun y hy=>hk.row (h.nln y hy) fun b hb=>hS b (.inr (.inr (.inr (.inr (.inr (.inr (.inr (.inr (.inr (.inl ⟨y,hy,hb⟩))))))))))
 ns:=h.ns
 iss:=hk.row h.iss fun b hb=>hS b (.inl (.inr (.inl hb)))
 iln:=fun y hy=>hk.row (h.iln y hy) fun b hb=>hS b (.inr (.inr (.inr (.inr (.inr (.inr (.inr (.inr (.inr (.inr ⟨y,hy,hb⟩))))))))))
 is:=h.is
 adj:=hk.row h.adj fun b hb=>hS b (.inl (.inr (.inr hb)))
 ok:=h.ok
 sep:=h.sep
 si:=h.si
 sa:=h.sa
theorem AcAt.keep0{w w':World}{B:Nat}{x:AcV}{a:Ac}(h:AcAt w B x a)(hk:Keeps (fun _=>False) w w'):AcAt w' B x a:=h.keeps hk (by simp)
structure AcNums(a:Ac):Prop where
 tm:a.t.err=0
 ll:a.L.length≤2000
 d0:a.t.start≤a.today
 d1:a.today≤2932896
 ds: -135140≤a.t.start
 cy:ofE a.t.start a.t.cyc a.today=0
 nb:a.s.p.bal.length=a.t.trs.length
 nr:a.s.R.length=a.t.trs.length
 pr:a.s.p.rightB=true
 n1:1≤a.t.trs.length
 n8:a.t.trs.length≤8
 ol:∀y∈a.s.out,y.lines.length=a.t.trs.length
 o3:a.s.out.length≤300
theorem walkR_st{t:Tm}{L:List Ev}{td:Int}{Z:St×Int}(hw:walkR t L td=Z)(hz2:Z.2=0):repErr t L td=0∧∃len,StOk t.trs.length Z.1 len:=by
 unfold walkR at hw
 split at hw
 ·rename_i h0
  have hok:=Ct h0
  obtain⟨_,_,len,h3⟩:=walkD_out hok.tm rfl _ _ _ _ Z (st0_ok hok.tm) (by simp [st0]) hw hz2
  exact⟨h0,len,h3⟩
 ·subst hw;exact absurd hz2 ‹_›
theorem repErr_of{t:Tm}{L:List Ev}{td:Int}(h:repErr t L td=0):ofE t.start t.cyc td=0:=by
 unfold repErr at h
 split at h
 ·split at h
  ·split at h
   ·cases h
   ·split at h
    ·cases h
    ·split at h
     ·cases h
     ·omega
  ·rename_i h2;exact absurd h h2
 ·cases h
theorem AcOk.nums{a:Ac}(h:AcOk a):AcNums a:=by
 obtain⟨h0,len,hs⟩:=walkR_st h.wk rfl
 obtain⟨o1,o2,o3,o4⟩:=walkR_out h.wk rfl
 have hr:=Ct h0
 obtain⟨⟨l0,l1⟩,_,_,_,_,_,hst⟩:=tm_nums hr.tm
 exact⟨hr.tm,hr.ln,hr.d0,hr.d1,by omega,repErr_of h0,hs.nb,hs.nr,o4,by omega,by omega,o1,o2⟩
def cyS(B:Nat)(st cd:Int)(w:World):Prop:=w.cell? ⟨B,6,none⟩=some (.int .i64 st)∧w.cell? ⟨B,2,none⟩=some (.int .i64 cd)
theorem cyS.of{w:World}{B:Nat}{x:AcV}{a:Ac}(h:AcAt w B x a):cyS B a.t.start a.t.cyc w:=⟨Aa h.blk 6,Aa h.blk 2⟩
theorem cyS.keep{B:Nat}{st cd:Int}{w w':World}(h:cyS B st cd w)(hk:Keeps (fun _=>False) w w'):cyS B st cd w':=⟨(hk.cell (Ag h.1) (by simp)).trans h.1,(hk.cell (Ag h.2) (by simp)).trans h.2⟩
theorem accCycle_any(B:Nat)(x:AcV)(a:Ac)(d:Int)(w:World)(h:AcAt w B x a):Calls Tryz.prog 43 #[(.pointer (some ⟨B,0,none⟩)),.int .i64 d] w fun e w'=>e= .returned (.int .i64 (a.cyc d))∧Keeps (fun _=>False) w w':=by
 have hn:=h.ok.nums
 have hcy:=fun W=>cycOf_any a.t.start a.t.cyc d W ⟨by have:=hn.ds;omega,by have:=hn.d0;have:=hn.d1;omega⟩
 have hS:∀W,Keeps (fun _=>False) w W→cyS B a.t.start a.t.cyc W:=fun W hW=>cyS.of (h.keep0 hW)
 have hbl:=lt_of_block h.blk
 have hv:ofV a.t.start a.t.cyc d=a.cyc d:=rfl
 rw [hv] at hcy
 clear hn hv
 obtain⟨H,Hcy,HS⟩:=hid3 h hcy hS;clear hS hcy h
 go_enter Tryz.func43,Tryz.ntmps43
 go_wp2_with fail
 refine Ao (cyS B a.t.start a.t.cyc) (.take 0 (.take 1 (.take 2 (.take 3 (.take 4 (.take 5 (.take 6 (.take 7 (.take 8 (.take 9 (.take 10 (.move 11 (.take 12 (.take 13 (.take 14 (.take 15 (.take 16 .done))))))))))))))))) (by kernel_rfl) (by kernel_rfl) ?_ ?_
 ·exact HS.out _ (Keeps.drew _)
 intro w1 hs1 hk1
 repeat ((first|refine Ai rfl (by rfl) ?_|refine Af rfl (by rfl) ?_|(refine Ah (v:= ?_) rfl (by rfl) ?_ ?_;rotate_left;(· intro w' hSw;unfold cyS at hSw;go_simp;(try with_reducible rfl));rotate_right));try simp only [aps])
 refine Ak rfl (fun K hK=> ?_)
 go_simp
 go_at_call 62
 ((with_reducible refine(Hcy.out w1).mono ?_);rintro e w2 ⟨rfl,hk2⟩;dsimp only)
 refine hK.out _ _ (by exact hs1.keep hk2) ?_
 clear hK K
 try simp only [aps]
 have Hk:=Lib.hid (Keeps.nt hk1 hk2)
 clear hs1 hk1 hk2
 repeat ((first|refine Ai rfl (by rfl) ?_|refine Af rfl (by rfl) ?_|(refine Ah (v:= ?_) rfl (by rfl) ?_ ?_;rotate_left;(· intro w' hSw;unfold cyS at hSw;go_simp;(try with_reducible rfl));rotate_right));try simp only [aps])
 refine Aw ?_
 go_wp2_with fail
 go_ret
 exact⟨rfl,Hk.out⟩
structure StmsR(w:World)(ad:Option Addr)(n cap:Nat)(P:List SV):Prop where
 row:Reads w 9 (.slice ad n cap) n (P.flatMap SV.cells)
 ln:∀x∈P,Reads w 3 x.v x.s.lines.length (x.s.lines.flatMap Ln.cells)
 ll:∀x∈P,x.s.lines.length≤1000
 n:P.length=n
theorem StmsR.keep{w w':World}{ad:Option Addr}{n cap:Nat}{P:List SV}(h:StmsR w ad n cap P)(hk:Keeps (fun _=>False) w w'):StmsR w' ad n cap P:=⟨h.row.keeps hk (by simp),fun x hx=>(h.ln x hx).keeps hk (by simp),h.ll,h.n⟩
theorem cyc_bd(a:Ac)(d:Int):0≤a.cyc d∧a.cyc d≤300:=by
 unfold Ac.cyc ofV
 split
 ·rename_i h
  unfold ofE at h
  split at h
  ·split at h
   ·rename_i h2
    have:=(find_spans a.t.cyc d 300 a.t.start h2).2
    omega
   ·cases h
  ·rename_i h2;exact absurd h h2
 ·omega
theorem accOld_any(B:Nat)(x:AcV)(a:Ac)(d:Int)(w:World)(h:AcAt w B x a):Calls Tryz.prog 90 #[(.pointer (some ⟨B,0,none⟩)),.int .i64 d] w fun e w'=>e= .returned (.bool (a.oldB d))∧Keeps (fun _=>False) w w':=by
 have c7:w.cell? ⟨B,7,none⟩=some (.int .i64 a.today):=Aa h.blk 7
 have hbl:=lt_of_block h.blk
 have hcy:=fun(D:Int) (W:World) (hW:Keeps (fun _=>False) w W)=>accCycle_any B x a D W (h.keep0 hW)
 obtain⟨b1,b2⟩:=cyc_bd a a.today
 obtain⟨b3,b4⟩:=cyc_bd a d
 obtain⟨c1,hc1⟩:∃c,a.cyc a.today=c:=⟨_,rfl⟩
 obtain⟨c2,hc2⟩:∃c,a.cyc d=c:=⟨_,rfl⟩
 have hcy1:=hcy a.today
 have hcy2:=hcy d
 have ho:a.oldB d=decide (24<c1-c2):=by unfold Ac.oldB;rw [hc1,hc2]
 rw [hc1] at hcy1 b1 b2
 rw [hc2] at hcy2 b3 b4
 rw [ho]
 clear hcy
 by_cases hlt:24<c1-c2
 ·have hd:decide (24<c1-c2)=true:=by simp [hlt]
  rw [hd]
  obtain⟨H,Hcy1,Hcy2,Hc1,Hc2,Ho,Hd⟩:=hid7 h hcy1 hcy2 hc1 hc2 ho hd;clear hd ho hc2 hc1 hcy2 hcy1 h
  go_enter Tryz.func90,Tryz.ntmps90
  go_wp2_with fail
  refine(Hcy1.out _ (Keeps.refl _ _)).mono ?_
  rintro e w1 ⟨rfl,hk1⟩
  have Hk1:=Lib.hid hk1;clear hk1
  go_wp2_with fail
  refine(Hcy2.out _ Hk1.out).mono ?_
  rintro e w2 ⟨rfl,hk2⟩
  have Hk2:=Lib.hid (Hk1.out.nt hk2);clear hk2
  go_wp2
  go_ret
  exact⟨rfl,Hk2.out⟩
 ·have hd:decide (24<c1-c2)=false:=by simp [hlt]
  rw [hd]
  obtain⟨H,Hcy1,Hcy2,Hc1,Hc2,Ho,Hd⟩:=hid7 h hcy1 hcy2 hc1 hc2 ho hd;clear hd ho hc2 hc1 hcy2 hcy1 h
  go_enter Tryz.func90,Tryz.ntmps90
  go_wp2_with fail
  refine(Hcy1.out _ (Keeps.refl _ _)).mono ?_
  rintro e w1 ⟨rfl,hk1⟩
  have Hk1:=Lib.hid hk1;clear hk1
  go_wp2_with fail
  refine(Hcy2.out _ Hk1.out).mono ?_
  rintro e w2 ⟨rfl,hk2⟩
  have Hk2:=Lib.hid (Hk1.out.nt hk2);clear hk2
  go_wp2
  go_ret
  exact⟨by rw [←Hd.out];rfl,Hk2.out⟩
theorem accTranche_any(B:Nat)(x:AcV)(a:Ac)(d:Int)(w:World)(h:AcAt w B x a):Calls Tryz.prog 88 #[(.pointer (some ⟨B,0,none⟩)),.int .i64 d] w fun e w'=>e= .returned (.bool (decide (1≤d∧d≤a.t.trs.length)))∧w=w':=by
 have c1:w.cell? ⟨B,1,none⟩=some x.vt:=Aa h.blk 1
 have hbl:=lt_of_block h.blk
 obtain⟨n,hn⟩:∃n,a.t.trs.length=n:=⟨_,rfl⟩
 obtain⟨ad,c,hv,_,_⟩:=Aj h.trs
 have e1:x.vt= .slice ad n c:=by rw [hv,hn]
 rw [e1] at c1
 rw [hn]
 by_cases h1:1≤d
 ·by_cases h2:d≤(n:Int)
  ·have hd:decide (1≤d∧d≤(n:Int))=true:=by simp [h1,h2]
   exact jZ51
  ·have hd:decide (1≤d∧d≤(n:Int))=false:=by simp [h2]
   exact jZ51
 ·have hd:decide (1≤d∧d≤(n:Int))=false:=by simp [h1]
  exact jZ51
theorem Ar:(Tryz.prog.info? 44).map (·.size)=some 20:=by kernel_rfl
theorem Ca(w:World)(g:Nat)(cs:Array Value):Keeps (fun i=>i=g) w (w.setRow g cs):=⟨rfl,rfl,rfl,by simp [World.setRow],fun k _ hk=>setRow_other w g k _ hk⟩
theorem Cb(z:Int)(w:World):Calls Tryz.prog 38 #[.int .i64 z] w fun e w'=>e= .returned (.agg #[.int .i64 z,.int .i64 0,.int .i64 0,.int .i64 0,.int .i64 0,.slice none 0 0,.int .i64 0,.int .i64 0,.slice none 0 0,.slice none 0 0,.int .i64 0,.int .i64 0,.int .i64 0,.int .i64 0,.int .i64 0,.slice none 0 0,.int .i64 0,.int .i64 0,.int .i64 0,.bool false])∧Keeps (fun _=>False) w w':=by
 have hb:=heap_alloc_new w (.cells #[.int .i64 0,.int .i64 0,.int .i64 0,.int .i64 0,.int .i64 0,.slice none 0 0,.int .i64 0,.int .i64 0,.slice none 0 0,.slice none 0 0,.int .i64 0,.int .i64 0,.int .i64 0,.int .i64 0,.int .i64 0,.slice none 0 0,.int .i64 0,.int .i64 0,.int .i64 0,.bool false] 44)
 have hb2:=setRow_heap (w.alloc (.cells #[.int .i64 0,.int .i64 0,.int .i64 0,.int .i64 0,.int .i64 0,.slice none 0 0,.int .i64 0,.int .i64 0,.slice none 0 0,.slice none 0 0,.int .i64 0,.int .i64 0,.int .i64 0,.int .i64 0,.int .i64 0,.slice none 0 0,.int .i64 0,.int .i64 0,.int .i64 0,.bool false] 44)) w.heap.size #[.int .i64 0,.int .i64 0,.int .i64 0,.int .i64 0,.int .i64 0,.slice none 0 0,.int .i64 0,.int .i64 0,.slice none 0 0,.slice none 0 0,.int .i64 0,.int .i64 0,.int .i64 0,.int .i64 0,.int .i64 0,.slice none 0 0,.int .i64 0,.int .i64 0,.int .i64 0,.bool false] #[.int .i64 z,.int .i64 0,.int .i64 0,.int .i64 0,.int .i64 0,.slice none 0 0,.int .i64 0,.int .i64 0,.slice none 0 0,.slice none 0 0,.int .i64 0,.int .i64 0,.int .i64 0,.int .i64 0,.int .i64 0,.slice none 0 0,.int .i64 0,.int .i64 0,.int .i64 0,.bool false] 44 _ hb
 have hk:=(Keeps.alloc (S:=fun _=>False) w (.cells #[.int .i64 0,.int .i64 0,.int .i64 0,.int .i64 0,.int .i64 0,.slice none 0 0,.int .i64 0,.int .i64 0,.slice none 0 0,.slice none 0 0,.int .i64 0,.int .i64 0,.int .i64 0,.int .i64 0,.int .i64 0,.slice none 0 0,.int .i64 0,.int .i64 0,.int .i64 0,.bool false] 44)).trans ((Ca (w.alloc (.cells #[.int .i64 0,.int .i64 0,.int .i64 0,.int .i64 0,.int .i64 0,.slice none 0 0,.int .i64 0,.int .i64 0,.slice none 0 0,.slice none 0 0,.int .i64 0,.int .i64 0,.int .i64 0,.int .i64 0,.int .i64 0,.slice none 0 0,.int .i64 0,.int .i64 0,.int .i64 0,.bool false] 44)) w.heap.size #[.int .i64 z,.int .i64 0,.int .i64 0,.int .i64 0,.int .i64 0,.slice none 0 0,.int .i64 0,.int .i64 0,.slice none 0 0,.slice none 0 0,.int .i64 0,.int .i64 0,.int .i64 0,.int .i64 0,.int .i64 0,.slice none 0 0,.int .i64 0,.int .i64 0,.int .i64 0,.bool false]).mono fun i _ e=> .inr (by have e':i=w.heap.size:=e;omega))
 have h1:(#[.int .i64 z,.int .i64 0,.int .i64 0,.int .i64 0,.int .i64 0,.slice none 0 0,.int .i64 0,.int .i64 0,.slice none 0 0,.slice none 0 0,.int .i64 0,.int .i64 0,.int .i64 0,.int .i64 0,.int .i64 0,.slice none 0 0,.int .i64 0,.int .i64 0,.int .i64 0,.bool false]:Array Value).all (·.oneCell')=true:=by simp [Value.oneCell']
 obtain⟨Hb,Hb2,Hk,H1⟩:=hid4 hb hb2 hk h1;clear h1 hk hb2 hb
 go_enter Tryz.func38,Tryz.ntmps38
 go_wp2_with (refine wpList_store_row rfl 44 (.tmp 2) (.tmp 4) rfl w.heap.size #[.int .i64 z,.int .i64 0,.int .i64 0,.int .i64 0,.int .i64 0,.slice none 0 0,.int .i64 0,.int .i64 0,.slice none 0 0,.slice none 0 0,.int .i64 0,.int .i64 0,.int .i64 0,.int .i64 0,.int .i64 0,.slice none 0 0,.int .i64 0,.int .i64 0,.int .i64 0,.bool false] rfl rfl 44 #[.int .i64 0,.int .i64 0,.int .i64 0,.int .i64 0,.int .i64 0,.slice none 0 0,.int .i64 0,.int .i64 0,.slice none 0 0,.slice none 0 0,.int .i64 0,.int .i64 0,.int .i64 0,.int .i64 0,.int .i64 0,.slice none 0 0,.int .i64 0,.int .i64 0,.int .i64 0,.bool false] Hb.out Ar rfl H1.out ?_)
 exact bodyPost_ret (results_cell_row rfl _ _ w.heap.size 44 #[.int .i64 z,.int .i64 0,.int .i64 0,.int .i64 0,.int .i64 0,.slice none 0 0,.int .i64 0,.int .i64 0,.slice none 0 0,.slice none 0 0,.int .i64 0,.int .i64 0,.int .i64 0,.int .i64 0,.int .i64 0,.slice none 0 0,.int .i64 0,.int .i64 0,.int .i64 0,.bool false] _ _ rfl Hb2.out Tryz.underlying44 rfl Ar) rfl ⟨rfl,Hk.out⟩
def chB(c:Cmd):Bool:=decide (1≤c.kind)&&decide (c.kind≤8)
theorem accChanges_any(c:Cmd)(w:World):Calls Tryz.prog 19 #[.agg #[.int .i64 c.kind,.int .i64 c.day,.int .i64 c.tranche,.int .i64 c.amount,.int .i64 c.ref]] w fun e w'=>e= .returned (.bool (chB c))∧Keeps (fun _=>False) w w':=by
 obtain⟨ki,da,tr,am,re⟩:=c
 simp only
 by_cases h1:1≤ki
 ·by_cases h2:ki≤8
  ·have hd:chB ⟨ki,da,tr,am,re⟩=true:=by simp [chB,h1,h2]
   exact jZ63
  ·have hd:chB ⟨ki,da,tr,am,re⟩=false:=by simp [chB,h2]
   exact jZ63
 ·have hd:chB ⟨ki,da,tr,am,re⟩=false:=by simp [chB,h1]
  exact jZ63
theorem putRow{w W:World}{R:Nat}{C V:Array Value}{t:TypeId}(h:W.heap[R]?=some (.cells C t (0,0)))(hk:Keeps (fun _=>False) w W)(hR:w.heap.size≤R):(W.setRow R V).heap[R]?=some (.cells V t (0,0))∧Keeps (fun _=>False) w (W.setRow R V):=
 ⟨setRow_heap W R C V t _ h,hk.trans ((Ca W R V).mono fun i _ e=> .inr (by have e':i=R:=e;omega))⟩
theorem Br(e r c:Int):(#[.int .i64 e,.int .i64 r,.int .i64 c,.int .i64 0,.int .i64 0,.slice none 0 0,.int .i64 0,.int .i64 0,.slice none 0 0,.slice none 0 0,.int .i64 0,.int .i64 0,.int .i64 0,.int .i64 0,.int .i64 0,.slice none 0 0,.int .i64 0,.int .i64 0,.int .i64 0,.bool false]:Array Value).all (·.oneCell')=true:=by simp [Value.oneCell']
theorem StmsR.ofP{w:World}{v:Value}{P:List SV}(h1:w.ownsRow 0 42 9 v P.length (P.flatMap SV.cells))(h2:∀y∈P,w.ownsRow 0 102 3 y.v y.s.lines.length (y.s.lines.flatMap Ln.cells))(h3:∀y∈P,y.s.lines.length≤1000):∃ad c,v= .slice ad P.length c∧StmsR w ad P.length c P:=by
 obtain⟨ad,c,rfl,_,_⟩:=Aj h1
 exact⟨ad,c,rfl,Reads.Bh h1,fun y hy=>Reads.Bh (h2 y hy),h3,rfl⟩
theorem AcAt.stmN{w:World}{B:Nat}{x:AcV}{a:Ac}(h:AcAt w B x a):∃ad c,x.vn= .slice ad x.P.length c∧StmsR w ad x.P.length c x.P∧x.P.length≤1000:=by
 have hn:=h.ok.nums
 have hl:x.P.length=a.s.out.length:=by rw [←h.ns,List.length_map]
 obtain⟨ad,c,h1,h2⟩:=StmsR.ofP h.now h.nln fun y hy=>by
  have:y.s∈a.s.out:=by rw [←h.ns];exact List.mem_map.2 ⟨y,hy,rfl⟩
  have h3:=hn.ol _ this
  have:=hn.n8
  omega
 exact⟨ad,c,h1,h2,by rw [hl];have:=hn.o3;omega⟩
theorem Cq:(Tryz.prog.info? 37).map (·.size)=some 8:=by kernel_rfl
def StIs(a:Ac)(w w':World)(v1 v2 v3:Value):Prop:=w'.ownsRow 0 2 1 v1 a.s.p.bal.length (a.s.p.bal.flatMap i64c)∧w'.ownsRow 0 2 1 v2 a.s.R.length (a.s.R.flatMap i64c)∧w'.ownsRow 0 109 5 v3 a.D.length (a.D.flatMap Disp.cells)∧
 Keeps (fun _=>False) w w'∧∀b,v1.ownBlock=some b∨v2.ownBlock=some b∨v3.ownBlock=some b→w.heap.size≤b
def StatePost(a:Ac)(w:World)(e:Ending)(w':World):Prop:=∃a1 c1 a2 c2 a3 c3,e= .returned (.agg #[.int .i64 a.today,.int .i64 (a.cyc a.today),.slice a1 a.s.p.bal.length c1,.int .i64 a.s.p.cr,.int .i64 a.s.p.du,.slice a2 a.s.R.length c2,.slice a3 a.D.length c3,.int .i64 a.seq])∧StIs a w w' (.slice a1 a.s.p.bal.length c1) (.slice a2 a.s.R.length c2) (.slice a3 a.D.length c3)
def stS(B b bb:Nat)(td sq cr du:Int)(vr vp:Value)(w:World):Prop:=w.cell? ⟨B,7,none⟩=some (.int .i64 td)∧w.cell? ⟨B,8,none⟩=some (.int .i64 sq)∧w.cell? ⟨B,14,none⟩=some vr∧w.cell? ⟨B,10,none⟩=some (.pointer (some ⟨bb,0,none⟩))∧w.cell? ⟨b,0,none⟩=some vp∧w.cell? ⟨b,1,none⟩=some (.int .i64 cr)∧w.cell? ⟨b,2,none⟩=some (.int .i64 du)
theorem stS.keep{B b bb:Nat}{td sq cr du:Int}{vr vp:Value}{w w':World}(h:stS B b bb td sq cr du vr vp w){S:Nat→Prop}(hk:Keeps S w w')(h1:¬S B)(h2:¬S b):stS B b bb td sq cr du vr vp w':=by
 obtain⟨c0,c1,c2,c3,c4,c5,c6⟩:=h
 exact⟨(hk.cell (Ag c0) h1).trans c0,(hk.cell (Ag c1) h1).trans c1,(hk.cell (Ag c2) h1).trans c2,(hk.cell (Ag c3) h1).trans c3,(hk.cell (Ag c4) h2).trans c4,(hk.cell (Ag c5) h2).trans c5,(hk.cell (Ag c6) h2).trans c6⟩
set_option maxHeartbeats 1600000
theorem accState_any(B:Nat)(x:AcV)(a:Ac)(w:World)(h:AcAt w B x a):Calls Tryz.prog 16 #[(.pointer (some ⟨B,0,none⟩))] w (StatePost a w):=by
 have hn:=h.ok.nums
 obtain⟨n,hN⟩:∃n,a.s.p.bal.length=n:=⟨_,rfl⟩
 obtain⟨m,hM⟩:∃n,a.s.R.length=n:=⟨_,rfl⟩
 obtain⟨q,hQ⟩:∃n,a.D.length=n:=⟨_,rfl⟩
 have hn8:n≤8:=by have:=hn.nb;have:=hn.n8;omega
 have hm8:m≤8:=by have:=hn.nr;have:=hn.n8;omega
 obtain⟨ap,cp,hvp,_,_⟩:=Aj h.bal
 obtain⟨ar,cr,hvr,_,_⟩:=Aj h.rts
 have hrp:=Reads.Bh h.bal
 have hrr:=Reads.Bh h.rts
 rw [hN] at hvp hrp
 rw [hM] at hvr hrr
 rw [hvp] at hrp
 rw [hvr] at hrr
 have hc1:=fun W (hW:Keeps (fun _=>False) w W)=>Dg W (.slice ap n cp) n _ (hrp.keeps hW (by simp)) (i64c_one _) (by omega)
 have hc2:=fun W (hW:Keeps (fun _=>False) w W)=>Dg W (.slice ar m cr) m _ (hrr.keeps hW (by simp)) (i64c_one _) (by omega)
 have hcy:=fun W (hW:Keeps (fun _=>False) w W)=>accCycle_any B x a a.today W (h.keep0 hW)
 have hda:=fun W (hW:Keeps (fun _=>False) w W)=>dispAll_any a.D x.vb x.bb W (h.bk.keeps hW (by simp))
 rw [hQ] at hda
 obtain⟨cyn,hcyn⟩:∃c,a.cyc a.today=c:=⟨_,rfl⟩
 rw [hcyn] at hcy
 obtain⟨td,htd⟩:∃c,a.today=c:=⟨_,rfl⟩
 have hcyn':=hcyn
 rw [htd] at hcy hcyn'
 obtain⟨sq,hsq⟩:∃c,a.seq=c:=⟨_,rfl⟩
 obtain⟨pc,hpc⟩:∃c,a.s.p.cr=c:=⟨_,rfl⟩
 obtain⟨pd,hpd⟩:∃c,a.s.p.du=c:=⟨_,rfl⟩
 obtain⟨bb,hbb⟩:∃c,x.bb=c:=⟨_,rfl⟩
 rw [hbb] at hda
 have d7:w.cell? ⟨B,7,none⟩=some (.int .i64 td):=by rw [←htd];exact Aa h.blk 7
 have d8:w.cell? ⟨B,8,none⟩=some (.int .i64 sq):=by rw [←hsq];exact Aa h.blk 8
 have d10:w.cell? ⟨B,10,none⟩=some (.pointer (some ⟨bb,0,none⟩)):=by rw [←hbb];exact Aa h.blk 10
 have c11:w.cell? ⟨B,11,none⟩=some (.slice ap n cp):=by rw [←hvp];exact Aa h.blk 11
 have c12:w.cell? ⟨B,12,none⟩=some (.int .i64 pc):=by rw [←hpc];exact Aa h.blk 12
 have c13:w.cell? ⟨B,13,none⟩=some (.int .i64 pd):=by rw [←hpd];exact Aa h.blk 13
 have d14:w.cell? ⟨B,14,none⟩=some (.slice ar m cr):=by rw [←hvr];exact Aa h.blk 14
 have hbl:=lt_of_block h.blk
 obtain⟨W0,hW0⟩:∃x,x=(w.alloc (.cells #[.int .i64 0,.int .i64 0,.slice none 0 0,.int .i64 0,.int .i64 0,.slice none 0 0,.slice none 0 0,.int .i64 0] 37)).alloc (.cells #[.slice ap n cp,.int .i64 pc,.int .i64 pd] 34):=⟨_,rfl⟩
 have hr0:W0.heap[w.heap.size]?=some (.cells #[.int .i64 0,.int .i64 0,.slice none 0 0,.int .i64 0,.int .i64 0,.slice none 0 0,.slice none 0 0,.int .i64 0] 37 (0,0)):=by rw [hW0];exact Au (heap_alloc_new w _) _
 have hp0:W0.heap[w.heap.size+1]?=some (.cells #[.slice ap n cp,.int .i64 pc,.int .i64 pd] 34 (0,0)):=by rw [hW0];exact Ay _ _ (by simp)
 have hk0:Keeps (fun _=>False) w W0:=by rw [hW0];(repeat (first|exact Keeps.refl _ _|exact Keeps.alloc _ _|exact Keeps.drew _|exact Keeps.drewN _ _|refine Keeps.Ap ?_|refine Keeps.Al ?_|refine Keeps.Ae ?_))
 have hw:StatePost a=fun w e w'=>∃a1 c1 a2 c2 a3 c3,e= .returned (.agg #[.int .i64 td,.int .i64 cyn,.slice a1 n c1,.int .i64 pc,.int .i64 pd,.slice a2 m c2,.slice a3 q c3,.int .i64 sq])∧StIs a w w' (.slice a1 n c1) (.slice a2 m c2) (.slice a3 q c3):=by
  unfold StatePost
  simp only [hcyn]
  simp only [hN,hM,hQ,htd,hsq,hpc,hpd]
 rw [hw]
 clear hn hcyn'
 obtain⟨H,HN,HM,HQ,Hvp,Hvr,Hrp,Hrr,Hc1⟩:=hid9 h hN hM hQ hvp hvr hrp hrr hc1;clear hc1 hrr hrp hvr hvp hQ hM hN h;obtain⟨Hc2,Hcy,Hda,Hcyn,Htd,Hsq,Hpc,Hpd,Hbb⟩:=hid9 hc2 hcy hda hcyn htd hsq hpc hpd hbb;clear hbb hpd hpc hsq htd hcyn hda hcy hc2;obtain⟨D7,D8,D10,D14,Hr0,Hp0,Hk0,Hw⟩:=hid8 d7 d8 d10 d14 hr0 hp0 hk0 hw;clear hw hk0 hp0 hr0 d14 d10 d8 d7
 go_enter Tryz.func16,Tryz.ntmps16
 go_wp2_with fail
 rw [←hW0]
 clear hW0
 refine(Hc1.out _ Hk0.out).mono ?_
 rintro e w1 ⟨v1,rfl,hrow1,hk1,hnew1⟩
 obtain⟨a1,c1,rfl,_,_⟩:=Aj hrow1
 have hr1:=Ad Hr0.out hk1 (by simp)
 have hp1:=Ad Hp0.out hk1 (by simp)
 have p0:=Aa hp1 0
 have f0:=Ab hp1 0
 have pl:=lt_of_block hp1
 have k2:Keeps (fun i=>i=w.heap.size+1) w1 (w1.setCell ⟨w.heap.size+1,0,none⟩ (.slice a1 n c1)):=Keeps.setCell _ _ _ rfl
 have hp2:=(heap_setCell_same _ _ 0 _ _ (.slice a1 n c1) hp1).trans rfl
 have hr2:=Ad hr1 k2 (by omega)
 have hrow2:=k2.row hrow1 (fun b hb e=>by have h1:=hnew1 b hb;have h2:=lt_of_block Hp0.out;have e':b=w.heap.size+1:=e;omega)
 have hkw2:Keeps (fun _=>False) w (w1.setCell ⟨w.heap.size+1,0,none⟩ (.slice a1 n c1)):=(Hk0.out.nt hk1).trans (k2.mono fun i _ e=> .inr (by have e':i=w.heap.size+1:=e;omega))
 obtain⟨W2,hW2⟩:∃x,x=w1.setCell ⟨w.heap.size+1,0,none⟩ (.slice a1 n c1):=⟨_,rfl⟩
 rw [←hW2] at hp2 hr2 hrow2 hkw2
 have hf1:∀b,(Value.slice a1 n c1).ownBlock=some b→w.heap.size+1<b:=fun b hb=>by have h1:=hnew1 b hb;have h2:=lt_of_block Hp0.out;omega
 clear k2 hnew1
 obtain⟨Hrow1,Hk1,Hr1,Hp1,Hp2,Hr2,Hrow2,Hkw2,Hf1⟩:=hid9 hrow1 hk1 hr1 hp1 hp2 hr2 hrow2 hkw2 hf1;clear hf1 hkw2 hrow2 hr2 hp2 hp1 hr1 hk1 hrow1
 clear c11 c12 c13
 go_upto_region 5 with fail
 rw [←hW2]
 clear hW2 p0 f0 pl
 have hS2:stS B (w.heap.size+1) bb td sq pc pd (.slice ar m cr) (.slice a1 n c1) W2:=by
  have hk:=Hkw2.out
  exact⟨(hk.cell (Ag D7.out) (by simp)).trans D7.out,(hk.cell (Ag D8.out) (by simp)).trans D8.out,(hk.cell (Ag D14.out) (by simp)).trans D14.out,(hk.cell (Ag D10.out) (by simp)).trans D10.out,Aa Hp2.out 0,Aa Hp2.out 1,Aa Hp2.out 2⟩
 have HS2:=Lib.hid hS2
 clear hS2
 refine Ao (stS B (w.heap.size+1) bb td sq pc pd (.slice ar m cr) (.slice a1 n c1)) (.take 0 (.take 1 (.take 2 (.take 3 (.take 4 (.take 5 (.take 6 (.take 7 (.take 8 (.take 10 (.take 11 (.take 12 (.take 13 (.take 14 (.take 16 (.take 17 (.take 18 (.take 19 (.take 21 (.take 22 (.take 23 (.take 24 (.move 9 (.move 15 (.move 20 (.take 25 (.move 26 .done))))))))))))))))))))))))))) (by kernel_rfl) (by kernel_rfl) ?_ ?_
 ·exact HS2.out.keep (Keeps.drew (S:=fun _=>False) _) (by simp) (by simp)
 intro w3 hs3 hk3
 repeat ((first|refine Ai rfl (by rfl) ?_|refine Af rfl (by rfl) ?_|(refine Ah (v:= ?_) rfl (by rfl) ?_ ?_;rotate_left;(· intro w' hSw;unfold stS at hSw;go_simp;(try with_reducible rfl));rotate_right));try simp only [aps])
 refine Ak rfl (fun K hK=> ?_)
 go_simp
 go_at_call 43
 ((with_reducible refine(Hcy.out w3 (Hkw2.out.nt hk3)).mono ?_);rintro e w4 ⟨rfl,hk4⟩;dsimp only)
 refine hK.out _ _ (by exact hs3.keep hk4 (by simp) (by simp)) ?_
 clear hK K
 try simp only [aps]
 have hs4:=hs3.keep hk4 (by simp) (by simp)
 have hk24:=Keeps.nt hk3 hk4
 clear hs3 hk3 hk4
 repeat ((first|refine Ai rfl (by rfl) ?_|refine Af rfl (by rfl) ?_|(refine Ah (v:= ?_) rfl (by rfl) ?_ ?_;rotate_left;(· intro w' hSw;unfold stS at hSw;go_simp;(try with_reducible rfl));rotate_right));try simp only [aps])
 refine Ak rfl (fun K hK=> ?_)
 go_simp
 go_at_call 42
 ((with_reducible refine(Hc2.out w4 (Hkw2.out.nt hk24)).mono ?_);rintro e w5 ⟨v2,rfl,hrow5,hk5,hnew5⟩;dsimp only)
 refine hK.out _ _ (by exact hs4.keep hk5 (by simp) (by simp)) ?_
 clear hK K
 try simp only [aps]
 obtain⟨a2,c2,rfl,_,_⟩:=Aj hrow5
 have hs5:=hs4.keep hk5 (by simp) (by simp)
 have hk25:=Keeps.nt hk24 hk5
 have hf5:∀b,(Value.slice a2 m c2).ownBlock=some b→W2.heap.size≤b:=fun b hb=>by have:=hnew5 b hb;have:=hk24.size;omega
 clear hs4 hk24 hk5 hnew5
 repeat ((first|refine Ai rfl (by rfl) ?_|refine Af rfl (by rfl) ?_|(refine Ah (v:= ?_) rfl (by rfl) ?_ ?_;rotate_left;(· intro w' hSw;unfold stS at hSw;go_simp;(try with_reducible rfl));rotate_right));try simp only [aps])
 refine Ak rfl (fun K hK=> ?_)
 go_simp
 go_at_call 44
 ((with_reducible refine(Hda.out w5 (Hkw2.out.nt hk25)).mono ?_);rintro e w6 ⟨v3,rfl,hrow6,hk6,hnew6⟩;dsimp only)
 refine hK.out _ _ (by exact hs5.keep hk6 (by simp) (by simp)) ?_
 clear hK K
 try simp only [aps]
 obtain⟨a3,c3,rfl,_,_⟩:=Aj hrow6
 have hs6:=hs5.keep hk6 (by simp) (by simp)
 have hk26:=Keeps.nt hk25 hk6
 have hr6:=Ad Hr2.out hk26 (by simp)
 have hrow51:=hk6.row hrow5 (by simp)
 have hrow21:=hk26.row Hrow2.out (by simp)
 have hf6:∀b,(Value.slice a3 q c3).ownBlock=some b→W2.heap.size≤b:=fun b hb=>by have:=hnew6 b hb;have:=hk25.size;omega
 have h2l:=lt_of_block Hr2.out
 have kR:=Ca w6 w.heap.size #[.int .i64 td,.int .i64 cyn,.slice a1 n c1,.int .i64 pc,.int .i64 pd,.slice a2 m c2,.slice a3 q c3,.int .i64 sq]
 have hput:=putRow (V:= #[.int .i64 td,.int .i64 cyn,.slice a1 n c1,.int .i64 pc,.int .i64 pd,.slice a2 m c2,.slice a3 q c3,.int .i64 sq]) hr6 (Hkw2.out.nt hk26) (Nat.le_refl _)
 obtain⟨hput1,hput2⟩:=hput
 have e1:=kR.row hrow21 (fun b hb e=>by have:=Hf1.out b hb;have e':b=w.heap.size:=e;omega)
 have e2:=kR.row hrow51 (fun b hb e=>by have:=hf5 b hb;have e':b=w.heap.size:=e;omega)
 have e3:=kR.row hrow6 (fun b hb e=>by have:=hf6 b hb;have e':b=w.heap.size:=e;omega)
 have hend:StIs a w (w6.setRow w.heap.size #[.int .i64 td,.int .i64 cyn,.slice a1 n c1,.int .i64 pc,.int .i64 pd,.slice a2 m c2,.slice a3 q c3,.int .i64 sq]) (.slice a1 n c1) (.slice a2 m c2) (.slice a3 q c3):=by
  refine⟨by rw [HN.out];exact e1,by rw [HM.out];exact e2,by rw [HQ.out];exact e3,hput2,fun b hb=> ?_⟩
  rcases hb with hb|hb|hb
  ·have:=Hf1.out b hb;omega
  ·have:=hf5 b hb;omega
  ·have:=hf6 b hb;omega
 have hs7:=hs6.keep kR (by omega) (by omega)
 have h1:(#[.int .i64 td,.int .i64 cyn,.slice a1 n c1,.int .i64 pc,.int .i64 pd,.slice a2 m c2,.slice a3 q c3,.int .i64 sq]:Array Value).all (·.oneCell')=true:=by simp [Value.oneCell']
 clear hs5 hk25 hk6 hnew6 kR e1 e2 e3 hput2 hf5 hf6 hrow51 hrow21 hrow5 hrow6 hk26 h2l
 have Hs7:=Lib.hid hs7
 clear hs7
 obtain⟨Hput1,Hend,Hr6,H1⟩:=hid4 hput1 hend hr6 h1;clear h1 hr6 hend hput1
 repeat ((first|refine Ai rfl (by rfl) ?_|refine Af rfl (by rfl) ?_|(refine Ah (v:= ?_) rfl (by rfl) ?_ ?_;rotate_left;(· intro w' hSw;unfold stS at hSw;go_simp;(try with_reducible rfl));rotate_right));try simp only [aps])
 refine Ak rfl (fun K hK=> ?_)
 refine wp_store_row 37 (.tmp 2) (.tmp 40) rfl w.heap.size #[.int .i64 td,.int .i64 cyn,.slice a1 n c1,.int .i64 pc,.int .i64 pd,.slice a2 m c2,.slice a3 q c3,.int .i64 sq] rfl rfl 37 #[.int .i64 0,.int .i64 0,.slice none 0 0,.int .i64 0,.int .i64 0,.slice none 0 0,.slice none 0 0,.int .i64 0] Hr6.out Cq rfl H1.out ?_
 refine hK.out _ _ (by exact Hs7.out) ?_
 clear hK K
 try simp only [aps]
 refine Aw ?_
 go_wp2_with fail
 exact bodyPost_ret (results_cell_row rfl _ _ w.heap.size 37 _ _ _ rfl Hput1.out Tryz.underlying37 rfl Cq) rfl ⟨a1,c1,a2,c2,a3,c3,rfl,Hend.out⟩
theorem Keeps.setB{w W:World}{B:Nat}(h:Keeps (fun j=>j=B) w W)(i:Nat)(v:Value):Keeps (fun j=>j=B) w (W.setCell ⟨B,i,none⟩ v):=h.trans (Keeps.setCell (S:=fun j=>j=B∨w.heap.size≤j) W ⟨B,i,none⟩ v (.inl rfl))
def acNew(t:Tm):Ac:=⟨t,t.start,0, [], [],st0 t, [], []⟩
def NewAc(t:Tm)(w:World)(e:Ending)(w':World):Prop:=∃B x,e= .returned (.tuple #[(.pointer (some ⟨B,0,none⟩)),.int .i64 0])∧AcAt w' B x (acNew t)∧Keeps (fun _=>False) w w'∧(∀b,AcF B x b∨x.rd b→w.heap.size≤b)
theorem walkR_new{t:Tm}(h:repErr t [] t.start=0):walkR t [] t.start=(st0 t,0):=by
 unfold walkR
 rw [if_pos h,show(t.start-t.start).toNat=0 by omega]
 rfl
theorem acNew_ok{t:Tm}(h:repErr t [] t.start=0):AcOk (acNew t):=
 ⟨walkR_new h,rfl,by simp [acNew],by simp [acNew],by simp [acNew]⟩
theorem AcAt.new{w W8 W9:World}{t:Tm}{B bl bb n:Nat}{vt vtl vb vr vo:Value}{P:List SV}{W7:World}(hok:AcOk (acNew t))(hN:t.trs.length=n)(hrow:W7.ownsRow 0 83 2 vt n (t.trs.flatMap Tn.cells))(hdl:DL W7 bl t vtl [] (.slice none 0 0))(hbk:BookAt W7 bb (.slice none 0 0) [])
  (hres:WalkRes W7 n (st0 t) vb vr vo P W8) (hB9:W9.heap[B]?=some (.cells #[.int .i64 t.limit,vt,.int .i64 t.cyc,.int .i64 t.due,.int .i64 t.minFixed,.int .i64 t.minPart,.int .i64 t.start,.int .i64 t.start,.int .i64 0,(.pointer (some ⟨bl,0,none⟩)),(.pointer (some ⟨bb,0,none⟩)),vb,.int .i64 (st0 t).p.cr,.int .i64 (st0 t).p.du,vr,vo,.slice none 0 0,.slice none 0 0] 89 (0,0))) (k9:Keeps (fun i=>i=B) W8 W9)
  (hBl:B<W7.heap.size) (h1:∀b,vt.ownBlock=some b→b<B) (h2:bl<B) (h3:∀b,vtl.ownBlock=some b→b<B) (h4:bb<B) (hk:Keeps (fun _=>False) w W7) (hw:∀b,b=B∨vt.ownBlock=some b∨b=bl∨vtl.ownBlock=some b∨b=bb→w.heap.size≤b):
  ∃x,AcAt W9 B x (acNew t)∧Keeps (fun _=>False) w W9∧(∀b,AcF B x b∨x.rd b→w.heap.size≤b):=by
 have hkk:Keeps (fun i=>i=B) W7 W9:=(hres.kp.mono (by simp)).trans (k9.mono fun i _ e=> .inl e)
 have hf:∀b,vb.ownBlock=some b∨vr.ownBlock=some b∨vo.ownBlock=some b∨(∃y∈P,y.v.ownBlock=some b)→W7.heap.size≤b:=by
  rintro b (hb|hb|hb|⟨y,hy,hb⟩)
  ·exact hres.wb b hb
  ·exact hres.wr b hb
  ·exact hres.wo b hb
  ·exact hres.wl y hy b hb
 have hsz:=hk.size
 refine⟨⟨vt,.slice none 0 0,vtl,.slice none 0 0,vb,vr,vo,.slice none 0 0,.slice none 0 0,bl,bb,P, []⟩,⟨hB9,by rw [show(acNew t).t.trs.length=n from hN];exact hkk.row hrow fun b hb e=>by have:=h1 b hb;have e':b=B:=e;omega,
  hdl.keepS hkk (fun e=>by have e':bl=B:=e;omega) (fun b hb e=>by have:=h3 b hb;have e':b=B:=e;omega) (by simp [Value.ownBlock]),hbk.keeps hkk (fun b hb e=>by
   have e':b=B:=e
   rcases hb with hb|hb
   ·have hb':b=bb:=hb;omega
   ·simp [Value.ownBlock] at hb),
  by rw [show(acNew t).s.p.bal.length=n from hres.nb];exact k9.row hres.bal fun b hb e=>by have:=hres.wb b hb;have e':b=B:=e;omega,
  by rw [show(acNew t).s.R.length=n from hres.nr];exact k9.row hres.rts fun b hb e=>by have:=hres.wr b hb;have e':b=B:=e;omega,
  k9.row hres.out fun b hb e=>by have:=hres.wo b hb;have e':b=B:=e;omega,
  fun y hy=>k9.row (hres.ln y hy) fun b hb e=>by have:=hres.wl y hy b hb;have e':b=B:=e;omega,
  hres.lp,World.ownsRow_nil _ _ _ _,by simp,rfl,World.ownsRow_nil _ _ _ _,hok, ?_,by simp [Value.ownBlock],by simp [Value.ownBlock]⟩,(hk.nt hres.kp).trans (k9.mono fun i _ e=> .inr (by have e':i=B:=e;have:=hw B (.inl rfl);omega)), ?_⟩
 ·intro b hb hF
  have hbB:b=B:=by
   rcases hF with hF|hF|hF
   ·exact hF
   ·simp [Value.ownBlock] at hF
   ·simp [Value.ownBlock] at hF
  subst hbB
  rcases hb with hb|hb|hb|hb|hb|hb|hb|hb|hb|⟨y,hy,hb⟩
  ·have:=h1 b hb;omega
  ·have:=hf b (.inl hb);omega
  ·have:=hf b (.inr (.inl hb));omega
  ·have:=hf b (.inr (.inr (.inl hb)));omega
  ·have hb':b=bl:=hb;omega
  ·have:=h3 b hb;omega
  ·simp [Value.ownBlock] at hb
  ·rcases hb with hb|hb
   ·have hb':b=bb:=hb;omega
   ·simp [Value.ownBlock] at hb
  ·have:=hf b (.inr (.inr (.inr hb)));omega
  ·simp at hy
 ·rintro b ((hb|hb|hb)|hb|hb|hb|hb|hb|hb|hb|hb|hb|⟨y,hy,hb⟩)
  ·exact hw b (.inl hb)
  ·simp [Value.ownBlock] at hb
  ·simp [Value.ownBlock] at hb
  ·exact hw b (.inr (.inl hb))
  ·have:=hf b (.inl hb);omega
  ·have:=hf b (.inr (.inl hb));omega
  ·have:=hf b (.inr (.inr (.inl hb)));omega
  ·exact hw b (.inr (.inr (.inl hb)))
  ·exact hw b (.inr (.inr (.inr (.inl hb))))
  ·simp [Value.ownBlock] at hb
  ·rcases hb with hb|hb
   ·exact hw b (.inr (.inr (.inr (.inr hb))))
   ·simp [Value.ownBlock] at hb
  ·have:=hf b (.inr (.inr (.inr hb)));omega
  ·simp at hy
set_option maxHeartbeats 3200000
theorem accNew_ok(t:Tm)(v:Value)(w:World)(hr:Reads w 2 v t.trs.length (t.trs.flatMap Tn.cells))(hre:repErr t [] t.start=0):
  Calls Tryz.prog 12 #[.agg #[.int .i64 t.limit,v,.int .i64 t.cyc,.int .i64 t.due,.int .i64 t.minFixed,.int .i64 t.minPart,.int .i64 t.start]] w (NewAc t w):=by
 have hok:=Ct hre
 obtain⟨⟨l0,l1⟩,_,_,_,_,_,hst1,hst2⟩:=tm_nums hok.tm
 have hnew:=acNew_ok hre
 have hwk:=walkR_new hre
 obtain⟨n,hN⟩:∃n,t.trs.length=n:=⟨_,rfl⟩
 rw [hN] at l0 l1
 obtain⟨ad,c,hv,_,_⟩:=id hr
 have hri:=fun W (hW:Keeps (fun _=>False) w W)=>tmRight_any t ad c W (by rw [←hv];exact hr.keeps hW (by simp)) (by omega)
 simp only [Tm.val] at hri
 rw [hok.tm] at hri
 rw [hv] at hr⊢
 rw [hN] at hr hri hv⊢
 have hcl:=fun W (hW:Keeps (fun _=>False) w W)=>cloneTr_any W (.slice ad n c) n _ (hr.keeps hW (by simp)) (fun u hu=>Tn.one _ u hu) (by omega)
 obtain⟨W0,hW0⟩:∃x,x=w.alloc (.cells #[.int .i64 t.limit,.slice ad n c,.int .i64 t.cyc,.int .i64 t.due,.int .i64 t.minFixed,.int .i64 t.minPart,.int .i64 t.start] 29):=⟨_,rfl⟩
 have hb0:W0.heap[w.heap.size]?=some (.cells #[.int .i64 t.limit,.slice ad n c,.int .i64 t.cyc,.int .i64 t.due,.int .i64 t.minFixed,.int .i64 t.minPart,.int .i64 t.start] 29 (0,0)):=by rw [hW0];exact heap_alloc_new w _
 have hk0:Keeps (fun _=>False) w W0:=by rw [hW0];exact Keeps.alloc _ _
 obtain⟨Hr,Hv,Hri,HN,Hb0,Hk0,Hok,Hnew,Hwk⟩:=hid9 hr hv hri hN hb0 hk0 hok hnew hwk;clear hwk hnew hok hk0 hb0 hN hri hv hr;obtain⟨Hcl,Hre⟩:=hid2 hcl hre;clear hre hcl
 go_enter Tryz.func12,Tryz.ntmps12
 go_wp2_with fail
 rw [←hW0]
 clear hW0
 refine(Hri.out _ Hk0.out).mono ?_
 rintro e w1 ⟨rfl,hk1⟩
 have hb1:=Ad Hb0.out hk1 (by simp)
 have hk01:=Hk0.out.nt hk1
 have p1:=Aa hb1 1
 have f1:=Ab hb1 1
 have pl:=lt_of_block hb1
 obtain⟨Hk1,Hb1,Hk01⟩:=hid3 hk1 hb1 hk01;clear hk01 hb1 hk1
 go_wp2_with fail
 refine(Hcl.out _ Hk01.out).mono ?_
 rintro e w2 ⟨vt,rfl,hrow2,hk2,hnew2⟩
 obtain⟨gt,ct,rfl⟩:=Df hrow2 l0
 have hb2:=Ad Hb1.out hk2 (by simp)
 clear p1 f1 pl
 have p1:=Aa hb2 1
 have f1:=Ab hb2 1
 have pl:=lt_of_block hb2
 have k3:Keeps (fun i=>i=w.heap.size) w2 (w2.setCell ⟨w.heap.size,1,none⟩ (.slice (some ⟨gt,0,none⟩) n ct)):=Keeps.setCell _ _ _ rfl
 have hb3:=(heap_setCell_same _ _ 1 _ _ (.slice (some ⟨gt,0,none⟩) n ct) hb2).trans rfl
 have hgt:w.heap.size<gt:=by have h1:=hnew2 gt rfl;have h2:=lt_of_block Hb1.out;omega
 have hrow3:=k3.row hrow2 (fun b hb e=>by have e':b=w.heap.size:=e;simp only [Value.ownBlock,Option.some.injEq] at hb;omega)
 have hk03:Keeps (fun _=>False) w (w2.setCell ⟨w.heap.size,1,none⟩ (.slice (some ⟨gt,0,none⟩) n ct)):=(Hk01.out.nt hk2).trans (k3.mono fun i _ e=> .inr (by have e':i=w.heap.size:=e;omega))
 obtain⟨W3,hW3⟩:∃x,x=w2.setCell ⟨w.heap.size,1,none⟩ (.slice (some ⟨gt,0,none⟩) n ct):=⟨_,rfl⟩
 rw [←hW3] at hb3 hrow3 hk03
 clear k3 hnew2
 obtain⟨Hrow2,Hk2,Hb2,Hb3,Hrow3,Hk03⟩:=hid6 hrow2 hk2 hb2 hb3 hrow3 hk03;clear hk03 hrow3 hb3 hb2 hk2 hrow2
 go_upto_region 5 with fail
 rw [←hW3]
 clear hW3 p1 f1 pl
 have hS3:tbS w.heap.size t (.slice (some ⟨gt,0,none⟩) n ct) W3:=tbS.of Hb3.out
 have hdn:=fun W (hW:Keeps (fun _=>False) W3 W)=>datNew_any t (.slice (some ⟨gt,0,none⟩) n ct) W (by rw [HN.out];exact(Reads.Bh Hrow3.out).keeps hW (by simp)) (by rw [HN.out];omega)
 simp only [Tm.val] at hdn
 obtain⟨HS3,Hdn⟩:=hid2 hS3 hdn;clear hdn hS3
 refine Ao (tbS w.heap.size t (.slice (some ⟨gt,0,none⟩) n ct)) (.take 0 (.take 1 (.take 2 (.take 3 (.move 4 (.move 5 (.take 6 (.move 7 (.take 8 .done))))))))) (by kernel_rfl) (by kernel_rfl) ?_ ?_
 ·exact HS3.out.keep (Keeps.drew _)
 intro w4 hs4 hk4
 repeat ((first|refine Ai rfl (by rfl) ?_|refine Af rfl (by rfl) ?_|(refine Ah (v:= ?_) rfl (by rfl) ?_ ?_;rotate_left;(· intro w' hSw;unfold tbS at hSw;go_simp;(try with_reducible rfl));rotate_right));try simp only [aps])
 refine Ak rfl (fun K hK=> ?_)
 go_simp
 go_at_call 35
 ((with_reducible refine(Hdn.out w4 hk4).mono ?_);rintro e w5 hd5)
 obtain⟨bl,vtl,rfl,hdl5,hk5,hbl5,hvtl5⟩:=hd5
 dsimp only
 refine hK.out _ _ (by exact hs4.keep hk5) ?_
 clear hK K
 try simp only [aps]
 have hs5:=hs4.keep hk5
 have hk35:=Keeps.nt hk4 hk5
 have hl4:=hk4.size
 have hl5:=hk5.size
 clear hs4 hk4
 repeat ((first|refine Ai rfl (by rfl) ?_|refine Af rfl (by rfl) ?_|(refine Ah (v:= ?_) rfl (by rfl) ?_ ?_;rotate_left;(· intro w' hSw;unfold tbS at hSw;go_simp;(try with_reducible rfl));rotate_right));try simp only [aps])
 refine Ak rfl (fun K hK=> ?_)
 go_simp
 go_at_call 36
 ((with_reducible refine(dispNew_any w5).mono ?_);rintro e w6 ⟨rfl,hbk6,hk6⟩;dsimp only)
 refine hK.out _ _ (by exact hs5.keep hk6) ?_
 clear hK K
 try simp only [aps]
 have hs6:=hs5.keep hk6
 have hk36:=Keeps.nt hk35 hk6
 have hl6:=hk6.size
 have hbkl:=lt_of_block hbk6.blk
 have hdl6:=hdl5.keep hk6
 obtain⟨bb,hbb⟩:∃x,x=w5.heap.size:=⟨_,rfl⟩
 rw [←hbb] at hbk6 hbkl⊢
 obtain⟨W7,hW7⟩:∃x,x=w6.alloc (.cells #[.int .i64 t.limit,.slice (some ⟨gt,0,none⟩) n ct,.int .i64 t.cyc,.int .i64 t.due,.int .i64 t.minFixed,.int .i64 t.minPart,.int .i64 t.start,.int .i64 t.start,.int .i64 0,(.pointer (some ⟨bl,0,none⟩)),(.pointer (some ⟨bb,0,none⟩)),.slice none 0 0,.int .i64 0,.int .i64 0,.slice none 0 0,.slice none 0 0,.slice none 0 0,.slice none 0 0] 89):=⟨_,rfl⟩
 obtain⟨B,hB⟩:∃x,x=w6.heap.size:=⟨_,rfl⟩
 have hk7:Keeps (fun _=>False) w6 W7:=by rw [hW7];exact Keeps.alloc _ _
 have hB7:W7.heap[B]?=some (.cells #[.int .i64 t.limit,.slice (some ⟨gt,0,none⟩) n ct,.int .i64 t.cyc,.int .i64 t.due,.int .i64 t.minFixed,.int .i64 t.minPart,.int .i64 t.start,.int .i64 t.start,.int .i64 0,(.pointer (some ⟨bl,0,none⟩)),(.pointer (some ⟨bb,0,none⟩)),.slice none 0 0,.int .i64 0,.int .i64 0,.slice none 0 0,.slice none 0 0,.slice none 0 0,.slice none 0 0] 89 (0,0)):=by rw [hW7,hB];exact heap_alloc_new _ _
 have hs7:=hs6.keep hk7
 have hdl7:=hdl6.keep hk7
 have hbk7:=hbk6.keeps hk7 (by simp)
 have hk37:=Keeps.nt hk36 hk7
 have hk07:=Hk03.out.nt hk37
 have hrow7:=hk37.row Hrow3.out (by simp)
 have hbbl:W3.heap.size≤bb:=by rw [hbb];have:=hk35.size;exact this
 have hbbB:bb<B:=by rw [hB];exact hbkl
 have hblB:bl<B:=by have:=lt_of_block hdl6.blk;omega
 have hvtlB:∀b,vtl.ownBlock=some b→b<B:=fun b hb=>by have:=own_ltA hdl6.trs hb;omega
 have hgtB:gt<B:=by have:=own_ltA (hk36.row Hrow3.out (by simp)) (show(Value.slice (some ⟨gt,0,none⟩) n ct).ownBlock=some gt from rfl);omega
 have hwB:w.heap.size≤B:=by have:=Hk03.out.size;have:=hk36.size;omega
 have hB7l:B+1=W7.heap.size:=by rw [hW7,hB];simp
 have hrun:=fun W (hW:Keeps (fun _=>False) W7 W)=>repRun_any t (some ⟨gt,0,none⟩) ct n [] none 0 0 t.start W HN.out ((Reads.Bh hrow7).keeps hW (by simp)) rfl (Reads.nil W 5) (by omega) (by omega)
 rw [Hwk.out] at hrun
 clear hs5 hk35 hk6 hs6 hk36 hbk6 hdl6 hdl5 hk5 hk7
 have Hs7:=Lib.hid hs7
 clear hs7
 obtain⟨Hdl7,Hbk7,Hk37,Hk07,Hrow7,HvtlB,Hvtl5,HB7l,Hrun⟩:=hid9 hdl7 hbk7 hk37 hk07 hrow7 hvtlB hvtl5 hB7l hrun;clear hrun hB7l hvtl5 hvtlB hrow7 hk07 hk37 hbk7 hdl7;obtain⟨HB7,Hbl5,Hbb⟩:=hid3 hB7 hbl5 hbb;clear hbb hbl5 hB7
 repeat ((first|refine Ai rfl (by rfl) ?_|refine Af rfl (by rfl) ?_|(refine Ah (v:= ?_) rfl (by rfl) ?_ ?_;rotate_left;(· intro w' hSw;unfold tbS at hSw;go_simp;(try with_reducible rfl));rotate_right));try simp only [aps])
 refine Ak rfl (fun K hK=> ?_)
 go_simp
 rw [←hW7,←hB]
 clear hW7 hB
 refine hK.out _ _ (by exact Hs7.out) ?_
 clear hK K
 try simp only [aps]
 repeat ((first|refine Ai rfl (by rfl) ?_|refine Af rfl (by rfl) ?_|(refine Ah (v:= ?_) rfl (by rfl) ?_ ?_;rotate_left;(· intro w' hSw;unfold tbS at hSw;go_simp;(try with_reducible rfl));rotate_right));try simp only [aps])
 refine Aw ?_
 obtain⟨t0,t1,t2,t3,t4,t5,t6⟩:=Hs7.out
 have tl:=Ag t0
 go_wp2_with fail
 refine(Hrun.out _ (Keeps.refl _ _)).mono ?_
 rintro e w8 (⟨hz,vb,vr,vo,P,rfl,hres⟩|⟨hz,_⟩)
 ·obtain⟨ab,cb,rfl,_,_⟩:=Aj hres.bal
  obtain⟨ar,cr,rfl,_,_⟩:=Aj hres.rts
  obtain⟨ao,co,rfl,_,_⟩:=Aj hres.out
  have hB8:=Ad HB7.out hres.kp (by simp)
  have b11:=Aa hB8 11
  have b12:=Aa hB8 12
  have b13:=Aa hB8 13
  have b14:=Aa hB8 14
  have b15:=Aa hB8 15
  have f11:=Ab hB8 11
  have f12:=Ab hB8 12
  have f13:=Ab hB8 13
  have f14:=Ab hB8 14
  have f15:=Ab hB8 15
  have bbl:=lt_of_block hB8
  clear t0 t1 t2 t3 t4 t5 t6 tl
  obtain⟨W9,hW9⟩:∃x,x=((((w8.setCell ⟨B,11,none⟩ (.slice ab n cb)).setCell ⟨B,12,none⟩ (.int .i64 (st0 t).p.cr)).setCell ⟨B,13,none⟩ (.int .i64 (st0 t).p.du)).setCell ⟨B,14,none⟩ (.slice ar n cr)).setCell ⟨B,15,none⟩ (.slice ao P.length co):=⟨_,rfl⟩
  have h1:=heap_setCell_same _ _ 11 _ _ (.slice ab n cb) hB8
  have h2:=heap_setCell_same _ _ 12 _ _ (.int .i64 (st0 t).p.cr) h1
  have h3:=heap_setCell_same _ _ 13 _ _ (.int .i64 (st0 t).p.du) h2
  have h4:=heap_setCell_same _ _ 14 _ _ (.slice ar n cr) h3
  have h5:=(heap_setCell_same _ _ 15 _ _ (.slice ao P.length co) h4).trans rfl
  have k9:Keeps (fun i=>i=B) w8 W9:=by
   rw [hW9]
   exact(((((Keeps.refl _ w8).setB _ _).setB _ _).setB _ _).setB _ _).setB _ _
  rw [←hW9] at h5
  clear h1 h2 h3 h4
  have hend:=AcAt.new (w:=w) Hnew.out HN.out Hrow7.out Hdl7.out Hbk7.out hres h5 k9 (by have:=HB7l.out;omega) (by simp [Value.ownBlock];exact hgtB) hblB HvtlB.out hbbB Hk07.out (by
   have:=Hk03.out.size
   rintro b (hb|hb|hb|hb|hb)
   ·omega
   ·simp only [Value.ownBlock,Option.some.injEq] at hb;omega
   ·have:=Hbl5.out;omega
   ·have:=Hvtl5.out b hb;omega
   ·omega)
  obtain⟨Hend,Hres,HB8,H5,K9⟩:=hid5 hend hres hB8 h5 k9;clear k9 h5 hB8 hres hend
  go_wp2_with fail
  rw [←hW9]
  go_ret2
  obtain⟨x,h1,h2,h3⟩:=Hend.out
  exact⟨B,x,rfl,h1,h2,h3⟩
 ·exact absurd rfl hz
inductive RunIs (w0:World) (m:Nat) (Z:St×Int) (W:World):Value→Int→Int→Value→Value→Int→Prop
 |ok {vb vr vo:Value} {P:List SV}:Z.2=0→WalkRes w0 m Z.1 vb vr vo P W→RunIs w0 m Z W vb Z.1.p.cr Z.1.p.du vr vo 0
 |bad:¬Z.2=0→RunIs w0 m Z W (.slice none 0 0) 0 0 (.slice none 0 0) (.slice none 0 0) Z.2
theorem run_is{m:Nat}{Z:St×Int}{w W:World}{e:Ending}(h:WalkPost w m Z e W):∃vb cr du vr vo z,e= .returned (.tuple #[.agg #[vb,.int .i64 cr,.int .i64 du],vr,vo,.int .i64 z])∧RunIs w m Z W vb cr du vr vo z∧Keeps (fun _=>False) w W∧∃a n c,vb= .slice a n c:=by
 rcases h with⟨hz,vb,vr,vo,P,rfl,hres⟩|⟨hz,rfl,hk⟩
 ·obtain⟨a,c,h,_⟩:=Aj hres.bal
  exact⟨_,_,_,_,_,_,rfl,.ok hz hres,hres.kp,a,_,c,h⟩
 ·exact⟨_,_,_,_,_,_,rfl,.bad hz,hk,none,0,0,rfl⟩
theorem RunIs.keep{w0:World}{m:Nat}{Z:St×Int}{W W':World}{vb vr vo:Value}{cr du z:Int}(h:RunIs w0 m Z W vb cr du vr vo z)(hk:Keeps (fun _=>False) W W'):RunIs w0 m Z W' vb cr du vr vo z:=by
 cases h with
 |ok e g=>exact .ok e ⟨g.bal.of_keeps hk,g.rts.of_keeps hk,g.out.of_keeps hk,fun x hx=>(g.ln x hx).of_keeps hk,g.lp,g.nb,g.nr,g.wb,g.wr,g.wo,g.wl,g.kp.nt hk⟩
 |bad e=>exact .bad e
theorem RunIs.lift{w w2:World}{m b:Nat}{Z:St×Int}{W W':World}{vb vr vo:Value}{cr du z:Int}(h:RunIs w2 m Z W vb cr du vr vo z)(hk:Keeps (fun i=>i=b) W W')(hb:b<w2.heap.size)(hkw:Keeps (fun _=>False) w w2)(hwb:w.heap.size≤b):RunIs w m Z W' vb cr du vr vo z:=by
 cases h with
 |ok e g=>exact .ok e (g.lift hk hb hkw hwb)
 |bad e=>exact .bad e
theorem AcAt.build{w W:World}{B:Nat}{x x':AcV}{a a':Ac}(h:AcAt w B x a)(M:Nat)(hM:w.heap.size≤M)(hk:Keeps (AcF B x) w W)(hvt:x'.vt=x.vt)(ht:a'.t=a.t)
  (blk:W.heap[B]?=some (.cells (x'.blk a') 89 (0,0))) (dl:DL W x'.bl a.t x'.vtl a'.L x'.vl) (bk:BookAt W x'.bb x'.vb a'.D)
  (bal:W.ownsRow 0 2 1 x'.vp a'.s.p.bal.length (a'.s.p.bal.flatMap i64c)) (rts:W.ownsRow 0 2 1 x'.vr a'.s.R.length (a'.s.R.flatMap i64c))
  (now:W.ownsRow 0 42 9 x'.vn x'.P.length (x'.P.flatMap SV.cells)) (nln:∀y∈x'.P,W.ownsRow 0 102 3 y.v y.s.lines.length (y.s.lines.flatMap Ln.cells)) (ns:x'.P.map SV.s=a'.s.out)
  (iss:W.ownsRow 0 42 9 x'.vi x'.I.length (x'.I.flatMap SV.cells)) (iln:∀y∈x'.I,W.ownsRow 0 102 3 y.v y.s.lines.length (y.s.lines.flatMap Ln.cells)) (is:x'.I.map SV.s=a'.iss)
  (adj:W.ownsRow 0 70 9 x'.va a'.adj.length (a'.adj.flatMap Adj.cells)) (ok:AcOk a')
  (hrd:∀b,x'.rd b→x.rd b∨(w.heap.size≤b∧b<M)) (haf:∀b,AcF B x' b→AcF B x b∨M≤b):
  AcAt W B x' a'∧(∀b,AcF B x' b→AcF B x b∨w.heap.size≤b)∧(∀b,x'.rd b→x.rd b∨w.heap.size≤b):=by
 refine⟨⟨blk, ?_,by rw [ht];exact dl,bk,bal,rts,now,nln,ns,iss,iln,is,adj,ok, ?_, ?_, ?_⟩,fun b hb=>(haf b hb).imp id fun h2=>by omega,fun b hb=>(hrd b hb).imp id fun h2=>h2.1⟩
 ·rw [hvt,ht]
  exact hk.row h.trs fun b hb=>h.sep b (.inl hb)
 ·intro b hb hF
  rcases hrd b hb with h1|⟨h1,h2⟩
  ·rcases haf b hF with h3|h3
   ·exact h.sep b h1 h3
   ·have:=h.lt b (.inr h1);omega
  ·rcases haf b hF with h3|h3
   ·have:=h.lt b (.inl h3);omega
   ·omega
 ·rintro b hb (rfl|hb2)
  ·exact Aq iss blk (by decide) hb
  ·exact rows_ne iss adj (by decide) hb hb2
 ·rintro b hb rfl
  exact Aq adj blk (by decide) hb
def AcPost(w:World)(B:Nat)(x:AcV)(a':Ac)(W:World):Prop:=∃x',AcAt W B x' a'∧Keeps (AcF B x) w W∧(∀b,AcF B x' b→AcF B x b∨w.heap.size≤b)∧(∀b,x'.rd b→x.rd b∨w.heap.size≤b)
theorem AcPost.same{w W:World}{B:Nat}{x:AcV}{a:Ac}(h:AcAt w B x a)(hk:Keeps (fun _=>False) w W):AcPost w B x a W:=⟨x,h.keep0 hk,hk.mono (by simp),fun _ hb=> .inl hb,fun _ hb=> .inl hb⟩
def BkPost(w:World)(b:Nat)(v:Value)(D:List Disp)(W:World):Prop:=∃v',BookAt W b v' D∧Keeps (Foot b v) w W∧∀k,Foot b v' k→Foot b v k∨w.heap.size≤k
def EvPost(w:World)(b:Nat)(v:Value)(D:List Disp)(x:Ev)(z:Int)(e:Ending)(w':World):Prop:=
 e= .returned (.tuple #[.agg #[.int .i64 x.kind,.int .i64 x.day,.int .i64 x.tranche,.int .i64 x.amount,.int .i64 x.ref],.int .i64 z])∧BkPost w b v D w'
theorem Bj:(Tryz.prog.info? 77).map (·.size)=some 5:=by kernel_rfl
theorem Cm(a b c d e:Int):(#[.int .i64 a,.int .i64 b,.int .i64 c,.int .i64 d,.int .i64 e]:Array Value).all (·.oneCell')=true:=by simp [Value.oneCell']
theorem BkPost.put{w w0 w1 W:World}{b R:Nat}{v v':Value}{D D':List Disp}{V:Array Value}(hb:BookAt w b v D)(hk0:Keeps (fun _=>False) w w0)(hb1:BookAt w1 b v' D')(hk1:Keeps (Foot b v) w0 w1)(hf:∀k,Foot b v' k→Foot b v k∨w0.heap.size≤k)
  (hk:Keeps (fun _=>False) w1 W) (hR:w.heap.size≤R) (hR2:R<w0.heap.size):BkPost w b v D' (W.setRow R V):=by
 have hs:=hk0.size
 refine⟨v',(hb1.keeps hk (by simp)).keeps (Ca W R V) fun k h e=> ?_,((hk0.mono (by simp)).trans ((hk1.mono fun i _ e=> .inl e).trans ((hk.mono (by simp)).trans ((Ca W R V).mono fun i _ e=> .inl (.inl (.inr ?_)))))),fun k h=>(hf k h).imp id (by omega)⟩
 ·have e':k=R:=e
  rcases hf k h with h|h
  ·have:=hb.lt k h;omega
  ·omega
 ·have e':i=R:=e
  omega
theorem Ac.de_bad{a:Ac}{c:Cmd}(h:¬dEndErr a.D c.ref=0):a.de c=dEndErr a.D c.ref∧a.dvt c=ev00:=by
 have h1:a.de c=dEndErr a.D c.ref:=by unfold Ac.de;rw [if_pos h]
 exact⟨h1,by unfold Ac.dvt;rw [h1,if_pos (.inl h)]⟩
theorem Ac.de_won{a:Ac}{c:Cmd}(h:dEndErr a.D c.ref=0)(hk:c.kind=6):a.de c=0∧a.dvt c=ev00:=by
 have h1:a.de c=0:=by unfold Ac.de;rw [if_neg (by omega),if_pos hk]
 exact⟨h1,by unfold Ac.dvt;rw [if_pos (.inr hk)]⟩
theorem Ac.de_old{a:Ac}{c:Cmd}(h:dEndErr a.D c.ref=0)(hk:c.kind=5)(ho:a.oldB (dEnded a.D c.ref true).day=true):a.de c=11∧a.dvt c=ev00:=by
 have h1:a.de c=11:=by unfold Ac.de;rw [if_neg (by omega),if_neg (by omega),hk];exact if_pos ho
 exact⟨h1,by unfold Ac.dvt;rw [h1,if_pos (.inl (by decide))]⟩
theorem Ac.de_lost{a:Ac}{c:Cmd}(h:dEndErr a.D c.ref=0)(hk:c.kind=5)(ho:a.oldB (dEnded a.D c.ref true).day=false):a.de c=0∧a.dvt c=⟨5,(dEnded a.D c.ref true).day,(dEnded a.D c.ref true).tranche,(dEnded a.D c.ref true).amount,(dEnded a.D c.ref true).ref⟩:=by
 have h1:a.de c=0:=by unfold Ac.de;rw [if_neg (by omega),if_neg (by omega),hk];exact if_neg (by rw [show((5:Int)==5)=true from rfl,ho];decide)
 exact⟨h1,by unfold Ac.dvt;rw [h1,hk];rfl⟩
set_option maxHeartbeats 1600000
theorem accEnded_any(B:Nat)(x:AcV)(a:Ac)(c:Cmd)(b:Nat)(v:Value)(w:World)(h:AcAt w B x a)(hb:BookAt w b v a.D)(hsep:∀k,Foot b v k→¬(AcF B x k∨x.rd k))(hk:c.kind=5∨c.kind=6):
  Calls Tryz.prog 64 #[(.pointer (some ⟨B,0,none⟩)),.agg #[.int .i64 c.kind,.int .i64 c.day,.int .i64 c.tranche,.int .i64 c.amount,.int .i64 c.ref],(.pointer (some ⟨b,0,none⟩))] w (EvPost w b v (dEnd a.D c.ref (c.kind==5)) (a.dvt c) (a.de c)):=by
 have hde1:= @Ac.de_bad a c
 have hde2:= @Ac.de_won a c
 have hde3:= @Ac.de_old a c
 have hde4:= @Ac.de_lost a c
 obtain⟨ki,da,tr,am,re⟩:=c
 simp only at hk hde1 hde2 hde3 hde4⊢
 obtain⟨W0,hW0⟩:∃x,x=(w.alloc (.cells #[.int .i64 ki,.int .i64 da,.int .i64 tr,.int .i64 am,.int .i64 re] 47)).alloc (.cells #[.int .i64 0,.int .i64 0,.int .i64 0,.int .i64 0,.int .i64 0] 77):=⟨_,rfl⟩
 have hc0:W0.heap[w.heap.size]?=some (.cells #[.int .i64 ki,.int .i64 da,.int .i64 tr,.int .i64 am,.int .i64 re] 47 (0,0)):=by rw [hW0];exact Au (heap_alloc_new w _) _
 have hr0:W0.heap[w.heap.size+1]?=some (.cells #[.int .i64 0,.int .i64 0,.int .i64 0,.int .i64 0,.int .i64 0] 77 (0,0)):=by rw [hW0];exact Ay _ _ (by simp)
 have hk0:Keeps (fun _=>False) w W0:=by rw [hW0];(repeat (first|exact Keeps.refl _ _|exact Keeps.alloc _ _|exact Keeps.drew _|exact Keeps.drewN _ _|refine Keeps.Ap ?_|refine Keeps.Al ?_|refine Keeps.Ae ?_))
 have hs0:w.heap.size+1<W0.heap.size:=lt_of_block hr0
 obtain⟨Hde1,Hde2,Hde3,Hde4⟩:=hid4 hde1 hde2 hde3 hde4;clear hde4 hde3 hde2 hde1
 rcases hk with rfl|rfl
 ·skip
  have hen:=fun(W:World) (hW:Keeps (fun _=>False) w W)=>dispEnd_any re true a.D v b W (hb.keeps hW (by simp))
  obtain⟨⟨dr,dt,dd,da2,ds⟩,hd⟩:∃d,dEnded a.D re true=d:=⟨_,rfl⟩
  obtain⟨z,hz⟩:∃z,dEndErr a.D re=z:=⟨_,rfl⟩
  rw [hd,hz] at hen
  simp only [Disp.val] at hen
  obtain⟨H,Hb,Hen,Hc0,Hr0,Hk0,Hd,Hz,Hsep⟩:=hid9 h hb hen hc0 hr0 hk0 hd hz hsep;clear hsep hz hd hk0 hr0 hc0 hen hb h
  go_enter Tryz.func64,Tryz.ntmps64
  go_wp2_with fail
  rw [←hW0]
  clear hW0
  refine(Hen.out W0 Hk0.out).mono ?_
  rintro e w1 ⟨rfl,v1,hb1,hk1,hf1⟩
  have hAt:=H.out.keeps (S:=Foot b v) ((Hk0.out.mono (by simp)).trans (hk1.mono fun i _ e=> .inl e)) fun k hk e=>Hsep.out k e hk
  have hRl:∀i,Foot b v i→i<w.heap.size:=Hb.out.lt
  have hc1:=Ad Hc0.out hk1 (fun e=>by have:=hRl _ e;omega)
  have hr1:=Ad Hr0.out hk1 (fun e=>by have:=hRl _ e;omega)
  have c0:=Aa hc1 0
  have cl:=lt_of_block hc1
  by_cases hz0:z=0
  ·subst hz0
   obtain⟨W2,hW2⟩:∃x,x=w1.alloc (.cells #[.int .i64 dr,.int .i64 dt,.int .i64 dd,.int .i64 da2,.int .i64 ds] 109):=⟨_,rfl⟩
   have hk2:Keeps (fun _=>False) w1 W2:=by rw [hW2];exact Keeps.alloc _ _
   have hx2:W2.heap[w1.heap.size]?=some (.cells #[.int .i64 dr,.int .i64 dt,.int .i64 dd,.int .i64 da2,.int .i64 ds] 109 (0,0)):=by rw [hW2];exact heap_alloc_new _ _
   have hol:=accOld_any B x a dd W2 (hAt.keep0 hk2)
   have d3:=Hde3.out Hz.out trivial
   have d4:=Hde4.out Hz.out trivial
   rw [Hd.out] at d3 d4
   simp only at d3 d4
   obtain⟨o,ho⟩:∃o,a.oldB dd=o:=⟨_,rfl⟩
   rw [ho] at hol d3 d4
   obtain⟨Hb1,Hk1,Hf1,HAt,Hc1,Hr1,Hk2,Hx2,Hol⟩:=hid9 hb1 hk1 hf1 hAt hc1 hr1 hk2 hx2 hol;clear hol hx2 hk2 hr1 hc1 hAt hf1 hk1 hb1;obtain⟨D3,D4,Ho⟩:=hid3 d3 d4 ho;clear ho d4 d3
   go_wp2_with fail
   rw [←hW2]
   clear hW2
   refine Hol.out.mono ?_
   rintro e w3 ⟨rfl,hk3⟩
   have hr3:=Ad (Ad Hr1.out Hk2.out (by simp)) hk3 (by simp)
   have hpo:=fun V=>BkPost.put (V:=V) Hb.out Hk0.out Hb1.out Hk1.out Hf1.out (Hk2.out.nt hk3) (R:=w.heap.size+1) (Nat.le_succ _) hs0
   have hx3:=Ad Hx2.out hk3 (by simp)
   have x0:=Aa hx3 0
   have x1:=Aa hx3 1
   have x2:=Aa hx3 2
   have x3:=Aa hx3 3
   have xl:=lt_of_block hx3
   clear hk3
   obtain⟨Hr3,Hpo,Hx3⟩:=hid3 hr3 hpo hx3;clear hx3 hpo hr3
   rcases o with _|_
   ·have hend:=D4.out rfl
    have Hend:=Lib.hid hend;clear hend
    have hsr:=setRow_heap _ (w.heap.size+1) #[.int .i64 0,.int .i64 0,.int .i64 0,.int .i64 0,.int .i64 0] #[.int .i64 5,.int .i64 dd,.int .i64 dt,.int .i64 da2,.int .i64 dr] 77 _ Hr3.out
    have sr0:=Aa hsr 0
    have sr1:=Aa hsr 1
    have sr2:=Aa hsr 2
    have sr3:=Aa hsr 3
    have sr4:=Aa hsr 4
    obtain⟨Hsr,Sr0,Sr1,Sr2,Sr3,Sr4⟩:=hid6 hsr sr0 sr1 sr2 sr3 sr4;clear sr4 sr3 sr2 sr1 sr0 hsr
    go_wp2_with (refine wpList_store_row rfl 77 (.tmp 6) (.tmp 44) rfl (w.heap.size+1) #[.int .i64 5,.int .i64 dd,.int .i64 dt,.int .i64 da2,.int .i64 dr] rfl rfl 77 #[.int .i64 0,.int .i64 0,.int .i64 0,.int .i64 0,.int .i64 0] Hr3.out Bj rfl (Cm _ _ _ _ _) ?_)
    have R0':=Sr0.out
    have R1':=Sr1.out
    have R2':=Sr2.out
    have R3':=Sr3.out
    have R4':=Sr4.out
    exact bodyPost_ret (v:= .tuple #[.agg #[.int .i64 5,.int .i64 dd,.int .i64 dt,.int .i64 da2,.int .i64 dr],.int .i64 0]) (by simp [results,Tryz.results64,go_sem,R0',R1',R2',R3',R4']) rfl ⟨by rw [Hend.out.1,Hend.out.2],Hpo.out _⟩
   ·have hend:=D3.out rfl
    have Hend:=Lib.hid hend;clear hend
    have hsr:=setRow_heap _ (w.heap.size+1) #[.int .i64 0,.int .i64 0,.int .i64 0,.int .i64 0,.int .i64 0] #[.int .i64 0,.int .i64 0,.int .i64 0,.int .i64 0,.int .i64 0] 77 _ Hr3.out
    have sr0:=Aa hsr 0
    have sr1:=Aa hsr 1
    have sr2:=Aa hsr 2
    have sr3:=Aa hsr 3
    have sr4:=Aa hsr 4
    obtain⟨Hsr,Sr0,Sr1,Sr2,Sr3,Sr4⟩:=hid6 hsr sr0 sr1 sr2 sr3 sr4;clear sr4 sr3 sr2 sr1 sr0 hsr
    go_wp2_with (refine wpList_store_row rfl 77 (.tmp 6) (.tmp 35) rfl (w.heap.size+1) #[.int .i64 0,.int .i64 0,.int .i64 0,.int .i64 0,.int .i64 0] rfl rfl 77 #[.int .i64 0,.int .i64 0,.int .i64 0,.int .i64 0,.int .i64 0] Hr3.out Bj rfl (Cm _ _ _ _ _) ?_)
    have R0':=Sr0.out
    have R1':=Sr1.out
    have R2':=Sr2.out
    have R3':=Sr3.out
    have R4':=Sr4.out
    exact bodyPost_ret (v:= .tuple #[.agg #[.int .i64 0,.int .i64 0,.int .i64 0,.int .i64 0,.int .i64 0],.int .i64 11]) (by simp [results,Tryz.results64,go_sem,R0',R1',R2',R3',R4']) rfl ⟨by rw [Hend.out.1,Hend.out.2];rfl,Hpo.out _⟩
  ·exact jZ13
 ·skip
  have hen:=fun(W:World) (hW:Keeps (fun _=>False) w W)=>dispEnd_any re false a.D v b W (hb.keeps hW (by simp))
  obtain⟨⟨dr,dt,dd,da2,ds⟩,hd⟩:∃d,dEnded a.D re false=d:=⟨_,rfl⟩
  obtain⟨z,hz⟩:∃z,dEndErr a.D re=z:=⟨_,rfl⟩
  rw [hd,hz] at hen
  simp only [Disp.val] at hen
  obtain⟨H,Hb,Hen,Hc0,Hr0,Hk0,Hd,Hz,Hsep⟩:=hid9 h hb hen hc0 hr0 hk0 hd hz hsep;clear hsep hz hd hk0 hr0 hc0 hen hb h
  go_enter Tryz.func64,Tryz.ntmps64
  go_wp2_with fail
  rw [←hW0]
  clear hW0
  refine(Hen.out W0 Hk0.out).mono ?_
  rintro e w1 ⟨rfl,v1,hb1,hk1,hf1⟩
  have hAt:=H.out.keeps (S:=Foot b v) ((Hk0.out.mono (by simp)).trans (hk1.mono fun i _ e=> .inl e)) fun k hk e=>Hsep.out k e hk
  have hRl:∀i,Foot b v i→i<w.heap.size:=Hb.out.lt
  have hc1:=Ad Hc0.out hk1 (fun e=>by have:=hRl _ e;omega)
  have hr1:=Ad Hr0.out hk1 (fun e=>by have:=hRl _ e;omega)
  have c0:=Aa hc1 0
  have cl:=lt_of_block hc1
  by_cases hz0:z=0
  ·subst hz0
   have hend:=Hde2.out Hz.out trivial
   have hr2:=Au hr1 (.cells #[.int .i64 dr,.int .i64 dt,.int .i64 dd,.int .i64 da2,.int .i64 ds] 109)
   have hpo:=fun V=>BkPost.put (V:=V) Hb.out Hk0.out hb1 hk1 hf1 (Keeps.alloc w1 (.cells #[.int .i64 dr,.int .i64 dt,.int .i64 dd,.int .i64 da2,.int .i64 ds] 109)) (R:=w.heap.size+1) (Nat.le_succ _) hs0
   clear hb1 hk1 hf1 hAt
   obtain⟨Hc1,Hr1,Hr2,Hpo,Hend⟩:=hid5 hc1 hr1 hr2 hpo hend;clear hend hpo hr2 hr1 hc1
   have hsr:=setRow_heap _ (w.heap.size+1) #[.int .i64 0,.int .i64 0,.int .i64 0,.int .i64 0,.int .i64 0] #[.int .i64 0,.int .i64 0,.int .i64 0,.int .i64 0,.int .i64 0] 77 _ Hr2.out
   have sr0:=Aa hsr 0
   have sr1:=Aa hsr 1
   have sr2:=Aa hsr 2
   have sr3:=Aa hsr 3
   have sr4:=Aa hsr 4
   obtain⟨Hsr,Sr0,Sr1,Sr2,Sr3,Sr4⟩:=hid6 hsr sr0 sr1 sr2 sr3 sr4;clear sr4 sr3 sr2 sr1 sr0 hsr
   go_wp2_with (refine wpList_store_row rfl 77 (.tmp 6) (.tmp 29) rfl (w.heap.size+1) #[.int .i64 0,.int .i64 0,.int .i64 0,.int .i64 0,.int .i64 0] rfl rfl 77 #[.int .i64 0,.int .i64 0,.int .i64 0,.int .i64 0,.int .i64 0] Hr2.out Bj rfl (Cm _ _ _ _ _) ?_)
   have R0':=Sr0.out
   have R1':=Sr1.out
   have R2':=Sr2.out
   have R3':=Sr3.out
   have R4':=Sr4.out
   exact bodyPost_ret (v:= .tuple #[.agg #[.int .i64 0,.int .i64 0,.int .i64 0,.int .i64 0,.int .i64 0],.int .i64 0]) (by simp [results,Tryz.results64,go_sem,R0',R1',R2',R3',R4']) rfl ⟨by rw [Hend.out.1,Hend.out.2];rfl,Hpo.out _⟩
  ·exact jZ13
theorem Ac.ee_no{a:Ac}{c:Cmd}{z:Int}(h:a.ee c=z)(hz:z≠0):a.evt c=ev00∧a.eD c=a.D:=
 ⟨by unfold Ac.evt;rw [h,if_pos hz],by unfold Ac.eD;rw [if_neg fun e=>hz (by rw [←h];exact e.2)]⟩
theorem Ac.ee_yes{a:Ac}{c:Cmd}(h:a.ee c=0):a.evt c=⟨if c.kind=7 then 6 else c.kind,if c.kind=3 then c.day else a.today,if c.kind=2 then 0 else c.tranche,c.amount,if c.kind=4 then Cw a.D c.tranche c.amount else 0⟩:=by
 unfold Ac.evt;rw [h,if_neg (by decide)]
theorem Ac.eD_no{a:Ac}{c:Cmd}(h:c.kind≠4):a.eD c=a.D:=by unfold Ac.eD;rw [if_neg fun e=>h e.1]
theorem Ac.eD_yes{a:Ac}{c:Cmd}(h:a.ee c=0)(hk:c.kind=4):a.eD c=dOpen a.D c.tranche a.today c.amount:=by unfold Ac.eD;rw [if_pos ⟨hk,h⟩]
theorem Ac.ee_tr{a:Ac}{c:Cmd}(h:¬c.kind=2)(ht:¬(1≤c.tranche∧c.tranche≤a.t.trs.length)):a.ee c=7:=by unfold Ac.ee;rw [if_pos ⟨h,ht⟩]
theorem Ac.ee_am{a:Ac}{c:Cmd}(ht:c.kind=2∨(1≤c.tranche∧c.tranche≤a.t.trs.length))(h:(c.kind=7∧(c.amount<0∨10000000<c.amount))∨(¬c.kind=7∧(c.amount<1∨1000000000000000<c.amount))):a.ee c=8:=by
 unfold Ac.ee;rw [if_neg fun e=>ht.elim e.1 e.2,if_pos h]
theorem Ac.ee_in{a:Ac}{c:Cmd}(ht:c.kind=2∨(1≤c.tranche∧c.tranche≤a.t.trs.length))(h:(c.kind=7∧0≤c.amount∧c.amount≤10000000)∨(¬c.kind=7∧1≤c.amount∧c.amount≤1000000000000000)):
  a.ee c=if c.kind=1 then(if a.t.limit<a.owes+c.amount then 9 else 0)
   else if c.kind=3 then(if c.day<a.t.start∨a.today<c.day then 10 else if a.oldB c.day=true then 11 else 0)
   else if c.kind=4 then(if a.s.p.bal.getD (c.tranche-1).toNat 0<c.amount then 9 else Ch a.D c.tranche c.amount) else 0:=by
 unfold Ac.ee;rw [if_neg fun e=>ht.elim e.1 e.2,if_neg (by omega)]
theorem ps_nums{p:Ps}(h:p.rightB=true):(0≤sumI p.bal∧sumI p.bal≤1000000000000000)∧(0≤p.cr∧p.cr≤1000000000000000)∧∀x∈p.bal,0≤x∧x≤1000000000000000:=by
 simp only [Ps.rightB,scanB,moneyP,Bool.and_eq_true,decide_eq_true_eq,List.all_eq_true] at h
 exact⟨h.1.2,h.2.2.2.1,h.1.1⟩
def evtS(B C:Nat)(td am:Int)(w:World):Prop:=w.cell? ⟨B,7,none⟩=some (.int .i64 td)∧w.cell? ⟨C,3,none⟩=some (.int .i64 am)
theorem evtS.keep{B C:Nat}{td am:Int}{w w':World}(h:evtS B C td am w)(hk:Keeps (fun _=>False) w w'):evtS B C td am w':=⟨(hk.cell (Ag h.1) (by simp)).trans h.1,(hk.cell (Ag h.2) (by simp)).trans h.2⟩
def drwS(B C:Nat)(vp:Value)(cr du lim am:Int)(w:World):Prop:=w.cell? ⟨B,11,none⟩=some vp∧w.cell? ⟨B,12,none⟩=some (.int .i64 cr)∧w.cell? ⟨B,13,none⟩=some (.int .i64 du)∧w.cell? ⟨B,0,none⟩=some (.int .i64 lim)∧w.cell? ⟨C,3,none⟩=some (.int .i64 am)
theorem drwS.keep{B C:Nat}{vp:Value}{cr du lim am:Int}{w w':World}(h:drwS B C vp cr du lim am w)(hk:Keeps (fun _=>False) w w'):drwS B C vp cr du lim am w':=by
 exact jZ62
def rfdS(B C:Nat)(da st td:Int)(w:World):Prop:=w.cell? ⟨C,1,none⟩=some (.int .i64 da)∧w.cell? ⟨B,6,none⟩=some (.int .i64 st)∧w.cell? ⟨B,7,none⟩=some (.int .i64 td)
theorem rfdS.keep{B C:Nat}{da st td:Int}{w w':World}(h:rfdS B C da st td w)(hk:Keeps (fun _=>False) w w'):rfdS B C da st td w':=⟨(hk.cell (Ag h.1) (by simp)).trans h.1,(hk.cell (Ag h.2.1) (by simp)).trans h.2.1,(hk.cell (Ag h.2.2) (by simp)).trans h.2.2⟩
def rfcS(C:Nat)(da:Int)(w:World):Prop:=w.cell? ⟨C,1,none⟩=some (.int .i64 da)
theorem rfcS.keepS{C:Nat}{da:Int}{w w':World}{S:Nat→Prop}(h:rfcS C da w)(hk:Keeps S w w')(hS:¬S C):rfcS C da w':=(hk.cell (Ag h) hS).trans h
def opnS(B C:Nat)(am tr td:Int)(vp:Value)(g o:Nat)(y:Int)(w:World):Prop:=w.cell? ⟨C,3,none⟩=some (.int .i64 am)∧w.cell? ⟨C,2,none⟩=some (.int .i64 tr)∧w.cell? ⟨B,7,none⟩=some (.int .i64 td)∧w.cell? ⟨B,11,none⟩=some vp∧w.cell? ⟨g,o,none⟩=some (.int .i64 y)
theorem opnS.keep{B C:Nat}{am tr td:Int}{vp:Value}{g o:Nat}{y:Int}{w w':World}(h:opnS B C am tr td vp g o y w)(hk:Keeps (fun _=>False) w w'):opnS B C am tr td vp g o y w':=by
 exact jZ62
def opcS(B C:Nat)(am tr td:Int)(w:World):Prop:=w.cell? ⟨C,3,none⟩=some (.int .i64 am)∧w.cell? ⟨C,2,none⟩=some (.int .i64 tr)∧w.cell? ⟨B,7,none⟩=some (.int .i64 td)
theorem opcS.keepS{B C:Nat}{am tr td:Int}{w w':World}{S:Nat→Prop}(h:opcS B C am tr td w)(hk:Keeps S w w')(hB:¬S B)(hC:¬S C):opcS B C am tr td w':=⟨(hk.cell (Ag h.1) hC).trans h.1,(hk.cell (Ag h.2.1) hC).trans h.2.1,(hk.cell (Ag h.2.2) hB).trans h.2.2⟩
structure EvSt(S:Nat→Prop)(w W:World)(C R E:Nat)(c:Cmd)(x:Ev):Prop where
 c:W.heap[C]?=some (.cells #[.int .i64 c.kind,.int .i64 c.day,.int .i64 c.tranche,.int .i64 c.amount,.int .i64 c.ref] 47 (0,0))
 r:W.heap[R]?=some (.cells #[.int .i64 0,.int .i64 0,.int .i64 0,.int .i64 0,.int .i64 0] 77 (0,0))
 e:W.heap[E]?=some (.cells #[.int .i64 x.kind,.int .i64 x.day,.int .i64 x.tranche,.int .i64 x.amount,.int .i64 x.ref] 77 (0,0))
 k:Keeps S w W
 lc:w.heap.size≤C
 lr:w.heap.size≤R
 le:w.heap.size≤E
 ce:¬C=E
 re:¬R=E
theorem EvSt.keep{S:Nat→Prop}{w W W':World}{C R E:Nat}{c:Cmd}{x:Ev}(h:EvSt S w W C R E c x)(hk:Keeps (fun _=>False) W W'):EvSt S w W' C R E c x:=⟨Ad h.c hk (by simp),Ad h.r hk (by simp),Ad h.e hk (by simp),h.k.trans (hk.mono (by simp)),h.lc,h.lr,h.le,h.ce,h.re⟩
theorem EvSt.keepT{T:Nat→Prop}{w W W':World}{C R E:Nat}{c:Cmd}{x:Ev}(h:EvSt (fun _=>False) w W C R E c x)(hk:Keeps T W W')(hT:∀i,T i→i<w.heap.size):EvSt T w W' C R E c x:=⟨Ad h.c hk (fun e=>by have:=hT _ e;have:=h.lc;omega),Ad h.r hk (fun e=>by have:=hT _ e;have:=h.lr;omega),Ad h.e hk (fun e=>by have:=hT _ e;have:=h.le;omega),(h.k.mono (by simp)).trans (hk.mono fun _ _ e=> .inl e),h.lc,h.lr,h.le,h.ce,h.re⟩
theorem EvSt.set{S:Nat→Prop}{w W W':World}{C R E:Nat}{c:Cmd}{x y:Ev}(h:EvSt S w W C R E c x)(j:Nat)(v:Value)(hW:W'=W.setCell ⟨E,j,none⟩ v)(hy:(#[.int .i64 x.kind,.int .i64 x.day,.int .i64 x.tranche,.int .i64 x.amount,.int .i64 x.ref]:Array Value).setIfInBounds j v= #[.int .i64 y.kind,.int .i64 y.day,.int .i64 y.tranche,.int .i64 y.amount,.int .i64 y.ref]):EvSt S w W' C R E c y:=by
 subst hW
 have hk:Keeps (fun i=>i=E) W (W.setCell ⟨E,j,none⟩ v):=(Keeps.refl _ _).setB _ _
 refine⟨Ad h.c hk h.ce,Ad h.r hk h.re, ?_,h.k.trans (hk.mono fun i _ e=> .inr (by have e':i=E:=e;have:=h.le;omega)),h.lc,h.lr,h.le,h.ce,h.re⟩
 rw [←hy];exact heap_setCell_same _ _ j _ _ v h.e
theorem EvSt.done{w W:World}{C R E b:Nat}{c:Cmd}{x:Ev}{v:Value}{D:List Disp}{V:Array Value}(h:EvSt (fun _=>False) w W C R E c x)(hb:BookAt w b v D):BkPost w b v D (W.setRow R V):=
 ⟨v,(hb.keeps h.k (by simp)).keeps (Ca W R V) fun k hk e=>by have e':k=R:=e;have:=hb.lt k hk;have:=h.lr;omega,(h.k.mono (by simp)).trans ((Ca W R V).mono fun i _ e=> .inr (by have e':i=R:=e;have:=h.lr;omega)),fun k hk=> .inl hk⟩
theorem EvSt.doneB{w W W2 W1:World}{C R E b:Nat}{c:Cmd}{x:Ev}{v v':Value}{D D':List Disp}{V:Array Value}(h1:EvSt (fun _=>False) w W1 C R E c x)(hb:BookAt w b v D)(hb2:BookAt W2 b v' D')(hk2:Keeps (Foot b v) W1 W2)(hf2:∀k,Foot b v' k→Foot b v k∨W1.heap.size≤k)(hk:Keeps (fun i=>i=E) W2 W):BkPost w b v D' (W.setRow R V):=by
 have hl:=hb.lt
 have hs:=h1.k.size
 have hE:=lt_of_block h1.e
 have hR:=lt_of_block h1.r
 have hno:∀k,Foot b v' k→¬k=E∧¬k=R:=fun k hk=>by
  rcases hf2 k hk with e|e
  ·have:=hl k e;have:=h1.le;have:=h1.lr;omega
  ·omega
 refine⟨v',(hb2.keeps hk fun k hk e=>(hno k hk).1 e).keeps (Ca W R V) fun k hk e=>(hno k hk).2 e, ?_,fun k hk=>(hf2 k hk).imp id fun e=>by omega⟩
 refine(h1.k.mono (by simp)).trans ((hk2.mono fun i _ e=> .inl e).trans ((hk.mono fun i _ e=> .inl (.inr ?_)).trans ((Ca W R V).mono fun i _ e=> .inl (.inl (.inr ?_)))))
 ·have e':i=R:=e
  have:=h1.lr
  omega
 ·have e':i=E:=e
  have:=h1.le
  omega
set_option maxHeartbeats 6400000
theorem accEvent_any(B:Nat)(x:AcV)(a:Ac)(c:Cmd)(b:Nat)(v:Value)(w:World)(h:AcAt w B x a)(hb:BookAt w b v a.D)(hsep:∀k,Foot b v k→¬(AcF B x k∨x.rd k))(hk:c.kind=1∨c.kind=2∨c.kind=3∨c.kind=4∨c.kind=7):
  Calls Tryz.prog 63 #[(.pointer (some ⟨B,0,none⟩)),.agg #[.int .i64 c.kind,.int .i64 c.day,.int .i64 c.tranche,.int .i64 c.amount,.int .i64 c.ref],(.pointer (some ⟨b,0,none⟩))] w (EvPost w b v (a.eD c) (a.evt c) (a.ee c)):=by
 have hn:=h.ok.nums
 obtain⟨ki,da,tr,am,re⟩:=c
 simp only at hk⊢
 obtain⟨td,htd⟩:∃d,a.today=d:=⟨_,rfl⟩
 obtain⟨W0,hW0⟩:∃x,x=(w.alloc (.cells #[.int .i64 ki,.int .i64 da,.int .i64 tr,.int .i64 am,.int .i64 re] 47)).alloc (.cells #[.int .i64 0,.int .i64 0,.int .i64 0,.int .i64 0,.int .i64 0] 77):=⟨_,rfl⟩
 have hc0:W0.heap[w.heap.size]?=some (.cells #[.int .i64 ki,.int .i64 da,.int .i64 tr,.int .i64 am,.int .i64 re] 47 (0,0)):=by rw [hW0];exact Au (heap_alloc_new w _) _
 have hr0:W0.heap[w.heap.size+1]?=some (.cells #[.int .i64 0,.int .i64 0,.int .i64 0,.int .i64 0,.int .i64 0] 77 (0,0)):=by rw [hW0];exact Ay _ _ (by simp)
 have hk0:Keeps (fun _=>False) w W0:=by rw [hW0];(repeat (first|exact Keeps.refl _ _|exact Keeps.alloc _ _|exact Keeps.drew _|exact Keeps.drewN _ _|refine Keeps.Ap ?_|refine Keeps.Al ?_|refine Keeps.Ae ?_))
 have hs0:w.heap.size+1<W0.heap.size:=lt_of_block hr0
 have hS0:evtS B w.heap.size td am W0.drew:=(show evtS B w.heap.size td am W0 from⟨by rw [←htd];exact Aa (h.keep0 hk0).blk 7,Aa hc0 3⟩).keep (Keeps.drew _)
 obtain⟨H,Hb,Hc0,Hr0,Hk0,HS0,Hsep,Hn,Htd⟩:=hid9 h hb hc0 hr0 hk0 hS0 hsep hn htd;clear htd hn hsep hS0 hk0 hr0 hc0 hb h;have Hk:=Lib.hid hk;clear hk
 go_enter Tryz.func63,Tryz.ntmps63
 go_wp2_with fail
 refine Be 0 rfl ?_
 go_wp2_with fail
 rw [←hW0]
 clear hW0
 refine Ao (evtS B w.heap.size td am) (.take 0 (.take 1 (.take 2 (.take 3 (.take 4 (.take 5 (.take 6 (.move 7 (.move 8 .done))))))))) (by kernel_rfl) (by kernel_rfl) ?_ ?_
 ·exact HS0.out
 intro w1 hs1 hk1
 repeat ((first|refine Ai rfl (by rfl) ?_|refine Af rfl (by rfl) ?_|(refine Ah (v:= ?_) rfl (by rfl) ?_ ?_;rotate_left;(· intro w' hSw;unfold evtS at hSw;go_simp;(try with_reducible rfl));rotate_right));try simp only [aps])
 refine Ak rfl (fun K hK=> ?_)
 go_simp
 refine hK.out _ _ (by exact hs1.keep (Keeps.alloc _ _)) ?_
 clear hK K
 try simp only [aps]
 refine Ak rfl (fun K hK=> ?_)
 go_simp
 refine hK.out _ _ (by exact hs1.keep (Keeps.alloc _ _)) ?_
 clear hK K
 try simp only [aps]
 refine Aw ?_
 obtain⟨W1,hW1⟩:∃x,x=w1.alloc (.cells #[.int .i64 0,.int .i64 td,.int .i64 0,.int .i64 am,.int .i64 0] 77):=⟨_,rfl⟩
 have hk01:Keeps (fun _=>False) W0 W1:=by rw [hW1];exact hk1.nt (Keeps.alloc _ _)
 have hst1:EvSt (fun _=>False) w W1 w.heap.size (w.heap.size+1) w1.heap.size ⟨ki,da,tr,am,re⟩ ⟨0,td,0,am,0⟩:=⟨Ad Hc0.out hk01 (by simp),Ad Hr0.out hk01 (by simp),by rw [hW1];exact heap_alloc_new _ _,Hk0.out.nt hk01,Nat.le_refl _,Nat.le_succ _,by have:=hk1.size;omega,by have:=hk1.size;omega,by have:=hk1.size;omega⟩
 obtain⟨C,hC⟩:∃x,x=w.heap.size:=⟨_,rfl⟩
 obtain⟨R,hR⟩:∃x,x=w.heap.size+1:=⟨_,rfl⟩
 obtain⟨E,hE⟩:∃x,x=w1.heap.size:=⟨_,rfl⟩
 rw [←hR,←hC,←hE] at hst1
 rw [←hW1]
 try rw [←hR]
 try rw [←hC]
 try rw [←hE]
 clear hW1 hC hR hE hs1 hk1 hs0
 clear Hc0 Hr0 Hk0 HS0
 have Hst1:=Lib.hid hst1;clear hst1
 clear hk01
 by_cases h2:ki=2
 ·subst h2
  have nce:=(Hst1.out).ce
  have nec:¬E=C:=fun e=>nce e.symm
  have c0:=Aa (Hst1.out).c 0
  have c1:=Aa (Hst1.out).c 1
  have c2:=Aa (Hst1.out).c 2
  have c3:=Aa (Hst1.out).c 3
  have cl:=lt_of_block (Hst1.out).c
  have e0:=Aa (Hst1.out).e 0
  have e1:=Aa (Hst1.out).e 1
  have e2:=Aa (Hst1.out).e 2
  have e3:=Aa (Hst1.out).e 3
  have e4:=Aa (Hst1.out).e 4
  have el:=lt_of_block (Hst1.out).e
  have f0:=Ab (Hst1.out).e 0
  have f1:=Ab (Hst1.out).e 1
  have f2:=Ab (Hst1.out).e 2
  have f4:=Ab (Hst1.out).e 4
  by_cases l1:am<1
  ·skip
   have hno:=Ac.ee_no ((Ac.ee_am (a:=a) (c:=⟨2,da,tr,am,re⟩) (.inl rfl) (.inr ⟨show¬(2:Int)=7 by decide,.inl l1⟩))) (by decide)
   have hpo:=((Hst1.out).done (D:=a.D) (V:= #[.int .i64 0,.int .i64 0,.int .i64 0,.int .i64 0,.int .i64 0]) Hb.out)
   have hee:=(Ac.ee_am (a:=a) (c:=⟨2,da,tr,am,re⟩) (.inl rfl) (.inr ⟨show¬(2:Int)=7 by decide,.inl l1⟩))
   have hR0:=(Hst1.out).r
   exact jZ3
  ·by_cases l2:1000000000000000<am
   ·skip
    have hno:=Ac.ee_no ((Ac.ee_am (a:=a) (c:=⟨2,da,tr,am,re⟩) (.inl rfl) (.inr ⟨show¬(2:Int)=7 by decide,.inr l2⟩))) (by decide)
    have hpo:=((Hst1.out).done (D:=a.D) (V:= #[.int .i64 0,.int .i64 0,.int .i64 0,.int .i64 0,.int .i64 0]) Hb.out)
    have hee:=(Ac.ee_am (a:=a) (c:=⟨2,da,tr,am,re⟩) (.inl rfl) (.inr ⟨show¬(2:Int)=7 by decide,.inr l2⟩))
    have hR0:=(Hst1.out).r
    exact jZ3
   ·have hee:a.ee ⟨2,da,tr,am,re⟩=0:=by rw [Ac.ee_in (.inl rfl) (.inr ⟨show¬(2:Int)=7 by decide,by show 1≤am;omega,by show am≤1000000000000000;omega⟩)];rfl
    have heD:=Ac.eD_no (a:=a) (c:=⟨2,da,tr,am,re⟩) (show(2:Int)≠4 by decide)
    obtain⟨Wz,hWz⟩:∃x,x=W1.setCell ⟨E,0,none⟩ (.int .i64 2):=⟨_,rfl⟩
    have hstz:=Hst1.out.set (y:=⟨2,td,0,am,0⟩) 0 (.int .i64 2) hWz rfl
    have hpo:=hstz.done (D:=a.D) (V:= #[.int .i64 2,.int .i64 td,.int .i64 0,.int .i64 am,.int .i64 0]) Hb.out
    have Hstz:=Lib.hid hstz;clear hstz
    have hev:=Ac.ee_yes hee
    have hE0:=(Hstz.out).e
    have hR0:=(Hstz.out).r
    obtain⟨Hev,HE0,HR0,Hee,Hpo,HeD⟩:=hid6 hev hE0 hR0 hee hpo heD;clear heD hpo hee hR0 hE0 hev
    go_upto_region 31 with fail
    rw [←hWz]
    clear hWz
    have hsr:=setRow_heap _ R #[.int .i64 0,.int .i64 0,.int .i64 0,.int .i64 0,.int .i64 0] #[.int .i64 2,.int .i64 td,.int .i64 0,.int .i64 am,.int .i64 0] 77 _ HR0.out
    have sr0:=Aa hsr 0
    have sr1:=Aa hsr 1
    have sr2:=Aa hsr 2
    have sr3:=Aa hsr 3
    have sr4:=Aa hsr 4
    obtain⟨Hsr,Sr0,Sr1,Sr2,Sr3,Sr4⟩:=hid6 hsr sr0 sr1 sr2 sr3 sr4;clear sr4 sr3 sr2 sr1 sr0 hsr
    go_wp2_with (first|(refine wpList_load_row rfl 77 (.tmp 8) rfl E rfl 77 #[.int .i64 2,.int .i64 td,.int .i64 0,.int .i64 am,.int .i64 0] _ _ HE0.out Tryz.underlying77 rfl Bj ?_)|(refine wpList_store_row rfl 77 (.tmp 6) (.tmp 137) rfl R #[.int .i64 2,.int .i64 td,.int .i64 0,.int .i64 am,.int .i64 0] rfl rfl 77 #[.int .i64 0,.int .i64 0,.int .i64 0,.int .i64 0,.int .i64 0] HR0.out Bj rfl (Cm _ _ _ _ _) ?_))
    have R0':=Sr0.out
    have R1':=Sr1.out
    have R2':=Sr2.out
    have R3':=Sr3.out
    have R4':=Sr4.out
    try rw [Exit.Bl]
    exact bodyPost_ret (v:= .tuple #[.agg #[.int .i64 2,.int .i64 td,.int .i64 0,.int .i64 am,.int .i64 0],.int .i64 0]) (by simp [results,Tryz.results63,go_sem,R0',R1',R2',R3',R4']) rfl ⟨by rw [Hev.out,Hee.out];simp [Htd.out],by rw [HeD.out];exact Hpo.out⟩
 ·have hne:(ki !=2)=true:=by simp [h2]
  have nce:=(Hst1.out).ce
  have nec:¬E=C:=fun e=>nce e.symm
  have c0:=Aa (Hst1.out).c 0
  have c1:=Aa (Hst1.out).c 1
  have c2:=Aa (Hst1.out).c 2
  have c3:=Aa (Hst1.out).c 3
  have cl:=lt_of_block (Hst1.out).c
  have e0:=Aa (Hst1.out).e 0
  have e1:=Aa (Hst1.out).e 1
  have e2:=Aa (Hst1.out).e 2
  have e3:=Aa (Hst1.out).e 3
  have e4:=Aa (Hst1.out).e 4
  have el:=lt_of_block (Hst1.out).e
  have f0:=Ab (Hst1.out).e 0
  have f1:=Ab (Hst1.out).e 1
  have f2:=Ab (Hst1.out).e 2
  have f4:=Ab (Hst1.out).e 4
  obtain⟨W2,hW2⟩:∃x,x=W1.setCell ⟨E,2,none⟩ (.int .i64 tr):=⟨_,rfl⟩
  have hst2:=Hst1.out.set (y:=⟨0,td,tr,am,0⟩) 2 (.int .i64 tr) hW2 rfl
  have hAt2:=H.out.keep0 hst2.k
  have htr:=accTranche_any B x a tr W2 hAt2
  by_cases h3:1≤tr∧tr≤a.t.trs.length
  ·rw [decide_eq_true h3] at htr
   obtain⟨Hst2,HAt2,Htr,H3,H2⟩:=hid5 hst2 hAt2 htr h3 h2;clear h2 h3 htr hAt2 hst2
   go_wp2_with fail
   rw [←hW2]
   clear hW2
   clear nce nec c0 c1 c2 c3 cl e0 e1 e2 e3 e4 el f0 f1 f2 f4
   refine Htr.out.mono ?_
   rintro e w' ⟨rfl,rfl⟩
   have nce:=(Hst2.out).ce
   have nec:¬E=C:=fun e=>nce e.symm
   have c0:=Aa (Hst2.out).c 0
   have c1:=Aa (Hst2.out).c 1
   have c2:=Aa (Hst2.out).c 2
   have c3:=Aa (Hst2.out).c 3
   have cl:=lt_of_block (Hst2.out).c
   have e0:=Aa (Hst2.out).e 0
   have e1:=Aa (Hst2.out).e 1
   have e2:=Aa (Hst2.out).e 2
   have e3:=Aa (Hst2.out).e 3
   have e4:=Aa (Hst2.out).e 4
   have el:=lt_of_block (Hst2.out).e
   have f0:=Ab (Hst2.out).e 0
   have f1:=Ab (Hst2.out).e 1
   have f2:=Ab (Hst2.out).e 2
   have f4:=Ab (Hst2.out).e 4
   by_cases h7:ki=7
   ·subst h7
    by_cases l1:am<0
    ·skip
     have hno:=Ac.ee_no ((Ac.ee_am (a:=a) (c:=⟨7,da,tr,am,re⟩) (.inr H3.out) (.inl ⟨rfl,.inl l1⟩))) (by decide)
     have hpo:=((Hst2.out).done (D:=a.D) (V:= #[.int .i64 0,.int .i64 0,.int .i64 0,.int .i64 0,.int .i64 0]) Hb.out)
     have hee:=(Ac.ee_am (a:=a) (c:=⟨7,da,tr,am,re⟩) (.inr H3.out) (.inl ⟨rfl,.inl l1⟩))
     have hR0:=(Hst2.out).r
     exact jZ3
    ·by_cases l2:10000000<am
     ·skip
      have hno:=Ac.ee_no ((Ac.ee_am (a:=a) (c:=⟨7,da,tr,am,re⟩) (.inr H3.out) (.inl ⟨rfl,.inr l2⟩))) (by decide)
      have hpo:=((Hst2.out).done (D:=a.D) (V:= #[.int .i64 0,.int .i64 0,.int .i64 0,.int .i64 0,.int .i64 0]) Hb.out)
      have hee:=(Ac.ee_am (a:=a) (c:=⟨7,da,tr,am,re⟩) (.inr H3.out) (.inl ⟨rfl,.inr l2⟩))
      have hR0:=(Hst2.out).r
      exact jZ3
     ·have hee:a.ee ⟨7,da,tr,am,re⟩=0:=by rw [Ac.ee_in (.inr H3.out) (.inl ⟨rfl,by show 0≤am;omega,by show am≤10000000;omega⟩)];rfl
      have heD:=Ac.eD_no (a:=a) (c:=⟨7,da,tr,am,re⟩) (show(7:Int)≠4 by decide)
      obtain⟨Wz,hWz⟩:∃x,x=W2.setCell ⟨E,0,none⟩ (.int .i64 6):=⟨_,rfl⟩
      have hstz:=Hst2.out.set (y:=⟨6,td,tr,am,0⟩) 0 (.int .i64 6) hWz rfl
      have hpo:=hstz.done (D:=a.D) (V:= #[.int .i64 6,.int .i64 td,.int .i64 tr,.int .i64 am,.int .i64 0]) Hb.out
      have Hstz:=Lib.hid hstz;clear hstz
      have hev:=Ac.ee_yes hee
      have hE0:=(Hstz.out).e
      have hR0:=(Hstz.out).r
      obtain⟨Hev,HE0,HR0,Hee,Hpo,HeD⟩:=hid6 hev hE0 hR0 hee hpo heD;clear heD hpo hee hR0 hE0 hev
      go_upto_region 31 with fail
      rw [←hWz]
      clear hWz
      have hsr:=setRow_heap _ R #[.int .i64 0,.int .i64 0,.int .i64 0,.int .i64 0,.int .i64 0] #[.int .i64 6,.int .i64 td,.int .i64 tr,.int .i64 am,.int .i64 0] 77 _ HR0.out
      have sr0:=Aa hsr 0
      have sr1:=Aa hsr 1
      have sr2:=Aa hsr 2
      have sr3:=Aa hsr 3
      have sr4:=Aa hsr 4
      obtain⟨Hsr,Sr0,Sr1,Sr2,Sr3,Sr4⟩:=hid6 hsr sr0 sr1 sr2 sr3 sr4;clear sr4 sr3 sr2 sr1 sr0 hsr
      go_wp2_with (first|(refine wpList_load_row rfl 77 (.tmp 8) rfl E rfl 77 #[.int .i64 6,.int .i64 td,.int .i64 tr,.int .i64 am,.int .i64 0] _ _ HE0.out Tryz.underlying77 rfl Bj ?_)|(refine wpList_store_row rfl 77 (.tmp 6) (.tmp 137) rfl R #[.int .i64 6,.int .i64 td,.int .i64 tr,.int .i64 am,.int .i64 0] rfl rfl 77 #[.int .i64 0,.int .i64 0,.int .i64 0,.int .i64 0,.int .i64 0] HR0.out Bj rfl (Cm _ _ _ _ _) ?_))
      have R0':=Sr0.out
      have R1':=Sr1.out
      have R2':=Sr2.out
      have R3':=Sr3.out
      have R4':=Sr4.out
      try rw [Exit.Bl]
      exact bodyPost_ret (v:= .tuple #[.agg #[.int .i64 6,.int .i64 td,.int .i64 tr,.int .i64 am,.int .i64 0],.int .i64 0]) (by simp [results,Tryz.results63,go_sem,R0',R1',R2',R3',R4']) rfl ⟨by rw [Hev.out,Hee.out];simp [Htd.out],by rw [HeD.out];exact Hpo.out⟩
   ·have k7:(ki==7)=false:=by simp [h7]
    have H7:=Lib.hid h7;clear h7
    by_cases l1:am<1
    ·skip
     have hno:=Ac.ee_no ((Ac.ee_am (a:=a) (c:=⟨ki,da,tr,am,re⟩) (.inr H3.out) (.inr ⟨H7.out,.inl l1⟩))) (by decide)
     have hpo:=((Hst2.out).done (D:=a.D) (V:= #[.int .i64 0,.int .i64 0,.int .i64 0,.int .i64 0,.int .i64 0]) Hb.out)
     have hee:=(Ac.ee_am (a:=a) (c:=⟨ki,da,tr,am,re⟩) (.inr H3.out) (.inr ⟨H7.out,.inl l1⟩))
     have hR0:=(Hst2.out).r
     exact jZ3
    ·by_cases l2:1000000000000000<am
     ·skip
      have hno:=Ac.ee_no ((Ac.ee_am (a:=a) (c:=⟨ki,da,tr,am,re⟩) (.inr H3.out) (.inr ⟨H7.out,.inr l2⟩))) (by decide)
      have hpo:=((Hst2.out).done (D:=a.D) (V:= #[.int .i64 0,.int .i64 0,.int .i64 0,.int .i64 0,.int .i64 0]) Hb.out)
      have hee:=(Ac.ee_am (a:=a) (c:=⟨ki,da,tr,am,re⟩) (.inr H3.out) (.inr ⟨H7.out,.inr l2⟩))
      have hR0:=(Hst2.out).r
      exact jZ3
     ·have hin:=Ac.ee_in (a:=a) (c:=⟨ki,da,tr,am,re⟩) (.inr H3.out) (.inr ⟨H7.out,by show 1≤am;omega,by show am≤1000000000000000;omega⟩)
      have hki:ki=1∨ki=3∨ki=4:=by have:=Hk.out;have:=H2.out;have:=H7.out;omega
      clear k7 hne
      have Hin:=Lib.hid hin;clear hin
      rcases hki with rfl|rfl|rfl
      ·have hin:=Hin.out
       rw [if_pos rfl] at hin
       obtain⟨⟨s0,s1⟩,⟨r0,r1⟩,_⟩:=ps_nums Hn.out.pr
       obtain⟨ap,cp,hvp,_,_⟩:=Aj HAt2.out.bal
       have hrd:=Reads.Bh HAt2.out.bal
       rw [hvp] at hrd
       have htot:=fun W (hW:Keeps (fun _=>False) W2 W)=>poolTotal_any a.s.p ap cp W (hrd.keeps hW (by simp)) (by have:=Hn.out.nb;have:=Hn.out.n8;omega)
       simp only [Ps.val,Hn.out.pr,if_true] at htot
       unfold Ac.owes at hin
       have hS:=(show drwS B C x.vp a.s.p.cr a.s.p.du a.t.limit am W2 from⟨Aa HAt2.out.blk 11,Aa HAt2.out.blk 12,Aa HAt2.out.blk 13,Aa HAt2.out.blk 0,c3⟩)
       have hbl:=lt_of_block HAt2.out.blk
       rw [hvp] at hS
       obtain⟨sb,hsb⟩:∃z,sumI a.s.p.bal=z:=⟨_,rfl⟩
       obtain⟨nb,hnb⟩:∃z,a.s.p.bal.length=z:=⟨_,rfl⟩
       obtain⟨cr,hcr⟩:∃z,a.s.p.cr=z:=⟨_,rfl⟩
       obtain⟨du,hdu⟩:∃z,a.s.p.du=z:=⟨_,rfl⟩
       obtain⟨lim,hlm⟩:∃z,a.t.limit=z:=⟨_,rfl⟩
       rw [hsb,hcr,hlm] at hin
       rw [hsb] at s0 s1
       rw [hcr] at r0 r1
       rw [hsb,hnb,hcr,hdu] at htot
       rw [hnb,hcr,hdu,hlm] at hS
       have q1:IntKind.i64.wrap (sb-cr)=sb-cr:=IntWalk.i64_in _ ⟨by omega,by omega⟩
       have q2:IntKind.i64.wrap (sb-cr+am)=sb-cr+am:=IntWalk.i64_in _ ⟨by omega,by omega⟩
       obtain⟨Hvp,Hrd,Htot,HS,Hsb,Hnb,Hcr,Hdu,Hlm⟩:=hid9 hvp hrd htot hS hsb hnb hcr hdu hlm;clear hlm hdu hcr hnb hsb hS htot hrd hvp
       go_upto_region 13 with fail
       by_cases hlim:lim<sb-cr+am
       ·rw [if_pos hlim] at hin
        have Hin:=Lib.hid hin;clear hin
        clear nce nec c0 c1 c2 c3 cl e0 e1 e2 e3 e4 el f0 f1 f2 f4
        refine Ao (drwS B C (.slice ap nb cp) cr du lim am) (.take 0 (.take 1 (.take 2 (.take 3 (.take 5 (.take 6 (.take 7 (.take 8 (.take 9 (.take 11 (.take 12 (.take 14 (.take 15 (.take 16 (.take 17 (.take 18 (.move 4 (.take 10 (.take 13 (.take 19 .done)))))))))))))))))))) (by kernel_rfl) (by kernel_rfl) ?_ ?_
        ·exact jZ97
        intro w3 hs3 hk3
        repeat ((first|refine Ai rfl (by rfl) ?_|refine Af rfl (by rfl) ?_|(refine Ah (v:= ?_) rfl (by rfl) ?_ ?_;rotate_left;(· intro w' hSw;unfold drwS at hSw;go_simp;(try with_reducible rfl));rotate_right));try simp only [aps])
        refine Ak rfl (fun K hK=> ?_)
        go_simp
        go_at_call 89
        ((with_reducible refine(Htot.out w3 hk3).mono ?_);rintro e w4 ⟨rfl,hk4⟩;dsimp only)
        refine hK.out _ _ (by exact hs3.keep hk4) ?_
        clear hK K
        try simp only [aps]
        repeat ((first|refine Ai rfl (by rfl) ?_|refine Af rfl (by rfl) ?_|(refine Ah (v:= ?_) rfl (by rfl) ?_ ?_;rotate_left;(· intro w' hSw;unfold drwS at hSw;go_simp;(try with_reducible rfl));rotate_right));try simp only [aps])
        refine Aw ?_
        have hst3:=Hst2.out.keep (hk3.nt hk4)
        clear hs3 hk3 hk4
        have Hst3:=Lib.hid hst3;clear hst3
        have nce:=(Hst3.out).ce
        have nec:¬E=C:=fun e=>nce e.symm
        have c0:=Aa (Hst3.out).c 0
        have c1:=Aa (Hst3.out).c 1
        have c2:=Aa (Hst3.out).c 2
        have c3:=Aa (Hst3.out).c 3
        have cl:=lt_of_block (Hst3.out).c
        have e0:=Aa (Hst3.out).e 0
        have e1:=Aa (Hst3.out).e 1
        have e2:=Aa (Hst3.out).e 2
        have e3:=Aa (Hst3.out).e 3
        have e4:=Aa (Hst3.out).e 4
        have el:=lt_of_block (Hst3.out).e
        have f0:=Ab (Hst3.out).e 0
        have f1:=Ab (Hst3.out).e 1
        have f2:=Ab (Hst3.out).e 2
        have f4:=Ab (Hst3.out).e 4
        have hno:=Ac.ee_no (Hin.out) (by decide)
        have hpo:=((Hst3.out).done (D:=a.D) (V:= #[.int .i64 0,.int .i64 0,.int .i64 0,.int .i64 0,.int .i64 0]) Hb.out)
        have hee:=Hin.out
        exact jZ18
       ·rw [if_neg hlim] at hin
        have hee:=hin
        clear hin
        have Hee:=Lib.hid hee;clear hee
        clear nce nec c0 c1 c2 c3 cl e0 e1 e2 e3 e4 el f0 f1 f2 f4
        refine Ao (drwS B C (.slice ap nb cp) cr du lim am) (.take 0 (.take 1 (.take 2 (.take 3 (.take 5 (.take 6 (.take 7 (.take 8 (.take 9 (.take 11 (.take 12 (.take 14 (.take 15 (.take 16 (.take 17 (.take 18 (.move 4 (.take 10 (.take 13 (.take 19 .done)))))))))))))))))))) (by kernel_rfl) (by kernel_rfl) ?_ ?_
        ·exact jZ97
        intro w3 hs3 hk3
        repeat ((first|refine Ai rfl (by rfl) ?_|refine Af rfl (by rfl) ?_|(refine Ah (v:= ?_) rfl (by rfl) ?_ ?_;rotate_left;(· intro w' hSw;unfold drwS at hSw;go_simp;(try with_reducible rfl));rotate_right));try simp only [aps])
        refine Ak rfl (fun K hK=> ?_)
        go_simp
        go_at_call 89
        ((with_reducible refine(Htot.out w3 hk3).mono ?_);rintro e w4 ⟨rfl,hk4⟩;dsimp only)
        refine hK.out _ _ (by exact hs3.keep hk4) ?_
        clear hK K
        try simp only [aps]
        repeat ((first|refine Ai rfl (by rfl) ?_|refine Af rfl (by rfl) ?_|(refine Ah (v:= ?_) rfl (by rfl) ?_ ?_;rotate_left;(· intro w' hSw;unfold drwS at hSw;go_simp;(try with_reducible rfl));rotate_right));try simp only [aps])
        refine Aw ?_
        have hst3:=Hst2.out.keep (hk3.nt hk4)
        clear hs3 hk3 hk4
        have Hst3:=Lib.hid hst3;clear hst3
        have nce:=(Hst3.out).ce
        have nec:¬E=C:=fun e=>nce e.symm
        have c0:=Aa (Hst3.out).c 0
        have c1:=Aa (Hst3.out).c 1
        have c2:=Aa (Hst3.out).c 2
        have c3:=Aa (Hst3.out).c 3
        have cl:=lt_of_block (Hst3.out).c
        have e0:=Aa (Hst3.out).e 0
        have e1:=Aa (Hst3.out).e 1
        have e2:=Aa (Hst3.out).e 2
        have e3:=Aa (Hst3.out).e 3
        have e4:=Aa (Hst3.out).e 4
        have el:=lt_of_block (Hst3.out).e
        have f0:=Ab (Hst3.out).e 0
        have f1:=Ab (Hst3.out).e 1
        have f2:=Ab (Hst3.out).e 2
        have f4:=Ab (Hst3.out).e 4
        have hee:=Hee.out
        have heD:=Ac.eD_no (a:=a) (c:=⟨1,da,tr,am,re⟩) (show(1:Int)≠4 by decide)
        obtain⟨Wz,hWz⟩:∃x,x=w4.setCell ⟨E,0,none⟩ (.int .i64 1):=⟨_,rfl⟩
        have hstz:=Hst3.out.set (y:=⟨1,td,tr,am,0⟩) 0 (.int .i64 1) hWz rfl
        have hpo:=hstz.done (D:=a.D) (V:= #[.int .i64 1,.int .i64 td,.int .i64 tr,.int .i64 am,.int .i64 0]) Hb.out
        have Hstz:=Lib.hid hstz;clear hstz
        have hev:=Ac.ee_yes hee
        have hE0:=(Hstz.out).e
        have hR0:=(Hstz.out).r
        obtain⟨Hev,HE0,HR0,Hee,Hpo,HeD⟩:=hid6 hev hE0 hR0 hee hpo heD;clear heD hpo hee hR0 hE0 hev
        go_upto_region 31 with fail
        rw [←hWz]
        clear hWz
        have hsr:=setRow_heap _ R #[.int .i64 0,.int .i64 0,.int .i64 0,.int .i64 0,.int .i64 0] #[.int .i64 1,.int .i64 td,.int .i64 tr,.int .i64 am,.int .i64 0] 77 _ HR0.out
        have sr0:=Aa hsr 0
        have sr1:=Aa hsr 1
        have sr2:=Aa hsr 2
        have sr3:=Aa hsr 3
        have sr4:=Aa hsr 4
        obtain⟨Hsr,Sr0,Sr1,Sr2,Sr3,Sr4⟩:=hid6 hsr sr0 sr1 sr2 sr3 sr4;clear sr4 sr3 sr2 sr1 sr0 hsr
        go_wp2_with (first|(refine wpList_load_row rfl 77 (.tmp 8) rfl E rfl 77 #[.int .i64 1,.int .i64 td,.int .i64 tr,.int .i64 am,.int .i64 0] _ _ HE0.out Tryz.underlying77 rfl Bj ?_)|(refine wpList_store_row rfl 77 (.tmp 6) (.tmp 137) rfl R #[.int .i64 1,.int .i64 td,.int .i64 tr,.int .i64 am,.int .i64 0] rfl rfl 77 #[.int .i64 0,.int .i64 0,.int .i64 0,.int .i64 0,.int .i64 0] HR0.out Bj rfl (Cm _ _ _ _ _) ?_))
        have R0':=Sr0.out
        have R1':=Sr1.out
        have R2':=Sr2.out
        have R3':=Sr3.out
        have R4':=Sr4.out
        try rw [Exit.Bl]
        exact bodyPost_ret (v:= .tuple #[.agg #[.int .i64 1,.int .i64 td,.int .i64 tr,.int .i64 am,.int .i64 0],.int .i64 0]) (by simp [results,Tryz.results63,go_sem,R0',R1',R2',R3',R4']) rfl ⟨by rw [Hev.out,Hee.out];simp [Htd.out],by rw [HeD.out];exact Hpo.out⟩
      ·have hin:=Hin.out
       rw [if_neg (show¬(3:Int)=1 by decide),if_pos rfl] at hin
       obtain⟨st,hst⟩:∃z,a.t.start=z:=⟨_,rfl⟩
       have hS:=(show rfdS B C da a.t.start a.today W2 from⟨c1,Aa HAt2.out.blk 6,Aa HAt2.out.blk 7⟩)
       have hbl:=lt_of_block HAt2.out.blk
       rw [hst,Htd.out] at hS hin
       obtain⟨Hst,HS⟩:=hid2 hst hS;clear hS hst
       go_upto_region 19 with fail
       clear nce nec c0 c1 c2 c3 cl e0 e1 e2 e3 e4 el f0 f1 f2 f4
       by_cases d1:da<st
       ·have d1':decide (da<st)=true:=by simp [d1]
        rw [if_pos (.inl d1)] at hin
        exact jZ10
       ·have d1':decide (da<st)=false:=by simp [d1]
        by_cases d2:td<da
        ·have d2':decide (td<da)=true:=by simp [d2]
         rw [if_pos (.inr d2)] at hin
         exact jZ10
        ·have d2':decide (td<da)=false:=by simp [d2]
         rw [if_neg fun e=>e.elim d1 d2] at hin
         have Hin2:=Lib.hid hin;clear hin
         refine Ao (rfdS B C da st td) (.take 0 (.take 1 (.take 2 (.take 3 (.take 4 (.take 5 (.take 6 (.take 7 (.take 8 (.take 9 (.take 10 (.take 11 (.take 12 (.take 13 (.take 14 (.take 15 (.take 16 .done))))))))))))))))) (by kernel_rfl) (by kernel_rfl) ?_ ?_
         ·exact jZ97
         intro w3 hs3 hk3
         repeat ((first|refine Ai rfl (by rfl) ?_|refine Af rfl (by rfl) ?_|(refine Ah (v:= ?_) rfl (by rfl) ?_ ?_;rotate_left;(· intro w' hSw;unfold rfdS at hSw;go_simp;(try with_reducible rfl));rotate_right));try simp only [aps])
         refine Aw ?_
         have hst3:=Hst2.out.keep hk3
         clear hs3
         have Hst3:=Lib.hid hst3;clear hst3
         have nce:=(Hst3.out).ce
         have nec:¬E=C:=fun e=>nce e.symm
         have c0:=Aa (Hst3.out).c 0
         have c1:=Aa (Hst3.out).c 1
         have c2:=Aa (Hst3.out).c 2
         have c3:=Aa (Hst3.out).c 3
         have cl:=lt_of_block (Hst3.out).c
         have e0:=Aa (Hst3.out).e 0
         have e1:=Aa (Hst3.out).e 1
         have e2:=Aa (Hst3.out).e 2
         have e3:=Aa (Hst3.out).e 3
         have e4:=Aa (Hst3.out).e 4
         have el:=lt_of_block (Hst3.out).e
         have f0:=Ab (Hst3.out).e 0
         have f1:=Ab (Hst3.out).e 1
         have f2:=Ab (Hst3.out).e 2
         have f4:=Ab (Hst3.out).e 4
         have hAt3:=HAt2.out.keep0 hk3
         have hol:=accOld_any B x a da w3 hAt3
         obtain⟨o,ho⟩:∃o,a.oldB da=o:=⟨_,rfl⟩
         rw [ho] at hol
         obtain⟨HAt3,Hol,Ho⟩:=hid3 hAt3 hol ho;clear ho hol hAt3
         clear d1' d2'
         go_wp2_with fail
         refine Hol.out.mono ?_
         rintro e w4 ⟨rfl,hk4⟩
         clear nce nec c0 c1 c2 c3 cl e0 e1 e2 e3 e4 el f0 f1 f2 f4
         have hst4:=Hst3.out.keep hk4
         clear hk4
         have Hst4:=Lib.hid hst4;clear hst4
         have hin3:a.ee ⟨3,da,tr,am,re⟩=if o=true then 11 else 0:=by rw [Hin2.out];show(if a.oldB da=true then(11:Int) else 0)=_;rw [Ho.out]
         have nce:=(Hst4.out).ce
         have nec:¬E=C:=fun e=>nce e.symm
         have c0:=Aa (Hst4.out).c 0
         have c1:=Aa (Hst4.out).c 1
         have c2:=Aa (Hst4.out).c 2
         have c3:=Aa (Hst4.out).c 3
         have cl:=lt_of_block (Hst4.out).c
         have e0:=Aa (Hst4.out).e 0
         have e1:=Aa (Hst4.out).e 1
         have e2:=Aa (Hst4.out).e 2
         have e3:=Aa (Hst4.out).e 3
         have e4:=Aa (Hst4.out).e 4
         have el:=lt_of_block (Hst4.out).e
         have f0:=Ab (Hst4.out).e 0
         have f1:=Ab (Hst4.out).e 1
         have f2:=Ab (Hst4.out).e 2
         have f4:=Ab (Hst4.out).e 4
         rcases o with _|_
         ·have Hin3:=Lib.hid hin3;clear hin3
          go_upto_region 22 with fail
          clear nce nec c0 c1 c2 c3 cl e0 e1 e2 e3 e4 el f0 f1 f2 f4
          refine Ao (rfcS C da) (.take 0 (.take 1 (.take 2 (.move 3 (.take 4 (.move 5 .done)))))) (by kernel_rfl) (by kernel_rfl) ?_ ?_
          ·exact(show rfcS C da w4 from Aa Hst4.out.c 1).keepS (Keeps.drew (S:=fun _=>False) _) (by simp)
          intro w6 hs6 hk6
          have hst6:=Hst4.out.keep hk6
          have nce:=(hst6).ce
          have nec:¬E=C:=fun e=>nce e.symm
          have c0:=Aa (hst6).c 0
          have c1:=Aa (hst6).c 1
          have c2:=Aa (hst6).c 2
          have c3:=Aa (hst6).c 3
          have cl:=lt_of_block (hst6).c
          have e0:=Aa (hst6).e 0
          have e1:=Aa (hst6).e 1
          have e2:=Aa (hst6).e 2
          have e3:=Aa (hst6).e 3
          have e4:=Aa (hst6).e 4
          have el:=lt_of_block (hst6).e
          have f0:=Ab (hst6).e 0
          have f1:=Ab (hst6).e 1
          have f2:=Ab (hst6).e 2
          have f4:=Ab (hst6).e 4
          repeat ((first|refine Ai rfl (by rfl) ?_|refine Af rfl (by rfl) ?_|(refine Ah (v:= ?_) rfl (by rfl) ?_ ?_;rotate_left;(· intro w' hSw;unfold rfcS at hSw;go_simp;(try with_reducible rfl));rotate_right));try simp only [aps])
          refine Ak rfl (fun K hK=> ?_)
          go_simp
          refine hK.out _ _ (by exact hs6.keepS (Keeps.setCell (S:=fun i=>i=E) _ _ _ rfl) nce) ?_
          clear hK K
          try simp only [aps]
          repeat ((first|refine Ai rfl (by rfl) ?_|refine Af rfl (by rfl) ?_|(refine Ah (v:= ?_) rfl (by rfl) ?_ ?_;rotate_left;(· intro w' hSw;unfold rfcS at hSw;go_simp;(try with_reducible rfl));rotate_right));try simp only [aps])
          refine Ak rfl (fun K hK=> ?_)
          go_simp
          refine hK.out _ _ (by exact(hs6.keepS (Keeps.setCell (S:=fun i=>i=E) _ _ _ rfl) nce).keepS (Keeps.setCell (S:=fun i=>i=E) _ _ _ rfl) nce) ?_
          clear hK K
          try simp only [aps]
          refine Aw ?_
          have hee:a.ee ⟨3,da,tr,am,re⟩=0:=by rw [Hin3.out];rfl
          have heD:=Ac.eD_no (a:=a) (c:=⟨3,da,tr,am,re⟩) (show(3:Int)≠4 by decide)
          obtain⟨Wz,hWz⟩:∃x,x=(w6.setCell ⟨E,0,none⟩ (.int .i64 3)).setCell ⟨E,1,none⟩ (.int .i64 da):=⟨_,rfl⟩
          have hstz:=(hst6.set (y:=⟨3,td,tr,am,0⟩) 0 (.int .i64 3) rfl rfl).set (y:=⟨3,da,tr,am,0⟩) 1 (.int .i64 da) hWz rfl
          have hpo:=hstz.done (D:=a.D) (V:= #[.int .i64 3,.int .i64 da,.int .i64 tr,.int .i64 am,.int .i64 0]) Hb.out
          clear hs6 hk6
          obtain⟨Hstz,Hst6⟩:=hid2 hstz hst6;clear hst6 hstz
          have hev:=Ac.ee_yes hee
          have hE0:=(Hstz.out).e
          have hR0:=(Hstz.out).r
          obtain⟨Hev,HE0,HR0,Hee,Hpo,HeD⟩:=hid6 hev hE0 hR0 hee hpo heD;clear heD hpo hee hR0 hE0 hev
          go_upto_region 31 with fail
          rw [←hWz]
          clear hWz
          have hsr:=setRow_heap _ R #[.int .i64 0,.int .i64 0,.int .i64 0,.int .i64 0,.int .i64 0] #[.int .i64 3,.int .i64 da,.int .i64 tr,.int .i64 am,.int .i64 0] 77 _ HR0.out
          have sr0:=Aa hsr 0
          have sr1:=Aa hsr 1
          have sr2:=Aa hsr 2
          have sr3:=Aa hsr 3
          have sr4:=Aa hsr 4
          obtain⟨Hsr,Sr0,Sr1,Sr2,Sr3,Sr4⟩:=hid6 hsr sr0 sr1 sr2 sr3 sr4;clear sr4 sr3 sr2 sr1 sr0 hsr
          go_wp2_with (first|(refine wpList_load_row rfl 77 (.tmp 8) rfl E rfl 77 #[.int .i64 3,.int .i64 da,.int .i64 tr,.int .i64 am,.int .i64 0] _ _ HE0.out Tryz.underlying77 rfl Bj ?_)|(refine wpList_store_row rfl 77 (.tmp 6) (.tmp 137) rfl R #[.int .i64 3,.int .i64 da,.int .i64 tr,.int .i64 am,.int .i64 0] rfl rfl 77 #[.int .i64 0,.int .i64 0,.int .i64 0,.int .i64 0,.int .i64 0] HR0.out Bj rfl (Cm _ _ _ _ _) ?_))
          have R0':=Sr0.out
          have R1':=Sr1.out
          have R2':=Sr2.out
          have R3':=Sr3.out
          have R4':=Sr4.out
          try rw [Exit.Bl]
          exact bodyPost_ret (v:= .tuple #[.agg #[.int .i64 3,.int .i64 da,.int .i64 tr,.int .i64 am,.int .i64 0],.int .i64 0]) (by simp [results,Tryz.results63,go_sem,R0',R1',R2',R3',R4']) rfl ⟨by rw [Hev.out,Hee.out];simp,by rw [HeD.out];exact Hpo.out⟩
         ·have Hin3:=Lib.hid hin3;clear hin3
          have hno:=Ac.ee_no (Hin3.out) (by decide)
          have hpo:=((Hst4.out).done (D:=a.D) (V:= #[.int .i64 0,.int .i64 0,.int .i64 0,.int .i64 0,.int .i64 0]) Hb.out)
          have hee:=Hin3.out
          have hR0:=(Hst4.out).r
          obtain⟨Hno,Hpo,Hee,HR0⟩:=hid4 hno hpo hee hR0;clear hR0 hee hpo hno
          go_wp2_with fail
          go_step3
          go_wp2
          refine Az ?_
          have hsr:=setRow_heap _ R #[.int .i64 0,.int .i64 0,.int .i64 0,.int .i64 0,.int .i64 0] #[.int .i64 0,.int .i64 0,.int .i64 0,.int .i64 0,.int .i64 0] 77 _ HR0.out
          have sr0:=Aa hsr 0
          have sr1:=Aa hsr 1
          have sr2:=Aa hsr 2
          have sr3:=Aa hsr 3
          have sr4:=Aa hsr 4
          obtain⟨Hsr,Sr0,Sr1,Sr2,Sr3,Sr4⟩:=hid6 hsr sr0 sr1 sr2 sr3 sr4;clear sr4 sr3 sr2 sr1 sr0 hsr
          go_wp2_with (refine wpList_store_row rfl 77 (.tmp 6) (.tmp 138) rfl R #[.int .i64 0,.int .i64 0,.int .i64 0,.int .i64 0,.int .i64 0] rfl rfl 77 #[.int .i64 0,.int .i64 0,.int .i64 0,.int .i64 0,.int .i64 0] HR0.out Bj rfl (Cm _ _ _ _ _) ?_)
          have R0':=Sr0.out
          have R1':=Sr1.out
          have R2':=Sr2.out
          have R3':=Sr3.out
          have R4':=Sr4.out
          rw [Exit.noGoto_ret]
          exact bodyPost_ret (v:= .tuple #[.agg #[.int .i64 0,.int .i64 0,.int .i64 0,.int .i64 0,.int .i64 0],.int .i64 11]) (by simp [results,Tryz.results63,go_sem,R0',R1',R2',R3',R4']) rfl ⟨by rw [Hno.out.1,Hee.out];rfl,by rw [Hno.out.2];exact Hpo.out⟩
      ·have hin:=Hin.out
       rw [if_neg (show¬(4:Int)=1 by decide),if_neg (show¬(4:Int)=3 by decide),if_pos rfl] at hin
       obtain⟨nb,hnb⟩:∃z,a.s.p.bal.length=z:=⟨_,rfl⟩
       have hnt:=Hn.out.nb
       rw [hnb] at hnt
       obtain⟨t1,t2⟩:=H3.out
       obtain⟨k,hk1⟩:∃k:Nat,(k:Int)=tr-1:=⟨(tr-1).toNat,by omega⟩
       obtain⟨y,hy⟩:=Av (L:=a.s.p.bal) (k:=k) (by omega)
       have q3:(tr-1).toNat=k:=by omega
       have hyD:a.s.p.bal.getD (tr-1).toNat 0=y:=by rw [q3,List.getD_eq_getElem?_getD,hy];rfl
       simp only [hyD] at hin
       obtain⟨g,cp,hvp,_⟩:=Cu HAt2.out.bal (by omega)
       have hrow:=HAt2.out.bal
       rw [hvp] at hrow
       have hcy:W2.cell? ⟨g,k,none⟩=some (.int .i64 y):=by have:=Bi Cc hrow hy 0 (by decide);simpa [i64c] using this
       have q1:(0:Int)≤tr-1:=by omega
       have hn8:=Hn.out.n8
       have q2:tr-1<(nb:Int):=by omega
       have q4:IntKind.i64.wrap (tr-1)=tr-1:=IntWalk.i64_in _ ⟨by omega,by omega⟩
       rw [hnb] at hvp hrow
       have hS:=(show opnS B C am tr a.today x.vp g k y W2 from⟨c3,c2,Aa HAt2.out.blk 7,Aa HAt2.out.blk 11,hcy⟩)
       have hbl:=lt_of_block HAt2.out.blk
       have hgl:=Ag hcy
       rw [hvp,Htd.out] at hS
       clear hcy t2 hnt hn8
       obtain⟨Hnb,Hk1,Hy,HyD,Hvp,Hrow,HS⟩:=hid7 hnb hk1 hy hyD hvp hrow hS;clear hS hrow hvp hyD hy hk1 hnb
       go_upto_region 25 with fail
       clear nce nec c0 c1 c2 c3 cl e0 e1 e2 e3 e4 el f0 f1 f2 f4
       by_cases d1:y<am
       ·rw [if_pos d1] at hin
        have Hin2:=Lib.hid hin;clear hin
        refine Ao (opnS B C am tr td (.slice (some ⟨g,0,none⟩) nb cp) g k y) (.take 0 (.take 1 (.take 2 (.take 3 (.take 4 (.take 5 (.take 6 (.take 7 (.take 8 (.take 9 (.take 10 (.take 11 (.take 12 .done))))))))))))) (by kernel_rfl) (by kernel_rfl) ?_ ?_
        ·exact jZ97
        intro w3 hs3 hk3
        repeat ((first|refine Ai rfl (by rfl) ?_|refine Af rfl (by rfl) ?_|(refine Ah (v:= ?_) rfl (by rfl) ?_ ?_;rotate_left;(· intro w' hSw;unfold opnS at hSw;go_simp;(try with_reducible rfl));rotate_right));try simp only [aps])
        refine Aw ?_
        have hst3:=Hst2.out.keep hk3
        clear hk3
        have Hst3:=Lib.hid hst3;clear hst3
        have nce:=(Hst3.out).ce
        have nec:¬E=C:=fun e=>nce e.symm
        have c0:=Aa (Hst3.out).c 0
        have c1:=Aa (Hst3.out).c 1
        have c2:=Aa (Hst3.out).c 2
        have c3:=Aa (Hst3.out).c 3
        have cl:=lt_of_block (Hst3.out).c
        have e0:=Aa (Hst3.out).e 0
        have e1:=Aa (Hst3.out).e 1
        have e2:=Aa (Hst3.out).e 2
        have e3:=Aa (Hst3.out).e 3
        have e4:=Aa (Hst3.out).e 4
        have el:=lt_of_block (Hst3.out).e
        have f0:=Ab (Hst3.out).e 0
        have f1:=Ab (Hst3.out).e 1
        have f2:=Ab (Hst3.out).e 2
        have f4:=Ab (Hst3.out).e 4
        have hno:=Ac.ee_no (Hin2.out) (by decide)
        have hpo:=((Hst3.out).done (D:=a.D) (V:= #[.int .i64 0,.int .i64 0,.int .i64 0,.int .i64 0,.int .i64 0]) Hb.out)
        have hee:=Hin2.out
        exact jZ18
       ·rw [if_neg d1] at hin
        have Hin2:=Lib.hid hin;clear hin
        refine Ao (opnS B C am tr td (.slice (some ⟨g,0,none⟩) nb cp) g k y) (.take 0 (.take 1 (.take 2 (.take 3 (.take 4 (.take 5 (.take 6 (.take 7 (.take 8 (.take 9 (.take 10 (.take 11 (.take 12 .done))))))))))))) (by kernel_rfl) (by kernel_rfl) ?_ ?_
        ·exact jZ97
        intro w3 hs3 hk3
        repeat ((first|refine Ai rfl (by rfl) ?_|refine Af rfl (by rfl) ?_|(refine Ah (v:= ?_) rfl (by rfl) ?_ ?_;rotate_left;(· intro w' hSw;unfold opnS at hSw;go_simp;(try with_reducible rfl));rotate_right));try simp only [aps])
        refine Aw ?_
        have hst3:=Hst2.out.keep hk3
        clear hk3
        have Hst3:=Lib.hid hst3;clear hst3
        have nce:=(Hst3.out).ce
        have nec:¬E=C:=fun e=>nce e.symm
        have c0:=Aa (Hst3.out).c 0
        have c1:=Aa (Hst3.out).c 1
        have c2:=Aa (Hst3.out).c 2
        have c3:=Aa (Hst3.out).c 3
        have cl:=lt_of_block (Hst3.out).c
        have e0:=Aa (Hst3.out).e 0
        have e1:=Aa (Hst3.out).e 1
        have e2:=Aa (Hst3.out).e 2
        have e3:=Aa (Hst3.out).e 3
        have e4:=Aa (Hst3.out).e 4
        have el:=lt_of_block (Hst3.out).e
        have f0:=Ab (Hst3.out).e 0
        have f1:=Ab (Hst3.out).e 1
        have f2:=Ab (Hst3.out).e 2
        have f4:=Ab (Hst3.out).e 4
        have hop:=fun(W:World) (hW:Keeps (fun _=>False) w W)=>dispOpen_any tr td am a.D v b W (Hb.out.keeps hW (by simp))
        obtain⟨rf,hrf⟩:∃z,Cw a.D tr am=z:=⟨_,rfl⟩
        obtain⟨z,hz⟩:∃z,Ch a.D tr am=z:=⟨_,rfl⟩
        rw [hrf,hz] at hop
        have hFB:¬Foot b v B:=fun e=>Hsep.out B e (.inl (.inl rfl))
        have hFC:¬Foot b v C:=fun e=>by have:=Hb.out.lt C e;have:=Hst3.out.lc;omega
        clear d1 q1 q2 q4 q3 t1
        have hS5:opcS B C am tr td w3:=⟨hs3.1,hs3.2.1,hs3.2.2.1⟩
        clear hs3
        obtain⟨Hop,Hrf,Hz,HFB,HFC,HS5⟩:=hid6 hop hrf hz hFB hFC hS5;clear hS5 hFC hFB hz hrf hop
        go_upto_region 26 with fail
        clear nce nec c0 c1 c2 c3 cl e0 e1 e2 e3 e4 el f0 f1 f2 f4
        refine Ao (opcS B C am tr td) (.take 0 (.take 1 (.take 2 (.take 3 (.take 4 (.take 5 (.take 6 (.take 7 (.take 8 (.move 9 (.take 10 (.take 11 (.take 12 (.take 13 (.move 14 (.take 15 .done)))))))))))))))) (by kernel_rfl) (by kernel_rfl) ?_ ?_
        ·exact HS5.out.keepS (Keeps.drew (S:=fun _=>False) _) (by simp) (by simp)
        intro w5 hs5 hk5
        have hst5:=Hst3.out.keep hk5
        have hkw5:=hst5.k
        repeat ((first|refine Ai rfl (by rfl) ?_|refine Af rfl (by rfl) ?_|(refine Ah (v:= ?_) rfl (by rfl) ?_ ?_;rotate_left;(· intro w' hSw;unfold opcS at hSw;go_simp;(try with_reducible rfl));rotate_right));try simp only [aps])
        refine Ak rfl (fun K hK=> ?_)
        go_simp
        go_at_call 91
        ((with_reducible refine(Hop.out w5 hkw5).mono ?_);rintro e w6 hg)
        obtain⟨rfl,v6,hb6,hk6,hf6⟩:=hg
        dsimp only
        have hst6:=hst5.keepT hk6 Hb.out.lt
        refine hK.out _ _ (by exact hs5.keepS hk6 HFB.out HFC.out) ?_
        clear hK K
        try simp only [aps]
        repeat ((first|refine Ai rfl (by rfl) ?_|refine Af rfl (by rfl) ?_|(refine Ah (v:= ?_) rfl (by rfl) ?_ ?_;rotate_left;(· intro w' hSw;unfold opcS at hSw;go_simp;(try with_reducible rfl));rotate_right));try simp only [aps])
        have nce:=(hst6).ce
        have nec:¬E=C:=fun e=>nce e.symm
        have c0:=Aa (hst6).c 0
        have c1:=Aa (hst6).c 1
        have c2:=Aa (hst6).c 2
        have c3:=Aa (hst6).c 3
        have cl:=lt_of_block (hst6).c
        have e0:=Aa (hst6).e 0
        have e1:=Aa (hst6).e 1
        have e2:=Aa (hst6).e 2
        have e3:=Aa (hst6).e 3
        have e4:=Aa (hst6).e 4
        have el:=lt_of_block (hst6).e
        have f0:=Ab (hst6).e 0
        have f1:=Ab (hst6).e 1
        have f2:=Ab (hst6).e 2
        have f4:=Ab (hst6).e 4
        have hs6:=hs5.keepS hk6 HFB.out HFC.out
        have neB:¬B=E:=fun e=>by have:=H.out.lt B (.inl (.inl rfl));have:=hst6.le;omega
        refine Ak rfl (fun K hK=> ?_)
        go_simp
        refine hK.out _ _ (by exact hs6.keepS (Keeps.setCell (S:=fun i=>i=E) _ _ _ rfl) neB nce) ?_
        clear hK K
        try simp only [aps]
        repeat ((first|refine Ai rfl (by rfl) ?_|refine Af rfl (by rfl) ?_|(refine Ah (v:= ?_) rfl (by rfl) ?_ ?_;rotate_left;(· intro w' hSw;unfold opcS at hSw;go_simp;(try with_reducible rfl));rotate_right));try simp only [aps])
        refine Aw ?_
        obtain⟨W7,hW7⟩:∃x,x=w6.setCell ⟨E,4,none⟩ (.int .i64 rf):=⟨_,rfl⟩
        have hst7:=hst6.set (y:=⟨0,td,tr,am,rf⟩) 4 (.int .i64 rf) hW7 rfl
        have hk7:Keeps (fun i=>i=E) w6 W7:=by rw [hW7];exact(Keeps.refl _ _).setB _ _
        rw [←hW7]
        clear hW7
        clear nce nec c0 c1 c2 c3 cl e0 e1 e2 e3 e4 el f0 f1 f2 f4
        clear hs5 hs6 hkw5 hk5
        obtain⟨Hst7,Hst5,Hst6,Hb6,Hk6,Hf6,Hk7⟩:=hid7 hst7 hst5 hst6 hb6 hk6 hf6 hk7;clear hk7 hf6 hk6 hb6 hst6 hst5 hst7
        have nce:=(Hst7.out).ce
        have nec:¬E=C:=fun e=>nce e.symm
        have c0:=Aa (Hst7.out).c 0
        have c1:=Aa (Hst7.out).c 1
        have c2:=Aa (Hst7.out).c 2
        have c3:=Aa (Hst7.out).c 3
        have cl:=lt_of_block (Hst7.out).c
        have e0:=Aa (Hst7.out).e 0
        have e1:=Aa (Hst7.out).e 1
        have e2:=Aa (Hst7.out).e 2
        have e3:=Aa (Hst7.out).e 3
        have e4:=Aa (Hst7.out).e 4
        have el:=lt_of_block (Hst7.out).e
        have f0:=Ab (Hst7.out).e 0
        have f1:=Ab (Hst7.out).e 1
        have f2:=Ab (Hst7.out).e 2
        have f4:=Ab (Hst7.out).e 4
        have hiz:a.ee ⟨4,da,tr,am,re⟩=z:=by rw [Hin2.out];exact Hz.out
        by_cases hz0:z=0
        ·subst hz0
         have hee:=hiz
         have heD:a.eD ⟨4,da,tr,am,re⟩=dOpen a.D tr td am:=by rw [Ac.eD_yes hiz rfl,Htd.out]
         obtain⟨Wz,hWz⟩:∃x,x=W7.setCell ⟨E,0,none⟩ (.int .i64 4):=⟨_,rfl⟩
         have hstz:=Hst7.out.set (y:=⟨4,td,tr,am,rf⟩) 0 (.int .i64 4) hWz rfl
         have hkz:Keeps (fun i=>i=E) w6 Wz:=by rw [hWz];exact Hk7.out.setB _ _
         have hpo:=Hst5.out.doneB (V:= #[.int .i64 4,.int .i64 td,.int .i64 tr,.int .i64 am,.int .i64 rf]) Hb.out Hb6.out Hk6.out Hf6.out hkz
         clear hiz
         obtain⟨Hstz,Hkz⟩:=hid2 hstz hkz;clear hkz hstz
         have hev:=Ac.ee_yes hee
         have hE0:=(Hstz.out).e
         have hR0:=(Hstz.out).r
         obtain⟨Hev,HE0,HR0,Hee,Hpo,HeD⟩:=hid6 hev hE0 hR0 hee hpo heD;clear heD hpo hee hR0 hE0 hev
         go_upto_region 31 with fail
         rw [←hWz]
         clear hWz
         have hsr:=setRow_heap _ R #[.int .i64 0,.int .i64 0,.int .i64 0,.int .i64 0,.int .i64 0] #[.int .i64 4,.int .i64 td,.int .i64 tr,.int .i64 am,.int .i64 rf] 77 _ HR0.out
         have sr0:=Aa hsr 0
         have sr1:=Aa hsr 1
         have sr2:=Aa hsr 2
         have sr3:=Aa hsr 3
         have sr4:=Aa hsr 4
         obtain⟨Hsr,Sr0,Sr1,Sr2,Sr3,Sr4⟩:=hid6 hsr sr0 sr1 sr2 sr3 sr4;clear sr4 sr3 sr2 sr1 sr0 hsr
         go_wp2_with (first|(refine wpList_load_row rfl 77 (.tmp 8) rfl E rfl 77 #[.int .i64 4,.int .i64 td,.int .i64 tr,.int .i64 am,.int .i64 rf] _ _ HE0.out Tryz.underlying77 rfl Bj ?_)|(refine wpList_store_row rfl 77 (.tmp 6) (.tmp 137) rfl R #[.int .i64 4,.int .i64 td,.int .i64 tr,.int .i64 am,.int .i64 rf] rfl rfl 77 #[.int .i64 0,.int .i64 0,.int .i64 0,.int .i64 0,.int .i64 0] HR0.out Bj rfl (Cm _ _ _ _ _) ?_))
         have R0':=Sr0.out
         have R1':=Sr1.out
         have R2':=Sr2.out
         have R3':=Sr3.out
         have R4':=Sr4.out
         try rw [Exit.Bl]
         exact bodyPost_ret (v:= .tuple #[.agg #[.int .i64 4,.int .i64 td,.int .i64 tr,.int .i64 am,.int .i64 rf],.int .i64 0]) (by simp [results,Tryz.results63,go_sem,R0',R1',R2',R3',R4']) rfl ⟨by rw [Hev.out,Hee.out];simp [Htd.out,Hrf.out],by rw [HeD.out];exact Hpo.out⟩
        ·have hne:(z !=0)=true:=by simp [hz0]
         have hDD:dOpen a.D tr td am=a.D:=by unfold dOpen;rw [if_neg (by rw [Hz.out];exact hz0)]
         have hpo7:=Hst5.out.doneB (V:= #[.int .i64 0,.int .i64 0,.int .i64 0,.int .i64 0,.int .i64 0]) Hb.out Hb6.out Hk6.out Hf6.out Hk7.out
         rw [hDD] at hpo7
         have Hpo7:=Lib.hid hpo7
         have Hiz:=Lib.hid hiz
         have Hz0:=Lib.hid hz0
         clear hpo7 hiz hz0 hDD
         have hno:=Ac.ee_no (Hiz.out) (Hz0.out)
         have hpo:=Hpo7.out
         have hee:=Hiz.out
         have hR0:=(Hst7.out).r
         obtain⟨Hno,Hpo,Hee,HR0⟩:=hid4 hno hpo hee hR0;clear hR0 hee hpo hno
         go_wp2_with fail
         go_step3
         go_wp2
         refine Az ?_
         have hsr:=setRow_heap _ R #[.int .i64 0,.int .i64 0,.int .i64 0,.int .i64 0,.int .i64 0] #[.int .i64 0,.int .i64 0,.int .i64 0,.int .i64 0,.int .i64 0] 77 _ HR0.out
         have sr0:=Aa hsr 0
         have sr1:=Aa hsr 1
         have sr2:=Aa hsr 2
         have sr3:=Aa hsr 3
         have sr4:=Aa hsr 4
         obtain⟨Hsr,Sr0,Sr1,Sr2,Sr3,Sr4⟩:=hid6 hsr sr0 sr1 sr2 sr3 sr4;clear sr4 sr3 sr2 sr1 sr0 hsr
         go_wp2_with (refine wpList_store_row rfl 77 (.tmp 6) (.tmp 138) rfl R #[.int .i64 0,.int .i64 0,.int .i64 0,.int .i64 0,.int .i64 0] rfl rfl 77 #[.int .i64 0,.int .i64 0,.int .i64 0,.int .i64 0,.int .i64 0] HR0.out Bj rfl (Cm _ _ _ _ _) ?_)
         have R0':=Sr0.out
         have R1':=Sr1.out
         have R2':=Sr2.out
         have R3':=Sr3.out
         have R4':=Sr4.out
         rw [Exit.noGoto_ret]
         exact bodyPost_ret (v:= .tuple #[.agg #[.int .i64 0,.int .i64 0,.int .i64 0,.int .i64 0,.int .i64 0],.int .i64 z]) (by simp [results,Tryz.results63,go_sem,R0',R1',R2',R3',R4']) rfl ⟨by rw [Hno.out.1,Hee.out];rfl,by rw [Hno.out.2];exact Hpo.out⟩
  ·rw [decide_eq_false h3] at htr
   obtain⟨Hst2,HAt2,Htr,H3,H2⟩:=hid5 hst2 hAt2 htr h3 h2;clear h2 h3 htr hAt2 hst2
   go_wp2_with fail
   rw [←hW2]
   clear hW2
   clear nce nec c0 c1 c2 c3 cl e0 e1 e2 e3 e4 el f0 f1 f2 f4
   refine Htr.out.mono ?_
   rintro e w' ⟨rfl,rfl⟩
   have hno:=Ac.ee_no ((Ac.ee_tr (a:=a) (c:=⟨ki,da,tr,am,re⟩) H2.out H3.out)) (by decide)
   have hpo:=((Hst2.out).done (D:=a.D) (V:= #[.int .i64 0,.int .i64 0,.int .i64 0,.int .i64 0,.int .i64 0]) Hb.out)
   have hee:=(Ac.ee_tr (a:=a) (c:=⟨ki,da,tr,am,re⟩) H2.out H3.out)
   have hR0:=(Hst2.out).r
   obtain⟨Hno,Hpo,Hee,HR0⟩:=hid4 hno hpo hee hR0;clear hR0 hee hpo hno
   go_wp2_with fail
   go_step3
   go_wp2
   refine Az ?_
   have hsr:=setRow_heap _ R #[.int .i64 0,.int .i64 0,.int .i64 0,.int .i64 0,.int .i64 0] #[.int .i64 0,.int .i64 0,.int .i64 0,.int .i64 0,.int .i64 0] 77 _ HR0.out
   have sr0:=Aa hsr 0
   have sr1:=Aa hsr 1
   have sr2:=Aa hsr 2
   have sr3:=Aa hsr 3
   have sr4:=Aa hsr 4
   obtain⟨Hsr,Sr0,Sr1,Sr2,Sr3,Sr4⟩:=hid6 hsr sr0 sr1 sr2 sr3 sr4;clear sr4 sr3 sr2 sr1 sr0 hsr
   go_wp2_with (refine wpList_store_row rfl 77 (.tmp 6) (.tmp 138) rfl R #[.int .i64 0,.int .i64 0,.int .i64 0,.int .i64 0,.int .i64 0] rfl rfl 77 #[.int .i64 0,.int .i64 0,.int .i64 0,.int .i64 0,.int .i64 0] HR0.out Bj rfl (Cm _ _ _ _ _) ?_)
   have R0':=Sr0.out
   have R1':=Sr1.out
   have R2':=Sr2.out
   have R3':=Sr3.out
   have R4':=Sr4.out
   rw [Exit.noGoto_ret]
   exact bodyPost_ret (v:= .tuple #[.agg #[.int .i64 0,.int .i64 0,.int .i64 0,.int .i64 0,.int .i64 0],.int .i64 7]) (by simp [results,Tryz.results63,go_sem,R0',R1',R2',R3',R4']) rfl ⟨by rw [Hno.out.1,Hee.out];rfl,by rw [Hno.out.2];exact Hpo.out⟩
def Ac.xev(a:Ac)(c:Cmd):Ev:=if c.kind=5∨c.kind=6 then a.dvt c else a.evt c
def Ac.xz(a:Ac)(c:Cmd):Int:=if c.kind=5∨c.kind=6 then a.de c else a.ee c
def Ac.xD(a:Ac)(c:Cmd):List Disp:=if c.kind=5∨c.kind=6 then dEnd a.D c.ref (c.kind==5) else a.eD c
def Ac.xe(a:Ac)(c:Cmd):Int:=if¬a.xz c=0 then a.xz c else if c.kind=6 then 0 else a.ce (a.xev c)
def Ac.xr(a:Ac)(c:Cmd):Int:=if a.xe c=0∧c.kind=4 then(a.xev c).ref else 0
def Ac.nx(a:Ac)(c:Cmd):Ac:=if c.kind=6 then { a with seq:=a.seq+1 } else a.count (a.xev c)
def Ac.chg(a:Ac)(c:Cmd):Ac:=if¬a.xe c=0 then a else { a.nx c with D:=a.xD c }
theorem Ac.chg_no{a:Ac}{c:Cmd}{z:Int}(h:a.xe c=z)(hz:z≠0):a.chg c=a∧a.xr c=0:=⟨by unfold Ac.chg;rw [h,if_pos hz],by unfold Ac.xr;rw [h,if_neg fun e=>hz e.1]⟩
theorem Ac.chg_yes{a:Ac}{c:Cmd}(h:a.xe c=0):a.chg c={ a.nx c with D:=a.xD c }∧a.xr c=if c.kind=4 then(a.xev c).ref else 0:=⟨by unfold Ac.chg;rw [h,if_neg (by decide)],by unfold Ac.xr;rw [h];simp⟩
theorem AcAt.otherT{w:World}{B R:Nat}{x:AcV}{a:Ac}(h:AcAt w B x a){C:Array Value}{t:TypeId}{fz:Nat×Nat}(hR:w.heap[R]?=some (.cells C t fz))(ht:∀s∈ [89,42,70,83,2,114,77,116,109,102],t≠s):∀b,AcF B x b∨x.rd b→¬b=R:=by
 have key:∀{b:Nat} {D:Array Value} {s:TypeId} {fz:Nat×Nat},w.heap[b]?=some (.cells D s fz)→t≠s→¬b=R:=fun hb ht e=>by
  subst e;rw [hR] at hb;injection hb with hb;injection hb with _ he _;exact ht he
 simp only [List.mem_cons,List.not_mem_nil,or_false,forall_eq_or_imp,forall_eq] at ht
 obtain⟨t1,t2,t3,t4,t5,t6,t7,t8,t9,t10⟩:=ht
 rintro b ((rfl|hb|hb)|hb|hb|hb|hb|rfl|hb|hb|(rfl|hb)|⟨y,hy,hb⟩|⟨y,hy,hb⟩) e
 ·exact key h.blk t1 e
 ·exact Aq h.iss hR t2 (e▸hb)
 ·exact Aq h.adj hR t3 (e▸hb)
 ·exact Aq h.trs hR t4 (e▸hb)
 ·exact Aq h.bal hR t5 (e▸hb)
 ·exact Aq h.rts hR t5 (e▸hb)
 ·exact Aq h.now hR t2 (e▸hb)
 ·exact key h.dl.blk t6 e
 ·exact Aq h.dl.trs hR t4 (e▸hb)
 ·exact Aq h.dl.row hR t7 (e▸hb)
 ·exact key h.bk.blk t8 e
 ·exact Aq h.bk.row hR t9 (e▸hb)
 ·exact Aq (h.nln y hy) hR t10 (e▸hb)
 ·exact Aq (h.iln y hy) hR t10 (e▸hb)
theorem AcAt.other{w:World}{B R:Nat}{x:AcV}{a:Ac}(h:AcAt w B x a){C:Array Value}(hR:w.heap[R]?=some (.cells C 44 (0,0))):∀b,AcF B x b∨x.rd b→¬b=R:=h.otherT hR (by decide)
theorem AcAt.book{w W:World}{B b:Nat}{x:AcV}{a:Ac}{v:Value}{D:List Disp}(h:AcAt w B x a)(hb:BookAt w b v D)(hf:∀k,Foot b v k→¬AcF B x k)(hW:W=w.setCell ⟨B,10,none⟩ (.pointer (some ⟨b,0,none⟩))):AcAt W B { x with bb:=b,vb:=v } { a with D:=D }:=by
 have hk:Keeps (fun i=>i=B) w W:=by rw [hW];exact(Keeps.refl _ _).setB _ _
 have hB:∀i,x.rd i→¬i=B:=fun i hi e=>h.sep i hi (.inl e)
 refine⟨by rw [hW];exact heap_setCell_same _ _ 10 _ _ (.pointer (some ⟨b,0,none⟩)) h.blk,hk.row h.trs fun i hi=>hB i (.inl hi),h.dl.keepS hk (hB _ (.inr (.inr (.inr (.inr (.inl rfl)))))) (fun i hi=>hB i (.inr (.inr (.inr (.inr (.inr (.inl hi))))))) (fun i hi=>hB i (.inr (.inr (.inr (.inr (.inr (.inr (.inl hi)))))))),
  hb.keeps hk (fun k hk e=>hf k hk (.inl e)),hk.row h.bal fun i hi=>hB i (.inr (.inl hi)),hk.row h.rts fun i hi=>hB i (.inr (.inr (.inl hi))),hk.row h.now fun i hi=>hB i (.inr (.inr (.inr (.inl hi)))),fun y hy=>hk.row (h.nln y hy) fun i hi=>hB i (.inr (.inr (.inr (.inr (.inr (.inr (.inr (.inr (.inl ⟨y,hy,hi⟩)))))))))
  ,h.ns,hk.row h.iss fun i hi e=>h.si i hi (.inl e),fun y hy=>hk.row (h.iln y hy) fun i hi=>hB i (.inr (.inr (.inr (.inr (.inr (.inr (.inr (.inr (.inr ⟨y,hy,hi⟩))))))))),h.is,hk.row h.adj fun i hi e=>h.sa i hi e,⟨h.ok.wk,h.ok.il,h.ok.ill,h.ok.aj,h.ok.s0⟩, ?_,h.si,h.sa⟩
 rintro i (hi|hi|hi|hi|hi|hi|hi|hi|hi|hi) hF
 ·exact h.sep i (.inl hi) hF
 ·exact h.sep i (.inr (.inl hi)) hF
 ·exact h.sep i (.inr (.inr (.inl hi))) hF
 ·exact h.sep i (.inr (.inr (.inr (.inl hi)))) hF
 ·exact h.sep i (.inr (.inr (.inr (.inr (.inl hi))))) hF
 ·exact h.sep i (.inr (.inr (.inr (.inr (.inr (.inl hi)))))) hF
 ·exact h.sep i (.inr (.inr (.inr (.inr (.inr (.inr (.inl hi))))))) hF
 ·exact hf i hi hF
 ·exact h.sep i (.inr (.inr (.inr (.inr (.inr (.inr (.inr (.inr (.inl hi))))))))) hF
 ·exact h.sep i (.inr (.inr (.inr (.inr (.inr (.inr (.inr (.inr (.inr hi))))))))) hF
theorem AcAt.seq1{w W:World}{B:Nat}{x:AcV}{a:Ac}(h:AcAt w B x a)(hW:W=w.setCell ⟨B,8,none⟩ (.int .i64 (a.seq+1))):AcAt W B x { a with seq:=a.seq+1 }:=by
 have hk:Keeps (fun i=>i=B) w W:=by rw [hW];exact(Keeps.refl _ _).setB _ _
 have hB:∀i,x.rd i→¬i=B:=fun i hi e=>h.sep i hi (.inl e)
 exact⟨by rw [hW];exact heap_setCell_same _ _ 8 _ _ (.int .i64 (a.seq+1)) h.blk,hk.row h.trs fun i hi=>hB i (.inl hi),h.dl.keepS hk (hB _ (.inr (.inr (.inr (.inr (.inl rfl)))))) (fun i hi=>hB i (.inr (.inr (.inr (.inr (.inr (.inl hi))))))) (fun i hi=>hB i (.inr (.inr (.inr (.inr (.inr (.inr (.inl hi)))))))),
  h.bk.keeps hk (fun k hk=>hB k (.inr (.inr (.inr (.inr (.inr (.inr (.inr (.inl hk))))))))),hk.row h.bal fun i hi=>hB i (.inr (.inl hi)),hk.row h.rts fun i hi=>hB i (.inr (.inr (.inl hi))),hk.row h.now fun i hi=>hB i (.inr (.inr (.inr (.inl hi)))),fun y hy=>hk.row (h.nln y hy) fun i hi=>hB i (.inr (.inr (.inr (.inr (.inr (.inr (.inr (.inr (.inl ⟨y,hy,hi⟩)))))))))
  ,h.ns,hk.row h.iss fun i hi e=>h.si i hi (.inl e),fun y hy=>hk.row (h.iln y hy) fun i hi=>hB i (.inr (.inr (.inr (.inr (.inr (.inr (.inr (.inr (.inr ⟨y,hy,hi⟩))))))))),h.is,hk.row h.adj fun i hi e=>h.sa i hi e,⟨h.ok.wk,h.ok.il,h.ok.ill,by have h1:=h.ok.aj;show(a.adj.length:Int)≤301000*(a.seq+1);omega,by have:=h.ok.s0;show 0≤a.seq+1;omega⟩,h.sep,h.si,h.sa⟩
end Go.Proofs.YthffbjldpfionaaGreat
