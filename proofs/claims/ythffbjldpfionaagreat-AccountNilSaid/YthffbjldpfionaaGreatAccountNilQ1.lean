/- Part 1 of the proof of AccountNil: walks and plain laws. -/
import Derived.Test.YthffbjldpfionaaGreatB11
namespace Go.Proofs.YthffbjldpfionaaGreat
open Go.RowKit
set_option maxRecDepth 100000
set_option maxHeartbeats 800000
theorem accIssued_nil(w:World):Calls Tryz.prog 21 #[.pointer none] w fun e w'=>e= .returned (.slice none 0 0)∧w=w':=by
 go_enter Tryz.func21,Tryz.ntmps21
 go_wp2
 go_ret
 exact⟨rfl,rfl⟩
theorem accAdjusts_nil(w:World):Calls Tryz.prog 26 #[.pointer none] w fun e w'=>e= .returned (.slice none 0 0)∧w=w':=by
 go_enter Tryz.func26,Tryz.ntmps26
 go_wp2
 go_ret
 exact⟨rfl,rfl⟩
theorem accEvents_nil(w:World):Calls Tryz.prog 28 #[.pointer none] w fun e w'=>e= .returned (.slice none 0 0)∧w=w':=by
 go_enter Tryz.func28,Tryz.ntmps28
 go_wp2
 go_ret
 exact⟨rfl,rfl⟩
theorem accFork_nil(w:World):Calls Tryz.prog 32 #[.pointer none] w fun e w'=>e= .returned (.pointer none)∧w=w':=by
 go_enter Tryz.func32,Tryz.ntmps32
 go_wp2
 go_ret
 exact⟨rfl,rfl⟩
theorem accNew_bad(t:Tm)(v:Value)(w:World)(hr:Reads w 2 v t.trs.length (t.trs.flatMap Tn.cells))(hl:t.trs.length≤1000000)(h0:¬t.err=0):
  Calls Tryz.prog 12 #[.agg #[.int .i64 t.limit,v,.int .i64 t.cyc,.int .i64 t.due,.int .i64 t.minFixed,.int .i64 t.minPart,.int .i64 t.start]] w fun e w'=>e= .returned (.tuple #[.pointer none,.int .i64 t.err])∧Keeps (fun _=>False) w w':=by
 obtain⟨ad,c,hv,_,_⟩:=id hr
 have hri:=fun W (hW:Keeps (fun _=>False) w W)=>tmRight_any t ad c W (by rw [←hv];exact hr.keeps hW (by simp)) hl
 simp only [Tm.val] at hri
 rw [hv]
 obtain⟨z,hz⟩:∃z,t.err=z:=⟨_,rfl⟩
 rw [hz] at hri h0⊢
 have hk0:Keeps (fun _=>False) w (w.alloc (.cells #[.int .i64 t.limit,.slice ad t.trs.length c,.int .i64 t.cyc,.int .i64 t.due,.int .i64 t.minFixed,.int .i64 t.minPart,.int .i64 t.start] 29)):=Keeps.alloc _ _
 have hne:(z !=0)=true:=by simp [h0]
 obtain⟨Hr,Hv,Hri,Hz,H0,Hk0⟩:=hid6 hr hv hri hz h0 hk0;clear hk0 h0 hz hri hv hr
 go_enter Tryz.func12,Tryz.ntmps12
 go_wp2_with fail
 refine(Hri.out _ Hk0.out).mono ?_
 rintro e w1 ⟨rfl,hk1⟩
 have Hk1:=Lib.hid (Hk0.out.nt hk1);clear hk1
 go_wp2
 go_ret2
 exact⟨rfl,Hk1.out⟩
def stm00:Stm:=⟨0,0,0,0,0,0,0,false, []⟩
set_option maxHeartbeats 400000
theorem plainLine1_same(a0:Int)(a1:Int)(a2:Int)(w:World):Calls Tryz.prog 70 #[.agg #[.int .i64 a0,.int .i64 a1,.int .i64 a2],.agg #[.int .i64 a0,.int .i64 a1,.int .i64 a2]] w
  fun e w'=>e= .returned (.bool true)∧Keeps (fun _=>False) w w':=by
 go_enter Tryz.func70,Tryz.ntmps70
 go_wp2
 go_ret
 exact⟨rfl,(Keeps.alloc _ _).trans (Keeps.alloc _ _)⟩
theorem sameLine_same(L:List Ln)(v1 v2:Value)(w:World)(h1:Reads w 3 v1 L.length (L.flatMap Ln.cells))(h2:Reads w 3 v2 L.length (L.flatMap Ln.cells))(hl:L.length≤1000000000000):
  Calls Tryz.prog 69 #[v1,v2,.func (.func 70) #[] #[]] w fun e w'=>e= .returned (.bool true)∧Keeps (fun _=>False) w w':=by
 have g1:=h1
 have g2:=h2
 obtain⟨ad1,c1,rfl,_,_⟩:=g1
 obtain⟨ad2,c2,rfl,_,_⟩:=g2
 obtain⟨H1,H2⟩:=hid2 h1 h2;clear h2 h1
 go_enter Tryz.func69,Tryz.ntmps69
 go_wp2
 go_loopw [7] (fun i wr=>∃k:Nat,k≤L.length∧i= .int .i64 k∧Keeps (fun _=>False) w wr) (fun i _=>L.length-(intOf i).toNat)
 case atStart=>exact⟨0,Nat.zero_le _,rfl,Keeps.refl _ _⟩
 case round=>
  obtain⟨k,hk,rfl,hkp⟩:=hrel
  have Hkp:=Lib.hid hkp;clear hkp
  by_cases hlt:k<L.length
  ·obtain⟨x,hx⟩:∃x,L[k]?=some x:=⟨L[k],List.getElem?_eq_getElem hlt⟩
   obtain⟨g,o,c,he,hc⟩:=(H1.out.keeps Hkp.out (by simp)).elem Ln.Am hx (by decide)
   obtain⟨g',o',c',he',hc'⟩:=(H2.out.keeps Hkp.out (by simp)).elem Ln.Am hx (by decide)
   simp only [Value.slice.injEq,true_and] at he he'
   obtain⟨rfl,rfl⟩:=he
   obtain⟨rfl,rfl⟩:=he'
   obtain⟨e0,e1,e2⟩:=x
   have x0:wr.cell? ⟨g,o+k*3,none⟩=some (.int .i64 e0):=hc 0 (by decide)
   have x1:wr.cell? ⟨g,o+k*3+1,none⟩=some (.int .i64 e1):=hc 1 (by decide)
   have x2:wr.cell? ⟨g,o+k*3+2,none⟩=some (.int .i64 e2):=hc 2 (by decide)
   have y0:wr.cell? ⟨g',o'+k*3,none⟩=some (.int .i64 e0):=hc' 0 (by decide)
   have y1:wr.cell? ⟨g',o'+k*3+1,none⟩=some (.int .i64 e1):=hc' 1 (by decide)
   have y2:wr.cell? ⟨g',o'+k*3+2,none⟩=some (.int .i64 e2):=hc' 2 (by decide)
   clear hc hc'
   have Hx:=Lib.hid hx;clear hx
   go_wp2
   go_still_tail 9,(by kernel_rfl)
   go_wp2_with (go_at_call 70;refine(plainLine1_same _ _ _ _).mono ?_;rintro e w' ⟨rfl,hk2⟩;have Hk2:=Lib.hid hk2;clear hk2)
   go_roundw
   case rel=>exact⟨k+1,by omega,by go_num,(Hkp.out.trans ((Keeps.drew _).trans (Hk2.out.mono (by simp))))⟩
   case measure=>simp [intOf];omega
  ·go_wp2
   go_ret
   exact⟨rfl,Hkp.out⟩
theorem plainLine_same(L:List Ln)(v1 v2:Value)(w:World)(h1:Reads w 3 v1 L.length (L.flatMap Ln.cells))(h2:Reads w 3 v2 L.length (L.flatMap Ln.cells))(hl:L.length≤1000000000000):
  Calls Tryz.prog 47 #[v1,v2] w fun e w'=>e= .returned (.bool true)∧Keeps (fun _=>False) w w':=by
 obtain⟨H1,H2⟩:=hid2 h1 h2;clear h2 h1
 go_enter Tryz.func47,Tryz.ntmps47
 go_wp2_with (go_at_call 69;refine(sameLine_same L _ _ _ H1.out H2.out hl).mono ?_;rintro e w' ⟨rfl,hk2⟩;have Hk2:=Lib.hid hk2;clear hk2)
 go_ret
 exact⟨rfl,Hk2.out⟩
theorem plainI641_same(a:Int)(w:World):Calls Tryz.prog 72 #[.int .i64 a,.int .i64 a] w
  fun e w'=>e= .returned (.bool true)∧w=w':=by
 go_enter Tryz.func72,Tryz.ntmps72
 go_wp2
 go_ret
 exact⟨rfl,rfl⟩
theorem sameI64_same(L:List Int)(v1 v2:Value)(w:World)(h1:Reads w 1 v1 L.length (L.flatMap i64c))(h2:Reads w 1 v2 L.length (L.flatMap i64c))(hl:L.length≤1000000000000):
  Calls Tryz.prog 71 #[v1,v2,.func (.func 72) #[] #[]] w fun e w'=>e= .returned (.bool true)∧Keeps (fun _=>False) w w':=by
 have g1:=h1
 have g2:=h2
 obtain⟨ad1,c1,rfl,_,_⟩:=g1
 obtain⟨ad2,c2,rfl,_,_⟩:=g2
 obtain⟨H1,H2⟩:=hid2 h1 h2;clear h2 h1
 go_enter Tryz.func71,Tryz.ntmps71
 go_wp2
 go_loopw [7] (fun i wr=>∃k:Nat,k≤L.length∧i= .int .i64 k∧Keeps (fun _=>False) w wr) (fun i _=>L.length-(intOf i).toNat)
 case atStart=>exact⟨0,Nat.zero_le _,rfl,Keeps.refl _ _⟩
 case round=>
  obtain⟨k,hk,rfl,hkp⟩:=hrel
  have Hkp:=Lib.hid hkp;clear hkp
  by_cases hlt:k<L.length
  ·obtain⟨x,hx⟩:∃x,L[k]?=some x:=⟨L[k],List.getElem?_eq_getElem hlt⟩
   obtain⟨g,o,c,he,hc⟩:=(H1.out.keeps Hkp.out (by simp)).elem Cc hx (by decide)
   obtain⟨g',o',c',he',hc'⟩:=(H2.out.keeps Hkp.out (by simp)).elem Cc hx (by decide)
   simp only [Value.slice.injEq,true_and] at he he'
   obtain⟨rfl,rfl⟩:=he
   obtain⟨rfl,rfl⟩:=he'
   have x0:wr.cell? ⟨g,o+k,none⟩=some (.int .i64 x):=by have:=hc 0 (by decide);simpa [i64c] using this
   have y0:wr.cell? ⟨g',o'+k,none⟩=some (.int .i64 x):=by have:=hc' 0 (by decide);simpa [i64c] using this
   clear hc hc'
   have Hx:=Lib.hid hx;clear hx
   go_wp2
   go_still_tail 9,(by kernel_rfl)
   go_wp2_with (go_at_call 72;refine(plainI641_same _ _).mono ?_;rintro e w' ⟨rfl,rfl⟩)
   go_roundw
   case rel=>exact⟨k+1,by omega,by go_num,(Hkp.out.trans (Keeps.drew _))⟩
   case measure=>simp [intOf];omega
  ·go_wp2
   go_ret
   exact⟨rfl,Hkp.out⟩
theorem plainI64_same(L:List Int)(v1 v2:Value)(w:World)(h1:Reads w 1 v1 L.length (L.flatMap i64c))(h2:Reads w 1 v2 L.length (L.flatMap i64c))(hl:L.length≤1000000000000):
  Calls Tryz.prog 48 #[v1,v2] w fun e w'=>e= .returned (.bool true)∧Keeps (fun _=>False) w w':=by
 obtain⟨H1,H2⟩:=hid2 h1 h2;clear h2 h1
 go_enter Tryz.func48,Tryz.ntmps48
 go_wp2_with (go_at_call 71;refine(sameI64_same L _ _ _ H1.out H2.out hl).mono ?_;rintro e w' ⟨rfl,hk2⟩;have Hk2:=Lib.hid hk2;clear hk2)
 go_ret
 exact⟨rfl,Hk2.out⟩
set_option maxHeartbeats 1600000
theorem sameStm_any(s:Stm)(v1 v2:Value)(w:World)(h1:Reads w 3 v1 s.lines.length (s.lines.flatMap Ln.cells))(h2:Reads w 3 v2 s.lines.length (s.lines.flatMap Ln.cells))(hl:s.lines.length≤1000000000000):
  Calls Tryz.prog 22 #[s.val v1,s.val v2] w fun e w'=>e= .returned (.bool true)∧Keeps (fun _=>False) w w':=by
 obtain⟨cy,fr,te,du,tot,cr,mi,gr,L⟩:=s
 simp only [Stm.val] at *
 have g1:=h1
 have g2:=h2
 obtain⟨ad1,c1,rfl,_,_⟩:=g1
 obtain⟨ad2,c2,rfl,_,_⟩:=g2
 obtain⟨H1,H2⟩:=hid2 h1 h2;clear h2 h1
 go_enter Tryz.func22,Tryz.ntmps22
 go_wp2_with (go_at_call 47;refine(plainLine_same L _ _ _ ((H1.out.alloc _).alloc _) ((H2.out.alloc _).alloc _) hl).mono ?_;rintro e w1 ⟨rfl,hk1⟩;have hb1:=Ad (Au (heap_alloc_new w _) _) hk1 (by simp);have hb2:=box_new hk1 (by simp);simp only [World.size_alloc] at hb2;have xa:=Aa hb1;have xb:=Aa hb2;have xl1:=lt_of_block hb1;have xl2:=lt_of_block hb2;have Hk1:=Lib.hid hk1;clear hk1 hb1 hb2)
 go_ret
 exact⟨rfl,((Keeps.alloc _ _).trans (Keeps.alloc _ _)).trans (Hk1.out.mono (by simp))⟩
theorem samePos_any(L:List Int)(n:Nat)(ad1 ad2:Option Addr)(c1 c2:Nat)(cr du:Int)(w:World)(hn:L.length=n)(h1:Reads w 1 (.slice ad1 n c1) n (L.flatMap i64c))(h2:Reads w 1 (.slice ad2 n c2) n (L.flatMap i64c))(hl:n≤1000000000000):
  Calls Tryz.prog 23 #[.agg #[.slice ad1 n c1,.int .i64 cr,.int .i64 du],.agg #[.slice ad2 n c2,.int .i64 cr,.int .i64 du]] w fun e w'=>e= .returned (.bool true)∧Keeps (fun _=>False) w w':=by
 have hc:=fun W (hW:Keeps (fun _=>False) w W)=>plainI64_same L (.slice ad1 n c1) (.slice ad2 n c2) W (by rw [hn];exact h1.keeps hW (by simp)) (by rw [hn];exact h2.keeps hW (by simp)) (by omega)
 obtain⟨H1,H2,Hc,Hn⟩:=hid4 h1 h2 hc hn;clear hn hc h2 h1
 go_enter Tryz.func23,Tryz.ntmps23
 go_wp2_with (go_at_call 48;(with_reducible refine(Hc.out _ ((Keeps.alloc _ _).Ae)).mono ?_);rintro e w1 ⟨rfl,hk1⟩;have hb1:=Ad (Au (heap_alloc_new w _) _) hk1 (by simp);have hb2:=box_new hk1 (by simp);simp only [World.size_alloc] at hb2;have xa:=Aa hb1;have xb:=Aa hb2;have xl1:=lt_of_block hb1;have xl2:=lt_of_block hb2;have Hk1:=Lib.hid hk1;clear hk1 hb1 hb2)
 go_ret
 exact⟨rfl,((Keeps.alloc _ _).trans (Keeps.alloc _ _)).trans (Hk1.out.mono (by simp))⟩
theorem sameState_any(td cy cr du sq:Int)(L M:List Int)(D:List Disp)(n m q:Nat)(a1 a2 a3 b1 b2 b3:Option Addr)(c1 c2 c3 d1 d2 d3:Nat)(w:World)(hn:L.length=n)(hm:M.length=m)(hq:D.length=q)(hl:n≤1000000∧m≤1000000∧q≤1000000)
  (h1:Reads w 1 (.slice a1 n c1) n (L.flatMap i64c)) (h2:Reads w 1 (.slice a2 m c2) m (M.flatMap i64c)) (h3:Reads w 5 (.slice a3 q c3) q (D.flatMap Disp.cells)) (k1:Reads w 1 (.slice b1 n d1) n (L.flatMap i64c)) (k2:Reads w 1 (.slice b2 m d2) m (M.flatMap i64c)) (k3:Reads w 5 (.slice b3 q d3) q (D.flatMap Disp.cells)):
  Calls Tryz.prog 29 #[.agg #[.int .i64 td,.int .i64 cy,.slice a1 n c1,.int .i64 cr,.int .i64 du,.slice a2 m c2,.slice a3 q c3,.int .i64 sq],.agg #[.int .i64 td,.int .i64 cy,.slice b1 n d1,.int .i64 cr,.int .i64 du,.slice b2 m d2,.slice b3 q d3,.int .i64 sq]] w
   fun e w'=>e= .returned (.bool true)∧Keeps (fun _=>False) w w':=by
 obtain⟨l1,l2,l3⟩:=hl
 have hp:=fun W (hW:Keeps (fun _=>False) w W)=>samePos_any L n a1 b1 c1 d1 cr du W hn (h1.keeps hW (by simp)) (k1.keeps hW (by simp)) (by omega)
 have hr:=fun W (hW:Keeps (fun _=>False) w W)=>plainI64_same M (.slice a2 m c2) (.slice b2 m d2) W (by rw [hm];exact h2.keeps hW (by simp)) (by rw [hm];exact k2.keeps hW (by simp)) (by omega)
 have hd:=fun W (hW:Keeps (fun _=>False) w W)=>plainDisp_same D (.slice a3 q c3) (.slice b3 q d3) W (by rw [hq];exact h3.keeps hW (by simp)) (by rw [hq];exact k3.keeps hW (by simp)) (by omega)
 obtain⟨W0,hW0⟩:∃x,x=(w.alloc (.cells #[.int .i64 td,.int .i64 cy,.slice a1 n c1,.int .i64 cr,.int .i64 du,.slice a2 m c2,.slice a3 q c3,.int .i64 sq] 37)).alloc (.cells #[.int .i64 td,.int .i64 cy,.slice b1 n d1,.int .i64 cr,.int .i64 du,.slice b2 m d2,.slice b3 q d3,.int .i64 sq] 37):=⟨_,rfl⟩
 have hx:∀W,Keeps (fun _=>False) W0 W→W.heap[w.heap.size]?=some (.cells #[.int .i64 td,.int .i64 cy,.slice a1 n c1,.int .i64 cr,.int .i64 du,.slice a2 m c2,.slice a3 q c3,.int .i64 sq] 37 (0,0)):=fun W hW=>Ad (by rw [hW0];exact Au (heap_alloc_new w _) _) hW (by simp)
 have hy:∀W,Keeps (fun _=>False) W0 W→W.heap[w.heap.size+1]?=some (.cells #[.int .i64 td,.int .i64 cy,.slice b1 n d1,.int .i64 cr,.int .i64 du,.slice b2 m d2,.slice b3 q d3,.int .i64 sq] 37 (0,0)):=fun W hW=>Ad (by rw [hW0];exact Ay _ _ (by simp)) hW (by simp)
 have hk0:Keeps (fun _=>False) w W0:=by rw [hW0];(repeat (first|exact Keeps.refl _ _|exact Keeps.alloc _ _|exact Keeps.drew _|exact Keeps.drewN _ _|refine Keeps.Ap ?_|refine Keeps.Al ?_|refine Keeps.Ae ?_))
 obtain⟨Hn,Hm,Hq,H1,H2,H3,K1,K2,K3⟩:=hid9 hn hm hq h1 h2 h3 k1 k2 k3;clear k3 k2 k1 h3 h2 h1 hq hm hn;obtain⟨Hp,Hr,Hd,Hx,Hy,Hk0⟩:=hid6 hp hr hd hx hy hk0;clear hk0 hy hx hd hr hp
 go_enter Tryz.func29,Tryz.ntmps29
 go_wp2_with fail
 rw [←hW0]
 clear hW0
 refine(Hp.out W0 Hk0.out).mono ?_
 rintro e w1 ⟨rfl,hk1⟩
 have x5:=Aa (Hx.out w1 hk1) 5
 have y5:=Aa (Hy.out w1 hk1) 5
 have xl:=lt_of_block (Hx.out w1 hk1)
 have yl:=lt_of_block (Hy.out w1 hk1)
 have Hk1:=Lib.hid hk1;clear hk1
 go_wp2_with fail
 refine(Hr.out w1 (Hk0.out.nt Hk1.out)).mono ?_
 rintro e w2 ⟨rfl,hk2⟩
 clear x5 y5 xl yl
 have hk12:=Hk1.out.nt hk2
 have x6:=Aa (Hx.out w2 hk12) 6
 have y6:=Aa (Hy.out w2 hk12) 6
 have xl:=lt_of_block (Hx.out w2 hk12)
 have yl:=lt_of_block (Hy.out w2 hk12)
 have Hk12:=Lib.hid hk12;clear hk12 hk2
 go_wp2_with fail
 refine(Hd.out w2 (Hk0.out.nt Hk12.out)).mono ?_
 rintro e w3 ⟨rfl,hk3⟩
 clear x6 y6 xl yl
 have hk13:=Hk12.out.nt hk3
 have x7:=Aa (Hx.out w3 hk13) 7
 have y7:=Aa (Hy.out w3 hk13) 7
 have xl:=lt_of_block (Hx.out w3 hk13)
 have yl:=lt_of_block (Hy.out w3 hk13)
 have Hk13:=Lib.hid hk13;clear hk13 hk3
 go_wp2
 go_ret
 exact⟨rfl,Hk0.out.nt Hk13.out⟩
set_option maxHeartbeats 3200000
theorem sameAns_nil(z:Int)(a1 a2 a3 a4:Option Addr)(c1 c2 c3 c4:Nat)(w:World)(h1:Reads w 1 (.slice a1 0 c1) 0 [])(h2:Reads w 1 (.slice a2 0 c2) 0 [])(h3:Reads w 5 (.slice a3 0 c3) 0 [])(h4:Reads w 3 (.slice a4 0 c4) 0 []):
  Calls Tryz.prog 31 #[.agg #[.int .i64 z,.int .i64 0,.int .i64 0,.int .i64 0,.int .i64 0,.slice a1 0 c1,.int .i64 0,.int .i64 0,.slice a2 0 c2,.slice a3 0 c3,.int .i64 0,.int .i64 0,.int .i64 0,.int .i64 0,.int .i64 0,.slice a4 0 c4,.int .i64 0,.int .i64 0,.int .i64 0,.bool false],.agg #[.int .i64 z,.int .i64 0,.int .i64 0,.int .i64 0,.int .i64 0,.slice none 0 0,.int .i64 0,.int .i64 0,.slice none 0 0,.slice none 0 0,.int .i64 0,.int .i64 0,.int .i64 0,.int .i64 0,.int .i64 0,.slice none 0 0,.int .i64 0,.int .i64 0,.int .i64 0,.bool false]] w
   fun e w'=>e= .returned (.bool true)∧Keeps (fun _=>False) w w':=by
 have hs:=fun W (hW:Keeps (fun _=>False) w W)=>sameState_any 0 0 0 0 0 [] [] [] 0 0 0 a1 a2 a3 none none none c1 c2 c3 0 0 0 W rfl rfl rfl (by decide) (h1.keeps hW (by simp)) (h2.keeps hW (by simp)) (h3.keeps hW (by simp)) (Reads.nil _ _) (Reads.nil _ _) (Reads.nil _ _)
 have hp:=fun W (hW:Keeps (fun _=>False) w W)=>sameStm_any stm00 (.slice a4 0 c4) (.slice none 0 0) W (h4.keeps hW (by simp)) (Reads.nil _ _) (by decide)
 simp only [stm00,Stm.val] at hp
 obtain⟨W0,hW0⟩:∃x,x=(w.alloc (.cells #[.int .i64 z,.int .i64 0,.int .i64 0,.int .i64 0,.int .i64 0,.slice a1 0 c1,.int .i64 0,.int .i64 0,.slice a2 0 c2,.slice a3 0 c3,.int .i64 0,.int .i64 0,.int .i64 0,.int .i64 0,.int .i64 0,.slice a4 0 c4,.int .i64 0,.int .i64 0,.int .i64 0,.bool false] 44)).alloc (.cells #[.int .i64 z,.int .i64 0,.int .i64 0,.int .i64 0,.int .i64 0,.slice none 0 0,.int .i64 0,.int .i64 0,.slice none 0 0,.slice none 0 0,.int .i64 0,.int .i64 0,.int .i64 0,.int .i64 0,.int .i64 0,.slice none 0 0,.int .i64 0,.int .i64 0,.int .i64 0,.bool false] 44):=⟨_,rfl⟩
 have hx:∀W,Keeps (fun _=>False) W0 W→W.heap[w.heap.size]?=some (.cells #[.int .i64 z,.int .i64 0,.int .i64 0,.int .i64 0,.int .i64 0,.slice a1 0 c1,.int .i64 0,.int .i64 0,.slice a2 0 c2,.slice a3 0 c3,.int .i64 0,.int .i64 0,.int .i64 0,.int .i64 0,.int .i64 0,.slice a4 0 c4,.int .i64 0,.int .i64 0,.int .i64 0,.bool false] 44 (0,0)):=fun W hW=>Ad (by rw [hW0];exact Au (heap_alloc_new w _) _) hW (by simp)
 have hy:∀W,Keeps (fun _=>False) W0 W→W.heap[w.heap.size+1]?=some (.cells #[.int .i64 z,.int .i64 0,.int .i64 0,.int .i64 0,.int .i64 0,.slice none 0 0,.int .i64 0,.int .i64 0,.slice none 0 0,.slice none 0 0,.int .i64 0,.int .i64 0,.int .i64 0,.int .i64 0,.int .i64 0,.slice none 0 0,.int .i64 0,.int .i64 0,.int .i64 0,.bool false] 44 (0,0)):=fun W hW=>Ad (by rw [hW0];exact Ay _ _ (by simp)) hW (by simp)
 have hk0:Keeps (fun _=>False) w W0:=by rw [hW0];(repeat (first|exact Keeps.refl _ _|exact Keeps.alloc _ _|exact Keeps.drew _|exact Keeps.drewN _ _|refine Keeps.Ap ?_|refine Keeps.Al ?_|refine Keeps.Ae ?_))
 obtain⟨H1,H2,H3,H4,Hs,Hp,Hx,Hy,Hk0⟩:=hid9 h1 h2 h3 h4 hs hp hx hy hk0;clear hk0 hy hx hp hs h4 h3 h2 h1
 go_enter Tryz.func31,Tryz.ntmps31
 go_wp2_with fail
 rw [←hW0]
 clear hW0
 refine(Hs.out W0 Hk0.out).mono ?_
 rintro e w1 ⟨rfl,hk1⟩
 have hx1:=Hx.out w1 hk1
 have hy1:=Hy.out w1 hk1
 have xl:=lt_of_block hx1
 have yl:=lt_of_block hy1
 have x11:=Aa hx1 11
 have x12:=Aa hx1 12
 have x13:=Aa hx1 13
 have x14:=Aa hx1 14
 have x15:=Aa hx1 15
 have x16:=Aa hx1 16
 have x17:=Aa hx1 17
 have x18:=Aa hx1 18
 have x19:=Aa hx1 19
 have y11:=Aa hy1 11
 have y12:=Aa hy1 12
 have y13:=Aa hy1 13
 have y14:=Aa hy1 14
 have y15:=Aa hy1 15
 have y16:=Aa hy1 16
 have y17:=Aa hy1 17
 have y18:=Aa hy1 18
 have y19:=Aa hy1 19
 obtain⟨Hk1,Hx1,Hy1⟩:=hid3 hk1 hx1 hy1;clear hy1 hx1 hk1
 go_wp2_with fail
 refine(Hp.out w1 (Hk0.out.nt Hk1.out)).mono ?_
 rintro e w2 ⟨rfl,hk2⟩
 have hkf:=(Hk0.out.nt Hk1.out).nt hk2
 clear hk2
 have Hkf:=Lib.hid hkf;clear hkf
 go_wp2
 go_ret
 exact⟨rfl,Hkf.out⟩
end Go.Proofs.YthffbjldpfionaaGreat
namespace Go.Proofs.YthffbjldpfionaaGreat
open Go.ChangeShapes Go.WideShapes Go.ChangeAt Go.RowKit Go.Deep
theorem laidOut:laidOutB Tryz.prog=true:=by kernel_rfl
end Go.Proofs.YthffbjldpfionaaGreat
namespace Go.Proofs.YthffbjldpfionaaGreat
open Go.ChangeShapes Go.WideShapes Go.ChangeAt Go.RowKit Go.Deep
set_option maxRecDepth 100000
theorem open_Cmd{H:Type}{enc:TypeId×Value→H}{w:World}{spare:Nat→Bool}{held:Bool}(n:Nat)(cs:List Value)(d:DataW H×List MemPlace)(h:DataW.trod enc Tryz.prog w 0 spare held n 47 cs=some d):∃a:Cmd,cs=a.cells∧a.wf:=by
 obtain⟨xs,m,rfl,_,hlen,hxs,hf⟩:=DataW.trod_struct Tryz.underlying47 h
 have hl:cs.length=5:=hlen.trans (by kernel_rfl)
 have hx:xs.length=5:=hxs
 have g0:=hf 0 _ rfl
 rw [show Tryz.prog.cellsOf _=1 from by kernel_rfl,List.getElem?_eq_getElem (show 0<xs.length by omega)] at g0
 have g1:=hf 1 _ rfl
 rw [show Tryz.prog.cellsOf _=1 from by kernel_rfl,List.getElem?_eq_getElem (show 1<xs.length by omega)] at g1
 have g2:=hf 2 _ rfl
 rw [show Tryz.prog.cellsOf _=1 from by kernel_rfl,List.getElem?_eq_getElem (show 2<xs.length by omega)] at g2
 have g3:=hf 3 _ rfl
 rw [show Tryz.prog.cellsOf _=1 from by kernel_rfl,List.getElem?_eq_getElem (show 3<xs.length by omega)] at g3
 have g4:=hf 4 _ rfl
 rw [show Tryz.prog.cellsOf _=1 from by kernel_rfl,List.getElem?_eq_getElem (show 4<xs.length by omega)] at g4
 match cs,hl with
 | [c0,c1,c2,c3,c4],_=>
  obtain⟨a0,e0,_,w0⟩:=DataW.trod_int Tryz.underlying3 g0
  simp at e0
  subst e0
  obtain⟨a1,e1,_,w1⟩:=DataW.trod_int Tryz.underlying3 g1
  simp at e1
  subst e1
  obtain⟨a2,e2,_,w2⟩:=DataW.trod_int Tryz.underlying3 g2
  simp at e2
  subst e2
  obtain⟨a3,e3,_,w3⟩:=DataW.trod_int Tryz.underlying2 g3
  simp at e3
  subst e3
  obtain⟨a4,e4,_,w4⟩:=DataW.trod_int Tryz.underlying3 g4
  simp at e4
  subst e4
  exact⟨⟨a0,a1,a2,a3,a4⟩,rfl,w0,w1,w2,w3,w4⟩
end Go.Proofs.YthffbjldpfionaaGreat
