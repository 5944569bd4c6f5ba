/- Part 8 of the proof of ReplayRuns: walks and plain laws. -/
import Derived.Test.YtgfkeeicjjbnpaaGreatReplayRunsQ7
set_option maxRecDepth 100000
set_option maxHeartbeats 3200000
namespace Go.Proofs.YtgfkeeicjjbnpaaGreat
open Go.RowKit
def wkS(b:Nat)(t:Tm)(vt f0 f1 f2:Value)(W:World):Prop:=tbS b t vt W/\W.cell? ⟨b+1,0,none⟩=some f0/\W.cell? ⟨b+1,1,none⟩=some f1/\W.cell? ⟨b+1,2,none⟩=some f2
theorem wkS.keep{b:Nat}{t:Tm}{vt f0 f1 f2:Value}{W W':World}(h:wkS b t vt f0 f1 f2 W)(hk:Keeps (λ_=>False) W W'):wkS b t vt f0 f1 f2 W':=
 ⟨h.1.keep hk,(hk.cell (Ai h.2.1) (by simp)).trans h.2.1,(hk.cell (Ai h.2.2.1) (by simp)).trans h.2.2.1,(hk.cell (Ai h.2.2.2) (by simp)).trans h.2.2.2⟩
structure Qs(w:World)(n:Nat)(s:St)(vb vr vo:Value)(P:List SV)(G:Nat->Prop)(w':World):Prop where
 bal:w'.ownsRow 0 2 1 vb n (s.p.bal.flatMap i64c)
 rts:w'.ownsRow 0 2 1 vr n (s.R.flatMap i64c)
 out:w'.ownsRow 0 58 9 vo P.length (P.flatMap SV.cells)
 ln:∀x∈P,w'.ownsRow 0 92 3 x.v x.s.lines.length (x.s.lines.flatMap Ln.cells)
 lp:P.map SV.s=s.out
 nb:s.p.bal.length=n
 nr:s.R.length=n
 wb:∀b,vb.ownBlock=some b->w.heap.size<=b
 wr:∀b,vr.ownBlock=some b->w.heap.size<=b
 wo:∀b,vo.ownBlock=some b->w.heap.size<=b
 wl:∀x∈P,∀b,x.v.ownBlock=some b->w.heap.size<=b
 kp:Keeps G w w'
abbrev Je(w:World)(n:Nat)(s:St)(vb vr vo:Value)(P:List SV)(w':World):Prop:=Qs w n s vb vr vo P (λ_=>False) w'
def Sk{α:Type}(V:Wt α)(w:World)(n:Nat)(Z:St×Int)(z:α)(e:Ending)(w':World):Prop:=(Z.2=0/\∃vb vr vo P G,e= .returned (.tuple #[.agg #[vb,.int .i64 Z.1.p.cr,.int .i64 Z.1.p.du],vr,vo,.int .i64 0])/\Qs w n Z.1 vb vr vo P G w'/\V.I z G w')\/
 (Z.2≠0/\e= .returned (.tuple #[.agg #[.slice none 0 0,.int .i64 0,.int .i64 0],.slice none 0 0,.slice none 0 0,.int .i64 Z.2])/\∃a G,V.I a G w'/\Keeps G w w')
def Mg(w:World)(n:Nat)(Z:St×Int)(e:Ending)(w':World):Prop:=(Z.2=0/\∃vb vr vo P,e= .returned (.tuple #[.agg #[vb,.int .i64 Z.1.p.cr,.int .i64 Z.1.p.du],vr,vo,.int .i64 0])/\Je w n Z.1 vb vr vo P w')\/
 (Z.2≠0/\e= .returned (.tuple #[.agg #[.slice none 0 0,.int .i64 0,.int .i64 0],.slice none 0 0,.slice none 0 0,.int .i64 Z.2])/\Keeps (λ_=>False) w w')
def wkFr(td:Int)(b:Nat)(vS:Value)(B:Nat)(u:Nat->Value):Act:={ tmps:= #[u 0,u 1,.int .i64 td,u 3,u 4,u 5,u 6,u 7,(.pointer (some ⟨b+1+1,0,none⟩)),u 9,u 10,u 11,vS,(.pointer (some ⟨b+1+1+1,0,none⟩)),(.pointer (some ⟨B,0,none⟩)),u 15,u 16,u 17,u 18,u 19,u 20,u 21,u 22,u 23,u 24,u 25,u 26,u 27,u 28,u 29,u 30,u 31,u 32,u 33,u 34,u 35,u 36,u 37,u 38,u 39,u 40,u 41,u 42,u 43,u 44,u 45,u 46,u 47,u 48,u 49,u 50,u 51,u 52,u 53,u 54,u 55,u 56,u 57,u 58,u 59,u 60,u 61,u 62,u 63,u 64,u 65,u 66,u 67,u 68,u 69,u 70,u 71,u 72,u 73,u 74,u 75,u 76,u 77,u 78,u 79,u 80,u 81,u 82,u 83,u 84,u 85,u 86,u 87,u 88,u 89,u 90,u 91,u 92,u 93,u 94,u 95,u 96,u 97,u 98,u 99,u 100,u 101,u 102,u 103,u 104,u 105,u 106,u 107,u 108,u 109,u 110,u 111,u 112,u 113,u 114,u 115,u 116,u 117,u 118,u 119],defers:= [] }
def wk0Fr(b:Nat)(e:Int)(u:Nat->Value):Act:={ tmps:= #[u 0,u 1,u 2,u 3,u 4,u 5,u 6,u 7,(.pointer (some ⟨b+1+1,0,none⟩)),u 9,u 10,u 11,u 12,u 13,u 14,.int .i64 e,u 16,u 17,u 18,u 19,u 20,u 21,u 22,u 23,u 24,u 25,u 26,u 27,u 28,u 29,u 30,u 31,u 32,u 33,u 34,u 35,u 36,u 37,u 38,u 39,u 40,u 41,u 42,u 43,u 44,u 45,u 46,u 47,u 48,u 49,u 50,u 51,u 52,u 53,u 54,u 55,u 56,u 57,u 58,u 59,u 60,u 61,u 62,u 63,u 64,u 65,u 66,u 67,u 68,u 69,u 70,u 71,u 72,u 73,u 74,u 75,u 76,u 77,u 78,u 79,u 80,u 81,u 82,u 83,u 84,u 85,u 86,u 87,u 88,u 89,u 90,u 91,u 92,u 93,u 94,u 95,u 96,u 97,u 98,u 99,u 100,u 101,u 102,u 103,u 104,u 105,u 106,u 107,u 108,u 109,u 110,u 111,u 112,u 113,u 114,u 115,u 116,u 117,u 118,u 119],defers:= [] }
def ptB(a:Act):Nat:=match a.tmps.getD 14 undef with| .pointer (some ⟨b,_,_⟩)=>b|_=>0
section
variable {α:Type} (V:Wt α) (γ:Gh α) (J:Int->α->Prop)
def wkJ0(w:World)(R:St×Int)(a':Act)(W:World):Prop:=∃(e:Int) (u:Nat->Value),a'=wk0Fr w.heap.size e u/\W.heap[w.heap.size+1+1]?=some (.cells #[.slice none 0 0,.int .i64 0,.int .i64 0] 35 (0,0))/\(∃a G,V.I a G W/\Keeps G w W/\¬G (w.heap.size+1+1))/\e≠0/\R.2=e
def wkJ1(w:World)(t:Tm)(n:Nat)(vt:Value)(f0 f1 f2:Value)(T:List Ev)(td:Int)(A:List (Int×Int))(R:St×Int)(y:α)(z:Int)(a':Act)(W:World):Prop:=z=0/\∃(s:St) (a:α) (B:Nat) (vS:Value) (u:Nat->Value),a'=wkFr td w.heap.size vS B u/\DayW V w B (w.heap.size+1+1) (w.heap.size+1+1+1) t n vt f0 f1 f2 T A vS s a W/\DayP t T n td A s R/\DayS γ t T n td A s a y/\J s.day a
end
section
variable {α:Type} {V:Wt α} {γ:Gh α} {J:Int->α->Prop}
theorem wkJ0.mk{w:World}{R:St×Int}{a':Act}{W:World}(e:Int)(h:a'=wk0Fr w.heap.size e (λi=>a'.tmps.getD i undef))(h1:W.heap[w.heap.size+1+1]?=some (.cells #[.slice none 0 0,.int .i64 0,.int .i64 0] 35 (0,0)))(h2:∃a G,V.I a G W/\Keeps G w W/\¬G (w.heap.size+1+1))(h3:e≠0)(h4:R.2=e):wkJ0 V w R a' W:=⟨e,_,h,h1,h2,h3,h4⟩
theorem wkJ1.mk{w:World}{t:Tm}{n:Nat}{vt f0 f1 f2:Value}{T:List Ev}{td:Int}{A:List (Int×Int)}{R:St×Int}{y:α}{z:Int}{a':Act}{W:World}(s:St)(a:α)(B:Nat)(vS:Value)(hz:z=0)(h:a'=wkFr td w.heap.size vS B (λi=>a'.tmps.getD i undef))(h1:DayW V w B (w.heap.size+1+1) (w.heap.size+1+1+1) t n vt f0 f1 f2 T A vS s a W)(h2:DayP t T n td A s R)(h3:DayS γ t T n td A s a y)(h4:J s.day a):wkJ1 V γ J w t n vt f0 f1 f2 T td A R y z a' W:=⟨hz,s,a,B,vS,_,h,h1,h2,h3,h4⟩
end
theorem Gd:∀M:List Tn,(M.flatMap Tn.cells).length=M.length*2
 | []=>rfl
 |x::M=>by rw [List.flatMap_cons,List.length_append,Gd M,Tn.Aq,List.length_cons];omega
def r11S(B b:Nat)(vr:Value)(x:Int)(W:World):Prop:=W.cell? ⟨B,13,none⟩=some vr/\W.cell? ⟨b,0,none⟩=some (.int .i64 x)
theorem r11S.keep{B b:Nat}{vr:Value}{x:Int}{S:Nat->Prop}{W W':World}(h:r11S B b vr x W)(hk:Keeps S W W')(h1:¬S B)(h2:¬S b):r11S B b vr x W':=⟨(hk.cell (Ai h.1) h1).trans h.1,(hk.cell (Ai h.2) h2).trans h.2⟩
def w20S(b13 B:Nat)(te sd:Int)(W:World):Prop:=W.cell? ⟨b13,1,none⟩=some (.int .i64 te)/\W.cell? ⟨B,9,none⟩=some (.int .i64 sd)
def w17S(B:Nat)(vb:Value)(cr du:Int)(vr vo:Value)(W:World):Prop:=W.cell? ⟨B,10,none⟩=some vb/\W.cell? ⟨B,11,none⟩=some (.int .i64 cr)/\W.cell? ⟨B,12,none⟩=some (.int .i64 du)/\W.cell? ⟨B,13,none⟩=some vr/\W.cell? ⟨B,16,none⟩=some vo
theorem w17S.keep{B:Nat}{vb vr vo:Value}{cr du:Int}{S:Nat->Prop}{W W':World}(h:w17S B vb cr du vr vo W)(hk:Keeps S W W')(hB:¬S B):w17S B vb cr du vr vo W':=by
 obtain⟨h1,h2,h3,h4,h5⟩:=h;exact⟨(hk.cell (Ai h1) hB).trans h1,(hk.cell (Ai h2) hB).trans h2,(hk.cell (Ai h3) hB).trans h3,(hk.cell (Ai h4) hB).trans h4,(hk.cell (Ai h5) hB).trans h5⟩
theorem Xg{w:World}{X:Fx}{B b8:Nat}{t:Tm}{n:Nat}{vt:Value}{T:List Ev}{f0 f1 f2:Value}{s:St}{vl vb vr:Value}{g0 g1:Nat}{S0 S1:List SI}{vo:Value}{P:List SV}{W W':World}(h:RunV w X B t n vt T f0 f1 f2 s vl vb vr g0 g1 S0 S1 vo P W)(hk:Keeps (λi=>i=b8) W W')(hX:X.X b8)(hb8:w.heap.size<=b8){G:Nat->Prop}(hkw:Keeps G w W):Qs w n s vb vr vo P G W' where
 bal:=hk.row h.bal λb hb e=>by have e':b=b8:=e;exact(h.wb b hb).2 (e'▸hX)
 rts:=hk.row h.rts λb hb e=>by have e':b=b8:=e;exact(h.wr b hb).2 (e'▸hX)
 out:=hk.row h.out λb hb e=>by have e':b=b8:=e;exact(h.wo b hb).2 (e'▸hX)
 ln:=λx hx=>hk.row (h.ln x hx) λb hb e=>by have e':b=b8:=e;exact(h.wln x hx b hb).2 (e'▸hX)
 lp:=h.lp
 nb:=h.nb
 nr:=h.nr
 wb:=λb hb=>(h.wb b hb).1
 wr:=λb hb=>(h.wr b hb).1
 wo:=λb hb=>(h.wo b hb).1
 wl:=λx hx b hb=>(h.wln x hx b hb).1
 kp:=hkw.trans (hk.mono λi _ e=> .inr (by have e':i=b8:=e;omega))
def ghR{α:Type}(γ:Gh α)(t:Tm)(L:List Ev)(td:Int)(a:α):α:=walkG γ t (sortL L) t.trs.length (td-t.start).toNat (allL t.start t.cyc td) (st0 t) a
theorem Ni{α:Type}(V:Wt α)(γ:Gh α)(J:Int->α->Prop)(hGJ:GhOk γ J)(a0:α)(G0:Nat->Prop)(t:Tm)(adt:Option Addr)(ct n:Nat)(L:List Ev)(ad:Option Addr)(cap N:Nat)(td:Int)(f0 f1 f2:Value)(w:World)(hn:t.trs.length=n)(htr:Reads w 2 (.slice adt n ct) n (t.trs.flatMap Tn.cells))(hN:L.length=N)(hr:Reads w 5 (.slice ad N cap) N (L.flatMap Ev.cells))(hl:N<=1000000)(htl:n<=1000000)
  (hf:Cs t L td=0->EvOk V γ f0 f1 f2 n/\EndOk V γ J f0 f1 f2 n/\ClOk V γ f0 f1 f2 n) (hJ0:Cs t L td=0->J t.start a0) (hI0:V.I a0 G0 w) (hG0:Cs t L td=0->∀b,adt.map (·.block)=some b->¬G0 b):
  Calls Tryz.prog 53 #[.agg #[.int .i64 t.limit,.slice adt n ct,.int .i64 t.cyc,.int .i64 t.due,.int .i64 t.minFixed,.int .i64 t.minPart,.int .i64 t.start],.slice ad N cap,.int .i64 td,.agg #[f0,f1,f2]] w (Sk V w n (walkR t L td) (ghR γ t L td a0)):=by
 have hsrt:=λW (hW:Keeps (λ_=>False) w W)=>Ww (.slice ad N cap) L W (by rw [hN];exact hr.keeps hW (by simp)) j1;have hrgt:=λW (hW:Keeps (λ_=>False) w W)=>Tf t adt ct n L ad cap N td W hn (htr.keeps hW (by simp)) hN (hr.keeps hW (by simp)) hl htl;obtain⟨w4,hw4⟩:∃x,x=(((w.alloc (.cells #[.int .i64 t.limit,.slice adt n ct,.int .i64 t.cyc,.int .i64 t.due,.int .i64 t.minFixed,.int .i64 t.minPart,.int .i64 t.start] 24)).alloc (.cells #[f0,f1,f2] 109)).alloc (.cells #[.slice none 0 0,.int .i64 0,.int .i64 0] 35)).alloc (.cells #[.int .i64 0,.int .i64 0] 55):=⟨_,rfl⟩
 have hS4:∀W,Keeps (λ_=>False) w4 W->wkS w.heap.size t (.slice adt n ct) f0 f1 f2 W:=λW hW=>by
  have h1:=Ac (Ap (Ap (Av (w.alloc (.cells #[.int .i64 t.limit,.slice adt n ct,.int .i64 t.cyc,.int .i64 t.due,.int .i64 t.minFixed,.int .i64 t.minPart,.int .i64 t.start] 24)) (.cells #[f0,f1,f2] 109) (i:=w.heap.size+1) (by simp)) (.cells #[.slice none 0 0,.int .i64 0,.int .i64 0] 35)) (.cells #[.int .i64 0,.int .i64 0] 55)) (hw4▸hW) (by simp);exact⟨tbS.of (Ac (Ap (Ap (Ap (heap_alloc_new w _) _) _) _) (hw4▸hW) (by simp)),Aa h1 0,Aa h1 1,Aa h1 2⟩
 have hk4:Keeps (λ_=>False) w w4:=by rw [hw4];exact((Keeps.alloc _ _).Af).Af.Af
 have hp4:w4.heap[w.heap.size+2]?=some (.cells #[.slice none 0 0,.int .i64 0,.int .i64 0] 35 (0,0)):=by rw [hw4];exact Ap (Av _ _ (by simp)) _
 have hs4:w4.heap[w.heap.size+3]?=some (.cells #[.int .i64 0,.int .i64 0] 55 (0,0)):=by rw [hw4];exact Av _ _ (by simp)
 obtain⟨z,hz⟩:∃z,Cs t L td=z:=⟨_,rfl⟩;obtain⟨R,hR⟩:∃R,walkR t L td=R:=⟨_,rfl⟩;obtain⟨A,hA⟩:∃A,allL t.start t.cyc td=A:=⟨_,rfl⟩;obtain⟨y,hy⟩:∃y,ghR γ t L td a0=y:=⟨_,rfl⟩;have hR':=hR;unfold walkR at hR';rw [hz] at hR' hf hrgt;rw [hA] at hR';rw [hR,hy];obtain⟨HGJ,HJ0,HI0,HG0,Hy,Htr,Hr,Hsrt,Hrgt⟩:=hid9 hGJ hJ0 hI0 hG0 hy htr hr hsrt hrgt;clear hrgt hsrt hr htr hy hG0 hI0 hJ0 hGJ;obtain⟨HS4,Hk4,Hp4,Hs4,HR,HR',Hf,HN,Hn⟩:=hid9 hS4 hk4 hp4 hs4 hR hR' hf hN hn;clear hn hN hf hR' hR hs4 hp4 hk4 hS4;have Hz:=Lib.hid hz;clear hz;go_enter Tryz.func53,Tryz.ntmps53;go_wp2;refine Ji 1 0 (wkJ1 V γ J w t n (.slice adt n ct) f0 f1 f2 (sortL L) td A R y z) (wkJ0 V w R) (λa W=>(td+1-Ci W (ptB a) 9).toNat) (λ_ _=>0) rfl rfl ?_ ?_ ?_
 ·rintro a' W ⟨e,u,rfl,hb,⟨aI,GI,hI,hk,hGb⟩,he,hRe⟩;unfold wk0Fr;refine j2u ?_;intro d0 d1 d2 e0 e1 e2 dl;have hkz:=hk.trans ((((Keeps.setCell (S:=λi=>w.heap.size<=i) W ⟨w.heap.size+1+1,0,none⟩ (.slice none 0 0) (by simp;omega)).trans (Keeps.setCell _ ⟨w.heap.size+1+1,1,none⟩ (.int .i64 0) (.inl (by simp;omega)))).trans (Keeps.setCell _ ⟨w.heap.size+1+1,2,none⟩ (.int .i64 0) (.inl (by simp;omega)))).mono λi _ h=> .inr h);have hb3:(((W.setCell ⟨w.heap.size+1+1,0,none⟩ (.slice none 0 0)).setCell ⟨w.heap.size+1+1,1,none⟩ (.int .i64 0)).setCell ⟨w.heap.size+1+1,2,none⟩ (.int .i64 0)).heap[w.heap.size+1+1]?=some (.cells #[.slice none 0 0,.int .i64 0,.int .i64 0] 35 (0,0)):=(heap_setCell_same _ _ 2 _ _ _ ((heap_setCell_same _ _ 1 _ _ _ ((heap_setCell_same _ _ 0 _ _ _ hb).trans rfl)).trans rfl)).trans rfl;have hI3:∃a G,V.I a G (((W.setCell ⟨w.heap.size+1+1,0,none⟩ (.slice none 0 0)).setCell ⟨w.heap.size+1+1,1,none⟩ (.int .i64 0)).setCell ⟨w.heap.size+1+1,2,none⟩ (.int .i64 0))/\Keeps G w (((W.setCell ⟨w.heap.size+1+1,0,none⟩ (.slice none 0 0)).setCell ⟨w.heap.size+1+1,1,none⟩ (.int .i64 0)).setCell ⟨w.heap.size+1+1,2,none⟩ (.int .i64 0)):=⟨aI,GI,V.fr hI λb hb=>(((Keeps.setCell (S:=λi=>i=w.heap.size+1+1) W ⟨w.heap.size+1+1,0,none⟩ (.slice none 0 0) rfl).trans (Keeps.setCell _ ⟨w.heap.size+1+1,1,none⟩ (.int .i64 0) (.inl rfl))).trans (Keeps.setCell _ ⟨w.heap.size+1+1,2,none⟩ (.int .i64 0) (.inl rfl))).block b (V.lt hI hb) (λe=>hGb (by have e':b=w.heap.size+1+1:=e;exact e'▸hb)),hkz⟩;obtain⟨HI,HGb,HI3,Hb,Hk,He,HRe,Hkz,Hb3⟩:=hid9 hI hGb hI3 hb hk he hRe hkz hb3;clear hb3 hkz hRe he hk hb hI3 hGb hI;go_wp2;refine Gn ?_;have r0:=Aa Hb3.out 0;have r1:=Aa Hb3.out 1;have r2:=Aa Hb3.out 2;clear d0 d1 d2;exact bodyPost_ret (v:= .tuple #[.agg #[.slice none 0 0,.int .i64 0,.int .i64 0],.slice none 0 0,.slice none 0 0,.int .i64 e]) (by simp [results,Tryz.results53,go_sem,r0,r1,r2]) rfl (.inr ⟨by rw [HRe.out];exact He.out,by rw [HRe.out],HI3.out⟩)
 ·intro hp0;rintro a' W ⟨hz0,s,aI,B,vS,u,rfl,hd,hp,hgs,hJs⟩;unfold wkFr;obtain⟨vl,vb,vr,g0,g1,S0,S1,vo,P,hri⟩:=hd.run;obtain⟨Gv,hrv,_,_,_⟩:=id hri;have hpr0:s.p.Ar=true:=by obtain⟨_,_,_,_,_,_,_,_,hs0,_⟩:=hp.sp;exact hs0.pr
  obtain⟨Z,hZ⟩:∃Z,evR s.day ((sortL L).drop s.i) s.i s.p s.R=Z:=⟨_,rfl⟩;have hrok:=Cn (Hz.out.trans hz0);have hnum:=Ck hrok.tm;rw [Hn.out] at hnum;obtain⟨⟨l0,l1⟩,_⟩:=hnum;have hn1:n<=1000:=j3;have hev:=(Hf.out hz0).1 hri hn1 (by rw [Ec,HN.out];exact hl) hp.i hpr0 Z hZ;have hbd:=lt_of_block hrv.blk;obtain⟨E,hE⟩:∃E,Z.2.2.2=E:=⟨_,rfl⟩;rw [hE] at hev;have hperr:=hp.err;rw [hZ,hE] at hperr;have hmeas:Ci W B 9<td+1:=by rw [Cq (Aa hrv.blk 9)];have:=hp.dt;omega
  by_cases hE0:E=0
  ·subst hE0;obtain⟨sd,hsd⟩:∃x,s.day=x:=⟨_,rfl⟩;by_cases hday:s.day=td
   ·have hlast:=hp.last hday;rw [hZ,hE] at hlast;have hgl:=hgs.last hday;obtain⟨HJs,Hgs,Hgl,Hri,Hpr0,Hd,Hp,Hrv,HZ⟩:=hid9 hJs hgs hgl hri hpr0 hd hp hrv hZ;clear hZ hrv hp hd hpr0 hri hgl hgs hJs;obtain⟨Hev,HE,Hperr,Hlast,Hmeas,Hday,Hrok,L0⟩:=hid8 hev hE hperr hlast hmeas hday hrok l0;clear l0 hrok hday hmeas hlast hperr hE hev;go_wp2_with fail;refine(Hev.out).mono ?_;rintro e w1 ⟨rfl,vb',vr',a1,hea,hr1i⟩;obtain⟨G1,hr1,_,_,_⟩:=id hr1i;obtain⟨ab,cb,rfl⟩:∃a c,vb'= .slice a n c:=by obtain⟨a,c,h,_⟩:=Ad hr1.bal;exact⟨a,c,h⟩
    have hd1:=Hd.out.call hr1i;have hay:a1=y:=by rw [hea (by first|exact HE.out|trivial),Hgl.out]
    have c9:w1.cell? ⟨B,9,none⟩=some (.int .i64 sd):=by rw [<-hsd];exact Aa hr1.blk 9
    have bl:=lt_of_block hr1.blk;clear hea;obtain⟨Hr1,Hr1i,Hd1,Hay⟩:=hid4 hr1 hr1i hd1 hay;clear hay hd1 hr1i hr1;have hdI:(sd==td)=true:=by rw [<-hsd,Hday.out];simp
    go_wp2_with fail;obtain⟨pc,hpc⟩:∃x,(evSt s Z).p.cr=x:=⟨_,rfl⟩;obtain⟨pd,hpd⟩:∃x,(evSt s Z).p.du=x:=⟨_,rfl⟩
    have hS1:w17S B (.slice ab n cb) pc pd vr' vo w1.drew:=by
     rw [<-hpc,<-hpd];exact(show w17S B (.slice ab n cb) (evSt s Z).p.cr (evSt s Z).p.du vr' vo w1 from⟨Aa Hr1.out.blk 10,Aa Hr1.out.blk 11,Aa Hr1.out.blk 12,Aa Hr1.out.blk 13,Aa Hr1.out.blk 16⟩).keep (S:=λ_=>False) (Keeps.drew _) (by simp)
    have hBX:¬B=w.heap.size+1+1:=λe=>Hr1.out.wB.2 (.inl (.inl e));obtain⟨Hpc,Hpd,HS1⟩:=hid3 hpc hpd hS1;clear hS1 hpd hpc;clear c9;refine Ak (w17S B (.slice ab n cb) pc pd vr' vo) (.take 0 (.take 1 (.take 2 (.take 3 (.take 4 (.take 5 (.take 6 (.take 7 (.take 8 (.take 9 (.take 10 (.take 11 (.move 12 (.take 13 (.take 14 (.take 15 .done)))))))))))))))) j4 j4 ?_ ?_
    ·exact HS1.out
    intro w2 hs2 hk2;have hd2:=Hd.out.call (Hr1i.out.keep0 hk2);have hr2:=Hr1.out.keep0 hk2;obtain⟨G2,hI2,hkG,hGb⟩:=hd2.keeps;have e0:=Ab hd2.pos 0;have e1:=Ab hd2.pos 1;have e2:=Ab hd2.pos 2;have d0:=Aa hd2.pos 0;have d1:=Aa hd2.pos 1;have d2:=Aa hd2.pos 2;have dl:=lt_of_block hd2.pos;refine jR ?_;have hkz:Keeps (λi=>i=w.heap.size+1+1) w2 (((w2.setCell ⟨w.heap.size+1+1,0,none⟩ (.slice ab n cb)).setCell ⟨w.heap.size+1+1,1,none⟩ (.int .i64 pc)).setCell ⟨w.heap.size+1+1,2,none⟩ (.int .i64 pd)):=((Keeps.setCell (S:=λi=>i=w.heap.size+1+1) _ _ _ rfl).trans (Keeps.setCell _ _ _ (.inl rfl))).trans (Keeps.setCell _ _ _ (.inl rfl));have hb3:(((w2.setCell ⟨w.heap.size+1+1,0,none⟩ (.slice ab n cb)).setCell ⟨w.heap.size+1+1,1,none⟩ (.int .i64 pc)).setCell ⟨w.heap.size+1+1,2,none⟩ (.int .i64 pd)).heap[w.heap.size+1+1]?=some (.cells #[.slice ab n cb,.int .i64 pc,.int .i64 pd] 35 (0,0)):=(heap_setCell_same _ _ 2 _ _ _ ((heap_setCell_same _ _ 1 _ _ _ ((heap_setCell_same _ _ 0 _ _ _ hd2.pos).trans rfl)).trans rfl)).trans rfl;have hres:=Xg hr2 hkz (.inl (.inl rfl)) j1 hkG;have hI3:=V.fr hI2 λb hb=>hkz.block b (V.lt hI2 hb) (λe=>hGb (by have e':b=w.heap.size+1+1:=e;exact e'▸hb));obtain⟨Hkz,Hb3,Hres,Hr2,Hd2,Hk2,HI2,HkG,HGb⟩:=hid9 hkz hb3 hres hr2 hd2 hk2 hI2 hkG hGb;clear hGb hkG hI2 hk2 hd2 hr2 hres hb3 hkz;have HI3:=Lib.hid hI3;clear hI3;refine j7 ?_;intro K hK;refine hK.out _ _ (by exact hs2.keep Hkz.out hBX) ?_;clear hK K;refine jg ?_;clear d0 d1 d2 e0 e1 e2 hs2;go_wp2;refine Gn ?_;have r0:=Aa Hb3.out 0;have r1:=Aa Hb3.out 1;have r2:=Aa Hb3.out 2;exact bodyPost_ret (v:= .tuple #[.agg #[.slice ab n cb,.int .i64 pc,.int .i64 pd],vr',vo,.int .i64 0]) (by simp [results,Tryz.results53,go_sem,r0,r1,r2]) rfl (.inl ⟨by rw [Hlast.out],.slice ab n cb,vr',vo,P,G2,by rw [Hlast.out,<-Hpc.out,<-Hpd.out],by rw [Hlast.out];exact Hres.out,by rw [<-Hay.out];exact HI3.out⟩)
   ·obtain⟨fr,te,hget,hsok,hst1,hfr,hte,hlt,hg1,hg2,hg3⟩:=hp.go (by rw [hZ];exact hE) hday hrok.tm Hn.out;have hgg:=hgs.go (by rw [hZ];exact hE) (by have:=hp.dt;omega) hget;rw [hZ] at hst1 hg1 hg2 hg3 hgg;rw [hsd] at hg1 hg2 hg3 hfr hte;have hsd0: -135140<=sd:=by have:=hsok.lo;omega
    have hsd1:sd<=2932896:=by have:=hsok.hi;omega
    obtain⟨_,_,_,_,hsok0,_,hfr0,hte0,hs0,_⟩:=hp.sp;have hlen0:∀r∈(evSt s Z).e0,r.length<=100000:=λr hr=>by have:=(hs0.m0 r hr).1;have:=hsok0.sh;omega
    have hlen1:∀r∈(evSt s Z).e1,r.length<=100000:=λr hr=>by have:=(hs0.m1 r hr).1;have:=hsok0.sh;omega
    obtain⟨g,o,cS,hvS,_⟩:=(Reads.Ay hd.row).elem (f:=spc) (size:=2) (λp=>rfl) hget j2;subst hvS;obtain⟨s2,hs2⟩:∃x,endSt (evSt s Z) n n=x:=⟨_,rfl⟩;have hs2d:s2.day=sd:=by rw [<-hs2];exact hsd
    have hs2o:s2.out=s.out:=by rw [<-hs2];rfl
    rw [hs2] at hst1 hg1 hg2 hg3;obtain⟨C,hC⟩:∃C,Dh t (sortL L) n s2 fr te=C:=⟨_,rfl⟩;rw [hC] at hg2 hg3;have hdI:(sd==td)=false:=beq_eq_false_iff_ne.2 (by rw [<-hsd];exact hday);obtain⟨mA,hmA⟩:∃x,A.length=x:=⟨_,rfl⟩;rw [hmA] at hlt hd hrv hev⊢;obtain⟨mo,hmo⟩:∃x,P.length=x:=⟨_,rfl⟩;obtain⟨av,cv,rfl⟩:∃a c,vo= .slice a mo c:=by obtain⟨a,c,h,_⟩:=Ad hrv.out;rw [hmo] at h;exact⟨a,c,h⟩
    have hmo2:s.out.length=mo:=by rw [<-hrv.lp,List.length_map];exact hmo
    rw [hmo2] at hlt hget;have hltI:(mo:Int)<(mA:Int):=j3;have hmA3:mA<=300:=by rw [<-hmA,<-hA];exact Gf _ _ _
    obtain⟨HJs,Hgs,Hgg,Hri,Hpr0,Hd,Hp,Hrv,HZ⟩:=hid9 hJs hgs hgg hri hpr0 hd hp hrv hZ;clear hZ hrv hp hd hpr0 hri hgg hgs hJs;obtain⟨Hev,HE,Hperr,Hmeas,Hday,Hrok,L0,Hget,Hsok⟩:=hid9 hev hE hperr hmeas hday hrok l0 hget hsok;clear hsok hget l0 hrok hday hmeas hperr hE hev;obtain⟨Hst1,Hfr,Hte,Hg1,Hg2,Hg3,Hs0,Hsok0,Hfr0⟩:=hid9 hst1 hfr hte hg1 hg2 hg3 hs0 hsok0 hfr0;clear hfr0 hsok0 hs0 hg3 hg2 hg1 hte hfr hst1;obtain⟨Hte0,Hlen0,Hlen1,Hs2,Hs2d,Hs2o,HC,HmA,Hmo⟩:=hid9 hte0 hlen0 hlen1 hs2 hs2d hs2o hC hmA hmo;clear hmo hmA hC hs2o hs2d hs2 hlen1 hlen0 hte0;have Hmo2:=Lib.hid hmo2;clear hmo2;go_wp2_with fail;refine(Hev.out).mono ?_;rintro e w1 ⟨rfl,vb',vr',a1,hea,hr1i⟩;have hae:=hea (by first|exact HE.out|trivial);obtain⟨G1,hr1,_,_,_⟩:=id hr1i;have c9:w1.cell? ⟨B,9,none⟩=some (.int .i64 sd):=by rw [<-hsd];exact Aa hr1.blk 9
    have bl:=lt_of_block hr1.blk;have hend:=(Hf.out hz0).2.1 hr1i.self hn1 Hlen0.out Hlen1.out (by have:=Hst1.out.pr;rw [<-Hs2.out] at this;exact this) (by rw [hae];exact Uh HGJ.out _ _ _ _ _ HJs.out) (by show -135140<=s.day;rw [hsd];exact hsd0) (by show s.day<=2932896;rw [hsd];exact hsd1);rw [Hs2.out] at hend;clear hea;obtain⟨Hr1,Hr1i,Hend,Hae⟩:=hid4 hr1 hr1i hend hae;clear hae hend hr1i hr1;go_wp2_with fail;refine(Hend.out).mono ?_;rintro e w2 ⟨rfl,S0',S1',hr2i⟩;have hd2:=(Hd.out.call Hr1i.out).call hr2i;obtain⟨G2,hr2,_,_,_⟩:=id hr2i;obtain⟨g',o',c',he',hc'⟩:=(Reads.Ay hd2.row).elem (f:=spc) (size:=2) (λp=>rfl) Hget.out j2;rw [HmA.out] at he';simp only [Value.slice.injEq,true_and,Option.some.injEq,Addr.mk.injEq,and_true] at he';obtain⟨⟨rfl,rfl⟩,rfl⟩:=he';have x0:w2.cell? ⟨g,o+mo*2,none⟩=some (.int .i64 fr):=hc' 0 j2;have x1:w2.cell? ⟨g,o+mo*2+1,none⟩=some (.int .i64 te):=hc' 1 j2;have c16:=Aa hr2.blk 16;have bl2:=lt_of_block hr2.blk;obtain⟨sx,sy,hsn⟩:=hd2.spn;have d0:=Aa hsn 0;have d1:=Aa hsn 1;have e0:=Ab hsn 0;have e1:=Ab hsn 1;have dl:=lt_of_block hsn;obtain⟨hd3,hsn3⟩:=hd2.span fr te;clear c9 bl hc';obtain⟨Hr2,Hr2i,Hd2,Hsn,Hd3,Hsn3⟩:=hid6 hr2 hr2i hd2 hsn hd3 hsn3;clear hsn3 hd3 hsn hd2 hr2i hr2;go_wp2_with fail;clear x0 x1 c16 bl2 d0 d1 e0 e1 dl;obtain⟨w3,hw3⟩:∃x,x=((w2.setCell ⟨w.heap.size+1+1+1,0,none⟩ (.int .i64 fr)).setCell ⟨w.heap.size+1+1+1,1,none⟩ (.int .i64 te)):=⟨_,rfl⟩;rw [<-hw3] at Hd3 Hsn3⊢;clear hw3
    have hS3:w20S (w.heap.size+1+1+1) B te sd w3.drew:=⟨Aa Hsn3.out 1,by
     obtain⟨_,_,_,_,_,_,_,_,_,_,h,_⟩:=Hd3.out.run
     rw [<-Hs2d.out];exact Aa h.blk 9⟩
    have HS3:=Lib.hid hS3;clear hS3;refine Ak (w20S (w.heap.size+1+1+1) B te sd) (.take 0 (.take 1 (.take 2 (.take 3 (.take 4 (.take 5 (.take 6 .done))))))) j4 j4 ?_ ?_
    ·exact HS3.out
    intro w4 hs4 hk4;refine jf ?_;have hd4:=Hd3.out.keep0 hk4;have hsn4:=Ac Hsn3.out hk4 (by simp);have hcs:Ci W B 9=sd:=by rw [<-hsd];exact Cq Hd.out.c9.1
    clear hs4;by_cases hte0:te=sd
    ·have hteI:(te==sd)=true:=by simp [hte0]
     have d0:=Aa hsn4 0;have d1:=Aa hsn4 1;have dl:=lt_of_block hsn4;obtain⟨vl4,vb4,vr4,g40,g41,S40,S41,vo4,P4,hr4i⟩:=hd4.run;have hst2:=Hst1.out;have hle40:(s.day-fr).toNat+1<=40000:=by have:=Hsok.out.sh;have:=Hte.out;rw [hsd];omega
     have hcl:=(Hf.out hz0).2.2 hr4i Hrok.out.tm Hn.out (by rw [Ec,HN.out];exact hl) (λx hx=>Sb (Hrok.out.ev x ((Gt L).2.mem hx))) hst2.pr hst2.rt (λr hr=>(hst2.m0 r hr).2) (λr hr=>(hst2.m1 r hr).2) (hst2.lens hle40) (by rw [Hs2o.out,Hmo2.out];omega) fr te ⟨Hsok.out.lo,Hsok.out.le,Hsok.out.hi⟩ C HC.out;rcases C with _|s'
     ·have hR5:=Hg2.out hte0 rfl;obtain⟨Hd4,Hsn4,Hcs,Hr4i,Hst2,Hle40,Hcl,HR5,Hte0⟩:=hid9 hd4 hsn4 hcs hr4i hst2 hle40 hcl hR5 hte0;clear hte0 hR5 hcl hle40 hst2 hr4i hcs hsn4 hd4;go_wp2_with fail;refine(Hcl.out).mono ?_;rintro e w5 ⟨rfl,hr5⟩;have hd5:=Hd4.out.call hr5;obtain⟨Hr5,Hd5⟩:=hid2 hr5 hd5;clear hd5 hr5;go_wp2_with fail;go_step3;go_wp2;refine Pj ⟨wkJ0.mk 5 rfl Hd5.out.pos ⟨_,Hd5.out.keeps⟩ j2 HR5.out, ?_⟩;show _<td+1;exact Hmeas.out
     ·have hp5:=Hg3.out hte0 s' rfl;obtain⟨_,c2,_,hs5⟩:=Jz Hrok.out.tm Hn.out hst2 HC.out;have hg5:=Hgg.out.2 (by rw [hsd];exact hte0) s' (by rw [Hs2.out];exact HC.out) (by rw [c2,Hs2o.out]);have hae':=Hae.out;rw [hsd] at hae';rw [Hs2.out,hsd,<-hae'] at hg5;have hJ5:=HGJ.out.cl _ _ s2 s' (HGJ.out.day _ _ (evSt s Z).p (Uh HGJ.out s.day ((sortL L).drop s.i) s.p s.R aI HJs.out));rw [hsd,<-hae'] at hJ5;rw [Hs2d.out] at hs5;obtain⟨Hd4,Hsn4,Hcs,Hr4i,Hst2,Hle40,Hcl,Hp5,Hte0⟩:=hid9 hd4 hsn4 hcs hr4i hst2 hle40 hcl hp5 hte0;clear hte0 hp5 hcl hle40 hst2 hr4i hcs hsn4 hd4;obtain⟨Hs5,Hg5,HJ5⟩:=hid3 hs5 hg5 hJ5;clear hJ5 hg5 hs5;go_wp2_with fail;refine(Hcl.out).mono ?_;rintro e w5 ⟨rfl,vb5,g50,g51,vo5,P5,hr5⟩;have hd5:=Hd4.out.call hr5;obtain⟨c9,f9,bl9⟩:=hd5.c9;rw [Hs5.out] at c9;have hd6:=hd5.day (sd+1);clear d0 d1 dl;obtain⟨Hr5,Hd5,Hd6⟩:=hid3 hr5 hd5 hd6;clear hd6 hd5 hr5;exact j5h
    ·have hteI:(te==sd)=false:=beq_eq_false_iff_ne.2 hte0;have hp5:=Hg1.out hte0;have hg5:=Hgg.out.1 (by rw [hsd];exact hte0);have hae':=Hae.out;rw [hsd] at hae';rw [Hs2.out,hsd,<-hae'] at hg5;have hJ5:=HGJ.out.day _ _ (evSt s Z).p (Uh HGJ.out s.day ((sortL L).drop s.i) s.p s.R aI HJs.out);rw [hsd,<-hae'] at hJ5;obtain⟨c9,f9,bl9⟩:=hd4.c9;rw [Hs2d.out] at c9;have hd6:=hd4.day (sd+1);obtain⟨Hd4,Hsn4,Hcs,Hp5,Hte0,Hd6,Hg5,HJ5⟩:=hid8 hd4 hsn4 hcs hp5 hte0 hd6 hg5 hJ5;clear hJ5 hg5 hd6 hte0 hp5 hcs hsn4 hd4;exact j5h
  ·have hEb:(E==0)=false:=beq_eq_false_iff_ne.2 hE0;obtain⟨HJs,Hgs,Hri,Hpr0,Hd,Hp,Hrv,HZ,Hev⟩:=hid9 hJs hgs hri hpr0 hd hp hrv hZ hev;clear hev hZ hrv hp hd hpr0 hri hgs hJs;obtain⟨HE,Hperr,HE0,Hmeas,Hrok,L0⟩:=hid6 hE hperr hE0 hmeas hrok l0;clear l0 hrok hmeas hE0 hperr hE;go_wp2_with fail;refine(Hev.out).mono ?_;rintro e w1 ⟨rfl,vb',vr',a1,_,hr1⟩;have hd1:=Hd.out.call hr1;obtain⟨Hr1,Hd1⟩:=hid2 hr1 hd1;clear hd1 hr1;go_wp2_with fail;go_step3;go_wp2;refine Pj ⟨wkJ0.mk E rfl Hd1.out.pos ⟨_,Hd1.out.keeps⟩ HE0.out (Hperr.out HE0.out), ?_⟩;show _<td+1;exact Hmeas.out
 ·intro hp1;go_wp2_with fail;rw [<-hw4];clear hw4;have hS5:=HS4.out w4.drew (Keeps.drew _);have HS5:=Lib.hid hS5;clear hS5;refine Ak (wkS w.heap.size t (.slice adt n ct) f0 f1 f2) (.take 0 (.take 1 (.take 3 (.take 4 (.take 5 (.move 2 (.take 6 (.move 7 (.take 8 .done))))))))) j4 j4 ?_ ?_
  ·exact HS5.out
  intro w5 hs5 hk5;refine j2v ?_;have hk5w:=Hk4.out.nt hk5;refine j7 ?_;intro K hK
  go_at_call 102
  ((with_reducible refine(Hsrt.out _ hk5w).mono ?_);rintro e w6 ⟨vl,rfl,hrl,hk6,hnl⟩;dsimp only)
  obtain⟨al,cl,rfl⟩:∃a c,vl= .slice a N c:=by obtain⟨a,c,h,_⟩:=Ad hrl;rw [HN.out] at h;exact⟨a,c,h⟩
  refine hK.out _ _ (by exact hs5.keep hk6) ?_;clear hK K;refine j5 ?_;refine j2v ?_;refine j7 ?_;intro K hK;refine hK.out _ _ (by exact(hs5.keep hk6).keep (Keeps.alloc _ _)) ?_;clear hK K;refine j5 ?_;refine j2v ?_;refine Ao ?_;have hk7:=(hk5w.nt hk6).Af (o:= .cells #[.int .i64 t.limit,.slice adt n ct,.int .i64 t.cyc,.int .i64 t.due,.int .i64 t.minFixed,.int .i64 t.minPart,.int .i64 t.start,.slice al N cl,.int .i64 0,.int .i64 t.start,.slice none 0 0,.int .i64 0,.int .i64 0,.slice none 0 0,.slice none 0 0,.slice none 0 0,.slice none 0 0,f0,f1,f2] 178);have hb7:=heap_alloc_new w6 (.cells #[.int .i64 t.limit,.slice adt n ct,.int .i64 t.cyc,.int .i64 t.due,.int .i64 t.minFixed,.int .i64 t.minPart,.int .i64 t.start,.slice al N cl,.int .i64 0,.int .i64 t.start,.slice none 0 0,.int .i64 0,.int .i64 0,.slice none 0 0,.slice none 0 0,.slice none 0 0,.slice none 0 0,f0,f1,f2] 178);have hr7:=hrl.alloc (.cells #[.int .i64 t.limit,.slice adt n ct,.int .i64 t.cyc,.int .i64 t.due,.int .i64 t.minFixed,.int .i64 t.minPart,.int .i64 t.start,.slice al N cl,.int .i64 0,.int .i64 t.start,.slice none 0 0,.int .i64 0,.int .i64 0,.slice none 0 0,.slice none 0 0,.slice none 0 0,.slice none 0 0,f0,f1,f2] 178);have hk47:Keeps (λ_=>False) w4 _:=(hk5.nt hk6).Af (o:= .cells #[.int .i64 t.limit,.slice adt n ct,.int .i64 t.cyc,.int .i64 t.due,.int .i64 t.minFixed,.int .i64 t.minPart,.int .i64 t.start,.slice al N cl,.int .i64 0,.int .i64 t.start,.slice none 0 0,.int .i64 0,.int .i64 0,.slice none 0 0,.slice none 0 0,.slice none 0 0,.slice none 0 0,f0,f1,f2] 178);have hBw:w.heap.size<=w6.heap.size:=(hk5w.nt hk6).size;have hBn:w6.heap.size≠w.heap.size:=by have:=lt_of_block Hp4.out;have:=(hk5.nt hk6).size;omega
  have hnl':∀g,(Value.slice al N cl).ownBlock=some g->w.heap.size<=g:=λg hg=>by have:=hnl g hg;have:=hk5w.size;omega
  obtain⟨w7,hw7⟩:∃x,x=w6.alloc (.cells #[.int .i64 t.limit,.slice adt n ct,.int .i64 t.cyc,.int .i64 t.due,.int .i64 t.minFixed,.int .i64 t.minPart,.int .i64 t.start,.slice al N cl,.int .i64 0,.int .i64 t.start,.slice none 0 0,.int .i64 0,.int .i64 0,.slice none 0 0,.slice none 0 0,.slice none 0 0,.slice none 0 0,f0,f1,f2] 178):=⟨_,rfl⟩;rw [<-hw7] at hk7 hb7 hr7 hk47⊢;obtain⟨B,hB⟩:∃x,x=w6.heap.size:=⟨_,rfl⟩;rw [<-hB] at hb7 hBw hBn⊢;clear hB hw7 hs5 hk5 hk5w hk6 hrl hnl;obtain⟨b0,b1,b2,b3,b4,b5,b6⟩:=(HS4.out w7 hk47).1;have bbl:=Ai b0;have hp7:=Ac Hp4.out hk47 (by simp);have hs7:=Ac Hs4.out hk47 (by simp);obtain⟨Hk7,Hb7,Hr7,Hk47,Hnl',Hp7,Hs7⟩:=hid7 hk7 hb7 hr7 hk47 hnl' hp7 hs7;clear hs7 hp7 hnl' hk47 hr7 hb7 hk7;go_wp2_with fail;refine(Hrgt.out _ Hk7.out).mono ?_;rintro e w8 ⟨rfl,hk8⟩;by_cases hz0:z=0
  ·have hrok:=Cn (Hz.out.trans hz0);have hnum:=Ck hrok.tm;rw [Hn.out] at hnum;obtain⟨⟨l0,l1⟩,_,_,_,_,_,⟨sa,sb⟩⟩:=hnum;have hzI:(z==0)=true:=by simp [hz0]
   have hall:=λW=>Yn t.start t.cyc td W j1;rw [hA] at hall;clear b0 b1 b2 b3 b4 b5 b6 bbl;obtain⟨b0,b1,b2,b3,b4,b5,b6⟩:=(HS4.out w8 (Hk47.out.nt hk8)).1;have bbl:=Ai b0;obtain⟨Hk8,Hall,Hrok,Hz0⟩:=hid4 hk8 hall hrok hz0;clear hz0 hrok hall hk8;go_wp2_with fail;refine(Hall.out _).mono ?_;rintro e w9 ⟨vS,rfl,hrow,hk9,hnS⟩;clear b0 b1 b2 b3 b4 b5 b6 bbl;have hk89:=Hk8.out.nt hk9;have hb9:=Ac Hb7.out hk89 (by simp);obtain⟨b0,b1,b2,b3,b4,b5,b6⟩:=(HS4.out w9 (Hk47.out.nt hk89)).1;have bbl:=Ai b0;have c10:=Aa hb9 10;have f10:=Ab hb9 10;have bl9:=lt_of_block hb9;obtain⟨i0,hi,hi0,hi1,hi2⟩:=info_parts Ca;refine jU ?_;intro hmk;simp only [Int.toNat_natCast,hi1,Nat.mul_one] at hmk;obtain⟨Y,hY⟩:∃Y,Y=madeCells (Value.int IntKind.i64 0).cells n:=⟨_,rfl⟩;rw [<-hY] at hmk;obtain⟨Hi,Hi0,Hi1,Hi2,HY,Hrow,Hk9,HnS,Hk89⟩:=hid9 hi hi0 hi1 hi2 hY hrow hk9 hnS hk89;clear hk89 hnS hk9 hrow hY hi2 hi1 hi0 hi;have Hb9:=Lib.hid hb9;clear hb9;go_wp2
   have hpre:PreR w B (w.heap.size+1+1) (w.heap.size+1+1+1) t n (.slice adt n ct) (sortL L) A vS (.slice al N cl) (.slice (some ⟨w9.heap.size,0,none⟩) n n) f0 f1 f2 (.slice none 0 0) 0 ((w9.setCell ⟨B,10,none⟩ (.slice (some ⟨w9.heap.size,0,none⟩) n n)).alloc (.cells Y 2)):=by
    have hl8:w.heap.size+1+1+1<w8.heap.size:=by have:=lt_of_block Hs7.out;have:=Hk8.out.size;omega
    rw [HY.out,<-World.setCell_alloc_past _ _ _ _ bl9];exact PreR.start Hb9.out (HS4.out w9 (Hk47.out.nt Hk89.out)).1 (by rw [Ec];exact Hr7.out.of_keeps Hk89.out) (Ac Hp7.out Hk89.out (by simp)) (Ac Hs7.out Hk89.out (by simp)) Hrow.out ⟨by omega,by omega,hBw,λg hg=>by have:=HnS.out g hg;omega⟩ (λg hg=>by have:=HnS.out g hg;omega) Hnl'.out j6 hBn (Hk7.out.nt Hk89.out)
   obtain⟨W0,hW0⟩:∃x,x=((w9.setCell ⟨B,10,none⟩ (.slice (some ⟨w9.heap.size,0,none⟩) n n)).alloc (.cells Y 2)):=⟨_,rfl⟩;rw [<-hW0] at hpre⊢;clear hW0;obtain⟨vb,hvb⟩:∃x,x=(Value.slice (some ⟨w9.heap.size,0,none⟩) n n):=⟨_,rfl⟩;rw [<-hvb] at hpre;clear hvb b0 b1 b2 b3 b4 b5 b6 bbl c10 f10 bl9 hmk;have Hpre:=Lib.hid hpre;clear hpre
   go_loopw [49] (λx wx=>∃(k:Nat) (vr:Value),x= .int .i64 (k:Nat)/\k<=n/\PreR w B (w.heap.size+1+1) (w.heap.size+1+1+1) t n (.slice adt n ct) (sortL L) A vS (.slice al N cl) vb f0 f1 f2 vr k wx) (λx _=>n-(intOf x).toNat)
   case atStart=>exact⟨0,_,rfl,Nat.zero_le _,Hpre.out⟩
   case round=>
    obtain⟨k,vr,rfl,hkn,hpr⟩:=hrel;refine jc ?_;intro wq hwq;subst hwq;obtain⟨ar,cr,rfl⟩:∃a c,vr= .slice a k c:=by obtain⟨a,c,h,_⟩:=Ad hpr.rts;exact⟨a,c,h⟩
    by_cases hlt:k<n
    ·have hltI:(k:Int)<(n:Int):=j3;obtain⟨x,hx⟩:=Aj (L:=t.trs) (k:=k) jy;obtain⟨g,o,c',he,hc⟩:=(Htr.out.keeps hpr.kp (by simp)).elem Tn.Aq hx j2;simp only [Value.slice.injEq,true_and] at he;obtain⟨rfl,rfl⟩:=he;obtain⟨xr,xg⟩:=x;have x0:wq.cell? ⟨g,o+k*2,none⟩=some (.int .i64 xr):=hc 0 j2;have x1:wq.cell? ⟨g,o+k*2+1,none⟩=some (.bool xg):=hc 1 j2;clear hc;obtain⟨w10,hw10⟩:∃x,x=wq.alloc (.cells #[.int .i64 xr,.bool xg] 100):=⟨_,rfl⟩;have hpr1:=hpr.keep0 (Keeps.alloc wq (.cells #[.int .i64 xr,.bool xg] 100));rw [<-hw10] at hpr1;have hqB:=lt_of_block hpr.blk;have hqr:¬(Value.slice ar k cr).ownBlock=some wq.heap.size:=λe=>by have:=Bh hpr.rts e;omega
     have hS1:r11S B wq.heap.size (.slice ar k cr) xr w10.drew:=(show r11S B wq.heap.size (.slice ar k cr) xr w10 from⟨Aa hpr1.blk 13,by rw [hw10];exact Aa (heap_alloc_new wq (.cells #[.int .i64 xr,.bool xg] 100)) 0⟩).keep (S:=λ_=>False) (Keeps.drew _) (by simp) (by simp);obtain⟨Hx,Hpr,Hpr1,HS1⟩:=hid4 hx hpr hpr1 hS1;clear hS1 hpr1 hpr hx;go_wp2_with fail;rw [<-hw10];clear hw10 x0 x1;obtain⟨b9,hb9e⟩:∃x,x=wq.heap.size:=⟨_,rfl⟩;rw [<-hb9e] at HS1 hqr hqB⊢;have Hb9e:=Lib.hid hb9e;clear hb9e;refine Cf (r11S B b9 (.slice ar k cr) xr) 11 (.take 0 (.take 1 (.take 2 (.take 3 (.take 4 (.take 5 (.take 6 (.move 7 (.move 8 (.move 9 (.move 10 (.move 11 .done)))))))))))) j4 j4 ?_ ?_
     ·exact HS1.out
     intro w11 hs11 hk11;refine je ?_;intro K hK;refine hK.out _ _ (by exact hs11.keep (S:=λ_=>False) (Keeps.alloc _ _) (by simp) (by simp)) ?_;clear hK K;refine ji ?_;have hk11a:=hk11.nt (Keeps.alloc w11 (.cells #[.int .i64 xr] 2));have hpr2:=Hpr1.out.keep0 hk11a;have hrt2:=hpr2.rts;refine Ae rfl (λK hK=> ?_);refine Ah rfl (.tmp 57) (.tmp 60) 33 rfl 0 2 i0 _ 1 8 Tryz.underlying33 Hi.out Hi0.out Hi1.out Hi2.out rfl j2 (.slice ar k cr) k _ rfl hrt2 _ 1 _ rfl (Reads.litAt _ _ _ 1 1 _ jd rfl) j9 j6 j1 (Nat.zero_le _) ?_;intro v12 w12 hown12 hk12 hf12;obtain⟨a12,c12,rfl,_,_⟩:=Ad hown12;have hxr:(t.trs.map Tn.rate)[k]?=some xr:=by rw [List.getElem?_map,Hx.out];rfl
     have happ:=hpr2.app hBn hxr hk12 (by rw [List.flatMap_append];exact hown12) hf12;have hB12:=Ac hpr2.blk hk12 (λe=>Ag hrt2 hpr2.blk j2 e);have o13:=Aa hB12 13;have f13:=Ab hB12 13;have l13:=lt_of_block hB12;refine hK.out _ _ (by exact(hs11.keep (S:=λ_=>False) (Keeps.alloc _ _) (by simp) (by simp)).keep hk12 (λe=>Ag hrt2 hpr2.blk j2 e) hqr) ?_;clear hK K;refine j5 ?_;obtain⟨Hk11a,Hpr2,Hrt2,Hown12,Hk12,Hxr,Happ,HB12,Hk11⟩:=hid9 hk11a hpr2 hrt2 hown12 hk12 hxr happ hB12 hk11;clear hk11 hB12 happ hxr hk12 hown12 hrt2 hpr2 hk11a;clear hs11 hf12
     repeat (refine Df (v:= ?_) rfl (by rfl) ?_ ?_;rotate_left;(· intro w' hSw;unfold r11S at hSw;go_simp;(try with_reducible rfl));rotate_right;try simp only [aps])
     refine jh ?_;clear o13 f13 l13;exact j5i
    ·obtain rfl:n=k:=by omega
     have hfr0:=Ta hpr.blk j1
     have hne:t.trs.flatMap Tn.cells≠ []:=λe=>by
      have h1:=congrArg List.length e;rw [Gd t.trs,Hn.out] at h1;simp at h1;omega
     have hvb:∀b,(Value.slice adt n ct).ownBlock=some b->b<w.heap.size:=λb hb=>by
      obtain⟨g,hg,hl⟩:=Htr.out.lt hne;rw [hg] at hb;injection hb with hb;omega
     have hps:=DayP.start (Hz.out.trans Hz0.out) Hn.out;rw [hA,HR.out] at hps;have hgs0:DayS γ t (sortL L) n td A (st0 t) a0 y:=by rw [<-Hy.out,<-hA,<-Hn.out];exact rfl
     obtain⟨Hpr,Hfr0,Hne,Hvb,Hps,Hgs0⟩:=hid6 hpr hfr0 hne hvb hps hgs0;clear hgs0 hps hvb hne hfr0 hpr;go_wp2_with fail;refine Hfr0.out.mono ?_;rintro e w12 ⟨rfl,a,b,hBb,ha,hb,la,lb,hab,hk⟩;have hday:=Hpr.out.fin HI0.out (λb hb=>HG0.out (Hz.out.trans Hz0.out) b (by cases adt with|none=>cases hb|some x=>exact hb)) Hn.out Htr.out Hvb.out hBb ha hb la lb hab hk;obtain⟨Hday,HBb,Ha,Hb,La,Lb,Hab,Hk⟩:=hid8 hday hBb ha hb la lb hab hk;clear hk hab lb la hb ha hBb hday;go_wp2_with fail;go_step3;rename_i hK;refine hK _ _ ?_;refine hp1.out _ _ ?_;exact wkJ1.mk (st0 t) a0 B vS (by first|exact Hz0.out|rfl) rfl Hday.out Hps.out Hgs0.out (HJ0.out (Hz.out.trans Hz0.out))
  ·have hzI:(z==0)=false:=beq_eq_false_iff_ne.2 hz0;have hR2:R.2=z:=by have:=HR'.out;rw [if_neg hz0] at this;rw [<-this]
   obtain⟨Hk8,Hz0,HR2⟩:=hid3 hk8 hz0 hR2;clear hR2 hz0 hk8;go_wp2_with fail;go_step3;go_wp2;refine Pj (wkJ0.mk z rfl (Ac Hp7.out Hk8.out (by simp)) ⟨a0,G0,V.fr HI0.out (λb hb=>(Hk7.out.nt Hk8.out).block b (V.lt HI0.out hb) (by simp)),(Hk7.out.nt Hk8.out).mono (by simp),λe=>by have:=V.lt HI0.out e;omega⟩ Hz0.out HR2.out)
theorem Vj(t:Tm)(adt:Option Addr)(ct n:Nat)(L:List Ev)(ad:Option Addr)(cap N:Nat)(td:Int)(f0 f1 f2:Value)(w:World)(hn:t.trs.length=n)(htr:Reads w 2 (.slice adt n ct) n (t.trs.flatMap Tn.cells))(hN:L.length=N)(hr:Reads w 5 (.slice ad N cap) N (L.flatMap Ev.cells))(hl:N<=1000000)(htl:n<=1000000)
  (hf:Cs t L td=0->f0= .nilFunc/\f1= .nilFunc/\f2= .nilFunc):
  Calls Tryz.prog 53 #[.agg #[.int .i64 t.limit,.slice adt n ct,.int .i64 t.cyc,.int .i64 t.due,.int .i64 t.minFixed,.int .i64 t.minPart,.int .i64 t.start],.slice ad N cap,.int .i64 td,.agg #[f0,f1,f2]] w (Mg w n (walkR t L td)):=by
 refine(Ni wt0 ⟨λa _ _ _=>a,λa _=>a,λa _ _=>a⟩ (λ_ _=>True) ⟨λ_ _ _ _ _ h=>h,λ_ _ _ h=>h,λ_ _ _ _ h=>h⟩ () (λ_=>False) t adt ct n L ad cap N td f0 f1 f2 w hn htr hN hr hl htl (λhz=> ?_) (λ_=>trivial) (λ_ h=>h) (λ_ _ _ h=>h)).mono ?_
 ·obtain⟨rfl,rfl,rfl⟩:=hf hz;exact⟨Wq _ (λ_ _ _ _=>rfl) _ _ _,endOk_nil wt0 (λ_ _=>True) (λ_ _=>rfl) _ _ _,Wz _ (λ_ _ _=>rfl) _ _ _⟩
 ·rintro e w' (⟨hz,vb,vr,vo,P,G,rfl,hres,hI⟩|⟨hz,rfl,a,G,hI,hk⟩)
  ·exact .inl ⟨hz,vb,vr,vo,P,rfl,{ hres with kp:=hres.kp.mono λi _ h=>absurd h (hI i) }⟩
  ·exact .inr ⟨hz,rfl,hk.mono λi _ h=>absurd h (hI i)⟩
theorem Je.lift{w w2 w' w'':World}{n:Nat}{s:St}{vb vr vo:Value}{P:List SV}{b8:Nat}(h:Je w2 n s vb vr vo P w')(hk:Keeps (λi=>i=b8) w' w'')(hb:b8<w2.heap.size)(hkw:Keeps (λ_=>False) w w2)(hwb:w.heap.size<=b8):Je w n s vb vr vo P w'' where
 bal:=hk.row h.bal λb hb' e=>by have e':b=b8:=e;have:=h.wb b hb';omega
 rts:=hk.row h.rts λb hb' e=>by have e':b=b8:=e;have:=h.wr b hb';omega
 out:=hk.row h.out λb hb' e=>by have e':b=b8:=e;have:=h.wo b hb';omega
 ln:=λx hx=>hk.row (h.ln x hx) λb hb' e=>by have e':b=b8:=e;have:=h.wl x hx b hb';omega
 lp:=h.lp
 nb:=h.nb
 nr:=h.nr
 wb:=λb hb'=>by have:=h.wb b hb';have:=hkw.size;omega
 wr:=λb hb'=>by have:=h.wr b hb';have:=hkw.size;omega
 wo:=λb hb'=>by have:=h.wo b hb';have:=hkw.size;omega
 wl:=λx hx b hb'=>by have:=h.wl x hx b hb';have:=hkw.size;omega
 kp:=(hkw.nt h.kp).trans (hk.mono λi _ e=> .inr (by have e':i=b8:=e;omega))
theorem Px(t:Tm)(adt:Option Addr)(ct n:Nat)(L:List Ev)(ad:Option Addr)(cap N:Nat)(td:Int)(w:World)(hn:t.trs.length=n)(htr:Reads w 2 (.slice adt n ct) n (t.trs.flatMap Tn.cells))(hN:L.length=N)(hr:Reads w 5 (.slice ad N cap) N (L.flatMap Ev.cells))(hl:N<=1000000)(htl:n<=1000000):
  Calls Tryz.prog 15 #[.agg #[.int .i64 t.limit,.slice adt n ct,.int .i64 t.cyc,.int .i64 t.due,.int .i64 t.minFixed,.int .i64 t.minPart,.int .i64 t.start],.slice ad N cap,.int .i64 td] w (Mg w n (walkR t L td)):=by
 obtain⟨R,hR⟩:∃R,walkR t L td=R:=⟨_,rfl⟩;have hwk:=λW (hW:Keeps (λ_=>False) w W)=>Vj t adt ct n L ad cap N td .nilFunc .nilFunc .nilFunc W hn (htr.keeps hW (by simp)) hN (hr.keeps hW (by simp)) hl htl (λ_=>⟨rfl,rfl,rfl⟩);rw [hR] at hwk⊢;obtain⟨w2,hw2⟩:∃x,x=(w.alloc (.cells #[.int .i64 t.limit,.slice adt n ct,.int .i64 t.cyc,.int .i64 t.due,.int .i64 t.minFixed,.int .i64 t.minPart,.int .i64 t.start] 24)).alloc (.cells #[.slice none 0 0,.int .i64 0,.int .i64 0] 35):=⟨_,rfl⟩;have hk2:Keeps (λ_=>False) w w2:=by rw [hw2];exact(Keeps.alloc _ _).Af
 have hp2:w2.heap[w.heap.size+1]?=some (.cells #[.slice none 0 0,.int .i64 0,.int .i64 0] 35 (0,0)):=by rw [hw2];exact Av _ _ (by simp)
 obtain⟨Htr,Hr,HR,HN,Hn,Hwk,Hk2,Hp2⟩:=hid8 htr hr hR hN hn hwk hk2 hp2;clear hp2 hk2 hwk hn hN hR hr htr;go_enter Tryz.func15,Tryz.ntmps15;go_wp2_with fail;rw [<-hw2];clear hw2;refine(Hwk.out _ Hk2.out).mono ?_;rintro e w3 (⟨hz,vb,vr,vo,P,rfl,hres⟩|⟨hz,rfl,hk3⟩)
 ·obtain⟨ab,cb,rfl⟩:∃a c,vb= .slice a n c:=by obtain⟨a,c,h,_⟩:=Ad hres.bal;exact⟨a,c,h⟩
  have hb:=Ac Hp2.out hres.kp (by simp);refine j2u ?_;intro d0 d1 d2 e0 e1 e2 dl;have hkz:Keeps (λi=>i=w.heap.size+1) w3 (((w3.setCell ⟨w.heap.size+1,0,none⟩ (.slice ab n cb)).setCell ⟨w.heap.size+1,1,none⟩ (.int .i64 R.1.p.cr)).setCell ⟨w.heap.size+1,2,none⟩ (.int .i64 R.1.p.du)):=((Keeps.setCell (S:=λi=>i=w.heap.size+1) _ _ _ rfl).trans (Keeps.setCell _ _ _ (.inl rfl))).trans (Keeps.setCell _ _ _ (.inl rfl));have hb3:(((w3.setCell ⟨w.heap.size+1,0,none⟩ (.slice ab n cb)).setCell ⟨w.heap.size+1,1,none⟩ (.int .i64 R.1.p.cr)).setCell ⟨w.heap.size+1,2,none⟩ (.int .i64 R.1.p.du)).heap[w.heap.size+1]?=some (.cells #[.slice ab n cb,.int .i64 R.1.p.cr,.int .i64 R.1.p.du] 35 (0,0)):=(heap_setCell_same _ _ 2 _ _ _ ((heap_setCell_same _ _ 1 _ _ _ ((heap_setCell_same _ _ 0 _ _ _ hb).trans rfl)).trans rfl)).trans rfl;have hres2:=hres.lift hkz (lt_of_block Hp2.out) Hk2.out j1;obtain⟨Hz,Hres,Hb,Hkz,Hb3,Hres2⟩:=hid6 hz hres hb hkz hb3 hres2;clear hres2 hb3 hkz hb hres hz;go_wp2;have r0:=Aa Hb3.out 0;have r1:=Aa Hb3.out 1;have r2:=Aa Hb3.out 2;clear d0 d1 d2;exact bodyPost_ret (v:= .tuple #[.agg #[.slice ab n cb,.int .i64 R.1.p.cr,.int .i64 R.1.p.du],vr,vo,.int .i64 0]) (by simp [results,Tryz.results15,go_sem,r0,r1,r2]) rfl (.inl ⟨Hz.out,_,vr,vo,P,rfl,Hres2.out⟩)
 ·have hb:=Ac Hp2.out hk3 (by simp);refine j2u ?_;intro d0 d1 d2 e0 e1 e2 dl;have hkz:Keeps (λi=>i=w.heap.size+1) w3 (((w3.setCell ⟨w.heap.size+1,0,none⟩ (.slice none 0 0)).setCell ⟨w.heap.size+1,1,none⟩ (.int .i64 0)).setCell ⟨w.heap.size+1,2,none⟩ (.int .i64 0)):=((Keeps.setCell (S:=λi=>i=w.heap.size+1) _ _ _ rfl).trans (Keeps.setCell _ _ _ (.inl rfl))).trans (Keeps.setCell _ _ _ (.inl rfl));have hb3:(((w3.setCell ⟨w.heap.size+1,0,none⟩ (.slice none 0 0)).setCell ⟨w.heap.size+1,1,none⟩ (.int .i64 0)).setCell ⟨w.heap.size+1,2,none⟩ (.int .i64 0)).heap[w.heap.size+1]?=some (.cells #[.slice none 0 0,.int .i64 0,.int .i64 0] 35 (0,0)):=(heap_setCell_same _ _ 2 _ _ _ ((heap_setCell_same _ _ 1 _ _ _ ((heap_setCell_same _ _ 0 _ _ _ hb).trans rfl)).trans rfl)).trans rfl;have hkf:Keeps (λ_=>False) w (((w3.setCell ⟨w.heap.size+1,0,none⟩ (.slice none 0 0)).setCell ⟨w.heap.size+1,1,none⟩ (.int .i64 0)).setCell ⟨w.heap.size+1,2,none⟩ (.int .i64 0)):=(Hk2.out.nt hk3).trans (hkz.mono λi _ e=> .inr jq);obtain⟨Hz,Hb,Hkz,Hb3,Hkf,Hk3⟩:=hid6 hz hb hkz hb3 hkf hk3;clear hk3 hkf hb3 hkz hb hz;go_wp2;have r0:=Aa Hb3.out 0;have r1:=Aa Hb3.out 1;have r2:=Aa Hb3.out 2;clear d0 d1 d2;exact bodyPost_ret (v:= .tuple #[.agg #[.slice none 0 0,.int .i64 0,.int .i64 0],.slice none 0 0,.slice none 0 0,.int .i64 R.2]) (by simp [results,Tryz.results15,go_sem,r0,r1,r2]) rfl (.inr ⟨Hz.out,rfl,Hkf.out⟩)
def scS(bo bt:Nat)(vo:Value)(k:Nat)(bp:Nat)(vb:Value)(g o:Nat)(x:Int)(W:World):Prop:=W.cell? ⟨bo,0,none⟩=some vo/\W.cell? ⟨bt,0,none⟩=some (.int .i64 ((k:Int)+1))/\W.cell? ⟨bp,0,none⟩=some vb/\W.cell? ⟨g,o+k,none⟩=some (.int .i64 x)
theorem scS.keep{bo bt:Nat}{vo:Value}{k bp:Nat}{vb:Value}{g o:Nat}{x:Int}{S:Nat->Prop}{W W':World}(h:scS bo bt vo k bp vb g o x W)(hk:Keeps S W W')(h1:¬S bo)(h2:¬S bt)(h3:¬S bp)(h4:¬S g):scS bo bt vo k bp vb g o x W':=
 ⟨(hk.cell (Ai h.1) h1).trans h.1,(hk.cell (Ai h.2.1) h2).trans h.2.1,(hk.cell (Ai h.2.2.1) h3).trans h.2.2.1,(hk.cell (Ai h.2.2.2) h4).trans h.2.2.2⟩
def ScPost(bO:Nat)(vo:Value)(X:List Int)(x:Int)(w W':World):Prop:=∃vo',Keeps (λi=>i=bO\/vo.ownBlock=some i) w W'/\W'.heap[bO]?=some (.cells #[vo'] 33 (0,0))/\W'.ownsRow 0 2 1 vo' (X++ [x]).length ((X++ [x]).flatMap i64c)/\(vo'.ownBlock=vo.ownBlock\/∃g,vo'.ownBlock=some g/\w.heap.size<=g)
theorem serCl_no(bI bO bT:Nat)(v:Value)(cr du:Int)(w:World)(hI:w.heap[bI]?=some (.cells #[.bool false] 4 (0,0))):
  Calls Tryz.prog 55 #[.agg #[v,.int .i64 cr,.int .i64 du],(.pointer (some ⟨bI,0,none⟩)),(.pointer (some ⟨bO,0,none⟩)),(.pointer (some ⟨bT,0,none⟩))] w λe W'=>e= .returned (.tuple #[])/\Keeps (λ_=>False) w W':=by
 have hI2:=Ac hI (Keeps.alloc (S:=λ_=>False) w (.cells #[v,.int .i64 cr,.int .i64 du] 35)) (by simp);have c0:=Aa hI2 0;have bl:=lt_of_block hI2;obtain⟨HI,HI2⟩:=hid2 hI hI2;clear hI2 hI;go_enter Tryz.func55,Tryz.ntmps55;go_wp2_with fail;go_end0;exact⟨rfl,Keeps.alloc _ _⟩
theorem serCl_yes(bI bO bT n k:Nat)(vb vo:Value)(cr du x:Int)(V X:List Int)(w:World)(hI:w.heap[bI]?=some (.cells #[.bool true] 4 (0,0)))(hO:w.heap[bO]?=some (.cells #[vo] 33 (0,0)))(hT:w.heap[bT]?=some (.cells #[.int .i64 ((k:Int)+1)] 3 (0,0)))
  (hrow:w.ownsRow 0 2 1 vo X.length (X.flatMap i64c)) (hb:w.ownsRow 0 2 1 vb n (V.flatMap i64c)) (hn:n<=1000) (hk:k<n) (hx:V[k]?=some x) (hdj:∀b,vo.ownBlock=some b->vb.ownBlock≠some b) (hX:X.length<=4000000):
  Calls Tryz.prog 55 #[.agg #[vb,.int .i64 cr,.int .i64 du],(.pointer (some ⟨bI,0,none⟩)),(.pointer (some ⟨bO,0,none⟩)),(.pointer (some ⟨bT,0,none⟩))] w λe W'=>e= .returned (.tuple #[])/\ScPost bO vo X x w W':=by
 obtain⟨m,hm⟩:∃m,X.length=m:=⟨_,rfl⟩;rw [hm] at hrow hX;obtain⟨w1,hw1⟩:∃y,y=w.alloc (.cells #[vb,.int .i64 cr,.int .i64 du] 35):=⟨_,rfl⟩;have hk1:Keeps (λ_=>False) w w1:=by rw [hw1];exact Keeps.alloc _ _
 have hp1:w1.heap[w.heap.size]?=some (.cells #[vb,.int .i64 cr,.int .i64 du] 35 (0,0)):=by rw [hw1];exact heap_alloc_new _ _
 have hI2:=Ac hI hk1 (by simp);have hO2:=Ac hO hk1 (by simp);have hT2:=Ac hT hk1 (by simp);have hr2:=hrow.of_keeps hk1;have hb2:=hb.of_keeps hk1;obtain⟨av,cv,rfl⟩:∃a c,vb= .slice a n c:=by obtain⟨a,c,h,_⟩:=Ad hb2;exact⟨a,c,h⟩
 obtain⟨g,o,hvb,hcx⟩:=(Reads.Ay hb2).int (k:= .i64) hx;obtain⟨ax,cx,rfl⟩:∃a c,vo= .slice a m c:=by obtain⟨a,c,h,_⟩:=Ad hr2;exact⟨a,c,h⟩
 subst hvb;have hgb:(Value.slice (some ⟨g,o,none⟩) n cv).ownBlock=some g:=rfl;have c0:=Aa hI2 0;have blI:=lt_of_block hI2;rw [hw1] at c0 blI;obtain⟨i0,hi,hi0,hi1,hi2⟩:=info_parts Ca;have hS1:scS bO bT (.slice ax m cx) k w.heap.size (.slice (some ⟨g,o,none⟩) n cv) g o x w1.drew:=(show scS bO bT (.slice ax m cx) k w.heap.size (.slice (some ⟨g,o,none⟩) n cv) g o x w1 from⟨Aa hO2 0,Aa hT2 0,Aa hp1 0,hcx⟩).keep (S:=λ_=>False) (Keeps.drew _) (by simp) (by simp) (by simp) (by simp);have hkI:(k:Int)<(n:Int):=j3;have hwr:IntKind.i64.wrap (k:Int)=(k:Int):=by simp [IntKind.wrap,IntKind.signed,IntKind.bits];omega
 obtain⟨HI,HO,HT,Hrow,Hb,Hx,Hdj,Hm,Hk1⟩:=hid9 hI hO hT hrow hb hx hdj hm hk1;clear hk1 hm hdj hx hb hrow hT hO hI;obtain⟨Hp1,HI2,HO2,HT2,Hr2,Hb2,Hgb,Hi,Hi0⟩:=hid9 hp1 hI2 hO2 hT2 hr2 hb2 hgb hi hi0;clear hi0 hi hgb hb2 hr2 hT2 hO2 hI2 hp1;obtain⟨Hi1,Hi2,HS1⟩:=hid3 hi1 hi2 hS1;clear hS1 hi2 hi1;go_enter Tryz.func55,Tryz.ntmps55;go_wp2_with fail;rw [<-hw1];clear hw1 hcx c0 blI;refine Bj (scS bO bT (.slice ax m cx) k w.heap.size (.slice (some ⟨g,o,none⟩) n cv) g o x) 9 (.take 0 (.take 1 (.take 2 (.take 3 (.take 4 (.take 5 (.take 6 (.move 7 (.move 8 (.move 9 .done)))))))))) j4 j4 ?_ ?_
 ·exact HS1.out
 intro w8 hs8 hk8;refine je ?_;intro K hK;refine hK.out _ _ (by exact hs8.keep (S:=λ_=>False) (Keeps.alloc _ _) (by simp) (by simp) (by simp) (by simp)) ?_;clear hK K;refine j5 ?_;have hk8a:=hk8.nt (Keeps.alloc w8 (.cells #[.int .i64 x] 2));have hr8:=Hr2.out.of_keeps hk8a;have hO8:=Ac HO2.out hk8a (by simp);have hT8:=Ac HT2.out hk8a (by simp);have hp8:=Ac Hp1.out hk8a (by simp);refine Ae rfl (λK hK=> ?_);refine Ah rfl (.tmp 6) (.tmp 13) 33 rfl 0 2 i0 _ 1 8 Tryz.underlying33 Hi.out Hi0.out Hi1.out Hi2.out rfl j2 (.slice ax m cx) m _ rfl hr8 _ 1 _ rfl (Reads.litAt _ _ _ 1 1 _ jd rfl) j9 j6 j1 (Nat.zero_le _) ?_;intro v9 w9 hown9 hk9 hf9;obtain⟨a9,c9,rfl,_,_⟩:=Ad hown9;have nO:¬(Value.slice ax m cx).ownBlock=some bO:=λe=>Ag hr8 hO8 j2 e;have nT:¬(Value.slice ax m cx).ownBlock=some bT:=λe=>Ag hr8 hT8 j2 e;have nP:¬(Value.slice ax m cx).ownBlock=some w.heap.size:=λe=>Ag hr8 hp8 j2 e;have nG:¬(Value.slice ax m cx).ownBlock=some g:=λe=>Hdj.out g e Hgb.out;have hO9:=Ac hO8 hk9 nO;have hlen:(X++ [x]).length=m+1:=by rw [List.length_append,Hm.out];rfl
 have hrow9:w9.ownsRow 0 2 1 (.slice a9 (m+1) c9) (X++ [x]).length ((X++ [x]).flatMap i64c):=by rw [hlen];simpa [i64c] using hown9
 have kz:Keeps (λi=>i=bO) w9 (w9.setCell ⟨bO,0,none⟩ (.slice a9 (m+1) c9)):=Keeps.setCell _ _ _ rfl;have hO10:(w9.setCell ⟨bO,0,none⟩ (.slice a9 (m+1) c9)).heap[bO]?=some (.cells #[.slice a9 (m+1) c9] 33 (0,0)):=(heap_setCell_same _ _ 0 _ _ _ hO9).trans rfl;have hrow10:=kz.row hrow9 (λb hb e=>by have e':b=bO:=e;subst e';exact Ag hrow9 hO9 j2 hb);have hkall:Keeps (λi=>i=bO\/(Value.slice ax m cx).ownBlock=some i) w (w9.setCell ⟨bO,0,none⟩ (.slice a9 (m+1) c9)):=(((Hk1.out.nt hk8a).mono (by simp)).trans (hk9.mono λi _ e=> .inl (.inr e))).trans (kz.mono λi _ e=> .inl (.inl e));have hf10:(Value.slice a9 (m+1) c9).ownBlock=(Value.slice ax m cx).ownBlock\/∃g,(Value.slice a9 (m+1) c9).ownBlock=some g/\w.heap.size<=g:=hf9.imp id fun⟨g,h1,h2⟩=>⟨g,h1,by have:=(Hk1.out.nt hk8a).size;omega⟩;have o9:=Aa hO9 0;have of9:=Ab hO9 0;have ol9:=lt_of_block hO9;refine hK.out _ _ (by exact(hs8.keep (S:=λ_=>False) (Keeps.alloc _ _) (by simp) (by simp) (by simp) (by simp)).keep hk9 nO nT nP nG) ?_;clear hK K;refine j5 ?_;obtain⟨Hk8,Hk8a,Hr8,HO8,HT8,Hp8,Hown9,Hk9,NO⟩:=hid9 hk8 hk8a hr8 hO8 hT8 hp8 hown9 hk9 nO;clear nO hk9 hown9 hp8 hT8 hO8 hr8 hk8a hk8;obtain⟨NT,NP,NG,HO9,Hlen,Hrow9,Kz,HO10,Hrow10⟩:=hid9 nT nP nG hO9 hlen hrow9 kz hO10 hrow10;clear hrow10 hO10 kz hrow9 hlen hO9 nG nP nT;obtain⟨Hkall,Hf10⟩:=hid2 hkall hf10;clear hf10 hkall;clear hs8 hf9;refine jR ?_;refine jh ?_;go_wp2
 all_goals (try go_end0)
 all_goals exact⟨rfl,_,Hkall.out,HO10.out,Hrow10.out,Hf10.out⟩
def reS(B:Nat)(f1 vb:Value)(pc pd:Int)(W:World):Prop:=W.cell? ⟨B,18,none⟩=some f1/\W.cell? ⟨B,10,none⟩=some vb/\W.cell? ⟨B,11,none⟩=some (.int .i64 pc)/\W.cell? ⟨B,12,none⟩=some (.int .i64 pd)
theorem reS.keep{B:Nat}{f1 vb:Value}{pc pd:Int}{S:Nat->Prop}{W W':World}(h:reS B f1 vb pc pd W)(hk:Keeps S W W')(hB:¬S B):reS B f1 vb pc pd W':=
 ⟨(hk.cell (Ai h.1) hB).trans h.1,(hk.cell (Ai h.2.1) hB).trans h.2.1,(hk.cell (Ai h.2.2.1) hB).trans h.2.2.1,(hk.cell (Ai h.2.2.2) hB).trans h.2.2.2⟩
theorem runEnd_fn{w0:World}{X:Fx}{B:Nat}{t:Tm}{n:Nat}{vt:Value}{L:List Ev}{f0 f2:Value}{s:St}{vl vb vr:Value}{g0 g1:Nat}{S0 S1:List SI}{vo:Value}{P:List SV}{W:World}{bI bO bT:Nat}{Q:List SI->List SI->World->Prop}(h:RunV w0 X B t n vt L f0 (.func (.func 55) #[] #[(.pointer (some ⟨bI,0,none⟩)),(.pointer (some ⟨bO,0,none⟩)),(.pointer (some ⟨bT,0,none⟩))]) f2 s vl vb vr g0 g1 S0 S1 vo P W)(hn:n<=1000)
  (hle0:∀r∈s.e0,r.length<=100000) (hle1:∀r∈s.e1,r.length<=100000)
  (hcl:∀(S0' S1':List SI) (W':World),RunV w0 X B t n vt L f0 (.func (.func 55) #[] #[(.pointer (some ⟨bI,0,none⟩)),(.pointer (some ⟨bO,0,none⟩)),(.pointer (some ⟨bT,0,none⟩))]) f2 (endSt s n n) vl vb vr g0 g1 S0' S1' vo P W'->Calls Tryz.prog 55 #[.agg #[vb,.int .i64 s.p.cr,.int .i64 s.p.du],(.pointer (some ⟨bI,0,none⟩)),(.pointer (some ⟨bO,0,none⟩)),(.pointer (some ⟨bT,0,none⟩))] W' λe W''=>e= .returned (.tuple #[])/\W''.heap[B]?=W'.heap[B]?/\Q S0' S1' W''):
  Calls Tryz.prog 107 #[(.pointer (some ⟨B,0,none⟩))] W λe W'=>e= .returned (.tuple #[])/\∃S0' S1',Q S0' S1' W':=by
 obtain⟨i0,hi,hi0,hi1,hi2⟩:=info_parts Ca;obtain⟨ab,cb,rfl⟩:∃a c,vb= .slice a n c:=by obtain⟨a,c,h,_⟩:=Ad h.bal;exact⟨a,c,h⟩
 obtain⟨ar,cr,rfl⟩:∃a c,vr= .slice a n c:=by obtain⟨a,c,h,_⟩:=Ad h.rts;exact⟨a,c,h⟩
 have hl0:s.p.bal.length=s.e0.length:=by rw [h.nb,<-h.l0,List.length_map,h.n0]
 have hl1:s.R.length=s.e1.length:=by rw [h.nr,<-h.l1,List.length_map,h.n1]
 have hst:RunV w0 X B t n vt L f0 (.func (.func 55) #[] #[(.pointer (some ⟨bI,0,none⟩)),(.pointer (some ⟨bO,0,none⟩)),(.pointer (some ⟨bT,0,none⟩))]) f2 (endSt s 0 0) vl (.slice ab n cb) (.slice ar n cr) g0 g1 S0 S1 vo P W:=by
  unfold endSt;rw [Em,Em];exact h
 have hbn:=h.nb;have hrn:=h.nr;have he0:s.e0.length=n:=by rw [<-hl0];exact hbn
 have he1:s.e1.length=n:=by rw [<-hl1];exact hrn
 have c13:=Aa h.blk 13;have bl:=lt_of_block h.blk;obtain⟨Hcl,H,Hi,Hi0,Hi1,Hi2,Hle0,Hle1,Hl0⟩:=hid9 hcl h hi hi0 hi1 hi2 hle0 hle1 hl0;clear hl0 hle1 hle0 hi2 hi1 hi0 hi h hcl;obtain⟨Hl1,Hst,Hbn,Hrn,He0,He1⟩:=hid6 hl1 hst hbn hrn he0 he1;clear he1 he0 hrn hbn hst hl1;go_enter Tryz.func107,Tryz.ntmps107;go_wp2;clear c13 bl
 go_loopw [8] (λx wx=>∃(k:Nat) (S0' S1':List SI),x= .int .i64 (k:Nat)/\k<=n/\RunV w0 X B t n vt L f0 (.func (.func 55) #[] #[(.pointer (some ⟨bI,0,none⟩)),(.pointer (some ⟨bO,0,none⟩)),(.pointer (some ⟨bT,0,none⟩))]) f2 (endSt s k k) vl (.slice ab n cb) (.slice ar n cr) g0 g1 S0' S1' vo P wx) (λx _=>n-(intOf x).toNat)
 case atStart=>exact⟨0,S0,S1,rfl,Nat.zero_le _,Hst.out⟩
 case round=>
  obtain⟨k,S0',S1',rfl,hkn,hrv⟩:=hrel;refine jc ?_;intro wq hwq;subst hwq;by_cases hlt:k<n
  ·refine j4M ?_;intro hltI r0 hr0 r1 hr1 v0 hv0 v1 hv1;have hr0:=Lib.hid hr0;have hr1:=Lib.hid hr1;have Hv0:=Lib.hid hv0;have Hv1:=Lib.hid hv1;have hle0:=Hle0;have hle1:=Hle1;clear hv0 hv1;have Hrv:=Lib.hid hrv;clear hrv;obtain⟨⟨ax,cx,Lx⟩,hx⟩:=Aj (L:=S0') (k:=k) (by rw [Hrv.out.n0];exact hlt)
   have hxL:Lx=r0:=by
    exact j4N
   subst hxL;obtain⟨gb,ob,heb,cb0⟩:=(Reads.Ay Hrv.out.bal).int (k:= .i64) Hv0.out;subst heb;obtain⟨m,hm⟩:∃m,Lx.length=m:=⟨_,rfl⟩;have hm1:m<=100000:=by rw [<-hm];exact hle0.out _ (List.mem_of_getElem? hr0.out)
   refine j14 ?_;intro hxv0 hxm;have hrx:=Hrv.out.i0 _ hxm;rw [hxv0] at hrx;simp only [hm] at hrx;refine j4O ?_;intro hS3 hdb;rw [hxv0] at hdb;have cbl:=Ai cb0;clear cb0;obtain⟨Hx,Hm,Hxv0,Hxm,Hrx,HS3,Hdb⟩:=hid7 hx hm hxv0 hxm hrx hS3 hdb;clear hdb hS3 hrx hxm hxv0 hm hx;go_wp2_with fail;refine Bj (enS B 14 g0 k (.slice (some ⟨g0,0,none⟩) n n) (.slice ax m cx) 10 (.slice (some ⟨gb,ob,none⟩) n cb) gb (ob+k) v0) 25 (.take 0 (.take 1 (.take 2 (.take 3 (.take 4 (.take 5 (.take 6 (.take 7 (.take 8 (.take 9 (.take 10 (.take 11 (.take 12 (.take 13 (.take 14 (.take 15 (.take 16 (.take 17 (.take 18 (.take 19 (.take 20 (.take 21 (.move 22 (.move 23 (.take 24 (.move 25 .done)))))))))))))))))))))))))) j4 j4 ?_ ?_
   ·exact HS3.out
   intro w8 hs8 hk8;refine jB ?_;refine j4P ?_;intro hk8a h8a K hK;intro v9 w9 hown9 hk9 hf9;obtain⟨a9,c9,rfl,_,_⟩:=Ad hown9;refine j4Q ?_;intro hrx8 o9 hsb hsg hsv;have hlen:(Lx++ [v0]).length=m+1:=by rw [List.length_append,Hm.out];rfl
   refine j4R ?_;intro hxv hext;rw [hxv] at hext;simp only [endSt] at hext;rw [Fq Hl0.out hr0.out Hv0.out] at hext;replace hext:=(show RunV w0 X B t n vt L f0 (.func (.func 55) #[] #[(.pointer (some ⟨bI,0,none⟩)),(.pointer (some ⟨bO,0,none⟩)),(.pointer (some ⟨bT,0,none⟩))]) f2 (endSt s (k+1) k) vl _ _ g0 g1 _ _ vo P _ from hext);have of9:=Ab o9 k;have oc9:w9.cell? ⟨g0,k,none⟩=some (.slice ax m cx):=by rw [<-Hxv0.out];exact Fw o9 Hx.out
   have ol9:=lt_of_block o9;refine j05 ?_;clear hK K;refine j5 ?_;obtain⟨O9,Hsb,Hsg,Hsv,Hlen,Hxv,Hext,Hown9,Hk9⟩:=hid9 o9 hsb hsg hsv hlen hxv hext hown9 hk9;clear hk9 hown9 hext hxv hlen hsv hsg hsb o9;obtain⟨Hk8a,Hk8,H8a,Hrx8⟩:=hid4 hk8a hk8 h8a hrx8;clear hrx8 h8a hk8 hk8a;clear hs8 hf9;refine jR ?_;refine jh ?_;clear of9 oc9 ol9 cbl;obtain⟨W0',hW0'⟩:∃x,x=w9.setCell ⟨g0,k,none⟩ (.slice a9 (m+1) c9):=⟨_,rfl⟩;rw [<-hW0'] at Hext⊢;clear hW0';have Hrv2:=Hext;clear Hext Hx Hm Hxv0 Hxm Hrx HS3 Hdb;clear hm1;obtain⟨⟨ax,cx,Lx⟩,hx⟩:=Aj (L:=S1') (k:=k) (by rw [Hrv2.out.n1];exact hlt)
   have hxL:Lx=r1:=by
    exact j4S
   subst hxL;obtain⟨gb,ob,heb,cb0⟩:=(Reads.Ay Hrv2.out.rts).int (k:= .i64) Hv1.out;subst heb;obtain⟨m,hm⟩:∃m,Lx.length=m:=⟨_,rfl⟩;have hm1:m<=100000:=by rw [<-hm];exact hle1.out _ (List.mem_of_getElem? hr1.out)
   refine j14 ?_;intro hxv0 hxm;have hrx:=Hrv2.out.i1 _ hxm;rw [hxv0] at hrx;simp only [hm] at hrx;refine j4T ?_;intro hS3 hdb;rw [hxv0] at hdb;have cbl:=Ai cb0;clear cb0;obtain⟨Hx,Hm,Hxv0,Hxm,Hrx,HS3,Hdb⟩:=hid7 hx hm hxv0 hxm hrx hS3 hdb;clear hdb hS3 hrx hxm hxv0 hm hx;go_wp2_with fail;refine Bj (enS B 15 g1 k (.slice (some ⟨g1,0,none⟩) n n) (.slice ax m cx) 13 (.slice (some ⟨gb,ob,none⟩) n cr) gb (ob+k) v1) 24 (.take 0 (.take 1 (.take 2 (.take 3 (.take 4 (.take 5 (.take 6 (.take 7 (.take 8 (.take 9 (.take 10 (.take 11 (.take 12 (.take 13 (.take 14 (.take 15 (.take 16 (.take 17 (.take 18 (.take 19 (.take 20 (.move 21 (.move 22 (.take 23 (.move 24 .done))))))))))))))))))))))))) j4 j4 ?_ ?_
   ·exact HS3.out
   intro w8 hs8 hk8;refine jB ?_;refine j4U ?_;intro hk8a h8a K hK;intro v9 w9 hown9 hk9 hf9;obtain⟨a9,c9,rfl,_,_⟩:=Ad hown9;refine j4V ?_;intro hrx8 o9 hsb hsg hsv;have hlen:(Lx++ [v1]).length=m+1:=by rw [List.length_append,Hm.out];rfl
   refine j4W ?_;intro hxv hext;rw [hxv] at hext;simp only [endSt] at hext;rw [Fq Hl1.out hr1.out Hv1.out] at hext;replace hext:=(show RunV w0 X B t n vt L f0 (.func (.func 55) #[] #[(.pointer (some ⟨bI,0,none⟩)),(.pointer (some ⟨bO,0,none⟩)),(.pointer (some ⟨bT,0,none⟩))]) f2 (endSt s (k+1) (k+1)) vl _ _ g0 g1 _ _ vo P _ from hext);have of9:=Ab o9 k;exact j4X
  ·obtain rfl:n=k:=by omega
   have hb18:=Aa hrv.blk 18;have bl:=lt_of_block hrv.blk;have hne:∀w:World,(binOp .neq 106 (.func (.func 55) #[] #[(.pointer (some ⟨bI,0,none⟩)),(.pointer (some ⟨bO,0,none⟩)),(.pointer (some ⟨bT,0,none⟩))]) .nilFunc).run Tryz.prog w= .ok (.bool true) w:=λ_=>by kernel_rfl
   obtain⟨pc,hpc⟩:∃x,s.p.cr=x:=⟨_,rfl⟩;obtain⟨pd,hpd⟩:∃x,s.p.du=x:=⟨_,rfl⟩
   have hS1:reS B (.func (.func 55) #[] #[(.pointer (some ⟨bI,0,none⟩)),(.pointer (some ⟨bO,0,none⟩)),(.pointer (some ⟨bT,0,none⟩))]) (.slice ab n cb) pc pd wq.drew:=by
    rw [<-hpc,<-hpd];exact(show reS B (.func (.func 55) #[] #[(.pointer (some ⟨bI,0,none⟩)),(.pointer (some ⟨bO,0,none⟩)),(.pointer (some ⟨bT,0,none⟩))]) (.slice ab n cb) s.p.cr s.p.du wq from⟨Aa hrv.blk 18,Aa hrv.blk 10,Aa hrv.blk 11,Aa hrv.blk 12⟩).keep (S:=λ_=>False) (Keeps.drew _) (by simp)
   obtain⟨Hrv,Hpc,Hpd,HS1⟩:=hid4 hrv hpc hpd hS1;clear hS1 hpd hpc hrv;go_wp2_with fail;refine Ak (reS B (.func (.func 55) #[] #[(.pointer (some ⟨bI,0,none⟩)),(.pointer (some ⟨bO,0,none⟩)),(.pointer (some ⟨bT,0,none⟩))]) (.slice ab n cb) pc pd) (.take 0 (.take 1 (.take 2 (.take 3 (.take 4 (.take 5 (.take 6 (.take 7 (.take 8 (.move 9 .done)))))))))) j4 j4 ?_ ?_
   ·exact HS1.out
   intro w8 hs8 hk8;refine jR ?_;have hc:=Hcl.out _ _ w8 (Hrv.out.keep0 hk8);rw [Hpc.out,Hpd.out] at hc;have Hc:=Lib.hid hc;clear hc;refine j7 ?_;intro K hK
   go_at_call 55
   ((with_reducible refine(Hc.out).mono ?_);rintro e w9 ⟨rfl,hB9,hq⟩;dsimp only)
   have hb9:=hB9.trans (Hrv.out.keep0 hk8).blk
   have hs9:reS B (.func (.func 55) #[] #[(.pointer (some ⟨bI,0,none⟩)),(.pointer (some ⟨bO,0,none⟩)),(.pointer (some ⟨bT,0,none⟩))]) (.slice ab n cb) pc pd w9:=by
    rw [<-Hpc.out,<-Hpd.out];exact⟨Aa hb9 18,Aa hb9 10,Aa hb9 11,Aa hb9 12⟩
   obtain⟨Hq,HB9,Hb9,Hs9⟩:=hid4 hq hB9 hb9 hs9;clear hs9 hb9 hB9 hq;refine hK.out _ _ (by exact Hs9.out) ?_;clear hK K;refine j5 ?_;refine Ao ?_;clear hs8;go_wp2;go_end0;exact⟨rfl,_,_,Hq.out⟩
structure SerI(lo bI bO bT:Nat)(isv:Bool)(k n:Nat)(D:List (List Int))(G:Nat->Prop)(W:World):Prop where
 gI:G bI
 gO:G bO
 gT:G bT
 gl:∀b,G b->lo<=b/\b<W.heap.size
 cI:W.heap[bI]?=some (.cells #[.bool isv] 4 (0,0))
 dn:D.length=n
 row:∃vo X,W.heap[bO]?=some (.cells #[vo] 33 (0,0))/\W.ownsRow 0 2 1 vo X.length (X.flatMap i64c)/\(∀b,vo.ownBlock=some b->G b)/\(isv=true->W.heap[bT]?=some (.cells #[.int .i64 ((k:Int)+1)] 3 (0,0))/\k<n/\D[k]?=some X)
theorem Ud{W W':World}{b:Nat}(h:W'.heap[b]?=W.heap[b]?)(hl:b<W.heap.size):b<W'.heap.size:=Nat.lt_of_not_le λhle=>by
 rw [Array.getElem?_eq_none hle,Array.getElem?_eq_getElem hl] at h
 cases h
def wtS(lo bI bO bT:Nat)(isv:Bool)(k n:Nat):Wt (List (List Int)) where
 I:=λD G W=>SerI lo bI bO bT isv k n D G W
 fr:=by
  intro D G W W' h hb;obtain⟨vo,X,hO,hr,hg,ht⟩:=h.row
  exact { h with
   gl:=λb hG=>⟨(h.gl b hG).1,Ud (hb b hG) (h.gl b hG).2⟩
   cI:=(hb _ h.gI).trans h.cI
   row:=⟨vo,X,(hb _ h.gO).trans hO,rowSame hr (λg e=>hb g (hg g e)),hg,λe=>⟨(hb _ h.gT).trans (ht e).1,(ht e).2⟩⟩ }
 lt:=λh hb=>(h.gl _ hb).2
theorem zw_mem{D:List (List Int)}{V:List Int}{r:List Int}(h:r∈List.zipWith (λr v=>r++ [v]) D V):∃r0∈D,r.length<=r0.length+1:=by
 induction D generalizing V with
 |nil=>simp at h
 |cons d D ih=>
  cases V with
  |nil=>simp at h
  |cons v V=>
   rw [List.zipWith_cons_cons,List.mem_cons] at h;rcases h with rfl|h
   ·exact⟨d,List.mem_cons_self,by simp⟩
   ·obtain⟨r0,h1,h2⟩:=ih h;exact⟨r0,List.mem_cons_of_mem _ h1,h2⟩
def serJ(d:Int)(D:List (List Int)):Prop:=∀r∈D,(r.length:Int)<=d+135140
theorem serJ_ok(n:Nat):GhOk (ghE n) serJ where
 ev:=λ_ _ _ _ _ h=>h
 day:=λd D p h r hr=>by
  have hr':r∈(List.zipWith (λr v=>r++ [v]) D p.bal).take n++D.drop n:=hr;rcases List.mem_append.1 hr' with h1|h1
  ·obtain⟨r0,h2,h3⟩:=zw_mem (List.mem_of_mem_take h1);have:=h r0 h2;omega
  ·have:=h r (List.mem_of_mem_drop h1);omega
 cl:=λ_ _ _ _ h=>h
theorem endOk_ser(lo bI bO bT:Nat)(isv:Bool)(k n:Nat):EndOk (wtS lo bI bO bT isv k n) (ghE n) serJ .nilFunc (.func (.func 55) #[] #[(.pointer (some ⟨bI,0,none⟩)),(.pointer (some ⟨bO,0,none⟩)),(.pointer (some ⟨bT,0,none⟩))]) .nilFunc n:=by
 rintro w K B t vt L s D vl vb vr g0 g1 S0 S1 vo P W ⟨G,hr,hI,hK,_⟩ hn h0 h1 _ hJ hd1 hd2;have hnb:s.p.bal.length=n:=hr.nb;refine runEnd_fn (Q:=λS0' S1' W'=>RunI (wtS lo bI bO bT isv k n) w K B t n vt L .nilFunc (.func (.func 55) #[] #[(.pointer (some ⟨bI,0,none⟩)),(.pointer (some ⟨bO,0,none⟩)),(.pointer (some ⟨bT,0,none⟩))]) .nilFunc (endSt s n n) ((ghE n).day D s.p) vl vb vr g0 g1 S0' S1' vo P W W') hr hn h0 h1 ?_;intro S0' S1' W' hr';have hI':SerI lo bI bO bT isv k n D G W':=(wtS lo bI bO bT isv k n).fr hI (λb hb=>hr'.fz b (.inr hb));obtain⟨vq,X,hO,hrow,hg,ht⟩:=hI'.row;have hBG:¬G B:=λe=>hr'.wB.2 (.inr e);have hE:(ghE n).day D s.p=List.zipWith (λr v=>r++ [v]) D s.p.bal:=Jy hnb hI'.dn;have hEl:((ghE n).day D s.p).length=n:=by rw [hE,List.length_zipWith,hI'.dn,hnb];omega
 cases isv with
 |false=>
  refine(serCl_no bI bO bT vb s.p.cr s.p.du W' hI'.cI).mono ?_;rintro e W'' ⟨rfl,hk⟩;have hr2:=hr'.keep0 hk;have hI2:SerI lo bI bO bT false k n D G W'':=(wtS lo bI bO bT false k n).fr hI' (λb hb=>hk.block b (hI'.gl b hb).2 (by simp));refine⟨rfl,hk.block B (lt_of_block hr'.blk) (by simp),G,hr2.Mm, ?_,hK,λi hi=>hr2.fz i (.inl hi)⟩;obtain⟨v2,X2,q1,q2,q3,_⟩:=hI2.row;exact { hI2 with dn:=hEl,row:=⟨v2,X2,q1,q2,q3,λe=>by cases e⟩ }
 |true=>
  obtain⟨hT,hkn,hDX⟩:=ht rfl;obtain⟨x,hx⟩:=Aj (L:=s.p.bal) (k:=k) (by rw [hnb];exact hkn);have hXl:X.length<=4000000:=by have:=hJ X (List.mem_of_getElem? hDX);omega
  refine(serCl_yes bI bO bT n k vb vq s.p.cr s.p.du x s.p.bal X W' hI'.cI hO hT hrow hr'.bal hn hkn hx (λb hb e=>(hr'.wb b e).2 (.inr (hg b hb))) hXl).mono ?_;rintro e W'' ⟨rfl,vq',hk,hO',hrow',hf⟩;have hS:∀b,(b=bO\/vq.ownBlock=some b)->G b:=λb hb=>hb.elim (λe=>e▸hI'.gO) (hg b);have hr0:RunV w ⟨λi=>K i\/G i,K,W⟩ B t n vt L .nilFunc (.func (.func 55) #[] #[(.pointer (some ⟨bI,0,none⟩)),(.pointer (some ⟨bO,0,none⟩)),(.pointer (some ⟨bT,0,none⟩))]) .nilFunc (endSt s n n) vl vb vr g0 g1 S0' S1' vo P W':={ hr' with yx:=λ_ h=> .inl h,fz:=λb hb=>hr'.fz b (.inl hb) }
  have hq:∀b,vq'.ownBlock=some b->G b\/W'.heap.size<=b:=λb hb=>by
   rcases hf with e|⟨g,e,hl⟩
   ·exact .inl (hg b (e▸hb))
   ·rw [e] at hb;injection hb with hb;exact .inr (hb▸hl)
  have hr1:=hr0.step (X2:=λi=>K i\/(G i\/vq'.ownBlock=some i)) hk (λb hb=> .inr (hS b hb)) (λb hb hKb=>hK b hKb (hS b hb))
   (λb hb=>by
    rcases hb with hb|hb|hb
    ·exact .inl (.inl hb)
    ·exact .inl (.inr hb)
    ·exact(hq b hb).imp (λh=> .inr h) id)
   (λb hb=>by
    rcases hb with hb|hb|hb
    ·exact Nat.lt_of_lt_of_le (hr0.xl b (.inl hb)) hk.size
    ·exact Nat.lt_of_lt_of_le (hr0.xl b (.inr hb)) hk.size
    ·exact Bh hrow' hb)
   (λb _ h=>h.imp id .inl) (λb h=> .inl h)
  have hlo:lo<=W'.heap.size:=by have:=hI'.gl _ hI'.gI;omega
  have hI3:=hI'.cI;refine⟨rfl,hk.block B (lt_of_block hr'.blk) (λe=>hBG (hS B e)),_,hr1.Mm, ?_, ?_,λi hi=>hr1.fz i hi⟩
  ·exact {
    gI:= .inl hI'.gI
    gO:= .inl hI'.gO
    gT:= .inl hI'.gT
    gl:=λb hb=>by
     rcases hb with hb|hb
     ·exact⟨(hI'.gl b hb).1,Nat.lt_of_lt_of_le (hI'.gl b hb).2 hk.size⟩
     ·refine⟨?_,Bh hrow' hb⟩;rcases hq b hb with h|h
      ·exact(hI'.gl b h).1
      ·omega
    cI:=Ac hI'.cI hk (λe=>by
     rcases e with e|e
     ·subst e;rw [hI'.cI] at hO;injection hO with hO;injection hO with _ hO _;exact absurd hO j2
     ·exact Ag hrow hI'.cI (by decide) e)
    dn:=hEl
    row:=⟨vq',X++ [x],hO',hrow',λb hb=> .inr hb,λ_=>⟨Ac hT hk (λe=>by
     rcases e with e|e
     ·subst e;rw [hT] at hO;injection hO with hO;injection hO with _ hO _;exact absurd hO j2
     ·exact Ag hrow hT (by decide) e),hkn,by rw [hE,List.getElem?_zipWith,hDX,hx]⟩⟩ }
  ·intro i hi hG;rcases hG with hG|hG
   ·exact hK i hi hG
   ·rcases hq i hG with h|h
    ·exact hK i hi h
    ·have:=hr'.xl i (.inl hi);omega
def t19:Tm:=⟨0,1,1,0,0,10957, [⟨5,false⟩]⟩
def l19:List Ev:= [⟨1,10957,1,7,0⟩]
theorem walk19:(walkR t19 l19 10990).2=0/\(walkR t19 l19 10990).1.p.bal= [7]/\(walkR t19 l19 10990).1.R= [5]/\(walkR t19 l19 10990).1.out.length=1:=by decide+kernel
theorem Js(w:World):Calls Tryz.prog 11 #[] w λe w'=>e= .returned (.bool true)/\Keeps (λ_=>False) w w':=by
 have h19:=walk19;have hrun:=λad1 ad2 W h1 h2=>Px t19 ad1 1 1 l19 ad2 1 1 10990 W rfl h1 rfl h2 j2 j2;obtain⟨R,hR⟩:∃R,walkR t19 l19 10990=R:=⟨_,rfl⟩;rw [hR] at hrun h19;simp only [t19,l19] at hrun;obtain⟨p1,p2,p3,p4⟩:=h19;obtain⟨Hrun,HR,P1,P2,P3,P4⟩:=hid6 hrun hR p1 p2 p3 p4;clear p4 p3 p2 p1 hR hrun;go_enter Tryz.func11,Tryz.ntmps11;go_wp2_with fail;refine(Hrun.out (some ⟨w.heap.size,0,none⟩) (some ⟨w.heap.size+1+1,0,none⟩) _ (Reads.blk (cs:= #[.int .i64 5,.bool false]) (e:=100) (fz:=(0,0)) (size:=2) (n:=1) (Ap (Ap (heap_alloc_new w _) _) _) rfl) (Reads.blk (cs:= #[.int .i64 1,.int .i64 10957,.int .i64 1,.int .i64 7,.int .i64 0]) (e:=32) (fz:=(0,0)) (size:=5) (n:=1) (Av _ _ (by simp)) rfl)).mono ?_;rintro e w1 (⟨hz,vb,vr,vo,P,rfl,hres⟩|⟨hz,_⟩)
 ·have hb:=hres.bal;have hr:=hres.rts;have ho:=hres.out;rw [P2.out] at hb;rw [P3.out] at hr;have hP:P.length=1:=by have:=congrArg List.length hres.lp;rw [List.length_map,P4.out] at this;exact this
  rw [hP] at ho;obtain⟨gb,cb,rfl,_⟩:=Fa hb j2;obtain⟨gr,cr,rfl,_⟩:=Fa hr j2;obtain⟨ao,co,rfl,_⟩:=Ad ho;have c0:w1.cell? ⟨gb,0,none⟩=some (.int .i64 7):=De Bg hb (k:=0) (x:=7) rfl 0 j2;have c1:w1.cell? ⟨gr,0,none⟩=some (.int .i64 5):=De Bg hr (k:=0) (x:=5) rfl 0 j2;have hk:Keeps (λ_=>False) w w1:=(((Keeps.alloc (S:=λ_=>False) w _).Af).Af).nt hres.kp;obtain⟨Hz,Hres,Hb,Hr,Ho,HP,Hk⟩:=hid7 hz hres hb hr ho hP hk;clear hk hP ho hr hb hres hz;go_wp2;exact bodyPost_ret (v:= .bool true) (by simp [results,Tryz.results11,go_sem]) rfl ⟨rfl,Hk.out.Af⟩
 ·exact absurd P1.out hz
theorem Um{t:Tm}{L:List Ev}{n len:Nat}{s s':St}{fr te:Int}(_:t.err=0)(hn:t.trs.length=n)(h:StOk n s len)(hc:Dh t L n s fr te=some s'):∃x,s'.out=s.out++ [x]/\x.lines.length=n/\x.cycle=(s.out.length:Int)+1/\x.fr=fr/\x.te=te:=by
 unfold Dh at hc
 split at hc
 ·cases hc
 ·rename_i V hV;obtain⟨v1,v2⟩:=Lu hn h.n0 h.n1 (λr hr=>(h.m0 r hr).2) (λr hr=>(h.m1 r hr).2) hV
  split at hc
  ·cases hc
  ·rename_i x q hx;simp only [Option.some.injEq] at hc;subst hc;refine⟨x,rfl, ?_⟩;unfold Eu at hx
   split at hx
   ·rename_i h0;simp only [Option.some.injEq,Prod.mk.injEq] at hx;obtain⟨rfl,_⟩:=hx;rcases Kc h.pr (by rw [v1];exact h.nb.symm) (List.all_eq_true.2 λy hy=>(Aw y).2 (v2 y hy)) with⟨_,_,h3⟩|⟨h3,_⟩
    ·exact⟨Gy _ _ _ (h3.trans h.nb) v1 h.nr,rfl,rfl,rfl⟩
    ·rw [h0] at h3;cases h3
   ·cases hx
theorem walkD_out{t:Tm}{T:List Ev}{n:Nat}(hz:t.err=0)(hn:t.trs.length=n):∀(d:Nat) (S:List (Int×Int)) (s:St) (len:Nat) (Z:St×Int),StOk n s len->(∀x∈s.out,x.lines.length=n)->walkD t T n d S s=Z->Z.2=0->(∀x∈Z.1.out,x.lines.length=n)/\Z.1.out.length<=s.out.length+S.length/\∃len',StOk n Z.1 len':=by
 intro d
 induction d with
 |zero=>
  intro S s len Z h hx hw hz2;subst hw;unfold walkD at hz2⊢;exact⟨hx,by show s.out.length<=_;omega,len,h.ev hz2⟩
 |succ d ih=>
  intro S s len Z h hx hw hz2;unfold walkD at hw
  split at hw
  ·rename_i h0;have h1:=(h.ev h0).fin
   split at hw
   ·subst hw;cases hz2
   ·rename_i fr te S'
    split at hw
    ·rename_i hte
     split at hw
     ·subst hw;cases hz2
     ·rename_i s2 hc;obtain⟨x,e1,e2,_⟩:=Um hz hn h1 hc;obtain⟨k1,k2,k3,k4⟩:=Jz hz hn h1 hc;have e1':s2.out=s.out++ [x]:=e1;have hk:StOk n { s2 with day:=s.day+1 } 0:=⟨k1.pr,k1.nb,k1.nr,k1.rt,k1.n0,k1.n1,k1.m0,k1.m1⟩
      obtain⟨i1,i2,i3⟩:=ih S' _ 0 Z hk (λy hy=>by
       have hy':y∈s2.out:=hy;rw [e1'] at hy';rcases List.mem_append.1 hy' with h2|h2
       ·exact hx y h2
       ·obtain rfl:y=x:=by simpa using h2
        exact e2) hw hz2
      refine⟨i1, ?_,i3⟩;have:({ s2 with day:=s.day+1 }:St).out.length=s.out.length+1:=by show s2.out.length=_;rw [e1',List.length_append];rfl
      rw [this] at i2;simp only [List.length_cons];omega
    ·obtain⟨s3,hs3⟩:∃s3:St,s3={ endSt (evSt s (evR s.day (T.drop s.i) s.i s.p s.R)) n n with day:=s.day+1 }:=⟨_,rfl⟩;have hw':walkD t T n d ((fr,te)::S') s3=Z:=by rw [hs3];exact hw
     have hk:StOk n s3 (len+1):=by rw [hs3];exact⟨h1.pr,h1.nb,h1.nr,h1.rt,h1.n0,h1.n1,h1.m0,h1.m1⟩
     have ho:s3.out=s.out:=by rw [hs3];rfl
     obtain⟨i1,i2,i3⟩:=ih _ _ (len+1) Z hk (by rw [ho];exact hx) hw' hz2;exact⟨i1,by rw [ho] at i2;exact i2,i3⟩
  ·rename_i h0;subst hw;exact absurd hz2 h0
theorem walkR_out{t:Tm}{L:List Ev}{td:Int}{Z:St×Int}(hw:walkR t L td=Z)(hz2:Z.2=0):(∀x∈Z.1.out,x.lines.length=t.trs.length)/\Z.1.out.length<=300/\t.err=0/\Ps.Ar Z.1.p=true:=by
 unfold walkR at hw
 split at hw
 ·rename_i h0;have hok:=Cn h0;obtain⟨h1,h2,len,h3⟩:=walkD_out hok.tm rfl _ _ _ _ Z (st0_ok hok.tm) (by simp [st0]) hw hz2;obtain⟨_,h4⟩:=Kv t.cyc td 300 t.start hok.fd;have hall:(allL t.start t.cyc td).length<=300:=by unfold allL;rw [if_pos hok.fd];exact h4
  refine⟨h1, ?_,hok.tm,h3.pr⟩;have:(st0 t).out.length=0:=rfl;omega
 ·rename_i h0;subst hw;exact absurd hz2 h0
theorem haltW{p:Prop}(h:Hid p):p:=h.out
theorem Nz(a0:Int)(a1:Int)(a2:Int)(w:World):Calls Tryz.prog 139 #[.agg #[.int .i64 a0,.int .i64 a1,.int .i64 a2],.agg #[.int .i64 a0,.int .i64 a1,.int .i64 a2]] w
  λe w'=>e= .returned (.bool true)/\Keeps (λ_=>False) w w':=by
 go_enter Tryz.func139,Tryz.ntmps139;go_wp2;go_ret;exact⟨rfl,(Keeps.alloc _ _).trans (Keeps.alloc _ _)⟩
theorem Qw(L:List Ln)(v1 v2:Value)(w:World)(h1:Reads w 3 v1 L.length (L.flatMap Ln.cells))(h2:Reads w 3 v2 L.length (L.flatMap Ln.cells))(hl:L.length<=1000000000000):
  Calls Tryz.prog 138 #[v1,v2,.func (.func 139) #[] #[]] w λe w'=>e= .returned (.bool true)/\Keeps (λ_=>False) w w':=by
 have g1:=h1;have g2:=h2;obtain⟨ad1,c1,rfl,_,_⟩:=g1;obtain⟨ad2,c2,rfl,_,_⟩:=g2;obtain⟨H1,H2⟩:=hid2 h1 h2;clear h2 h1;go_enter Tryz.func138,Tryz.ntmps138;go_wp2
 go_loopw [7] (λi wr=>∃k:Nat,k<=L.length/\i= .int .i64 k/\Keeps (λ_=>False) w wr) (λi _=>L.length-(intOf i).toNat)
 case atStart=>exact⟨0,Nat.zero_le _,rfl,Keeps.refl _ _⟩
 case round=>
  obtain⟨k,hk,rfl,hkp⟩:=hrel;have Hkp:=Lib.hid hkp;clear hkp;by_cases hlt:k<L.length
  ·obtain⟨x,hx⟩:∃x,L[k]?=some x:=⟨L[k],List.getElem?_eq_getElem hlt⟩;obtain⟨g,o,c,he,hc⟩:=(H1.out.keeps Hkp.out (by simp)).elem Ln.Aq hx j2;obtain⟨g',o',c',he',hc'⟩:=(H2.out.keeps Hkp.out (by simp)).elem Ln.Aq hx j2;simp only [Value.slice.injEq,true_and] at he he';obtain⟨rfl,rfl⟩:=he;obtain⟨rfl,rfl⟩:=he';obtain⟨e0,e1,e2⟩:=x;have x0:wr.cell? ⟨g,o+k*3,none⟩=some (.int .i64 e0):=hc 0 j2;have x1:wr.cell? ⟨g,o+k*3+1,none⟩=some (.int .i64 e1):=hc 1 j2;have x2:wr.cell? ⟨g,o+k*3+2,none⟩=some (.int .i64 e2):=hc 2 j2;have y0:wr.cell? ⟨g',o'+k*3,none⟩=some (.int .i64 e0):=hc' 0 j2;have y1:wr.cell? ⟨g',o'+k*3+1,none⟩=some (.int .i64 e1):=hc' 1 j2;have y2:wr.cell? ⟨g',o'+k*3+2,none⟩=some (.int .i64 e2):=hc' 2 j2;clear hc hc';have Hx:=Lib.hid hx;clear hx;go_wp2
   go_still_tail 9,j4
   go_wp2_with (go_at_call 139;refine(Nz _ _ _ _).mono ?_;rintro e w' ⟨rfl,hk2⟩;have Hk2:=Lib.hid hk2;clear hk2)
   exact j2w
  ·exact j1j
theorem Qf(L:List Ln)(v1 v2:Value)(w:World)(h1:Reads w 3 v1 L.length (L.flatMap Ln.cells))(h2:Reads w 3 v2 L.length (L.flatMap Ln.cells))(hl:L.length<=1000000000000):
  Calls Tryz.prog 78 #[v1,v2] w λe w'=>e= .returned (.bool true)/\Keeps (λ_=>False) w w':=by
 obtain⟨H1,H2⟩:=hid2 h1 h2;clear h2 h1;go_enter Tryz.func78,Tryz.ntmps78
 go_wp2_with (go_at_call 138;refine(Qw L _ _ _ H1.out H2.out hl).mono ?_;rintro e w' ⟨rfl,hk2⟩;have Hk2:=Lib.hid hk2;clear hk2)
 go_ret;exact⟨rfl,Hk2.out⟩
theorem Qg(a:Int)(w:World):Calls Tryz.prog 57 #[.int .i64 a,.int .i64 a] w
  λe w'=>e= .returned (.bool true)/\w=w':=by
 go_enter Tryz.func57,Tryz.ntmps57;exact jE
theorem Sz(L:List Int)(v1 v2:Value)(w:World)(h1:Reads w 1 v1 L.length (L.flatMap i64c))(h2:Reads w 1 v2 L.length (L.flatMap i64c))(hl:L.length<=1000000000000):
  Calls Tryz.prog 56 #[v1,v2,.func (.func 57) #[] #[]] w λe w'=>e= .returned (.bool true)/\Keeps (λ_=>False) w w':=by
 have g1:=h1;have g2:=h2;obtain⟨ad1,c1,rfl,_,_⟩:=g1;obtain⟨ad2,c2,rfl,_,_⟩:=g2;obtain⟨H1,H2⟩:=hid2 h1 h2;clear h2 h1;go_enter Tryz.func56,Tryz.ntmps56;go_wp2
 go_loopw [7] (λi wr=>∃k:Nat,k<=L.length/\i= .int .i64 k/\Keeps (λ_=>False) w wr) (λi _=>L.length-(intOf i).toNat)
 case atStart=>exact⟨0,Nat.zero_le _,rfl,Keeps.refl _ _⟩
 case round=>
  obtain⟨k,hk,rfl,hkp⟩:=hrel;have Hkp:=Lib.hid hkp;clear hkp;by_cases hlt:k<L.length
  ·obtain⟨x,hx⟩:∃x,L[k]?=some x:=⟨L[k],List.getElem?_eq_getElem hlt⟩;obtain⟨g,o,c,he,hc⟩:=(H1.out.keeps Hkp.out (by simp)).elem Bg hx j2;obtain⟨g',o',c',he',hc'⟩:=(H2.out.keeps Hkp.out (by simp)).elem Bg hx j2;simp only [Value.slice.injEq,true_and] at he he';obtain⟨rfl,rfl⟩:=he;obtain⟨rfl,rfl⟩:=he';have x0:wr.cell? ⟨g,o+k,none⟩=some (.int .i64 x):=by have:=hc 0 j2;simpa [i64c] using this
   have y0:wr.cell? ⟨g',o'+k,none⟩=some (.int .i64 x):=by have:=hc' 0 j2;simpa [i64c] using this
   clear hc hc';have Hx:=Lib.hid hx;clear hx;go_wp2
   go_still_tail 9,j4
   go_wp2_with (go_at_call 57;refine(Qg _ _).mono ?_;rintro e w' ⟨rfl,rfl⟩)
   go_roundw
   case rel=>exact⟨k+1,by omega,by go_num,(Hkp.out.trans (Keeps.drew _))⟩
   case measure=>simp [intOf];omega
  ·exact j1j
theorem Dt(L:List Int)(v1 v2:Value)(w:World)(h1:Reads w 1 v1 L.length (L.flatMap i64c))(h2:Reads w 1 v2 L.length (L.flatMap i64c))(hl:L.length<=1000000000000):
  Calls Tryz.prog 20 #[v1,v2] w λe w'=>e= .returned (.bool true)/\Keeps (λ_=>False) w w':=by
 obtain⟨H1,H2⟩:=hid2 h1 h2;clear h2 h1;go_enter Tryz.func20,Tryz.ntmps20
 go_wp2_with (go_at_call 56;refine(Sz L _ _ _ H1.out H2.out hl).mono ?_;rintro e w' ⟨rfl,hk2⟩;have Hk2:=Lib.hid hk2;clear hk2)
 go_ret;exact⟨rfl,Hk2.out⟩
theorem Ve(s:Stm)(v1 v2:Value)(w:World)(h1:Reads w 3 v1 s.lines.length (s.lines.flatMap Ln.cells))(h2:Reads w 3 v2 s.lines.length (s.lines.flatMap Ln.cells))(hl:s.lines.length<=1000000000000):
  Calls Tryz.prog 36 #[s.val v1,s.val v2] w λe w'=>e= .returned (.bool true)/\Keeps (λ_=>False) w w':=by
 obtain⟨cy,fr,te,du,tot,cr,mi,gr,L⟩:=s;simp only [Stm.val] at *;have g1:=h1;have g2:=h2;obtain⟨ad1,c1,rfl,_,_⟩:=g1;obtain⟨ad2,c2,rfl,_,_⟩:=g2;obtain⟨H1,H2⟩:=hid2 h1 h2;clear h2 h1;go_enter Tryz.func36,Tryz.ntmps36
 go_wp2_with (go_at_call 78;refine(Qf L _ _ _ ((H1.out.alloc _).alloc _) ((H2.out.alloc _).alloc _) hl).mono ?_;rintro e w1 ⟨rfl,hk1⟩;have hb1:=Ac (Ap (heap_alloc_new w _) _) hk1 (by simp);have hb2:=Kb hk1 (by simp);simp only [World.size_alloc] at hb2;have xa:=Aa hb1;have xb:=Aa hb2;have xl1:=lt_of_block hb1;have xl2:=lt_of_block hb2;have Hk1:=Lib.hid hk1;clear hk1 hb1 hb2)
 exact j5j
structure Dv(w:World)(v:Value)(P:List SV):Prop where
 row:Reads w 9 v P.length (P.flatMap SV.cells)
 ln:∀x∈P,Reads w 3 x.v x.s.lines.length (x.s.lines.flatMap Ln.cells)
 len:∀x∈P,x.s.lines.length<=1000
 few:P.length<=1000000
theorem Dv.keeps{w w':World}{v:Value}{P:List SV}(h:Dv w v P)(hk:Keeps (λ_=>False) w w'):Dv w' v P:=⟨h.row.keeps hk (by simp),λx hx=>(h.ln x hx).keeps hk (by simp),h.len,h.few⟩
theorem Sy(P Q:List SV)(v1 v2:Value)(w:World)(h1:Dv w v1 P)(h2:Dv w v2 Q)(he:P.map SV.s=Q.map SV.s):
  Calls Tryz.prog 58 #[v1,v2,.func (.func 36) #[] #[]] w λe w'=>e= .returned (.bool true)/\Keeps (λ_=>False) w w':=by
 obtain⟨n,hn⟩:∃n,P.length=n:=⟨_,rfl⟩;have hm:Q.length=n:=by rw [<-hn];have:=congrArg List.length he;simp at this;omega
 have hf:=h1.few;have g1:=h1.row;have g2:=h2.row;rw [hn] at g1;rw [hm] at g2;have r1:=g1;have r2:=g2;obtain⟨ad1,c1,rfl,_,_⟩:=g1;obtain⟨ad2,c2,rfl,_,_⟩:=g2;have hone:∀(x:SV) (u1 u2:Value) (W:World),Reads W 3 u1 x.s.lines.length (x.s.lines.flatMap Ln.cells)->Reads W 3 u2 x.s.lines.length (x.s.lines.flatMap Ln.cells)->x.s.lines.length<=1000->Calls Tryz.prog 36 #[x.s.val u1,x.s.val u2] W λe w'=>e= .returned (.bool true)/\Keeps (λ_=>False) W w':=λx u1 u2 W a b c=>Ve x.s u1 u2 W a b j1;rw [hn] at hf;obtain⟨H1,H2,Hn,Hm,He,R1,R2,Hone⟩:=hid8 h1 h2 hn hm he r1 r2 hone;clear hone r2 r1 he hm hn h2 h1;go_enter Tryz.func58,Tryz.ntmps58;go_wp2
 go_loopw [7] (λi wr=>∃k:Nat,k<=n/\i= .int .i64 k/\Keeps (λ_=>False) w wr) (λi _=>n-(intOf i).toNat)
 case atStart=>exact⟨0,Nat.zero_le _,rfl,Keeps.refl _ _⟩
 case round=>
  obtain⟨k,hk,rfl,hkp⟩:=hrel;have Hkp:=Lib.hid hkp;clear hkp;by_cases hlt:k<n
  ·obtain⟨x,hx⟩:=Aj (L:=P) (k:=k) jy;obtain⟨y,hy⟩:=Aj (L:=Q) (k:=k) (by rw [Hm.out];exact hlt)
   have hxy:x.s=y.s:=by
    have e1:(P.map SV.s)[k]?=some x.s:=by rw [List.getElem?_map,hx];rfl
    have e2:(Q.map SV.s)[k]?=some y.s:=by rw [List.getElem?_map,hy];rfl
    rw [He.out,e2] at e1;exact(Option.some.inj e1).symm
   have hxm:=List.mem_of_getElem? hx;have hym:=List.mem_of_getElem? hy;have hcall:=λW (hW:Keeps (λ_=>False) w W)=>Hone.out x x.v y.v W ((H1.out.ln x hxm).keeps hW (by simp)) (by rw [hxy];exact(H2.out.ln y hym).keeps hW (by simp)) (H1.out.len x hxm);obtain⟨g,o,c,he,hc⟩:=(R1.out.keeps Hkp.out (by simp)).elem SV.Aq hx j2;obtain⟨g',o',c',he',hc'⟩:=(R2.out.keeps Hkp.out (by simp)).elem SV.Aq hy j2;simp only [Value.slice.injEq,true_and] at he he';obtain⟨rfl,rfl⟩:=he;obtain⟨rfl,rfl⟩:=he';obtain⟨⟨cy,fr,te,du,tot,cr,mi,gr,lb⟩,ax,cx⟩:=x;obtain⟨⟨cy2,fr2,te2,du2,tot2,cr2,mi2,gr2,lb2⟩,ay,cyy⟩:=y;simp only [Stm.mk.injEq] at hxy;obtain⟨rfl,rfl,rfl,rfl,rfl,rfl,rfl,rfl,rfl⟩:=hxy;obtain⟨l,hl⟩:∃l,lb.length=l:=⟨_,rfl⟩;simp only [SV.v,Stm.val] at hcall;rw [hl] at hcall;have x0:wr.cell? ⟨g,o+k*9,none⟩=some (.int .i64 cy):=hc 0 j2;have x1:wr.cell? ⟨g,o+k*9+1,none⟩=some (.int .i64 fr):=hc 1 j2;have x2:wr.cell? ⟨g,o+k*9+2,none⟩=some (.int .i64 te):=hc 2 j2;have x3:wr.cell? ⟨g,o+k*9+3,none⟩=some (.int .i64 du):=hc 3 j2;have x4:wr.cell? ⟨g,o+k*9+4,none⟩=some (.slice ax l cx):=by have:=hc 4 j2;rw [<-hl];exact this
   have x5:wr.cell? ⟨g,o+k*9+5,none⟩=some (.int .i64 tot):=hc 5 j2;have x6:wr.cell? ⟨g,o+k*9+6,none⟩=some (.int .i64 cr):=hc 6 j2;have x7:wr.cell? ⟨g,o+k*9+7,none⟩=some (.int .i64 mi):=hc 7 j2;have x8:wr.cell? ⟨g,o+k*9+8,none⟩=some (.bool gr):=hc 8 j2;have y0:wr.cell? ⟨g',o'+k*9,none⟩=some (.int .i64 cy):=hc' 0 j2;have y1:wr.cell? ⟨g',o'+k*9+1,none⟩=some (.int .i64 fr):=hc' 1 j2;have y2:wr.cell? ⟨g',o'+k*9+2,none⟩=some (.int .i64 te):=hc' 2 j2;have y3:wr.cell? ⟨g',o'+k*9+3,none⟩=some (.int .i64 du):=hc' 3 j2;have y4:wr.cell? ⟨g',o'+k*9+4,none⟩=some (.slice ay l cyy):=by have:=hc' 4 j2;rw [<-hl];exact this
   have y5:wr.cell? ⟨g',o'+k*9+5,none⟩=some (.int .i64 tot):=hc' 5 j2;have y6:wr.cell? ⟨g',o'+k*9+6,none⟩=some (.int .i64 cr):=hc' 6 j2;have y7:wr.cell? ⟨g',o'+k*9+7,none⟩=some (.int .i64 mi):=hc' 7 j2;have y8:wr.cell? ⟨g',o'+k*9+8,none⟩=some (.bool gr):=hc' 8 j2;clear hc hc';obtain⟨Hx,Hy,Hxm,Hym,Hcall,Hl⟩:=hid6 hx hy hxm hym hcall hl;clear hl hcall hym hxm hy hx;go_wp2
   go_still_tail 9,j4
   go_wp2_with (go_at_call 36;(with_reducible refine(Hcall.out _ (Hkp.out.trans (Keeps.drew _))).mono ?_);rintro e w' ⟨rfl,hk2⟩;have Hk2:=Lib.hid hk2;clear hk2)
   exact j2w
  ·exact j1j
theorem Nq(P Q:List SV)(v1 v2:Value)(w:World)(h1:Dv w v1 P)(h2:Dv w v2 Q)(he:P.map SV.s=Q.map SV.s):
  Calls Tryz.prog 21 #[v1,v2] w λe w'=>e= .returned (.bool true)/\Keeps (λ_=>False) w w':=by
 have hc:=Sy P Q v1 v2 w h1 h2 he;obtain⟨H1,H2,He,Hc⟩:=hid4 h1 h2 he hc;clear hc he h2 h1;go_enter Tryz.func21,Tryz.ntmps21
 go_wp2_with (go_at_call 58;(with_reducible refine(Hc.out).mono ?_);rintro e w' ⟨rfl,hk2⟩;have Hk2:=Lib.hid hk2;clear hk2)
 go_ret;exact⟨rfl,Hk2.out⟩
theorem Nh(L:List Int)(n:Nat)(ad1 ad2:Option Addr)(c1 c2:Nat)(cr du:Int)(w:World)(hn:L.length=n)(h1:Reads w 1 (.slice ad1 n c1) n (L.flatMap i64c))(h2:Reads w 1 (.slice ad2 n c2) n (L.flatMap i64c))(hl:n<=1000000000000):
  Calls Tryz.prog 19 #[.agg #[.slice ad1 n c1,.int .i64 cr,.int .i64 du],.agg #[.slice ad2 n c2,.int .i64 cr,.int .i64 du]] w λe w'=>e= .returned (.bool true)/\Keeps (λ_=>False) w w':=by
 have hc:=λW (hW:Keeps (λ_=>False) w W)=>Dt L (.slice ad1 n c1) (.slice ad2 n c2) W (by rw [hn];exact h1.keeps hW (by simp)) (by rw [hn];exact h2.keeps hW (by simp)) j1;obtain⟨H1,H2,Hc,Hn⟩:=hid4 h1 h2 hc hn;clear hn hc h2 h1;go_enter Tryz.func19,Tryz.ntmps19
 go_wp2_with (go_at_call 20;(with_reducible refine(Hc.out _ ((Keeps.alloc _ _).Af)).mono ?_);rintro e w1 ⟨rfl,hk1⟩;have hb1:=Ac (Ap (heap_alloc_new w _) _) hk1 (by simp);have hb2:=Kb hk1 (by simp);simp only [World.size_alloc] at hb2;have xa:=Aa hb1;have xb:=Aa hb2;have xl1:=lt_of_block hb1;have xl2:=lt_of_block hb2;have Hk1:=Lib.hid hk1;clear hk1 hb1 hb2)
 exact j5j
theorem Dv.of{w0 w':World}{n:Nat}{s:St}{vb vr vo:Value}{P:List SV}(h:Je w0 n s vb vr vo P w')(h1:∀x∈s.out,x.lines.length<=8)(h2:s.out.length<=300):Dv w' vo P where
 row:=Reads.Ay h.out
 ln:=λx hx=>Reads.Ay (h.ln x hx)
 len:=λx hx=>by
  have:=h1 x.s (by rw [<-h.lp];exact List.mem_map_of_mem hx);omega
 few:=by
  have:=congrArg List.length h.lp;rw [List.length_map] at this;omega
theorem Xt(v:Int)(w:World):Calls Tryz.prog 220 #[.int .i64 v] w λe w'=>e= .returned (.bool (Az v))/\w=w':=by
 by_cases h1:v<0
 ·have hf:Az v=false:=by simp [Az];omega
  have h1':¬0<=v:=j3;exact j2x
 ·by_cases h2:1000000000000000<v
  ·have hf:Az v=false:=by simp [Az];omega
   have hd:decide (v<=1000000000000000)=false:=by rw [decide_eq_false_iff_not];omega
   have h1':0<=v:=j3;exact j2x
  ·have hf:Az v=true:=by simp [Az];omega
   have h1':0<=v:=j3;exact j2x
theorem Bl{v:Int}{b:Bool}(h:Az v=b)(w:World):Calls Tryz.prog 220 #[.int .i64 v] w λe w'=>e= .returned (.bool b)/\w=w':=by subst h;exact Xt v w
theorem Lj(L:List Int)(cr du:Int)(ad:Option Addr)(cap n:Nat)(w:World)(hr:Reads w 1 (.slice ad n cap) n (L.flatMap i64c))(hN:L.length=n)(hl:n<=9223372036854775807):
  Calls Tryz.prog 173 #[.agg #[.slice ad n cap,.int .i64 cr,.int .i64 du]] w λe w'=>e= .returned (.bool (Ps.Ar ⟨L,cr,du⟩))/\Keeps (λ_=>False) w w':=by
 obtain⟨z,hz⟩:∃z,Ps.Ar ⟨L,cr,du⟩=z:=⟨_,rfl⟩;rw [hz];rcases m1:Az cr with _|_
 ·rcases m2:Az du with _|_
  all_goals
   by_cases n1:n<1
   ·have n1I:(n:Int)<1:=j3;exact j2y
   ·have n1I:¬(n:Int)<1:=j3;by_cases n8:8<n
    ·have n8I:(8:Int)<(n:Int):=j3;exact j2y
    ·have n8I:¬(8:Int)<(n:Int):=j3;exact j2y
 rcases m2:Az du with _|_
 ·by_cases n1:n<1
  ·have n1I:(n:Int)<1:=j3;exact j2z
  ·have n1I:¬(n:Int)<1:=j3;by_cases n8:8<n
   ·have n8I:(8:Int)<(n:Int):=j3;exact j2z
   ·have n8I:¬(8:Int)<(n:Int):=j3;exact j2z
 by_cases n1:n<1
 ·have n1I:(n:Int)<1:=j3;have hq:¬1<=L.length:=j3;have hf:Ps.Ar ⟨L,cr,du⟩=false:=by unfold Ps.Ar;simp [hq]
  exact j1k
 have n1I:¬(n:Int)<1:=j3;by_cases n8:8<n
 ·have n8I:(8:Int)<(n:Int):=j3;have hq:¬L.length<=8:=j3;have hf:Ps.Ar ⟨L,cr,du⟩=false:=by unfold Ps.Ar;simp [hq]
  exact j1k
 have n8I:¬(8:Int)<(n:Int):=j3;have n1':1<=n:=j3;have n8':n<=8:=j3;refine jL ?_;intro hbx;obtain⟨Hr,Hz,Hbx⟩:=hid3 hr hz hbx;clear hbx hz hr;go_enter Tryz.func173,Tryz.ntmps173
 go_wp2_with (first|(go_at_call 220;(with_reducible refine(Bl m1 _).mono ?_);rintro e w1 ⟨rfl,rfl⟩)|(go_at_call 220;(with_reducible refine(Bl m2 _).mono ?_);rintro e w1 ⟨rfl,rfl⟩))
 go_loopw [3,4] (λx y wx=>∃(i:Nat) (s:Int),x= .int .i64 s/\y= .int .i64 (i:Nat)/\i<=n/\sumI (L.take i)=s/\(L.take i).all Az=true/\0<=s/\s<=i*1000000000000000/\Keeps (λ_=>False) (w.alloc (.cells #[.slice ad n cap,.int .i64 cr,.int .i64 du] 35)) wx) (λ_ y _=>n-(intOf y).toNat)
 case atStart=>exact⟨0,0,rfl,rfl,Nat.zero_le _,rfl,rfl,by omega,by omega,Keeps.refl _ _⟩
 case round=>
  obtain⟨i,s,rfl,rfl,hin,hs,hall,hs0,hs1,hk⟩:=hrel;refine jc ?_;intro wq hwq;subst hwq;have hb:=Hbx.out _ hk;have c0:=Aa hb 0;have c1:=Aa hb 1;have c2:=Aa hb 2;have bl:=lt_of_block hb;have hs2:s<=8000000000000000:=j3;by_cases hlt:i<n
  ·have hltI:(i:Int)<(n:Int):=j3;obtain⟨x,hx⟩:=Aj (L:=L) (k:=i) j1;obtain⟨g,o,he,hc⟩:=(Hr.out.keeps ((Keeps.alloc w _).nt hk) (by simp)).int (k:= .i64) hx;subst he;have hgl:=Ai hc;have hsn:=Mk hx;rw [hs] at hsn;rcases m3:Az x with _|_
   ·have hf:Ps.Ar ⟨L,cr,du⟩=false:=by unfold Ps.Ar;rw [show scanB L=false from Rq hx m3];rfl
    obtain rfl:z=false:=Hz.out.symm.trans hf;obtain⟨Hall,Hk,Hs,Hsn,Hx,Hf,Hb⟩:=hid7 hall hk hs hsn hx hf hb;clear hb hf hx hsn hs hk hall
    go_wp2_with (go_at_call 220;(with_reducible refine(Bl m3 _).mono ?_);rintro e w1 ⟨rfl,rfl⟩)
    exact j0O
   ·obtain⟨x0,x1⟩:=(Aw x).1 m3;have hall2:(L.take (i+1)).all Az=true:=by rw [take_snoc' hx,List.all_append,hall];simp [m3]
    obtain⟨Hall,Hall2,Hk,Hs,Hsn,Hx,Hb⟩:=hid7 hall hall2 hk hs hsn hx hb;clear hb hx hsn hs hk hall2 hall
    go_wp2_with (go_at_call 220;(with_reducible refine(Bl m3 _).mono ?_);rintro e w1 ⟨rfl,rfl⟩)
    exact j3t
  ·obtain rfl:n=i:=by omega
   rw [List.take_of_length_le j1] at hs hall;have Hb:=Lib.hid hb;clear hb;rcases m5:Az s with _|_
   ·skip
    have hf:Ps.Ar ⟨L,cr,du⟩=false:=by unfold Ps.Ar scanB;simp only [hall,hs,hN,m1,m2,m5,Bool.true_and,Bool.false_and,Bool.and_false,decide_eq_true n1',decide_eq_true n8']
    obtain rfl:z=false:=Hz.out.symm.trans hf;exact j1l
   ·by_cases h6:cr=0
    ·have h6I:(cr==0)=true:=by rw [beq_iff_eq];exact h6
     have h6d:decide (cr=0)=true:=decide_eq_true h6;clear h6;have hf:Ps.Ar ⟨L,cr,du⟩=true:=by unfold Ps.Ar scanB;simp only [hall,hs,hN,m1,m2,m5,h6d,Bool.and_true,Bool.true_or,decide_eq_true n1',decide_eq_true n8']
     obtain rfl:z=true:=Hz.out.symm.trans hf;exact j1l
    ·have h6I:(cr==0)=false:=beq_eq_false_iff_ne.2 h6;have h6d:decide (cr=0)=false:=decide_eq_false h6;by_cases h7:s=0
     ·have h7I:(s==0)=true:=by rw [beq_iff_eq];exact h7
      have h7d:decide (s=0)=true:=decide_eq_true h7;clear h6 h7;have hf:Ps.Ar ⟨L,cr,du⟩=true:=by unfold Ps.Ar scanB;simp only [hall,hs,hN,m1,m2,m5,h6d,h7d,Bool.and_true,Bool.or_true,decide_eq_true n1',decide_eq_true n8']
      obtain rfl:z=true:=Hz.out.symm.trans hf;exact j1l
     ·have h7I:(s==0)=false:=beq_eq_false_iff_ne.2 h7;have h7d:decide (s=0)=false:=decide_eq_false h7;clear h6 h7;have hf:Ps.Ar ⟨L,cr,du⟩=false:=by unfold Ps.Ar scanB;simp only [hall,hs,hN,m1,m2,m5,h6d,h7d,Bool.and_true,Bool.and_false,Bool.or_false,decide_eq_true n1',decide_eq_true n8']
      obtain rfl:z=false:=Hz.out.symm.trans hf;exact j1l
theorem Tv(L:List Int)(cr du:Int)(ad:Option Addr)(cap n:Nat)(w:World)(hr:Reads w 1 (.slice ad n cap) n (L.flatMap i64c))(hN:L.length=n)(hl:n<=9223372036854775807)(hright:Ps.Ar ⟨L,cr,du⟩=true):
  Calls Tryz.prog 189 #[.agg #[.slice ad n cap,.int .i64 cr,.int .i64 du]] w λe w'=>e= .returned (.int .i64 (sumI L))/\Keeps (λ_=>False) w w':=by
 obtain⟨hm,n1,n8⟩:(∀x∈L,0<=x/\x<=1000000000000000)/\1<=n/\n<=8:=by
  have h:=Cc hright;exact⟨h.1,by have h2:=h.2.2.2.1;simp only at h2;omega,by have h2:=h.2.2.2.2;simp only at h2;omega⟩
 have hri:=λW (hW:Keeps (λ_=>False) w W)=>Lj L cr du ad cap n W (hr.keeps hW (by simp)) hN hl;rw [hright] at hri;obtain⟨R,hR⟩:∃R,sumI L=R:=⟨_,rfl⟩;rw [hR];obtain⟨Hr,Hm,Hri,HR,Hright⟩:=hid5 hr hm hri hR hright;clear hright hR hri hm hr;go_enter Tryz.func189,Tryz.ntmps189
 go_wp2_with (go_at_call 173;(with_reducible refine(Hri.out _ (Keeps.alloc _ _)).mono ?_);rintro e w1 ⟨rfl,hk1⟩;have hb1:=Kb hk1 (by simp);have c0:=Aa hb1 0;have bl:=lt_of_block hb1;have Hk1:=Lib.hid hk1;have Hb1:=Lib.hid hb1;clear hk1 hb1)
 clear c0 bl
 go_loopw [3,4] (λx y wx=>∃(i:Nat) (s:Int),x= .int .i64 s/\y= .int .i64 (i:Nat)/\i<=n/\sumI (L.take i)=s/\0<=s/\s<=i*1000000000000000/\Keeps (λ_=>False) w1 wx) (λ_ y _=>n-(intOf y).toNat)
 case atStart=>exact⟨0,0,rfl,rfl,Nat.zero_le _,rfl,by omega,by omega,Keeps.refl _ _⟩
 case round=>
  obtain⟨i,s,rfl,rfl,hin,hs,hs0,hs1,hk⟩:=hrel;refine jc ?_;intro wq hwq;subst hwq;have hb:=Ac Hb1.out hk (by simp);have c0:=Aa hb 0;have bl:=lt_of_block hb;by_cases hlt:i<n
  ·have hltI:(i:Int)<(n:Int):=j3;obtain⟨x,hx⟩:=Aj (L:=L) (k:=i) j1;obtain⟨g,o,he,hc⟩:=(Hr.out.keeps (((Keeps.alloc w _).nt Hk1.out).nt hk) (by simp)).int (k:= .i64) hx;subst he;have hgl:=Ai hc;have hsn:=Mk hx;rw [hs] at hsn;obtain⟨x0,x1⟩:=Hm.out x (List.mem_of_getElem? hx);obtain⟨Hk,Hs,Hsn,Hx,Hb⟩:=hid5 hk hs hsn hx hb;clear hb hx hsn hs hk;go_wp2;go_roundw
   case rel=>exact⟨i+1,s+x,rfl,by go_num,by omega,Hsn.out,by omega,by omega,Hk.out⟩
   case measure=>simp [intOf];omega
  ·obtain rfl:n=i:=by omega
   rw [List.take_of_length_le j1,HR.out] at hs;subst hs;obtain⟨Hk,Hb⟩:=hid2 hk hb;clear hb hk;go_wp2;go_ret;exact⟨rfl,((Keeps.alloc w _).nt Hk1.out).nt Hk.out⟩
def ro6(gR oR i q gO j:Nat)(r r' x:Int)(W:World):Prop:=W.cell? ⟨gR,oR+i,none⟩=some (.int .i64 r)/\W.cell? ⟨gO,j,none⟩=some (.int .i64 x)/\W.cell? ⟨gR,oR+q,none⟩=some (.int .i64 r')
def OrdR(w:World)(hi:Bool)(R:List Int)(i:Nat)(v:Value)(W:World):Prop:=W.ownsRow 0 3 1 v i ((rankN hi R i).flatMap i64c)/\Fresh w W v
end Go.Proofs.YtgfkeeicjjbnpaaGreat
