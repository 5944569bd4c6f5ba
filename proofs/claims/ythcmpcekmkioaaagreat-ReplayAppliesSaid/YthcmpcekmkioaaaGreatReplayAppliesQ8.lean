/- Part 8 of the proof of ReplayApplies: walks and plain laws. -/
import Derived.Test.YthcmpcekmkioaaaGreatReplayAppliesQ7
namespace Go.Proofs.YthcmpcekmkioaaaGreat
open Go.RowKit
theorem tbS.keepS{E:Nat}{t:Tm}{v:Value}{w w':World}{S:Nat→Prop}(h:tbS E t v w)(hk:Keeps S w w')(hS:¬S E):tbS E t v w':=by
 obtain⟨h0,h1,h2,h3,h4,h5,h6⟩:=h
 exact⟨(hk.cell (cell_lt h0) hS).trans h0,(hk.cell (cell_lt h1) hS).trans h1,(hk.cell (cell_lt h2) hS).trans h2,(hk.cell (cell_lt h3) hS).trans h3,(hk.cell (cell_lt h4) hS).trans h4,(hk.cell (cell_lt h5) hS).trans h5,(hk.cell (cell_lt h6) hS).trans h6⟩
structure PreR(w:World)(B b8 b13:Nat)(t:Tm)(n:Nat)(vt:Value)(T:List Ev)(A:List (Int×Int))(vS vl vb:Value)(f0 f1 f2:Value)(vr:Value)(k:Nat)(W:World):Prop where
 blk:W.heap[B]?=some (.cells #[.int .i64 t.limit,vt, .int .i64 t.cyc, .int .i64 t.due, .int .i64 t.minFixed, .int .i64 t.minPart, .int .i64 t.start,vl, .int .i64 0, .int .i64 t.start,vb, .int .i64 0, .int .i64 0,vr, .slice none 0 0, .slice none 0 0, .slice none 0 0,f0,f1,f2] 110 (0,0))
 tb:tbS w.heap.size t vt W
 evs:W.ownsRow 0 26 5 vl T.length (T.flatMap Ev.cells)
 bal:W.ownsRow 0 2 1 vb n ((List.replicate n (0:Int)).flatMap i64c)
 rts:W.ownsRow 0 2 1 vr k (((t.trs.map Tn.rate).take k).flatMap i64c)
 pos:W.heap[b8]?=some (.cells #[.slice none 0 0, .int .i64 0, .int .i64 0] 24 (0,0))
 spn:W.heap[b13]?=some (.cells #[.int .i64 0, .int .i64 0] 77 (0,0))
 row:W.ownsRow 0 77 2 vS A.length (A.flatMap spc)
 lo:w.heap.size≤b8∧w.heap.size≤b13∧w.heap.size≤B∧∀g,vS.ownBlock=some g→w.heap.size≤g
 nv:∀g,vS.ownBlock=some g→g≠b13
 wl:∀g,vl.ownBlock=some g→w.heap.size≤g
 wb:∀g,vb.ownBlock=some g→w.heap.size≤g
 wr:∀g,vr.ownBlock=some g→w.heap.size≤g
 br:∀g,vb.ownBlock=some g→vr.ownBlock≠some g
 tn:vr.ownBlock≠some w.heap.size
 kp:Keeps (fun _=>False) w W
section
variable {w:World} {B b8 b13:Nat} {t:Tm} {n:Nat} {vt:Value} {T:List Ev} {A:List (Int×Int)} {vS vl vb f0 f1 f2 vr:Value} {k:Nat} {W W':World}
theorem PreR.keep0(h:PreR w B b8 b13 t n vt T A vS vl vb f0 f1 f2 vr k W)(hk:Keeps (fun _=>False) W W'):PreR w B b8 b13 t n vt T A vS vl vb f0 f1 f2 vr k W':=
 { h with
  blk:=box_old h.blk hk (by simp)
  tb:=h.tb.keep hk
  evs:=h.evs.of_keeps hk
  bal:=h.bal.of_keeps hk
  rts:=h.rts.of_keeps hk
  pos:=box_old h.pos hk (by simp)
  spn:=box_old h.spn hk (by simp)
  row:=h.row.of_keeps hk
  kp:=h.kp.nt hk }
theorem PreR.app(h:PreR w B b8 b13 t n vt T A vS vl vb f0 f1 f2 vr k W)(hnB:¬B=w.heap.size){x:Int}(hx:(t.trs.map Tn.rate)[k]?=some x){v9:Value}(hk:Keeps (fun i=>vr.ownBlock=some i) W W')(hr:W'.ownsRow 0 2 1 v9 (k+1) (((t.trs.map Tn.rate).take k++ [x]).flatMap i64c))
  (hf:v9.ownBlock=vr.ownBlock∨∃g,v9.ownBlock=some g∧W.heap.size≤g):PreR w B b8 b13 t n vt T A vS vl vb f0 f1 f2 v9 (k+1) (W'.setCell ⟨B,13,none⟩ v9):=by
 have nb:∀{e:TypeId} {b:Nat} {c:Array Value},W.heap[b]?=some (.cells c e (0,0))→e≠2→¬vr.ownBlock=some b:=fun hb hne=>ownsRow_ne h.rts hb hne
 have nr:∀{e:TypeId} {sz m:Nat} {u:Value} {xs:List Value},W.ownsRow 0 e sz u m xs→e≠2→∀b,u.ownBlock=some b→¬vr.ownBlock=some b:=fun hr' hne b hb e=>rows_ne hr' h.rts hne hb e
 have hB:=box_old h.blk hk (nb h.blk (by decide))
 have kB:Keeps (fun i=>i=B) W' (W'.setCell ⟨B,13,none⟩ v9):=Keeps.setCell _ _ _ rfl
 have hne:∀{e:TypeId} {sz m:Nat} {v:Value} {xs:List Value},W'.ownsRow 0 e sz v m xs→110≠e→∀i,v.ownBlock=some i→¬i=B:=fun hr hne i hi e=>by subst e;exact ownsRow_ne hr hB hne hi
 have nog:∀{e:TypeId} {g:Nat} {c:Array Value},W'.heap[g]?=some (.cells c e (0,0))→110≠e→¬g=B:=fun hg hne' e=>by
  subst e
  rw [hB] at hg
  injection hg with h1
  injection h1 with _ h1 _
  exact absurd h1 hne'
 have hp:=box_old h.pos hk (nb h.pos (by decide))
 have hs:=box_old h.spn hk (nb h.spn (by decide))
 have he:=hk.row h.evs (nr h.evs (by decide))
 have ho:=hk.row h.row (nr h.row (by decide))
 have hbl:=hk.row h.bal (fun b hb=>h.br b hb)
 have hsz:=h.kp.size
 refine⟨(heap_setCell_same _ _ 13 _ _ _ hB).trans rfl, ?_,kB.row he (hne he (by decide)),kB.row hbl (hne hbl (by decide)), ?_,box_old hp kB (nog hp (by decide)),box_old hs kB (nog hs (by decide)),kB.row ho (hne ho (by decide)),h.lo,h.nv,h.wl,h.wb,fun g hg=> ?_,fun g hg e=> ?_,fun e=> ?_, ?_⟩
 ·exact(h.tb.keepS hk h.tn).keepS kB (fun e=>hnB (Eq.symm e))
 ·rw [take_snoc' hx]
  exact kB.row hr (hne hr (by decide))
 ·rcases hf with e|⟨g',e,hh⟩
  ·exact h.wr g (e▸hg)
  ·rw [e] at hg;injection hg with hg;omega
 ·rcases hf with e'|⟨g',e',hh⟩
  ·exact h.br g hg (e'▸e)
  ·rw [e'] at e;injection e with e;have:=own_lt h.bal hg;omega
 ·rcases hf with e'|⟨g',e',hh⟩
  ·exact h.tn (e'▸e)
  ·rw [e'] at e;injection e with e;have:w.heap.size<W.heap.size:=cell_lt h.tb.1;omega
 ·exact(h.kp.trans (hk.mono fun i _ e=> .inr (h.wr i e))).trans (kB.mono fun i _ e=> .inr (by have e':i=B:=e;rw [e'];exact h.lo.2.2.1))
theorem PreR.start(hb:W.heap[B]?=some (.cells #[.int .i64 t.limit,vt, .int .i64 t.cyc, .int .i64 t.due, .int .i64 t.minFixed, .int .i64 t.minPart, .int .i64 t.start,vl, .int .i64 0, .int .i64 t.start, .slice none 0 0, .int .i64 0, .int .i64 0, .slice none 0 0, .slice none 0 0, .slice none 0 0, .slice none 0 0,f0,f1,f2] 110 (0,0)))(htb:tbS w.heap.size t vt W)(he:W.ownsRow 0 26 5 vl T.length (T.flatMap Ev.cells))
  (hp:W.heap[b8]?=some (.cells #[.slice none 0 0, .int .i64 0, .int .i64 0] 24 (0,0))) (hs:W.heap[b13]?=some (.cells #[.int .i64 0, .int .i64 0] 77 (0,0))) (hr:W.ownsRow 0 77 2 vS A.length (A.flatMap spc)) (lo:w.heap.size≤b8∧w.heap.size≤b13∧w.heap.size≤B∧∀g,vS.ownBlock=some g→w.heap.size≤g) (nv:∀g,vS.ownBlock=some g→g≠b13) (wl:∀g,vl.ownBlock=some g→w.heap.size≤g)
  (hn:n≤maxLen) (hnB:B≠w.heap.size) (hk:Keeps (fun _=>False) w W):PreR w B b8 b13 t n vt T A vS vl (.slice (some ⟨W.heap.size,0,none⟩) n n) f0 f1 f2 (.slice none 0 0) 0 ((W.alloc (.cells (madeCells (Value.int .i64 0).cells n) 2)).setCell ⟨B,10,none⟩ (.slice (some ⟨W.heap.size,0,none⟩) n n)):=by
 have kA:Keeps (fun _=>False) W (W.alloc (.cells (madeCells (Value.int .i64 0).cells n) 2)):=Keeps.alloc _ _
 have kB:Keeps (fun i=>i=B) (W.alloc (.cells (madeCells (Value.int .i64 0).cells n) 2)) ((W.alloc (.cells (madeCells (Value.int .i64 0).cells n) 2)).setCell ⟨B,10,none⟩ (.slice (some ⟨W.heap.size,0,none⟩) n n)):=Keeps.setCell _ _ _ rfl
 have hne:∀{e:TypeId} {sz m:Nat} {v:Value} {xs:List Value},W.ownsRow 0 e sz v m xs→110≠e→∀i,v.ownBlock=some i→¬i=B:=fun hr hne i hi e=>by subst e;exact ownsRow_ne hr hb hne hi
 have nog:∀{e:TypeId} {g:Nat} {c:Array Value},W.heap[g]?=some (.cells c e (0,0))→110≠e→¬g=B:=fun hg hne' e=>by
  subst e
  rw [hb] at hg
  injection hg with h1
  injection h1 with _ h1 _
  exact absurd h1 hne'
 have hbl:=lt_of_block hb
 have hks:=hk.size
 have hm:=(RowZ.made W 2 n hn).1
 refine⟨(heap_setCell_same _ _ 10 _ _ _ (box_alloc hb _)).trans rfl,(htb.keep kA).keepS kB (fun e=>hnB (Eq.symm e)),kB.row (he.of_keeps kA) (hne he (by decide)),kB.row hm (fun i hi e=>by simp [Value.ownBlock] at hi;have e':i=B:=e;omega),World.ownsRow_nil _ _ _ _,box_old (box_alloc hp _) kB (nog hp (by decide)),box_old (box_alloc hs _) kB (nog hs (by decide)),kB.row (hr.of_keeps kA) (hne hr (by decide)),lo,nv,wl,fun g hg=> ?_,fun g hg=>by simp [Value.ownBlock] at hg,fun g hg e=>by simp [Value.ownBlock] at e,by simp [Value.ownBlock], ?_⟩
 ·simp [Value.ownBlock] at hg;omega
 ·exact(hk.nt kA).trans (kB.mono fun i _ e=> .inr (by have e':i=B:=e;have:=lo.2.2.1;omega))
theorem PreR.fin(h:PreR w B b8 b13 t n vt T A vS vl vb .nilFunc .nilFunc .nilFunc vr n W)(hn:t.trs.length=n)(hvt:Reads w 2 vt n (t.trs.flatMap Tn.cells))(hvb:∀b,vt.ownBlock=some b→b<w.heap.size){a b:Nat}(hB:W'.heap[B]?=some (.cells #[.int .i64 t.limit,vt, .int .i64 t.cyc, .int .i64 t.due, .int .i64 t.minFixed, .int .i64 t.minPart, .int .i64 t.start,vl, .int .i64 0, .int .i64 t.start,vb, .int .i64 0, .int .i64 0,vr, .slice (some ⟨a,0,none⟩) n n, .slice (some ⟨b,0,none⟩) n n, .slice none 0 0, .nilFunc, .nilFunc, .nilFunc] 110 (0,0)))
  (ha:W'.heap[a]?=some (.cells ((List.replicate n si0).map SI.v).toArray 22 (0,0))) (hb:W'.heap[b]?=some (.cells ((List.replicate n si0).map SI.v).toArray 22 (0,0))) (la:W.heap.size≤a) (lb:W.heap.size≤b) (hab:a≠b) (hk:Keeps (fun i=>i=B) W W'):DayW w B b8 b13 t n vt T A vS (st0 t) W':=by
 have hne:∀{e:TypeId} {sz m:Nat} {v:Value} {xs:List Value},W.ownsRow 0 e sz v m xs→110≠e→∀i,v.ownBlock=some i→¬i=B:=fun hr hne i hi e=>by subst e;exact ownsRow_ne hr h.blk hne hi
 have nog:∀{e:TypeId} {g:Nat} {c:Array Value},W.heap[g]?=some (.cells c e (0,0))→110≠e→¬g=B:=fun hg hne' e=>by
  subst e
  rw [h.blk] at hg
  injection hg with h1
  injection h1 with _ h1 _
  exact absurd h1 hne'
 have hnil:∀x∈List.replicate n si0,x=si0:=fun x hx=>(List.mem_replicate.1 hx).2
 have hget:∀(j:Nat) (x:SI),(List.replicate n si0)[j]?=some x→x=si0:=fun j x hx=>hnil x (List.mem_of_getElem? hx)
 obtain⟨lo1,lo2,lo3,lo4⟩:=h.lo
 have hks:=h.kp.size
 have nX:∀i,W.heap.size≤i→¬wkX b8 b13 vS i:=fun i hi e=>by
  rcases e with e|e|e
  ·have:=lt_of_block h.pos;omega
  ·have:=lt_of_block h.spn;omega
  ·have:=own_lt h.row e;omega
 have nR:∀{e:TypeId} {sz m:Nat} {v:Value} {xs:List Value},W.ownsRow 0 e sz v m xs→e≠24→e≠77→∀i,v.ownBlock=some i→¬wkX b8 b13 vS i:=fun hr h1 h2 i hi e=>by
  rcases e with e|e|e
  ·subst e;exact ownsRow_ne hr h.pos (Ne.symm h1) hi
  ·subst e;exact ownsRow_ne hr h.spn (Ne.symm h2) hi
  ·exact rows_ne h.row hr h2.symm e hi
 have nB:¬wkX b8 b13 vS B:=fun e=>by
  rcases e with e|e|e
  ·exact nog h.pos (by decide) e.symm
  ·exact nog h.spn (by decide) e.symm
  ·exact hne h.row (by decide) _ e rfl
 have hk0:Keeps (fun _=>False) w W':=h.kp.trans (hk.mono fun i _ e=> .inr (by have e':i=B:=e;omega))
 have hrt:=h.rts
 rw [List.take_of_length_le (by rw [List.length_map];omega)] at hrt
 refine⟨⟨vl,vb,vr,a,b,List.replicate n si0,List.replicate n si0, .slice none 0 0, [], ?_⟩,box_old h.pos hk (nog h.pos (by decide)),⟨0,0,box_old h.spn hk (nog h.spn (by decide))⟩,hk.row h.row (hne h.row (by decide)),⟨lo1,lo2,lo4⟩,h.nv⟩
 exact {
  blk:=hB
  trs:=hvt.keeps hk0 (by simp)
  evs:=hk.row h.evs (hne h.evs (by decide))
  bal:=by show W'.ownsRow 0 _ 1 vb n ((List.replicate t.trs.length (0:Int)).flatMap i64c);rw [hn];exact hk.row h.bal (hne h.bal (by decide))
  rts:=hk.row hrt (hne hrt (by decide))
  o0:=ha
  o1:=hb
  i0:=fun x hx=>by rw [hnil x hx];exact World.ownsRow_nil _ _ _ _
  i1:=fun x hx=>by rw [hnil x hx];exact World.ownsRow_nil _ _ _ _
  out:=World.ownsRow_nil _ _ _ _
  ln:=fun x hx=>by simp at hx
  l0:=by simp [si0,st0,hn]
  l1:=by simp [si0,st0,hn]
  lp:=rfl
  n0:=by simp
  n1:=by simp
  nb:=by simp [st0,hn]
  nr:=by simp [st0,hn]
  d00:=fun j k x y hx hy _ b e=>by rw [hget j x hx] at e;simp [si0,SI.v,Value.ownBlock] at e
  d11:=fun j k x y hx hy _ b e=>by rw [hget j x hx] at e;simp [si0,SI.v,Value.ownBlock] at e
  d01:=fun x y hx hy b e=>by rw [hnil x hx] at e;simp [si0,SI.v,Value.ownBlock] at e
  db0:=fun x hx b e=>by rw [hnil x hx] at e;simp [si0,SI.v,Value.ownBlock] at e
  db1:=fun x hx b e=>by rw [hnil x hx] at e;simp [si0,SI.v,Value.ownBlock] at e
  g01:=hab
  wB:=⟨lo3,nB⟩
  w0':=⟨by omega,nX a la⟩
  w1':=⟨by omega,nX b lb⟩
  wl:=fun i hi=>⟨h.wl i hi,nR h.evs (by decide) (by decide) i hi⟩
  wb:=fun i hi=>⟨h.wb i hi,nR h.bal (by decide) (by decide) i hi⟩
  wr:=fun i hi=>⟨h.wr i hi,nR h.rts (by decide) (by decide) i hi⟩
  wo:=fun i hi=>by simp [Value.ownBlock] at hi
  wi0:=fun x hx b e=>by rw [hnil x hx] at e;simp [si0,SI.v,Value.ownBlock] at e
  wi1:=fun x hx b e=>by rw [hnil x hx] at e;simp [si0,SI.v,Value.ownBlock] at e
  wln:=fun x hx=>by simp at hx
  wt:=fun i hi=>⟨hvb i hi,fun e=>by
   have:=hvb i hi
   rcases e with e|e|e
   ·omega
   ·omega
   ·have:=lo4 i e;omega⟩
  xl:=fun i e=>by
   rcases e with e|e|e
   ·subst e;exact Nat.lt_of_lt_of_le (lt_of_block h.pos) hk.size
   ·subst e;exact Nat.lt_of_lt_of_le (lt_of_block h.spn) hk.size
   ·exact Nat.lt_of_lt_of_le (own_lt h.row e) hk.size
  yx:=fun _ e=>e
  fz:=fun _ _=>rfl
  kp:=hk0.mono (by simp) }
end
end Go.Proofs.YthcmpcekmkioaaaGreat
namespace Go.Proofs.YthcmpcekmkioaaaGreat
open Go.RowKit
def wkS(b:Nat)(t:Tm)(vt f0 f1 f2:Value)(W:World):Prop:=tbS b t vt W∧W.cell? ⟨b+1,0,none⟩=some f0∧W.cell? ⟨b+1,1,none⟩=some f1∧W.cell? ⟨b+1,2,none⟩=some f2
theorem wkS.keep{b:Nat}{t:Tm}{vt f0 f1 f2:Value}{W W':World}(h:wkS b t vt f0 f1 f2 W)(hk:Keeps (fun _=>False) W W'):wkS b t vt f0 f1 f2 W':=
 ⟨h.1.keep hk,(hk.cell (cell_lt h.2.1) (by simp)).trans h.2.1,(hk.cell (cell_lt h.2.2.1) (by simp)).trans h.2.2.1,(hk.cell (cell_lt h.2.2.2) (by simp)).trans h.2.2.2⟩
structure WalkRes(w:World)(n:Nat)(s:St)(vb vr vo:Value)(P:List SV)(w':World):Prop where
 bal:w'.ownsRow 0 2 1 vb n (s.p.bal.flatMap i64c)
 rts:w'.ownsRow 0 2 1 vr n (s.R.flatMap i64c)
 out:w'.ownsRow 0 80 9 vo P.length (P.flatMap SV.cells)
 ln:∀x∈P,w'.ownsRow 0 117 3 x.v x.s.lines.length (x.s.lines.flatMap Ln.cells)
 lp:P.map SV.s=s.out
 nb:s.p.bal.length=n
 nr:s.R.length=n
 wb:∀b,vb.ownBlock=some b→w.heap.size≤b
 wr:∀b,vr.ownBlock=some b→w.heap.size≤b
 wo:∀b,vo.ownBlock=some b→w.heap.size≤b
 wl:∀x∈P,∀b,x.v.ownBlock=some b→w.heap.size≤b
 kp:Keeps (fun _=>False) w w'
def WalkPost(w:World)(n:Nat)(Z:St×Int)(e:Ending)(w':World):Prop:=(Z.2=0∧∃vb vr vo P,e= .returned (.tuple #[.agg #[vb, .int .i64 Z.1.p.cr, .int .i64 Z.1.p.du],vr,vo, .int .i64 0])∧WalkRes w n Z.1 vb vr vo P w')∨
 (Z.2≠0∧e= .returned (.tuple #[.agg #[.slice none 0 0, .int .i64 0, .int .i64 0], .slice none 0 0, .slice none 0 0, .int .i64 Z.2])∧Keeps (fun _=>False) w w')
def wkFr(td:Int)(b:Nat)(vS:Value)(B:Nat)(u:Nat→Value):Act:={ tmps:= #[u 0,u 1, .int .i64 td,u 3,u 4,u 5,u 6,u 7,(.pointer (some ⟨b+1+1,0,none⟩)),u 9,u 10,u 11,vS,(.pointer (some ⟨b+1+1+1,0,none⟩)),(.pointer (some ⟨B,0,none⟩)),u 15,u 16,u 17,u 18,u 19,u 20,u 21,u 22,u 23,u 24,u 25,u 26,u 27,u 28,u 29,u 30,u 31,u 32,u 33,u 34,u 35,u 36,u 37,u 38,u 39,u 40,u 41,u 42,u 43,u 44,u 45,u 46,u 47,u 48,u 49,u 50,u 51,u 52,u 53,u 54,u 55,u 56,u 57,u 58,u 59,u 60,u 61,u 62,u 63,u 64,u 65,u 66,u 67,u 68,u 69,u 70,u 71,u 72,u 73,u 74,u 75,u 76,u 77,u 78,u 79,u 80,u 81,u 82,u 83,u 84,u 85,u 86,u 87,u 88,u 89,u 90,u 91,u 92,u 93,u 94,u 95,u 96,u 97,u 98,u 99,u 100,u 101,u 102,u 103,u 104,u 105,u 106,u 107,u 108,u 109,u 110,u 111,u 112,u 113,u 114,u 115,u 116,u 117,u 118,u 119],defers:= [] }
def wk0Fr(b:Nat)(e:Int)(u:Nat→Value):Act:={ tmps:= #[u 0,u 1,u 2,u 3,u 4,u 5,u 6,u 7,(.pointer (some ⟨b+1+1,0,none⟩)),u 9,u 10,u 11,u 12,u 13,u 14, .int .i64 e,u 16,u 17,u 18,u 19,u 20,u 21,u 22,u 23,u 24,u 25,u 26,u 27,u 28,u 29,u 30,u 31,u 32,u 33,u 34,u 35,u 36,u 37,u 38,u 39,u 40,u 41,u 42,u 43,u 44,u 45,u 46,u 47,u 48,u 49,u 50,u 51,u 52,u 53,u 54,u 55,u 56,u 57,u 58,u 59,u 60,u 61,u 62,u 63,u 64,u 65,u 66,u 67,u 68,u 69,u 70,u 71,u 72,u 73,u 74,u 75,u 76,u 77,u 78,u 79,u 80,u 81,u 82,u 83,u 84,u 85,u 86,u 87,u 88,u 89,u 90,u 91,u 92,u 93,u 94,u 95,u 96,u 97,u 98,u 99,u 100,u 101,u 102,u 103,u 104,u 105,u 106,u 107,u 108,u 109,u 110,u 111,u 112,u 113,u 114,u 115,u 116,u 117,u 118,u 119],defers:= [] }
def ptB(a:Act):Nat:=match a.tmps.getD 14 undef with| .pointer (some ⟨b,_,_⟩)=>b|_=>0
def wkJ0(w:World)(R:St×Int)(a':Act)(W:World):Prop:=∃(e:Int) (u:Nat→Value),a'=wk0Fr w.heap.size e u∧W.heap[w.heap.size+1+1]?=some (.cells #[.slice none 0 0, .int .i64 0, .int .i64 0] 24 (0,0))∧Keeps (fun _=>False) w W∧e≠0∧R.2=e
def wkJ1(w:World)(t:Tm)(n:Nat)(vt:Value)(T:List Ev)(td:Int)(A:List (Int×Int))(R:St×Int)(z:Int)(a':Act)(W:World):Prop:=z=0∧∃(s:St) (B:Nat) (vS:Value) (u:Nat→Value),a'=wkFr td w.heap.size vS B u∧DayW w B (w.heap.size+1+1) (w.heap.size+1+1+1) t n vt T A vS s W∧DayP t T n td A s R
theorem wkJ0.mk{w:World}{R:St×Int}{a':Act}{W:World}(e:Int)(h:a'=wk0Fr w.heap.size e (fun i=>a'.tmps.getD i undef))(h1:W.heap[w.heap.size+1+1]?=some (.cells #[.slice none 0 0, .int .i64 0, .int .i64 0] 24 (0,0)))(h2:Keeps (fun _=>False) w W)(h3:e≠0)(h4:R.2=e):wkJ0 w R a' W:=⟨e,_,h,h1,h2,h3,h4⟩
theorem wkJ1.mk{w:World}{t:Tm}{n:Nat}{vt:Value}{T:List Ev}{td:Int}{A:List (Int×Int)}{R:St×Int}{z:Int}{a':Act}{W:World}(s:St)(B:Nat)(vS:Value)(hz:z=0)(h:a'=wkFr td w.heap.size vS B (fun i=>a'.tmps.getD i undef))(h1:DayW w B (w.heap.size+1+1) (w.heap.size+1+1+1) t n vt T A vS s W)(h2:DayP t T n td A s R):wkJ1 w t n vt T td A R z a' W:=⟨hz,s,B,vS,_,h,h1,h2⟩
theorem flatMap_len:∀M:List Tn,(M.flatMap Tn.cells).length=M.length*2
 | []=>rfl
 |x::M=>by rw [List.flatMap_cons,List.length_append,flatMap_len M,Tn.cells_length,List.length_cons];omega
def r11S(B b:Nat)(vr:Value)(x:Int)(W:World):Prop:=W.cell? ⟨B,13,none⟩=some vr∧W.cell? ⟨b,0,none⟩=some (.int .i64 x)
theorem r11S.keep{B b:Nat}{vr:Value}{x:Int}{S:Nat→Prop}{W W':World}(h:r11S B b vr x W)(hk:Keeps S W W')(h1:¬S B)(h2:¬S b):r11S B b vr x W':=⟨(hk.cell (cell_lt h.1) h1).trans h.1,(hk.cell (cell_lt h.2) h2).trans h.2⟩
def w20S(b13 B:Nat)(te sd:Int)(W:World):Prop:=W.cell? ⟨b13,1,none⟩=some (.int .i64 te)∧W.cell? ⟨B,9,none⟩=some (.int .i64 sd)
def w17S(B:Nat)(vb:Value)(cr du:Int)(vr vo:Value)(W:World):Prop:=W.cell? ⟨B,10,none⟩=some vb∧W.cell? ⟨B,11,none⟩=some (.int .i64 cr)∧W.cell? ⟨B,12,none⟩=some (.int .i64 du)∧W.cell? ⟨B,13,none⟩=some vr∧W.cell? ⟨B,16,none⟩=some vo
theorem w17S.keep{B:Nat}{vb vr vo:Value}{cr du:Int}{S:Nat→Prop}{W W':World}(h:w17S B vb cr du vr vo W)(hk:Keeps S W W')(hB:¬S B):w17S B vb cr du vr vo W':=by
 obtain⟨h1,h2,h3,h4,h5⟩:=h
 exact⟨(hk.cell (cell_lt h1) hB).trans h1,(hk.cell (cell_lt h2) hB).trans h2,(hk.cell (cell_lt h3) hB).trans h3,(hk.cell (cell_lt h4) hB).trans h4,(hk.cell (cell_lt h5) hB).trans h5⟩
theorem walkRes_of{w:World}{X:Fx}{B b8:Nat}{t:Tm}{n:Nat}{vt:Value}{T:List Ev}{f0 f1 f2:Value}{s:St}{vl vb vr:Value}{g0 g1:Nat}{S0 S1:List SI}{vo:Value}{P:List SV}{W W':World}(h:RunV w X B t n vt T f0 f1 f2 s vl vb vr g0 g1 S0 S1 vo P W)(hk:Keeps (fun i=>i=b8) W W')(hX:X.X b8)(hb8:w.heap.size≤b8)(hkw:Keeps (fun _=>False) w W):WalkRes w n s vb vr vo P W' where
 bal:=hk.row h.bal fun b hb e=>by have e':b=b8:=e;exact(h.wb b hb).2 (e'▸hX)
 rts:=hk.row h.rts fun b hb e=>by have e':b=b8:=e;exact(h.wr b hb).2 (e'▸hX)
 out:=hk.row h.out fun b hb e=>by have e':b=b8:=e;exact(h.wo b hb).2 (e'▸hX)
 ln:=fun x hx=>hk.row (h.ln x hx) fun b hb e=>by have e':b=b8:=e;exact(h.wln x hx b hb).2 (e'▸hX)
 lp:=h.lp
 nb:=h.nb
 nr:=h.nr
 wb:=fun b hb=>(h.wb b hb).1
 wr:=fun b hb=>(h.wr b hb).1
 wo:=fun b hb=>(h.wo b hb).1
 wl:=fun x hx b hb=>(h.wln x hx b hb).1
 kp:=hkw.trans (hk.mono fun i _ e=> .inr (by have e':i=b8:=e;omega))
set_option maxRecDepth 100000
set_option maxHeartbeats 3200000
theorem repWalk_any(t:Tm)(adt:Option Addr)(ct n:Nat)(L:List Ev)(ad:Option Addr)(cap N:Nat)(td:Int)(f0 f1 f2:Value)(w:World)(hn:t.trs.length=n)(htr:Reads w 2 (.slice adt n ct) n (t.trs.flatMap Tn.cells))(hN:L.length=N)(hr:Reads w 5 (.slice ad N cap) N (L.flatMap Ev.cells))(hl:N≤1000000)(htl:n≤1000000)
  (hf:repErr t L td=0→f0= .nilFunc∧f1= .nilFunc∧f2= .nilFunc):
  Calls Tryz.prog 37 #[.agg #[.int .i64 t.limit, .slice adt n ct, .int .i64 t.cyc, .int .i64 t.due, .int .i64 t.minFixed, .int .i64 t.minPart, .int .i64 t.start], .slice ad N cap, .int .i64 td, .agg #[f0,f1,f2]] w (WalkPost w n (walkR t L td)):=by
 have hsrt:=fun W (hW:Keeps (fun _=>False) w W)=>datSort_any (.slice ad N cap) L W (by rw [hN];exact hr.keeps hW (by simp)) (by omega)
 have hrgt:=fun W (hW:Keeps (fun _=>False) w W)=>repRight_any t adt ct n L ad cap N td W hn (htr.keeps hW (by simp)) hN (hr.keeps hW (by simp)) hl htl
 obtain⟨w4,hw4⟩:∃x,x=(((w.alloc (.cells #[.int .i64 t.limit, .slice adt n ct, .int .i64 t.cyc, .int .i64 t.due, .int .i64 t.minFixed, .int .i64 t.minPart, .int .i64 t.start] 38)).alloc (.cells #[f0,f1,f2] 74)).alloc (.cells #[.slice none 0 0, .int .i64 0, .int .i64 0] 24)).alloc (.cells #[.int .i64 0, .int .i64 0] 77):=⟨_,rfl⟩
 have hS4:∀W,Keeps (fun _=>False) w4 W→wkS w.heap.size t (.slice adt n ct) f0 f1 f2 W:=fun W hW=>by
  have h1:=box_old (box_alloc (box_alloc (halloc_at2 (w.alloc (.cells #[.int .i64 t.limit, .slice adt n ct, .int .i64 t.cyc, .int .i64 t.due, .int .i64 t.minFixed, .int .i64 t.minPart, .int .i64 t.start] 38)) (.cells #[f0,f1,f2] 74) (i:=w.heap.size+1) (by simp)) (.cells #[.slice none 0 0, .int .i64 0, .int .i64 0] 24)) (.cells #[.int .i64 0, .int .i64 0] 77)) (hw4▸hW) (by simp)
  exact⟨tbS.of (box_old (box_alloc (box_alloc (box_alloc (heap_alloc_new w _) _) _) _) (hw4▸hW) (by simp)),cell_of_cells h1 0,cell_of_cells h1 1,cell_of_cells h1 2⟩
 have hk4:Keeps (fun _=>False) w w4:=by rw [hw4];exact((Keeps.alloc _ _).trans_alloc).trans_alloc.trans_alloc
 have hp4:w4.heap[w.heap.size+2]?=some (.cells #[.slice none 0 0, .int .i64 0, .int .i64 0] 24 (0,0)):=by rw [hw4];exact box_alloc (halloc_at2 _ _ (by simp)) _
 have hs4:w4.heap[w.heap.size+3]?=some (.cells #[.int .i64 0, .int .i64 0] 77 (0,0)):=by rw [hw4];exact halloc_at2 _ _ (by simp)
 obtain⟨z,hz⟩:∃z,repErr t L td=z:=⟨_,rfl⟩
 obtain⟨R,hR⟩:∃R,walkR t L td=R:=⟨_,rfl⟩
 obtain⟨A,hA⟩:∃A,allL t.start t.cyc td=A:=⟨_,rfl⟩
 have hR':=hR
 unfold walkR at hR'
 rw [hz] at hR' hf hrgt
 rw [hA] at hR'
 rw [hR]
 obtain⟨Htr,Hr,Hsrt,Hrgt,HS4,Hk4,Hp4,Hs4,HR⟩:=hid9 htr hr hsrt hrgt hS4 hk4 hp4 hs4 hR;clear hR hs4 hp4 hk4 hS4 hrgt hsrt hr htr;obtain⟨HR',Hf,HN,Hn,Hz⟩:=hid5 hR' hf hN hn hz;clear hz hn hN hf hR'
 go_enter Tryz.func37,Tryz.ntmps37
 go_wp2
 refine wp_scope_back2 1 0 (wkJ1 w t n (.slice adt n ct) (sortL L) td A R z) (wkJ0 w R) (fun a W=>(td+1-cellInt W (ptB a) 9).toNat) (fun _ _=>0) rfl rfl ?_ ?_ ?_
 ·rintro a' W ⟨e,u,rfl,hb,hk,he,hRe⟩
  unfold wk0Fr
  have d0:=cell_of_cells hb 0
  have d1:=cell_of_cells hb 1
  have d2:=cell_of_cells hb 2
  have e0:=free_of_cells hb 0
  have e1:=free_of_cells hb 1
  have e2:=free_of_cells hb 2
  have dl:=lt_of_block hb
  have hkz:=hk.trans ((((Keeps.setCell (S:=fun i=>w.heap.size≤i) W ⟨w.heap.size+1+1,0,none⟩ (.slice none 0 0) (by simp;omega)).trans (Keeps.setCell _ ⟨w.heap.size+1+1,1,none⟩ (.int .i64 0) (.inl (by simp;omega)))).trans (Keeps.setCell _ ⟨w.heap.size+1+1,2,none⟩ (.int .i64 0) (.inl (by simp;omega)))).mono fun i _ h=> .inr h)
  have hb3:(((W.setCell ⟨w.heap.size+1+1,0,none⟩ (.slice none 0 0)).setCell ⟨w.heap.size+1+1,1,none⟩ (.int .i64 0)).setCell ⟨w.heap.size+1+1,2,none⟩ (.int .i64 0)).heap[w.heap.size+1+1]?=some (.cells #[.slice none 0 0, .int .i64 0, .int .i64 0] 24 (0,0)):=(heap_setCell_same _ _ 2 _ _ _ ((heap_setCell_same _ _ 1 _ _ _ ((heap_setCell_same _ _ 0 _ _ _ hb).trans rfl)).trans rfl)).trans rfl
  obtain⟨Hb,Hk,He,HRe,Hkz,Hb3⟩:=hid6 hb hk he hRe hkz hb3;clear hb3 hkz hRe he hk hb
  go_wp2
  refine jump2_ret ?_
  have r0:=cell_of_cells Hb3.out 0
  have r1:=cell_of_cells Hb3.out 1
  have r2:=cell_of_cells Hb3.out 2
  clear d0 d1 d2
  exact bodyPost_ret (v:= .tuple #[.agg #[.slice none 0 0, .int .i64 0, .int .i64 0], .slice none 0 0, .slice none 0 0, .int .i64 e]) (by simp [results,Tryz.results37,go_sem,r0,r1,r2]) rfl (.inr ⟨by rw [HRe.out];exact He.out,by rw [HRe.out],Hkz.out⟩)
 ·intro hp0
  rintro a' W ⟨hz0,s,B,vS,u,rfl,hd,hp⟩
  unfold wkFr
  obtain⟨rfl,rfl,rfl⟩:=Hf.out hz0
  obtain⟨vl,vb,vr,g0,g1,S0,S1,vo,P,hrv⟩:=hd.run
  obtain⟨Z,hZ⟩:∃Z,evR s.day ((sortL L).drop s.i) s.i s.p s.R=Z:=⟨_,rfl⟩
  have hrok:=repErr_ok (Hz.out.trans hz0)
  have hnum:=tm_nums hrok.tm
  rw [Hn.out] at hnum
  obtain⟨⟨l0,l1⟩,_⟩:=hnum
  have hn1:n≤1000:=by omega
  have hev:=runEvents_nil hrv hn1 (by rw [sortL_length,HN.out];exact hl) hp.i Z hZ
  have hbd:=lt_of_block hrv.blk
  obtain⟨E,hE⟩:∃E,Z.2.2.2=E:=⟨_,rfl⟩
  rw [hE] at hev
  have hperr:=hp.err
  rw [hZ,hE] at hperr
  have hmeas:cellInt W B 9<td+1:=by rw [cellInt_of (cell_of_cells hrv.blk 9)];have:=hp.dt;omega
  by_cases hE0:E=0
  ·subst hE0
   obtain⟨sd,hsd⟩:∃x,s.day=x:=⟨_,rfl⟩
   by_cases hday:s.day=td
   ·have hlast:=hp.last hday
    rw [hZ,hE] at hlast
    obtain⟨Hd,Hp,Hrv,HZ,Hev,HE,Hperr,Hlast,Hmeas⟩:=hid9 hd hp hrv hZ hev hE hperr hlast hmeas;clear hmeas hlast hperr hE hev hZ hrv hp hd;obtain⟨Hday,Hrok,L0⟩:=hid3 hday hrok l0;clear l0 hrok hday
    go_wp2_with fail
    refine(Hev.out).mono ?_
    rintro e w1 ⟨rfl,vb',vr',hr1⟩
    obtain⟨ab,cb,rfl⟩:∃a c,vb'= .slice a n c:=by obtain⟨a,c,h,_⟩:=ownsRow_shape hr1.bal;exact⟨a,c,h⟩
    have hd1:=Hd.out.call hr1
    have c9:w1.cell? ⟨B,9,none⟩=some (.int .i64 sd):=by rw [←hsd];exact cell_of_cells hr1.blk 9
    have bl:=lt_of_block hr1.blk
    obtain⟨Hr1,Hd1⟩:=hid2 hr1 hd1;clear hd1 hr1
    have hdI:(sd==td)=true:=by rw [←hsd,Hday.out];simp
    go_wp2_with fail
    obtain⟨pc,hpc⟩:∃x,(evSt s Z).p.cr=x:=⟨_,rfl⟩
    obtain⟨pd,hpd⟩:∃x,(evSt s Z).p.du=x:=⟨_,rfl⟩
    have hS1:w17S B (.slice ab n cb) pc pd vr' vo w1.drew:=by
     rw [←hpc,←hpd]
     exact(show w17S B (.slice ab n cb) (evSt s Z).p.cr (evSt s Z).p.du vr' vo w1 from⟨cell_of_cells Hr1.out.blk 10,cell_of_cells Hr1.out.blk 11,cell_of_cells Hr1.out.blk 12,cell_of_cells Hr1.out.blk 13,cell_of_cells Hr1.out.blk 16⟩).keep (S:=fun _=>False) (Keeps.drew _) (by simp)
    have hBX:¬B=w.heap.size+1+1:=fun e=>Hr1.out.wB.2 (.inl e)
    obtain⟨Hpc,Hpd,HS1⟩:=hid3 hpc hpd hS1;clear hS1 hpd hpc
    clear c9
    refine wp_region_mixw (w17S B (.slice ab n cb) pc pd vr' vo) (.take 0 (.take 1 (.take 2 (.take 3 (.take 4 (.take 5 (.take 6 (.take 7 (.take 8 (.take 9 (.take 10 (.take 11 (.move 12 (.take 13 (.take 14 (.take 15 .done)))))))))))))))) (by kernel_rfl) (by kernel_rfl) ?_ ?_
    ·exact HS1.out
    intro w2 hs2 hk2
    have hd2:=Hd.out.call (Hr1.out.keep0 hk2)
    have hr2:=Hr1.out.keep0 hk2
    have e0:=free_of_cells hd2.pos 0
    have e1:=free_of_cells hd2.pos 1
    have e2:=free_of_cells hd2.pos 2
    have d0:=cell_of_cells hd2.pos 0
    have d1:=cell_of_cells hd2.pos 1
    have d2:=cell_of_cells hd2.pos 2
    have dl:=lt_of_block hd2.pos
    repeat (first
     |(refine mix_skip rfl (by rfl) ?_;try simp only [Act.put,List.setIfInBounds_toArray,List.set_cons_zero,List.set_cons_succ])
     |(refine mix_skipm rfl (by rfl) ?_;try simp only [Act.put,List.setIfInBounds_toArray,List.set_cons_zero,List.set_cons_succ])
     |(refine mix_take (v:= ?_) rfl (by rfl) ?_ ?_;rotate_left;(· intro w' hSw;unfold w17S at hSw;go_simp;(try with_reducible rfl));rotate_right;try simp only [Act.put,List.setIfInBounds_toArray,List.set_cons_zero,List.set_cons_succ]))
    have hkz:Keeps (fun i=>i=w.heap.size+1+1) w2 (((w2.setCell ⟨w.heap.size+1+1,0,none⟩ (.slice ab n cb)).setCell ⟨w.heap.size+1+1,1,none⟩ (.int .i64 pc)).setCell ⟨w.heap.size+1+1,2,none⟩ (.int .i64 pd)):=((Keeps.setCell (S:=fun i=>i=w.heap.size+1+1) _ _ _ rfl).trans (Keeps.setCell _ _ _ (.inl rfl))).trans (Keeps.setCell _ _ _ (.inl rfl))
    have hb3:(((w2.setCell ⟨w.heap.size+1+1,0,none⟩ (.slice ab n cb)).setCell ⟨w.heap.size+1+1,1,none⟩ (.int .i64 pc)).setCell ⟨w.heap.size+1+1,2,none⟩ (.int .i64 pd)).heap[w.heap.size+1+1]?=some (.cells #[.slice ab n cb, .int .i64 pc, .int .i64 pd] 24 (0,0)):=(heap_setCell_same _ _ 2 _ _ _ ((heap_setCell_same _ _ 1 _ _ _ ((heap_setCell_same _ _ 0 _ _ _ hd2.pos).trans rfl)).trans rfl)).trans rfl
    have hres:=walkRes_of hr2 hkz (.inl rfl) (by omega) hd2.keeps
    obtain⟨Hkz,Hb3,Hres,Hr2,Hd2,Hk2⟩:=hid6 hkz hb3 hres hr2 hd2 hk2;clear hk2 hd2 hr2 hres hb3 hkz
    refine mix_move rfl (fun K hK=> ?_)
    go_simp
    refine hK.out _ _ (by exact hs2.keep Hkz.out hBX) ?_
    clear hK K
    try simp only [Act.put,List.setIfInBounds_toArray,List.set_cons_zero,List.set_cons_succ]
    repeat (first
     |(refine mix_skip rfl (by rfl) ?_;try simp only [Act.put,List.setIfInBounds_toArray,List.set_cons_zero,List.set_cons_succ])
     |(refine mix_skipm rfl (by rfl) ?_;try simp only [Act.put,List.setIfInBounds_toArray,List.set_cons_zero,List.set_cons_succ])
     |(refine mix_take (v:= ?_) rfl (by rfl) ?_ ?_;rotate_left;(· intro w' hSw;unfold w17S at hSw;go_simp;(try with_reducible rfl));rotate_right;try simp only [Act.put,List.setIfInBounds_toArray,List.set_cons_zero,List.set_cons_succ]))
    refine mix_done ?_
    clear d0 d1 d2 e0 e1 e2 hs2
    go_wp2
    refine jump2_ret ?_
    have r0:=cell_of_cells Hb3.out 0
    have r1:=cell_of_cells Hb3.out 1
    have r2:=cell_of_cells Hb3.out 2
    exact bodyPost_ret (v:= .tuple #[.agg #[.slice ab n cb, .int .i64 pc, .int .i64 pd],vr',vo, .int .i64 0]) (by simp [results,Tryz.results37,go_sem,r0,r1,r2]) rfl (.inl ⟨by rw [Hlast.out], .slice ab n cb,vr',vo,P,by rw [Hlast.out,←Hpc.out,←Hpd.out],by rw [Hlast.out];exact Hres.out⟩)
   ·obtain⟨fr,te,hget,hsok,hst1,hfr,hte,hlt,hg1,hg2,hg3⟩:=hp.go (by rw [hZ];exact hE) hday hrok.tm Hn.out
    rw [hZ] at hst1 hg1 hg2 hg3
    rw [hsd] at hg1 hg2 hg3 hfr hte
    have hsd0: -135140≤sd:=by have:=hsok.lo;omega
    have hsd1:sd≤2932896:=by have:=hsok.hi;omega
    obtain⟨_,_,_,_,hsok0,_,hfr0,hte0,hs0,_⟩:=hp.sp
    have hlen0:∀r∈(evSt s Z).e0,r.length≤100000:=fun r hr=>by have:=(hs0.m0 r hr).1;have:=hsok0.sh;omega
    have hlen1:∀r∈(evSt s Z).e1,r.length≤100000:=fun r hr=>by have:=(hs0.m1 r hr).1;have:=hsok0.sh;omega
    obtain⟨g,o,cS,hvS,_⟩:=(Reads.of_owns hd.row).elem (f:=spc) (size:=2) (fun p=>rfl) hget (by decide)
    subst hvS
    obtain⟨s2,hs2⟩:∃x,endSt (evSt s Z) n n=x:=⟨_,rfl⟩
    have hs2d:s2.day=sd:=by rw [←hs2];exact hsd
    have hs2o:s2.out=s.out:=by rw [←hs2];rfl
    rw [hs2] at hst1 hg1 hg2 hg3
    obtain⟨C,hC⟩:∃C,closeS t (sortL L) n s2 fr te=C:=⟨_,rfl⟩
    rw [hC] at hg2 hg3
    have hdI:(sd==td)=false:=beq_eq_false_iff_ne.2 (by rw [←hsd];exact hday)
    obtain⟨mA,hmA⟩:∃x,A.length=x:=⟨_,rfl⟩
    rw [hmA] at hlt hd hrv hev⊢
    obtain⟨mo,hmo⟩:∃x,P.length=x:=⟨_,rfl⟩
    obtain⟨av,cv,rfl⟩:∃a c,vo= .slice a mo c:=by obtain⟨a,c,h,_⟩:=ownsRow_shape hrv.out;rw [hmo] at h;exact⟨a,c,h⟩
    have hmo2:s.out.length=mo:=by rw [←hrv.lp,List.length_map];exact hmo
    rw [hmo2] at hlt hget
    have hltI:(mo:Int)<(mA:Int):=by omega
    have hmA3:mA≤300:=by rw [←hmA,←hA];exact allL_length _ _ _
    obtain⟨Hd,Hp,Hrv,HZ,Hev,HE,Hperr,Hmeas,Hday⟩:=hid9 hd hp hrv hZ hev hE hperr hmeas hday;clear hday hmeas hperr hE hev hZ hrv hp hd;obtain⟨Hrok,L0,Hget,Hsok,Hst1,Hfr,Hte,Hg1,Hg2⟩:=hid9 hrok l0 hget hsok hst1 hfr hte hg1 hg2;clear hg2 hg1 hte hfr hst1 hsok hget l0 hrok;obtain⟨Hg3,Hs0,Hsok0,Hfr0,Hte0,Hlen0,Hlen1,Hs2,Hs2d⟩:=hid9 hg3 hs0 hsok0 hfr0 hte0 hlen0 hlen1 hs2 hs2d;clear hs2d hs2 hlen1 hlen0 hte0 hfr0 hsok0 hs0 hg3;obtain⟨Hs2o,HC,HmA,Hmo,Hmo2⟩:=hid5 hs2o hC hmA hmo hmo2;clear hmo2 hmo hmA hC hs2o
    go_wp2_with fail
    refine(Hev.out).mono ?_
    rintro e w1 ⟨rfl,vb',vr',hr1⟩
    have c9:w1.cell? ⟨B,9,none⟩=some (.int .i64 sd):=by rw [←hsd];exact cell_of_cells hr1.blk 9
    have bl:=lt_of_block hr1.blk
    have hend:=runEnd_nil hr1 hn1 Hlen0.out Hlen1.out
    rw [Hs2.out] at hend
    obtain⟨Hr1,Hend⟩:=hid2 hr1 hend;clear hend hr1
    go_wp2_with fail
    refine(Hend.out).mono ?_
    rintro e w2 ⟨rfl,S0',S1',hr2⟩
    have hd2:=Hd.out.call hr2
    obtain⟨g',o',c',he',hc'⟩:=(Reads.of_owns hd2.row).elem (f:=spc) (size:=2) (fun p=>rfl) Hget.out (by decide)
    rw [HmA.out] at he'
    simp only [Value.slice.injEq,true_and,Option.some.injEq,Addr.mk.injEq,and_true] at he'
    obtain⟨⟨rfl,rfl⟩,rfl⟩:=he'
    have x0:w2.cell? ⟨g,o+mo*2,none⟩=some (.int .i64 fr):=hc' 0 (by decide)
    have x1:w2.cell? ⟨g,o+mo*2+1,none⟩=some (.int .i64 te):=hc' 1 (by decide)
    have c16:=cell_of_cells hr2.blk 16
    have bl2:=lt_of_block hr2.blk
    obtain⟨sx,sy,hsn⟩:=hd2.spn
    have d0:=cell_of_cells hsn 0
    have d1:=cell_of_cells hsn 1
    have e0:=free_of_cells hsn 0
    have e1:=free_of_cells hsn 1
    have dl:=lt_of_block hsn
    obtain⟨hd3,hsn3⟩:=hd2.span fr te
    clear c9 bl hc'
    obtain⟨Hr2,Hd2,Hsn,Hd3,Hsn3⟩:=hid5 hr2 hd2 hsn hd3 hsn3;clear hsn3 hd3 hsn hd2 hr2
    go_wp2_with fail
    clear x0 x1 c16 bl2 d0 d1 e0 e1 dl
    obtain⟨w3,hw3⟩:∃x,x=((w2.setCell ⟨w.heap.size+1+1+1,0,none⟩ (.int .i64 fr)).setCell ⟨w.heap.size+1+1+1,1,none⟩ (.int .i64 te)):=⟨_,rfl⟩
    rw [←hw3] at Hd3 Hsn3⊢
    clear hw3
    have hS3:w20S (w.heap.size+1+1+1) B te sd w3.drew:=⟨cell_of_cells Hsn3.out 1,by
     obtain⟨_,_,_,_,_,_,_,_,_,h⟩:=Hd3.out.run
     rw [←Hs2d.out];exact cell_of_cells h.blk 9⟩
    have HS3:=Lib.hid hS3;clear hS3
    refine wp_region_mixw (w20S (w.heap.size+1+1+1) B te sd) (.take 0 (.take 1 (.take 2 (.take 3 (.take 4 (.take 5 (.take 6 .done))))))) (by kernel_rfl) (by kernel_rfl) ?_ ?_
    ·exact HS3.out
    intro w4 hs4 hk4
    repeat (first
     |(refine mix_skip rfl (by rfl) ?_;try simp only [Act.put,List.setIfInBounds_toArray,List.set_cons_zero,List.set_cons_succ])
     |(refine mix_skipm rfl (by rfl) ?_;try simp only [Act.put,List.setIfInBounds_toArray,List.set_cons_zero,List.set_cons_succ])
     |(refine mix_take (v:= ?_) rfl (by rfl) ?_ ?_;rotate_left;(· intro w' hSw;unfold w20S at hSw;go_simp;(try with_reducible rfl));rotate_right;try simp only [Act.put,List.setIfInBounds_toArray,List.set_cons_zero,List.set_cons_succ]))
    refine mix_done ?_
    have hd4:=Hd3.out.keep0 hk4
    have hsn4:=box_old Hsn3.out hk4 (by simp)
    have hcs:cellInt W B 9=sd:=by rw [←hsd];exact cellInt_of Hd.out.c9.1
    clear hs4
    by_cases hte0:te=sd
    ·have hteI:(te==sd)=true:=by simp [hte0]
     have d0:=cell_of_cells hsn4 0
     have d1:=cell_of_cells hsn4 1
     have dl:=lt_of_block hsn4
     obtain⟨vl4,vb4,vr4,g40,g41,S40,S41,vo4,P4,hr4⟩:=hd4.run
     have hst2:=Hst1.out
     have hle40:(s.day-fr).toNat+1≤40000:=by have:=Hsok.out.sh;have:=Hte.out;rw [hsd];omega
     have hcl:=runClose_nil hr4 Hrok.out.tm Hn.out (by rw [sortL_length,HN.out];exact hl) (fun x hx=>evErr_amt (Hrok.out.ev x ((sortL_spec L).2.mem hx))) hst2.pr hst2.rt (fun r hr=>(hst2.m0 r hr).2) (fun r hr=>(hst2.m1 r hr).2) (hst2.lens hle40) (by rw [Hs2o.out,Hmo2.out];omega) fr te ⟨Hsok.out.lo,Hsok.out.le,Hsok.out.hi⟩ C HC.out
     rcases C with _|s'
     ·have hR5:=Hg2.out hte0 rfl
      obtain⟨Hd4,Hsn4,Hcs,Hr4,Hst2,Hle40,Hcl,HR5,Hte0⟩:=hid9 hd4 hsn4 hcs hr4 hst2 hle40 hcl hR5 hte0;clear hte0 hR5 hcl hle40 hst2 hr4 hcs hsn4 hd4
      go_wp2_with fail
      refine(Hcl.out).mono ?_
      rintro e w5 ⟨rfl,hr5⟩
      have hd5:=Hd4.out.call hr5
      obtain⟨Hr5,Hd5⟩:=hid2 hr5 hd5;clear hd5 hr5
      go_wp2_with fail
      go_step3
      go_wp2
      refine jump2_2 ⟨wkJ0.mk 5 rfl Hd5.out.pos Hd5.out.keeps (by decide) HR5.out, ?_⟩
      show _<td+1
      exact Hmeas.out
     ·have hp5:=Hg3.out hte0 s' rfl
      obtain⟨_,_,_,hs5⟩:=closeS_ok Hrok.out.tm Hn.out hst2 HC.out
      rw [Hs2d.out] at hs5
      obtain⟨Hd4,Hsn4,Hcs,Hr4,Hst2,Hle40,Hcl,Hp5,Hte0⟩:=hid9 hd4 hsn4 hcs hr4 hst2 hle40 hcl hp5 hte0;clear hte0 hp5 hcl hle40 hst2 hr4 hcs hsn4 hd4;have Hs5:=Lib.hid hs5;clear hs5
      go_wp2_with fail
      refine(Hcl.out).mono ?_
      rintro e w5 ⟨rfl,vb5,g50,g51,vo5,P5,hr5⟩
      have hd5:=Hd4.out.call hr5
      obtain⟨c9,f9,bl9⟩:=hd5.c9
      rw [Hs5.out] at c9
      have hd6:=hd5.day (sd+1)
      clear d0 d1 dl
      obtain⟨Hr5,Hd5,Hd6⟩:=hid3 hr5 hd5 hd6;clear hd6 hd5 hr5
      go_wp2_with fail
      go_step3
      go_wp2
      refine jump2_1 ⟨wkJ1.mk _ B (.slice (some ⟨g,o,none⟩) mA cS) (by first|exact hz0|rfl) rfl Hd6.out Hp5.out, ?_⟩
      show max (td+1-cellInt _ B 9) 0<td+1-cellInt W B 9
      rw [cellInt_of Hd6.out.c9.1,Hcs.out]
      have hdt:=Hp.out.dt
      have hdy:=Hday.out
      show max (td+1-(sd+1)) 0<td+1-sd
      omega
    ·have hteI:(te==sd)=false:=beq_eq_false_iff_ne.2 hte0
     have hp5:=Hg1.out hte0
     obtain⟨c9,f9,bl9⟩:=hd4.c9
     rw [Hs2d.out] at c9
     have hd6:=hd4.day (sd+1)
     obtain⟨Hd4,Hsn4,Hcs,Hp5,Hte0,Hd6⟩:=hid6 hd4 hsn4 hcs hp5 hte0 hd6;clear hd6 hte0 hp5 hcs hsn4 hd4
     go_wp2_with fail
     go_step3
     go_wp2
     refine jump2_1 ⟨wkJ1.mk _ B (.slice (some ⟨g,o,none⟩) mA cS) (by first|exact hz0|rfl) rfl Hd6.out Hp5.out, ?_⟩
     show max (td+1-cellInt _ B 9) 0<td+1-cellInt W B 9
     rw [cellInt_of Hd6.out.c9.1,Hcs.out]
     have hdt:=Hp.out.dt
     have hdy:=Hday.out
     show max (td+1-(sd+1)) 0<td+1-sd
     omega
  ·have hEb:(E==0)=false:=beq_eq_false_iff_ne.2 hE0
   obtain⟨Hd,Hp,Hrv,HZ,Hev,HE,Hperr,HE0,Hmeas⟩:=hid9 hd hp hrv hZ hev hE hperr hE0 hmeas;clear hmeas hE0 hperr hE hev hZ hrv hp hd;obtain⟨Hrok,L0⟩:=hid2 hrok l0;clear l0 hrok
   go_wp2_with fail
   refine(Hev.out).mono ?_
   rintro e w1 ⟨rfl,vb',vr',hr1⟩
   have hd1:=Hd.out.call hr1
   obtain⟨Hr1,Hd1⟩:=hid2 hr1 hd1;clear hd1 hr1
   go_wp2_with fail
   go_step3
   go_wp2
   refine jump2_2 ⟨wkJ0.mk E rfl Hd1.out.pos Hd1.out.keeps HE0.out (Hperr.out HE0.out), ?_⟩
   show _<td+1
   exact Hmeas.out
 ·intro hp1
  go_wp2_with fail
  rw [←hw4]
  clear hw4
  have hS5:=HS4.out w4.drew (Keeps.drew _)
  have HS5:=Lib.hid hS5;clear hS5
  refine wp_region_mixw (wkS w.heap.size t (.slice adt n ct) f0 f1 f2) (.take 0 (.take 1 (.take 3 (.take 4 (.take 5 (.move 2 (.take 6 (.move 7 (.take 8 .done))))))))) (by kernel_rfl) (by kernel_rfl) ?_ ?_
  ·exact HS5.out
  intro w5 hs5 hk5
  repeat (first
   |(refine mix_skip rfl (by rfl) ?_;try simp only [Act.put,List.setIfInBounds_toArray,List.set_cons_zero,List.set_cons_succ])
   |(refine mix_skipm rfl (by rfl) ?_;try simp only [Act.put,List.setIfInBounds_toArray,List.set_cons_zero,List.set_cons_succ])
   |(refine mix_take (v:= ?_) rfl (by rfl) ?_ ?_;rotate_left;(· intro w' hSw;unfold wkS tbS at hSw;go_simp;(try with_reducible rfl));rotate_right;try simp only [Act.put,List.setIfInBounds_toArray,List.set_cons_zero,List.set_cons_succ]))
  have hk5w:=Hk4.out.nt hk5
  refine mix_move rfl (fun K hK=> ?_)
  go_simp
  go_at_call 62
  ((with_reducible refine(Hsrt.out _ hk5w).mono ?_);rintro e w6 ⟨vl,rfl,hrl,hk6,hnl⟩;dsimp only)
  obtain⟨al,cl,rfl⟩:∃a c,vl= .slice a N c:=by obtain⟨a,c,h,_⟩:=ownsRow_shape hrl;rw [HN.out] at h;exact⟨a,c,h⟩
  refine hK.out _ _ (by exact hs5.keep hk6) ?_
  clear hK K
  try simp only [Act.put,List.setIfInBounds_toArray,List.set_cons_zero,List.set_cons_succ]
  repeat (first
   |(refine mix_skip rfl (by rfl) ?_;try simp only [Act.put,List.setIfInBounds_toArray,List.set_cons_zero,List.set_cons_succ])
   |(refine mix_skipm rfl (by rfl) ?_;try simp only [Act.put,List.setIfInBounds_toArray,List.set_cons_zero,List.set_cons_succ])
   |(refine mix_take (v:= ?_) rfl (by rfl) ?_ ?_;rotate_left;(· intro w' hSw;unfold wkS tbS at hSw;go_simp;(try with_reducible rfl));rotate_right;try simp only [Act.put,List.setIfInBounds_toArray,List.set_cons_zero,List.set_cons_succ]))
  refine mix_move rfl (fun K hK=> ?_)
  go_simp
  refine hK.out _ _ (by exact(hs5.keep hk6).keep (Keeps.alloc _ _)) ?_
  clear hK K
  try simp only [Act.put,List.setIfInBounds_toArray,List.set_cons_zero,List.set_cons_succ]
  repeat (first
   |(refine mix_skip rfl (by rfl) ?_;try simp only [Act.put,List.setIfInBounds_toArray,List.set_cons_zero,List.set_cons_succ])
   |(refine mix_skipm rfl (by rfl) ?_;try simp only [Act.put,List.setIfInBounds_toArray,List.set_cons_zero,List.set_cons_succ])
   |(refine mix_take (v:= ?_) rfl (by rfl) ?_ ?_;rotate_left;(· intro w' hSw;unfold wkS tbS at hSw;go_simp;(try with_reducible rfl));rotate_right;try simp only [Act.put,List.setIfInBounds_toArray,List.set_cons_zero,List.set_cons_succ]))
  refine mix_done ?_
  have hk7:=(hk5w.nt hk6).trans_alloc (o:= .cells #[.int .i64 t.limit, .slice adt n ct, .int .i64 t.cyc, .int .i64 t.due, .int .i64 t.minFixed, .int .i64 t.minPart, .int .i64 t.start, .slice al N cl, .int .i64 0, .int .i64 t.start, .slice none 0 0, .int .i64 0, .int .i64 0, .slice none 0 0, .slice none 0 0, .slice none 0 0, .slice none 0 0,f0,f1,f2] 110)
  have hb7:=heap_alloc_new w6 (.cells #[.int .i64 t.limit, .slice adt n ct, .int .i64 t.cyc, .int .i64 t.due, .int .i64 t.minFixed, .int .i64 t.minPart, .int .i64 t.start, .slice al N cl, .int .i64 0, .int .i64 t.start, .slice none 0 0, .int .i64 0, .int .i64 0, .slice none 0 0, .slice none 0 0, .slice none 0 0, .slice none 0 0,f0,f1,f2] 110)
  have hr7:=hrl.alloc (.cells #[.int .i64 t.limit, .slice adt n ct, .int .i64 t.cyc, .int .i64 t.due, .int .i64 t.minFixed, .int .i64 t.minPart, .int .i64 t.start, .slice al N cl, .int .i64 0, .int .i64 t.start, .slice none 0 0, .int .i64 0, .int .i64 0, .slice none 0 0, .slice none 0 0, .slice none 0 0, .slice none 0 0,f0,f1,f2] 110)
  have hk47:Keeps (fun _=>False) w4 _:=(hk5.nt hk6).trans_alloc (o:= .cells #[.int .i64 t.limit, .slice adt n ct, .int .i64 t.cyc, .int .i64 t.due, .int .i64 t.minFixed, .int .i64 t.minPart, .int .i64 t.start, .slice al N cl, .int .i64 0, .int .i64 t.start, .slice none 0 0, .int .i64 0, .int .i64 0, .slice none 0 0, .slice none 0 0, .slice none 0 0, .slice none 0 0,f0,f1,f2] 110)
  have hBw:w.heap.size≤w6.heap.size:=(hk5w.nt hk6).size
  have hBn:w6.heap.size≠w.heap.size:=by have:=lt_of_block Hp4.out;have:=(hk5.nt hk6).size;omega
  have hnl':∀g,(Value.slice al N cl).ownBlock=some g→w.heap.size≤g:=fun g hg=>by have:=hnl g hg;have:=hk5w.size;omega
  obtain⟨w7,hw7⟩:∃x,x=w6.alloc (.cells #[.int .i64 t.limit, .slice adt n ct, .int .i64 t.cyc, .int .i64 t.due, .int .i64 t.minFixed, .int .i64 t.minPart, .int .i64 t.start, .slice al N cl, .int .i64 0, .int .i64 t.start, .slice none 0 0, .int .i64 0, .int .i64 0, .slice none 0 0, .slice none 0 0, .slice none 0 0, .slice none 0 0,f0,f1,f2] 110):=⟨_,rfl⟩
  rw [←hw7] at hk7 hb7 hr7 hk47⊢
  obtain⟨B,hB⟩:∃x,x=w6.heap.size:=⟨_,rfl⟩
  rw [←hB] at hb7 hBw hBn⊢
  clear hB hw7 hs5 hk5 hk5w hk6 hrl hnl
  obtain⟨b0,b1,b2,b3,b4,b5,b6⟩:=(HS4.out w7 hk47).1
  have bbl:=cell_lt b0
  have hp7:=box_old Hp4.out hk47 (by simp)
  have hs7:=box_old Hs4.out hk47 (by simp)
  obtain⟨Hk7,Hb7,Hr7,Hk47,Hnl',Hp7,Hs7⟩:=hid7 hk7 hb7 hr7 hk47 hnl' hp7 hs7;clear hs7 hp7 hnl' hk47 hr7 hb7 hk7
  go_wp2_with fail
  refine(Hrgt.out _ Hk7.out).mono ?_
  rintro e w8 ⟨rfl,hk8⟩
  by_cases hz0:z=0
  ·obtain⟨rfl,rfl,rfl⟩:=Hf.out hz0
   have hrok:=repErr_ok (Hz.out.trans hz0)
   have hnum:=tm_nums hrok.tm
   rw [Hn.out] at hnum
   obtain⟨⟨l0,l1⟩,_,_,_,_,_,⟨sa,sb⟩⟩:=hnum
   have hzI:(z==0)=true:=by simp [hz0]
   have hall:=fun W=>cycAll_any t.start t.cyc td W (by omega)
   rw [hA] at hall
   clear b0 b1 b2 b3 b4 b5 b6 bbl
   obtain⟨b0,b1,b2,b3,b4,b5,b6⟩:=(HS4.out w8 (Hk47.out.nt hk8)).1
   have bbl:=cell_lt b0
   obtain⟨Hk8,Hall,Hrok,Hz0⟩:=hid4 hk8 hall hrok hz0;clear hz0 hrok hall hk8
   go_wp2_with fail
   refine(Hall.out _).mono ?_
   rintro e w9 ⟨vS,rfl,hrow,hk9,hnS⟩
   clear b0 b1 b2 b3 b4 b5 b6 bbl
   have hk89:=Hk8.out.nt hk9
   have hb9:=box_old Hb7.out hk89 (by simp)
   obtain⟨b0,b1,b2,b3,b4,b5,b6⟩:=(HS4.out w9 (Hk47.out.nt hk89)).1
   have bbl:=cell_lt b0
   have c10:=cell_of_cells hb9 10
   have f10:=free_of_cells hb9 10
   have bl9:=lt_of_block hb9
   obtain⟨i0,hi,hi0,hi1,hi2⟩:=info_parts info_tInt64
   have hmk:=fun(W:World)=>run_makeSlice (P:=Tryz.prog) W 22 2 i0 (.int .i64 0) Tryz.underlying22 hi hi0 .i64 .i64 (n:Int) (n:Int) (by omega) (by omega) (by rw [hi1];omega) (by rw [hi2];omega) (by omega)
   simp only [Int.toNat_natCast,hi1,Nat.mul_one] at hmk
   obtain⟨Y,hY⟩:∃Y,Y=madeCells (Value.int IntKind.i64 0).cells n:=⟨_,rfl⟩
   rw [←hY] at hmk
   obtain⟨Hi,Hi0,Hi1,Hi2,HY,Hrow,Hk9,HnS,Hk89⟩:=hid9 hi hi0 hi1 hi2 hY hrow hk9 hnS hk89;clear hk89 hnS hk9 hrow hY hi2 hi1 hi0 hi;have Hb9:=Lib.hid hb9;clear hb9
   go_wp2
   have hpre:PreR w B (w.heap.size+1+1) (w.heap.size+1+1+1) t n (.slice adt n ct) (sortL L) A vS (.slice al N cl) (.slice (some ⟨w9.heap.size,0,none⟩) n n) .nilFunc .nilFunc .nilFunc (.slice none 0 0) 0 ((w9.setCell ⟨B,10,none⟩ (.slice (some ⟨w9.heap.size,0,none⟩) n n)).alloc (.cells Y 2)):=by
    have hl8:w.heap.size+1+1+1<w8.heap.size:=by have:=lt_of_block Hs7.out;have:=Hk8.out.size;omega
    rw [HY.out,←World.setCell_alloc_past _ _ _ _ bl9]
    exact PreR.start Hb9.out (HS4.out w9 (Hk47.out.nt Hk89.out)).1 (by rw [sortL_length];exact Hr7.out.of_keeps Hk89.out) (box_old Hp7.out Hk89.out (by simp)) (box_old Hs7.out Hk89.out (by simp)) Hrow.out ⟨by omega,by omega,hBw,fun g hg=>by have:=HnS.out g hg;omega⟩ (fun g hg=>by have:=HnS.out g hg;omega) Hnl'.out (by unfold maxLen;omega) hBn (Hk7.out.nt Hk89.out)
   obtain⟨W0,hW0⟩:∃x,x=((w9.setCell ⟨B,10,none⟩ (.slice (some ⟨w9.heap.size,0,none⟩) n n)).alloc (.cells Y 2)):=⟨_,rfl⟩
   rw [←hW0] at hpre⊢
   clear hW0
   obtain⟨vb,hvb⟩:∃x,x=(Value.slice (some ⟨w9.heap.size,0,none⟩) n n):=⟨_,rfl⟩
   rw [←hvb] at hpre
   clear hvb b0 b1 b2 b3 b4 b5 b6 bbl c10 f10 bl9 hmk
   have Hpre:=Lib.hid hpre;clear hpre
   go_loopw [49] (fun x wx=>∃(k:Nat) (vr:Value),x= .int .i64 (k:Nat)∧k≤n∧PreR w B (w.heap.size+1+1) (w.heap.size+1+1+1) t n (.slice adt n ct) (sortL L) A vS (.slice al N cl) vb .nilFunc .nilFunc .nilFunc vr k wx) (fun x _=>n-(intOf x).toNat)
   case atStart=>exact⟨0,_,rfl,Nat.zero_le _,Hpre.out⟩
   case round=>
    obtain⟨k,vr,rfl,hkn,hpr⟩:=hrel
    obtain⟨wq,hwq⟩:∃x,x=wr:=⟨_,rfl⟩
    subst hwq
    obtain⟨ar,cr,rfl⟩:∃a c,vr= .slice a k c:=by obtain⟨a,c,h,_⟩:=ownsRow_shape hpr.rts;exact⟨a,c,h⟩
    by_cases hlt:k<n
    ·have hltI:(k:Int)<(n:Int):=by omega
     obtain⟨x,hx⟩:=get_some (L:=t.trs) (k:=k) (by rw [Hn.out];exact hlt)
     obtain⟨g,o,c',he,hc⟩:=(Htr.out.keeps hpr.kp (by simp)).elem Tn.cells_length hx (by decide)
     simp only [Value.slice.injEq,true_and] at he
     obtain⟨rfl,rfl⟩:=he
     obtain⟨xr,xg⟩:=x
     have x0:wq.cell? ⟨g,o+k*2,none⟩=some (.int .i64 xr):=hc 0 (by decide)
     have x1:wq.cell? ⟨g,o+k*2+1,none⟩=some (.bool xg):=hc 1 (by decide)
     clear hc
     obtain⟨w10,hw10⟩:∃x,x=wq.alloc (.cells #[.int .i64 xr, .bool xg] 57):=⟨_,rfl⟩
     have hpr1:=hpr.keep0 (Keeps.alloc wq (.cells #[.int .i64 xr, .bool xg] 57))
     rw [←hw10] at hpr1
     have hqB:=lt_of_block hpr.blk
     have hqr:¬(Value.slice ar k cr).ownBlock=some wq.heap.size:=fun e=>by have:=own_lt hpr.rts e;omega
     have hS1:r11S B wq.heap.size (.slice ar k cr) xr w10.drew:=(show r11S B wq.heap.size (.slice ar k cr) xr w10 from⟨cell_of_cells hpr1.blk 13,by rw [hw10];exact cell_of_cells (heap_alloc_new wq (.cells #[.int .i64 xr, .bool xg] 57)) 0⟩).keep (S:=fun _=>False) (Keeps.drew _) (by simp) (by simp)
     obtain⟨Hx,Hpr,Hpr1,HS1⟩:=hid4 hx hpr hpr1 hS1;clear hS1 hpr1 hpr hx
     go_wp2_with fail
     rw [←hw10]
     clear hw10 x0 x1
     obtain⟨b9,hb9e⟩:∃x,x=wq.heap.size:=⟨_,rfl⟩
     rw [←hb9e] at HS1 hqr hqB⊢
     have Hb9e:=Lib.hid hb9e;clear hb9e
     refine wp_region_mixy (r11S B b9 (.slice ar k cr) xr) 11 (.take 0 (.take 1 (.take 2 (.take 3 (.take 4 (.take 5 (.take 6 (.move 7 (.move 8 (.move 9 (.move 10 (.move 11 .done)))))))))))) (by kernel_rfl) (by kernel_rfl) ?_ ?_
     ·exact HS1.out
     intro w11 hs11 hk11
     repeat (first
      |(refine mix_skip rfl (by rfl) ?_;try simp only [Act.put,List.setIfInBounds_toArray,List.set_cons_zero,List.set_cons_succ])
      |(refine mix_skipm rfl (by rfl) ?_;try simp only [Act.put,List.setIfInBounds_toArray,List.set_cons_zero,List.set_cons_succ])
      |(refine mix_take (v:= ?_) rfl (by rfl) ?_ ?_;rotate_left;(· intro w' hSw;unfold r11S at hSw;go_simp;(try with_reducible rfl));rotate_right;try simp only [Act.put,List.setIfInBounds_toArray,List.set_cons_zero,List.set_cons_succ]))
     refine mix_move rfl (fun K hK=> ?_)
     go_simp
     refine hK.out _ _ (by exact hs11.keep (S:=fun _=>False) (Keeps.alloc _ _) (by simp) (by simp)) ?_
     clear hK K
     try simp only [Act.put,List.setIfInBounds_toArray,List.set_cons_zero,List.set_cons_succ]
     repeat (first
      |(refine mix_skip rfl (by rfl) ?_;try simp only [Act.put,List.setIfInBounds_toArray,List.set_cons_zero,List.set_cons_succ])
      |(refine mix_skipm rfl (by rfl) ?_;try simp only [Act.put,List.setIfInBounds_toArray,List.set_cons_zero,List.set_cons_succ])
      |(refine mix_take (v:= ?_) rfl (by rfl) ?_ ?_;rotate_left;(· intro w' hSw;unfold r11S at hSw;go_simp;(try with_reducible rfl));rotate_right;try simp only [Act.put,List.setIfInBounds_toArray,List.set_cons_zero,List.set_cons_succ]))
     have hk11a:=hk11.nt (Keeps.alloc w11 (.cells #[.int .i64 xr] 2))
     have hpr2:=Hpr1.out.keep0 hk11a
     have hrt2:=hpr2.rts
     refine mix_move rfl (fun K hK=> ?_)
     refine step_append_row rfl (.tmp 57) (.tmp 60) 22 rfl 0 2 i0 _ 1 8 Tryz.underlying22 Hi.out Hi0.out Hi1.out Hi2.out rfl (by decide) (.slice ar k cr) k _ rfl hrt2 _ 1 _ rfl (Reads.litAt _ _ _ 1 1 _ (by first|rfl|simp) rfl) (by simp [Value.oneCell']) (by unfold maxLen;omega) (by omega) (Nat.zero_le _) ?_
     intro v12 w12 hown12 hk12 hf12
     obtain⟨a12,c12,rfl,_,_⟩:=ownsRow_shape hown12
     have hxr:(t.trs.map Tn.rate)[k]?=some xr:=by rw [List.getElem?_map,Hx.out];rfl
     have happ:=hpr2.app hBn hxr hk12 (by rw [List.flatMap_append];exact hown12) hf12
     have hB12:=box_old hpr2.blk hk12 (fun e=>ownsRow_ne hrt2 hpr2.blk (by decide) e)
     have o13:=cell_of_cells hB12 13
     have f13:=free_of_cells hB12 13
     have l13:=lt_of_block hB12
     refine hK.out _ _ (by exact(hs11.keep (S:=fun _=>False) (Keeps.alloc _ _) (by simp) (by simp)).keep hk12 (fun e=>ownsRow_ne hrt2 hpr2.blk (by decide) e) hqr) ?_
     clear hK K
     try simp only [Act.put,List.setIfInBounds_toArray,List.set_cons_zero,List.set_cons_succ]
     obtain⟨Hk11a,Hpr2,Hrt2,Hown12,Hk12,Hxr,Happ,HB12,Hk11⟩:=hid9 hk11a hpr2 hrt2 hown12 hk12 hxr happ hB12 hk11;clear hk11 hB12 happ hxr hk12 hown12 hrt2 hpr2 hk11a
     clear hs11 hf12
     repeat (first
      |(refine mix_takem (v:= ?_) rfl (by rfl) ?_ ?_;rotate_left;(· intro w' hSw;unfold r11S at hSw;go_simp;(try with_reducible rfl));rotate_right;try simp only [Act.put,List.setIfInBounds_toArray,List.set_cons_zero,List.set_cons_succ]))
     refine mix_last rfl (fun K hK=> ?_)
     go_simp
     refine hK.out _ _ ?_
     clear hK K
     try simp only [Act.put,List.setIfInBounds_toArray,List.set_cons_zero,List.set_cons_succ]
     refine mix_done ?_
     clear o13 f13 l13
     go_wp2_with fail
     go_roundw
     case rel=>exact⟨k+1,_,by go_num,by omega,Happ.out⟩
     case measure=>simp [intOf];omega
    ·obtain rfl:n=k:=by omega
     have hfr0:=runFresh_raw hpr.blk (by omega)
     have hne:t.trs.flatMap Tn.cells≠ []:=fun e=>by
      have h1:=congrArg List.length e
      rw [flatMap_len t.trs,Hn.out] at h1
      simp at h1
      omega
     have hvb:∀b,(Value.slice adt n ct).ownBlock=some b→b<w.heap.size:=fun b hb=>by
      obtain⟨g,hg,hl⟩:=Htr.out.lt hne
      rw [hg] at hb
      injection hb with hb
      omega
     have hps:=DayP.start (Hz.out.trans Hz0.out) Hn.out
     rw [hA,HR.out] at hps
     obtain⟨Hpr,Hfr0,Hne,Hvb,Hps⟩:=hid5 hpr hfr0 hne hvb hps;clear hps hvb hne hfr0 hpr
     go_wp2_with fail
     refine Hfr0.out.mono ?_
     rintro e w12 ⟨rfl,a,b,hBb,ha,hb,la,lb,hab,hk⟩
     have hday:=Hpr.out.fin Hn.out Htr.out Hvb.out hBb ha hb la lb hab hk
     obtain⟨Hday,HBb,Ha,Hb,La,Lb,Hab,Hk⟩:=hid8 hday hBb ha hb la lb hab hk;clear hk hab lb la hb ha hBb hday
     go_wp2_with fail
     go_step3
     rename_i hK
     refine hK _ _ ?_
     refine hp1.out _ _ ?_
     exact wkJ1.mk (st0 t) B vS (by first|exact Hz0.out|rfl) rfl Hday.out Hps.out
  ·have hzI:(z==0)=false:=beq_eq_false_iff_ne.2 hz0
   have hR2:R.2=z:=by have:=HR'.out;rw [if_neg hz0] at this;rw [←this]
   obtain⟨Hk8,Hz0,HR2⟩:=hid3 hk8 hz0 hR2;clear hR2 hz0 hk8
   go_wp2_with fail
   go_step3
   go_wp2
   refine jump2_2 (wkJ0.mk z rfl (box_old Hp7.out Hk8.out (by simp)) (Hk7.out.nt Hk8.out) Hz0.out HR2.out)
theorem WalkRes.lift{w w2 w' w'':World}{n:Nat}{s:St}{vb vr vo:Value}{P:List SV}{b8:Nat}(h:WalkRes w2 n s vb vr vo P w')(hk:Keeps (fun i=>i=b8) w' w'')(hb:b8<w2.heap.size)(hkw:Keeps (fun _=>False) w w2)(hwb:w.heap.size≤b8):WalkRes w n s vb vr vo P w'' where
 bal:=hk.row h.bal fun b hb' e=>by have e':b=b8:=e;have:=h.wb b hb';omega
 rts:=hk.row h.rts fun b hb' e=>by have e':b=b8:=e;have:=h.wr b hb';omega
 out:=hk.row h.out fun b hb' e=>by have e':b=b8:=e;have:=h.wo b hb';omega
 ln:=fun x hx=>hk.row (h.ln x hx) fun b hb' e=>by have e':b=b8:=e;have:=h.wl x hx b hb';omega
 lp:=h.lp
 nb:=h.nb
 nr:=h.nr
 wb:=fun b hb'=>by have:=h.wb b hb';have:=hkw.size;omega
 wr:=fun b hb'=>by have:=h.wr b hb';have:=hkw.size;omega
 wo:=fun b hb'=>by have:=h.wo b hb';have:=hkw.size;omega
 wl:=fun x hx b hb'=>by have:=h.wl x hx b hb';have:=hkw.size;omega
 kp:=(hkw.nt h.kp).trans (hk.mono fun i _ e=> .inr (by have e':i=b8:=e;omega))
set_option maxHeartbeats 1600000
theorem repRun_any(t:Tm)(adt:Option Addr)(ct n:Nat)(L:List Ev)(ad:Option Addr)(cap N:Nat)(td:Int)(w:World)(hn:t.trs.length=n)(htr:Reads w 2 (.slice adt n ct) n (t.trs.flatMap Tn.cells))(hN:L.length=N)(hr:Reads w 5 (.slice ad N cap) N (L.flatMap Ev.cells))(hl:N≤1000000)(htl:n≤1000000):
  Calls Tryz.prog 15 #[.agg #[.int .i64 t.limit, .slice adt n ct, .int .i64 t.cyc, .int .i64 t.due, .int .i64 t.minFixed, .int .i64 t.minPart, .int .i64 t.start], .slice ad N cap, .int .i64 td] w (WalkPost w n (walkR t L td)):=by
 obtain⟨R,hR⟩:∃R,walkR t L td=R:=⟨_,rfl⟩
 have hwk:=fun W (hW:Keeps (fun _=>False) w W)=>repWalk_any t adt ct n L ad cap N td .nilFunc .nilFunc .nilFunc W hn (htr.keeps hW (by simp)) hN (hr.keeps hW (by simp)) hl htl (fun _=>⟨rfl,rfl,rfl⟩)
 rw [hR] at hwk⊢
 obtain⟨w2,hw2⟩:∃x,x=(w.alloc (.cells #[.int .i64 t.limit, .slice adt n ct, .int .i64 t.cyc, .int .i64 t.due, .int .i64 t.minFixed, .int .i64 t.minPart, .int .i64 t.start] 38)).alloc (.cells #[.slice none 0 0, .int .i64 0, .int .i64 0] 24):=⟨_,rfl⟩
 have hk2:Keeps (fun _=>False) w w2:=by rw [hw2];exact(Keeps.alloc _ _).trans_alloc
 have hp2:w2.heap[w.heap.size+1]?=some (.cells #[.slice none 0 0, .int .i64 0, .int .i64 0] 24 (0,0)):=by rw [hw2];exact halloc_at2 _ _ (by simp)
 obtain⟨Htr,Hr,HR,HN,Hn,Hwk,Hk2,Hp2⟩:=hid8 htr hr hR hN hn hwk hk2 hp2;clear hp2 hk2 hwk hn hN hR hr htr
 go_enter Tryz.func15,Tryz.ntmps15
 go_wp2_with fail
 rw [←hw2]
 clear hw2
 refine(Hwk.out _ Hk2.out).mono ?_
 rintro e w3 (⟨hz,vb,vr,vo,P,rfl,hres⟩|⟨hz,rfl,hk3⟩)
 ·obtain⟨ab,cb,rfl⟩:∃a c,vb= .slice a n c:=by obtain⟨a,c,h,_⟩:=ownsRow_shape hres.bal;exact⟨a,c,h⟩
  have hb:=box_old Hp2.out hres.kp (by simp)
  have d0:=cell_of_cells hb 0
  have d1:=cell_of_cells hb 1
  have d2:=cell_of_cells hb 2
  have e0:=free_of_cells hb 0
  have e1:=free_of_cells hb 1
  have e2:=free_of_cells hb 2
  have dl:=lt_of_block hb
  have hkz:Keeps (fun i=>i=w.heap.size+1) w3 (((w3.setCell ⟨w.heap.size+1,0,none⟩ (.slice ab n cb)).setCell ⟨w.heap.size+1,1,none⟩ (.int .i64 R.1.p.cr)).setCell ⟨w.heap.size+1,2,none⟩ (.int .i64 R.1.p.du)):=((Keeps.setCell (S:=fun i=>i=w.heap.size+1) _ _ _ rfl).trans (Keeps.setCell _ _ _ (.inl rfl))).trans (Keeps.setCell _ _ _ (.inl rfl))
  have hb3:(((w3.setCell ⟨w.heap.size+1,0,none⟩ (.slice ab n cb)).setCell ⟨w.heap.size+1,1,none⟩ (.int .i64 R.1.p.cr)).setCell ⟨w.heap.size+1,2,none⟩ (.int .i64 R.1.p.du)).heap[w.heap.size+1]?=some (.cells #[.slice ab n cb, .int .i64 R.1.p.cr, .int .i64 R.1.p.du] 24 (0,0)):=(heap_setCell_same _ _ 2 _ _ _ ((heap_setCell_same _ _ 1 _ _ _ ((heap_setCell_same _ _ 0 _ _ _ hb).trans rfl)).trans rfl)).trans rfl
  have hres2:=hres.lift hkz (lt_of_block Hp2.out) Hk2.out (by omega)
  obtain⟨Hz,Hres,Hb,Hkz,Hb3,Hres2⟩:=hid6 hz hres hb hkz hb3 hres2;clear hres2 hb3 hkz hb hres hz
  go_wp2
  have r0:=cell_of_cells Hb3.out 0
  have r1:=cell_of_cells Hb3.out 1
  have r2:=cell_of_cells Hb3.out 2
  clear d0 d1 d2
  exact bodyPost_ret (v:= .tuple #[.agg #[.slice ab n cb, .int .i64 R.1.p.cr, .int .i64 R.1.p.du],vr,vo, .int .i64 0]) (by simp [results,Tryz.results15,go_sem,r0,r1,r2]) rfl (.inl ⟨Hz.out,_,vr,vo,P,rfl,Hres2.out⟩)
 ·have hb:=box_old Hp2.out hk3 (by simp)
  have d0:=cell_of_cells hb 0
  have d1:=cell_of_cells hb 1
  have d2:=cell_of_cells hb 2
  have e0:=free_of_cells hb 0
  have e1:=free_of_cells hb 1
  have e2:=free_of_cells hb 2
  have dl:=lt_of_block hb
  have hkz:Keeps (fun i=>i=w.heap.size+1) w3 (((w3.setCell ⟨w.heap.size+1,0,none⟩ (.slice none 0 0)).setCell ⟨w.heap.size+1,1,none⟩ (.int .i64 0)).setCell ⟨w.heap.size+1,2,none⟩ (.int .i64 0)):=((Keeps.setCell (S:=fun i=>i=w.heap.size+1) _ _ _ rfl).trans (Keeps.setCell _ _ _ (.inl rfl))).trans (Keeps.setCell _ _ _ (.inl rfl))
  have hb3:(((w3.setCell ⟨w.heap.size+1,0,none⟩ (.slice none 0 0)).setCell ⟨w.heap.size+1,1,none⟩ (.int .i64 0)).setCell ⟨w.heap.size+1,2,none⟩ (.int .i64 0)).heap[w.heap.size+1]?=some (.cells #[.slice none 0 0, .int .i64 0, .int .i64 0] 24 (0,0)):=(heap_setCell_same _ _ 2 _ _ _ ((heap_setCell_same _ _ 1 _ _ _ ((heap_setCell_same _ _ 0 _ _ _ hb).trans rfl)).trans rfl)).trans rfl
  have hkf:Keeps (fun _=>False) w (((w3.setCell ⟨w.heap.size+1,0,none⟩ (.slice none 0 0)).setCell ⟨w.heap.size+1,1,none⟩ (.int .i64 0)).setCell ⟨w.heap.size+1,2,none⟩ (.int .i64 0)):=(Hk2.out.nt hk3).trans (hkz.mono fun i _ e=> .inr (by have e':i=w.heap.size+1:=e;omega))
  obtain⟨Hz,Hb,Hkz,Hb3,Hkf,Hk3⟩:=hid6 hz hb hkz hb3 hkf hk3;clear hk3 hkf hb3 hkz hb hz
  go_wp2
  have r0:=cell_of_cells Hb3.out 0
  have r1:=cell_of_cells Hb3.out 1
  have r2:=cell_of_cells Hb3.out 2
  clear d0 d1 d2
  exact bodyPost_ret (v:= .tuple #[.agg #[.slice none 0 0, .int .i64 0, .int .i64 0], .slice none 0 0, .slice none 0 0, .int .i64 R.2]) (by simp [results,Tryz.results15,go_sem,r0,r1,r2]) rfl (.inr ⟨Hz.out,rfl,Hkf.out⟩)
def t19:Tm:=⟨0,1,1,0,0,10957, [⟨5,false⟩]⟩
def l19:List Ev:= [⟨1,10957,1,7,0⟩]
theorem walk19:(walkR t19 l19 10990).2=0∧(walkR t19 l19 10990).1.p.bal= [7]∧(walkR t19 l19 10990).1.R= [5]∧(walkR t19 l19 10990).1.out.length=1:=by decide+kernel
theorem awake19_any(w:World):Calls Tryz.prog 6 #[] w fun e w'=>e= .returned (.bool true)∧Keeps (fun _=>False) w w':=by
 have h19:=walk19
 have hrun:=fun ad1 ad2 W h1 h2=>repRun_any t19 ad1 1 1 l19 ad2 1 1 10990 W rfl h1 rfl h2 (by decide) (by decide)
 obtain⟨R,hR⟩:∃R,walkR t19 l19 10990=R:=⟨_,rfl⟩
 rw [hR] at hrun h19
 simp only [t19,l19] at hrun
 obtain⟨p1,p2,p3,p4⟩:=h19
 obtain⟨Hrun,HR,P1,P2,P3,P4⟩:=hid6 hrun hR p1 p2 p3 p4;clear p4 p3 p2 p1 hR hrun
 go_enter Tryz.func6,Tryz.ntmps6
 go_wp2_with fail
 refine(Hrun.out (some ⟨w.heap.size,0,none⟩) (some ⟨w.heap.size+1+1,0,none⟩) _ (Reads.blk (cs:= #[.int .i64 5, .bool false]) (e:=57) (fz:=(0,0)) (size:=2) (n:=1) (box_alloc (box_alloc (heap_alloc_new w _) _) _) rfl) (Reads.blk (cs:= #[.int .i64 1, .int .i64 10957, .int .i64 1, .int .i64 7, .int .i64 0]) (e:=26) (fz:=(0,0)) (size:=5) (n:=1) (halloc_at2 _ _ (by simp)) rfl)).mono ?_
 rintro e w1 (⟨hz,vb,vr,vo,P,rfl,hres⟩|⟨hz,_⟩)
 ·have hb:=hres.bal
  have hr:=hres.rts
  have ho:=hres.out
  rw [P2.out] at hb
  rw [P3.out] at hr
  have hP:P.length=1:=by have:=congrArg List.length hres.lp;rw [List.length_map,P4.out] at this;exact this
  rw [hP] at ho
  obtain⟨gb,cb,rfl,_⟩:=owns_some hb (by decide)
  obtain⟨gr,cr,rfl,_⟩:=owns_some hr (by decide)
  obtain⟨ao,co,rfl,_⟩:=ownsRow_shape ho
  have c0:w1.cell? ⟨gb,0,none⟩=some (.int .i64 7):=owns_elem i64c_length hb (k:=0) (x:=7) rfl 0 (by decide)
  have c1:w1.cell? ⟨gr,0,none⟩=some (.int .i64 5):=owns_elem i64c_length hr (k:=0) (x:=5) rfl 0 (by decide)
  have hk:Keeps (fun _=>False) w w1:=(((Keeps.alloc (S:=fun _=>False) w _).trans_alloc).trans_alloc).nt hres.kp
  obtain⟨Hz,Hres,Hb,Hr,Ho,HP,Hk⟩:=hid7 hz hres hb hr ho hP hk;clear hk hP ho hr hb hres hz
  go_wp2
  exact bodyPost_ret (v:= .bool true) (by simp [results,Tryz.results6,go_sem]) rfl ⟨rfl,Hk.out.trans_alloc⟩
 ·exact absurd P1.out hz
set_option maxHeartbeats 400000
theorem plainI641_same(a:Int)(w:World):Calls Tryz.prog 34 #[.int .i64 a, .int .i64 a] w
  fun e w'=>e= .returned (.bool true)∧w=w':=by
 go_enter Tryz.func34,Tryz.ntmps34
 go_wp2
 go_ret
 exact⟨rfl,rfl⟩
theorem sameI64_same(L:List Int)(v1 v2:Value)(w:World)(h1:Reads w 1 v1 L.length (L.flatMap i64c))(h2:Reads w 1 v2 L.length (L.flatMap i64c))(hl:L.length≤1000000000000):
  Calls Tryz.prog 33 #[v1,v2, .func (.func 34) #[] #[]] w fun e w'=>e= .returned (.bool true)∧Keeps (fun _=>False) w w':=by
 have g1:=h1
 have g2:=h2
 obtain⟨ad1,c1,rfl,_,_⟩:=g1
 obtain⟨ad2,c2,rfl,_,_⟩:=g2
 obtain⟨H1,H2⟩:=hid2 h1 h2;clear h2 h1
 go_enter Tryz.func33,Tryz.ntmps33
 go_wp2
 go_loopw [7] (fun i wr=>∃k:Nat,k≤L.length∧i= .int .i64 k∧Keeps (fun _=>False) w wr) (fun i _=>L.length-(intOf i).toNat)
 case atStart=>exact⟨0,Nat.zero_le _,rfl,Keeps.refl _ _⟩
 case round=>
  obtain⟨k,hk,rfl,hkp⟩:=hrel
  have Hkp:=Lib.hid hkp;clear hkp
  by_cases hlt:k<L.length
  ·obtain⟨x,hx⟩:∃x,L[k]?=some x:=⟨L[k],List.getElem?_eq_getElem hlt⟩
   obtain⟨g,o,c,he,hc⟩:=(H1.out.keeps Hkp.out (by simp)).elem i64c_length hx (by decide)
   obtain⟨g',o',c',he',hc'⟩:=(H2.out.keeps Hkp.out (by simp)).elem i64c_length hx (by decide)
   simp only [Value.slice.injEq,true_and] at he he'
   obtain⟨rfl,rfl⟩:=he
   obtain⟨rfl,rfl⟩:=he'
   have x0:wr.cell? ⟨g,o+k,none⟩=some (.int .i64 x):=by have:=hc 0 (by decide);simpa [i64c] using this
   have y0:wr.cell? ⟨g',o'+k,none⟩=some (.int .i64 x):=by have:=hc' 0 (by decide);simpa [i64c] using this
   clear hc hc'
   have Hx:=Lib.hid hx;clear hx
   go_wp2
   go_still_tail 9,(by kernel_rfl)
   go_wp2_with (go_at_call 34;refine(plainI641_same _ _).mono ?_;rintro e w' ⟨rfl,rfl⟩)
   go_roundw
   case rel=>exact⟨k+1,by omega,by go_num,(Hkp.out.trans (Keeps.drew _))⟩
   case measure=>simp [intOf];omega
  ·go_wp2
   go_ret
   exact⟨rfl,Hkp.out⟩
theorem plainI64_same(L:List Int)(v1 v2:Value)(w:World)(h1:Reads w 1 v1 L.length (L.flatMap i64c))(h2:Reads w 1 v2 L.length (L.flatMap i64c))(hl:L.length≤1000000000000):
  Calls Tryz.prog 11 #[v1,v2] w fun e w'=>e= .returned (.bool true)∧Keeps (fun _=>False) w w':=by
 obtain⟨H1,H2⟩:=hid2 h1 h2;clear h2 h1
 go_enter Tryz.func11,Tryz.ntmps11
 go_wp2_with (go_at_call 33;refine(sameI64_same L _ _ _ H1.out H2.out hl).mono ?_;rintro e w' ⟨rfl,hk2⟩;have Hk2:=Lib.hid hk2;clear hk2)
 go_ret
 exact⟨rfl,Hk2.out⟩
set_option maxHeartbeats 1600000
theorem samePos_any(L:List Int)(n:Nat)(ad1 ad2:Option Addr)(c1 c2:Nat)(cr du:Int)(w:World)(hn:L.length=n)(h1:Reads w 1 (.slice ad1 n c1) n (L.flatMap i64c))(h2:Reads w 1 (.slice ad2 n c2) n (L.flatMap i64c))(hl:n≤1000000000000):
  Calls Tryz.prog 10 #[.agg #[.slice ad1 n c1, .int .i64 cr, .int .i64 du], .agg #[.slice ad2 n c2, .int .i64 cr, .int .i64 du]] w fun e w'=>e= .returned (.bool true)∧Keeps (fun _=>False) w w':=by
 have hc:=fun W (hW:Keeps (fun _=>False) w W)=>plainI64_same L (.slice ad1 n c1) (.slice ad2 n c2) W (by rw [hn];exact h1.keeps hW (by simp)) (by rw [hn];exact h2.keeps hW (by simp)) (by omega)
 obtain⟨H1,H2,Hc,Hn⟩:=hid4 h1 h2 hc hn;clear hn hc h2 h1
 go_enter Tryz.func10,Tryz.ntmps10
 go_wp2_with (go_at_call 11;(with_reducible refine(Hc.out _ ((Keeps.alloc _ _).trans_alloc)).mono ?_);rintro e w1 ⟨rfl,hk1⟩;have hb1:=box_old (box_alloc (heap_alloc_new w _) _) hk1 (by simp);have hb2:=box_new hk1 (by simp);simp only [World.size_alloc] at hb2;have xa:=cell_of_cells hb1;have xb:=cell_of_cells hb2;have xl1:=lt_of_block hb1;have xl2:=lt_of_block hb2;have Hk1:=Lib.hid hk1;clear hk1 hb1 hb2)
 go_ret
 exact⟨rfl,((Keeps.alloc _ _).trans (Keeps.alloc _ _)).trans (Hk1.out.mono (by simp))⟩
set_option maxHeartbeats 400000
theorem r11may_any(v:Int)(w:World):Calls Tryz.prog 41 #[.int .i64 v] w fun e w'=>e= .returned (.bool (moneyP v))∧w=w':=by
 by_cases h1:v<0
 ·have hf:moneyP v=false:=by simp [moneyP];omega
  have h1':¬0≤v:=by omega
  have Hf:=Lib.hid hf;clear hf
  go_enter Tryz.func41,Tryz.ntmps41
  go_wp2
  go_ret
  exact⟨by rw [Hf.out];rfl,rfl⟩
 ·by_cases h2:1000000000000000<v
  ·have hf:moneyP v=false:=by simp [moneyP];omega
   have hd:decide (v≤1000000000000000)=false:=by rw [decide_eq_false_iff_not];omega
   have h1':0≤v:=by omega
   have Hf:=Lib.hid hf;clear hf
   go_enter Tryz.func41,Tryz.ntmps41
   go_wp2
   go_ret
   exact⟨by rw [Hf.out];rfl,rfl⟩
  ·have hf:moneyP v=true:=by simp [moneyP];omega
   have h1':0≤v:=by omega
   have Hf:=Lib.hid hf;clear hf
   go_enter Tryz.func41,Tryz.ntmps41
   go_wp2
   go_ret
   exact⟨by rw [Hf.out];rfl,rfl⟩
theorem r11may_at{v:Int}{b:Bool}(h:moneyP v=b)(w:World):Calls Tryz.prog 41 #[.int .i64 v] w fun e w'=>e= .returned (.bool b)∧w=w':=by subst h;exact r11may_any v w
set_option maxHeartbeats 3200000
theorem r11Right_any(L:List Int)(cr du:Int)(ad:Option Addr)(cap n:Nat)(w:World)(hr:Reads w 1 (.slice ad n cap) n (L.flatMap i64c))(hN:L.length=n)(hl:n≤9223372036854775807):
  Calls Tryz.prog 18 #[.agg #[.slice ad n cap, .int .i64 cr, .int .i64 du]] w fun e w'=>e= .returned (.bool (Ps.rightB ⟨L,cr,du⟩))∧Keeps (fun _=>False) w w':=by
 obtain⟨z,hz⟩:∃z,Ps.rightB ⟨L,cr,du⟩=z:=⟨_,rfl⟩
 rw [hz]
 rcases m1:moneyP cr with _|_
 ·rcases m2:moneyP du with _|_
  all_goals
   by_cases n1:n<1
   ·have n1I:(n:Int)<1:=by omega
    have hf:Ps.rightB ⟨L,cr,du⟩=false:=by unfold Ps.rightB;simp [m1]
    obtain rfl:z=false:=hz.symm.trans hf
    obtain⟨Hf,Hz,Hr,HN⟩:=hid4 hf hz hr hN;clear hN hr hz hf
    go_enter Tryz.func18,Tryz.ntmps18
    go_wp2_with (first|(go_at_call 41;(with_reducible refine(r11may_at m1 _).mono ?_);rintro e w1 ⟨rfl,rfl⟩)|(go_at_call 41;(with_reducible refine(r11may_at m2 _).mono ?_);rintro e w1 ⟨rfl,rfl⟩))
    go_ret
    exact⟨rfl,Keeps.alloc w _⟩
   ·have n1I:¬(n:Int)<1:=by omega
    by_cases n8:8<n
    ·have n8I:(8:Int)<(n:Int):=by omega
     have hf:Ps.rightB ⟨L,cr,du⟩=false:=by unfold Ps.rightB;simp [m1]
     obtain rfl:z=false:=hz.symm.trans hf
     obtain⟨Hf,Hz,Hr,HN⟩:=hid4 hf hz hr hN;clear hN hr hz hf
     go_enter Tryz.func18,Tryz.ntmps18
     go_wp2_with (first|(go_at_call 41;(with_reducible refine(r11may_at m1 _).mono ?_);rintro e w1 ⟨rfl,rfl⟩)|(go_at_call 41;(with_reducible refine(r11may_at m2 _).mono ?_);rintro e w1 ⟨rfl,rfl⟩))
     go_ret
     exact⟨rfl,Keeps.alloc w _⟩
    ·have n8I:¬(8:Int)<(n:Int):=by omega
     have hf:Ps.rightB ⟨L,cr,du⟩=false:=by unfold Ps.rightB;simp [m1]
     obtain rfl:z=false:=hz.symm.trans hf
     obtain⟨Hf,Hz,Hr,HN⟩:=hid4 hf hz hr hN;clear hN hr hz hf
     go_enter Tryz.func18,Tryz.ntmps18
     go_wp2_with (first|(go_at_call 41;(with_reducible refine(r11may_at m1 _).mono ?_);rintro e w1 ⟨rfl,rfl⟩)|(go_at_call 41;(with_reducible refine(r11may_at m2 _).mono ?_);rintro e w1 ⟨rfl,rfl⟩))
     go_ret
     exact⟨rfl,Keeps.alloc w _⟩
 rcases m2:moneyP du with _|_
 ·by_cases n1:n<1
  ·have n1I:(n:Int)<1:=by omega
   have hf:Ps.rightB ⟨L,cr,du⟩=false:=by unfold Ps.rightB;simp [m2]
   obtain rfl:z=false:=hz.symm.trans hf
   obtain⟨Hf,Hz,Hr,HN⟩:=hid4 hf hz hr hN;clear hN hr hz hf
   go_enter Tryz.func18,Tryz.ntmps18
   go_wp2_with (first|(go_at_call 41;(with_reducible refine(r11may_at m1 _).mono ?_);rintro e w1 ⟨rfl,rfl⟩)|(go_at_call 41;(with_reducible refine(r11may_at m2 _).mono ?_);rintro e w1 ⟨rfl,rfl⟩))
   go_ret
   exact⟨rfl,Keeps.alloc w _⟩
  ·have n1I:¬(n:Int)<1:=by omega
   by_cases n8:8<n
   ·have n8I:(8:Int)<(n:Int):=by omega
    have hf:Ps.rightB ⟨L,cr,du⟩=false:=by unfold Ps.rightB;simp [m2]
    obtain rfl:z=false:=hz.symm.trans hf
    obtain⟨Hf,Hz,Hr,HN⟩:=hid4 hf hz hr hN;clear hN hr hz hf
    go_enter Tryz.func18,Tryz.ntmps18
    go_wp2_with (first|(go_at_call 41;(with_reducible refine(r11may_at m1 _).mono ?_);rintro e w1 ⟨rfl,rfl⟩)|(go_at_call 41;(with_reducible refine(r11may_at m2 _).mono ?_);rintro e w1 ⟨rfl,rfl⟩))
    go_ret
    exact⟨rfl,Keeps.alloc w _⟩
   ·have n8I:¬(8:Int)<(n:Int):=by omega
    have hf:Ps.rightB ⟨L,cr,du⟩=false:=by unfold Ps.rightB;simp [m2]
    obtain rfl:z=false:=hz.symm.trans hf
    obtain⟨Hf,Hz,Hr,HN⟩:=hid4 hf hz hr hN;clear hN hr hz hf
    go_enter Tryz.func18,Tryz.ntmps18
    go_wp2_with (first|(go_at_call 41;(with_reducible refine(r11may_at m1 _).mono ?_);rintro e w1 ⟨rfl,rfl⟩)|(go_at_call 41;(with_reducible refine(r11may_at m2 _).mono ?_);rintro e w1 ⟨rfl,rfl⟩))
    go_ret
    exact⟨rfl,Keeps.alloc w _⟩
 by_cases n1:n<1
 ·have n1I:(n:Int)<1:=by omega
  have hq:¬1≤L.length:=by omega
  have hf:Ps.rightB ⟨L,cr,du⟩=false:=by unfold Ps.rightB;simp [hq]
  obtain rfl:z=false:=hz.symm.trans hf
  obtain⟨Hf,Hz,Hr,HN⟩:=hid4 hf hz hr hN;clear hN hr hz hf
  go_enter Tryz.func18,Tryz.ntmps18
  go_wp2_with (first|(go_at_call 41;(with_reducible refine(r11may_at m1 _).mono ?_);rintro e w1 ⟨rfl,rfl⟩)|(go_at_call 41;(with_reducible refine(r11may_at m2 _).mono ?_);rintro e w1 ⟨rfl,rfl⟩))
  go_ret
  exact⟨rfl,Keeps.alloc w _⟩
 have n1I:¬(n:Int)<1:=by omega
 by_cases n8:8<n
 ·have n8I:(8:Int)<(n:Int):=by omega
  have hq:¬L.length≤8:=by omega
  have hf:Ps.rightB ⟨L,cr,du⟩=false:=by unfold Ps.rightB;simp [hq]
  obtain rfl:z=false:=hz.symm.trans hf
  obtain⟨Hf,Hz,Hr,HN⟩:=hid4 hf hz hr hN;clear hN hr hz hf
  go_enter Tryz.func18,Tryz.ntmps18
  go_wp2_with (first|(go_at_call 41;(with_reducible refine(r11may_at m1 _).mono ?_);rintro e w1 ⟨rfl,rfl⟩)|(go_at_call 41;(with_reducible refine(r11may_at m2 _).mono ?_);rintro e w1 ⟨rfl,rfl⟩))
  go_ret
  exact⟨rfl,Keeps.alloc w _⟩
 have n8I:¬(8:Int)<(n:Int):=by omega
 have n1':1≤n:=by omega
 have n8':n≤8:=by omega
 have hbx:∀W,Keeps (fun _=>False) (w.alloc (.cells #[.slice ad n cap, .int .i64 cr, .int .i64 du] 24)) W→W.heap[w.heap.size]?=some (.cells #[.slice ad n cap, .int .i64 cr, .int .i64 du] 24 (0,0)):=fun W hW=>box_old (heap_alloc_new w _) hW (by simp)
 obtain⟨Hr,Hz,Hbx⟩:=hid3 hr hz hbx;clear hbx hz hr
 go_enter Tryz.func18,Tryz.ntmps18
 go_wp2_with (first|(go_at_call 41;(with_reducible refine(r11may_at m1 _).mono ?_);rintro e w1 ⟨rfl,rfl⟩)|(go_at_call 41;(with_reducible refine(r11may_at m2 _).mono ?_);rintro e w1 ⟨rfl,rfl⟩))
 go_loopw [3,4] (fun x y wx=>∃(i:Nat) (s:Int),x= .int .i64 s∧y= .int .i64 (i:Nat)∧i≤n∧sumI (L.take i)=s∧(L.take i).all moneyP=true∧0≤s∧s≤i*1000000000000000∧Keeps (fun _=>False) (w.alloc (.cells #[.slice ad n cap, .int .i64 cr, .int .i64 du] 24)) wx) (fun _ y _=>n-(intOf y).toNat)
 case atStart=>exact⟨0,0,rfl,rfl,Nat.zero_le _,rfl,rfl,by omega,by omega,Keeps.refl _ _⟩
 case round=>
  obtain⟨i,s,rfl,rfl,hin,hs,hall,hs0,hs1,hk⟩:=hrel
  obtain⟨wq,hwq⟩:∃x,x=wr:=⟨_,rfl⟩
  subst hwq
  have hb:=Hbx.out _ hk
  have c0:=cell_of_cells hb 0
  have c1:=cell_of_cells hb 1
  have c2:=cell_of_cells hb 2
  have bl:=lt_of_block hb
  have hs2:s≤8000000000000000:=by omega
  by_cases hlt:i<n
  ·have hltI:(i:Int)<(n:Int):=by omega
   obtain⟨x,hx⟩:=get_some (L:=L) (k:=i) (by omega)
   obtain⟨g,o,he,hc⟩:=(Hr.out.keeps ((Keeps.alloc w _).nt hk) (by simp)).int (k:= .i64) hx
   subst he
   have hgl:=cell_lt hc
   have hsn:=sumI_snoc hx
   rw [hs] at hsn
   rcases m3:moneyP x with _|_
   ·have hf:Ps.rightB ⟨L,cr,du⟩=false:=by unfold Ps.rightB;rw [show scanB L=false from scan_bad1 hx m3];rfl
    obtain rfl:z=false:=Hz.out.symm.trans hf
    obtain⟨Hall,Hk,Hs,Hsn,Hx,Hf,Hb⟩:=hid7 hall hk hs hsn hx hf hb;clear hb hf hx hsn hs hk hall
    go_wp2_with (go_at_call 41;(with_reducible refine(r11may_at m3 _).mono ?_);rintro e w1 ⟨rfl,rfl⟩)
    go_ret
    exact⟨rfl,(Keeps.alloc w _).nt Hk.out⟩
   ·obtain⟨x0,x1⟩:=(moneyP_iff x).1 m3
    have hall2:(L.take (i+1)).all moneyP=true:=by rw [take_snoc' hx,List.all_append,hall];simp [m3]
    obtain⟨Hall,Hall2,Hk,Hs,Hsn,Hx,Hb⟩:=hid7 hall hall2 hk hs hsn hx hb;clear hb hx hsn hs hk hall2 hall
    go_wp2_with (go_at_call 41;(with_reducible refine(r11may_at m3 _).mono ?_);rintro e w1 ⟨rfl,rfl⟩)
    go_roundw
    case rel=>exact⟨i+1,s+x,rfl,by go_num,by omega,Hsn.out,Hall2.out,by omega,by omega,Hk.out⟩
    case measure=>simp [intOf];omega
  ·obtain rfl:n=i:=by omega
   rw [List.take_of_length_le (by omega)] at hs hall
   have Hb:=Lib.hid hb;clear hb
   rcases m5:moneyP s with _|_
   ·skip
    have hf:Ps.rightB ⟨L,cr,du⟩=false:=by unfold Ps.rightB scanB;simp only [hall,hs,hN,m1,m2,m5,Bool.true_and,Bool.and_true,Bool.false_and,Bool.and_false,decide_true,decide_false,Bool.or_true,Bool.true_or,Bool.or_false,Bool.false_or,decide_eq_true n1',decide_eq_true n8']
    obtain rfl:z=false:=Hz.out.symm.trans hf
    obtain⟨Hf,Hs,Hall,Hk⟩:=hid4 hf hs hall hk;clear hk hall hs hf
    go_wp2_with (go_at_call 41;(with_reducible refine(r11may_at m5 _).mono ?_);rintro e w1 ⟨rfl,rfl⟩)
    go_ret
    exact⟨rfl,(Keeps.alloc w _).nt Hk.out⟩
   ·by_cases h6:cr=0
    ·have h6I:(cr==0)=true:=by rw [beq_iff_eq];exact h6
     have h6d:decide (cr=0)=true:=decide_eq_true h6
     clear h6
     have hf:Ps.rightB ⟨L,cr,du⟩=true:=by unfold Ps.rightB scanB;simp only [hall,hs,hN,m1,m2,m5,h6d,Bool.true_and,Bool.and_true,Bool.false_and,Bool.and_false,decide_true,decide_false,Bool.or_true,Bool.true_or,Bool.or_false,Bool.false_or,decide_eq_true n1',decide_eq_true n8']
     obtain rfl:z=true:=Hz.out.symm.trans hf
     obtain⟨Hf,Hs,Hall,Hk⟩:=hid4 hf hs hall hk;clear hk hall hs hf
     go_wp2_with (go_at_call 41;(with_reducible refine(r11may_at m5 _).mono ?_);rintro e w1 ⟨rfl,rfl⟩)
     go_ret
     exact⟨rfl,(Keeps.alloc w _).nt Hk.out⟩
    ·have h6I:(cr==0)=false:=beq_eq_false_iff_ne.2 h6
     have h6d:decide (cr=0)=false:=decide_eq_false h6
     by_cases h7:s=0
     ·have h7I:(s==0)=true:=by rw [beq_iff_eq];exact h7
      have h7d:decide (s=0)=true:=decide_eq_true h7
      clear h6 h7
      have hf:Ps.rightB ⟨L,cr,du⟩=true:=by unfold Ps.rightB scanB;simp only [hall,hs,hN,m1,m2,m5,h6d,h7d,Bool.true_and,Bool.and_true,Bool.false_and,Bool.and_false,decide_true,decide_false,Bool.or_true,Bool.true_or,Bool.or_false,Bool.false_or,decide_eq_true n1',decide_eq_true n8']
      obtain rfl:z=true:=Hz.out.symm.trans hf
      obtain⟨Hf,Hs,Hall,Hk⟩:=hid4 hf hs hall hk;clear hk hall hs hf
      go_wp2_with (go_at_call 41;(with_reducible refine(r11may_at m5 _).mono ?_);rintro e w1 ⟨rfl,rfl⟩)
      go_ret
      exact⟨rfl,(Keeps.alloc w _).nt Hk.out⟩
     ·have h7I:(s==0)=false:=beq_eq_false_iff_ne.2 h7
      have h7d:decide (s=0)=false:=decide_eq_false h7
      clear h6 h7
      have hf:Ps.rightB ⟨L,cr,du⟩=false:=by unfold Ps.rightB scanB;simp only [hall,hs,hN,m1,m2,m5,h6d,h7d,Bool.true_and,Bool.and_true,Bool.false_and,Bool.and_false,decide_true,decide_false,Bool.or_true,Bool.true_or,Bool.or_false,Bool.false_or,decide_eq_true n1',decide_eq_true n8']
      obtain rfl:z=false:=Hz.out.symm.trans hf
      obtain⟨Hf,Hs,Hall,Hk⟩:=hid4 hf hs hall hk;clear hk hall hs hf
      go_wp2_with (go_at_call 41;(with_reducible refine(r11may_at m5 _).mono ?_);rintro e w1 ⟨rfl,rfl⟩)
      go_ret
      exact⟨rfl,(Keeps.alloc w _).nt Hk.out⟩
def ro6(gR oR i q gO j:Nat)(r r' x:Int)(W:World):Prop:=W.cell? ⟨gR,oR+i,none⟩=some (.int .i64 r)∧W.cell? ⟨gO,j,none⟩=some (.int .i64 x)∧W.cell? ⟨gR,oR+q,none⟩=some (.int .i64 r')
def OrdR(w:World)(hi:Bool)(R:List Int)(i:Nat)(v:Value)(W:World):Prop:=W.ownsRow 0 3 1 v i ((rankN hi R i).flatMap i64c)∧Fresh w W v
end Go.Proofs.YthcmpcekmkioaaaGreat
