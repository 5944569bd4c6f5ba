/- Part 11 of what the laws of this seat share: walks of functions, and plain laws. -/
import Derived.Test.YthffbjldpfionaaGreatC10
namespace Go.Proofs.YthffbjldpfionaaGreat
open Go.RowKit
theorem jZ12{P:Prop}(h:P:=by
 have hSz:=HSk.out _ hk4z
 obtain⟨Hrel,Hbz,Hkz,Hk4z,HSz,Hz8⟩:=hid6 hrel hbz hkz hk4z hSz hz8;clear hz8 hSz hk4z hkz hbz hrel
 repeat ((first|refine Ai rfl (by rfl) ?_|refine Af rfl (by rfl) ?_|(refine Ah (v:= ?_) rfl (by rfl) ?_ ?_;rotate_left;(· intro w' hSw;unfold acT tbS at hSw;go_simp;(try with_reducible rfl));rotate_right));try simp only [aps])
 refine Ak rfl (fun K hK=> ?_)
 go_simp
 refine hK.out _ _ (by exact HSz.out) ?_
 clear hK K
 try simp only [aps]
 repeat ((first|refine Ai rfl (by rfl) ?_|refine Af rfl (by rfl) ?_|(refine Ah (v:= ?_) rfl (by rfl) ?_ ?_;rotate_left;(· intro w' hSw;unfold acT tbS at hSw;go_simp;(try with_reducible rfl));rotate_right));try simp only [aps])
 refine Aw ?_
 clear z0 z1 z2' zf0 zf1 zf2 hlz
 go_wp2_with fail
 go_meet
 exact Hrel.out):P:=h
theorem AcPost.fin{w W2 W3 W4:World}{B b R:Nat}{x:AcV}{a a':Ac}{v:Value}{D:List Disp}{C V:Array Value}(h:AcAt w B x a)(hk:Keeps (fun _=>False) w W2)(hp:AcPost W2 B x a' W3)(hb:BookAt W2 b v D)(hft:∀k,Foot b v k→w.heap.size≤k)(hR:W2.heap[R]?=some (.cells C 44 (0,0)))(hRw:w.heap.size≤R)(hW:W4=W3.setCell ⟨B,10,none⟩ (.pointer (some ⟨b,0,none⟩))):
  W4.heap[R]?=some (.cells C 44 (0,0))∧AcPost w B x { a' with D:=D } (W4.setRow R V):=by
 obtain⟨x',hA,hk3,hf3⟩:=hp
 have hlt:∀k,AcF B x k→k<w.heap.size:=fun k hk=>h.lt k (.inl hk)
 have hw:=hk.size
 have hf:∀k,Foot b v k→¬AcF B x' k:=fun k hk e=>by
  have h1:=hft k hk
  have h2:=hb.lt k hk
  rcases hf3.1 k e with h3|h3
  ·have:=hlt k h3;omega
  ·omega
 have hR3:¬AcF B x R:=fun e=>by have:=hlt R e;omega
 have hB3:BookAt W3 b v D:=hb.keeps hk3 fun k hk e=>by have:=hft k hk;have:=hlt k e;omega
 have hA4:=hA.book hB3 hf hW
 have hk4:Keeps (fun i=>i=B) W3 W4:=by rw [hW];exact(Keeps.refl _ _).setB _ _
 have hR4:=Ad (Ad hR hk3 hR3) hk4 (fun e=>hR3 (.inl e))
 have hkr:=Ca W4 R V
 refine⟨hR4,_,hA4.keeps hkr fun k hk e=>hA4.other hR4 k hk e, ?_,fun k hk=> ?_,fun k hk=> ?_⟩
 ·refine(hk.mono (by simp)).trans ((hk3.mono fun i _ e=> .inl e).trans ((hk4.mono fun i _ e=> .inl (.inl (.inl e))).trans (hkr.mono fun i _ e=> .inl (.inl (.inr ?_)))))
  have e':i=R:=e
  omega
 ·rcases hf3.1 k hk with h3|h3
  ·exact .inl h3
  ·exact .inr (by omega)
 ·have key:∀k,x'.rd k→x.rd k∨w.heap.size≤k:=fun k hk=>(hf3.2 k hk).imp id fun e=>by omega
  rcases hk with hk|hk|hk|hk|hk|hk|hk|hk|hk|hk
  ·exact key k (.inl hk)
  ·exact key k (.inr (.inl hk))
  ·exact key k (.inr (.inr (.inl hk)))
  ·exact key k (.inr (.inr (.inr (.inl hk))))
  ·exact key k (.inr (.inr (.inr (.inr (.inl hk)))))
  ·exact key k (.inr (.inr (.inr (.inr (.inr (.inl hk))))))
  ·exact key k (.inr (.inr (.inr (.inr (.inr (.inr (.inl hk)))))))
  ·exact .inr (hft k hk)
  ·exact key k (.inr (.inr (.inr (.inr (.inr (.inr (.inr (.inr (.inl hk)))))))))
  ·exact key k (.inr (.inr (.inr (.inr (.inr (.inr (.inr (.inr (.inr hk)))))))))
theorem AcPost.ret{w W0 W:World}{B R:Nat}{x:AcV}{a a':Ac}{C V:Array Value}(h:AcAt w B x a)(hk:Keeps (fun _=>False) w W0)(hp:AcPost W0 B x a' W)(hR:W0.heap[R]?=some (.cells C 44 (0,0)))(hRw:w.heap.size≤R):
  W.heap[R]?=some (.cells C 44 (0,0))∧AcPost w B x a' (W.setRow R V):=by
 obtain⟨x',hA,hk3,hf3⟩:=hp
 have hw:=hk.size
 have hR3:¬AcF B x R:=fun e=>by have:=h.lt R (.inl e);omega
 have hR4:=Ad hR hk3 hR3
 have hkr:=Ca W R V
 refine⟨hR4,_,hA.keeps hkr fun k hk e=>hA.other hR4 k hk e, ?_,fun k hk=>(hf3.1 k hk).imp id fun h=>by omega,fun k hk=>(hf3.2 k hk).imp id fun h=>by omega⟩
 refine(hk.mono (by simp)).trans ((hk3.mono fun i _ e=> .inl e).trans (hkr.mono fun i _ e=> .inl (.inr ?_)))
 have e':i=R:=e
 omega
theorem AcPost.more{w W W':World}{B:Nat}{x:AcV}{a:Ac}(h:AcPost w B x a W)(hk:Keeps (fun _=>False) W W'):AcPost w B x a W':=by
 obtain⟨x',hA,hk3,hf3⟩:=h
 exact⟨x',hA.keep0 hk,hk3.trans (hk.mono (by simp)),hf3⟩
theorem AcPost.box{w W2 W3:World}{B i:Nat}{x:AcV}{a a':Ac}{o:Obj}(h:AcAt w B x a)(hp:AcPost W2 B x a' W3)(hb:W2.heap[i]?=some o)(hi:w.heap.size≤i):W3.heap[i]?=some o:=by
 obtain⟨x',hA,hk3,hf3⟩:=hp
 exact Ad hb hk3 fun e=>by have:=h.lt i (.inl e);omega
theorem Ac.xe_bad{a:Ac}{c:Cmd}{z:Int}(h:a.xz c=z)(hz:¬z=0):a.xe c=z:=by unfold Ac.xe;rw [h,if_pos hz]
theorem Ac.xe_won{a:Ac}{c:Cmd}(h:a.xz c=0)(hk:c.kind=6):a.xe c=0:=by unfold Ac.xe;rw [h,if_neg (by decide),if_pos hk]
theorem Ac.xe_cnt{a:Ac}{c:Cmd}(h:a.xz c=0)(hk:¬c.kind=6):a.xe c=a.ce (a.xev c):=by unfold Ac.xe;rw [h,if_neg (by decide),if_neg hk]
theorem Ac.count_no{a:Ac}{e:Ev}(h:¬a.ce e=0):a.count e=a:=by unfold Ac.count;rw [if_neg h]
set_option maxRecDepth 100000
set_option maxHeartbeats 3200000
theorem accAsk_any(B:Nat)(x:AcV)(a:Ac)(c:Cmd)(b:Nat)(v:Value)(w:World)(h:AcAt w B x a)(hb:BookAt w b v a.D)(hsep:∀k,Foot b v k→¬(AcF B x k∨x.rd k))(hk:1≤c.kind∧c.kind≤7):
  ((c.kind=5∨c.kind=6)→Calls Tryz.prog 64 #[(.pointer (some ⟨B,0,none⟩)),.agg #[.int .i64 c.kind,.int .i64 c.day,.int .i64 c.tranche,.int .i64 c.amount,.int .i64 c.ref],(.pointer (some ⟨b,0,none⟩))] w (EvPost w b v (a.xD c) (a.xev c) (a.xz c)))∧
  (¬(c.kind=5∨c.kind=6)→Calls Tryz.prog 63 #[(.pointer (some ⟨B,0,none⟩)),.agg #[.int .i64 c.kind,.int .i64 c.day,.int .i64 c.tranche,.int .i64 c.amount,.int .i64 c.ref],(.pointer (some ⟨b,0,none⟩))] w (EvPost w b v (a.xD c) (a.xev c) (a.xz c))):=by
 unfold Ac.xD Ac.xev Ac.xz
 refine⟨fun h5=> ?_,fun h5=> ?_⟩
 ·rw [if_pos h5,if_pos h5,if_pos h5];exact accEnded_any B x a c b v w h hb hsep h5
 ·rw [if_neg h5,if_neg h5,if_neg h5];exact accEvent_any B x a c b v w h hb hsep (by omega)
def acT(B:Nat)(t:Tm)(vt:Value)(td:Int)(w:World):Prop:=tbS B t vt w∧w.cell? ⟨B,7,none⟩=some (.int .i64 td)
theorem acT.keep{B:Nat}{t:Tm}{vt:Value}{td:Int}{w w':World}(h:acT B t vt td w)(hk:Keeps (fun _=>False) w w'):acT B t vt td w':=⟨h.1.keep hk,(hk.cell (Ag h.2) (by simp)).trans h.2⟩
theorem acT.of{w:World}{B:Nat}{x:AcV}{a:Ac}(h:AcAt w B x a):acT B a.t x.vt a.today w:=
 ⟨⟨Aa h.blk 0,Aa h.blk 1,Aa h.blk 2,Aa h.blk 3,Aa h.blk 4,Aa h.blk 5,Aa h.blk 6⟩,Aa h.blk 7⟩
def CnRun(W2:World)(n:Nat)(Z:St×Int)(p r q z:Value)(wx:World):Prop:=∃(b7:Nat) (vb vr vo:Value) (cr du zz:Int),p=(.pointer (some ⟨b7,0,none⟩))∧z= .int .i64 zz∧vr=r∧vo=q∧W2.heap.size≤b7∧Keeps (fun _=>False) W2 wx∧wx.heap[b7]?=some (.cells #[vb,.int .i64 cr,.int .i64 du] 34 (0,0))∧RunIs W2 n Z wx vb cr du r q zz∧∃a m c,vb= .slice a m c
theorem WalkRes.up{w w2 W:World}{n:Nat}{s:St}{vb vr vo:Value}{P:List SV}(h:WalkRes w2 n s vb vr vo P W)(hk:Keeps (fun _=>False) w w2):WalkRes w n s vb vr vo P W:=
 ⟨h.bal,h.rts,h.out,h.ln,h.lp,h.nb,h.nr,fun b hb=>by have:=h.wb b hb;have:=hk.size;omega,fun b hb=>by have:=h.wr b hb;have:=hk.size;omega,fun b hb=>by have:=h.wo b hb;have:=hk.size;omega,fun x hx b hb=>by have:=h.wl x hx b hb;have:=hk.size;omega,hk.nt h.kp⟩
theorem RunIs.up{w w2:World}{m:Nat}{Z:St×Int}{W:World}{vb vr vo:Value}{cr du z:Int}(h:RunIs w2 m Z W vb cr du vr vo z)(hk:Keeps (fun _=>False) w w2):RunIs w m Z W vb cr du vr vo z:=by
 cases h with
 |ok e g=>exact .ok e (g.up hk)
 |bad e=>exact .bad e
theorem ce_add{a:Ac}{e:Ev}(h:¬addErr a.t a.L e=0):a.ce e=addErr a.t a.L e∧a.count e=a:=by
 have h1:a.ce e=addErr a.t a.L e:=by unfold Ac.ce;rw [if_pos h]
 exact⟨h1,by unfold Ac.count;rw [h1,if_neg h]⟩
theorem ce_run{a:Ac}{e:Ev}(h:addErr a.t a.L e=0)(h2:¬(a.cz e).2=0):a.ce e=(a.cz e).2∧a.count e=a:=by
 have h1:a.ce e=(a.cz e).2:=by unfold Ac.ce;rw [if_neg (by omega),if_pos h2]
 exact⟨h1,by unfold Ac.count;rw [h1,if_neg h2]⟩
def cbS(B:Nat)(sq:Int)(vn:Value)(w:World):Prop:=w.cell? ⟨B,8,none⟩=some (.int .i64 sq)∧w.cell? ⟨B,15,none⟩=some vn
theorem cbS.keep{B:Nat}{sq:Int}{vn:Value}{w w':World}(h:cbS B sq vn w)(hk:Keeps (fun _=>False) w w'):cbS B sq vn w':=⟨(hk.cell (Ag h.1) (by simp)).trans h.1,(hk.cell (Ag h.2) (by simp)).trans h.2⟩
theorem ce_bad{a:Ac}{e:Ev}(h:addErr a.t a.L e=0)(h2:(a.cz e).2=0)(h3:¬(a.cb e).1=0):a.ce e=(a.cb e).1∧a.count e=a:=by
 have h1:a.ce e=(a.cb e).1:=by unfold Ac.ce;rw [if_neg (by omega),if_neg (by omega)]
 exact⟨h1,by unfold Ac.count;rw [h1,if_neg h3]⟩
theorem ce_good{a:Ac}{e:Ev}(h:addErr a.t a.L e=0)(h2:(a.cz e).2=0)(h3:(a.cb e).1=0):a.ce e=0∧a.count e={ a with L:=putL a.L e,s:=(a.cz e).1,adj:=a.adj++(a.cb e).2,seq:=a.seq+1 }:=by
 have h1:a.ce e=0:=by unfold Ac.ce;rw [if_neg (by omega),if_neg (by omega),h3]
 exact⟨h1,by unfold Ac.count;rw [h1,if_pos rfl]⟩
def b7S(b7:Nat)(vb:Value)(cr du:Int)(w:World):Prop:=w.cell? ⟨b7,0,none⟩=some vb∧w.cell? ⟨b7,1,none⟩=some (.int .i64 cr)∧w.cell? ⟨b7,2,none⟩=some (.int .i64 du)
theorem b7S.keep{b7:Nat}{vb:Value}{cr du:Int}{w w':World}{S:Nat→Prop}(h:b7S b7 vb cr du w)(hk:Keeps S w w')(hS:¬S b7):b7S b7 vb cr du w':=⟨(hk.cell (Ag h.1) hS).trans h.1,(hk.cell (Ag h.2.1) hS).trans h.2.1,(hk.cell (Ag h.2.2) hS).trans h.2.2⟩
theorem AcAt.counted{w wc Wf W2:World}{B B1 n M:Nat}{x:AcV}{a:Ac}{L1:List Ev}{Z:St×Int}{r2:List Adj}{v2 vp vr vn va:Value}{P:List SV}(h:AcAt w B x a)(hkc:Keeps (fun _=>False) w wc)(hk2:Keeps (fun _=>False) w W2)(hk2c:Keeps (fun _=>False) W2 wc)
  (hK:Keeps (fun i=>i=B∨x.va.ownBlock=some i) wc Wf) (hdl:DL W2 B1 a.t x.vtl L1 v2) (hB1:w.heap.size≤B1) (hv2:∀b,v2.ownBlock=some b→w.heap.size≤b) (hN:a.t.trs.length=n) (hZ:walkR a.t L1 a.today=Z) (hz:Z.2=0) (g:WalkRes W2 n Z.1 vp vr vn P wc)
  (hbet:betS (a.seq+1) a.s.out Z.1.out=(0,r2)) (hb:Wf.heap[B]?=some (.cells #[.int .i64 a.t.limit,x.vt,.int .i64 a.t.cyc,.int .i64 a.t.due,.int .i64 a.t.minFixed,.int .i64 a.t.minPart,.int .i64 a.t.start,.int .i64 a.today,.int .i64 (a.seq+1),(.pointer (some ⟨B1,0,none⟩)),(.pointer (some ⟨x.bb,0,none⟩)),vp,.int .i64 Z.1.p.cr,.int .i64 Z.1.p.du,vr,vn,x.vi,va] 89 (0,0)))
  (hra:Wf.ownsRow 0 70 9 va (a.adj++r2).length ((a.adj++r2).flatMap Adj.cells)) (hM1:wc.heap.size≤M) (hva:∀b,va.ownBlock=some b→x.va.ownBlock=some b∨M≤b):
  AcPost w B x { a with L:=L1,s:=Z.1,adj:=a.adj++r2,seq:=a.seq+1 } Wf:=by
 have hA:=h.keep0 hkc
 have hBl:=lt_of_block h.blk
 have hval:∀b,x.va.ownBlock=some b→b<w.heap.size:=fun b hb=>rowLt h.adj hb
 have hsz:=hk2.size
 have hszc:=hkc.size
 have hsz2c:=hk2c.size
 have hZ1:Z=(Z.1,0):=by rw [←hz]
 have hnum:=h.ok.nums
 have hr2:r2.length≤300300:=by
  have:=betS_le (seq:=a.seq+1) (L:=a.s.out) (M:=Z.1.out) fun y hy=>by have:=hnum.ol y hy;have:=hnum.n8;omega
  rw [hbet] at this
  have:=hnum.o3
  simp only at *
  omega
 have hok:AcOk { a with L:=L1,s:=Z.1,adj:=a.adj++r2,seq:=a.seq+1 }:=by
  refine⟨by show walkR a.t L1 a.today=(Z.1,0);rw [hZ];exact hZ1, ?_,h.ok.ill, ?_,by have:=h.ok.s0;show 0≤a.seq+1;omega⟩
  ·have:=betS_len (seq:=a.seq+1) (L:=a.s.out) (M:=Z.1.out) (by rw [hbet])
   show a.iss.length=Z.1.out.length
   rw [h.ok.il,this]
  ·have:=h.ok.aj
   show((a.adj++r2).length:Int)≤301000*(a.seq+1)
   rw [List.length_append]
   omega
 have nwo:∀b,w.heap.size≤b→¬(b=B∨x.va.ownBlock=some b):=fun b hb e=>by
  rcases e with e|e
  ·omega
  ·have:=hval b e;omega
 have nw:∀b,W2.heap.size≤b→¬(b=B∨x.va.ownBlock=some b):=fun b hb=>nwo b (by omega)
 have hdc:=hdl.keep hk2c
 have hold:∀b,x.rd b→¬(b=B∨x.va.ownBlock=some b):=fun b hb e=>h.sep b hb (e.imp id .inr)
 have hrd:∀b,AcV.rd ({ x with vl:=v2,bl:=B1,vp:=vp,vr:=vr,vn:=vn,va:=va,P:=P }:AcV) b→x.rd b∨(w.heap.size≤b∧b<M):=by
  rintro b (hb|hb|hb|hb|hb|hb|hb|hb|⟨y,hy,hb⟩|⟨y,hy,hb⟩)
  ·exact .inl (.inl hb)
  ·have:=g.wb b hb;have:=rowLt g.bal hb;exact .inr ⟨by omega,by omega⟩
  ·have:=g.wr b hb;have:=rowLt g.rts hb;exact .inr ⟨by omega,by omega⟩
  ·have:=g.wo b hb;have:=rowLt g.out hb;exact .inr ⟨by omega,by omega⟩
  ·have hb':b=B1:=hb
   subst hb'
   have:=lt_of_block hdc.blk
   exact .inr ⟨by omega,by omega⟩
  ·exact .inl (.inr (.inr (.inr (.inr (.inr (.inl hb))))))
  ·have:=hv2 b hb;have:=rowLt hdc.row hb;exact .inr ⟨by omega,by omega⟩
  ·exact .inl (.inr (.inr (.inr (.inr (.inr (.inr (.inr (.inl hb))))))))
  ·have:=g.wl y hy b hb;have:=rowLt (g.ln y hy) hb;exact .inr ⟨by omega,by omega⟩
  ·exact .inl (.inr (.inr (.inr (.inr (.inr (.inr (.inr (.inr (.inr ⟨y,hy,hb⟩)))))))))
 have haf:∀b,AcF B ({ x with vl:=v2,bl:=B1,vp:=vp,vr:=vr,vn:=vn,va:=va,P:=P }:AcV) b→AcF B x b∨M≤b:=by
  rintro b (hb|hb|hb)
  ·exact .inl (.inl hb)
  ·exact .inl (.inr (.inl hb))
  ·exact(hva b hb).imp (fun e=> .inr (.inr e)) id
 obtain⟨h1,h2⟩:=AcAt.build (x':={ x with vl:=v2,bl:=B1,vp:=vp,vr:=vr,vn:=vn,va:=va,P:=P }) (a':={ a with L:=L1,s:=Z.1,adj:=a.adj++r2,seq:=a.seq+1 }) h M (by omega) ((hkc.mono (by simp)).trans (hK.mono fun i _ e=> .inl (e.imp id .inr))) rfl rfl hb
  (hdc.keepS hK (nwo B1 hB1) (fun b hb=>hold b (.inr (.inr (.inr (.inr (.inr (.inl hb))))))) (fun b hb=>nwo b (hv2 b hb)))
  (hA.bk.keeps hK fun b hb=>hold b (.inr (.inr (.inr (.inr (.inr (.inr (.inr (.inl hb)))))))))
  (by rw [show Z.1.p.bal.length=n from g.nb];exact hK.row g.bal fun b hb=>nw b (g.wb b hb)) (by rw [show Z.1.R.length=n from g.nr];exact hK.row g.rts fun b hb=>nw b (g.wr b hb)) (hK.row g.out fun b hb=>nw b (g.wo b hb)) (fun y hy=>hK.row (g.ln y hy) fun b hb=>nw b (g.wl y hy b hb)) g.lp
  (hK.row hA.iss fun b hb=>h.si b hb) (fun y hy=>hK.row (hA.iln y hy) fun b hb=>hold b (.inr (.inr (.inr (.inr (.inr (.inr (.inr (.inr (.inr ⟨y,hy,hb⟩)))))))))) hA.is hra hok hrd haf
 exact⟨_,h1,(hkc.mono (by simp)).trans (hK.mono fun i _ e=> .inl (e.imp id .inr)),h2⟩
theorem accCount_any(B:Nat)(x:AcV)(a:Ac)(e:Ev)(w:World)(h:AcAt w B x a)(hs:a.seq≤100000):Calls Tryz.prog 65 #[(.pointer (some ⟨B,0,none⟩)),.agg #[.int .i64 e.kind,.int .i64 e.day,.int .i64 e.tranche,.int .i64 e.amount,.int .i64 e.ref]] w fun r w'=>r= .returned (.int .i64 (a.ce e))∧AcPost w B x (a.count e) w':=by
 obtain⟨i0,hi,hi0,hi1,hi2⟩:=info_parts info_tAdjust
 have hn:=h.ok.nums
 have hfk:=fun W (hW:Keeps (fun _=>False) w W)=>datFork_any x.bl a.t x.vtl x.vl a.L W (h.dl.keep hW) (by have:=hn.ll;omega)
 obtain⟨W0,hW0⟩:∃x,x=w.alloc (.cells #[.int .i64 e.kind,.int .i64 e.day,.int .i64 e.tranche,.int .i64 e.amount,.int .i64 e.ref] 77):=⟨_,rfl⟩
 have hb0:W0.heap[w.heap.size]?=some (.cells #[.int .i64 e.kind,.int .i64 e.day,.int .i64 e.tranche,.int .i64 e.amount,.int .i64 e.ref] 77 (0,0)):=by rw [hW0];exact heap_alloc_new w _
 have hk0:Keeps (fun _=>False) w W0:=by rw [hW0];exact Keeps.alloc _ _
 have c9:w.cell? ⟨B,9,none⟩=some (.pointer (some ⟨x.bl,0,none⟩)):=Aa h.blk 9
 have HBl:=Lib.hid (lt_of_block h.blk)
 have hbl:=lt_of_block h.blk
 obtain⟨H,Hn,Hfk,Hb0,Hk0,Hi,Hi0,Hi1,Hi2⟩:=hid9 h hn hfk hb0 hk0 hi hi0 hi1 hi2;clear hi2 hi1 hi0 hi hk0 hb0 hfk hn h
 go_enter Tryz.func65,Tryz.ntmps65
 go_wp2_with fail
 rw [←hW0]
 clear hW0
 refine(Hfk.out _ Hk0.out).mono ?_
 intro r w1 hf1
 obtain⟨B1,v1,rfl,hdl1,hk1,hB1,hv1⟩:=hf1
 have hb1:=Ad Hb0.out hk1 (by simp)
 have hkw1:=Hk0.out.nt hk1
 have hsz0:=Hk0.out.size
 have e0:=Aa hb1 0
 have e1:=Aa hb1 1
 have e2:=Aa hb1 2
 have e3:=Aa hb1 3
 have e4:=Aa hb1 4
 have el:=lt_of_block hb1
 have had:=datAdd_any B1 a.t x.vtl v1 a.L e w1 hdl1 (by have:=Hn.out.ll;omega) (by have:=Hn.out.n8;omega)
 simp only [Ev.agg] at had
 obtain⟨Hdl1,Hk1,Hb1,Hkw1,Had,HB1,Hv1⟩:=hid7 hdl1 hk1 hb1 hkw1 had hB1 hv1;clear hv1 hB1 had hkw1 hb1 hk1 hdl1
 clear c9
 go_wp2_with fail
 refine Had.out.mono ?_
 intro r w2 hpo
 obtain⟨rfl,v2,hdl2,hk2,hf2⟩:=hpo
 obtain⟨z,hz⟩:∃z,addErr a.t a.L e=z:=⟨_,rfl⟩
 rw [hz]
 have hkw2:Keeps (fun _=>False) w w2:=Hkw1.out.trans (hk2.mono fun i _ e=> .inr (by
  rcases e with e|e
  ·have e':i=B1:=e;have:=HB1.out;omega
  ·have:=Hv1.out i e;omega))
 clear e0 e1 e2 e3 e4 el
 by_cases h0:z=0
 ·subst h0
  have hdl2':DL w2 B1 a.t x.vtl (putL a.L e) v2:=by unfold addL at hdl2;rw [if_pos hz] at hdl2;exact hdl2
  obtain⟨L1,hL1⟩:∃L,putL a.L e=L:=⟨_,rfl⟩
  rw [hL1] at hdl2'
  have hL1l:L1.length≤3000:=by rw [←hL1,putL_length];have:=Hn.out.ll;omega
  obtain⟨n,hN⟩:∃n,a.t.trs.length=n:=⟨_,rfl⟩
  obtain⟨Z,hZ⟩:∃Z,walkR a.t L1 a.today=Z:=⟨_,rfl⟩
  obtain⟨adt,ct,hvt,_,_⟩:=Aj H.out.trs
  have hrt:=Reads.Bh H.out.trs
  rw [hN] at hvt hrt
  obtain⟨t,ht⟩:∃t,a.t=t:=⟨_,rfl⟩
  obtain⟨td,htd⟩:∃d,a.today=d:=⟨_,rfl⟩
  rw [ht,htd] at hZ
  rw [ht] at hdl2' hN hrt
  rw [hvt] at hrt
  have hall:=fun W (hW:Keeps (fun _=>False) w2 W)=>datAll_any B1 t x.vtl v2 L1 W (hdl2'.keep hW) (by omega)
  have hrun:=fun W (hW:Keeps (fun _=>False) w2 W) ad c (hr:Reads W 5 (.slice ad L1.length c) L1.length (L1.flatMap Ev.cells))=>repRun_any t adt ct n L1 ad c L1.length td W hN (hrt.keeps (hkw2.nt hW) (by simp)) rfl hr (by omega) (by have:=Hn.out.n8;rw [ht,hN] at this;omega)
  rw [hZ] at hrun
  have hSk:∀W,Keeps (fun _=>False) w2 W→acT B t (.slice adt n ct) td W:=fun W hW=>by have:=acT.of (H.out.keep0 (hkw2.nt hW));rw [ht,htd,hvt] at this;exact this
  obtain⟨W2,hW2⟩:∃W,W=w2:=⟨_,rfl⟩
  subst hW2
  have HBl2:=Lib.hid (Nat.lt_of_lt_of_le HBl.out hkw2.size)
  clear HBl
  have HBl:=HBl2
  clear HBl2
  obtain⟨Hz,Hdl2,Hk2,Hf2,Hkw2,Hdl2',HL1,HL1l,HN⟩:=hid9 hz hdl2 hk2 hf2 hkw2 hdl2' hL1 hL1l hN;clear hN hL1l hL1 hdl2' hkw2 hf2 hk2 hdl2 hz;obtain⟨HZ,Hvt,Hrt,Ht,Htd,Hall,Hrun,HSk⟩:=hid8 hZ hvt hrt ht htd hall hrun hSk;clear hSk hrun hall htd ht hrt hvt hZ
  go_upto_region 5 with fail
  go_cut [7,8,9,10] (fun p r q z wx=>CnRun W2 n Z p r q z wx)
  case first=>
   refine Ao (acT B t (.slice adt n ct) td) (.take 0 (.take 1 (.take 2 (.take 3 (.take 4 (.take 6 (.take 7 (.take 8 (.take 9 (.fork 5 (.fork 10 (.take 11 (.take 12 (.take 13 (.take 14 (.take 15 (.move 16 (.move 17 (.take 18 (.take 19 (.take 20 .done)))))))))) 16 (.move 10 (.take 11 (.take 12 (.take 13 (.take 14 (.take 15 (.move 17 (.take 18 (.take 19 (.take 20 .done))))))))))) 16 (.move 5 (.move 10 (.take 11 (.take 12 (.take 13 (.take 14 (.take 15 (.move 17 (.take 18 (.take 19 (.take 20 .done))))))))))))))))))))) (by kernel_rfl) (by kernel_rfl) ?_ ?_
   ·exact HSk.out _ (Keeps.drew _)
   intro w3 hs3 hk3
   repeat ((first|refine Ai rfl (by rfl) ?_|refine Af rfl (by rfl) ?_|(refine Ah (v:= ?_) rfl (by rfl) ?_ ?_;rotate_left;(· intro w' hSw;unfold acT tbS at hSw;go_simp;(try with_reducible rfl));rotate_right));try simp only [aps])
   refine Cv ?_ ?_ (HSk.out _ hk3)
   ·skip
    refine Ak rfl (fun K hK=> ?_)
    go_simp
    go_at_call 53
    ((with_reducible refine(Hall.out w3 hk3).mono ?_);rintro e w4 hg)
    obtain⟨v',rfl,hrd,hkg,hng⟩:=hg
    obtain⟨ae,ce,rfl,_⟩:=id hrd
    dsimp only
    have hkn:Keeps (fun _=>False) W2 w4:=Keeps.nt hk3 hkg
    refine hK.out _ _ (by exact HSk.out _ hkn) ?_
    clear hK K
    try simp only [aps]
    repeat ((first|refine Ai rfl (by rfl) ?_|refine Af rfl (by rfl) ?_|(refine Ah (v:= ?_) rfl (by rfl) ?_ ?_;rotate_left;(· intro w' hSw;unfold acT tbS at hSw;go_simp;(try with_reducible rfl));rotate_right));try simp only [aps])
    refine Cv ?_ ?_ (HSk.out _ hkn)
    ·skip
     refine Ak rfl (fun K hK=> ?_)
     go_simp
     go_at_call 37
     ((with_reducible refine(Hrun.out w4 hkn ae ce hrd).mono ?_);intro e w5 hpo)
     obtain⟨vb2,cr2,du2,vr2,vo2,z2,rfl,hi2,hk7,a2,n2,c2,rfl⟩:=run_is hpo
     clear hpo
     dsimp only
     have hkr:Keeps (fun _=>False) W2 w5:=Keeps.nt hkn hk7
     refine hK.out _ _ (by exact HSk.out _ hkr) ?_
     clear hK K
     try simp only [aps]
     repeat ((first|refine Ai rfl (by rfl) ?_|refine Af rfl (by rfl) ?_|(refine Ah (v:= ?_) rfl (by rfl) ?_ ?_;rotate_left;(· intro w' hSw;unfold acT tbS at hSw;go_simp;(try with_reducible rfl));rotate_right));try simp only [aps])
     obtain⟨w8,hw8⟩:∃x,x=(w5).alloc (.cells #[.slice none 0 0,.int .i64 0,.int .i64 0] 34):=⟨_,rfl⟩
     obtain⟨b7,hb7⟩:∃x,x=(w5).heap.size:=⟨_,rfl⟩
     have hkA:Keeps (fun _=>False) w5 w8:=by rw [hw8];exact Keeps.alloc _ _
     have hz8:(w8).heap[b7]?=some (.cells #[.slice none 0 0,.int .i64 0,.int .i64 0] 34 (0,0)):=by rw [hw8,hb7];exact heap_alloc_new _ _
     have hb7l:W2.heap.size≤b7:=by rw [hb7];exact(hkr).size
     have hka8:Keeps (fun _=>False) W2 w8:=Keeps.nt hkr hkA
     have hb7B:¬B=b7:=fun e=>by have:=HBl.out;omega
     have hb7w:(w5).heap.size≤b7:=by rw [hb7];exact Nat.le_refl _
     refine Ak rfl (fun K hK=> ?_)
     go_simp
     rw [←hw8,←hb7]
     clear hw8 hb7
     refine hK.out _ _ (by exact HSk.out _ hka8) ?_
     clear hK K
     try simp only [aps]
     repeat ((first|refine Ai rfl (by rfl) ?_|refine Af rfl (by rfl) ?_|(refine Ah (v:= ?_) rfl (by rfl) ?_ ?_;rotate_left;(· intro w' hSw;unfold acT tbS at hSw;go_simp;(try with_reducible rfl));rotate_right));try simp only [aps])
     have hlz:=lt_of_block hz8
     have z0:=Aa hz8 0
     have z1:=Aa hz8 1
     have z2':=Aa hz8 2
     have zf0:=Ab hz8 0
     have zf1:=Ab hz8 1
     have zf2:=Ab hz8 2
     obtain⟨hbz,hkz⟩:=store3 hz8 (.slice a2 n2 c2) (.int .i64 cr2) (.int .i64 du2)
     have hk4z:Keeps (fun _=>False) W2 ((((w8).setCell ⟨b7,0,none⟩ (.slice a2 n2 c2)).setCell ⟨b7,1,none⟩ (.int .i64 cr2)).setCell ⟨b7,2,none⟩ (.int .i64 du2)):=Keeps.trans hka8 (hkz.mono fun i _ e=> .inr (by have e':i=b7:=e;omega))
     have hrel:CnRun W2 n Z (.pointer (some ⟨b7,0,none⟩)) vr2 vo2 (.int .i64 z2) ((((w8).setCell ⟨b7,0,none⟩ (.slice a2 n2 c2)).setCell ⟨b7,1,none⟩ (.int .i64 cr2)).setCell ⟨b7,2,none⟩ (.int .i64 du2)):=⟨b7,_,_,_,cr2,du2,z2,rfl,rfl,rfl,rfl,hb7l,hk4z,hbz,((hi2.up hkn).keep (hkA.trans (hkz.mono fun i _ e=> .inr (by have e':i=b7:=e;omega)))),_,_,_,rfl⟩
     exact jZ12
    ·skip
     obtain⟨w8,hw8⟩:∃x,x=(w4).alloc (.cells #[.slice none 0 0,.int .i64 0,.int .i64 0] 34):=⟨_,rfl⟩
     obtain⟨b7,hb7⟩:∃x,x=(w4).heap.size:=⟨_,rfl⟩
     have hkA:Keeps (fun _=>False) w4 w8:=by rw [hw8];exact Keeps.alloc _ _
     have hz8:(w8).heap[b7]?=some (.cells #[.slice none 0 0,.int .i64 0,.int .i64 0] 34 (0,0)):=by rw [hw8,hb7];exact heap_alloc_new _ _
     have hb7l:W2.heap.size≤b7:=by rw [hb7];exact(hkn).size
     have hka8:Keeps (fun _=>False) W2 w8:=Keeps.nt hkn hkA
     have hb7B:¬B=b7:=fun e=>by have:=HBl.out;omega
     have hb7w:(w4).heap.size≤b7:=by rw [hb7];exact Nat.le_refl _
     refine Ak rfl (fun K hK=> ?_)
     go_simp
     rw [←hw8,←hb7]
     clear hw8 hb7
     refine hK.out _ _ (by exact HSk.out _ hka8) ?_
     clear hK K
     try simp only [aps]
     repeat ((first|refine Ai rfl (by rfl) ?_|refine Af rfl (by rfl) ?_|(refine Ah (v:= ?_) rfl (by rfl) ?_ ?_;rotate_left;(· intro w' hSw;unfold acT tbS at hSw;go_simp;(try with_reducible rfl));rotate_right));try simp only [aps])
     have hrd8:=hrd.keeps hkA (by simp)
     refine Ak rfl (fun K hK=> ?_)
     go_simp
     go_at_call 37
     ((with_reducible refine(Hrun.out w8 hka8 ae ce hrd8).mono ?_);intro e w5 hpo)
     obtain⟨vb2,cr2,du2,vr2,vo2,z2,rfl,hi2,hk7,a2,n2,c2,rfl⟩:=run_is hpo
     clear hpo
     dsimp only
     have hkr:Keeps (fun _=>False) W2 w5:=Keeps.nt hka8 hk7
     refine hK.out _ _ (by exact HSk.out _ hkr) ?_
     clear hK K
     try simp only [aps]
     have hz5:=Ad hz8 hk7 (by simp)
     have hl8:=lt_of_block hz8
     repeat ((first|refine Ai rfl (by rfl) ?_|refine Af rfl (by rfl) ?_|(refine Ah (v:= ?_) rfl (by rfl) ?_ ?_;rotate_left;(· intro w' hSw;unfold acT tbS at hSw;go_simp;(try with_reducible rfl));rotate_right));try simp only [aps])
     have hlz:=lt_of_block hz5
     have z0:=Aa hz5 0
     have z1:=Aa hz5 1
     have z2':=Aa hz5 2
     have zf0:=Ab hz5 0
     have zf1:=Ab hz5 1
     have zf2:=Ab hz5 2
     obtain⟨hbz,hkz⟩:=store3 hz5 (.slice a2 n2 c2) (.int .i64 cr2) (.int .i64 du2)
     have hk4z:Keeps (fun _=>False) W2 ((((w5).setCell ⟨b7,0,none⟩ (.slice a2 n2 c2)).setCell ⟨b7,1,none⟩ (.int .i64 cr2)).setCell ⟨b7,2,none⟩ (.int .i64 du2)):=Keeps.trans hkr (hkz.mono fun i _ e=> .inr (by have e':i=b7:=e;omega))
     have hrel:CnRun W2 n Z (.pointer (some ⟨b7,0,none⟩)) vr2 vo2 (.int .i64 z2) ((((w5).setCell ⟨b7,0,none⟩ (.slice a2 n2 c2)).setCell ⟨b7,1,none⟩ (.int .i64 cr2)).setCell ⟨b7,2,none⟩ (.int .i64 du2)):=⟨b7,_,_,_,cr2,du2,z2,rfl,rfl,rfl,rfl,hb7l,hk4z,hbz,(hi2.lift hkz hl8 hka8 hb7l),_,_,_,rfl⟩
     exact jZ12
   ·skip
    obtain⟨w8,hw8⟩:∃x,x=(w3).alloc (.cells #[.slice none 0 0,.int .i64 0,.int .i64 0] 34):=⟨_,rfl⟩
    obtain⟨b7,hb7⟩:∃x,x=(w3).heap.size:=⟨_,rfl⟩
    have hkA:Keeps (fun _=>False) w3 w8:=by rw [hw8];exact Keeps.alloc _ _
    have hz8:(w8).heap[b7]?=some (.cells #[.slice none 0 0,.int .i64 0,.int .i64 0] 34 (0,0)):=by rw [hw8,hb7];exact heap_alloc_new _ _
    have hb7l:W2.heap.size≤b7:=by rw [hb7];exact(hk3).size
    have hka8:Keeps (fun _=>False) W2 w8:=Keeps.nt hk3 hkA
    have hb7B:¬B=b7:=fun e=>by have:=HBl.out;omega
    have hb7w:(w3).heap.size≤b7:=by rw [hb7];exact Nat.le_refl _
    refine Ak rfl (fun K hK=> ?_)
    go_simp
    rw [←hw8,←hb7]
    clear hw8 hb7
    refine hK.out _ _ (by exact HSk.out _ hka8) ?_
    clear hK K
    try simp only [aps]
    repeat ((first|refine Ai rfl (by rfl) ?_|refine Af rfl (by rfl) ?_|(refine Ah (v:= ?_) rfl (by rfl) ?_ ?_;rotate_left;(· intro w' hSw;unfold acT tbS at hSw;go_simp;(try with_reducible rfl));rotate_right));try simp only [aps])
    refine Ak rfl (fun K hK=> ?_)
    go_simp
    go_at_call 53
    ((with_reducible refine(Hall.out w8 hka8).mono ?_);rintro e w4 hg)
    obtain⟨v',rfl,hrd,hkg,hng⟩:=hg
    obtain⟨ae,ce,rfl,_⟩:=id hrd
    dsimp only
    have hkn:Keeps (fun _=>False) W2 w4:=Keeps.nt hka8 hkg
    refine hK.out _ _ (by exact HSk.out _ hkn) ?_
    clear hK K
    try simp only [aps]
    have hz4:=Ad hz8 hkg (by simp)
    have hl4:=lt_of_block hz4
    repeat ((first|refine Ai rfl (by rfl) ?_|refine Af rfl (by rfl) ?_|(refine Ah (v:= ?_) rfl (by rfl) ?_ ?_;rotate_left;(· intro w' hSw;unfold acT tbS at hSw;go_simp;(try with_reducible rfl));rotate_right));try simp only [aps])
    refine Ak rfl (fun K hK=> ?_)
    go_simp
    go_at_call 37
    ((with_reducible refine(Hrun.out w4 hkn ae ce hrd).mono ?_);intro e w5 hpo)
    obtain⟨vb2,cr2,du2,vr2,vo2,z2,rfl,hi2,hk7,a2,n2,c2,rfl⟩:=run_is hpo
    clear hpo
    dsimp only
    have hkr:Keeps (fun _=>False) W2 w5:=Keeps.nt hkn hk7
    refine hK.out _ _ (by exact HSk.out _ hkr) ?_
    clear hK K
    try simp only [aps]
    have hz5:=Ad hz4 hk7 (by simp)
    repeat ((first|refine Ai rfl (by rfl) ?_|refine Af rfl (by rfl) ?_|(refine Ah (v:= ?_) rfl (by rfl) ?_ ?_;rotate_left;(· intro w' hSw;unfold acT tbS at hSw;go_simp;(try with_reducible rfl));rotate_right));try simp only [aps])
    have hlz:=lt_of_block hz5
    have z0:=Aa hz5 0
    have z1:=Aa hz5 1
    have z2':=Aa hz5 2
    have zf0:=Ab hz5 0
    have zf1:=Ab hz5 1
    have zf2:=Ab hz5 2
    obtain⟨hbz,hkz⟩:=store3 hz5 (.slice a2 n2 c2) (.int .i64 cr2) (.int .i64 du2)
    have hk4z:Keeps (fun _=>False) W2 ((((w5).setCell ⟨b7,0,none⟩ (.slice a2 n2 c2)).setCell ⟨b7,1,none⟩ (.int .i64 cr2)).setCell ⟨b7,2,none⟩ (.int .i64 du2)):=Keeps.trans hkr (hkz.mono fun i _ e=> .inr (by have e':i=b7:=e;omega))
    have hrel:CnRun W2 n Z (.pointer (some ⟨b7,0,none⟩)) vr2 vo2 (.int .i64 z2) ((((w5).setCell ⟨b7,0,none⟩ (.slice a2 n2 c2)).setCell ⟨b7,1,none⟩ (.int .i64 cr2)).setCell ⟨b7,2,none⟩ (.int .i64 du2)):=⟨b7,_,_,_,cr2,du2,z2,rfl,rfl,rfl,rfl,hb7l,hk4z,hbz,(hi2.lift hkz hl4 hkn hb7l),_,_,_,rfl⟩
    exact jZ12
  obtain⟨b7,vb,vr,vo,cr,du,zz,rfl,rfl,rfl,rfl,hb7,hk7,hbx7,hi7,av,mv,cv,rfl⟩:=hcut
  have hcz:a.cz e=Z:=by unfold Ac.cz;rw [HL1.out,Ht.out,Htd.out];exact HZ.out
  have hkw7:=Hkw2.out.nt hk7
  have hk7':=hk7
  cases hi7 with
  |bad hz7=>
   obtain⟨zz,hzz⟩:∃zz,Z.2=zz:=⟨_,rfl⟩
   rw [hzz] at hz7⊢
   have hne:(zz !=0)=true:=by simp [hz7]
   have hc:=ce_run Hz.out (by rw [hcz,hzz];exact hz7)
   rw [hcz,hzz] at hc
   have hend:=AcPost.same H.out hkw7
   obtain⟨Hzz,Hz7,Hc,Hend,Hkw7,Hcz,Hk7,Hk7',Hbx7⟩:=hid9 hzz hz7 hc hend hkw7 hcz hk7 hk7' hbx7;clear hbx7 hk7' hk7 hcz hkw7 hend hc hz7 hzz
   go_wp2
   go_ret
   exact⟨by rw [Hc.out.1];rfl,by rw [Hc.out.2];exact Hend.out⟩
  | @ok _ _ _ P hz7 g=>
   have hA:=H.out.keep0 hkw7
   obtain⟨adn,cn,hvn,hstm,hPl⟩:=hA.stmN
   obtain⟨ao,co,rfl,_,_⟩:=Aj g.out
   obtain⟨ar,cr2,rfl,_,_⟩:=Aj g.rts
   obtain⟨o1,o2,_,_⟩:=walkR_out HZ.out hz7
   have hPP:P.length≤300:=by rw [show P.length=Z.1.out.length from by rw [←g.lp,List.length_map]];exact o2
   have hll:∀y∈P,y.s.lines.length≤1000:=fun y hy=>by
    have h1:y.s∈Z.1.out:=by rw [←g.lp];exact List.mem_map.2 ⟨y,hy,rfl⟩
    have h2:=o1 _ h1
    have h3:=Hn.out.n8
    rw [Ht.out] at h3
    omega
   obtain⟨sq,hsq⟩:∃s,a.seq=s:=⟨_,rfl⟩
   have hs0:=H.out.ok.s0
   rw [hsq] at hs hs0
   obtain⟨rr,hrr⟩:∃r,betS (sq+1) a.s.out Z.1.out=r:=⟨_,rfl⟩
   have hcb:a.cb e=rr:=by unfold Ac.cb;rw [hcz,hsq];exact hrr
   have hbet:=fun W (hW:Keeps (fun _=>False) wc W)=>adjBetween_any (sq+1) adn ao cn co x.P P W (hstm.row.keeps hW (by simp)) ((Reads.Bh g.out).keeps hW (by simp)) (by omega) (by omega) (fun y hy=>⟨(hstm.ln y hy).keeps hW (by simp),hstm.ll y hy⟩) (fun y hy=>⟨(Reads.Bh (g.ln y hy)).keeps hW (by simp),hll y hy⟩) rr (by have:=betw_S (sq+1) x.P P;rw [hA.ns,g.lp,hrr] at this;exact this)
   have hcS:∀W,Keeps (fun _=>False) wc W→cbS B sq (.slice adn x.P.length cn) W:=fun W hW=>by
    have hA2:=hA.keep0 hW
    exact⟨by rw [←hsq];exact Aa hA2.blk 8,by rw [←hvn];exact Aa hA2.blk 15⟩
   have q4:IntKind.i64.wrap (sq+1)=sq+1:=IntWalk.i64_in _ ⟨by omega,by omega⟩
   obtain⟨r1,r2⟩:=rr
   have q5:(0:Int)≤sq+1:=by omega
   obtain⟨Hz7,Hcz,Hkw7,Hk7,Hk7',Hbx7,G,HA,Hvn⟩:=hid9 hz7 hcz hkw7 hk7 hk7' hbx7 g hA hvn;clear hvn hA g hbx7 hk7' hk7 hkw7 hcz hz7;obtain⟨Hstm,Hll,Hrr,Hcb,Hbet,HcS,Hsq,O1⟩:=hid8 hstm hll hrr hcb hbet hcS hsq o1;clear o1 hsq hcS hbet hcb hrr hll hstm
   go_upto_region 8 with fail
   refine Ao (cbS B sq (.slice adn x.P.length cn)) (.take 0 (.take 1 (.take 2 (.take 3 (.take 4 (.take 5 (.take 6 (.take 7 (.take 8 (.take 9 (.move 10 (.take 11 (.take 12 (.take 13 (.take 14 (.take 15 .done)))))))))))))))) (by kernel_rfl) (by kernel_rfl) ?_ ?_
   ·exact HcS.out _ (Keeps.drew _)
   intro w9 hs9 hk9
   repeat ((first|refine Ai rfl (by rfl) ?_|refine Af rfl (by rfl) ?_|(refine Ah (v:= ?_) rfl (by rfl) ?_ ?_;rotate_left;(· intro w' hSw;unfold cbS at hSw;go_simp;(try with_reducible rfl));rotate_right));try simp only [aps])
   refine Ak rfl (fun K hK=> ?_)
   go_simp
   go_at_call 94
   ((with_reducible refine(Hbet.out w9 hk9).mono ?_);rintro e w10 hg)
   obtain⟨va,rfl,hrowa,hfra⟩:=hg
   dsimp only
   have hk10:=Keeps.nt hk9 hfra.1
   refine hK.out _ _ (by exact HcS.out _ hk10) ?_
   clear hK K
   try simp only [aps]
   repeat ((first|refine Ai rfl (by rfl) ?_|refine Af rfl (by rfl) ?_|(refine Ah (v:= ?_) rfl (by rfl) ?_ ?_;rotate_left;(· intro w' hSw;unfold cbS at hSw;go_simp;(try with_reducible rfl));rotate_right));try simp only [aps])
   refine Aw ?_
   have hfa:∀b,va.ownBlock=some b→wc.heap.size≤b:=fun b hb=>by have:=hfra.2 b hb;have:=hk9.size;omega
   obtain⟨aa,ca,rfl,_,_⟩:=Aj hrowa
   clear hs9 hk9 hfra q4 q5
   simp only at hrowa hfa⊢
   by_cases h1:r1=0
   ·subst h1
    obtain⟨Hrowa,Hk10,Hfa⟩:=hid3 hrowa hk10 hfa;clear hfa hk10 hrowa
    go_upto_region 11 with fail
    have hA10:=HA.out.keep0 Hk10.out
    have hb10:=hA10.blk
    have hbx10:=Ad Hbx7.out Hk10.out (by simp)
    have hb7B:¬b7=B:=fun e=>by have:=HBl.out;omega
    have hS10:b7S b7 (.slice av mv cv) Z.1.p.cr Z.1.p.du w10:=⟨Aa hbx10 0,Aa hbx10 1,Aa hbx10 2⟩
    have hS0:=fun W (hW:Keeps (fun i=>i=B) w10 W)=>hS10.keep hW hb7B
    obtain⟨HA10,Hbx10,HS10,HS0⟩:=hid4 hA10 hbx10 hS10 hS0;clear hS0 hS10 hbx10 hA10
    refine Ao (b7S b7 (.slice av mv cv) Z.1.p.cr Z.1.p.du) (.take 0 (.take 1 (.take 2 (.take 3 (.take 4 (.take 5 (.take 6 (.take 7 (.take 8 (.take 9 (.move 10 (.take 11 (.take 12 (.move 13 (.take 14 (.take 15 (.move 16 (.take 17 (.take 18 (.move 19 .done)))))))))))))))))))) (by kernel_rfl) (by kernel_rfl) ?_ ?_
    ·exact HS0.out _ (Keeps.drew _)
    intro w11 hs11 hk11
    have hb11:=Ad hb10 hk11 (by simp)
    have k11:Keeps (fun i=>i=B) w10 w11:=hk11.mono (by simp)
    clear hs11 hk11 hb10
    repeat ((first|refine Ai rfl (by rfl) ?_|refine Af rfl (by rfl) ?_|(refine Ah (v:= ?_) rfl (by rfl) ?_ ?_;rotate_left;(· intro w' hSw;unfold b7S at hSw;go_simp;(try with_reducible rfl));rotate_right));try simp only [aps])
    obtain⟨oa,ca⟩:∃v,World.cell? w11 ⟨B,9,none⟩=some v:=⟨_,(Aa hb11 9).trans rfl⟩
    have fa:=Ab hb11 9
    have la:=lt_of_block hb11
    have hb12:=heap_setCell_same _ _ 9 _ _ (.pointer (some ⟨B1,0,none⟩)) hb11
    obtain⟨w12,hwb⟩:∃x,x=(w11).setCell ⟨B,9,none⟩ (.pointer (some ⟨B1,0,none⟩)):=⟨_,rfl⟩
    have hkb:Keeps (fun i=>i=B) w11 w12:=by rw [hwb];exact(Keeps.refl _ _).setB _ _
    refine Ak rfl (fun K hK=> ?_)
    go_simp
    rw [←hwb] at⊢hb12
    clear hwb ca fa la
    have k12:=k11.trans (hkb.mono fun _ _ e=> .inl e)
    clear hkb
    refine hK.out _ _ (by exact HS0.out _ k12) ?_
    clear hK K
    try simp only [aps]
    repeat ((first|refine Ai rfl (by rfl) ?_|refine Af rfl (by rfl) ?_|(refine Ah (v:= ?_) rfl (by rfl) ?_ ?_;rotate_left;(· intro w' hSw;unfold b7S at hSw;go_simp;(try with_reducible rfl));rotate_right));try simp only [aps])
    obtain⟨oca,ca⟩:∃v,World.cell? w12 ⟨B,11,none⟩=some v:=⟨_,(Aa hb12 11).trans rfl⟩
    obtain⟨ocb,cb⟩:∃v,World.cell? w12 ⟨B,12,none⟩=some v:=⟨_,(Aa hb12 12).trans rfl⟩
    obtain⟨occ,cc⟩:∃v,World.cell? w12 ⟨B,13,none⟩=some v:=⟨_,(Aa hb12 13).trans rfl⟩
    have fa:=Ab hb12 11
    have fb:=Ab hb12 12
    have fc:=Ab hb12 13
    have la:=lt_of_block hb12
    have hbb0:=heap_setCell_same _ _ 11 _ _ (.slice av mv cv) hb12
    have hbb1:=heap_setCell_same _ _ 12 _ _ (.int .i64 Z.1.p.cr) hbb0
    have hb13:=heap_setCell_same _ _ 13 _ _ (.int .i64 Z.1.p.du) hbb1
    clear hbb0 hbb1
    obtain⟨w13,hwb⟩:∃x,x=(((w12).setCell ⟨B,11,none⟩ (.slice av mv cv)).setCell ⟨B,12,none⟩ (.int .i64 Z.1.p.cr)).setCell ⟨B,13,none⟩ (.int .i64 Z.1.p.du):=⟨_,rfl⟩
    have hkb:Keeps (fun i=>i=B) w12 w13:=by rw [hwb];exact(((Keeps.refl _ _).setB _ _).setB _ _).setB _ _
    refine Ak rfl (fun K hK=> ?_)
    go_simp
    rw [←hwb] at⊢hb13
    clear hwb ca fa la cb cc fb fc
    have k13:=k12.trans (hkb.mono fun _ _ e=> .inl e)
    clear hkb hb12 k12
    refine hK.out _ _ (by exact HS0.out _ k13) ?_
    clear hK K
    try simp only [aps]
    repeat ((first|refine Ai rfl (by rfl) ?_|refine Af rfl (by rfl) ?_|(refine Ah (v:= ?_) rfl (by rfl) ?_ ?_;rotate_left;(· intro w' hSw;unfold b7S at hSw;go_simp;(try with_reducible rfl));rotate_right));try simp only [aps])
    obtain⟨oa,ca⟩:∃v,World.cell? w13 ⟨B,14,none⟩=some v:=⟨_,(Aa hb13 14).trans rfl⟩
    have fa:=Ab hb13 14
    have la:=lt_of_block hb13
    have hb14:=heap_setCell_same _ _ 14 _ _ (.slice ar n cr2) hb13
    obtain⟨w14,hwb⟩:∃x,x=(w13).setCell ⟨B,14,none⟩ (.slice ar n cr2):=⟨_,rfl⟩
    have hkb:Keeps (fun i=>i=B) w13 w14:=by rw [hwb];exact(Keeps.refl _ _).setB _ _
    refine Ak rfl (fun K hK=> ?_)
    go_simp
    rw [←hwb] at⊢hb14
    clear hwb ca fa la
    have k14:=k13.trans (hkb.mono fun _ _ e=> .inl e)
    clear hkb hb13 k13
    refine hK.out _ _ (by exact HS0.out _ k14) ?_
    clear hK K
    try simp only [aps]
    repeat ((first|refine Ai rfl (by rfl) ?_|refine Af rfl (by rfl) ?_|(refine Ah (v:= ?_) rfl (by rfl) ?_ ?_;rotate_left;(· intro w' hSw;unfold b7S at hSw;go_simp;(try with_reducible rfl));rotate_right));try simp only [aps])
    obtain⟨oa,ca⟩:∃v,World.cell? w14 ⟨B,15,none⟩=some v:=⟨_,(Aa hb14 15).trans rfl⟩
    have fa:=Ab hb14 15
    have la:=lt_of_block hb14
    have hb15:=heap_setCell_same _ _ 15 _ _ (.slice ao P.length co) hb14
    obtain⟨w15,hwb⟩:∃x,x=(w14).setCell ⟨B,15,none⟩ (.slice ao P.length co):=⟨_,rfl⟩
    have hkb:Keeps (fun i=>i=B) w14 w15:=by rw [hwb];exact(Keeps.refl _ _).setB _ _
    refine Ak rfl (fun K hK=> ?_)
    go_simp
    rw [←hwb] at⊢hb15
    clear hwb ca fa la
    have k15:=k14.trans (hkb.mono fun _ _ e=> .inl e)
    clear hkb hb14 k14
    refine hK.out _ _ (by exact HS0.out _ k15) ?_
    clear hK K
    try simp only [aps]
    repeat ((first|refine Ai rfl (by rfl) ?_|refine Af rfl (by rfl) ?_|(refine Ah (v:= ?_) rfl (by rfl) ?_ ?_;rotate_left;(· intro w' hSw;unfold b7S at hSw;go_simp;(try with_reducible rfl));rotate_right));try simp only [aps])
    refine Aw ?_
    obtain⟨aj,cj,hvj,_,_⟩:=Aj HA10.out.adj
    obtain⟨nj,hnj⟩:∃n,a.adj.length=n:=⟨_,rfl⟩
    obtain⟨mj,hmj⟩:∃n,r2.length=n:=⟨_,rfl⟩
    have hnjl:nj≤30100000000:=by have:=H.out.ok.aj;rw [hnj,Hsq.out] at this;omega
    have hmjl:mj≤300300:=by
     have:=betS_le (seq:=sq+1) (L:=a.s.out) (M:=Z.1.out) fun y hy=>by have:=Hn.out.ol y hy;have:=Hn.out.n8;omega
     rw [Hrr.out] at this
     have:=Hn.out.o3
     simp only at *
     omega
    have hsaw:=HA10.out.sa
    have hrowj:=k15.row HA10.out.adj fun b hb e=>hsaw b hb e
    have hrown:=Reads.Bh (k15.row Hrowa.out fun b hb e=>by have h1:=Hfa.out b hb;have h2:=lt_of_block HA.out.blk;have e':b=B:=e;omega)
    rw [hnj] at hvj
    rw [hvj,hnj] at hrowj
    rw [hmj] at hrown⊢
    have hb15':w15.heap[B]?=some (.cells #[.int .i64 a.t.limit,x.vt,.int .i64 a.t.cyc,.int .i64 a.t.due,.int .i64 a.t.minFixed,.int .i64 a.t.minPart,.int .i64 a.t.start,.int .i64 a.today,.int .i64 sq,(.pointer (some ⟨B1,0,none⟩)),(.pointer (some ⟨x.bb,0,none⟩)),.slice av mv cv,.int .i64 Z.1.p.cr,.int .i64 Z.1.p.du,.slice ar n cr2,.slice ao P.length co,x.vi,.slice aj nj cj] 89 (0,0)):=by rw [←hvj,←Hsq.out];exact hb15
    have c17:w15.cell? ⟨B,17,none⟩=some (.slice aj nj cj):=Aa hb15' 17
    have hl15:=lt_of_block hb15'
    have hone:=Adj.one r2
    have hM15:wc.heap.size≤w15.heap.size:=Nat.le_trans Hk10.out.size k15.size
    obtain⟨Hb15,Hb15',Hrowj,Hrown,Hone,Hvj,Hnj,Hmj,K15⟩:=hid9 hb15 hb15' hrowj hrown hone hvj hnj hmj k15;clear k15 hmj hnj hvj hone hrown hrowj hb15' hb15;obtain⟨Hsaw,HM15,Hb11⟩:=hid3 hsaw hM15 hb11;clear hb11 hM15 hsaw
    clear k11
    go_wp2_with (at_builtin;refine Ba rfl (.tmp 79) (.tmp 80) 66 rfl 0 70 i0 _ 9 72 Tryz.underlying66 Hi.out Hi0.out Hi1.out Hi2.out rfl (by decide) (.slice aj nj cj) nj _ rfl Hrowj.out _ mj _ rfl Hrown.out Hone.out (by unfold maxLen;omega) (by omega) (Nat.zero_le _) ?_)
    intro v6 w16 hrow6 hk6 hf6
    obtain⟨a6,c6,rfl,_,_⟩:=Aj hrow6
    have hb16:=Ad Hb15'.out hk6 (fun e=>Hsaw.out B (by rw [Hvj.out];exact e) rfl)
    have d17:=Aa hb16 17
    have d8:=Aa hb16 8
    have f17:=Ab hb16 17
    have f8:=Ab hb16 8
    have hl16:=lt_of_block hb16
    have hbf1:=heap_setCell_same _ _ 17 _ _ (.slice a6 (nj+mj) c6) hb16
    have hbf:=(heap_setCell_same _ _ 8 _ _ (.int .i64 (sq+1)) hbf1).trans rfl
    obtain⟨Wf,hWf⟩:∃W,W=(w16.setCell ⟨B,17,none⟩ (.slice a6 (nj+mj) c6)).setCell ⟨B,8,none⟩ (.int .i64 (sq+1)):=⟨_,rfl⟩
    have kf:Keeps (fun i=>i=B) w16 Wf:=by rw [hWf];exact((Keeps.refl _ _).setB _ _).setB _ _
    rw [←hWf] at hbf
    have hK:Keeps (fun i=>i=B∨x.va.ownBlock=some i) wc Wf:=(((Hk10.out.mono (by simp)).trans (K15.out.mono fun _ _ e=> .inl (.inl e))).trans (hk6.mono fun i _ e=> .inl (.inr (by rw [Hvj.out];exact e)))).trans (kf.mono fun _ _ e=> .inl (.inl e))
    have hva6:∀b,(Value.slice a6 (nj+mj) c6).ownBlock=some b→x.va.ownBlock=some b∨w15.heap.size≤b:=fun b hb=>by
     rcases hf6 with h1|⟨g',h1,h2⟩
     ·rw [h1] at hb;exact .inl (by rw [Hvj.out];exact hb)
     ·rw [h1] at hb;simp only [Option.some.injEq] at hb;exact .inr (by omega)
    have hra:=kf.row hrow6 (fun b hb e=>by
     have e':b=B:=e
     rcases hva6 b hb with h1|h1
     ·exact Hsaw.out b h1 e'
     ·omega)
    have hra':Wf.ownsRow 0 70 9 (.slice a6 (nj+mj) c6) (a.adj++r2).length ((a.adj++r2).flatMap Adj.cells):=by
     rw [List.length_append,Hnj.out,Hmj.out,List.flatMap_append]
     exact hra
    have hpost:=AcAt.counted H.out Hkw7.out Hkw2.out Hk7'.out hK (by rw [Ht.out];exact Hdl2'.out) (by have:=HB1.out;omega) (fun b hb=>by
     rcases Hf2.out with h1|⟨g',h1,h2⟩
     ·rw [h1] at hb;have:=Hv1.out b hb;omega
     ·rw [h1] at hb;simp only [Option.some.injEq] at hb;have:=Hkw1.out.size;omega) (by rw [Ht.out];exact HN.out) (by rw [Ht.out,Htd.out];exact HZ.out) Hz7.out G.out (by rw [Hsq.out];exact Hrr.out) (by rw [Hsq.out];exact hbf) hra' HM15.out hva6
    have hc:=ce_good Hz.out (by rw [Hcz.out];exact Hz7.out) (by rw [Hcb.out])
    rw [HL1.out,Hcz.out,Hcb.out] at hc
    have q4:IntKind.i64.wrap (sq+1)=sq+1:=IntWalk.i64_in _ ⟨by omega,by omega⟩
    clear hbf1 hK hra hra' hva6
    obtain⟨Hrow6,Hk6,Hf6,Hb16,Hbf,Kf,Hpost,Hc⟩:=hid8 hrow6 hk6 hf6 hb16 hbf kf hpost hc;clear hc hpost kf hbf hb16 hf6 hk6 hrow6
    go_wp2_with fail
    rw [←hWf]
    go_ret
    exact⟨by rw [Hc.out.1];rfl,by rw [Hc.out.2];exact Hpost.out⟩
   ·have hne:(r1 !=0)=true:=by simp [h1]
    have hc:=ce_bad Hz.out (by rw [Hcz.out];exact Hz7.out) (by rw [Hcb.out];exact h1)
    rw [Hcb.out] at hc
    simp only at hc
    have hend:=AcPost.same H.out (Hkw7.out.nt hk10)
    obtain⟨Hrowa,Hk10,Hfa,H1,Hc,Hend⟩:=hid6 hrowa hk10 hfa h1 hc hend;clear hend hc h1 hfa hk10 hrowa
    go_wp2
    go_ret
    exact⟨by rw [Hc.out.1];rfl,by rw [Hc.out.2];exact Hend.out⟩
 ·have hne:(z !=0)=true:=by simp [h0]
  have hc:=ce_add (a:=a) (e:=e) (by rw [hz];exact h0)
  rw [hz] at hc
  have hend:=AcPost.same H.out hkw2
  obtain⟨Hz,Hdl2,Hk2,Hf2,Hkw2,H0,Hend,Hc⟩:=hid8 hz hdl2 hk2 hf2 hkw2 h0 hend hc;clear hc hend h0 hkw2 hf2 hk2 hdl2 hz
  go_wp2
  go_ret
  exact⟨by rw [Hc.out.1];rfl,by rw [Hc.out.2];exact Hend.out⟩
def Asks(B b:Nat)(v:Value)(c:Cmd)(w:World)(D:List Disp)(x:Ev)(z:Int)(F:FuncId):Prop:=Calls Tryz.prog F #[(.pointer (some ⟨B,0,none⟩)),.agg #[.int .i64 c.kind,.int .i64 c.day,.int .i64 c.tranche,.int .i64 c.amount,.int .i64 c.ref],(.pointer (some ⟨b,0,none⟩))] w (EvPost w b v D x z)
theorem accChange_any(B:Nat)(x:AcV)(a:Ac)(c:Cmd)(w:World)(h:AcAt w B x a)(hs:a.seq≤100000)(hk:1≤c.kind∧c.kind≤7):
  Calls Tryz.prog 41 #[(.pointer (some ⟨B,0,none⟩)),.agg #[.int .i64 c.kind,.int .i64 c.day,.int .i64 c.tranche,.int .i64 c.amount,.int .i64 c.ref]] w fun e w'=>e= .returned (.agg #[.int .i64 (a.xe c),.int .i64 (a.xr c),.int .i64 0,.int .i64 0,.int .i64 0,.slice none 0 0,.int .i64 0,.int .i64 0,.slice none 0 0,.slice none 0 0,.int .i64 0,.int .i64 0,.int .i64 0,.int .i64 0,.int .i64 0,.slice none 0 0,.int .i64 0,.int .i64 0,.int .i64 0,.bool false])∧AcPost w B x (a.chg c) w':=by
 obtain⟨ki,da,tr,am,re⟩:=c
 simp only at hk⊢
 have hfk:=fun(W:World) (hW:Keeps (fun _=>False) w W)=>dispFork_any a.D x.vb x.bb W ((h.keep0 hW).bk)
 obtain⟨W0,hW0⟩:∃x,x=(w.alloc (.cells #[.int .i64 ki,.int .i64 da,.int .i64 tr,.int .i64 am,.int .i64 re] 47)).alloc (.cells #[.int .i64 0,.int .i64 0,.int .i64 0,.int .i64 0,.int .i64 0,.slice none 0 0,.int .i64 0,.int .i64 0,.slice none 0 0,.slice none 0 0,.int .i64 0,.int .i64 0,.int .i64 0,.int .i64 0,.int .i64 0,.slice none 0 0,.int .i64 0,.int .i64 0,.int .i64 0,.bool false] 44):=⟨_,rfl⟩
 have hc0:W0.heap[w.heap.size]?=some (.cells #[.int .i64 ki,.int .i64 da,.int .i64 tr,.int .i64 am,.int .i64 re] 47 (0,0)):=by rw [hW0];exact Au (heap_alloc_new w _) _
 have hr0:W0.heap[w.heap.size+1]?=some (.cells #[.int .i64 0,.int .i64 0,.int .i64 0,.int .i64 0,.int .i64 0,.slice none 0 0,.int .i64 0,.int .i64 0,.slice none 0 0,.slice none 0 0,.int .i64 0,.int .i64 0,.int .i64 0,.int .i64 0,.int .i64 0,.slice none 0 0,.int .i64 0,.int .i64 0,.int .i64 0,.bool false] 44 (0,0)):=by rw [hW0];exact Ay _ _ (by simp)
 have hk0:Keeps (fun _=>False) w W0:=by rw [hW0];(repeat (first|exact Keeps.refl _ _|exact Keeps.alloc _ _|exact Keeps.drew _|exact Keeps.drewN _ _|refine Keeps.Ap ?_|refine Keeps.Al ?_|refine Keeps.Ae ?_))
 have hs0:w.heap.size+1<W0.heap.size:=lt_of_block hr0
 have hbl:=lt_of_block h.blk
 have c10:w.cell? ⟨B,10,none⟩=some (.pointer (some ⟨x.bb,0,none⟩)):=Aa h.blk 10
 obtain⟨H,Hfk,Hc0,Hr0,Hk0⟩:=hid5 h hfk hc0 hr0 hk0;clear hk0 hr0 hc0 hfk h
 go_enter Tryz.func41,Tryz.ntmps41
 go_wp2_with fail
 rw [←hW0]
 clear hW0 c10
 refine(Hfk.out W0 Hk0.out).mono ?_
 intro r w1 hf1
 obtain⟨b,v,rfl,hb,hk1,hft⟩:=hf1
 have hkw1:=Hk0.out.nt hk1
 have hA1:=H.out.keep0 hkw1
 have hftw:∀k,Foot b v k→w.heap.size≤k:=fun k hk=>by have:=hft k hk;have:=Hk0.out.size;omega
 have hsep:∀k,Foot b v k→¬(AcF B x k∨x.rd k):=fun k hk e=>by have:=hftw k hk;have:=H.out.lt k e;omega
 obtain⟨h5,h6⟩:=accAsk_any B x a ⟨ki,da,tr,am,re⟩ b v w1 hA1 hb hsep hk
 have hc1:=Ad Hc0.out hk1 (by simp)
 have hr1:=Ad Hr0.out hk1 (by simp)
 have c0:=Aa hc1 0
 have c1:=Aa hc1 1
 have c2:=Aa hc1 2
 have c3:=Aa hc1 3
 have c4:=Aa hc1 4
 have cl:=lt_of_block hc1
 obtain⟨D2,hD2⟩:∃D,a.xD ⟨ki,da,tr,am,re⟩=D:=⟨_,rfl⟩
 obtain⟨ev,hev⟩:∃e,a.xev ⟨ki,da,tr,am,re⟩=e:=⟨_,rfl⟩
 obtain⟨z,hz⟩:∃z,a.xz ⟨ki,da,tr,am,re⟩=z:=⟨_,rfl⟩
 rw [hD2,hev,hz] at h5 h6
 have hask:∃q:Bool,((ki==5)||(ki==6))=q∧((q=true∧Asks B b v ⟨ki,da,tr,am,re⟩ w1 D2 ev z 64)∨(q=false∧Asks B b v ⟨ki,da,tr,am,re⟩ w1 D2 ev z 63)):=by
  by_cases h56:ki=5∨ki=6
  ·exact⟨true,by simpa using h56,.inl ⟨rfl,h5 h56⟩⟩
  ·exact⟨false,by simpa using h56,.inr ⟨rfl,h6 h56⟩⟩
 obtain⟨q,hq,hask⟩:=hask
 clear h5 h6
 obtain⟨Hb,Hk1,Hkw1,HA1,Hft,Hftw,Hsep,Hc1,Hr1⟩:=hid9 hb hk1 hkw1 hA1 hft hftw hsep hc1 hr1;clear hr1 hc1 hsep hftw hft hA1 hkw1 hk1 hb;obtain⟨HD2,Hev,Hz,Hq,Hask,Hk⟩:=hid6 hD2 hev hz hq hask hk;clear hk hask hq hz hev hD2
 go_upto_region 3 with fail
 go_cut [23] (fun t wx=>t= .bool q∧wx=w1)
 case first=>
  by_cases k5:ki=5
  ·have k5':(ki==5)=true:=by simp [k5]
   have hq':q=true:=by rw [←Hq.out,k5'];rfl
   subst hq'
   clear k5
   go_wp2_with fail
   go_meet
   exact⟨rfl,rfl⟩
  ·have k5':(ki==5)=false:=by simp [k5]
   by_cases k6:ki=6
   ·have k6':(ki==6)=true:=by simp [k6]
    have hq':q=true:=by rw [←Hq.out,k6'];simp
    subst hq'
    clear k5 k6
    go_wp2_with fail
    go_meet
    exact⟨rfl,rfl⟩
   ·have k6':(ki==6)=false:=by simp [k6]
    have hq':q=false:=by rw [←Hq.out,k5',k6'];rfl
    subst hq'
    go_wp2_with fail
    go_meet
    exact⟨rfl,rfl⟩
 obtain⟨rfl,rfl⟩:=hcut
 go_upto_if 23 with fail
 go_cut [6] (fun p wx=>(∃F,p= .func (.func F) #[(.pointer (some ⟨B,0,none⟩))] #[]∧Asks B b v ⟨ki,da,tr,am,re⟩ wc D2 ev z F∧Enters Tryz.prog F)∧wx=wc)
 case first=>
  rcases Hask.out with⟨rfl,ha⟩|⟨rfl,ha⟩
  ·have Ha:=Lib.hid ha;clear ha
   go_wp2_with fail
   go_meet
   exact⟨⟨_,rfl,Ha.out,enters_of Tryz.func64 (by kernel_rfl) rfl⟩,rfl⟩
  ·have Ha:=Lib.hid ha;clear ha
   go_wp2_with fail
   go_meet
   exact⟨⟨_,rfl,Ha.out,enters_of Tryz.func63 (by kernel_rfl) rfl⟩,rfl⟩
 obtain⟨⟨F,rfl,hF,hEF⟩,hwc⟩:=hcut
 unfold Enters at hEF
 subst hwc
 unfold Asks at hF
 obtain⟨ek,ed,et,ea,er⟩:=ev
 simp only at hF
 have HF:=Lib.hid hF;clear hF
 go_wp2_with fail
 go_at_fn F
 refine HF.out.mono ?_
 rintro e w2 ⟨rfl,v2,hb2,hk2,hf2⟩
 obtain⟨W2,hW2⟩:∃x,x=w2.alloc (.cells #[.int .i64 ek,.int .i64 ed,.int .i64 et,.int .i64 ea,.int .i64 er] 77):=⟨_,rfl⟩
 have hkA:Keeps (fun _=>False) w2 W2:=by rw [hW2];exact Keeps.alloc _ _
 have hkw2:Keeps (fun _=>False) w W2:=Keeps.nt (Hkw1.out.trans (hk2.mono fun i _ e=> .inr (Hftw.out i e))) hkA
 have hb2':=hb2.keeps hkA (by simp)
 have hft2:∀k,Foot b v2 k→w.heap.size≤k:=fun k hk=>(hf2 k hk).elim (Hftw.out k) (fun e=>by have:=Hkw1.out.size;omega)
 have hA2:=H.out.keep0 hkw2
 have hx2:W2.heap[w2.heap.size]?=some (.cells #[.int .i64 ek,.int .i64 ed,.int .i64 et,.int .i64 ea,.int .i64 er] 77 (0,0)):=by rw [hW2];exact heap_alloc_new _ _
 obtain⟨E,hE⟩:∃x,x=w2.heap.size:=⟨_,rfl⟩
 have hEl:w.heap.size≤E:=by have:=Hkw1.out.size;have:=hk2.size;omega
 have hlt:=Hb.out.lt
 have hnC:¬Foot b v w.heap.size:=fun e=>by have:=Hft.out _ e;omega
 have hnR:¬Foot b v (w.heap.size+1):=fun e=>by have:=Hft.out _ e;omega
 have hc2:=Ad (Ad Hc1.out hk2 hnC) hkA (by simp)
 have hr2:=Ad (Ad Hr1.out hk2 hnR) hkA (by simp)
 rw [←hE] at hx2
 clear c0 c1 c2 c3 c4 cl hnC hnR hlt
 obtain⟨Hb2,Hk2,Hf2,HkA,Hkw2,Hb2',Hft2,HA2,Hx2⟩:=hid9 hb2 hk2 hf2 hkA hkw2 hb2' hft2 hA2 hx2;clear hx2 hA2 hft2 hb2' hkw2 hkA hf2 hk2 hb2;obtain⟨Hc2,Hr2⟩:=hid2 hc2 hr2;clear hr2 hc2
 go_upto_region 9 with fail
 rw [←hW2,←hE]
 clear hW2 hE
 by_cases hz0:z=0
 ·subst hz0
  have c0:=Aa Hc2.out 0
  have cl:=lt_of_block Hc2.out
  by_cases k6:ki=6
  ·subst k6
   have d8:W2.cell? ⟨B,8,none⟩=some (.int .i64 a.seq):=Aa HA2.out.blk 8
   have d10:W2.cell? ⟨B,10,none⟩=some (.pointer (some ⟨x.bb,0,none⟩)):=Aa HA2.out.blk 10
   have f8:=Ab HA2.out.blk 8
   have f10:=Ab HA2.out.blk 10
   have dl:=lt_of_block HA2.out.blk
   have nBC:¬B=w.heap.size:=fun e=>by omega
   have nCB:¬w.heap.size=B:=fun e=>by omega
   have hs0':=H.out.ok.s0
   obtain⟨W3,hW3⟩:∃x,x=W2.setCell ⟨B,8,none⟩ (.int .i64 (a.seq+1)):=⟨_,rfl⟩
   obtain⟨W4,hW4⟩:∃x,x=W3.setCell ⟨B,10,none⟩ (.pointer (some ⟨b,0,none⟩)):=⟨_,rfl⟩
   have hA3:=HA2.out.seq1 hW3
   have hp3:AcPost W2 B x { a with seq:=a.seq+1 } W3:=⟨x,hA3,by rw [hW3];exact(Keeps.setCell (S:=fun i=>i=B) _ _ _ rfl).mono fun i _ e=> .inl e,fun k hk=> .inl hk,fun k hk=> .inl hk⟩
   obtain⟨hR4,hfin⟩:=AcPost.fin (V:= #[.int .i64 0,.int .i64 0,.int .i64 0,.int .i64 0,.int .i64 0,.slice none 0 0,.int .i64 0,.int .i64 0,.slice none 0 0,.slice none 0 0,.int .i64 0,.int .i64 0,.int .i64 0,.int .i64 0,.int .i64 0,.slice none 0 0,.int .i64 0,.int .i64 0,.int .i64 0,.bool false]) H.out Hkw2.out hp3 Hb2'.out Hft2.out Hr2.out (Nat.le_succ _) hW4
   have hC4:W4.heap[w.heap.size]?=some (.cells #[.int .i64 6,.int .i64 da,.int .i64 tr,.int .i64 am,.int .i64 re] 47 (0,0)):=by
    rw [hW4]
    exact Ad (AcPost.box H.out hp3 Hc2.out (Nat.le_refl _)) (Keeps.setCell (S:=fun i=>i=B) _ _ _ rfl) nCB
   have hput:=setRow_heap W4 (w.heap.size+1) #[.int .i64 0,.int .i64 0,.int .i64 0,.int .i64 0,.int .i64 0,.slice none 0 0,.int .i64 0,.int .i64 0,.slice none 0 0,.slice none 0 0,.int .i64 0,.int .i64 0,.int .i64 0,.int .i64 0,.int .i64 0,.slice none 0 0,.int .i64 0,.int .i64 0,.int .i64 0,.bool false] #[.int .i64 0,.int .i64 0,.int .i64 0,.int .i64 0,.int .i64 0,.slice none 0 0,.int .i64 0,.int .i64 0,.slice none 0 0,.slice none 0 0,.int .i64 0,.int .i64 0,.int .i64 0,.int .i64 0,.int .i64 0,.slice none 0 0,.int .i64 0,.int .i64 0,.int .i64 0,.bool false] 44 _ hR4
   have hxe:=Ac.xe_won Hz.out rfl
   obtain⟨hch,hxr⟩:=Ac.chg_yes hxe
   have hnx:a.nx ⟨6,da,tr,am,re⟩={ a with seq:=a.seq+1 }:=by unfold Ac.nx;rw [if_pos rfl]
   rw [hnx,HD2.out] at hch
   obtain⟨sq,hsq⟩:∃s,a.seq=s:=⟨_,rfl⟩
   rw [hsq] at d8 hW3 hs hs0'
   have q2:IntKind.i64.wrap (sq+1)=sq+1:=IntWalk.i64_in _ ⟨by omega,by omega⟩
   obtain⟨HA3,Hp3,HR4,Hfin,HC4,Hput,Hxe,Hch,Hxr⟩:=hid9 hA3 hp3 hR4 hfin hC4 hput hxe hch hxr;clear hxr hch hxe hput hC4 hfin hR4 hp3 hA3;obtain⟨Hnx,Hsq⟩:=hid2 hnx hsq;clear hsq hnx
   go_upto_region 14 with fail
   rw [←hW3,←hW4]
   clear hW3 hW4 d8 d10 f8 f10 dl nBC nCB c0 cl
   have c0:=Aa HC4.out 0
   have cl:=lt_of_block HC4.out
   go_wp2_with (refine wpList_store_row rfl 44 (.tmp 4) (.tmp 66) rfl (w.heap.size+1) #[.int .i64 0,.int .i64 0,.int .i64 0,.int .i64 0,.int .i64 0,.slice none 0 0,.int .i64 0,.int .i64 0,.slice none 0 0,.slice none 0 0,.int .i64 0,.int .i64 0,.int .i64 0,.int .i64 0,.int .i64 0,.slice none 0 0,.int .i64 0,.int .i64 0,.int .i64 0,.bool false] rfl rfl 44 #[.int .i64 0,.int .i64 0,.int .i64 0,.int .i64 0,.int .i64 0,.slice none 0 0,.int .i64 0,.int .i64 0,.slice none 0 0,.slice none 0 0,.int .i64 0,.int .i64 0,.int .i64 0,.int .i64 0,.int .i64 0,.slice none 0 0,.int .i64 0,.int .i64 0,.int .i64 0,.bool false] HR4.out Ar rfl (Br _ _ _) ?_)
   exact bodyPost_ret (results_cell_row rfl _ _ (w.heap.size+1) 44 #[.int .i64 0,.int .i64 0,.int .i64 0,.int .i64 0,.int .i64 0,.slice none 0 0,.int .i64 0,.int .i64 0,.slice none 0 0,.slice none 0 0,.int .i64 0,.int .i64 0,.int .i64 0,.int .i64 0,.int .i64 0,.slice none 0 0,.int .i64 0,.int .i64 0,.int .i64 0,.bool false] _ _ rfl Hput.out Tryz.underlying44 rfl Ar) rfl ⟨by rw [Hxe.out,Hxr.out];rfl,by rw [Hch.out];exact Hfin.out⟩
  ·have k6':(ki==6)=false:=by simp [k6]
   have x0:=Aa Hx2.out 0
   have x1:=Aa Hx2.out 1
   have x2:=Aa Hx2.out 2
   have x3:=Aa Hx2.out 3
   have x4:=Aa Hx2.out 4
   have xl:=lt_of_block Hx2.out
   have hcnt:=accCount_any B x a ⟨ek,ed,et,ea,er⟩ W2 HA2.out hs
   simp only at hcnt
   obtain⟨ce,hce⟩:∃z,a.ce ⟨ek,ed,et,ea,er⟩=z:=⟨_,rfl⟩
   rw [hce] at hcnt
   have hxe:=Ac.xe_cnt Hz.out k6
   rw [Hev.out,hce] at hxe
   clear k6
   obtain⟨Hcnt,Hce,Hxe⟩:=hid3 hcnt hce hxe;clear hxe hce hcnt
   go_wp2_with fail
   refine Hcnt.out.mono ?_
   rintro e w3 ⟨rfl,hp⟩
   clear x0 x1 x2 x3 x4 xl c0 cl
   by_cases hce0:ce=0
   ·subst hce0
    have hC3:=AcPost.box H.out hp Hc2.out (Nat.le_refl _)
    have hE3:=AcPost.box H.out hp Hx2.out hEl
    have hd3:∃v,w3.cell? ⟨B,10,none⟩=some v∧w3.frozen? ⟨B,10,none⟩=false∧B<w3.heap.size:=by obtain⟨x',hA,_⟩:=hp;exact⟨_,(Aa hA.blk 10).trans rfl,Ab hA.blk 10,lt_of_block hA.blk⟩
    obtain⟨o10,d10,f10,dl⟩:=hd3
    obtain⟨W4,hW4⟩:∃x,x=w3.setCell ⟨B,10,none⟩ (.pointer (some ⟨b,0,none⟩)):=⟨_,rfl⟩
    have hk34:Keeps (fun i=>i=B) w3 W4:=by rw [hW4];exact Keeps.setCell _ _ _ rfl
    have hC4:=Ad hC3 hk34 (fun e=>by omega)
    have hE4:=Ad hE3 hk34 (fun e=>by omega)
    obtain⟨hch,hxr⟩:=Ac.chg_yes Hxe.out
    have hfinV:=fun V=>AcPost.fin (V:=V) H.out Hkw2.out hp Hb2'.out Hft2.out Hr2.out (Nat.le_succ _) hW4
    rw [HD2.out] at hch
    rw [Hev.out] at hxr
    have hnx:(¬ki=6)→a.nx ⟨ki,da,tr,am,re⟩=a.count ⟨ek,ed,et,ea,er⟩:=fun k=>by unfold Ac.nx;rw [if_neg k,Hev.out]
    rw [hnx (by simpa using k6')] at hch
    simp only at hxr
    clear hnx hp
    obtain⟨HC3,HE3,Hk34,HC4,HE4,Hch,Hxr,HfinV⟩:=hid8 hC3 hE3 hk34 hC4 hE4 hch hxr hfinV;clear hfinV hxr hch hE4 hC4 hk34 hE3 hC3
    go_upto_region 14 with fail
    rw [←hW4]
    clear hW4 d10 f10 dl
    have c0:=Aa HC4.out 0
    have cl:=lt_of_block HC4.out
    have e4:=Aa HE4.out 4
    have el:=lt_of_block HE4.out
    by_cases k4:ki=4
    ·subst k4
     rw [if_pos rfl] at Hxr
     obtain⟨hR4,hfin⟩:=HfinV.out #[.int .i64 0,.int .i64 er,.int .i64 0,.int .i64 0,.int .i64 0,.slice none 0 0,.int .i64 0,.int .i64 0,.slice none 0 0,.slice none 0 0,.int .i64 0,.int .i64 0,.int .i64 0,.int .i64 0,.int .i64 0,.slice none 0 0,.int .i64 0,.int .i64 0,.int .i64 0,.bool false]
     have hput:=setRow_heap W4 (w.heap.size+1) #[.int .i64 0,.int .i64 0,.int .i64 0,.int .i64 0,.int .i64 0,.slice none 0 0,.int .i64 0,.int .i64 0,.slice none 0 0,.slice none 0 0,.int .i64 0,.int .i64 0,.int .i64 0,.int .i64 0,.int .i64 0,.slice none 0 0,.int .i64 0,.int .i64 0,.int .i64 0,.bool false] #[.int .i64 0,.int .i64 er,.int .i64 0,.int .i64 0,.int .i64 0,.slice none 0 0,.int .i64 0,.int .i64 0,.slice none 0 0,.slice none 0 0,.int .i64 0,.int .i64 0,.int .i64 0,.int .i64 0,.int .i64 0,.slice none 0 0,.int .i64 0,.int .i64 0,.int .i64 0,.bool false] 44 _ hR4
     obtain⟨HR4,Hfin,Hput⟩:=hid3 hR4 hfin hput;clear hput hfin hR4
     go_wp2_with (refine wpList_store_row rfl 44 (.tmp 4) (.tmp 65) rfl (w.heap.size+1) #[.int .i64 0,.int .i64 er,.int .i64 0,.int .i64 0,.int .i64 0,.slice none 0 0,.int .i64 0,.int .i64 0,.slice none 0 0,.slice none 0 0,.int .i64 0,.int .i64 0,.int .i64 0,.int .i64 0,.int .i64 0,.slice none 0 0,.int .i64 0,.int .i64 0,.int .i64 0,.bool false] rfl rfl 44 #[.int .i64 0,.int .i64 0,.int .i64 0,.int .i64 0,.int .i64 0,.slice none 0 0,.int .i64 0,.int .i64 0,.slice none 0 0,.slice none 0 0,.int .i64 0,.int .i64 0,.int .i64 0,.int .i64 0,.int .i64 0,.slice none 0 0,.int .i64 0,.int .i64 0,.int .i64 0,.bool false] HR4.out Ar rfl (Br _ _ _) ?_)
     exact bodyPost_ret (results_cell_row rfl _ _ (w.heap.size+1) 44 #[.int .i64 0,.int .i64 er,.int .i64 0,.int .i64 0,.int .i64 0,.slice none 0 0,.int .i64 0,.int .i64 0,.slice none 0 0,.slice none 0 0,.int .i64 0,.int .i64 0,.int .i64 0,.int .i64 0,.int .i64 0,.slice none 0 0,.int .i64 0,.int .i64 0,.int .i64 0,.bool false] _ _ rfl Hput.out Tryz.underlying44 rfl Ar) rfl ⟨by rw [Hxe.out,Hxr.out],by rw [Hch.out];exact Hfin.out⟩
    ·have k4':(ki==4)=false:=by simp [k4]
     rw [if_neg k4] at Hxr
     obtain⟨hR4,hfin⟩:=HfinV.out #[.int .i64 0,.int .i64 0,.int .i64 0,.int .i64 0,.int .i64 0,.slice none 0 0,.int .i64 0,.int .i64 0,.slice none 0 0,.slice none 0 0,.int .i64 0,.int .i64 0,.int .i64 0,.int .i64 0,.int .i64 0,.slice none 0 0,.int .i64 0,.int .i64 0,.int .i64 0,.bool false]
     have hput:=setRow_heap W4 (w.heap.size+1) #[.int .i64 0,.int .i64 0,.int .i64 0,.int .i64 0,.int .i64 0,.slice none 0 0,.int .i64 0,.int .i64 0,.slice none 0 0,.slice none 0 0,.int .i64 0,.int .i64 0,.int .i64 0,.int .i64 0,.int .i64 0,.slice none 0 0,.int .i64 0,.int .i64 0,.int .i64 0,.bool false] #[.int .i64 0,.int .i64 0,.int .i64 0,.int .i64 0,.int .i64 0,.slice none 0 0,.int .i64 0,.int .i64 0,.slice none 0 0,.slice none 0 0,.int .i64 0,.int .i64 0,.int .i64 0,.int .i64 0,.int .i64 0,.slice none 0 0,.int .i64 0,.int .i64 0,.int .i64 0,.bool false] 44 _ hR4
     clear k4
     obtain⟨HR4,Hfin,Hput⟩:=hid3 hR4 hfin hput;clear hput hfin hR4
     go_wp2_with (refine wpList_store_row rfl 44 (.tmp 4) (.tmp 66) rfl (w.heap.size+1) #[.int .i64 0,.int .i64 0,.int .i64 0,.int .i64 0,.int .i64 0,.slice none 0 0,.int .i64 0,.int .i64 0,.slice none 0 0,.slice none 0 0,.int .i64 0,.int .i64 0,.int .i64 0,.int .i64 0,.int .i64 0,.slice none 0 0,.int .i64 0,.int .i64 0,.int .i64 0,.bool false] rfl rfl 44 #[.int .i64 0,.int .i64 0,.int .i64 0,.int .i64 0,.int .i64 0,.slice none 0 0,.int .i64 0,.int .i64 0,.slice none 0 0,.slice none 0 0,.int .i64 0,.int .i64 0,.int .i64 0,.int .i64 0,.int .i64 0,.slice none 0 0,.int .i64 0,.int .i64 0,.int .i64 0,.bool false] HR4.out Ar rfl (Br _ _ _) ?_)
     exact bodyPost_ret (results_cell_row rfl _ _ (w.heap.size+1) 44 #[.int .i64 0,.int .i64 0,.int .i64 0,.int .i64 0,.int .i64 0,.slice none 0 0,.int .i64 0,.int .i64 0,.slice none 0 0,.slice none 0 0,.int .i64 0,.int .i64 0,.int .i64 0,.int .i64 0,.int .i64 0,.slice none 0 0,.int .i64 0,.int .i64 0,.int .i64 0,.bool false] _ _ rfl Hput.out Tryz.underlying44 rfl Ar) rfl ⟨by rw [Hxe.out,Hxr.out],by rw [Hch.out];exact Hfin.out⟩
   ·have hne2:(ce !=0)=true:=by simp [hce0]
    have hca:=Ac.count_no (a:=a) (e:=⟨ek,ed,et,ea,er⟩) (by rw [Hce.out];exact hce0)
    rw [hca] at hp
    obtain⟨hch,hxr⟩:=Ac.chg_no Hxe.out hce0
    obtain⟨Hca,Hch,Hxr,Hp,Hce0⟩:=hid5 hca hch hxr hp hce0;clear hce0 hp hxr hch hca
    go_wp2_with fail
    refine(Cb ce _).mono ?_
    rintro e w4 ⟨rfl,hk4⟩
    obtain⟨hR4,hfin⟩:=AcPost.ret (V:= #[.int .i64 ce,.int .i64 0,.int .i64 0,.int .i64 0,.int .i64 0,.slice none 0 0,.int .i64 0,.int .i64 0,.slice none 0 0,.slice none 0 0,.int .i64 0,.int .i64 0,.int .i64 0,.int .i64 0,.int .i64 0,.slice none 0 0,.int .i64 0,.int .i64 0,.int .i64 0,.bool false]) H.out Hkw2.out (Hp.out.more hk4) Hr2.out (Nat.le_succ _)
    have hput:=setRow_heap w4 (w.heap.size+1) #[.int .i64 0,.int .i64 0,.int .i64 0,.int .i64 0,.int .i64 0,.slice none 0 0,.int .i64 0,.int .i64 0,.slice none 0 0,.slice none 0 0,.int .i64 0,.int .i64 0,.int .i64 0,.int .i64 0,.int .i64 0,.slice none 0 0,.int .i64 0,.int .i64 0,.int .i64 0,.bool false] #[.int .i64 ce,.int .i64 0,.int .i64 0,.int .i64 0,.int .i64 0,.slice none 0 0,.int .i64 0,.int .i64 0,.slice none 0 0,.slice none 0 0,.int .i64 0,.int .i64 0,.int .i64 0,.int .i64 0,.int .i64 0,.slice none 0 0,.int .i64 0,.int .i64 0,.int .i64 0,.bool false] 44 _ hR4
    clear hk4
    obtain⟨HR4,Hfin,Hput⟩:=hid3 hR4 hfin hput;clear hput hfin hR4
    go_wp2_with (refine wpList_store_row rfl 44 (.tmp 4) (.tmp 39) rfl (w.heap.size+1) #[.int .i64 ce,.int .i64 0,.int .i64 0,.int .i64 0,.int .i64 0,.slice none 0 0,.int .i64 0,.int .i64 0,.slice none 0 0,.slice none 0 0,.int .i64 0,.int .i64 0,.int .i64 0,.int .i64 0,.int .i64 0,.slice none 0 0,.int .i64 0,.int .i64 0,.int .i64 0,.bool false] rfl rfl 44 #[.int .i64 0,.int .i64 0,.int .i64 0,.int .i64 0,.int .i64 0,.slice none 0 0,.int .i64 0,.int .i64 0,.slice none 0 0,.slice none 0 0,.int .i64 0,.int .i64 0,.int .i64 0,.int .i64 0,.int .i64 0,.slice none 0 0,.int .i64 0,.int .i64 0,.int .i64 0,.bool false] HR4.out Ar rfl (Br _ _ _) ?_)
    exact bodyPost_ret (results_cell_row rfl _ _ (w.heap.size+1) 44 #[.int .i64 ce,.int .i64 0,.int .i64 0,.int .i64 0,.int .i64 0,.slice none 0 0,.int .i64 0,.int .i64 0,.slice none 0 0,.slice none 0 0,.int .i64 0,.int .i64 0,.int .i64 0,.int .i64 0,.int .i64 0,.slice none 0 0,.int .i64 0,.int .i64 0,.int .i64 0,.bool false] _ _ rfl Hput.out Tryz.underlying44 rfl Ar) rfl ⟨by rw [Hxe.out,Hxr.out],by rw [Hch.out];exact Hfin.out⟩
 ·have hne:(z !=0)=true:=by simp [hz0]
  have hxe:=Ac.xe_bad Hz.out hz0
  obtain⟨hch,hxr⟩:=Ac.chg_no hxe hz0
  obtain⟨Hxe,Hch,Hxr,Hz0⟩:=hid4 hxe hch hxr hz0;clear hz0 hxr hch hxe
  go_wp2_with fail
  refine(Cb z _).mono ?_
  rintro e w4 ⟨rfl,hk4⟩
  obtain⟨hR4,hfin⟩:=AcPost.ret (V:= #[.int .i64 z,.int .i64 0,.int .i64 0,.int .i64 0,.int .i64 0,.slice none 0 0,.int .i64 0,.int .i64 0,.slice none 0 0,.slice none 0 0,.int .i64 0,.int .i64 0,.int .i64 0,.int .i64 0,.int .i64 0,.slice none 0 0,.int .i64 0,.int .i64 0,.int .i64 0,.bool false]) H.out (Hkw2.out.nt hk4) (AcPost.same (H.out.keep0 (Hkw2.out.nt hk4)) (Keeps.refl _ _)) (Ad Hr2.out hk4 (by simp)) (Nat.le_succ _)
  have hput:=setRow_heap w4 (w.heap.size+1) #[.int .i64 0,.int .i64 0,.int .i64 0,.int .i64 0,.int .i64 0,.slice none 0 0,.int .i64 0,.int .i64 0,.slice none 0 0,.slice none 0 0,.int .i64 0,.int .i64 0,.int .i64 0,.int .i64 0,.int .i64 0,.slice none 0 0,.int .i64 0,.int .i64 0,.int .i64 0,.bool false] #[.int .i64 z,.int .i64 0,.int .i64 0,.int .i64 0,.int .i64 0,.slice none 0 0,.int .i64 0,.int .i64 0,.slice none 0 0,.slice none 0 0,.int .i64 0,.int .i64 0,.int .i64 0,.int .i64 0,.int .i64 0,.slice none 0 0,.int .i64 0,.int .i64 0,.int .i64 0,.bool false] 44 _ hR4
  clear hk4
  obtain⟨HR4,Hfin,Hput⟩:=hid3 hR4 hfin hput;clear hput hfin hR4
  go_wp2_with (refine wpList_store_row rfl 44 (.tmp 4) (.tmp 44) rfl (w.heap.size+1) #[.int .i64 z,.int .i64 0,.int .i64 0,.int .i64 0,.int .i64 0,.slice none 0 0,.int .i64 0,.int .i64 0,.slice none 0 0,.slice none 0 0,.int .i64 0,.int .i64 0,.int .i64 0,.int .i64 0,.int .i64 0,.slice none 0 0,.int .i64 0,.int .i64 0,.int .i64 0,.bool false] rfl rfl 44 #[.int .i64 0,.int .i64 0,.int .i64 0,.int .i64 0,.int .i64 0,.slice none 0 0,.int .i64 0,.int .i64 0,.slice none 0 0,.slice none 0 0,.int .i64 0,.int .i64 0,.int .i64 0,.int .i64 0,.int .i64 0,.slice none 0 0,.int .i64 0,.int .i64 0,.int .i64 0,.bool false] HR4.out Ar rfl (Br _ _ _) ?_)
  exact bodyPost_ret (results_cell_row rfl _ _ (w.heap.size+1) 44 #[.int .i64 z,.int .i64 0,.int .i64 0,.int .i64 0,.int .i64 0,.slice none 0 0,.int .i64 0,.int .i64 0,.slice none 0 0,.slice none 0 0,.int .i64 0,.int .i64 0,.int .i64 0,.int .i64 0,.int .i64 0,.slice none 0 0,.int .i64 0,.int .i64 0,.int .i64 0,.bool false] _ _ rfl Hput.out Tryz.underlying44 rfl Ar) rfl ⟨by rw [Hxe.out,Hxr.out],by rw [Hch.out];exact Hfin.out⟩
structure PSt where
 today:Int
 cyc:Int
 bal:List Int
 cr:Int
 du:Int
 R:List Int
 D:List Disp
 seq:Int
def st00:PSt:=⟨0,0, [],0,0, [], [],0⟩
def Ac.st(a:Ac):PSt:=⟨a.today,a.cyc a.today,a.s.p.bal,a.s.p.cr,a.s.p.du,a.s.R,a.D,a.seq⟩
def Ac.dr(a:Ac)(c:Cmd):Int:=if 1≤c.kind∧c.kind≤7 then a.xr c else 0
def Ac.dc(a:Ac)(c:Cmd):Int:=if c.kind=8 then a.tc c.day else 0
def Ac.ds(a:Ac)(c:Cmd):PSt:=if c.kind=9 then a.st else st00
set_option maxHeartbeats 1600000
theorem accDo_chg(B:Nat)(x:AcV)(a:Ac)(c:Cmd)(w:World)(h:AcAt w B x a)(hs:a.seq≤100000)(hk:1≤c.kind∧c.kind≤7):
  Calls Tryz.prog 15 #[(.pointer (some ⟨B,0,none⟩)),.agg #[.int .i64 c.kind,.int .i64 c.day,.int .i64 c.tranche,.int .i64 c.amount,.int .i64 c.ref]] w fun e w'=>e= .returned (.agg #[.int .i64 (a.xe c),.int .i64 (a.xr c),.int .i64 0,.int .i64 0,.int .i64 0,.slice none 0 0,.int .i64 0,.int .i64 0,.slice none 0 0,.slice none 0 0,.int .i64 0,.int .i64 0,.int .i64 0,.int .i64 0,.int .i64 0,.slice none 0 0,.int .i64 0,.int .i64 0,.int .i64 0,.bool false])∧AcPost w B x (a.chg c) w':=by
 have hcb:chB c=true:=by simp [chB];omega
 have hchg:=fun(W:World) (hW:Keeps (fun _=>False) w W)=>accChange_any B x a c W (h.keep0 hW) hs hk
 have hcc:=fun W=>accChanges_any c W
 rw [hcb] at hcc
 obtain⟨ki,da,tr,am,re⟩:=c
 simp only at hk hchg hcc⊢
 have k8:(ki==8)=false:=by simp;omega
 have k9:(ki==9)=false:=by simp;omega
 have k10:(ki==10)=false:=by simp;omega
 have k11:(ki==11)=false:=by simp;omega
 obtain⟨xe,hxe⟩:∃z,a.xe ⟨ki,da,tr,am,re⟩=z:=⟨_,rfl⟩
 obtain⟨xr,hxr⟩:∃z,a.xr ⟨ki,da,tr,am,re⟩=z:=⟨_,rfl⟩
 rw [hxe,hxr] at hchg⊢
 obtain⟨W0,hW0⟩:∃x,x=(w.alloc (.cells #[.int .i64 ki,.int .i64 da,.int .i64 tr,.int .i64 am,.int .i64 re] 47)).alloc (.cells #[.int .i64 0,.int .i64 0,.int .i64 0,.int .i64 0,.int .i64 0,.slice none 0 0,.int .i64 0,.int .i64 0,.slice none 0 0,.slice none 0 0,.int .i64 0,.int .i64 0,.int .i64 0,.int .i64 0,.int .i64 0,.slice none 0 0,.int .i64 0,.int .i64 0,.int .i64 0,.bool false] 44):=⟨_,rfl⟩
 have hc0:W0.heap[w.heap.size]?=some (.cells #[.int .i64 ki,.int .i64 da,.int .i64 tr,.int .i64 am,.int .i64 re] 47 (0,0)):=by rw [hW0];exact Au (heap_alloc_new w _) _
 have hr0:W0.heap[w.heap.size+1]?=some (.cells #[.int .i64 0,.int .i64 0,.int .i64 0,.int .i64 0,.int .i64 0,.slice none 0 0,.int .i64 0,.int .i64 0,.slice none 0 0,.slice none 0 0,.int .i64 0,.int .i64 0,.int .i64 0,.int .i64 0,.int .i64 0,.slice none 0 0,.int .i64 0,.int .i64 0,.int .i64 0,.bool false] 44 (0,0)):=by rw [hW0];exact Ay _ _ (by simp)
 have hk0:Keeps (fun _=>False) w W0:=by rw [hW0];(repeat (first|exact Keeps.refl _ _|exact Keeps.alloc _ _|exact Keeps.drew _|exact Keeps.drewN _ _|refine Keeps.Ap ?_|refine Keeps.Al ?_|refine Keeps.Ae ?_))
 have hbl:=lt_of_block h.blk
 obtain⟨H,Hchg,Hcc,Hxe,Hxr,Hk,Hcb,Hc0,Hr0⟩:=hid9 h hchg hcc hxe hxr hk hcb hc0 hr0;clear hr0 hc0 hcb hk hxr hxe hcc hchg h;have Hk0:=Lib.hid hk0;clear hk0
 go_enter Tryz.func15,Tryz.ntmps15
 go_wp2_with fail
 rw [←hW0]
 clear hW0
 refine(Hcc.out W0).mono ?_
 rintro e w1 ⟨rfl,hk1⟩
 have hkw1:=Hk0.out.nt hk1
 have hc1:=Ad Hc0.out hk1 (by simp)
 have hr1:=Ad Hr0.out hk1 (by simp)
 have c0:=Aa hc1 0
 have c1:=Aa hc1 1
 have c2:=Aa hc1 2
 have c3:=Aa hc1 3
 have c4:=Aa hc1 4
 have cl:=lt_of_block hc1
 clear hk1
 obtain⟨Hkw1,Hc1,Hr1⟩:=hid3 hkw1 hc1 hr1;clear hr1 hc1 hkw1
 go_wp2_with fail
 refine(Hchg.out w1 Hkw1.out).mono ?_
 rintro e w2 ⟨rfl,hp⟩
 obtain⟨hR,hq⟩:=AcPost.ret (V:= #[.int .i64 xe,.int .i64 xr,.int .i64 0,.int .i64 0,.int .i64 0,.slice none 0 0,.int .i64 0,.int .i64 0,.slice none 0 0,.slice none 0 0,.int .i64 0,.int .i64 0,.int .i64 0,.int .i64 0,.int .i64 0,.slice none 0 0,.int .i64 0,.int .i64 0,.int .i64 0,.bool false]) H.out Hkw1.out hp Hr1.out (Nat.le_succ _)
 have hput:=setRow_heap w2 (w.heap.size+1) #[.int .i64 0,.int .i64 0,.int .i64 0,.int .i64 0,.int .i64 0,.slice none 0 0,.int .i64 0,.int .i64 0,.slice none 0 0,.slice none 0 0,.int .i64 0,.int .i64 0,.int .i64 0,.int .i64 0,.int .i64 0,.slice none 0 0,.int .i64 0,.int .i64 0,.int .i64 0,.bool false] #[.int .i64 xe,.int .i64 xr,.int .i64 0,.int .i64 0,.int .i64 0,.slice none 0 0,.int .i64 0,.int .i64 0,.slice none 0 0,.slice none 0 0,.int .i64 0,.int .i64 0,.int .i64 0,.int .i64 0,.int .i64 0,.slice none 0 0,.int .i64 0,.int .i64 0,.int .i64 0,.bool false] 44 _ hR
 clear hp c0 c1 c2 c3 c4 cl
 obtain⟨HR,Hq,Hput⟩:=hid3 hR hq hput;clear hput hq hR
 go_wp2_with (refine wpList_store_row rfl 44 (.tmp 4) (.tmp 45) rfl (w.heap.size+1) #[.int .i64 xe,.int .i64 xr,.int .i64 0,.int .i64 0,.int .i64 0,.slice none 0 0,.int .i64 0,.int .i64 0,.slice none 0 0,.slice none 0 0,.int .i64 0,.int .i64 0,.int .i64 0,.int .i64 0,.int .i64 0,.slice none 0 0,.int .i64 0,.int .i64 0,.int .i64 0,.bool false] rfl rfl 44 #[.int .i64 0,.int .i64 0,.int .i64 0,.int .i64 0,.int .i64 0,.slice none 0 0,.int .i64 0,.int .i64 0,.slice none 0 0,.slice none 0 0,.int .i64 0,.int .i64 0,.int .i64 0,.int .i64 0,.int .i64 0,.slice none 0 0,.int .i64 0,.int .i64 0,.int .i64 0,.bool false] HR.out Ar rfl (Br _ _ _) ?_)
 exact bodyPost_ret (results_cell_row rfl _ _ (w.heap.size+1) 44 #[.int .i64 xe,.int .i64 xr,.int .i64 0,.int .i64 0,.int .i64 0,.slice none 0 0,.int .i64 0,.int .i64 0,.slice none 0 0,.slice none 0 0,.int .i64 0,.int .i64 0,.int .i64 0,.int .i64 0,.int .i64 0,.slice none 0 0,.int .i64 0,.int .i64 0,.int .i64 0,.bool false] _ _ rfl Hput.out Tryz.underlying44 rfl Ar) rfl ⟨rfl,Hq.out⟩
structure Live(w0:World)(O:Nat→Prop)(W:World)(B:Nat)(a:Ac):Prop where
 is:∃x,AcAt W B x a∧∀b,AcF B x b→w0.heap.size≤b∧¬O b
 ol:∀b,O b→b<W.heap.size
 kp:Keeps (fun _=>False) w0 W
theorem Live.keep{w0 W W':World}{O:Nat→Prop}{B:Nat}{a:Ac}(h:Live w0 O W B a)(hk:Keeps (fun _=>False) W W'):Live w0 O W' B a:=by
 obtain⟨x,h1,h2⟩:=h.is
 exact⟨⟨x,h1.keep0 hk,h2⟩,fun b hb=>Nat.lt_of_lt_of_le (h.ol b hb) hk.size,h.kp.nt hk⟩
theorem Live.more{w0 W W':World}{O:Nat→Prop}{B:Nat}{a:Ac}(h:Live w0 O W B a)(hk:Keeps (fun _=>False) W W')(P:Nat→Prop)(hP:∀i,P i→W.heap.size≤i∧i<W'.heap.size):Live w0 (fun i=>O i∨P i) W' B a:=by
 obtain⟨x,h1,h2⟩:=h.is
 refine⟨⟨x,h1.keep0 hk,fun b hb=>⟨(h2 b hb).1,fun e=> ?_⟩⟩,fun b hb=> ?_,h.kp.nt hk⟩
 ·rcases e with e|e
  ·exact(h2 b hb).2 e
  ·have:=(hP b e).1;have:=h1.lt b (.inl hb);omega
 ·rcases hb with hb|hb
  ·exact Nat.lt_of_lt_of_le (h.ol b hb) hk.size
  ·exact(hP b hb).2
theorem Live.post{w0 W W':World}{O:Nat→Prop}{B:Nat}{x:AcV}{a a':Ac}(h:Live w0 O W B a)(hx:AcAt W B x a∧∀b,AcF B x b→w0.heap.size≤b∧¬O b)(hp:AcPost W B x a' W'):Live w0 O W' B a'∧Keeps (fun i=>w0.heap.size≤i∧¬O i) W W':=by
 obtain⟨x',h1,h2,h3⟩:=hp
 have hs:=h.kp.size
 refine⟨⟨⟨x',h1,fun b hb=> ?_⟩,fun b hb=>Nat.lt_of_lt_of_le (h.ol b hb) h2.size,h.kp.trans (h2.mono fun i _ e=> .inr (hx.2 i e).1)⟩,h2.mono fun i _ e=>hx.2 i e⟩
 rcases h3.1 b hb with e|e
 ·exact hx.2 b e
 ·exact⟨by omega,fun o=>by have:=h.ol b o;omega⟩
theorem Live.box{w0 W W':World}{O:Nat→Prop}{B:Nat}{a:Ac}{C0 C:Array Value}{t:TypeId}(h:Live w0 O W B a)(hW:W'=(W.alloc (.cells C0 t)).setRow W.heap.size C):Live w0 (fun i=>O i∨i=W.heap.size) W' B a∧W'.heap[W.heap.size]?=some (.cells C t (0,0))∧Keeps (fun _=>False) W W':=by
 subst hW
 have hb:=setRow_heap (W.alloc (.cells C0 t)) W.heap.size C0 C t _ (heap_alloc_new W _)
 have hk:Keeps (fun _=>False) W ((W.alloc (.cells C0 t)).setRow W.heap.size C):=(Keeps.alloc (S:=fun _=>False) W (.cells C0 t)).trans ((Ca _ _ _).mono fun i _ e=> .inr (by have e':i=W.heap.size:=e;omega))
 exact⟨h.more hk (fun i=>i=W.heap.size) fun i e=>⟨by rw [e];exact Nat.le_refl _,by rw [e];exact lt_of_block hb⟩,hb,hk⟩
theorem Live.blk{w0 W W':World}{O:Nat→Prop}{B i:Nat}{a:Ac}{o:Obj}(_:Live w0 O W B a)(hk:Keeps (fun i=>w0.heap.size≤i∧¬O i) W W')(hO:O i)(hb:W.heap[i]?=some o):W'.heap[i]?=some o:=Ad hb hk fun e=>e.2 hO
theorem Live.set{w0 W W':World}{O:Nat→Prop}{B i j:Nat}{a:Ac}{C:Array Value}{t:TypeId}{fz:Nat×Nat}{v:Value}(h:Live w0 O W B a)(hb:W.heap[i]?=some (.cells C t fz))(ht:∀s∈ [89,42,70,83,2,114,77,116,109,102],t≠s)(hi:w0.heap.size≤i)(hW:W'=W.setCell ⟨i,j,none⟩ v):Live w0 O W' B a:=by
 have hk:Keeps (fun k=>k=i) W W':=by rw [hW];exact(Keeps.refl _ _).setB _ _
 obtain⟨x,h1,h2⟩:=h.is
 exact⟨⟨x,h1.keeps hk fun b hb' e=>h1.otherT hb ht b hb' e,h2⟩,fun b hb'=>Nat.lt_of_lt_of_le (h.ol b hb') hk.size,h.kp.trans (hk.mono fun k _ e=> .inr (by have e':k=i:=e;omega))⟩
def ChgPost(w0:World)(O:Nat→Prop)(W:World)(B:Nat)(z r y:Int)(a':Ac)(e:Ending)(W':World):Prop:=e= .returned (.agg #[.int .i64 z,.int .i64 r,.int .i64 y,.int .i64 0,.int .i64 0,.slice none 0 0,.int .i64 0,.int .i64 0,.slice none 0 0,.slice none 0 0,.int .i64 0,.int .i64 0,.int .i64 0,.int .i64 0,.int .i64 0,.slice none 0 0,.int .i64 0,.int .i64 0,.int .i64 0,.bool false])∧Live w0 O W' B a'∧Keeps (fun i=>w0.heap.size≤i∧¬O i) W W'
theorem Di{w0 W:World}{O:Nat→Prop}{B:Nat}{a:Ac}(h:Live w0 O W B a)(c:Cmd)(hs:a.seq≤100000)(hk:1≤c.kind∧c.kind≤7):
  Calls Tryz.prog 15 #[(.pointer (some ⟨B,0,none⟩)),.agg #[.int .i64 c.kind,.int .i64 c.day,.int .i64 c.tranche,.int .i64 c.amount,.int .i64 c.ref]] W (ChgPost w0 O W B (a.xe c) (a.xr c) 0 (a.chg c)):=by
 obtain⟨x,hx⟩:=h.is
 refine(accDo_chg B x a c W hx.1 hs hk).mono ?_
 rintro e w' ⟨he,hp⟩
 exact⟨he,(h.post hx hp).1,(h.post hx hp).2⟩
theorem live_state{w0 W:World}{O:Nat→Prop}{B:Nat}{a:Ac}(h:Live w0 O W B a):Calls Tryz.prog 16 #[(.pointer (some ⟨B,0,none⟩))] W (StatePost a W):=by
 obtain⟨x,hx⟩:=h.is
 exact accState_any B x a W hx.1
def StL(a:Ac)(W:World)(td cy sq cr du:Int)(n m q:Nat)(e:Ending)(W':World):Prop:=∃a1 c1 a2 c2 a3 c3,e= .returned (.agg #[.int .i64 td,.int .i64 cy,.slice a1 n c1,.int .i64 cr,.int .i64 du,.slice a2 m c2,.slice a3 q c3,.int .i64 sq])∧
 W'.ownsRow 0 2 1 (.slice a1 n c1) n (a.s.p.bal.flatMap i64c)∧W'.ownsRow 0 2 1 (.slice a2 m c2) m (a.s.R.flatMap i64c)∧W'.ownsRow 0 109 5 (.slice a3 q c3) q (a.D.flatMap Disp.cells)∧Keeps (fun _=>False) W W'∧∀b,(Value.slice a1 n c1).ownBlock=some b∨(Value.slice a2 m c2).ownBlock=some b∨(Value.slice a3 q c3).ownBlock=some b→W.heap.size≤b
theorem live_st{w0 W:World}{O:Nat→Prop}{B:Nat}{a:Ac}(h:Live w0 O W B a){td cy sq cr du:Int}{n m q:Nat}(htd:a.today=td)(hcy:a.cyc a.today=cy)(hsq:a.seq=sq)(hcr:a.s.p.cr=cr)(hdu:a.s.p.du=du)(hn:a.s.p.bal.length=n)(hm:a.s.R.length=m)(hq:a.D.length=q):
  Calls Tryz.prog 16 #[(.pointer (some ⟨B,0,none⟩))] W (StL a W td cy sq cr du n m q):=by
 refine(live_state h).mono ?_
 rintro e w' ⟨a1,c1,a2,c2,a3,c3,he,h1,h2,h3,h4,h5⟩
 rw [hn] at h1
 rw [hm] at h2
 rw [hq] at h3
 rw [hcy,htd,hsq,hcr,hdu,hn,hm,hq] at he
 rw [hn,hm,hq] at h5
 exact⟨a1,c1,a2,c2,a3,c3,he,h1,h2,h3,h4,h5⟩
theorem one_st(a b c d f:Int)(ad ae ag:Option Addr)(n m n' m' n2 m2:Nat):(#[.int .i64 a,.int .i64 b,.slice ad n m,.int .i64 c,.int .i64 d,.slice ae n' m',.slice ag n2 m2,.int .i64 f]:Array Value).all (·.oneCell')=true:=by simp [Value.oneCell']
def t22:Tm:=⟨1000,1,20,25,20,10957, [⟨500000,true⟩,⟨900000,false⟩]⟩
theorem rep22:repErr t22 [] t22.start=0:=by decide+kernel
set_option maxHeartbeats 400000
theorem terms22_any(w:World):Calls Tryz.prog 13 #[] w fun e w'=>∃g,e= .returned (.agg #[.int .i64 1000,.slice (some ⟨g,0,none⟩) 2 2,.int .i64 1,.int .i64 20,.int .i64 25,.int .i64 20,.int .i64 10957])∧Reads w' 2 (.slice (some ⟨g,0,none⟩) 2 2) 2 (t22.trs.flatMap Tn.cells)∧Keeps (fun _=>False) w w':=by
 go_enter Tryz.func13,Tryz.ntmps13
 go_wp2_with fail
 have hr:Reads ((w.alloc (Obj.cells #[.int .i64 1000,.slice (some ⟨w.heap.size+1,0,none⟩) 2 2,.int .i64 1,.int .i64 20,.int .i64 25,.int .i64 20,.int .i64 10957] 29)).alloc (Obj.cells #[Value.int IntKind.i64 500000,Value.bool true,Value.int IntKind.i64 900000,Value.bool false] 83)) 2 (.slice (some ⟨w.heap.size+1,0,none⟩) 2 2) 2 (t22.trs.flatMap Tn.cells):=Reads.litAt _ _ _ _ _ _ (by simp) rfl
 exact bodyPost_ret (v:= .agg #[.int .i64 1000,.slice (some ⟨w.heap.size+1,0,none⟩) 2 2,.int .i64 1,.int .i64 20,.int .i64 25,.int .i64 20,.int .i64 10957]) (by simp [results,Tryz.results13,go_sem]) rfl ⟨_,rfl,hr,by(repeat (first|exact Keeps.refl _ _|exact Keeps.alloc _ _|exact Keeps.drew _|exact Keeps.drewN _ _|refine Keeps.Ap ?_|refine Keeps.Al ?_|refine Keeps.Ae ?_))⟩
def NewLive(w0:World)(O:Nat→Prop)(W:World)(t:Tm)(e:Ending)(W':World):Prop:=∃B,e= .returned (.tuple #[(.pointer (some ⟨B,0,none⟩)),.int .i64 0])∧Live w0 O W' B (acNew t)∧Keeps (fun _=>False) W W'
theorem new22{w0 W:World}{O:Nat→Prop}{g:Nat}(hk:Keeps (fun _=>False) w0 W)(hO:∀b,O b→b<W.heap.size)(hr:Reads W 2 (.slice (some ⟨g,0,none⟩) 2 2) 2 (t22.trs.flatMap Tn.cells)):
  Calls Tryz.prog 12 #[.agg #[.int .i64 1000,.slice (some ⟨g,0,none⟩) 2 2,.int .i64 1,.int .i64 20,.int .i64 25,.int .i64 20,.int .i64 10957]] W (NewLive w0 O W t22):=by
 refine(accNew_ok t22 (.slice (some ⟨g,0,none⟩) 2 2) W hr rep22).mono ?_
 rintro e w' ⟨B,x,rfl,hA,hk',hf⟩
 have:=hk.size
 exact⟨B,rfl,⟨⟨x,hA,fun b hb=>⟨by have:=hf b (.inl hb);omega,fun o=>by have:=hf b (.inl hb);have:=hO b o;omega⟩⟩,fun b hb=>Nat.lt_of_lt_of_le (hO b hb) hk'.size,hk.nt hk'⟩,hk'⟩
theorem SV.one(L:List SV):∀u∈L.flatMap SV.cells,u.oneCell'=true:=by
 intro u hu
 obtain⟨y,_,hy⟩:=List.mem_flatMap.1 hu
 simp only [SV.cells,SV.v,List.mem_cons,List.not_mem_nil,or_false] at hy
 rcases hy with rfl|rfl|rfl|rfl|rfl|rfl|rfl|rfl|rfl<;>simp [Value.oneCell']
theorem WalkRes.keep0{w0 W W':World}{n:Nat}{s:St}{vb vr vo:Value}{P:List SV}(g:WalkRes w0 n s vb vr vo P W)(hk:Keeps (fun _=>False) W W'):WalkRes w0 n s vb vr vo P W':=
 ⟨g.bal.of_keeps hk,g.rts.of_keeps hk,g.out.of_keeps hk,fun x hx=>(g.ln x hx).of_keeps hk,g.lp,g.nb,g.nr,g.wb,g.wr,g.wo,g.wl,g.kp.nt hk⟩
def cntD:Nat→List (Int×Int)→Int→Nat
 |0,_,_=>0
 |_+1, [],_=>0
 |d+1,(fr,te)::S,day=>if te=day then cntD d S (day+1)+1 else cntD d ((fr,te)::S) (day+1)
theorem cntD_mono(k:Nat)(X:List (Int×Int)):∀(d:Nat) (S:List (Int×Int)) (day:Int),cntD d S day≤cntD (d+k) (S++X) day
 |0,_,_=>by simp [cntD]
 |d+1, [],_=>by simp [cntD]
 |d+1,(fr,te)::S,day=>by
  rw [show d+1+k=(d+k)+1 by omega,List.cons_append]
  unfold cntD
  split
  ·exact Nat.succ_le_succ (cntD_mono k X d S (day+1))
  ·exact cntD_mono k X d ((fr,te)::S) (day+1)
theorem closeS_out{t:Tm}{L:List Ev}{n:Nat}{s s2:St}{fr te:Int}(h:closeS t L n s fr te=some s2):s2.out.length=s.out.length+1∧s2.day=s.day∧∃x,s2.out=s.out++ [x]:=by
 unfold closeS at h
 split at h
 ·cases h
 ·split at h
  ·cases h
  ·simp only [Option.some.injEq] at h
   subst h
   exact⟨by simp,rfl,_,rfl⟩
theorem walkD_cnt{t:Tm}{T:List Ev}{n:Nat}:∀(d:Nat) (S:List (Int×Int)) (s:St) (Z:St×Int),walkD t T n d S s=Z→Z.2=0→Z.1.out.length=s.out.length+cntD d S s.day
 |0,S,s,Z,h,hz=>by
  unfold walkD at h
  subst h
  simp [cntD,evSt]
 |d+1,S,s,Z,h,hz=>by
  unfold walkD at h
  split at h
  ·split at h
   ·subst h;simp at hz
   ·rename_i fr te S'
    split at h
    ·rename_i ht
     split at h
     ·subst h;simp at hz
     ·rename_i s2 hc
      have h1:=closeS_out hc
      have h2:=walkD_cnt d S' _ Z h hz
      have e1:s2.out.length=s.out.length+1:=by rw [h1.1];rfl
      conv=>rhs;unfold cntD
      rw [if_pos ht]
      simp only [e1] at h2
      omega
    ·rename_i ht
     have h2:=walkD_cnt d _ _ Z h hz
     rw [h2]
     conv=>rhs;unfold cntD
     rw [if_neg ht]
     rfl
  ·rename_i hne
   subst h
   exact absurd hz hne
theorem find_pre{cd day day':Int}(hd:day≤day'):∀(f:Nat) (fr:Int),∃X,(findW cd day' f fr).1=(findW cd day f fr).1++X
 |0,fr=>⟨[],rfl⟩
 |f+1,fr=>by
  unfold findW
  split
  ·by_cases h1:lastF fr cd<day∧f≠0
   ·rw [if_pos h1,if_pos ⟨by omega,h1.2⟩]
    obtain⟨X,hX⟩:=find_pre (cd:=cd) hd f (lastF fr cd+1)
    exact⟨X,by rw [hX];rfl⟩
   ·rw [if_neg h1]
    split
    ·exact⟨_,rfl⟩
    ·exact⟨[],rfl⟩
  ·exact⟨[],by simp⟩
theorem walkR_mono{t:Tm}{L L2:List Ev}{td td2:Int}(h:td≤td2)(h1:(walkR t L td).2=0)(h2:(walkR t L2 td2).2=0):(walkR t L td).1.out.length≤(walkR t L2 td2).1.out.length:=by
 have e1:repErr t L td=0:=(walkR_st rfl h1).1
 have e2:repErr t L2 td2=0:=(walkR_st rfl h2).1
 have r1:=Ct e1
 have r2:=Ct e2
 have k1:(walkR t L td)=walkD t (sortL L) t.trs.length (td-t.start).toNat (allL t.start t.cyc td) (st0 t):=by unfold walkR;rw [if_pos e1]
 have k2:(walkR t L2 td2)=walkD t (sortL L2) t.trs.length (td2-t.start).toNat (allL t.start t.cyc td2) (st0 t):=by unfold walkR;rw [if_pos e2]
 rw [walkD_cnt _ _ _ _ k1.symm h1,walkD_cnt _ _ _ _ k2.symm h2]
 obtain⟨X,hX⟩:=find_pre (cd:=t.cyc) h 300 t.start
 unfold allL
 rw [if_pos r1.fd,if_pos r2.fd,hX,show(td2-t.start).toNat=(td-t.start).toNat+(td2-td).toNat by have:=r1.d0;omega]
 exact Nat.add_le_add_left (cntD_mono _ _ _ _ _) _
theorem Ac.mono{a:Ac}(h:AcOk a){d:Int}(ht:a.te d=0):a.s.out.length≤(a.tz d).1.out.length:=by
 have hd:1≤d∧(a.tz d).2=0:=by
  unfold Ac.te at ht
  split at ht
  ·cases ht
  ·split at ht
   ·cases ht
   ·exact⟨by omega,ht⟩
 have hw:=h.wk
 have e1:(walkR a.t a.L a.today).2=0:=by rw [hw]
 have:=walkR_mono (L2:=a.L) (td2:=a.today+d) (by omega) e1 hd.2
 rw [hw] at this
 exact this
def ac5:Ac:=(acNew t22).chg ⟨1,0,1,5,0⟩
theorem aw_nums:(acNew t22).xe ⟨1,0,1,5,0⟩=0∧(acNew t22).xr ⟨1,0,1,5,0⟩=0∧ac5.s.p.bal= [5,0]∧ac5.seq=1:=by decide+kernel
set_option maxHeartbeats 3200000
theorem awake22_any(w:World):Calls Tryz.prog 14 #[] w fun e w'=>e= .returned (.bool true)∧Keeps (fun _=>False) w w':=by
 obtain⟨p1,p2,p3,p4⟩:=aw_nums
 obtain⟨P1,P2,P3,P4⟩:=hid4 p1 p2 p3 p4;clear p4 p3 p2 p1
 go_enter Tryz.func14,Tryz.ntmps14
 go_wp2_with fail
 refine(terms22_any _).mono ?_
 rintro e w1 ⟨g,rfl,hr1,hk1⟩
 obtain⟨Hr1,Hk1⟩:=hid2 hr1 hk1;clear hk1 hr1
 go_wp2_with fail
 refine(new22 (O:=fun _=>False) Hk1.out (by simp) Hr1.out).mono ?_
 rintro e w2 ⟨B,rfl,hL2,_⟩
 have hdo:=Di hL2 ⟨1,0,1,5,0⟩ (by decide) (by decide)
 rw [P1.out,P2.out] at hdo
 simp only at hdo
 obtain⟨HL2,Hdo⟩:=hid2 hL2 hdo;clear hdo hL2
 go_wp2_with fail
 refine Hdo.out.mono ?_
 rintro e w3 ⟨rfl,hL3,hk3⟩
 rw [show(acNew t22).chg ⟨1,0,1,5,0⟩=ac5 from rfl] at hL3
 obtain⟨w4,hw4⟩:∃W,W=((w3).alloc (.cells #[.int .i64 0,.int .i64 0,.int .i64 0,.int .i64 0,.int .i64 0,.slice none 0 0,.int .i64 0,.int .i64 0,.slice none 0 0,.slice none 0 0,.int .i64 0,.int .i64 0,.int .i64 0,.int .i64 0,.int .i64 0,.slice none 0 0,.int .i64 0,.int .i64 0,.int .i64 0,.bool false] 44)).setRow (w3).heap.size #[.int .i64 0,.int .i64 0,.int .i64 0,.int .i64 0,.int .i64 0,.slice none 0 0,.int .i64 0,.int .i64 0,.slice none 0 0,.slice none 0 0,.int .i64 0,.int .i64 0,.int .i64 0,.int .i64 0,.int .i64 0,.slice none 0 0,.int .i64 0,.int .i64 0,.int .i64 0,.bool false]:=⟨_,rfl⟩
 obtain⟨hL4,hb4,hk4⟩:=Live.box hL3 hw4
 obtain⟨n4,hn4⟩:∃b,b=(w3).heap.size:=⟨_,rfl⟩
 rw [←hn4] at hL4 hb4
 have h1w4:(#[.int .i64 0,.int .i64 0,.int .i64 0,.int .i64 0,.int .i64 0,.slice none 0 0,.int .i64 0,.int .i64 0,.slice none 0 0,.slice none 0 0,.int .i64 0,.int .i64 0,.int .i64 0,.int .i64 0,.int .i64 0,.slice none 0 0,.int .i64 0,.int .i64 0,.int .i64 0,.bool false]:Array Value).all (·.oneCell')=true:=(Br 0 0 0)
 obtain⟨HL4,Hb4,Hk4,H1w4⟩:=hid4 hL4 hb4 hk4 h1w4;clear h1w4 hk4 hb4 hL4
 go_wp2_with (refine wpList_store_row rfl 44 (.tmp 3) (.tmp 18) rfl (w3).heap.size #[.int .i64 0,.int .i64 0,.int .i64 0,.int .i64 0,.int .i64 0,.slice none 0 0,.int .i64 0,.int .i64 0,.slice none 0 0,.slice none 0 0,.int .i64 0,.int .i64 0,.int .i64 0,.int .i64 0,.int .i64 0,.slice none 0 0,.int .i64 0,.int .i64 0,.int .i64 0,.bool false] rfl rfl 44 #[.int .i64 0,.int .i64 0,.int .i64 0,.int .i64 0,.int .i64 0,.slice none 0 0,.int .i64 0,.int .i64 0,.slice none 0 0,.slice none 0 0,.int .i64 0,.int .i64 0,.int .i64 0,.int .i64 0,.int .i64 0,.slice none 0 0,.int .i64 0,.int .i64 0,.int .i64 0,.bool false] (heap_alloc_new w3 _) Ar rfl H1w4.out ?_;rw [←hw4,←hn4];clear hw4 hn4)
 have hst:=live_st HL4.out (sq:=1) (n:=2) rfl rfl P4.out rfl rfl (by rw [P3.out];rfl) rfl rfl
 obtain⟨td,htd⟩:∃x,ac5.today=x:=⟨_,rfl⟩
 obtain⟨cy,hcy⟩:∃x,ac5.cyc ac5.today=x:=⟨_,rfl⟩
 obtain⟨cr,hcr⟩:∃x,ac5.s.p.cr=x:=⟨_,rfl⟩
 obtain⟨du,hdu⟩:∃x,ac5.s.p.du=x:=⟨_,rfl⟩
 obtain⟨m,hm⟩:∃x,ac5.s.R.length=x:=⟨_,rfl⟩
 obtain⟨q,hq⟩:∃x,ac5.D.length=x:=⟨_,rfl⟩
 rw [hcy,htd,hcr,hdu,hm,hq] at hst
 obtain⟨Hcy,Htd,Hcr,Hdu,Hm,Hq,Hst⟩:=hid7 hcy htd hcr hdu hm hq hst;clear hst hq hm hdu hcr htd hcy
 refine Hst.out.mono ?_
 rintro e w5 ⟨a1,c1,a2,c2,a3,c3,rfl,h1,h2,h3,hk5,hf⟩
 rw [P3.out] at h1
 obtain⟨g1,e1,he,hg⟩:=Cu h1 (by decide)
 simp only [Value.slice.injEq,true_and] at he
 obtain⟨rfl,rfl⟩:=he
 have hL5:=HL4.out.keep hk5
 have x0:w5.cell? ⟨g1,0,none⟩=some (.int .i64 5):=Bi Cc h1 (k:=0) (x:=5) rfl 0 (by decide)
 have hb5:=Ad Hb4.out hk5 (by simp)
 have hn4:=lt_of_block hb5
 clear h2 h3 hf
 obtain⟨H1,Hk5,HL5,Hb5⟩:=hid4 h1 hk5 hL5 hb5;clear hb5 hL5 hk5 h1
 obtain⟨w6,hw6⟩:∃W,W=((w5).alloc (.cells #[.int .i64 0,.int .i64 0,.slice none 0 0,.int .i64 0,.int .i64 0,.slice none 0 0,.slice none 0 0,.int .i64 0] 37)).setRow (w5).heap.size #[.int .i64 td,.int .i64 cy,.slice (some ⟨g1,0,none⟩) 2 c1,.int .i64 cr,.int .i64 du,.slice a2 m c2,.slice a3 q c3,.int .i64 1]:=⟨_,rfl⟩
 obtain⟨hL6,hb6,hk6⟩:=Live.box HL5.out hw6
 obtain⟨n6,hn6⟩:∃b,b=(w5).heap.size:=⟨_,rfl⟩
 rw [←hn6] at hL6 hb6
 have h1w6:(#[.int .i64 td,.int .i64 cy,.slice (some ⟨g1,0,none⟩) 2 c1,.int .i64 cr,.int .i64 du,.slice a2 m c2,.slice a3 q c3,.int .i64 1]:Array Value).all (·.oneCell')=true:=(one_st _ _ _ _ _ _ _ _ _ _ _ _ _ _)
 obtain⟨HL6,Hb6,Hk6,H1w6⟩:=hid4 hL6 hb6 hk6 h1w6;clear h1w6 hk6 hb6 hL6
 go_upto_region 6 with(refine wpList_store_row rfl 37 (.tmp 4) (.tmp 20) rfl (w5).heap.size #[.int .i64 td,.int .i64 cy,.slice (some ⟨g1,0,none⟩) 2 c1,.int .i64 cr,.int .i64 du,.slice a2 m c2,.slice a3 q c3,.int .i64 1] rfl rfl 37 #[.int .i64 0,.int .i64 0,.slice none 0 0,.int .i64 0,.int .i64 0,.slice none 0 0,.slice none 0 0,.int .i64 0] (heap_alloc_new w5 _) Cq rfl H1w6.out ?_;rw [←hw6,←hn6];clear hw6 hn6)
 have hb6b:=Ad Hb5.out Hk6.out (by simp)
 have y0:=Aa hb6b 0
 have yl:=lt_of_block hb6b
 have z2:=Aa Hb6.out 2
 have z7:=Aa Hb6.out 7
 have zl:=lt_of_block Hb6.out
 have x1:=(Hk6.out.cell (Ag x0) (by simp)).trans x0
 have xl:=Ag x1
 have hkf:=HL6.out.kp
 clear x0
 obtain⟨Hb6b,Hkf⟩:=hid2 hb6b hkf;clear hkf hb6b
 go_wp2
 go_ret
 exact⟨rfl,Hkf.out⟩
end Go.Proofs.YthffbjldpfionaaGreat
namespace Go.Proofs.YthffbjldpfionaaGreat
open Go.ChangeShapes Go.WideShapes Go.ChangeAt Go.RowKit Go.Deep
theorem own:ownKnob Tryz.prog.godebug=none:=by kernel_rfl
section
variable {H:Type} {enc:TypeId×Value→H} {w:World} {spare:Nat→Bool} {held:Bool}
end
end Go.Proofs.YthffbjldpfionaaGreat
namespace Go.Proofs.YthffbjldpfionaaGreat
open Go.ChangeShapes Go.WideShapes Go.ChangeAt Go.RowKit Go.Deep
def Cmd.wf(a:Cmd):Prop:=(Lit.int .i64 a.kind).wf=true∧(Lit.int .i64 a.day).wf=true∧(Lit.int .i64 a.tranche).wf=true∧(Lit.int .i64 a.amount).wf=true∧(Lit.int .i64 a.ref).wf=true
end Go.Proofs.YthffbjldpfionaaGreat
