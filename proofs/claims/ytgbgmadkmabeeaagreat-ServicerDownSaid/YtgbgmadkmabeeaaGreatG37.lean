/- Part 37 of what the laws of this seat share: walks of functions, and plain laws. -/
import Derived.Test.YtgbgmadkmabeeaaGreatG7
set_option maxRecDepth 100000
set_option maxHeartbeats 3200000
namespace Go.Proofs.YtgbgmadkmabeeaaGreat
open Go.RowKit Go.IntWalk Go.Shelf
attribute [local go_sem] Oper.semAt_some
def snagP(u:Nat)(G:List Int)(p:Pd):Pd:={ l:=p.l.set u ⟨1,G⟩,sn:=0,fl:=p.fl+1,dn:=true }
def JSnag(w:World)(J P:Nat)(v:Value)(p:Pd)(fl:Int)(vl:Value)(u nr:Nat)(RL:List Value)(B:List Int)(e:Ending)(w':World):Prop:=
 e= .returned (.int .i64 15)/\JrnAt w' J P fl vl u/\w'.ownsRow 0 24 1 vl nr RL/\PadAt w' P v (snagP u (pageR u true true B) p)/\Keeps (PFoot P v) w w'
def SnagI(R P:Nat)(v:Value)(u:Nat)(B:List Int)(p:Pd)(W0 W:World):Prop:=W.heap[R]?=some (.cells #[.int .i64 15] 27 (0,0))/\PadAt W P v (snagP u (pageR u true true B) p)/\Keeps (λk=>PFoot P v k\/k=R) W0 W
theorem Aao{P:Nat}{v:Value}{W0 W w10:World}{R u:Nat}{B:List Int}{p p1:Pd}(hk0:K0 W0 W)(hk:Keeps (PFoot P v) W w10)(hR:w10.heap[R]?=some (.cells #[.int .i64 0] 27 (0,0)))
  (hcl:∀i,(PFoot P v i\/i=R)->∀o,W.heap[i]?=some o->o.isCells=true) (hpad:PadAt w10 P v p1) (hPR:¬PFoot P v R) (he:p1=snagP u (pageR u true true B) p):
  KeepsOthers W (w10.setCell ⟨R,0,none⟩ (.int .i64 15))/\SnagI R P v u B p W0 (w10.setCell ⟨R,0,none⟩ (.int .i64 15)):=by
 have hk1:Keeps (λk=>k=R) w10 (w10.setCell ⟨R,0,none⟩ (.int .i64 15)):=Keeps.setCell _ _ _ rfl;have hk2:Keeps (λk=>PFoot P v k\/k=R) W (w10.setCell ⟨R,0,none⟩ (.int .i64 15)):=(hk.mono λi _ e=> .inl e).trans (hk1.mono λi _ e=> .inl (.inr e));refine⟨⟨hk2.size,λi o hi ho=>(hk2.block i (lt_of_block hi) λe=>by rw [hcl i e o hi] at ho;cases ho).trans hi⟩,(heap_setCell_same _ _ 0 _ _ (.int .i64 15) hR).trans rfl, ?_,(hk0.mono (by simp)).trans (hk2.mono λi _ e=> .inl e)⟩;rw [<-he];exact hpad.keeps hk1 λi hi e=>hPR (e▸hi)
theorem jAdd_snag(J P u m nr:Nat)(v:Value)(p:Pd)(fl:Int)(vl:Value)(RL:List Value)(ad:Option Addr)(cap:Nat)(B:List Int)(w:World)(hj:JrnAt w J P fl vl u)(hrl:w.ownsRow 0 24 1 vl nr RL)(hp:PadAt w P v p)(hd:p.dn=false)(hf:p.fl=fl)(hs:p.sn=1)
  (hm:B.length=m) (hr:Reads w 1 (.slice ad m cap) m (B.flatMap u8c)) (hsep:∀k,(Value.slice ad m cap).ownBlock=some k->¬PFoot P v k) (hB:∀z∈B,0<=z/\z<=255) (h1:1<=m) (h2:m<=41) (hroom:u+1<=p.l.length) (hfl1:p.fl+1<=1000000) (hfr:∃x,p.l[u]?=some x/\x.is=0):
  Calls Tryz.prog 60 #[(.pointer (some ⟨J,0,none⟩)),.slice ad m cap] w (JSnag w J P v p fl vl u nr RL B):=by
 have hc1:chunks m=1:=by unfold chunks;omega
 have hup:=j2w;simp only [hd,hf,Bool.false_eq_true,ne_eq,not_true,or_self,if_false] at hup;refine j2x ?_;intro hlen m1;have m2:(m:Int)<=41:=j8;have m3:((m:Int)==0)=false:=by simp;omega
 obtain⟨Hj,Hp,Hr,Hup,Hlen,Hrl⟩:=hid6 hj hp hr hup hlen hrl;clear hrl hlen hup hr hp hj;refine callsIn_wide.1 (callsIn_of_wp_marks (F:=Fence.wide) (n:=3) Tryz.func60 rfl trivial ?_ rfl);refine j2y ?_
 go_wp2_with (go_at_call 67;(with_reducible refine(Hup.o _ (Keeps.nt (Keeps.alloc _ _) (Keeps.alloc _ _))).mono ?_);rintro e w1 ⟨rfl,hk1⟩;have hkw1:=Keeps.nt (Keeps.nt (Keeps.alloc (S:=λ_=>False) w _) (Keeps.alloc _ _)) hk1;have hbJ:=Ad (Ad (heap_alloc_new w (.cells #[(.pointer (some ⟨J,0,none⟩))] 110)) (Keeps.alloc (S:=λ_=>False) _ (.cells #[.int .i64 0] 27)) (by simp)) hk1 (by simp);have hbR:=Ad (alloc2 w (.cells #[(.pointer (some ⟨J,0,none⟩))] 110) (.cells #[.int .i64 0] 27)) hk1 (by simp);have hj1:=Ad Hj.o.blk hkw1 (by simp);have a0:=Aa hbJ 0;have a1:=Aa hbR 0;have a2:=Aa hj1 0;have a3:=Aa hj1 3;have g0:=Ab hbR 0;have lJ:=lt_of_block hbJ;have lR:=lt_of_block hbR;have lj:=lt_of_block hj1;have Hkw1:=Lib.hid hkw1;have HbJ:=Lib.hid hbJ;have HbR:=Lib.hid hbR;have Hj1:=Lib.hid hj1;clear hk1 hkw1 hbJ hbR hj1)
 have hu:wrap64 ((u:Int)+((m:Int)-1) / 41)=(u:Int)+((m:Int)-1) / 41:=wrap64_in _ ⟨by omega,by have:=Hp.o.n;omega⟩;rw [hu];obtain⟨la,hla⟩:=eX ((u:Int)+((m:Int)-1) / 41);have hla2:la<(p.l.length:Int):=j8;have hla3:decide ((p.l.length:Int)<=la)=false:=by rw [decide_eq_false_iff_not];omega
 rw [hla];refine Co λW2 hW2=> ?_;have hk12:K0 w1 W2:=by rw [hW2];exact Keeps.alloc _ _
 have hs6:W2.heap[w1.heap.size]?=some (.cells #[.int .i64 la] 3 (0,0)):=by rw [hW2];exact heap_alloc_new w1 _
 clear hW2;refine j2z ?_;intro k0 k1 k2 kl hkw2;obtain⟨Hk12,Hs6,Hkw2,Hu,Hla⟩:=hid5 hk12 hs6 hkw2 hu hla;clear hla hu hkw2 hs6 hk12;refine Ak (λW=>((W.cell? ⟨w1.heap.size,0,none⟩=some (.int .i64 la)/\w1.heap.size<W.heap.size)/\(W.cell? ⟨w.heap.size,0,none⟩=some (.pointer (some ⟨J,0,none⟩))/\w.heap.size<W.heap.size)/\W.cell? ⟨J,0,none⟩=some (.pointer (some ⟨P,0,none⟩))/\J<W.heap.size)/\K0 W2 W) (.take 0 (.take 1 (.take 2 (.take 3 (.take 4 (.take 5 (.take 6 .done))))))) j9 j9 ?_ ?_
 ·exact j2A
 intro w3 hs3 hk3;have Hk3:=Lib.hid hs3.2;clear hs3 hk3;refine jR ?_;refine Ey (v:= ?_) rfl (by rfl) ?_ ?_ ?_ ?_ ?_
 rotate_left 3
 ·exact j0f
 ·intro w' hSw;exact(Hlen.o w' (Keeps.nt Hkw2.o hSw.2))
 rotate_right 3
 try simp only [aps]
 refine j2B ?_;intro b0 b1 b2 b3 Hk23;clear k0 k1 k2 a0 a1 a2 a3
 go_wp2_with (go_at_call 110;(with_reducible refine(Yk ad m cap _).mono ?_);rintro e w5 ⟨rfl,rfl⟩)
 obtain⟨gs,os,hads⟩:∃gs os,ad=some ⟨gs,os,none⟩:=by
  exact j2C
 subst hads;refine Co λW0 hW0=> ?_;have hk30:K0 w3 W0:=by rw [hW0];exact Keeps.nt (Keeps.nt (Keeps.alloc _ _) (Keeps.alloc _ _)) (Keeps.alloc _ _)
 have hsz:W0.heap.size=w3.heap.size+3:=by rw [hW0];simp
 have e0b:W0.heap[w3.heap.size]?=some (.cells #[.int .i64 (u:Int)] 3 (0,0)):=by rw [hW0];exact Ad (heap_alloc_new w3 _) (Keeps.nt (Keeps.alloc (S:=λ_=>False) _ _) (Keeps.alloc _ _)) (by simp)
 have e0:W0.cell? ⟨w3.heap.size,0,none⟩=some (.int .i64 (u:Int)):=Aa e0b 0;have e1:W0.cell? ⟨w3.heap.size+1,0,none⟩=some (.slice (some ⟨gs,os,none⟩) m cap):=by rw [hW0];exact Aa (Ad (Gd w3 _ _) (Keeps.alloc (S:=λ_=>False) _ _) (by simp)) 0
 have e2:W0.cell? ⟨w3.heap.size+2,0,none⟩=some (.int .i64 41):=by rw [hW0];have:=heap_alloc_new ((w3.alloc (.cells #[.int .i64 (u:Int)] 3)).alloc (.cells #[.slice (some ⟨gs,os,none⟩) m cap] 24)) (.cells #[.int .i64 41] 3);rw [World.size_alloc,World.size_alloc] at this;exact Aa this 0
 clear hW0;refine(wpIn_wide (n:=3)).1 ?_;refine j0y ?_;intro hfw;have hfoot:∀k,PFoot P v k->k<w3.heap.size:=λk hk=>by have:=hfw k hk;have:=Hk12.o.size;have:=Hk23.o.size;omega
 refine j2D ?_;intro hJw hnJ0 nb hnb;rw [hnb] at e0 e0b e1 e2 hsz hfoot⊢;have hp0:PadAt W0 P v p:=Hp.o.keeps ((Hkw2.o.nt Hk23.o).nt hk30) (by simp);have hu20:u<20000:=by have:=Hp.o.n;omega
 refine' wpIn_rangeFunc_ownF (F:=Fence.wide) rfl j6 (gf:=150) (lb:= #[(.pointer (some ⟨nb+1,0,none⟩)),(.pointer (some ⟨nb+2,0,none⟩))]) (by rfl) trivial (enters_of Tryz.func150 j9 rfl)
  (Sg 2 j6 (nb+1) (nb+2) gs os m cap j6 (by obtain⟨ad',c',he,h1,h2,h3,_⟩:=Hr.o;cases he;omega) W0 j6 j6 e1 e2)
  (λh k=>h.trans k) (λW l o o' hl _ _ _=>⟨World.putObj_heap_other j6,World.putObj_heap_other j6⟩) (Below.refl _ _) (λ_=>rfl)
  (fun(pre:List (Ck m)) W=>pre= []/\W.heap[nb]?=some (.cells #[.int .i64 (u:Int)] 3 (0,0))/\PadAt W P v p/\K0 W0 W)
  (λc (pre:List (Ck m)) W=>SnagI (w.heap.size+1) P v u B p W0 W/\c= .ret) ?own ?own2 ⟨rfl,e0b,hp0,Keeps.refl _ _⟩ _ ?assign ?body ?done ?stop
 case own=>
  intro s A C row ⟨h0,hb,hpad,hkk⟩ hg hr;have hK:=Keeps.grown hg;have hno:∀k,k<W0.heap.size->¬row=some k:=λk hk e=>by have:=(hr k e).1;omega
  exact⟨h0,by rw [hK.block _ (lt_of_block hb) (hno _ j6)];exact hb,hpad.keeps hK (λk hf=>hno k (by have:=hfoot k hf;omega)),hkk.trans (hK.mono λi _ e=> .inr (hr i e).1)⟩
 case own2=>
  intro c s A C row ⟨⟨h1,h2,h3⟩,h4⟩ hg hr;have hK:=Keeps.grown hg;have hno:∀k,k<W0.heap.size->¬row=some k:=λk hk e=>by have:=(hr k e).1;omega
  have hs0:=hk30.size;have hs1:=Hk12.o.size;have hs2:=Hk23.o.size;exact⟨⟨Ad h1 hK (hno _ j6),h2.keeps hK (λk hf=>hno k (by have:=hfoot k hf;omega)),h3.trans (hK.mono λi _ e=> .inr (hr i e).1)⟩,h4⟩
 case assign=>
  intro l x W K hK
  gi_wp2
  exact hK
 case body=>
  rintro l pre x W ⟨rfl,hb,hpad,hkk⟩ hlen;obtain⟨x,hx⟩:=x;obtain rfl:x=0:=by omega
  have hnl:min 41 (m-0*41)=m:=j8;unfold Vk;dsimp only;rw [hnl,show os+0*41=os by omega];have hkW:K0 w3 W:=hk30.nt hkk;have lw3:w.heap.size<w3.heap.size/\w1.heap.size<w3.heap.size/\J<w3.heap.size:=by have:=Hk12.o.size;have:=Hk23.o.size;omega
  have f0:W.cell? ⟨nb,0,none⟩=some (.int .i64 (u:Int)):=Aa hb 0;have f1:W.cell? ⟨w.heap.size,0,none⟩=some (.pointer (some ⟨J,0,none⟩)):=(hkW.cell lw3.1 (by simp)).trans b1;have f2:W.cell? ⟨J,3,none⟩=some (.int .i64 (u:Int)):=(hkW.cell lw3.2.2 (by simp)).trans b3;have f3:W.cell? ⟨w1.heap.size,0,none⟩=some (.int .i64 la):=(hkW.cell lw3.2.1 (by simp)).trans b0;have f4:W.cell? ⟨J,0,none⟩=some (.pointer (some ⟨P,0,none⟩)):=(hkW.cell lw3.2.2 (by simp)).trans b2;have l0:=lt_of_block hb;have l1:w.heap.size<W.heap.size/\w1.heap.size<W.heap.size/\J<W.heap.size:=by have:=hkW.size;omega
  obtain⟨l1,l2,l3⟩:=l1;clear b0 b1 b2 b3;have hRW:=Ad (Ad (Ad HbR.o Hk12.o (by simp)) Hk23.o (by simp)) hkW (by simp);have nfR:¬PFoot P v (w.heap.size+1):=λe=>by have:=hfw _ e;omega
  obtain⟨Hb,Hpad,Hkk,HkW⟩:=hid4 hb hpad hkk hkW;clear hkW hkk hpad hb
  gi_wp2_with fail
  obtain⟨q,hq⟩:∃z:Int,(u:Int)=z:=⟨_,rfl⟩
  have hcl:∀i,(PFoot P v i\/i=w.heap.size+1)->∀o,W.heap[i]?=some o->o.isCells=true:=by
   intro i hi o ho;rcases hi with(rfl|hi)|rfl
   ·rw [Hpad.o.blk] at ho;cases ho;rfl
   ·exact j2E
   ·rw [hRW] at ho;cases ho;rfl
  obtain⟨Hcl,HRW⟩:=hid2 hcl hRW;clear hRW hcl;rw [hq] at f0 f2;have hli:(q==la)=true:=by have:=Hla.o;simp only [beq_iff_eq];omega
  obtain⟨G,hG⟩:=eX (pageR u true true B)
  have hpg:∀V,K0 W V->Calls Tryz.prog 111 #[.int .i64 q,.bool true,.bool true,.slice (some ⟨gs,os,none⟩) m m] V (PgPost V G):=by
   intro V hV;have hkV:K0 w V:=((Hkw2.o.nt Hk23.o).nt HkW.o).nt hV;have hrV:Reads V 1 (.slice (some ⟨gs,os,none⟩) m m) m (B.flatMap u8c):=(Hr.o.keeps hkV (by simp)).capOf (Nat.le_refl _);have hok:=Abn u true true (some ⟨gs,os,none⟩) m B V (by rw [hm];exact hrV) hB j6 j6 j6 (.inr rfl);rw [hm,hq] at hok;refine hok.mono ?_;rintro e w' ⟨rfl,hk'⟩;exact⟨⟨_,by rw [<-hG]⟩,hk'⟩
  obtain⟨xl,hxl,hxl0⟩:=hfr
  have hink:∀V,K0 W V->Calls Tryz.prog 112 #[(.pointer (some ⟨P,0,none⟩)),.int .i64 q,.agg (b48 G).toArray] V λe w'=>e= .returned (.int .i64 15)/\Tt P v (snagP u G p) V w':=by
   intro V hV;have:=Xt P v _ u xl G V (Hpad.o.keeps hV (by simp)) hfl1 hd hxl hxl0;simp only [hs,Cm,sinkR,if_true,hd] at this;rw [hq] at this
   simpa [snagP] using this
  have np0:¬PFoot P v nb:=λe=>by have:=hfoot _ e;omega
  have np1:¬PFoot P v w.heap.size:=λe=>by have:=hfw _ e;omega
  have np2:¬PFoot P v J:=hnJ0;have Hink:=Lib.hid hink;clear hink;obtain⟨Hpg,Hli,HG,Hq⟩:=hid4 hpg hli hG hq;clear hq hG hli hpg;refine Dr (ja12 W nb w.heap.size J w1.heap.size (.int .i64 q) (.pointer (some ⟨J,0,none⟩)) (.int .i64 q) (.int .i64 la)) (.take 0 (.take 1 (.take 2 (.take 3 (.take 4 (.take 5 (.take 6 (.take 7 (.take 8 (.take 9 (.take 10 (.fork 11 (.take 12 (.take 13 (.take 14 (.move 15 (.move 16 (.take 17 .done)))))) 15 (.move 11 (.take 12 (.take 13 (.take 14 (.move 16 (.take 17 .done)))))))))))))))))) j9 j9 ?_ ?_
  ·exact⟨⟨⟨f0,l0⟩,⟨f1,l1⟩,⟨f2,l3⟩,⟨f3,l2⟩⟩,Keeps.drew _⟩
  intro w6 hs6 hk6;have Hs6:=Lib.hid hs6;clear hs6 hk6;refine jR ?_
  try rw [Hli.o]
  refine Dk ?_ ?_ Hs6.o
  ·skip
   refine ja ?_;intro K hK
   go_at_call 111
   ((with_reducible refine(Hpg.o _ Hs6.o.kept).mono ?_);rintro e w7 ⟨⟨er,rfl⟩,hk7⟩)
   have hs7:=Hs6.o.keep hk7;refine hK.out _ _ (by exact hs7) ?_;clear hK K;refine jc ?_;have Hs7:=Lib.hid hs7;clear hs7 hk7;refine je ?_;intro K hK;refine hK.out _ _ (by exact Hs7.o.keep (Keeps.alloc _ _)) ?_;clear hK K;refine j2F ?_;refine Ao (NoOut.normal (Gz λW8 hW8=> ?_));obtain⟨E,hE⟩:=eX w7.heap.size;have hs8:ja12 W nb w.heap.size J w1.heap.size (.int .i64 q) (.pointer (some ⟨J,0,none⟩)) (.int .i64 q) (.int .i64 la) W8:=by rw [hW8];exact Hs7.o.keep ((Keeps.alloc _ _).trans ((Keeps.setRow _ _ _).mono λi _ e=> .inr (Nat.le_of_eq e.symm)))
   have hb8:W8.heap[E]?=some (.cells (b48 G).toArray 75 (0,0)):=by rw [hW8,<-hE];exact setRow_heap _ _ _ _ _ _ (heap_alloc_new w7 _)
   have hEn:nb<E:=by rw [<-hE];exact Hs7.o.1.1.2
   rw [hE];clear hW8;exact j4J
  ·skip
   refine ja ?_;intro K hK;refine hK.out _ _ (by exact Hs6.o.keep (Keeps.alloc _ _)) ?_;clear hK K;refine jc ?_;refine ja ?_;intro K hK
   go_at_call 111
   ((with_reducible refine(Hpg.o _ (Hs6.o.keep (Keeps.alloc _ _)).kept).mono ?_);rintro e w7 ⟨⟨er,rfl⟩,hk7⟩)
   refine j2H ?_;intro hs7 hb7;clear hK K;refine jc ?_;have Hs7:=Lib.hid hs7;have Hb7:=Lib.hid hb7;have Hk7:=Lib.hid hk7;clear hs7 hk7 hb7;refine j2I ?_;intro hs8 hb8';refine Ao (NoOut.normal (Gz λW8 hW8=> ?_));obtain⟨E,hE⟩:=eX w6.heap.size;rw [<-hW8] at hs8 hb8';rw [hE] at hb8'⊢;have hEn:nb<E:=by rw [<-hE];exact Hs6.o.1.1.2
   have hb8:=hb8';clear hW8 hb8';exact j4J
 case done=>
  rintro D ys W hD hS ⟨h0,hb,hpad,hkk⟩ hK;exfalso;have hys:ys.length=chunks m:=by have:=congrArg List.length hS;simpa using this
  rw [h0] at hys;simp at hys;omega
 case stop=>
  rintro D c pre W hD _ ⟨⟨hR,hpad,hkk⟩,rfl⟩ hK;have hs23:=Hk23.o.size;have hs12:=Hk12.o.size;have hs1:=Hkw1.o.size;have hk0:K0 w W0:=(Hkw2.o.nt Hk23.o).nt hk30;have hkB:Keeps (PFoot P v) w W:=(hk0.mono (by simp)).trans (hkk.mono λi _ e=>e.imp id λe=>by omega);have hRD:¬w.heap.size+1=D:=λe=>by rw [<-e,hR] at hK;cases hK
  have hk2:Keeps (λk=>some D=some k) W (W.putObj D (.deferred none)):=Keeps.grown (grownBy_putObj' _ D (.deferred none));have hR2:=Aa (Ad hR hk2 (λe=>hRD (Option.some.inj e).symm)) 0;have hkE:Keeps (PFoot P v) w (W.putObj D (.deferred none)):=hkB.trans (hk2.mono λi _ e=> .inr (by have:=Option.some.inj e;omega));have hpE:=hpad.keeps hk2 (λk hk e=>by have:=hfw k hk;have:=Option.some.inj e;omega);have hjE:JrnAt (W.putObj D (.deferred none)) J P fl vl u:=⟨Ad Hj.o.blk hkE hnJ0⟩
  have hrE:=hkE.row Hrl.o (λk hk e=>by
   rcases e with rfl|e
   ·exact Ai Hrl.o Hp.o.blk j7 hk
   ·exact Ef Hrl.o Hp.o.row (by decide) hk e)
  clear hR hpad hkk;obtain⟨HK,HR2,HkE,HpE,HjE,HrE⟩:=hid6 hK hR2 hkE hpE hjE hrE;clear hrE hjE hpE hkE hR2 hK
  gi_wp2
  refine⟨by simp,.inl ⟨_,_,rfl,run_takeDeferred HK.o, ?_⟩⟩;exact⟨.int .i64 15,by simp [results,Tryz.results60,go_sem,HR2.o],rfl,HjE.o,HrE.o,HpE.o,HkE.o⟩
end Go.Proofs.YtgbgmadkmabeeaaGreat
