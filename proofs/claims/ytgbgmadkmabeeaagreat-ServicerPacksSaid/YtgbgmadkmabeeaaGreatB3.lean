/- Part 3 of what the laws of this seat share: walks of functions, and plain laws. -/
import Derived.Test.YtgbgmadkmabeeaaGreatB2
set_option maxRecDepth 100000
set_option maxHeartbeats 3200000
namespace Go.Proofs.YtgbgmadkmabeeaaGreat
open Go.RowKit Go.IntWalk Go.Shelf
attribute [local go_sem] Oper.semAt_some
theorem Ze{w W w6 W10:World}{J P R D nr nn:Nat}{v vl vl':Value}{R':List Value}{p':Pd}{fl:Int}(hp0:∀k,PFoot P v k->k<w.heap.size)(hJw:J<w.heap.size)(hvw:∀k,vl.ownBlock=some k->k<w.heap.size)(hJP:¬PFoot P v J)(hvP:∀k,vl.ownBlock=some k->¬PFoot P v k)
  (hW:Keeps (PFoot P v) w W) (hk6:Keeps (PFoot P v) W w6) (hp6:PadAt w6 P v p') (hk:Keeps (λi=>i=J\/vl.ownBlock=some i) w6 W10) (hJ:W10.heap[J]?=some (.cells #[(.pointer (some ⟨P,0,none⟩)),.int .i64 fl,vl',.int .i64 (nn:Int)] 168 (0,0))) (hrow:W10.ownsRow 0 24 1 vl' nr R')
  (hv:∀g,vl'.ownBlock=some g->vl.ownBlock=some g\/w6.heap.size<=g) (hR:w6.heap[R]?=some (.cells #[.int .i64 0] 27 (0,0))) (hRw:w.heap.size<=R) (hD:w.heap.size<=D) (hDv:w6.heap[D]?=some (.deferred (some []))):
  (W10.setCell ⟨R,0,none⟩ (.int .i64 0)).heap[D]?=some (.deferred (some []))/\((W10.setCell ⟨R,0,none⟩ (.int .i64 0)).putObj D (.deferred none)).cell? ⟨R,0,none⟩=some (.int .i64 0)/\
  JrnAt ((W10.setCell ⟨R,0,none⟩ (.int .i64 0)).putObj D (.deferred none)) J P fl vl' nn/\((W10.setCell ⟨R,0,none⟩ (.int .i64 0)).putObj D (.deferred none)).ownsRow 0 24 1 vl' nr R'/\PadAt ((W10.setCell ⟨R,0,none⟩ (.int .i64 0)).putObj D (.deferred none)) P v p'/\
  Keeps (λk=>k=J\/PFoot P v k\/vl.ownBlock=some k) w ((W10.setCell ⟨R,0,none⟩ (.int .i64 0)).putObj D (.deferred none))/\(∀g,vl'.ownBlock=some g->vl.ownBlock=some g\/w.heap.size<=g):=by
 have hs6:w.heap.size<=w6.heap.size:=Nat.le_trans hW.size hk6.size
 have hne:∀k,w.heap.size<=k->¬(k=J\/vl.ownBlock=some k):=λk hk e=>by
  rcases e with e|e
  ·omega
  ·have:=hvw k e;omega
 have hR10:=Ad hR hk (hne R hRw);have hD10:=Ad hDv hk (hne D hD);have hRD:R≠D:=λe=>by rw [e,hDv] at hR;cases hR
 have hk1:Keeps (λk=>k=R) W10 (W10.setCell ⟨R,0,none⟩ (.int .i64 0)):=Keeps.setCell _ _ _ rfl;have hD11:=Ad hD10 hk1 (λe=>hRD e.symm);have hk2:Keeps (λk=>some D=some k) (W10.setCell ⟨R,0,none⟩ (.int .i64 0)) ((W10.setCell ⟨R,0,none⟩ (.int .i64 0)).putObj D (.deferred none)):=Keeps.grown (grownBy_putObj' _ D (.deferred none));have hR11:(W10.setCell ⟨R,0,none⟩ (.int .i64 0)).heap[R]?=some (.cells #[.int .i64 0] 27 (0,0)):=(heap_setCell_same _ _ 0 _ _ (.int .i64 0) hR10).trans rfl;have hR12:=Ad hR11 hk2 (λe=>hRD (Option.some.inj e).symm);have hk12:Keeps (λk=>k=R\/k=D) W10 ((W10.setCell ⟨R,0,none⟩ (.int .i64 0)).putObj D (.deferred none)):=(hk1.mono λi _ e=> .inl e).trans (hk2.mono λi _ e=> .inl (.inr (Option.some.inj e).symm))
 have hv10:∀g,vl'.ownBlock=some g->¬(g=R\/g=D):=λg hg e=>by
  rcases e with rfl|rfl
  ·exact Ai hrow hR10 j7 hg
  ·rcases hrow.2 with⟨hn,_⟩|⟨g',c',cur,hn,_,hgg,_⟩
   ·rw [hn] at hg;simp [Value.ownBlock] at hg
   ·rw [hn] at hg;have e':g'=g:=Option.some.inj hg;rw [e',hD10] at hgg;cases hgg
 have hp10:=hp6.keeps hk λk hk e=>e.elim (λe=>hJP (e▸hk)) λe=>hvP k e hk;refine⟨hD11,Aa hR12 0,⟨Ad hJ hk12 λe=>by omega⟩,hk12.row hrow hv10,hp10.keeps hk12 λk hk e=>by have:=hp0 k hk;omega, ?_,λg hg=>(hv g hg).imp id λh=>by omega⟩;refine(hW.mono λi _ e=> .inr (.inl e)).trans ((hk6.mono λi _ e=> .inl (.inr (.inl e))).trans ((hk.mono λi _ e=> .inl (.inl ?_)).trans (hk12.mono λi _ e=> .inl (.inl (.inr ?_)))))
 ·omega
 ·exact e.imp id .inr
theorem jAdd_ok(J P u m nr:Nat)(v:Value)(p:Pd)(fl:Int)(vl:Value)(RL:List Value)(ad:Option Addr)(cap:Nat)(B:List Int)(w:World)(hj:JrnAt w J P fl vl u)(hrl:w.ownsRow 0 24 1 vl nr RL)(hnr:nr<=1000000)(hp:PadAt w P v p)(hd:p.dn=false)(hf:p.fl=fl)(hs:p.sn=0)
  (hm:B.length=m) (hr:Reads w 1 (.slice ad m cap) m (B.flatMap u8c)) (hsep:∀k,(Value.slice ad m cap).ownBlock=some k->¬PFoot P v k) (hB:∀z∈B,0<=z/\z<=255) (h1:1<=m) (h2:m<=1000000) (hroom:u+chunks m<=p.l.length) (hfl1:p.fl+1<=1000000) (hfr:∀i,u<=i->i<u+chunks m->∃x,p.l[i]?=some x/\x.is=0):
  Calls Tryz.prog 60 #[(.pointer (some ⟨J,0,none⟩)),.slice ad m cap] w (JAddPost w J P v p fl vl u nr m B):=by
 have hup:=λW (hW:Keeps (λ_=>False) w W)=>jUp_any J P v p fl vl u W ⟨Ad hj.blk hW (by simp)⟩ (hp.keeps hW (by simp));simp only [hd,hf,Bool.false_eq_true,ne_eq,not_true,or_self,if_false] at hup;have hlen:∀W,Keeps (λ_=>False) w W->Calls Tryz.prog 26 #[(.pointer (some ⟨P,0,none⟩))] W λe w'=>e= .returned (.int .i64 p.l.length)/\W=w':=λW hW=>(Tq P v p W (hp.keeps hW (by simp))).mono λe w' h=>⟨h.1,h.2.symm⟩;have m1:(1:Int)<=(m:Int):=j8;have m2:(m:Int)<=1000000:=j8;have m3:((m:Int)==0)=false:=by simp;omega
 obtain⟨i0,hi,hi0,hi1,hi2⟩:=info_parts Ab1;obtain⟨Hj,Hp,Hr,Hup,Hlen,Hrl,Hi,Hi0,Hi1⟩:=hid9 hj hp hr hup hlen hrl hi hi0 hi1;clear hi1 hi0 hi hrl hlen hup hr hp hj;have Hi2:=Lib.hid hi2;clear hi2;refine callsIn_wide.1 (callsIn_of_wp_marks (F:=Fence.wide) (n:=3) Tryz.func60 rfl trivial ?_ rfl);simp only [Tryz.ntmps60,List.size_toArray,List.length_cons,List.length_nil,Nat.reduceAdd,Nat.reduceSub,Array.replicate_succ,Array.replicate_zero,List.push_toArray,List.append_toArray,List.nil_append,List.cons_append];refine wpIn_wide.2 ?_
 go_wp2_with (go_at_call 67;(with_reducible refine(Hup.out _ (Keeps.nt (Keeps.alloc _ _) (Keeps.alloc _ _))).mono ?_);rintro e w1 ⟨rfl,hk1⟩;have hkw1:=Keeps.nt (Keeps.nt (Keeps.alloc (S:=λ_=>False) w _) (Keeps.alloc _ _)) hk1;have hbJ:=Ad (Ad (heap_alloc_new w (.cells #[(.pointer (some ⟨J,0,none⟩))] 110)) (Keeps.alloc (S:=λ_=>False) _ (.cells #[.int .i64 0] 27)) (by simp)) hk1 (by simp);have hbR:=Ad (alloc2 w (.cells #[(.pointer (some ⟨J,0,none⟩))] 110) (.cells #[.int .i64 0] 27)) hk1 (by simp);have hj1:=Ad Hj.out.blk hkw1 (by simp);have a0:=Aa hbJ 0;have a1:=Aa hbR 0;have a2:=Aa hj1 0;have a3:=Aa hj1 3;have g0:=Ab hbR 0;have lJ:=lt_of_block hbJ;have lR:=lt_of_block hbR;have lj:=lt_of_block hj1;have Hkw1:=Lib.hid hkw1;have HbJ:=Lib.hid hbJ;have HbR:=Lib.hid hbR;have Hj1:=Lib.hid hj1;clear hk1 hkw1 hbJ hbR hj1)
 have hu:wrap64 ((u:Int)+((m:Int)-1) / 41)=(u:Int)+((m:Int)-1) / 41:=wrap64_in _ ⟨by omega,by have:=Hp.out.n;unfold chunks at hroom;omega⟩;rw [hu];obtain⟨la,hla⟩:∃x,(u:Int)+((m:Int)-1) / 41=x:=⟨_,rfl⟩;have hla2:la<(p.l.length:Int):=by unfold chunks at hroom;omega
 have hla3:decide ((p.l.length:Int)<=la)=false:=by rw [decide_eq_false_iff_not];omega
 rw [hla];refine Da λW2 hW2=> ?_;have hk12:Keeps (λ_=>False) w1 W2:=by rw [hW2];exact Keeps.alloc _ _
 have hs6:W2.heap[w1.heap.size]?=some (.cells #[.int .i64 la] 3 (0,0)):=by rw [hW2];exact heap_alloc_new w1 _
 clear hW2;have k0:W2.cell? ⟨w1.heap.size,0,none⟩=some (.int .i64 la):=Aa hs6 0;have k1:W2.cell? ⟨w.heap.size,0,none⟩=some (.pointer (some ⟨J,0,none⟩)):=(hk12.cell lJ (by simp)).trans a0;have k2:W2.cell? ⟨J,0,none⟩=some (.pointer (some ⟨P,0,none⟩)):=(hk12.cell lj (by simp)).trans a2;have kl:=lt_of_block hs6;have hkw2:Keeps (λ_=>False) w W2:=Keeps.nt Hkw1.out hk12;obtain⟨Hk12,Hs6,Hkw2,Hu,Hla⟩:=hid5 hk12 hs6 hkw2 hu hla;clear hla hu hkw2 hs6 hk12;refine Al (λW=>((W.cell? ⟨w1.heap.size,0,none⟩=some (.int .i64 la)/\w1.heap.size<W.heap.size)/\(W.cell? ⟨w.heap.size,0,none⟩=some (.pointer (some ⟨J,0,none⟩))/\w.heap.size<W.heap.size)/\W.cell? ⟨J,0,none⟩=some (.pointer (some ⟨P,0,none⟩))/\J<W.heap.size)/\Keeps (λ_=>False) W2 W) (.take 0 (.take 1 (.take 2 (.take 3 (.take 4 (.take 5 (.take 6 .done))))))) j9 j9 ?_ ?_
 ·exact⟨⟨⟨k0,kl⟩,⟨k1,by have:=Hk12.out.size;simp;omega⟩,k2,by have:=Hk12.out.size;simp;omega⟩,Keeps.drew _⟩
 intro w3 hs3 hk3;have Hk3:=Lib.hid hs3.2;clear hs3 hk3;refine jR ?_;refine Fp (v:= ?_) rfl (by rfl) ?_ ?_ ?_ ?_ ?_
 rotate_left 3
 ·exact j0z
 ·intro w' hSw;exact(Hlen.out w' (Keeps.nt Hkw2.out hSw.2))
 rotate_right 3
 try simp only [aps]
 refine jn ?_;have hk23:Keeps (λ_=>False) W2 w3:=Hk3.out;have b0:w3.cell? ⟨w1.heap.size,0,none⟩=some (.int .i64 la):=(hk23.cell kl (by simp)).trans k0;have b1:w3.cell? ⟨w.heap.size,0,none⟩=some (.pointer (some ⟨J,0,none⟩)):=(hk23.cell (by have:=Hk12.out.size;simp;omega) (by simp)).trans k1;have b2:w3.cell? ⟨J,0,none⟩=some (.pointer (some ⟨P,0,none⟩)):=(hk23.cell (by have:=Hk12.out.size;simp;omega) (by simp)).trans k2;have b3:w3.cell? ⟨J,3,none⟩=some (.int .i64 (u:Int)):=((Keeps.nt Hk12.out hk23).cell lj (by simp)).trans a3;have Hk23:=Lib.hid hk23;clear hk23;clear k0 k1 k2 a0 a1 a2 a3
 go_wp2_with (go_at_call 110;(with_reducible refine(chunk_any ad m cap _).mono ?_);rintro e w5 ⟨rfl,rfl⟩)
 obtain⟨gs,os,hads⟩:∃gs os,ad=some ⟨gs,os,none⟩:=by
  obtain⟨x0,hx0⟩:=Aq (show 0<B.length by omega);obtain⟨gs,os,hads,_⟩:=Reads.int (k:= .u8) Hr.out hx0;exact⟨gs,os,hads⟩
 subst hads;refine Da λW0 hW0=> ?_;have hk30:Keeps (λ_=>False) w3 W0:=by rw [hW0];exact Keeps.nt (Keeps.nt (Keeps.alloc _ _) (Keeps.alloc _ _)) (Keeps.alloc _ _)
 have hsz:W0.heap.size=w3.heap.size+3:=by rw [hW0];simp
 have e0b:W0.heap[w3.heap.size]?=some (.cells #[.int .i64 (u:Int)] 3 (0,0)):=by rw [hW0];exact Ad (heap_alloc_new w3 _) (Keeps.nt (Keeps.alloc (S:=λ_=>False) _ _) (Keeps.alloc _ _)) (by simp)
 have e0:W0.cell? ⟨w3.heap.size,0,none⟩=some (.int .i64 (u:Int)):=Aa e0b 0;have e1:W0.cell? ⟨w3.heap.size+1,0,none⟩=some (.slice (some ⟨gs,os,none⟩) m cap):=by rw [hW0];exact Aa (Ad (Jb w3 _ _) (Keeps.alloc (S:=λ_=>False) _ _) (by simp)) 0
 have e2:W0.cell? ⟨w3.heap.size+2,0,none⟩=some (.int .i64 41):=by rw [hW0];have:=heap_alloc_new ((w3.alloc (.cells #[.int .i64 (u:Int)] 3)).alloc (.cells #[.slice (some ⟨gs,os,none⟩) m cap] 24)) (.cells #[.int .i64 41] 3);rw [World.size_alloc,World.size_alloc] at this;exact Aa this 0
 clear hW0;refine(wpIn_wide (n:=3)).1 ?_
 have hfw:∀k,PFoot P v k->k<w.heap.size:=by
  rintro k (rfl|hk)
  ·exact lt_of_block Hp.out.blk
  ·exact(Hp.out.row.lt k hk).2
 have hfoot:∀k,PFoot P v k->k<w3.heap.size:=λk hk=>by have:=hfw k hk;have:=Hk12.out.size;have:=Hk23.out.size;omega
 have hJw:J<w.heap.size:=lt_of_block Hj.out.blk
 have hnJ0:¬PFoot P v J:=by
  rintro(e|e)
  ·have h1:=Hj.out.blk;rw [e,Hp.out.blk] at h1;simp at h1
  ·exact Ai Hp.out.row Hj.out.blk j7 e
 obtain⟨nb,hnb⟩:∃x,w3.heap.size=x:=⟨_,rfl⟩;rw [hnb] at e0 e0b e1 e2 hsz hfoot⊢;have hp0:PadAt W0 P v p:=Hp.out.keeps ((Hkw2.out.nt Hk23.out).nt hk30) (by simp);have hN:chunks m<=20000:=by have:=Hp.out.n;omega
 refine' wpIn_rangeFunc_ownF (F:=Fence.wide) rfl j6 (gf:=150) (lb:= #[(.pointer (some ⟨nb+1,0,none⟩)),(.pointer (some ⟨nb+2,0,none⟩))]) (by rfl) trivial (enters_of Tryz.func150 j9 rfl)
  (Abi 2 j6 (nb+1) (nb+2) gs os m cap j6 (by obtain⟨ad',c',he,h1,h2,h3,_⟩:=Hr.out;cases he;omega) W0 j6 j6 e1 e2)
  (λh k=>h.trans k) (λW l o o' hl _ _ _=>⟨World.putObj_heap_other j6,World.putObj_heap_other j6⟩) (Below.refl _ _) (λ_=>rfl)
  (fun(pre:List (Ck m)) W=>W.heap[nb]?=some (.cells #[.int .i64 ((u+pre.length:Nat):Int)] 3 (0,0))/\PadAt W P v { p with l:=inkL u (chunks m) B 0 (pre.map Subtype.val) p.l }/\Keeps (λk=>PFoot P v k\/k=nb) W0 W)
  (λ_ _ _=>False) ?own (λc s A C row hs _ _=>hs) ⟨e0b,hp0,Keeps.refl _ _⟩ _ ?assign ?body ?done ?stop
 case own=>
  intro s A C row ⟨hb,hpad,hkk⟩ hg hr;have hK:=Keeps.grown hg;have hno:∀k,k<W0.heap.size->¬row=some k:=λk hk e=>by have:=(hr k e).1;omega
  exact⟨by rw [hK.block _ (lt_of_block hb) (hno _ j6)];exact hb,hpad.keeps hK (λk hf=>hno k (by have:=hfoot k hf;omega)),hkk.trans (hK.mono λi _ e=> .inr (hr i e).1)⟩
 case assign=>
  intro l x W K hK
  gi_wp2
  exact hK
 case body=>
  rintro l pre x W ⟨hb,hpad,hkk⟩ hlen;obtain⟨x,hx⟩:=x;obtain⟨k,hk⟩:∃k,pre.length=k:=⟨_,rfl⟩;have hk20:u+k<20000:=by rw [<-hk];have:=Hp.out.n;omega
  obtain⟨nl,hnl⟩:∃y,min 41 (m-x*41)=y:=⟨_,rfl⟩;unfold Za;dsimp only;rw [hnl];have hkW:Keeps (λk=>PFoot P v k\/k=nb) w3 W:=(hk30.mono (by simp)).trans (hkk.mono λi _ e=> .inl e);have hnJ:¬(PFoot P v J\/J=nb):=λe=>e.elim hnJ0 λe=>by have:=Hk12.out.size;have:=Hk23.out.size;omega
  have hnj:∀i,i<w3.heap.size->(i=w.heap.size\/i=w1.heap.size)->¬(PFoot P v i\/i=nb):=λi hi e ff=>by
   rcases ff with ff|ff
   ·have:=hfw i ff;omega
   ·omega
  have lw3:w.heap.size<w3.heap.size/\w1.heap.size<w3.heap.size/\J<w3.heap.size:=by have:=Hk12.out.size;have:=Hk23.out.size;omega
  have f0:W.cell? ⟨nb,0,none⟩=some (.int .i64 ((u+k:Nat):Int)):=by rw [<-hk];exact Aa hb 0
  have f1:W.cell? ⟨w.heap.size,0,none⟩=some (.pointer (some ⟨J,0,none⟩)):=(hkW.cell lw3.1 (hnj _ lw3.1 (.inl rfl))).trans b1;have f2:W.cell? ⟨J,3,none⟩=some (.int .i64 (u:Int)):=(hkW.cell lw3.2.2 hnJ).trans b3;have f3:W.cell? ⟨w1.heap.size,0,none⟩=some (.int .i64 la):=(hkW.cell lw3.2.1 (hnj _ lw3.2.1 (.inr rfl))).trans b0;have f4:W.cell? ⟨J,0,none⟩=some (.pointer (some ⟨P,0,none⟩)):=(hkW.cell lw3.2.2 hnJ).trans b2;have l0:=lt_of_block hb;have l1:w.heap.size<W.heap.size/\w1.heap.size<W.heap.size/\J<W.heap.size:=by have:=hkW.size;omega
  obtain⟨l1,l2,l3⟩:=l1;clear b0 b1 b2 b3;obtain⟨Hb,Hpad,Hkk,HkW⟩:=hid4 hb hpad hkk hkW;clear hkW hkk hpad hb
  gi_wp2_with fail
  obtain⟨q,hq⟩:∃z:Int,((u+k:Nat):Int)=z:=⟨_,rfl⟩;have hbq:=Hb.out;rw [hk,hq] at hbq
  have hcl:∀i,(PFoot P v i\/i=nb)->∀o,W.heap[i]?=some o->o.isCells=true:=by
   intro i hi o ho;rcases hi with(rfl|hi)|rfl
   ·rw [Hpad.out.blk] at ho;cases ho;rfl
   ·rcases Hpad.out.row.2 with⟨hv,_⟩|⟨g,c,cur,hv,_,hg,_⟩
    ·rw [hv] at hi;simp [Value.ownBlock] at hi
    ·rw [hv] at hi;simp only [Value.ownBlock,Option.some.injEq] at hi;subst hi;rw [hg] at ho;cases ho;rfl
   ·rw [Hb.out] at ho;cases ho;rfl
  obtain⟨Hbq,Hcl⟩:=hid2 hbq hcl;clear hcl hbq;obtain⟨ui,hui⟩:∃z:Int,(u:Int)=z:=⟨_,rfl⟩;rw [hq] at f0;rw [hui] at f2;obtain⟨fi,hfi⟩:∃z,(q==ui)=z:=⟨_,rfl⟩;obtain⟨li,hli⟩:∃z,(q==la)=z:=⟨_,rfl⟩;obtain⟨G,hG⟩:∃z,pgR (u+k) (k==0) (k+1==chunks m) ((B.drop (x*41)).take 41)=z:=⟨_,rfl⟩
  have hpg:∀V,Keeps (λ_=>False) W V->Calls Tryz.prog 111 #[.int .i64 q,.bool fi,.bool li,.slice (some ⟨gs,os+x*41,none⟩) nl nl] V (PgPost V G):=by
   intro V hV;have hkV:Keeps (λk=>PFoot P v k\/k=nb) w V:=((((Hkw2.out.nt Hk23.out).mono (T:=λk=>PFoot P v k\/k=nb) (by simp)).trans (HkW.out.mono λi _ e=> .inl e))).trans (hV.mono (by simp));have hrV:Reads V 1 (.slice (some ⟨gs,os,none⟩) m cap) m (B.flatMap u8c):=Hr.out.keepB hkV λg hg hl e=>e.elim (hsep g hg) λe=>by have:=Hkw2.out.size;have:=Hk23.out.size;omega
   have hrd:=page_part hrV hm hx hnl;have hCl:((B.drop (x*41)).take 41).length=nl:=by rw [List.length_take,List.length_drop,hm];exact hnl
   have hfk:fi=(k==0):=by rw [<-hfi,Bool.eq_iff_iff];simp only [beq_iff_eq];omega
   have hlk:li=(k+1==chunks m):=by rw [<-hli,Bool.eq_iff_iff];simp only [beq_iff_eq];have:=Hla.out;unfold chunks;omega
   have hx1:x*41<m:=by unfold chunks at hx;omega
   rw [hfk,hlk,<-hq];by_cases hc:nl=41\/(k+1==chunks m)=true
   ·have hok:=jPage_ok (u+k) (k==0) (k+1==chunks m) (some ⟨gs,os+x*41,none⟩) nl _ V (by rw [hCl];exact hrd) (λz hz=>hB z (List.mem_of_mem_drop (List.mem_of_mem_take hz))) j6 (by rw [hCl];omega) (by rw [hCl];omega) (by rw [hCl];exact hc);rw [hCl] at hok;refine hok.mono ?_;rintro e w' ⟨rfl,hk'⟩;exact⟨⟨_,by rw [<-hG];unfold pgR;rw [hCl,if_pos hc]⟩,hk'⟩
   ·have hlf:(k+1==chunks m)=false:=by rcases h:(k+1==chunks m) with _|_;rfl;exact absurd (.inr h) hc
    have hne:¬nl=41:=λh=>hc (.inl h);rw [hlf];refine(jPage_no (u+k) (k==0) (some ⟨gs,os+x*41,none⟩) nl nl V j6 j6 j6).mono ?_;rintro e w' ⟨rfl,hk'⟩;exact⟨⟨_,by rw [<-hG];unfold pgR;rw [hCl,if_neg hc]⟩,hk'⟩
  obtain⟨xl,hxl,hxl0⟩:∃xl,(inkL u (chunks m) B 0 (pre.map Subtype.val) p.l)[u+k]?=some xl/\xl.is=0:=by
   rw [Ab0 u (chunks m) B (u+k) _ _ _ (by simp [hk])];exact hfr (u+k) j6 (by rw [<-hk];omega)
  have hink:∀V,Keeps (λ_=>False) W V->Calls Tryz.prog 112 #[(.pointer (some ⟨P,0,none⟩)),.int .i64 q,.agg (b48 G).toArray] V λe w'=>e= .returned (.int .i64 0)/\Zj P v { p with l:=(inkL u (chunks m) B 0 (pre.map Subtype.val) p.l).set (u+k) ⟨1,G⟩ } V w':=by
   intro V hV;have:=padInk_ok P v _ (u+k) xl G V (Hpad.out.keeps hV (by simp)) hfl1 hd hxl hxl0;simp only [hs,Df,if_neg (show¬(0:Int)=1 by decide),if_true] at this;rw [hq] at this;rw [hs];exact this
  have np0:¬PFoot P v nb:=λe=>by have:=hfoot _ e;omega
  have np1:¬PFoot P v w.heap.size:=λe=>hnj _ lw3.1 (.inl rfl) (.inl e);have np2:¬PFoot P v J:=λe=>hnJ (.inl e);have Hink:=Lib.hid hink;clear hink;obtain⟨Hpg,Hfi,Hli,HG,Hq,Hui⟩:=hid6 hpg hfi hli hG hq hui;clear hui hq hG hli hfi hpg;refine Fy (ja12 W nb w.heap.size J w1.heap.size (.int .i64 q) (.pointer (some ⟨J,0,none⟩)) (.int .i64 ui) (.int .i64 la)) (.take 0 (.take 1 (.take 2 (.take 3 (.take 4 (.take 5 (.take 6 (.take 7 (.take 8 (.take 9 (.take 10 (.fork 11 (.take 12 (.take 13 (.take 14 (.move 15 (.move 16 (.take 17 .done)))))) 15 (.move 11 (.take 12 (.take 13 (.take 14 (.move 16 (.take 17 .done)))))))))))))))))) j9 j9 ?_ ?_
  ·exact⟨⟨⟨f0,l0⟩,⟨f1,l1⟩,⟨f2,l3⟩,⟨f3,l2⟩⟩,Keeps.drew _⟩
  intro w6 hs6 hk6;have Hs6:=Lib.hid hs6;clear hs6 hk6;refine jR ?_;rw [Hfi.out,Hli.out];refine Dn ?_ ?_ Hs6.out
  ·skip
   refine jc ?_;intro K hK
   go_at_call 111
   ((with_reducible refine(Hpg.out _ Hs6.out.kept).mono ?_);rintro e w7 ⟨⟨er,rfl⟩,hk7⟩)
   have hs7:=Hs6.out.keep hk7;refine hK.out _ _ (by exact hs7) ?_;clear hK K;refine ja ?_;have Hs7:=Lib.hid hs7;clear hs7 hk7;refine je ?_;intro K hK;refine hK.out _ _ (by exact Hs7.out.keep (Keeps.alloc _ _)) ?_;clear hK K;refine ja ?_;refine Ag rfl (λK hK=> ?_);rw [if_pos (by rfl)];refine wp_store_row 75 (.tmp 9) (.tmp 57) rfl w7.heap.size (b48 G).toArray rfl rfl 75 (b48 (List.replicate 48 0)).toArray (heap_alloc_new w7 _) Bh rfl (Ec _) ?_;refine hK.out _ _ (by exact Hs7.out.keep ((Keeps.alloc _ _).trans ((Keeps.setRow _ _ _).mono λi _ e=> .inr (Nat.le_of_eq e.symm)))) ?_;clear hK K;refine jh ?_;refine Ap (NoOut.normal (Lh λW8 hW8=> ?_));obtain⟨E,hE⟩:∃x,w7.heap.size=x:=⟨_,rfl⟩;have hs8:ja12 W nb w.heap.size J w1.heap.size (.int .i64 q) (.pointer (some ⟨J,0,none⟩)) (.int .i64 ui) (.int .i64 la) W8:=by rw [hW8];exact Hs7.out.keep ((Keeps.alloc _ _).trans ((Keeps.setRow _ _ _).mono λi _ e=> .inr (Nat.le_of_eq e.symm)))
   have hb8:W8.heap[E]?=some (.cells (b48 G).toArray 75 (0,0)):=by rw [hW8,<-hE];exact setRow_heap _ _ _ _ _ _ (heap_alloc_new w7 _)
   have hEn:nb<E:=by rw [<-hE];exact Hs7.out.1.1.2
   rw [hE];clear hW8;exact j2p
  ·skip
   refine jc ?_;intro K hK;refine hK.out _ _ (by exact Hs6.out.keep (Keeps.alloc _ _)) ?_;clear hK K;refine ja ?_;refine jc ?_;intro K hK
   go_at_call 111
   ((with_reducible refine(Hpg.out _ (Hs6.out.keep (Keeps.alloc _ _)).kept).mono ?_);rintro e w7 ⟨⟨er,rfl⟩,hk7⟩)
   have hs7:=(Hs6.out.keep (Keeps.alloc _ _)).keep hk7;have hb7:w7.heap[w6.heap.size]?=some (.cells (b48 (List.replicate 48 0)).toArray 75 (0,0)):=Ad (heap_alloc_new w6 _) hk7 (by simp);refine hK.out _ _ (by exact hs7) ?_;clear hK K;refine ja ?_;have Hs7:=Lib.hid hs7;have Hb7:=Lib.hid hb7;have Hk7:=Lib.hid hk7;clear hs7 hk7 hb7;refine jR ?_;refine Ag rfl (λK hK=> ?_);rw [if_pos (by rfl)];refine wp_store_row 75 (.tmp 9) (.tmp 57) rfl w6.heap.size (b48 G).toArray rfl rfl 75 (b48 (List.replicate 48 0)).toArray Hb7.out Bh rfl (Ec _) ?_;have hs8:=Hs6.out.keep (Keeps.trans ((Keeps.alloc (S:=λ_=>False) w6 _).nt Hk7.out) ((Keeps.setRow w7 w6.heap.size (b48 G).toArray).mono λi _ e=> .inr (Nat.le_of_eq e.symm)));have hb8':=setRow_heap _ _ _ (b48 G).toArray _ _ Hb7.out;refine hK.out _ _ (by exact hs8) ?_;clear hK K;refine jh ?_;refine Ap (NoOut.normal (Lh λW8 hW8=> ?_));obtain⟨E,hE⟩:∃x,w6.heap.size=x:=⟨_,rfl⟩;rw [<-hW8] at hs8 hb8';rw [hE] at hb8'⊢;have hEn:nb<E:=by rw [<-hE];exact Hs6.out.1.1.2
   have hb8:=hb8';clear hW8 hb8';exact j2p
 case done=>
  rintro D ys W hD hS ⟨hb,hpad,hkk⟩ hK;have hys:ys.length=chunks m:=by have:=congrArg List.length hS;simpa using this
  rw [hS] at hpad;rw [hys] at hb;obtain⟨L1,hL1⟩:∃x,inkL u (chunks m) B 0 (List.range (chunks m)) p.l=x:=⟨_,rfl⟩;rw [hL1] at hpad;have hkW:Keeps (λk=>PFoot P v k\/k=nb) w3 W:=(hk30.mono (by simp)).trans (hkk.mono λi _ e=> .inl e);have lw3:w.heap.size<w3.heap.size/\w.heap.size+1<w3.heap.size/\J<w3.heap.size:=by have:=Hk12.out.size;have:=Hk23.out.size;omega
  have nf1:¬PFoot P v w.heap.size:=λe=>by have:=hfw _ e;omega
  have nf2:¬PFoot P v (w.heap.size+1):=λe=>by have:=hfw _ e;omega
  have nf3:¬PFoot P v nb:=λe=>by have:=hfoot _ e;omega
  have f1:W.cell? ⟨w.heap.size,0,none⟩=some (.pointer (some ⟨J,0,none⟩)):=(hkW.cell lw3.1 (λe=>e.elim nf1 fun(e:w.heap.size=nb)=>by omega)).trans b1;have hJW:W.heap[J]?=some (.cells #[(.pointer (some ⟨P,0,none⟩)),.int .i64 fl,vl,.int .i64 (u:Int)] 168 (0,0)):=Ad (Ad (Ad Hj1.out Hk12.out (by simp)) Hk23.out (by simp)) hkW (λe=>e.elim hnJ0 λe=>by omega);have hRW:W.heap[w.heap.size+1]?=some (.cells #[.int .i64 0] 27 (0,0)):=Ad (Ad (Ad HbR.out Hk12.out (by simp)) Hk23.out (by simp)) hkW (λe=>e.elim nf2 λe=>by omega);have hk0W:Keeps (λk=>PFoot P v k\/k=nb) w W:=((Hkw2.out.nt Hk23.out).mono (T:=λk=>PFoot P v k\/k=nb) (by simp)).trans (hkW.mono λi _ e=> .inl e)
  have hkB:Keeps (PFoot P v) w W:=by
   refine⟨hk0W.os,hk0W.tape,hk0W.output,hk0W.size,λk hk hn=>hk0W.block k hk λe=>e.elim hn λe=>by omega⟩
  have hrdW:Reads W 1 (.slice (some ⟨gs,os,none⟩) m cap) m (B.flatMap u8c):=Hr.out.keepB hkB λg hg hl=>hsep g hg;have hdry:=Tt P v { p with l:=L1 } W hpad hfl1 hd (by show¬p.sn=1;rw [hs];decide)
  have hst:({ Df { p with l:=L1 } with l:=L1.map dryL }:Pd)={ p with l:=L1.map dryL }:=by
   obtain⟨l0,sn0,fl0,dn0⟩:=p;simp only at hs;subst hs;rfl
  rw [hst] at hdry;have e0:=Aa hJW 0;have lJ':=lt_of_block hJW;have lt1:w.heap.size<W.heap.size:=by have:=hkW.size;omega
  have hnvJ:¬vl.ownBlock=some J:=Ai Hrl.out Hj.out.blk j7;have hvlt:∀k,vl.ownBlock=some k->k<w.heap.size:=λk hk=>Cj Hrl.out hk
  have hvP:∀k,vl.ownBlock=some k->¬PFoot P v k:=by
   rintro k hk (rfl|e)
   ·exact Ai Hrl.out Hp.out.blk j7 hk
   ·exact Eu Hrl.out Hp.out.row j7 hk e
  have hrlW:W.ownsRow 0 24 1 vl nr RL:=hkB.row Hrl.out hvP;have hbW:=hb;clear hb hkk;obtain⟨HL1,HkW,HJW,HRW,Hk0W,HkB,HrdW,Hdry,Hst⟩:=hid9 hL1 hkW hJW hRW hk0W hkB hrdW hdry hst;clear hst hdry hrdW hkB hk0W hRW hJW hkW hL1;obtain⟨HrlW,Hpad,HK,HS⟩:=hid4 hrlW hpad hK hS;clear hS hK hpad hrlW
  go_wp2_with (go_at_call 102;(with_reducible refine Hdry.out.mono ?_);rintro e w6 ⟨rfl,hp6,hk6⟩;have Hp6:=Lib.hid hp6;have Hk6:=Lib.hid hk6;clear hp6 hk6)
  have hJ6:=Ad HJW.out Hk6.out hnJ0;have hR6:=Ad HRW.out Hk6.out nf2;have hK6:=Ad HK.out Hk6.out (λe=>by have:=hfw _ e;omega);have hrl6:=Hk6.out.row HrlW.out hvP;have hrd6:=HrdW.out.keepB Hk6.out λg hg _=>hsep g hg;have hn6:w6.cell? ⟨nb,0,none⟩=some (.int .i64 ((u+chunks m:Nat):Int)):=(Hk6.out.cell (lt_of_block hbW) nf3).trans (Aa hbW 0);have hf6:w6.cell? ⟨w.heap.size,0,none⟩=some (.pointer (some ⟨J,0,none⟩)):=(Hk6.out.cell lt1 nf1).trans f1;have hcl:=λV (hV:Keeps (λ_=>False) w6 V)=>Vx V (.slice (some ⟨gs,os,none⟩) m cap) m (B.flatMap u8c) (hrd6.keeps hV (by simp)) (Xn B) j6;have nj1:¬w.heap.size=J:=j8;have nj2:¬nb=J:=j8;have nv1:¬vl.ownBlock=some w.heap.size:=λe=>by have:=hvlt _ e;omega
  have nv2:¬vl.ownBlock=some nb:=λe=>by have:=hvlt _ e;omega
  have l6a:w.heap.size<w6.heap.size/\nb<w6.heap.size:=by have:=Hk6.out.size;have:=lt_of_block hbW;omega
  obtain⟨nI,hnI⟩:∃z:Int,((u+chunks m:Nat):Int)=z:=⟨_,rfl⟩;rw [hnI] at hn6;clear e0 lJ' f1 hbW;obtain⟨HJ6,HR6,HK6,Hrl6,Hrd6,Hcl,HnI⟩:=hid7 hJ6 hR6 hK6 hrl6 hrd6 hcl hnI;clear hnI hcl hrd6 hrl6 hK6 hR6 hJ6;refine Al (ja20 w.heap.size nb (.pointer (some ⟨J,0,none⟩)) (.int .i64 nI)) (.take 0 (.take 1 (.take 2 (.take 3 (.take 4 (.take 6 (.take 10 (.fork 5 (.move 7 (.move 8 (.move 9 (.take 11 (.take 12 (.move 13 (.take 14 (.take 15 (.move 16 .done))))))))) 7 (.fork 5 (.move 8 (.move 9 (.take 11 (.take 12 (.move 13 (.take 14 (.take 15 (.move 16 .done)))))))) 8 (.move 5 (.move 9 (.take 11 (.take 12 (.move 13 (.take 14 (.take 15 (.move 16 .done))))))))))))))))) j9 j9 ?_ ?_
  ·exact⟨⟨hf6,l6a.1⟩,hn6,l6a.2⟩
  intro w7 hs7 hk7;clear hf6 hn6 l6a;refine jR ?_;have hJ7:=Ad HJ6.out hk7 (by simp);have c2:=Aa hJ7 2;have l7:=lt_of_block hJ7;have Hs7:=Lib.hid hs7;have Hk7:=Lib.hid hk7;clear hs7 hk7 hJ7;refine Dn ?_ ?_ Hs7.out
  ·skip
   refine jc ?_;intro K hK;refine hK.out _ _ (by exact Hs7.out) ?_;clear hK K;refine ja ?_;refine jc ?_;intro K hK
   go_at_call 109
   ((with_reducible refine(Hcl.out _ Hk7.out).mono ?_);rintro e w8 ⟨v8,rfl,hrow8,hk8,_⟩)
   obtain⟨a8,c8,rfl,_,_⟩:=Ae hrow8;dsimp only;have hs8:=Hs7.out.keep hk8 (by simp) (by simp);refine hK.out _ _ (by exact hs8) ?_;clear hK K;refine ja ?_;have hk68:=(Hk7.out).nt hk8;have hJ8:=Ad HJ6.out hk68 (by simp);have c2':=Aa hJ8 2;have l8:=lt_of_block hJ8;have Hs8:=Lib.hid hs8;have Hk68:=Lib.hid hk68;clear hs8 hk8 hk68 hJ8 hrow8;exact j1a
  ·skip
   refine jc ?_;intro K hK
   go_at_call 109
   ((with_reducible refine(Hcl.out _ Hk7.out).mono ?_);rintro e w8 ⟨v8,rfl,hrow8,hk8,_⟩)
   obtain⟨a8,c8,rfl,_,_⟩:=Ae hrow8;dsimp only;have hs8:=Hs7.out.keep hk8 (by simp) (by simp);refine hK.out _ _ (by exact hs8) ?_;clear hK K;refine ja ?_;have hk68:=(Hk7.out).nt hk8;have hJ8:=Ad HJ6.out hk68 (by simp);have c2':=Aa hJ8 2;have l8:=lt_of_block hJ8;have Hs8:=Lib.hid hs8;have Hk68:=Lib.hid hk68;clear hs8 hk8 hk68 hJ8 hrow8;refine Dn ?_ ?_ Hs8.out
   ·skip
    refine jc ?_;intro K hK;refine hK.out _ _ (by exact Hs8.out) ?_;clear hK K;refine ja ?_;exact j1a
   ·skip
    refine j2q ?_;exact j1a
 case stop=>
  rintro D c pre W hD _ h;exact h.elim
open Go.RowKit
theorem lit3{w:World}{B:Nat}(hB:B=w.heap.size)(t:TypeId)(a b c:Int):Reads (w.alloc (.cells #[.int .i64 a,.int .i64 b,.int .i64 c] t)) 1 (.slice (some ⟨B,0,none⟩) 3 3) 3 ([a,b,c].flatMap i64c):=Reads.litAt _ #[.int .i64 a,.int .i64 b,.int .i64 c] _ _ _ _ hB rfl
theorem lit2{w:World}{B:Nat}(hB:B=w.heap.size)(t:TypeId)(a b:Int):Reads (w.alloc (.cells #[.int .i64 a,.int .i64 b] t)) 1 (.slice (some ⟨B,0,none⟩) 2 2) 2 ([a,b].flatMap i64c):=Reads.litAt _ #[.int .i64 a,.int .i64 b] _ _ _ _ hB rfl
def Gy(v:Int):Bool:=decide (0<=v/\v<=1000000000000000)
theorem Rp(v:Int)(w:World):Calls Tryz.prog 268 #[.int .i64 v] w λe w'=>e= .returned (.bool (!Gy v))/\w=w':=by
 have hd:Gy v=decide (0<=v/\v<=1000000000000000):=rfl;by_cases h1:v<0
 ·have:Gy v=false:=by rw [hd];simp;omega
  exact j1b
 ·by_cases h2:1000000000000000<v
  ·have:Gy v=false:=by rw [hd];simp;omega
   exact j1b
  ·have:Gy v=true:=by rw [hd];simp;omega
   exact j1b
def Cq(L:List Int):Bool:=L.all Gy
theorem Vy(L:List Int)(x:Int):Cq (L++ [x])=(Cq L&&Gy x):=by simp [Cq]
theorem Um{L:List Int}{k:Nat}{x:Int}(h:L[k]?=some x)(hx:Gy x=false):Cq L=false:=by
 exact j2r
theorem Yf(ad:Option Addr)(cap:Nat)(L:List Int)(w:World)(hr:Reads w 1 (.slice ad L.length cap) L.length (L.flatMap i64c))(hl:L.length<=1000):
  Calls Tryz.prog 287 #[.slice ad L.length cap,.func (.func 268) #[] #[]] w λe w'=>∃r:Int,e= .returned (.int .i64 r)/\decide (0<=r)= !Cq L/\w=w':=by
 have Hr:=Lib.hid hr;clear hr;go_enter Tryz.func287,Tryz.ntmps287;go_wp2_with fail
 go_loop [8] (λc=>∃j:Nat,j<=L.length/\c= .int .i64 (j:Nat)/\Cq (L.take j)=true) (λc=>L.length-(intOf c).toNat)
 case atStart=>exact⟨0,Nat.zero_le _,rfl,rfl⟩
 case round=>
  obtain⟨j,hj,rfl,hok⟩:=hrel;by_cases hjl:j<L.length
  ·obtain⟨x,hx⟩:=Aq hjl;obtain⟨g,o,rfl,x0⟩:=Hr.out.int hx;have hsn:=Vy (L.take j) x;rw [<-take_snoc' hx,hok] at hsn;rcases m1:Gy x with _|_
   ·have hf:=Um hx m1;have hj0:decide ((0:Int)<=(j:Int))=true:=by simp
    obtain⟨Hf,Hsn,Hx,Hj0⟩:=hid4 hf hsn hx hj0;clear hj0 hx hsn hf
    go_wp2_with (go_at_call 268;((with_reducible refine(Rp _ _).mono ?_);rintro e w1 ⟨rfl,rfl⟩))
    go_ret;exact⟨_,rfl,by rw [Hf.out,Hj0.out];rfl,rfl⟩
   ·have hok':Cq (L.take (j+1))=true:=by rw [hsn,m1];rfl
    obtain⟨Hsn,Hx,Hok,Hok'⟩:=hid4 hsn hx hok hok';clear hok' hok hx hsn
    go_wp2_with (go_at_call 268;((with_reducible refine(Rp _ _).mono ?_);rintro e w1 ⟨rfl,rfl⟩))
    exact j0d
  ·exact j0e
theorem Sd(ad:Option Addr)(cap:Nat)(L:List Int)(w:World)(hr:Reads w 1 (.slice ad L.length cap) L.length (L.flatMap i64c))(hl:L.length<=1000):
  Calls Tryz.prog 267 #[.slice ad L.length cap,.func (.func 268) #[] #[]] w λe w'=>e= .returned (.bool (!Cq L))/\w=w':=by
 have Hr:=Lib.hid hr;clear hr;go_enter Tryz.func267,Tryz.ntmps267
 go_wp2_with (go_at_call 287;refine(Yf _ _ L _ Hr.out hl).mono ?_;rintro e w1 ⟨r,rfl,hd,rfl⟩;have Hd:=Lib.hid hd;clear hd)
 exact j0f
theorem Uo(ad:Option Addr)(cap:Nat)(L:List Int)(w:World)(hr:Reads w 1 (.slice ad L.length cap) L.length (L.flatMap i64c))(hl:L.length<=1000):
  Calls Tryz.prog 246 #[.slice ad L.length cap] w λe w'=>e= .returned (.bool (Cq L))/\w=w':=by
 have Hr:=Lib.hid hr;clear hr;go_enter Tryz.func246,Tryz.ntmps246
 go_wp2_with (go_at_call 267;refine(Sd _ _ L _ Hr.out hl).mono ?_;rintro e w1 ⟨rfl,rfl⟩)
 go_ret;exact⟨by simp,rfl⟩
theorem adjMay3{w:World}{B:Nat}(hB:B=w.heap.size)(t:TypeId)(a b c:Int):Calls Tryz.prog 246 #[.slice (some ⟨B,0,none⟩) 3 3] (w.alloc (.cells #[.int .i64 a,.int .i64 b,.int .i64 c] t)) λe w'=>e= .returned (.bool (Cq [a,b,c]))/\(w.alloc (.cells #[.int .i64 a,.int .i64 b,.int .i64 c] t))=w':=
 Uo _ _ [a,b,c] _ (lit3 hB _ a b c) (by simp)
theorem adjMay2{w:World}{B:Nat}(hB:B=w.heap.size)(t:TypeId)(a b:Int):Calls Tryz.prog 246 #[.slice (some ⟨B,0,none⟩) 2 2] (w.alloc (.cells #[.int .i64 a,.int .i64 b] t)) λe w'=>e= .returned (.bool (Cq [a,b]))/\(w.alloc (.cells #[.int .i64 a,.int .i64 b] t))=w':=
 Uo _ _ [a,b] _ (lit2 hB _ a b) (by simp)
def Jy(a b:Bool):Int:=if b&& !a then 1 else if a&& !b then -1 else 0
theorem Vz(a b:Bool)(w:World):Calls Tryz.prog 247 #[.bool a,.bool b] w λe w'=>e= .returned (.int .i64 (Jy a b))/\w=w':=by
 cases a<;>cases b<;>
 ·go_enter Tryz.func247,Tryz.ntmps247;exact ji
def Gq(a b:Stm):Bool:=decide (a.cycle=b.cycle)&&(decide (a.fr=b.fr)&&decide (a.te=b.te))&&decide (a.lines.length=b.lines.length)
theorem Zd(a b:Stm)(ad1 ad2:Option Addr)(c1 c2:Nat)(w:World):
  Calls Tryz.prog 210 #[a.val (.slice ad1 a.lines.length c1),b.val (.slice ad2 b.lines.length c2)] w λe w'=>e= .returned (.bool (Gq a b))/\Keeps (λ_=>False) w w':=by
 obtain⟨cy,fr,tQ,du,tot,cr,mi,gr,L⟩:=a;obtain⟨cy',fr',to',du',tot',cr',mi',gr',L'⟩:=b;simp only [Stm.val];obtain⟨n,hn⟩:∃n,L.length=n:=⟨_,rfl⟩;obtain⟨n',hn'⟩:∃n',L'.length=n':=⟨_,rfl⟩;have hd:Gq ⟨cy,fr,tQ,du,tot,cr,mi,gr,L⟩ ⟨cy',fr',to',du',tot',cr',mi',gr',L'⟩=(decide (cy=cy')&&(decide (fr=fr')&&decide (tQ=to'))&&decide (n=n')):=by unfold Gq;simp only [hn,hn']
 rw [hn,hn'];by_cases h1:cy=cy'
 ·subst h1;by_cases h2:fr=fr'/\tQ=to'
  ·obtain⟨rfl,rfl⟩:=h2;by_cases h3:n=n'
   ·subst h3;have hf:Gq ⟨cy,fr,tQ,du,tot,cr,mi,gr,L⟩ ⟨cy,fr,tQ,du',tot',cr',mi',gr',L'⟩=true:=by rw [hd];simp
    obtain⟨Hd,Hn,Hn',Hf⟩:=hid4 hd hn hn' hf;clear hf hn' hn hd;go_enter Tryz.func210,Tryz.ntmps210;go_wp2;go_ret;exact⟨by rw [Hf.out];simp,(Keeps.alloc _ _).trans (Keeps.alloc _ _)⟩
   ·have hf:Gq ⟨cy,fr,tQ,du,tot,cr,mi,gr,L⟩ ⟨cy,fr,tQ,du',tot',cr',mi',gr',L'⟩=false:=by rw [hd];simp [h3]
    have h3':¬(n:Int)=(n':Int):=j8;obtain⟨Hd,Hn,Hn',Hf⟩:=hid4 hd hn hn' hf;clear hf hn' hn hd;go_enter Tryz.func210,Tryz.ntmps210;go_wp2;go_ret;exact⟨by rw [Hf.out];simp [h3'];try omega,(Keeps.alloc _ _).trans (Keeps.alloc _ _)⟩
  ·have hf:Gq ⟨cy,fr,tQ,du,tot,cr,mi,gr,L⟩ ⟨cy,fr',to',du',tot',cr',mi',gr',L'⟩=false:=by rw [hd];simp;intro a b;exact absurd ⟨a,b⟩ h2
   have h2':(decide (fr=fr')&&decide (tQ=to'))=false:=by simp;intro a b;exact absurd ⟨a,b⟩ h2
   obtain⟨Hd,Hn,Hn',Hf⟩:=hid4 hd hn hn' hf;clear hf hn' hn hd;rcases(show¬fr=fr'\/(fr=fr'/\¬tQ=to') by omega) with h4|⟨h4,h5⟩
   ·clear h2 h2';go_enter Tryz.func210,Tryz.ntmps210;go_wp2;go_ret;exact⟨by rw [Hf.out];simp,(Keeps.alloc _ _).trans (Keeps.alloc _ _)⟩
   ·clear h2 h2';subst h4;go_enter Tryz.func210,Tryz.ntmps210;go_wp2;go_ret;exact⟨by rw [Hf.out];simp,(Keeps.alloc _ _).trans (Keeps.alloc _ _)⟩
 ·have hf:Gq ⟨cy,fr,tQ,du,tot,cr,mi,gr,L⟩ ⟨cy',fr',to',du',tot',cr',mi',gr',L'⟩=false:=by rw [hd];simp [h1]
  obtain⟨Hd,Hn,Hn',Hf⟩:=hid4 hd hn hn' hf;clear hf hn' hn hd;go_enter Tryz.func210,Tryz.ntmps210;go_wp2;go_ret;exact⟨by rw [Hf.out];simp,(Keeps.alloc _ _).trans (Keeps.alloc _ _)⟩
def Ln.numsB(x:Ln):Bool:=Cq [x.balance,x.interest]
def Stm.Cx(s:Stm):Bool:=s.lines.all Ln.numsB&&Cq [s.total,s.credit,s.min]
theorem Aai{L:List Ln}{k:Nat}{x:Ln}(h:L[k]?=some x)(hx:x.numsB=false):L.all Ln.numsB=false:=by
 exact j2r
theorem Un(s:Stm)(ad:Option Addr)(cap:Nat)(w:World)(hr:Reads w 3 (.slice ad s.lines.length cap) s.lines.length (s.lines.flatMap Ln.cells))(hl:s.lines.length<=1000000):
  Calls Tryz.prog 211 #[s.val (.slice ad s.lines.length cap)] w λe w'=>e= .returned (.bool s.Cx)/\Keeps (λ_=>False) w w':=by
 obtain⟨cy,fr,tQ,du,tot,cr,mi,gr,L⟩:=s;simp only [Stm.val] at hr hl⊢;have hd:Stm.Cx ⟨cy,fr,tQ,du,tot,cr,mi,gr,L⟩=(L.all Ln.numsB&&Cq [tot,cr,mi]):=rfl;rw [hd];clear hd;have hbox:=heap_alloc_new w (.cells #[.int .i64 cy,.int .i64 fr,.int .i64 tQ,.int .i64 du,.slice ad L.length cap,.int .i64 tot,.int .i64 cr,.int .i64 mi,.bool gr] 60);obtain⟨Hr,Hbox⟩:=hid2 hr hbox;clear hbox hr;go_enter Tryz.func211,Tryz.ntmps211;go_wp2_with fail
 go_loopw [8] (λc wr=>∃j:Nat,j<=L.length/\c= .int .i64 (j:Nat)/\(L.take j).all Ln.numsB=true/\Keeps (λ_=>False) w wr/\wr.heap[w.heap.size]?=some (.cells #[.int .i64 cy,.int .i64 fr,.int .i64 tQ,.int .i64 du,.slice ad L.length cap,.int .i64 tot,.int .i64 cr,.int .i64 mi,.bool gr] 60 (0,0))) (λc _=>L.length-(intOf c).toNat)
 case atStart=>exact⟨0,Nat.zero_le _,rfl,rfl,Keeps.alloc _ _,Hbox.out⟩
 case round=>
  obtain⟨j,hj,rfl,hok,hk,hb⟩:=hrel;have b5:=Aa hb 5;have b6:=Aa hb 6;have b7:=Aa hb 7;have hbl:=lt_of_block hb;by_cases hjl:j<L.length
  ·obtain⟨⟨xb,xi,xr⟩,hx⟩:=Aq hjl;obtain⟨g,o,c,he,hc⟩:=(Hr.out.keeps hk (by simp)).elem Ln.Aj hx j7;simp only [Value.slice.injEq,true_and] at he;obtain⟨rfl,rfl⟩:=he;have x0:wr.cell? ⟨g,o+j*3,none⟩=some (.int .i64 xb):=hc 0 j7;have x1:wr.cell? ⟨g,o+j*3+1,none⟩=some (.int .i64 xi):=hc 1 j7;have x2:wr.cell? ⟨g,o+j*3+2,none⟩=some (.int .i64 xr):=hc 2 j7;have han:(L.take (j+1)).all Ln.numsB=Cq [xb,xi]:=by rw [take_snoc' hx,List.all_append,hok];simp [Ln.numsB]
   have hno:Cq [xb,xi]=false->(L.all Ln.numsB&&Cq [tot,cr,mi])=false:=λh=>by rw [Aai hx (by simpa [Ln.numsB] using h)];rfl
   clear hc;rcases m1:Cq [xb,xi] with _|_
   ·have hf:=hno m1;obtain⟨Hx,Han,Hno,Hk,Hb,Hok,Hf⟩:=hid7 hx han hno hk hb hok hf;clear hf hok hb hk hno han hx
    go_wp2_with (go_at_call 246;((with_reducible refine(adjMay2 (by simp) _ xb xi).mono ?_);rintro e w1 ⟨rfl,rfl⟩))
    go_ret;exact⟨by rw [Hf.out];rfl,Hk.out.trans ((Keeps.alloc _ _).trans (Keeps.alloc _ _))⟩
   ·have hok':(L.take (j+1)).all Ln.numsB=true:=by rw [han,m1]
    obtain⟨Hx,Han,Hno,Hk,Hb,Hok,Hok'⟩:=hid7 hx han hno hk hb hok hok';clear hok' hok hb hk hno han hx
    go_wp2_with (go_at_call 246;((with_reducible refine(adjMay2 (by simp) _ xb xi).mono ?_);rintro e w1 ⟨rfl,rfl⟩))
    go_roundw
    case rel=>exact⟨j+1,by omega,by go_num,Hok'.out,Hk.out.trans ((Keeps.alloc _ _).trans (Keeps.alloc _ _)),Ar (Ar Hb.out _) _⟩
    case measure=>simp [intOf];omega
  ·obtain rfl:j=L.length:=by omega
   rw [List.take_length] at hok;have hfin:(L.all Ln.numsB&&Cq [tot,cr,mi])=Cq [tot,cr,mi]:=by rw [hok];rfl
   obtain⟨Hk,Hb,Hok,Hfin⟩:=hid4 hk hb hok hfin;clear hfin hok hb hk
   go_wp2_with (go_at_call 246;((with_reducible refine(adjMay3 rfl _ tot cr mi).mono ?_);rintro e w1 ⟨rfl,rfl⟩))
   go_ret;exact⟨by rw [Hfin.out];rfl,Hk.out.trans (Keeps.alloc _ _)⟩
structure WRd(lo:Nat)(w:World)(b:Nat)(B:List Int)(p:Nat):Prop where
 ex:∃ad m c sh,w.heap[b]?=some (.cells #[.slice ad m c,.bool sh] 164 (0,0))/\
  (8*p<=B.length->sh=false/\m=B.length-8*p/\Reads w 1 (.slice ad m c) m ((B.drop (8*p)).flatMap u8c)/\(0<m->∀g,(Value.slice ad m c).ownBlock=some g->g<lo))/\(B.length<8*p->sh=true/\m=0)
 lob:lo<=b
theorem WRd.keeps{lo:Nat}{S:Nat->Prop}{w w':World}{b:Nat}{B:List Int}{p:Nat}(h:WRd lo w b B p)(hk:Keeps S w w')(hS:∀j,S j->lo<=j/\j≠b):WRd lo w' b B p:=by
 obtain⟨⟨ad,m,c,sh,h1,h2,h3⟩,h4⟩:=h;refine⟨⟨ad,m,c,sh,by rw [hk.block b (lt_of_block h1) (λhs=>(hS b hs).2 rfl)];exact h1,λhp=> ?_,h3⟩,h4⟩;obtain⟨q1,q2,q3,q4⟩:=h2 hp;refine⟨q1,q2, ?_,q4⟩;by_cases hm:0<m
 ·exact q3.keeps hk λg hg hs=>by have:=q4 hm g hg;have:=(hS g hs).1;omega
 ·obtain⟨ad',c',he,a1,a2,a3,a4⟩:=q3;refine⟨ad',c',he,a1,a2,a3,λj u hj=> ?_⟩;rw [List.drop_eq_nil_of_le j6] at hj;simp at hj
def numR(B:List Int)(p:Nat):Int:=if 8*p+8<=B.length then numAt B p else 0
def Pw(lo:Nat)(w:World)(b:Nat)(B:List Int)(p:Nat)(e:Ending)(w':World):Prop:=e= .returned (.int .i64 (numR B p))/\WRd lo w' b B (p+1)/\Keeps (λj=>j=b) w w'
theorem Aby(lo b p:Nat)(B:List Int)(w:World)(h:WRd lo w b B p)(_hl:B.length<=1000000000)(hp:B.length<8*p+8):Calls Tryz.prog 52 #[(.pointer (some ⟨b,0,none⟩))] w (Pw lo w b B p):=by
 obtain⟨⟨ad,m,c,sh,hb,h2,h3⟩,hlb⟩:=h;have c0:=Aa hb 0;have c1:=Aa hb 1;have e0:=Ab hb 0;have e1:=Ab hb 1;have hbl:=lt_of_block hb
 have hm:m<8:=by
  by_cases h:8*p<=B.length
  ·have:=(h2 h).2.1;omega
  ·have:=(h3 j6).2;omega
 have hnum:numR B p=0:=by unfold numR;rw [if_neg j6]
 have hfin:WRd lo ((w.setCell ⟨b,0,none⟩ (.slice none 0 0)).setCell ⟨b,1,none⟩ (.bool true)) b B (p+1)/\Keeps (λj=>j=b) w ((w.setCell ⟨b,0,none⟩ (.slice none 0 0)).setCell ⟨b,1,none⟩ (.bool true)):=
  ⟨⟨⟨none,0,0,true,heap_setCell_same _ _ 1 _ _ _ (heap_setCell_same _ _ 0 _ _ _ hb),λh=>by omega,λ_=>⟨rfl,rfl⟩⟩,hlb⟩,Keeps.trans (S:=λj=>j=b) (Keeps.setCell _ _ _ rfl) (Keeps.setCell _ _ _ (.inl rfl))⟩
 unfold Pw;rw [hnum];clear h2 h3;obtain⟨Hb,Hfin,Hnum⟩:=hid3 hb hfin hnum;clear hnum hfin hb;go_enter Tryz.func52,Tryz.ntmps52;go_wp2;go_ret;exact⟨rfl,Hfin.out⟩
theorem wNum_ok(lo b p:Nat)(B:List Int)(w:World)(h:WRd lo w b B p)(hl:B.length<=1000000000)(hB:∀z∈B,0<=z/\z<=255)(hp:8*p+8<=B.length):Calls Tryz.prog 52 #[(.pointer (some ⟨b,0,none⟩))] w (Pw lo w b B p):=by
 obtain⟨⟨ad,m,c,sh,hb,h2,_⟩,hlb⟩:=h;obtain⟨rfl,hm,hr,hlo⟩:=h2 j6;have c0:=Aa hb 0;have e0:=Ab hb 0;have hbl:=lt_of_block hb;obtain⟨D,hD⟩:∃D,(B.drop (8*p)).take 8=D:=⟨_,rfl⟩;have hDl:D.length=8:=by rw [<-hD,List.length_take,List.length_drop];omega
 have hDg:∀(i:Nat) (z:Int),D[i]?=some z->(B.drop (8*p))[i]?=some z/\0<=z/\z<=255:=λi z hz=>by
  have hi:=Db hz;rw [<-hD,List.getElem?_take_of_lt j6] at hz;exact⟨hz,hB z (List.mem_of_mem_drop (List.mem_of_getElem? hz))⟩
 have hnum:IntKind.i64.wrap (poly (D.take 8))=numR B p:=by
  unfold numR numAt numOf;rw [if_pos hp,<-hD,List.take_take];rfl
 have hcm:m<=c:=by obtain⟨_,_,he,h1,_⟩:=hr;simp only [Value.slice.injEq,true_and] at he;omega
 obtain⟨g,o,rfl,hcell⟩:∃g o,ad=some ⟨g,o,none⟩/\∀(i:Nat) (z:Int),D[i]?=some z->w.cell? ⟨g,o+i,none⟩=some (.int .u8 z)/\0<=z/\z<=255:=by
  obtain⟨z,hz⟩:=Aq (L:=D) (k:=0) j6;obtain⟨g,o,c',he,_⟩:=hr.elem Cn (hDg 0 z hz).1 j7;simp only [Value.slice.injEq,true_and] at he;obtain⟨rfl,rfl⟩:=he;refine⟨g,o,rfl,λi z hz=>⟨?_,(hDg i z hz).2⟩⟩;obtain⟨g',o',c',he,hc⟩:=hr.elem Cn (hDg i z hz).1 j7;simp only [Value.slice.injEq,true_and,Option.some.injEq,Addr.mk.injEq,and_true] at he;obtain⟨⟨rfl,rfl⟩,rfl⟩:=he;have:=hc 0 j7;simpa [u8c] using this
 have hgb:=hlo j6 g rfl;have hm8:8<=m:=j8;have hmb:m<=1000000000:=j8
 have hpost:∀ad',(Reads w 1 (.slice ad' (m-8) (c-8)) (m-8) ((B.drop (8*(p+1))).flatMap u8c))->(∀g',(Value.slice ad' (m-8) (c-8)).ownBlock=some g'->g'<lo)->
  WRd lo (w.setCell ⟨b,0,none⟩ (.slice ad' (m-8) (c-8))) b B (p+1)/\Keeps (λj=>j=b) w (w.setCell ⟨b,0,none⟩ (.slice ad' (m-8) (c-8))):=λad' h1 h2=>by
  have hk1:Keeps (λj=>j=b) w (w.setCell ⟨b,0,none⟩ (.slice ad' (m-8) (c-8))):=Keeps.setCell _ _ _ rfl;exact⟨⟨⟨ad',m-8,c-8,false,heap_setCell_same _ _ 0 _ _ _ hb,λ_=>⟨rfl,by omega,h1.keeps hk1 λg' hg' e=>by have:=h2 g' hg';omega,λ_ g' hg'=>h2 g' hg'⟩,λh=>by omega⟩,hlb⟩,hk1⟩
 unfold Pw;by_cases hc8:c=8
 ·subst hc8;obtain rfl:m=8:=by omega
  have hfin:=hpost (some ⟨g,o,none⟩) (by rw [List.drop_eq_nil_of_le j6];exact Reads.none_of (by simp)) (λg' hg'=>by simp only [Value.ownBlock,Option.some.injEq] at hg';omega);exact j2s
 ·have hsuf:Reads w 1 (.slice (some ⟨g,o+8,none⟩) (m-8) (c-8)) (m-8) ((B.drop (8*(p+1))).flatMap u8c):=by
   have:=hr.sufL Cn 8 j6;rw [List.drop_drop] at this
   simpa [Nat.mul_add] using this
  have hfin:=hpost (some ⟨g,o+8,none⟩) hsuf (λg' hg'=>by simp only [Value.ownBlock,Option.some.injEq] at hg';omega);clear hsuf;exact j2s
theorem wNum_any(lo b p:Nat)(B:List Int)(w:World)(h:WRd lo w b B p)(hl:B.length<=1000000000)(hB:∀z∈B,0<=z/\z<=255):Calls Tryz.prog 52 #[(.pointer (some ⟨b,0,none⟩))] w (Pw lo w b B p):=by
 by_cases hp:8*p+8<=B.length
 ·exact wNum_ok lo b p B w h hl hB hp
 ·exact Aby lo b p B w h hl j6
theorem wNum_at{lo b p:Nat}{B:List Int}{w:World}(h:WRd lo w b B p)(hl:B.length<=1000000000)(hB:∀z∈B,0<=z/\z<=255){z:Int}(hz:numR B p=z):
  Calls Tryz.prog 52 #[(.pointer (some ⟨b,0,none⟩))] w λe w'=>e= .returned (.int .i64 z)/\WRd lo w' b B (p+1)/\Keeps (λj=>j=b) w w':=by
 subst hz;exact wNum_any lo b p B w h hl hB
theorem Sj{lo b p:Nat}{B:List Int}{w:World}(h:WRd lo w b B p)(hl:B.length<=1000000000)(hB:∀z∈B,0<=z/\z<=255){z:Int}(hz:numR B p=z):
  Calls Tryz.prog 51 #[(.pointer (some ⟨b,0,none⟩))] w λe w'=>e= .returned (.int .i64 z)/\WRd lo w' b B (p+1)/\Keeps (λj=>j=b) w w':=by
 obtain⟨H,HB,Hz⟩:=hid3 h hB hz;clear hz hB h;go_enter Tryz.func51,Tryz.ntmps51
 go_wp2_with (go_at_call 52;refine(wNum_at H.out hl HB.out Hz.out).mono ?_;rintro e w1 ⟨rfl,h1,h2⟩;have H1:=Lib.hid h1;have H2:=Lib.hid h2;clear h1 h2)
 go_ret;exact⟨rfl,H1.out,H2.out⟩
theorem Abv(lo:Nat)(ad:Option Addr)(cap:Nat)(B:List Int)(w:World)(hr:Reads w 1 (.slice ad B.length cap) B.length (B.flatMap u8c))(hlo:0<B.length->∀g,(Value.slice ad B.length cap).ownBlock=some g->g<lo)(hlw:lo<=w.heap.size):
  Calls Tryz.prog 50 #[.slice ad B.length cap] w λe w'=>e= .returned (.pointer (some ⟨w.heap.size,0,none⟩))/\WRd lo w' w.heap.size B 0/\Keeps (λ_=>False) w w':=by
 have hfin:WRd lo (w.alloc (.cells #[.slice ad B.length cap,.bool false] 164)) w.heap.size B 0/\Keeps (λ_=>False) w (w.alloc (.cells #[.slice ad B.length cap,.bool false] 164)):=
  ⟨⟨⟨ad,B.length,cap,false,heap_alloc_new w _,λ_=>⟨rfl,by omega,hr.alloc _,hlo⟩,λh=>by omega⟩,hlw⟩,Keeps.alloc _ _⟩
 obtain⟨Hr,Hfin⟩:=hid2 hr hfin;clear hfin hr;go_enter Tryz.func50,Tryz.ntmps50;go_wp2;go_ret;exact⟨rfl,Hfin.out⟩
structure Fr(w wr:World)(v:Value)(C:List Int):Prop where
 row:wr.ownsRow 0 5 1 v C.length (C.flatMap u8c)
 kp:Keeps (λ_=>False) w wr
 nw:∀g,v.ownBlock=some g->w.heap.size<=g
theorem Fr.keep{w wr wr':World}{v:Value}{C:List Int}(h:Fr w wr v C)(hk:Keeps (λ_=>False) wr wr'):Fr w wr' v C:=⟨hk.row h.row (by simp),h.kp.trans (hk.mono (by simp)),h.nw⟩
theorem Fr.grow{w wr w4:World}{v v4:Value}{C C':List Int}(h:Fr w wr v C)(hg:Grown wr w4 v v4 C'):Fr w w4 v4 C':=by
 have hs:=h.kp.size;refine⟨hg.row,h.kp.trans (hg.kp.mono λk _ hk=> .inr (h.nw k hk)),λg hgb=> ?_⟩;rcases hg.nw with e|⟨g',h1,h2⟩
 ·exact h.nw g (by rw [<-e];exact hgb)
 ·rw [h1] at hgb;simp only [Option.some.injEq] at hgb;omega
theorem Fr.nil(w:World):Fr w w (.slice none 0 0) []:=⟨World.ownsRow_nil _ _ _ _,Keeps.refl _ _,by simp [Value.ownBlock]⟩
theorem Keeps.Bw{a b c:World}(h:Keeps (λ_=>False) a b)(k:Keeps (λ_=>False) b c):Keeps (λ_=>False) a c:=h.trans (k.mono (by simp))
theorem Vw(w:World)(v:Value)(n:Nat)(xs:List Value)(hr:Reads w 3 v n xs)(h1:∀u∈xs,u.oneCell'=true)(hn:n<=1000000000000):
  Calls Tryz.prog 139 #[v] w λe w'=>∃v',e= .returned v'/\w'.ownsRow 0 160 3 v' n xs/\Keeps (λ_=>False) w w'/\(∀k,v'.ownBlock=some k->w.heap.size<=k):=by
 obtain⟨i0,hi,hz0,hz1,hz2⟩:=info_parts Ub;have hr':=hr;obtain⟨ad,c,rfl,hnc,hl,hnone,hcells⟩:=hr';clear hcells;have heq:=fun(wx:World) (ad:Option Addr) (l c:Nat)=>Lib.run_eql_slice_nil (P:=Tryz.prog) wx 58 _ ad l c 0 0 Tryz.underlying58;rcases ad with _|a
 ·obtain rfl:=hnone rfl;obtain rfl:n=0:=by omega
  obtain rfl:xs= []:=List.eq_nil_of_length_eq_zero jr;have hr0:=Lib.hid hr;clear hr;go_enter Tryz.func139,Tryz.ntmps139;exact jH
 ·have Hr:=Lib.hid hr;clear hr;obtain⟨Hl,Hnone,H1⟩:=hid3 hl hnone h1;clear h1 hnone hl;go_enter Tryz.func139,Tryz.ntmps139
  go_wp2_with (at_builtin;refine Ao rfl (.tmp 5) (.tmp 6) 58 rfl 0 160 i0 _ 3 24 Tryz.underlying58 hi hz0 hz1 hz2 rfl j7 _ 0 [] rfl (World.ownsRow_lit w #[] 0 j6 jd rfl) _ n xs rfl (Hr.out.keeps (Keeps.alloc (S:=λ_=>False) _ _) (by simp)) H1.out jd j6 j6 ?_)
  intro v' w1 hown1 hk1 hfr
  have hend:w1.ownsRow 0 160 3 v' n xs/\Keeps (λ_=>False) w w1/\(∀k,v'.ownBlock=some k->w.heap.size<=k):=by
   exact jI
  exact jJ
def Mf(L M:List SV)(n:Nat):Prop:=∀i a b,i<n->L[i]?=some a->M[i]?=some b->Gq a.s b.s=true
theorem Rq(a b:Stm)(ad1 ad2:Option Addr)(c1 c2:Nat)(w:World){r:Bool}(hr:Gq a b=r):
  Calls Tryz.prog 210 #[.agg #[.int .i64 a.cycle,.int .i64 a.fr,.int .i64 a.te,.int .i64 a.due,.slice ad1 a.lines.length c1,.int .i64 a.total,.int .i64 a.credit,.int .i64 a.min,.bool a.grace],.agg #[.int .i64 b.cycle,.int .i64 b.fr,.int .i64 b.te,.int .i64 b.due,.slice ad2 b.lines.length c2,.int .i64 b.total,.int .i64 b.credit,.int .i64 b.min,.bool b.grace]] w λe w'=>e= .returned (.bool r)/\Keeps (λ_=>False) w w':=by
 subst hr;exact Zd a b ad1 ad2 c1 c2 w
theorem Yl(ad1 ad2:Option Addr)(c1 c2:Nat)(L M:List SV)(w:World)(h1:Reads w 9 (.slice ad1 L.length c1) L.length (L.flatMap SV.cells))(h2:Reads w 9 (.slice ad2 M.length c2) M.length (M.flatMap SV.cells))(hl:L.length<=1000000)(hm:M.length<=1000000):
  Calls Tryz.prog 209 #[.slice ad1 L.length c1,.slice ad2 M.length c2,.func (.func 210) #[] #[]] w λe w'=>∃r:Bool,e= .returned (.bool r)/\(r=true↔L.length=M.length/\Mf L M L.length)/\Keeps (λ_=>False) w w':=by
 obtain⟨n,hn⟩:∃n,L.length=n:=⟨_,rfl⟩;obtain⟨m,hm'⟩:∃m,M.length=m:=⟨_,rfl⟩;rw [hn] at h1 hl⊢;rw [hm'] at h2 hm⊢;by_cases hnm:n=m
 ·subst hnm;obtain⟨H1,H2,Hn,Hm'⟩:=hid4 h1 h2 hn hm';clear hm' hn h2 h1;go_enter Tryz.func209,Tryz.ntmps209;go_wp2_with fail
  go_loopw [17] (λc wr=>∃j:Nat,j<=n/\c= .int .i64 (j:Nat)/\Mf L M j/\Keeps (λ_=>False) w wr) (λc _=>n-(intOf c).toNat)
  case atStart=>exact⟨0,Nat.zero_le _,rfl,λi a b h=>by omega,Keeps.refl _ _⟩
  case round=>
   obtain⟨j,hj,rfl,hal,hk⟩:=hrel;by_cases hjn:j<n
   ·obtain⟨a,ha⟩:=Aq (L:=L) (k:=j) (by rw [Hn.out];exact hjn);obtain⟨b,hb⟩:=Aq (L:=M) (k:=j) (by rw [Hm'.out];exact hjn);obtain⟨g,o,c,he,hc⟩:=(H1.out.keeps hk (by simp)).elem SV.Aj ha j7;obtain⟨g',o',c',he',hc'⟩:=(H2.out.keeps hk (by simp)).elem SV.Aj hb j7;simp only [Value.slice.injEq,true_and] at he he';obtain⟨rfl,rfl⟩:=he;obtain⟨rfl,rfl⟩:=he';have x0:wr.cell? ⟨g,o+j*9,none⟩=some (.int .i64 a.s.cycle):=hc 0 j7;have x1:wr.cell? ⟨g,o+j*9+1,none⟩=some (.int .i64 a.s.fr):=hc 1 j7;have x2:wr.cell? ⟨g,o+j*9+2,none⟩=some (.int .i64 a.s.te):=hc 2 j7;have x3:wr.cell? ⟨g,o+j*9+3,none⟩=some (.int .i64 a.s.due):=hc 3 j7;have x4:wr.cell? ⟨g,o+j*9+4,none⟩=some (.slice a.ad a.s.lines.length a.cap):=hc 4 j7;have x5:wr.cell? ⟨g,o+j*9+5,none⟩=some (.int .i64 a.s.total):=hc 5 j7;have x6:wr.cell? ⟨g,o+j*9+6,none⟩=some (.int .i64 a.s.credit):=hc 6 j7;have x7:wr.cell? ⟨g,o+j*9+7,none⟩=some (.int .i64 a.s.min):=hc 7 j7;have x8:wr.cell? ⟨g,o+j*9+8,none⟩=some (.bool a.s.grace):=hc 8 j7;have y0:wr.cell? ⟨g',o'+j*9,none⟩=some (.int .i64 b.s.cycle):=hc' 0 j7;have y1:wr.cell? ⟨g',o'+j*9+1,none⟩=some (.int .i64 b.s.fr):=hc' 1 j7;have y2:wr.cell? ⟨g',o'+j*9+2,none⟩=some (.int .i64 b.s.te):=hc' 2 j7;have y3:wr.cell? ⟨g',o'+j*9+3,none⟩=some (.int .i64 b.s.due):=hc' 3 j7;have y4:wr.cell? ⟨g',o'+j*9+4,none⟩=some (.slice b.ad b.s.lines.length b.cap):=hc' 4 j7;have y5:wr.cell? ⟨g',o'+j*9+5,none⟩=some (.int .i64 b.s.total):=hc' 5 j7;have y6:wr.cell? ⟨g',o'+j*9+6,none⟩=some (.int .i64 b.s.credit):=hc' 6 j7;have y7:wr.cell? ⟨g',o'+j*9+7,none⟩=some (.int .i64 b.s.min):=hc' 7 j7;have y8:wr.cell? ⟨g',o'+j*9+8,none⟩=some (.bool b.s.grace):=hc' 8 j7;have hgl:=Ah x0;have hgl':=Ah y0;clear hc hc';rcases hab:Gq a.s b.s with _|_
    ·have hno:¬Mf L M n:=λh=>by have:=h j a b hjn ha hb;rw [hab] at this;simp at this
     obtain⟨Ha,Hb,Hal,Hk,Hab,Hno⟩:=hid6 ha hb hal hk hab hno;clear hno hab hk hal hb ha
     go_wp2_with (go_at_call 210;refine(Rq _ _ _ _ _ _ _ Hab.out).mono ?_;rintro e w3 ⟨rfl,hk3⟩;have Hk3:=Lib.hid hk3;clear hk3)
     go_ret;exact⟨false,rfl,by simp;exact Hno.out,(Hk.out.Bw ((Keeps.alloc _ _).Bw (Keeps.alloc _ _))).Bw Hk3.out⟩
    ·have hal':Mf L M (j+1):=λi a' b' hi ha' hb'=>by
      by_cases hij:i<j
      ·exact hal i a' b' hij ha' hb'
      ·obtain rfl:i=j:=by omega
       rw [ha] at ha';rw [hb] at hb'
       cases ha';cases hb';exact hab
     obtain⟨Ha,Hb,Hal,Hk,Hab,Hal'⟩:=hid6 ha hb hal hk hab hal';clear hal' hab hk hal hb ha
     go_wp2_with (go_at_call 210;refine(Rq _ _ _ _ _ _ _ Hab.out).mono ?_;rintro e w3 ⟨rfl,hk3⟩;have Hk3:=Lib.hid hk3;clear hk3)
     go_roundw
     case rel=>exact⟨j+1,by omega,by go_num,Hal'.out,(Hk.out.Bw ((Keeps.alloc _ _).Bw (Keeps.alloc _ _))).Bw Hk3.out⟩
     case measure=>simp [intOf];omega
   ·obtain rfl:j=n:=by omega
    obtain⟨Hal,Hk⟩:=hid2 hal hk;clear hk hal;go_wp2_with fail;go_ret;exact⟨true,rfl,by simp;exact Hal.out,Hk.out⟩
 ·have hnm':¬(n:Int)=(m:Int):=j8;obtain⟨H1,H2,Hn,Hm'⟩:=hid4 h1 h2 hn hm';clear hm' hn h2 h1;go_enter Tryz.func209,Tryz.ntmps209;go_wp2_with fail;go_ret;exact⟨false,rfl,by simp [hnm],Keeps.refl _ _⟩
structure Adj where
 seq:Int
 cycle:Int
 tranche:Int
 balance:Int
 interest:Int
 total:Int
 credit:Int
 min:Int
 grace:Int
deriving DecidableEq,Inhabited
def Adj.cells(d:Adj):List Value:= [.int .i64 d.seq,.int .i64 d.cycle,.int .i64 d.tranche,.int .i64 d.balance,.int .i64 d.interest,.int .i64 d.total,.int .i64 d.credit,.int .i64 d.min,.int .i64 d.grace]
theorem Adj.Aj(d:Adj):d.cells.length=9:=rfl
theorem Adj.one(L:List Adj):∀u∈L.flatMap Adj.cells,u.oneCell'=true:=by
 intro u hu;obtain⟨d,_,hd⟩:=List.mem_flatMap.1 hu;simp only [Adj.cells,List.mem_cons,List.not_mem_nil,or_false] at hd;rcases hd with rfl|rfl|rfl|rfl|rfl|rfl|rfl|rfl|rfl<;>rfl
def Adj.agg(a:Adj):Value:= .agg #[.int .i64 a.seq,.int .i64 a.cycle,.int .i64 a.tranche,.int .i64 a.balance,.int .i64 a.interest,.int .i64 a.total,.int .i64 a.credit,.int .i64 a.min,.int .i64 a.grace]
theorem Gr:(Tryz.prog.info? 90).map (λi=>(i.zero,i.size,i.bytes))=some (some (.agg #[.int .i64 0,.int .i64 0,.int .i64 0,.int .i64 0,.int .i64 0,.int .i64 0,.int .i64 0,.int .i64 0,.int .i64 0]),9,72):=by kernel_rfl
def Gd(seq cy:Int)(k:Nat)(x y:Ln):List Adj:=
 if x.balance=y.balance/\x.interest=y.interest then [] else [⟨seq,cy,(k:Int)+1,y.balance-x.balance,y.interest-x.interest,0,0,0,0⟩]
def Cy(seq cy:Int)(X Y:List Ln):Nat->List Adj
 |0=> []
 |k+1=>Cy seq cy X Y k++(match X[k]?,Y[k]? with|some x,some y=>Gd seq cy k x y|_,_=> [])
def Nz(seq:Int)(a b:Stm):Adj:=⟨seq,a.cycle,0,0,0,b.total-a.total,b.credit-a.credit,b.min-a.min,Jy a.grace b.grace⟩
def Mg(a b:Stm):Bool:=decide (a.total=b.total)&&decide (a.credit=b.credit)&&decide (a.min=b.min)&&(a.grace==b.grace)
def Eg(seq:Int)(a b:Stm):List Adj:=Cy seq a.cycle a.lines b.lines a.lines.length++if Mg a b then [] else [Nz seq a b]
def Stm.blk(s:Stm)(v:Value):Array Value:= #[.int .i64 s.cycle,.int .i64 s.fr,.int .i64 s.te,.int .i64 s.due,v,.int .i64 s.total,.int .i64 s.credit,.int .i64 s.min,.bool s.grace]
structure OneS(w W:World)(seq:Int)(a b:Stm)(va vb:Value)(W0:Nat)(v:Value)(k:Nat):Prop where
 ba:W.heap[w.heap.size]?=some (.cells (a.blk va) 60 (0,0))
 bb:W.heap[w.heap.size+1]?=some (.cells (b.blk vb) 60 (0,0))
 bw:W.heap[W0]?=some (.cells (Nz seq a b).cells.toArray 90 (0,0))
 w0:w.heap.size+1<W0
 row:W.ownsRow 0 90 9 v (Cy seq a.cycle a.lines b.lines k).length ((Cy seq a.cycle a.lines b.lines k).flatMap Adj.cells)
 kp:Keeps (λ_=>False) w W
 nw:∀g,v.ownBlock=some g->W0<g
theorem OneS.keep{w W W':World}{seq:Int}{a b:Stm}{va vb:Value}{W0:Nat}{v:Value}{k:Nat}(h:OneS w W seq a b va vb W0 v k)(hk:Keeps (λ_=>False) W W'):OneS w W' seq a b va vb W0 v k:=
 ⟨Ad h.ba hk (by simp),Ad h.bb hk (by simp),Ad h.bw hk (by simp),h.w0,hk.row h.row (by simp),h.kp.Bw hk,h.nw⟩
def Sk(i:Nat)(a':Act):Nat:=match a'.tmps.getD i undef with| .int _ n=>n.toNat|_=>0
def oneFr(w:World)(seq:Int)(W0:Nat)(v:Value)(k:Nat)(u:Nat->Value):Act:={ tmps:= #[.int .i64 seq,u 1,u 2,u 3,(.pointer (some ⟨w.heap.size,0,none⟩)),(.pointer (some ⟨w.heap.size+1,0,none⟩)),u 6,v,.int .i64 k,(.pointer (some ⟨W0,0,none⟩)),u 10,u 11,u 12,u 13,u 14,u 15,u 16,u 17,u 18,u 19,u 20,u 21,u 22,u 23,u 24,u 25,u 26,u 27,u 28,u 29,u 30,u 31,u 32,u 33,u 34,u 35,u 36,u 37,u 38,u 39,u 40,u 41,u 42,u 43,u 44,u 45,u 46,u 47,u 48,u 49,u 50,u 51,u 52,u 53,u 54,u 55,u 56,u 57,u 58,u 59,u 60,u 61,u 62,u 63,u 64,u 65,u 66,u 67,u 68,u 69,u 70,u 71,u 72,u 73,u 74,u 75,u 76,u 77,u 78,u 79,u 80,u 81,u 82,u 83,u 84,u 85,u 86,u 87,u 88,u 89,u 90,u 91,u 92,u 93],defers:= [] }
def oneJ(w:World)(seq:Int)(a b:Stm)(va vb:Value)(a':Act)(W:World):Prop:=∃(W0:Nat) (v:Value) (k:Nat) (u:Nat->Value),a'=oneFr w seq W0 v k u/\OneS w W seq a b va vb W0 v k/\k<=a.lines.length
theorem oneJ.mk{w W:World}{seq:Int}{a b:Stm}{va vb:Value}{a':Act}(W0:Nat)(v:Value)(k:Nat)(h:a'=oneFr w seq W0 v k (λi=>a'.tmps.getD i undef))(hs:OneS w W seq a b va vb W0 v k)(hk:k<=a.lines.length):oneJ w seq a b va vb a' W:=⟨W0,v,k,_,h,hs,hk⟩
def Ms(w:World)(seq:Int)(a b:Stm)(e:Ending)(w':World):Prop:=
 ∃v,e= .returned v/\w'.ownsRow 0 90 9 v (Eg seq a b).length ((Eg seq a b).flatMap Adj.cells)/\Fresh w w' v
theorem Jp{v:Int}(h:Gy v=true):0<=v/\v<=1000000000000000:=by
 have hd:Gy v=decide (0<=v/\v<=1000000000000000):=rfl;rw [hd] at h;simpa using h
theorem Re{s:Stm}(h:s.Cx=true):(0<=s.total/\s.total<=1000000000000000)/\(0<=s.credit/\s.credit<=1000000000000000)/\(0<=s.min/\s.min<=1000000000000000):=by
 simp only [Stm.Cx,Cq,List.all_cons,List.all_nil,Bool.and_eq_true,Bool.and_true] at h;exact⟨Jp h.2.1,Jp h.2.2.1,Jp h.2.2.2⟩
theorem Rc{s:Stm}(h:s.Cx=true){k:Nat}{x:Ln}(hx:s.lines[k]?=some x):(0<=x.balance/\x.balance<=1000000000000000)/\(0<=x.interest/\x.interest<=1000000000000000):=by
 simp only [Stm.Cx,Bool.and_eq_true] at h;have:=List.all_eq_true.1 h.1 x (List.mem_of_getElem? hx);simp only [Ln.numsB,Cq,List.all_cons,List.all_nil,Bool.and_eq_true,Bool.and_true] at this;exact⟨Jp this.1,Jp this.2⟩
def onS(w:World)(a b:Stm)(w':World):Prop:=w'.cell? ⟨w.heap.size,0,none⟩=some (.int .i64 a.cycle)/\w'.cell? ⟨w.heap.size,5,none⟩=some (.int .i64 a.total)/\w'.cell? ⟨w.heap.size,6,none⟩=some (.int .i64 a.credit)/\w'.cell? ⟨w.heap.size,7,none⟩=some (.int .i64 a.min)/\w'.cell? ⟨w.heap.size,8,none⟩=some (.bool a.grace)/\w'.cell? ⟨w.heap.size+1,5,none⟩=some (.int .i64 b.total)/\w'.cell? ⟨w.heap.size+1,6,none⟩=some (.int .i64 b.credit)/\w'.cell? ⟨w.heap.size+1,7,none⟩=some (.int .i64 b.min)/\w'.cell? ⟨w.heap.size+1,8,none⟩=some (.bool b.grace)
theorem onS.keep{w W W':World}{a b:Stm}(h:onS w a b W)(hk:Keeps (λ_=>False) W W'):onS w a b W':=by
 obtain⟨h0,h1,h2,h3,h4,h5,h6,h7,h8⟩:=h;exact⟨(hk.cell (Ah h0) (by simp)).trans h0,(hk.cell (Ah h1) (by simp)).trans h1,(hk.cell (Ah h2) (by simp)).trans h2,(hk.cell (Ah h3) (by simp)).trans h3,(hk.cell (Ah h4) (by simp)).trans h4,(hk.cell (Ah h5) (by simp)).trans h5,(hk.cell (Ah h6) (by simp)).trans h6,(hk.cell (Ah h7) (by simp)).trans h7,(hk.cell (Ah h8) (by simp)).trans h8⟩
def onL(B g o g' o' k n ca cb:Nat)(xb xi xr yb yi yr:Int)(w':World):Prop:=
 w'.cell? ⟨B,4,none⟩=some (.slice (some ⟨g,o,none⟩) n ca)/\w'.cell? ⟨B+1,4,none⟩=some (.slice (some ⟨g',o',none⟩) n cb)/\w'.cell? ⟨g,o+k*3,none⟩=some (.int .i64 xb)/\w'.cell? ⟨g,o+k*3+1,none⟩=some (.int .i64 xi)/\w'.cell? ⟨g,o+k*3+2,none⟩=some (.int .i64 xr)/\
  w'.cell? ⟨g',o'+k*3,none⟩=some (.int .i64 yb)/\w'.cell? ⟨g',o'+k*3+1,none⟩=some (.int .i64 yi)/\w'.cell? ⟨g',o'+k*3+2,none⟩=some (.int .i64 yr)
theorem onL.keep{B g o g' o' k n ca cb:Nat}{xb xi xr yb yi yr:Int}{W W':World}(h:onL B g o g' o' k n ca cb xb xi xr yb yi yr W)(hk:Keeps (λ_=>False) W W'):onL B g o g' o' k n ca cb xb xi xr yb yi yr W':=by
 exact j2t
theorem Rt{P:Program}{a:Act}{w:World}{Q:Exit->Act->World->Prop}{c rest:Code}(l:Nat)(J:Act->World->Prop)(M:Act->World->Nat)(hf:findLabel c l=some (Code.skip.seq rest))
  (round:∀a w,J a w->rest.wp P (Exit.jump l (λa' w'=>J a' w'/\M a' w'<M a w) Q) a w)
  (first:(∀a w,J a w->rest.wp P (Exit.jump l J Q) a w)->c.wp P (Exit.jump l J Q) a w):(Code.scope c).wp P Q a w:=by
 exact j2a
theorem Ni(w:World)(o:Obj){i:Nat}(h:i=w.heap.size):(w.alloc o).heap[i]?=some o:=by subst h;exact heap_alloc_new w o
theorem Jg(seq cy:Int)(X Y:List Ln):∀k,(Cy seq cy X Y k).length<=k
 |0=>Nat.le_refl _
 |k+1=>by
  have ih:=Jg seq cy X Y k;simp only [Cy,List.length_append]
  have:(match X[k]?,Y[k]? with|some x,some y=>Gd seq cy k x y|_,_=> []).length<=1:=by
   rcases X[k]? with _|x<;>rcases Y[k]? with _|y<;>simp
   unfold Gd;split<;>simp
  omega
theorem OneS.app{w W W':World}{seq:Int}{a b:Stm}{va vb:Value}{W0:Nat}{v v':Value}{k:Nat}{x:Adj}{m:Nat}{xs:List Value}(h:OneS w W seq a b va vb W0 v k)(hl:Cy seq a.cycle a.lines b.lines (k+1)=Cy seq a.cycle a.lines b.lines k++ [x])
  (hm:m=(Cy seq a.cycle a.lines b.lines k).length+1) (hx:xs=(Cy seq a.cycle a.lines b.lines k).flatMap Adj.cells++x.cells) (ho:W'.ownsRow 0 90 9 v' m xs) (hk:Keeps (λi=>v.ownBlock=some i) W W') (hf:v'.ownBlock=v.ownBlock\/∃g,v'.ownBlock=some g/\W.heap.size<=g):
  OneS w W' seq a b va vb W0 v' (k+1):=by
 have hbw:=lt_of_block h.bw;have n1:∀g,v.ownBlock=some g->w.heap.size+1<g:=λg hg=>by have:=h.nw g hg;have:=h.w0;omega
 refine⟨Ad h.ba hk (λe=>by have:=n1 _ e;omega),Ad h.bb hk (λe=>by have:=n1 _ e;omega),Ad h.bw hk (λe=>by have:=h.nw _ e;omega),h.w0, ?_,h.kp.trans (hk.mono λi _ e=>by right;have:=n1 _ e;omega),λg hg=> ?_⟩
 ·rw [hl];simp only [List.length_append,List.length_singleton,List.flatMap_append,List.flatMap_cons,List.flatMap_nil,List.append_nil];rw [<-hx,<-hm];exact ho
 ·rcases hf with e|⟨g',e,h'⟩
  ·exact h.nw g (by rw [<-e];exact hg)
  ·exact j1c
theorem Va(a b:Stm):Mg a b=true↔(b.total-a.total=0/\b.credit-a.credit=0/\b.min-a.min=0/\Jy a.grace b.grace=0):=by
 have hg:(a.grace==b.grace)=true↔Jy a.grace b.grace=0:=by cases a.grace<;>cases b.grace<;>decide
 simp only [Mg,Bool.and_eq_true,decide_eq_true_eq,hg]
 constructor
 ·rintro⟨⟨⟨h1,h2⟩,h3⟩,h4⟩;exact⟨by omega,by omega,by omega,h4⟩
 ·rintro⟨h1,h2,h3,h4⟩;exact⟨⟨⟨by omega,by omega⟩,by omega⟩,h4⟩
theorem Adb(seq:Int)(a b:Stm)(va vb:Value)(w:World)(hra:Reads w 3 va a.lines.length (a.lines.flatMap Ln.cells))(hrb:Reads w 3 vb b.lines.length (b.lines.flatMap Ln.cells))(hab:a.lines.length=b.lines.length)(hl:a.lines.length<=1000000)
  (hna:a.Cx=true) (hnb:b.Cx=true):
  Calls Tryz.prog 212 #[.int .i64 seq,a.val va,b.val vb] w (Ms w seq a b):=by
 obtain⟨i0,hi,hi0,hi1,hi2⟩:=info_parts Gr;simp only [Stm.val];have hba:=heap_alloc_new w (.cells (a.blk va) 60);have hbb:=heap_alloc_new (w.alloc (.cells (a.blk va) 60)) (.cells (b.blk vb) 60);rw [show(w.alloc (.cells (a.blk va) 60)).heap.size=w.heap.size+1 by simp] at hbb;have hba2:=Ar hba (.cells (b.blk vb) 60);have m0:=Re hna;have m1:=Re hnb;obtain⟨⟨ta0,ta1⟩,⟨ca0,ca1⟩,⟨ma0,ma1⟩⟩:=m0;obtain⟨⟨tb0,tb1⟩,⟨cb0,cb1⟩,⟨mb0,mb1⟩⟩:=m1;have w0:IntKind.i64.wrap (b.total-a.total)=b.total-a.total:=IntWalk.i64_in _ j6;have w1:IntKind.i64.wrap (b.credit-a.credit)=b.credit-a.credit:=IntWalk.i64_in _ j6;have w2:IntKind.i64.wrap (b.min-a.min)=b.min-a.min:=IntWalk.i64_in _ j6;clear ta0 ta1 ca0 ca1 ma0 ma1 tb0 tb1 cb0 cb1 mb0 mb1;obtain⟨Hra,Hrb,Hab,Hna,Hnb,Hba,Hba2,Hbb,Hi⟩:=hid9 hra hrb hab hna hnb hba hba2 hbb hi;clear hi hbb hba2 hba hnb hna hab hrb hra;obtain⟨Hi0,Hi1,Hi2⟩:=hid3 hi0 hi1 hi2;clear hi2 hi1 hi0;go_enter Tryz.func212,Tryz.ntmps212;go_wp2_with fail;refine Rt 0 (oneJ w seq a b va vb) (λa' _=>a.lines.length-Sk 8 a') rfl ?_ ?_
 ·rintro a' W ⟨W0,v,k,u,rfl,hs,hk⟩;unfold oneFr;have a0:W.cell? ⟨w.heap.size,0,none⟩=some (.int .i64 a.cycle):=Aa hs.ba 0;have a3:W.cell? ⟨w.heap.size,4,none⟩=some va:=Aa hs.ba 4;have b3:W.cell? ⟨w.heap.size+1,4,none⟩=some vb:=Aa hs.bb 4;have la:=lt_of_block hs.ba;have lb:=lt_of_block hs.bb;obtain⟨n,hn⟩:∃n,a.lines.length=n:=⟨_,rfl⟩;have hra:=Hra.out.keeps hs.kp (by simp);have hrb:=Hrb.out.keeps hs.kp (by simp);rw [<-Hab.out] at hrb;have hra':=hra;have hrb':=hrb;obtain⟨ada,ca,rfl,hca,_⟩:=hra';obtain⟨adb,cb,rfl,hcb,_⟩:=hrb';rw [hn] at hra hrb a3 b3 hca hcb hk hl hs;by_cases hkn:k<n
  ·obtain⟨x,hx⟩:=Aq (L:=a.lines) (k:=k) j6;obtain⟨y,hy⟩:=Aq (L:=b.lines) (k:=k) (by rw [<-Hab.out];omega);obtain⟨g,o,c,he,hc⟩:=hra.elem Ln.Aj hx j7;obtain⟨g',o',c',he',hc'⟩:=hrb.elem Ln.Aj hy j7;simp only [Value.slice.injEq,true_and] at he he';obtain⟨rfl,rfl⟩:=he;obtain⟨rfl,rfl⟩:=he';have bx:=Rc Hna.out hx;have bY:=Rc Hnb.out hy;have hlin:Cy seq a.cycle a.lines b.lines (k+1)=Cy seq a.cycle a.lines b.lines k++Gd seq a.cycle k x y:=by simp only [Cy,hx,hy]
   obtain⟨xb,xi,xr⟩:=x;obtain⟨yb,yi,yr⟩:=y;obtain⟨⟨xb0,xb1⟩,⟨xi0,xi1⟩⟩:=bx;obtain⟨⟨yb0,yb1⟩,⟨yi0,yi1⟩⟩:=bY;simp only at xb0 xb1 xi0 xi1 yb0 yb1 yi0 yi1;have x0:W.cell? ⟨g,o+k*3,none⟩=some (.int .i64 xb):=hc 0 j7;have x1:W.cell? ⟨g,o+k*3+1,none⟩=some (.int .i64 xi):=hc 1 j7;have x2:W.cell? ⟨g,o+k*3+2,none⟩=some (.int .i64 xr):=hc 2 j7;have y0:W.cell? ⟨g',o'+k*3,none⟩=some (.int .i64 yb):=hc' 0 j7;have y1:W.cell? ⟨g',o'+k*3+1,none⟩=some (.int .i64 yi):=hc' 1 j7;have y2:W.cell? ⟨g',o'+k*3+2,none⟩=some (.int .i64 yr):=hc' 2 j7;have hkI:(k:Int)<(n:Int):=j8;have hk0:(0:Int)<=(k:Int):=j8;clear hc hc';obtain⟨Hs,Hra,Hrb,Hx,Hy,Hlin,Hn⟩:=hid7 hs hra hrb hx hy hlin hn;clear hn hlin hy hx hrb hra hs
   go_upto_region 5 with(fail)
   go_cut [10,11] (λs10 s11 wx=>∃X Y,s10=(.pointer (some ⟨X,0,none⟩))/\s11=(.pointer (some ⟨Y,0,none⟩))/\Hid (wx.heap[X]?=some (.cells #[.int .i64 xb,.int .i64 xi,.int .i64 xr] 160 (0,0)))/\Hid (wx.heap[Y]?=some (.cells #[.int .i64 yb,.int .i64 yi,.int .i64 yr] 160 (0,0)))/\Hid (OneS w wx seq a b (.slice (some ⟨g,o,none⟩) n ca) (.slice (some ⟨g',o',none⟩) n cb) W0 v k))
   case first=>
    refine Al (onL w.heap.size g o g' o' k n ca cb xb xi xr yb yi yr) (.take 0 (.take 1 (.take 2 (.take 3 (.take 4 (.take 5 (.take 6 (.take 7 (.take 8 (.take 9 (.fork 10 (.move 11 (.move 12 (.move 13 .done))) 11 (.move 10 (.move 12 (.move 13 .done)))))))))))))) j9 j9 ?_ ?_
    ·refine⟨?_, ?_, ?_, ?_, ?_, ?_, ?_, ?_⟩<;>go_simp
    intro w3 hs3 hk3;have HS3:=Lib.hid hs3;clear hs3;have Hk3:=Lib.hid hk3;clear hk3
    repeat ((first|refine Bo rfl (by rfl) ?_|refine Be rfl (by rfl) ?_|(refine Bj (v:= ?_) rfl (by rfl) ?_ ?_;rotate_left;(· intro w' hSw;unfold onL at hSw;go_simp;(try with_reducible rfl));rotate_right));try simp only [aps])
    refine Dn ?_ ?_ HS3.out
    ·
     refine Ag rfl (λK hK=> ?_);go_simp;refine j0A ?_;clear hK K;refine jW ?_;refine jW ?_;refine jW ?_;refine jt ?_;go_wp2_with fail;go_meet;exact⟨_,_,rfl,rfl,Lib.hid (Ar (heap_alloc_new _ _) _),Lib.hid (Ni _ _ (by simp)),Lib.hid (((Hs.out.keep Hk3.out).keep (Keeps.alloc _ _)).keep (Keeps.alloc _ _))⟩
    ·
     refine Ag rfl (λK hK=> ?_);go_simp;refine j0A ?_;clear hK K;refine jW ?_;refine jW ?_;refine jW ?_;refine jt ?_;go_wp2_with fail;go_meet;exact⟨_,_,rfl,rfl,Lib.hid (Ni _ _ (by simp)),Lib.hid (Ar (heap_alloc_new _ _) _),Lib.hid (((Hs.out.keep Hk3.out).keep (Keeps.alloc _ _)).keep (Keeps.alloc _ _))⟩
   case rest=>
    obtain⟨X,Y,rfl,rfl,HX,HY,Hs5⟩:=hcut;have c0:=Aa HX.out 0;have c1:=Aa HX.out 1;have d0:=Aa HY.out 0;have d1:=Aa HY.out 1;have a0':World.cell? _ (⟨w.heap.size,0,none⟩:Addr)=some (.int .i64 a.cycle):=Aa Hs5.out.ba 0;have q0:IntKind.i64.wrap (yb-xb)=yb-xb:=IntWalk.i64_in _ j6;have q1:IntKind.i64.wrap (yi-xi)=yi-xi:=IntWalk.i64_in _ j6;have q2:IntKind.i64.wrap ((k:Int)+1)=(k:Int)+1:=IntWalk.i64_in _ j6;clear a0 a3 b3 x0 x1 x2 y0 y1 y2 xb0 xb1 xi0 xi1 yb0 yb1 yi0 yi1;have hlo:(Cy seq a.cycle a.lines b.lines k).length<=k:=Jg _ _ _ _ _;by_cases e0:xb=yb
    ·by_cases e1:xi=yi
     ·subst e0 e1
      have hsame:OneS w wc seq a b (.slice (some ⟨g,o,none⟩) n ca) (.slice (some ⟨g',o',none⟩) n cb) W0 v (k+1):=by
       have h5:=Hs5.out;refine⟨h5.ba,h5.bb,h5.bw,h5.w0, ?_,h5.kp,h5.nw⟩;have e:Gd seq a.cycle k ⟨xb,xi,xr⟩ ⟨xb,xi,yr⟩= []:=by simp [Gd]
       rw [Hlin.out,e,List.append_nil];exact h5.row
      obtain⟨Hsame,Hlo⟩:=hid2 hsame hlo;clear hlo hsame;go_wp2_with fail;go_step3;go_wp2;exact Au ⟨oneJ.mk W0 v (k+1) rfl (by rw [Hn.out];exact Hsame.out) jE,by rw [Hn.out];simp [Sk];omega⟩
     ·subst e0;have q3:xb-xb=0:=Int.sub_self xb;have e1':(xi==yi)=false:=beq_eq_false_iff_ne.2 e1
      have hne:Gd seq a.cycle k ⟨xb,xi,xr⟩ ⟨xb,yi,yr⟩= [⟨seq,a.cycle,(k:Int)+1,xb-xb,yi-xi,0,0,0,0⟩]:=by
       unfold Gd;rw [if_neg (by first|exact λh=>e0 h.1|exact λh=>e1 h.2)]
      exact j2u
    ·have e0':(xb==yb)=false:=beq_eq_false_iff_ne.2 e0
     have hne:Gd seq a.cycle k ⟨xb,xi,xr⟩ ⟨yb,yi,yr⟩= [⟨seq,a.cycle,(k:Int)+1,yb-xb,yi-xi,0,0,0,0⟩]:=by
      unfold Gd;rw [if_neg (by first|exact λh=>e0 h.1|exact λh=>e1 h.2)]
     exact j2u
  ·obtain rfl:k=n:=by omega
   have c0:W.cell? ⟨W0,0,none⟩=some (.int .i64 seq):=Aa hs.bw 0;have c1:W.cell? ⟨W0,1,none⟩=some (.int .i64 a.cycle):=Aa hs.bw 1;have c2:W.cell? ⟨W0,2,none⟩=some (.int .i64 0):=Aa hs.bw 2;have c3:W.cell? ⟨W0,3,none⟩=some (.int .i64 0):=Aa hs.bw 3;have c4:W.cell? ⟨W0,4,none⟩=some (.int .i64 0):=Aa hs.bw 4;have c5:W.cell? ⟨W0,5,none⟩=some (.int .i64 (b.total-a.total)):=Aa hs.bw 5;have c6:W.cell? ⟨W0,6,none⟩=some (.int .i64 (b.credit-a.credit)):=Aa hs.bw 6;have c7:W.cell? ⟨W0,7,none⟩=some (.int .i64 (b.min-a.min)):=Aa hs.bw 7;have c8:W.cell? ⟨W0,8,none⟩=some (.int .i64 (Jy a.grace b.grace)):=Aa hs.bw 8;have hws:=Va a b;have hend:Eg seq a b=Cy seq a.cycle a.lines b.lines k++if Mg a b then [] else [Nz seq a b]:=by unfold Eg;rw [hn]
   have hwa:Nz seq a b=⟨seq,a.cycle,0,0,0,b.total-a.total,b.credit-a.credit,b.min-a.min,Jy a.grace b.grace⟩:=rfl;obtain⟨dt,hdt⟩:∃d,b.total-a.total=d:=⟨_,rfl⟩;obtain⟨dc,hdc⟩:∃d,b.credit-a.credit=d:=⟨_,rfl⟩;obtain⟨dm,hdm⟩:∃d,b.min-a.min=d:=⟨_,rfl⟩;obtain⟨dg,hdg⟩:∃d,Jy a.grace b.grace=d:=⟨_,rfl⟩;rw [hdt,hdc,hdm,hdg] at hws hwa;rw [hdt] at c5;rw [hdc] at c6;rw [hdm] at c7;rw [hdg] at c8;rw [hwa] at hend;have hlo:(Cy seq a.cycle a.lines b.lines k).length<=k:=Jg _ _ _ _ _;have hrow:=hs.row;obtain⟨m,hm⟩:∃m,(Cy seq a.cycle a.lines b.lines k).length=m:=⟨_,rfl⟩;obtain⟨adv,cv,rfl,_,_⟩:=Ae hrow;rw [hm] at hlo hrow hs⊢;clear w0 w1 w2 hdt hdc hdm hdg hwa;by_cases z1:dt=0
   ·by_cases z2:dc=0
    ·by_cases z3:dm=0
     ·by_cases z4:dg=0
      ·subst z1 z2 z3 z4;rw [if_pos (hws.2 ⟨rfl,rfl,rfl,rfl⟩),List.append_nil] at hend;obtain⟨Hs,Hra,Hrb,Hn,Hws,Hend,Hm,Hrow⟩:=hid8 hs hra hrb hn hws hend hm hrow;clear hrow hm hend hws hn hrb hra hs;go_wp2_with fail;refine Bq ?_;go_ret;exact⟨_,rfl,by rw [Hend.out,Hm.out];exact Hrow.out,Hs.out.kp,λg hg=>by have:=Hs.out.nw g hg;have:=Hs.out.w0;omega⟩
      ·subst z1 z2 z3;rw [if_neg (λh=>z4 (hws.1 h).2.2.2)] at hend;exact j0B
     ·subst z1 z2;rw [if_neg (λh=>z3 (hws.1 h).2.2.1)] at hend;exact j0B
    ·subst z1;rw [if_neg (λh=>z2 (hws.1 h).2.1)] at hend;exact j0B
   ·rw [if_neg (λh=>z1 (hws.1 h).1)] at hend;exact j0B
 ·refine jy ?_;intro Hfirst
  go_upto_region 3 with(fail)
  go_cut [9] (λs9 wx=>∃W0,s9=(.pointer (some ⟨W0,0,none⟩))/\Hid (OneS w wx seq a b va vb W0 (.slice none 0 0) 0))
  case first=>
   refine Al (onS w a b) (.take 0 (.take 1 (.take 2 (.take 3 (.take 4 (.take 5 (.take 6 (.take 7 (.take 8 (.take 9 (.take 10 (.take 11 (.take 12 (.take 13 (.take 14 (.take 15 (.take 16 (.take 17 (.take 18 (.take 19 (.take 20 (.take 21 (.take 22 (.take 23 (.move 24 (.move 25 .done)))))))))))))))))))))))))) j9 j9 ?_ ?_
   ·refine⟨?_, ?_, ?_, ?_, ?_, ?_, ?_, ?_, ?_⟩<;>go_simp
   intro w3 hs3 hk3;have HS3:=Lib.hid hs3;unfold onS at hs3;have Hk3:=Lib.hid hk3;clear hk3;refine j2v ?_;refine Fp (v:= ?_) rfl (by rfl) ?_ ?_ ?_ ?_ ?_
   rotate_left 3
   ·intro w' hSw;unfold onS at hSw;go_simp;(first|done|(constructor<;>with_reducible rfl)|with_reducible rfl)
   ·intro w' hSw;exact(Vz _ _ _)
   rotate_right 3
   try simp only [aps]
   refine j2v ?_;refine jc ?_;intro K hK;refine j0A ?_;clear hK K;refine ja ?_;refine jc ?_;intro K hK;refine j0A ?_;clear hK K;refine jt ?_;go_wp2_with fail;go_meet;refine⟨_,rfl,Lib.hid ⟨Ar (Ad Hba2.out Hk3.out (by simp)) _,Ar (Ad Hbb.out Hk3.out (by simp)) _,heap_alloc_new _ _, ?_,World.ownsRow_nil _ _ _ _, ?_,by simp [Value.ownBlock]⟩⟩
   ·have:=Hk3.out.size;simp at this;omega
   ·exact(Keeps.Bw jf Hk3.out).Bw (Keeps.alloc _ _)
  case rest=>
   obtain⟨W0,rfl,hs⟩:=hcut;go_wp2_with fail;go_step3;rename_i hK;refine jz ?_;exact(oneJ.mk W0 (.slice none 0 0) 0 rfl hs.out (Nat.zero_le _))
def Jm(seq:Int):List SV->List SV->List Adj->Int×List Adj
 |a::A,b::B,acc=>if a.s.Cx&&b.s.Cx then Jm seq A B (acc++Eg seq a.s b.s) else(5, [])
 |_,_,acc=>(0,acc)
def Betw(seq:Int)(L M:List SV)(r:Int×List Adj):Prop:=((L.length=M.length/\Mf L M L.length)/\r=Jm seq L M [])\/(¬(L.length=M.length/\Mf L M L.length)/\r=(1, []))
def BetPost(w:World)(r:Int×List Adj)(e:Ending)(w':World):Prop:=
 ∃v,e= .returned (.tuple #[v,.int .i64 r.1])/\w'.ownsRow 0 90 9 v r.2.length (r.2.flatMap Adj.cells)/\Fresh w w' v
def SVs(w:World)(L:List SV):Prop:=∀x∈L,Reads w 3 x.v x.s.lines.length (x.s.lines.flatMap Ln.cells)/\x.s.lines.length<=1000
theorem SVs.keep{w w':World}{L:List SV}(h:SVs w L)(hk:Keeps (λ_=>False) w w'):SVs w' L:=λx hx=>⟨(h x hx).1.keeps hk (by simp),(h x hx).2⟩
theorem Wq(seq:Int)(a b:Stm):(Eg seq a b).length<=a.lines.length+1:=by
 unfold Eg;have:=Jg seq a.cycle a.lines b.lines a.lines.length;simp only [List.length_append]
 split<;>simp<;>omega
theorem Et(s:Stm)(v:Value)(w:World){r:Bool}(hr:Reads w 3 v s.lines.length (s.lines.flatMap Ln.cells))(hl:s.lines.length<=1000)(he:s.Cx=r):
  Calls Tryz.prog 211 #[.agg #[.int .i64 s.cycle,.int .i64 s.fr,.int .i64 s.te,.int .i64 s.due,v,.int .i64 s.total,.int .i64 s.credit,.int .i64 s.min,.bool s.grace]] w λe w'=>e= .returned (.bool r)/\Keeps (λ_=>False) w w':=by
 have hr':=hr;obtain⟨ad,c,rfl,_⟩:=hr';subst he;exact Un s ad c w hr j6
theorem adjOne_at(seq:Int)(a b:Stm)(va vb:Value)(w:World)(hra:Reads w 3 va a.lines.length (a.lines.flatMap Ln.cells))(hrb:Reads w 3 vb b.lines.length (b.lines.flatMap Ln.cells))(hab:a.lines.length=b.lines.length)(hl:a.lines.length<=1000)
  (hna:a.Cx=true) (hnb:b.Cx=true):
  Calls Tryz.prog 212 #[.int .i64 seq,.agg #[.int .i64 a.cycle,.int .i64 a.fr,.int .i64 a.te,.int .i64 a.due,va,.int .i64 a.total,.int .i64 a.credit,.int .i64 a.min,.bool a.grace],.agg #[.int .i64 b.cycle,.int .i64 b.fr,.int .i64 b.te,.int .i64 b.due,vb,.int .i64 b.total,.int .i64 b.credit,.int .i64 b.min,.bool b.grace]] w (Ms w seq a b):=
 Adb seq a b va vb w hra hrb hab (by omega) hna hnb
theorem Xe{α:Type}{L:List α}{k:Nat}{x:α}(h:L[k]?=some x):L.drop k=x::L.drop (k+1):=by
 have hk:=Db h;rw [List.drop_eq_getElem_cons hk];rw [List.getElem?_eq_getElem hk] at h;rw [Option.some.inj h]
def bwS(A g o k:Nat)(x y:Stm)(vx vy:Value)(w':World):Prop:=
 w'.cell? ⟨A,0,none⟩=some (.int .i64 x.cycle)/\w'.cell? ⟨A,1,none⟩=some (.int .i64 x.fr)/\w'.cell? ⟨A,2,none⟩=some (.int .i64 x.te)/\w'.cell? ⟨A,3,none⟩=some (.int .i64 x.due)/\w'.cell? ⟨A,4,none⟩=some (vx)/\w'.cell? ⟨A,5,none⟩=some (.int .i64 x.total)/\w'.cell? ⟨A,6,none⟩=some (.int .i64 x.credit)/\w'.cell? ⟨A,7,none⟩=some (.int .i64 x.min)/\w'.cell? ⟨A,8,none⟩=some (.bool x.grace)/\w'.cell? ⟨g,o+k*9,none⟩=some (.int .i64 y.cycle)/\w'.cell? ⟨g,o+k*9+1,none⟩=some (.int .i64 y.fr)/\w'.cell? ⟨g,o+k*9+2,none⟩=some (.int .i64 y.te)/\w'.cell? ⟨g,o+k*9+3,none⟩=some (.int .i64 y.due)/\w'.cell? ⟨g,o+k*9+4,none⟩=some (vy)/\w'.cell? ⟨g,o+k*9+5,none⟩=some (.int .i64 y.total)/\w'.cell? ⟨g,o+k*9+6,none⟩=some (.int .i64 y.credit)/\w'.cell? ⟨g,o+k*9+7,none⟩=some (.int .i64 y.min)/\w'.cell? ⟨g,o+k*9+8,none⟩=some (.bool y.grace)
theorem bwS.keep{A g o k:Nat}{x y:Stm}{vx vy:Value}{W W':World}(h:bwS A g o k x y vx vy W)(hk:Keeps (λ_=>False) W W'):bwS A g o k x y vx vy W':=by
 obtain⟨h0,h1,h2,h3,h4,h5,h6,h7,h8,h9,h10,h11,h12,h13,h14,h15,h16,h17⟩:=h;exact⟨(hk.cell (Ah h0) (by simp)).trans h0,(hk.cell (Ah h1) (by simp)).trans h1,(hk.cell (Ah h2) (by simp)).trans h2,(hk.cell (Ah h3) (by simp)).trans h3,(hk.cell (Ah h4) (by simp)).trans h4,(hk.cell (Ah h5) (by simp)).trans h5,(hk.cell (Ah h6) (by simp)).trans h6,(hk.cell (Ah h7) (by simp)).trans h7,(hk.cell (Ah h8) (by simp)).trans h8,(hk.cell (Ah h9) (by simp)).trans h9,(hk.cell (Ah h10) (by simp)).trans h10,(hk.cell (Ah h11) (by simp)).trans h11,(hk.cell (Ah h12) (by simp)).trans h12,(hk.cell (Ah h13) (by simp)).trans h13,(hk.cell (Ah h14) (by simp)).trans h14,(hk.cell (Ah h15) (by simp)).trans h15,(hk.cell (Ah h16) (by simp)).trans h16,(hk.cell (Ah h17) (by simp)).trans h17⟩
theorem bwS.keep2{A g o k:Nat}{x y:Stm}{vx vy:Value}{W W':World}{T:Nat->Prop}(h:bwS A g o k x y vx vy W)(hk:Keeps T W W')(hA:¬T A)(hg:¬T g):bwS A g o k x y vx vy W':=by
 obtain⟨h0,h1,h2,h3,h4,h5,h6,h7,h8,h9,h10,h11,h12,h13,h14,h15,h16,h17⟩:=h;exact⟨(hk.cell (Ah h0) hA).trans h0,(hk.cell (Ah h1) hA).trans h1,(hk.cell (Ah h2) hA).trans h2,(hk.cell (Ah h3) hA).trans h3,(hk.cell (Ah h4) hA).trans h4,(hk.cell (Ah h5) hA).trans h5,(hk.cell (Ah h6) hA).trans h6,(hk.cell (Ah h7) hA).trans h7,(hk.cell (Ah h8) hA).trans h8,(hk.cell (Ah h9) hg).trans h9,(hk.cell (Ah h10) hg).trans h10,(hk.cell (Ah h11) hg).trans h11,(hk.cell (Ah h12) hg).trans h12,(hk.cell (Ah h13) hg).trans h13,(hk.cell (Ah h14) hg).trans h14,(hk.cell (Ah h15) hg).trans h15,(hk.cell (Ah h16) hg).trans h16,(hk.cell (Ah h17) hg).trans h17⟩
theorem Abl{g o k:Nat}{y:Stm}{v:Value}{wr:World}(y0:wr.cell? ⟨g,o+k*9,none⟩=some (.int .i64 y.cycle))(y1:wr.cell? ⟨g,o+k*9+1,none⟩=some (.int .i64 y.fr))(y2:wr.cell? ⟨g,o+k*9+2,none⟩=some (.int .i64 y.te))(y3:wr.cell? ⟨g,o+k*9+3,none⟩=some (.int .i64 y.due))(y4:wr.cell? ⟨g,o+k*9+4,none⟩=some (v))(y5:wr.cell? ⟨g,o+k*9+5,none⟩=some (.int .i64 y.total))(y6:wr.cell? ⟨g,o+k*9+6,none⟩=some (.int .i64 y.credit))(y7:wr.cell? ⟨g,o+k*9+7,none⟩=some (.int .i64 y.min))(y8:wr.cell? ⟨g,o+k*9+8,none⟩=some (.bool y.grace)):
  ∀w',Keeps (λ_=>False) wr w'->w'.cell? ⟨g,o+k*9,none⟩=some (.int .i64 y.cycle)/\w'.cell? ⟨g,o+k*9+1,none⟩=some (.int .i64 y.fr)/\w'.cell? ⟨g,o+k*9+2,none⟩=some (.int .i64 y.te)/\w'.cell? ⟨g,o+k*9+3,none⟩=some (.int .i64 y.due)/\w'.cell? ⟨g,o+k*9+4,none⟩=some (v)/\w'.cell? ⟨g,o+k*9+5,none⟩=some (.int .i64 y.total)/\w'.cell? ⟨g,o+k*9+6,none⟩=some (.int .i64 y.credit)/\w'.cell? ⟨g,o+k*9+7,none⟩=some (.int .i64 y.min)/\w'.cell? ⟨g,o+k*9+8,none⟩=some (.bool y.grace):=λw' hk=>⟨(hk.cell (Ah y0) (by simp)).trans y0,(hk.cell (Ah y1) (by simp)).trans y1,(hk.cell (Ah y2) (by simp)).trans y2,(hk.cell (Ah y3) (by simp)).trans y3,(hk.cell (Ah y4) (by simp)).trans y4,(hk.cell (Ah y5) (by simp)).trans y5,(hk.cell (Ah y6) (by simp)).trans y6,(hk.cell (Ah y7) (by simp)).trans y7,(hk.cell (Ah y8) (by simp)).trans y8⟩
theorem Pk{w:World}{base:Nat}{e:TypeId}{size:Nat}{v:Value}{n:Nat}{xs:List Value}(h:w.ownsRow base e size v n xs){g:Nat}(hv:v.ownBlock=some g):g<w.heap.size:=by
 exact j2b
theorem Uq(seq:Int)(ad1 ad2:Option Addr)(c1 c2:Nat)(L M:List SV)(w:World)(h1:Reads w 9 (.slice ad1 L.length c1) L.length (L.flatMap SV.cells))(h2:Reads w 9 (.slice ad2 M.length c2) M.length (M.flatMap SV.cells))
  (hl:L.length<=1000) (hm:M.length<=1000) (hsl:SVs w L) (hsm:SVs w M) (r:Int×List Adj) (hB:Betw seq L M r):
  Calls Tryz.prog 175 #[.int .i64 seq,.slice ad1 L.length c1,.slice ad2 M.length c2] w (BetPost w r):=by
 obtain⟨i0,hi,hi0,hi1,hi2⟩:=info_parts Gr;obtain⟨n,hn⟩:∃n,L.length=n:=⟨_,rfl⟩;obtain⟨m,hm'⟩:∃m,M.length=m:=⟨_,rfl⟩;rw [hn] at hl;rw [hm'] at hm;have heq:=λW (hW:Keeps (λ_=>False) w W)=>Yl ad1 ad2 c1 c2 L M W (h1.keeps hW (by simp)) (h2.keeps hW (by simp)) j6 j6;rw [hn] at h1;rw [hm'] at h2;rw [hn,hm'] at heq;unfold Betw at hB;rw [hn,hm'] at hB;rw [hn,hm'];rcases hB with⟨⟨hnm,hal⟩,hb⟩|⟨hal,hb⟩
 ·subst hnm;obtain⟨H1,H2,Hn,Hm',Hsl,Hsm,Heq,Hal,Hi⟩:=hid9 h1 h2 hn hm' hsl hsm heq hal hi;clear hi hal heq hsm hsl hm' hn h2 h1;obtain⟨Hi0,Hi1,Hi2⟩:=hid3 hi0 hi1 hi2;clear hi2 hi1 hi0;go_enter Tryz.func175,Tryz.ntmps175;go_wp2_with fail;refine(Heq.out _ (Keeps.refl _ _)).mono ?_;rintro e w1 ⟨b,rfl,hr,hk1⟩;obtain rfl:b=true:=hr.2 ⟨(by first|trivial|rfl),Hal.out⟩;clear hr;have Hk1:=Lib.hid hk1;clear hk1;go_wp2_with fail
  go_loopw [8,17] (λv c wr=>∃(k:Nat) (acc:List Adj) (adv:Option Addr) (cv:Nat),k<=n/\c= .int .i64 (k:Nat)/\v= .slice adv acc.length cv/\wr.ownsRow 0 90 9 (.slice adv acc.length cv) acc.length (acc.flatMap Adj.cells)/\Fresh w wr (.slice adv acc.length cv)/\acc.length<=k*1001/\Jm seq L M []=Jm seq (L.drop k) (M.drop k) acc) (λ_ c _=>n-(intOf c).toNat)
  case atStart=>exact⟨0, [],none,0,Nat.zero_le _,rfl,rfl,World.ownsRow_nil _ _ _ _,⟨Hk1.out,by simp [Value.ownBlock]⟩,Nat.zero_le _,rfl⟩
  case round=>
   obtain⟨k,acc,adv,cv,hkn,rfl,rfl,hrow,hfr,hac,hbet⟩:=hrel;obtain⟨q,hq⟩:∃q,acc.length=q:=⟨_,rfl⟩;rw [hq] at hrow hfr hac⊢;by_cases hlt:k<n
   ·obtain⟨x,hx⟩:=Aq (L:=L) (k:=k) jQ;obtain⟨y,hy⟩:=Aq (L:=M) (k:=k) (by rw [Hm'.out];exact hlt);obtain⟨g,o,c,he,hc⟩:=(H1.out.keeps hfr.1 (by simp)).elem SV.Aj hx j7;obtain⟨g',o',c',he',hc'⟩:=(H2.out.keeps hfr.1 (by simp)).elem SV.Aj hy j7;simp only [Value.slice.injEq,true_and] at he he';obtain⟨rfl,rfl⟩:=he;obtain⟨rfl,rfl⟩:=he';refine j2w ?_;intro x0 x1 x2 x3 x4 x5 x6 x7 x8;have y0:wr.cell? ⟨g',o'+k*9,none⟩=some (.int .i64 y.s.cycle):=hc' 0 j7;have y1:wr.cell? ⟨g',o'+k*9+1,none⟩=some (.int .i64 y.s.fr):=hc' 1 j7;have y2:wr.cell? ⟨g',o'+k*9+2,none⟩=some (.int .i64 y.s.te):=hc' 2 j7;have y3:wr.cell? ⟨g',o'+k*9+3,none⟩=some (.int .i64 y.s.due):=hc' 3 j7;have y4:wr.cell? ⟨g',o'+k*9+4,none⟩=some y.v:=hc' 4 j7;have y5:wr.cell? ⟨g',o'+k*9+5,none⟩=some (.int .i64 y.s.total):=hc' 5 j7;have y6:wr.cell? ⟨g',o'+k*9+6,none⟩=some (.int .i64 y.s.credit):=hc' 6 j7;have y7:wr.cell? ⟨g',o'+k*9+7,none⟩=some (.int .i64 y.s.min):=hc' 7 j7;have y8:wr.cell? ⟨g',o'+k*9+8,none⟩=some (.bool y.s.grace):=hc' 8 j7;have hgl:=Ah x0;have hgl':=Ah y0;clear hc hc';have hsx:=Hsl.out x (List.mem_of_getElem? hx);have hsy:=Hsm.out y (List.mem_of_getElem? hy);have hab:=Hal.out k x y hlt hx hy;have hdL:L.drop k=x::L.drop (k+1):=Xe hx;have hdM:M.drop k=y::M.drop (k+1):=Xe hy;rw [hdL,hdM] at hbet;have hstep:Jm seq (x::L.drop (k+1)) (y::M.drop (k+1)) acc=if x.s.Cx&&y.s.Cx then Jm seq (L.drop (k+1)) (M.drop (k+1)) (acc++Eg seq x.s y.s) else(5, []):=rfl;rw [hstep] at hbet;have hRx:=(hsx.1.keeps hfr.1 (by simp));have hRy:=(hsy.1.keeps hfr.1 (by simp));have hlx:=hsx.2;have hly:=hsy.2
    have hxy:x.s.lines.length=y.s.lines.length:=by
     simp only [Gq,Bool.and_eq_true,decide_eq_true_eq] at hab;exact hab.2
    clear hsx hsy hab hstep hdL hdM;have hkI:(k:Int)<(n:Int):=j8;obtain⟨xs,adx,cx⟩:=x;obtain⟨ys,ady,cy⟩:=y;simp only [SV.v] at x4 y4 hRx hRy hbet hlx hly hxy;obtain⟨lx,hlx'⟩:∃l,xs.lines.length=l:=⟨_,rfl⟩;rcases nx:xs.Cx with _|_
    ·rw [nx] at hbet;have hbet':r=(5, []):=by rw [hb];exact hbet
     subst hbet';obtain⟨Hx,Hy,Hrow,Hfr,Hq,Hbet,HRx,HRy,Nx⟩:=hid9 hx hy hrow hfr hq hbet hRx hRy nx;clear nx hRy hRx hbet hq hfr hrow hy hx;obtain⟨Hxy,Hb,Hlx'⟩:=hid3 hxy hb hlx';clear hlx' hb hxy
     go_wp2_with (go_at_call 211;((with_reducible refine(Et xs _ _ (HRx.out.keeps (S:=λ_=>False) jf (by simp)) hlx Nx.out).mono ?_);rintro e w3 ⟨rfl,hk3⟩;have Hk3:=Lib.hid hk3;clear hk3))
     go_ret2
     exact⟨_,rfl,World.ownsRow_nil _ _ _ _,(Hfr.out.1.Bw jf).Bw Hk3.out,by simp [Value.ownBlock]⟩
    ·rcases ny:ys.Cx with _|_
     ·rw [nx,ny] at hbet;have hbet':r=(5, []):=by rw [hb];exact hbet
      subst hbet';have hyc:=Abl y0 y1 y2 y3 y4 y5 y6 y7 y8;obtain⟨Hx,Hy,Hrow,Hfr,Hq,Hbet,HRx,HRy,Nx⟩:=hid9 hx hy hrow hfr hq hbet hRx hRy nx;clear nx hRy hRx hbet hq hfr hrow hy hx;obtain⟨Ny,Hxy,Hb,Hlx',Hyc⟩:=hid5 ny hxy hb hlx' hyc;clear hyc hlx' hb hxy ny
      go_wp2_with (go_at_call 211;((with_reducible refine(Et xs _ _ (HRx.out.keeps (S:=λ_=>False) jf (by simp)) hlx Nx.out).mono ?_);rintro e w3 ⟨rfl,hk3⟩;have Hk3:=Lib.hid hk3;clear hk3;obtain⟨z0,z1,z2,z3,z4,z5,z6,z7,z8⟩:=Hyc.out _ (Keeps.Bw jf Hk3.out)))
      go_wp2_with (go_at_call 211;((with_reducible refine(Et ys _ _ (HRy.out.keeps (S:=λ_=>False) (Keeps.Bw jf Hk3.out) (by simp)) hly Ny.out).mono ?_);rintro e w4 ⟨rfl,hk4⟩;have Hk4:=Lib.hid hk4;clear hk4))
      go_ret2
      exact⟨_,rfl,World.ownsRow_nil _ _ _ _,((Hfr.out.1.Bw jf).Bw Hk3.out).Bw Hk4.out,by simp [Value.ownBlock]⟩
     ·rw [nx,ny] at hbet;have hbet':r=Jm seq (L.drop (k+1)) (M.drop (k+1)) (acc++Eg seq xs ys):=by rw [hb];exact hbet
      have hyc:=Abl y0 y1 y2 y3 y4 y5 y6 y7 y8;have hbox:=heap_alloc_new wr (.cells #[.int .i64 xs.cycle,.int .i64 xs.fr,.int .i64 xs.te,.int .i64 xs.due,.slice adx xs.lines.length cx,.int .i64 xs.total,.int .i64 xs.credit,.int .i64 xs.min,.bool xs.grace] 60);have hown0:∀i,(Value.slice adv q cv).ownBlock=some i->i<wr.heap.size/\w.heap.size<=i:=λi e=>⟨Pk hrow e,hfr.2 i e⟩
      have hg0:g'<w.heap.size:=by
       obtain⟨i,e,hi⟩:=H2.out.lt (by intro e;have:=Cm SV.Aj M;rw [e,Hm'.out] at this;simp at this;omega);simp only [Value.ownBlock,Option.some.injEq] at e;omega
      obtain⟨Hx,Hy,Hrow,Hfr,Hq,Hbet,Hbet',HRx,HRy⟩:=hid9 hx hy hrow hfr hq hbet hbet' hRx hRy;clear hRy hRx hbet' hbet hq hfr hrow hy hx;obtain⟨Nx,Ny,Hxy,Hb,Hlx',Hyc,Hbox,Hown0⟩:=hid8 nx ny hxy hb hlx' hyc hbox hown0;clear hown0 hbox hyc hlx' hb hxy ny nx
      go_wp2_with (go_at_call 211;((with_reducible refine(Et xs _ _ (HRx.out.keeps (S:=λ_=>False) jf (by simp)) hlx Nx.out).mono ?_);rintro e w3 ⟨rfl,hk3⟩;have Hk3:=Lib.hid hk3;clear hk3;obtain⟨z0,z1,z2,z3,z4,z5,z6,z7,z8⟩:=Hyc.out _ (Keeps.Bw jf Hk3.out)))
      go_wp2_with (go_at_call 211;((with_reducible refine(Et ys _ _ (HRy.out.keeps (S:=λ_=>False) (Keeps.Bw jf Hk3.out) (by simp)) hly Ny.out).mono ?_);rintro e w4 ⟨rfl,hk4⟩;have Hk4:=Lib.hid hk4;clear hk4))
      have hkA:Keeps (λ_=>False) wr w4:=(Keeps.Bw jf Hk3.out).Bw Hk4.out
      have hs4:bwS wr.heap.size g' o' k xs ys (.slice adx xs.lines.length cx) (.slice ady ys.lines.length cy) w4:=by
       have hb4:=Ad (Ad Hbox.out Hk3.out (by simp)) Hk4.out (by simp);obtain⟨t0,t1,t2,t3,t4,t5,t6,t7,t8⟩:=Hyc.out _ hkA;exact⟨Aa hb4 0,Aa hb4 1,Aa hb4 2,Aa hb4 3,Aa hb4 4,Aa hb4 5,Aa hb4 6,Aa hb4 7,Aa hb4 8,t0,t1,t2,t3,t4,t5,t6,t7,t8⟩
      obtain⟨HkA,Hs4⟩:=hid2 hkA hs4;clear hs4 hkA;clear z0 z1 z2 z3 z4 z5 z6 z7 z8 y0 y1 y2 y3 y4 y5 y6 y7 y8 x0 x1 x2 x3 x4 x5 x6 x7 x8;refine Al (bwS wr.heap.size g' o' k xs ys (.slice adx xs.lines.length cx) (.slice ady ys.lines.length cy)) (.take 0 (.take 1 (.take 2 (.take 3 (.take 4 (.take 5 (.take 6 (.move 7 (.move 8 (.take 9 .done)))))))))) j9 j9 ?_ ?_
      ·exact Hs4.out.keep (Keeps.drew _)
      intro w5 hs5 hk5;have hkB:Keeps (λ_=>False) wr w5:=HkA.out.Bw hk5;obtain⟨Hs5,HkB⟩:=hid2 hs5 hkB;clear hkB hs5;clear hk5;refine j1d ?_;refine jc ?_;intro K hK
      go_at_call 212
      ((with_reducible refine(adjOne_at seq xs ys _ _ _ (HRx.out.keeps HkB.out (by simp)) (HRy.out.keeps HkB.out (by simp)) Hxy.out hlx Nx.out Ny.out).mono ?_);rintro e w6 ⟨v6,rfl,hrow6,hfr6⟩;dsimp only)
      refine hK.out _ _ (by exact Hs5.out.keep hfr6.1) ?_;clear hK K;refine ja ?_;obtain⟨Hrow6,Hfr6⟩:=hid2 hrow6 hfr6;clear hfr6 hrow6;refine j1d ?_;have hol:=Wq seq xs ys;obtain⟨ad6,c6,rfl,_,_⟩:=Ae Hrow6.out;refine Ag rfl (λK hK=> ?_);refine Bv rfl (.tmp 33) (.tmp 40) 85 rfl 0 90 i0 _ 9 72 Tryz.underlying85 Hi.out Hi0.out Hi1.out Hi2.out rfl j7 (.slice adv q cv) q _ rfl ((Hrow.out.of_keeps HkB.out).of_keeps Hfr6.out.1) _ _ _ rfl (Reads.Az Hrow6.out) (Adj.one _) jd j6 (Nat.zero_le _) ?_;intro v7 w7 hown hk7 hf7;have hk7':Keeps (λi=>(Value.slice adv q cv).ownBlock=some i) wr w7:=(HkB.out.trans (Hfr6.out.1.mono (by simp))).mono (λ_ _ h=>h.elim)|>.trans (hk7.mono λi _ e=> .inl e)
      refine hK.out _ _ (by exact(Hs5.out.keep Hfr6.out.1).keep2 hk7 (λe=>by have:=(Hown0.out _ e).1;omega) (λe=>by have:=(Hown0.out _ e).2;omega)) ?_;clear hK K;refine ja ?_
      have hfr7:Fresh w w7 v7:=by
       refine⟨Hfr.out.1.trans (hk7'.mono λi _ e=> .inr (Hown0.out i e).2),λi e=> ?_⟩;rcases hf7 with e'|⟨i',e',h'⟩
       ·exact(Hown0.out i (by rw [<-e'];exact e)).2
       ·rw [e'] at e;simp only [Option.some.injEq] at e;have:=Hfr.out.1.size;have:=HkB.out.size;have:=Hfr6.out.1.size;omega
      obtain⟨ad7,c7,rfl,_,_⟩:=Ae hown
      have hown':w7.ownsRow 0 90 9 (.slice ad7 (acc++Eg seq xs ys).length c7) (acc++Eg seq xs ys).length ((acc++Eg seq xs ys).flatMap Adj.cells):=by
       simp only [List.length_append,Hq.out,List.flatMap_append];exact hown
      have hlen:(acc++Eg seq xs ys).length=q+(Eg seq xs ys).length:=by rw [List.length_append,Hq.out]
      rw [<-hlen] at hfr7⊢;obtain⟨Hfr7,Hown',Hlen⟩:=hid3 hfr7 hown' hlen;clear hlen hown' hfr7;clear hk7' hf7 hown hk7;refine j1d ?_;refine Ap ?_;go_wp2_with fail;go_roundw
      case rel=>exact⟨k+1,acc++Eg seq xs ys,ad7,c7,by omega,by go_num,by simp,Hown'.out,Hfr7.out,by rw [Hlen.out];omega,by rw [<-Hb.out];exact Hbet'.out⟩
      case measure=>simp [intOf];omega
   ·obtain rfl:k=n:=by omega
    have hr0:r=(0,acc):=by
     rw [hb,hbet,List.drop_eq_nil_of_le j1e];rfl
    subst hr0;obtain⟨Hrow,Hfr,Hq,Hbet,Hb⟩:=hid5 hrow hfr hq hbet hb;clear hb hbet hq hfr hrow;go_wp2_with fail
    go_ret2
    exact⟨_,rfl,by rw [Hq.out];exact Hrow.out,Hfr.out⟩
 ·subst hb;obtain⟨H1,H2,Hn,Hm',Hsl,Hsm,Heq,Hal,Hi⟩:=hid9 h1 h2 hn hm' hsl hsm heq hal hi;clear hi hal heq hsm hsl hm' hn h2 h1;obtain⟨Hi0,Hi1,Hi2⟩:=hid3 hi0 hi1 hi2;clear hi2 hi1 hi0;go_enter Tryz.func175,Tryz.ntmps175;go_wp2_with fail;refine(Heq.out _ (Keeps.refl _ _)).mono ?_;rintro e w1 ⟨b,rfl,hr,hk1⟩
  obtain rfl:b=false:=by
   cases b with
   |false=>rfl
   |true=>exact absurd (hr.1 rfl) Hal.out
  clear hr;have Hk1:=Lib.hid hk1;clear hk1;go_wp2_with fail
  go_ret2
  exact⟨_,rfl,World.ownsRow_nil _ _ _ _,Hk1.out,by simp [Value.ownBlock]⟩
structure Ps where
 bal:List Int
 cr:Int
 du:Int
def Ps.val(p:Ps)(v:Value):Value:= .agg #[v,.int .i64 p.cr,.int .i64 p.du]
def sumI:List Int->Int
 | []=>0
 |x::L=>x+sumI L
theorem Zr(A B:List Int):sumI (A++B)=sumI A+sumI B:=by
 induction A with
 |nil=>simp [sumI]
 |cons x A ih=>simp only [List.cons_append,sumI,ih];omega
theorem sumI_snoc{L:List Int}{k:Nat}{x:Int}(h:L[k]?=some x):sumI (L.take (k+1))=sumI (L.take k)+x:=by rw [take_snoc' h,Zr];simp [sumI]
theorem Qy{L:List Int}(h:L.all Br=true):0<=sumI L:=by
 induction L with
 |nil=>exact Int.le_refl _
 |cons x L ih=>
  simp only [List.all_cons,Bool.and_eq_true] at h;have:=ih h.2;have:=(Bi x).1 h.1;simp only [sumI];omega
def scanB(L:List Int):Bool:=L.all Br&&Br (sumI L)
theorem scan_bad1{L:List Int}{k:Nat}{x:Int}(h:L[k]?=some x)(hx:Br x=false):scanB L=false:=by
 have:L.all Br=false:=by
  rw [Bool.eq_false_iff];intro hh;have:=List.all_eq_true.1 hh x (List.mem_of_getElem? h);rw [hx] at this;cases this
 unfold scanB;rw [this];rfl
theorem scan_bad2{L:List Int}{k:Nat}(hk:1000000000000000<sumI (L.take k)):scanB L=false:=by
 rcases ha:L.all Br with _|_
 ·unfold scanB;rw [ha];rfl
 ·have hd:(L.drop k).all Br=true:=List.all_eq_true.2 λx hx=>List.all_eq_true.1 ha x (List.mem_of_mem_drop hx);have h1:=Qy hd;have h2:sumI L=sumI (L.take k)+sumI (L.drop k):=by rw [<-Zr,List.take_append_drop]
  unfold scanB;rw [show Br (sumI L)=false by simp [Br];omega];simp
def Ps.Bg(p:Ps):Bool:=scanB p.bal&&(decide (1<=p.bal.length)&&(decide (p.bal.length<=8)&&(Br p.cr&&(Br p.du&&(decide (p.cr=0)||decide (sumI p.bal=0))))))
theorem Aaa(v:Int)(w:World):Calls Tryz.prog 241 #[.int .i64 v] w λe w'=>e= .returned (.bool (Br v))/\w=w':=by
 by_cases h1:v<0
 ·have hf:Br v=false:=by simp [Br];omega
  have h1':¬0<=v:=j8;exact j1f
 ·by_cases h2:1000000000000000<v
  ·have hf:Br v=false:=by simp [Br];omega
   have hd:decide (v<=1000000000000000)=false:=by rw [decide_eq_false_iff_not];omega
   have h1':0<=v:=j8;exact j1f
  ·have hf:Br v=true:=by simp [Br];omega
   have h1':0<=v:=j8;exact j1f
theorem Ca{v:Int}{b:Bool}(h:Br v=b)(w:World):Calls Tryz.prog 241 #[.int .i64 v] w λe w'=>e= .returned (.bool b)/\w=w':=by subst h;exact Aaa v w
end Go.Proofs.YtgbgmadkmabeeaaGreat
