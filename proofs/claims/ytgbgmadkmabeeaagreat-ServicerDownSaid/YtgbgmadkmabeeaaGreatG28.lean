/- Part 28 of what the laws of this seat share: walks of functions, and plain laws. -/
import Derived.Test.YtgbgmadkmabeeaaGreatG27
set_option maxRecDepth 100000
set_option maxHeartbeats 6400000
namespace Go.Proofs.YtgbgmadkmabeeaaGreat
open Go.RowKit
theorem AcAt.build{w W:World}{B:Nat}{x x':AcV}{a a':Ac}(h:AcAt w B x a)(M:Nat)(hM:w.heap.size<=M)(hk:Keeps (AcF B x) w W)(hvt:x'.vt=x.vt)(ht:a'.t=a.t)
  (blk:W.heap[B]?=some (.cells (x'.blk a') 136 (0,0))) (dl:DL W x'.bl a.t x'.vtl a'.L x'.vl) (bk:Cr W x'.bb x'.vb a'.D)
  (bal:W.ownsRow 0 2 1 x'.vp a'.s.p.bal.length (a'.s.p.bal.flatMap i64c)) (rts:W.ownsRow 0 2 1 x'.vr a'.s.R.length (a'.s.R.flatMap i64c))
  (now:W.ownsRow 0 60 9 x'.vn x'.P.length (x'.P.flatMap SV.cells)) (nln:∀y∈x'.P,W.ownsRow 0 160 3 y.v y.s.lines.length (y.s.lines.flatMap Ln.cells)) (ns:x'.P.map SV.s=a'.s.out)
  (iss:W.ownsRow 0 60 9 x'.vi x'.I.length (x'.I.flatMap SV.cells)) (iln:∀y∈x'.I,W.ownsRow 0 160 3 y.v y.s.lines.length (y.s.lines.flatMap Ln.cells)) (is:x'.I.map SV.s=a'.iss)
  (adj:W.ownsRow 0 90 9 x'.va a'.adj.length (a'.adj.flatMap Adj.cells)) (ok:AcOk a')
  (hrd:∀b,x'.rd b->x.rd b\/(w.heap.size<=b/\b<M)) (haf:∀b,AcF B x' b->AcF B x b\/M<=b):
  AcAt W B x' a'/\(∀b,AcF B x' b->AcF B x b\/w.heap.size<=b)/\(∀b,x'.rd b->x.rd b\/w.heap.size<=b):=by
 refine⟨⟨blk, ?_,by rw [ht];exact dl,bk,bal,rts,now,nln,ns,iss,iln,is,adj,ok, ?_, ?_, ?_⟩,λb hb=>(haf b hb).imp id λh2=>by omega,λb hb=>(hrd b hb).imp id λh2=>h2.1⟩
 ·rw [hvt,ht];exact hk.row h.trs λb hb=>h.sep b (.inl hb)
 ·intro b hb hF;rcases hrd b hb with h1|⟨h1,h2⟩
  ·rcases haf b hF with h3|h3
   ·exact h.sep b h1 h3
   ·have:=h.lt b (.inr h1);omega
  ·rcases haf b hF with h3|h3
   ·have:=h.lt b (.inl h3);omega
   ·omega
 ·rintro b hb (rfl|hb2)
  ·exact Ai iss blk j7 hb
  ·exact Ef iss adj j7 hb hb2
 ·rintro b hb rfl;exact Ai adj blk j7 hb
def Bv(w:World)(B:Nat)(x:AcV)(a':Ac)(W:World):Prop:=∃x',AcAt W B x' a'/\Keeps (AcF B x) w W/\(∀b,AcF B x' b->AcF B x b\/w.heap.size<=b)/\(∀b,x'.rd b->x.rd b\/w.heap.size<=b)
theorem Bv.same{w W:World}{B:Nat}{x:AcV}{a:Ac}(h:AcAt w B x a)(hk:K0 w W):Bv w B x a W:=⟨x,h.keep0 hk,hk.mono (by simp),λ_ hb=> .inl hb,λ_ hb=> .inl hb⟩
def Le(w:World)(b:Nat)(v:Value)(D:List Disp)(W:World):Prop:=∃v',Cr W b v' D/\Keeps (Foot b v) w W/\∀k,Foot b v' k->Foot b v k\/w.heap.size<=k
def Wd(w:World)(b:Nat)(v:Value)(D:List Disp)(x:Ev)(z:Int)(e:Ending)(w':World):Prop:=
 e= .returned (.tuple #[.agg #[.int .i64 x.kind,.int .i64 x.day,.int .i64 x.tranche,.int .i64 x.amount,.int .i64 x.ref],.int .i64 z])/\Le w b v D w'
theorem Br:(Tryz.prog.info? 96).map (·.size)=some 5:=by kernel_rfl
theorem Dt(a b c d e:Int):(#[.int .i64 a,.int .i64 b,.int .i64 c,.int .i64 d,.int .i64 e]:Array Value).all (·.oneCell')=true:=by simp [Value.oneCell']
theorem Le.put{w w0 w1 W:World}{b R:Nat}{v v':Value}{D D':List Disp}{V:Array Value}(hb:Cr w b v D)(hk0:K0 w w0)(hb1:Cr w1 b v' D')(hk1:Keeps (Foot b v) w0 w1)(hf:∀k,Foot b v' k->Foot b v k\/w0.heap.size<=k)
  (hk:K0 w1 W) (hR:w.heap.size<=R) (hR2:R<w0.heap.size):Le w b v D' (W.setRow R V):=by
 have hs:=hk0.size;refine⟨v',(hb1.keeps hk (by simp)).keeps (Cc W R V) λk h e=> ?_,((hk0.mono (by simp)).trans ((hk1.mono λi _ e=> .inl e).trans ((hk.mono (by simp)).trans ((Cc W R V).mono λi _ e=> .inl (.inl (.inr ?_)))))),λk h=>(hf k h).imp id j6⟩
 ·have e':k=R:=e;rcases hf k h with h|h
  ·have:=hb.lt k h;omega
  ·omega
 ·have e':i=R:=e;omega
theorem Ac.de_bad{a:Ac}{c:Cmd}(h:¬Cv a.D c.ref=0):a.de c=Cv a.D c.ref/\a.dvt c=ev00:=by
 have h1:a.de c=Cv a.D c.ref:=by unfold Ac.de;rw [if_pos h]
 exact⟨h1,by unfold Ac.dvt;rw [h1,if_pos (.inl h)]⟩
theorem Ac.de_won{a:Ac}{c:Cmd}(h:Cv a.D c.ref=0)(hk:c.kind=6):a.de c=0/\a.dvt c=ev00:=by
 have h1:a.de c=0:=by unfold Ac.de;rw [if_neg j6,if_pos hk]
 exact⟨h1,by unfold Ac.dvt;rw [if_pos (.inr hk)]⟩
theorem Ac.de_old{a:Ac}{c:Cmd}(h:Cv a.D c.ref=0)(hk:c.kind=5)(ho:a.oldB (Ec a.D c.ref true).day=true):a.de c=11/\a.dvt c=ev00:=by
 have h1:a.de c=11:=by unfold Ac.de;rw [if_neg j6,if_neg j6,hk];exact if_pos ho
 exact⟨h1,by unfold Ac.dvt;rw [h1,if_pos (.inl j7)]⟩
theorem Ac.de_lost{a:Ac}{c:Cmd}(h:Cv a.D c.ref=0)(hk:c.kind=5)(ho:a.oldB (Ec a.D c.ref true).day=false):a.de c=0/\a.dvt c=⟨5,(Ec a.D c.ref true).day,(Ec a.D c.ref true).tranche,(Ec a.D c.ref true).amount,(Ec a.D c.ref true).ref⟩:=by
 have h1:a.de c=0:=by unfold Ac.de;rw [if_neg j6,if_neg j6,hk];exact if_neg (by rw [show((5:Int)==5)=true from rfl,ho];decide)
 exact⟨h1,by unfold Ac.dvt;rw [h1,hk];rfl⟩
theorem Aac(B:Nat)(x:AcV)(a:Ac)(c:Cmd)(b:Nat)(v:Value)(w:World)(h:AcAt w B x a)(hb:Cr w b v a.D)(hsep:∀k,Foot b v k->¬(AcF B x k\/x.rd k))(hk:c.kind=5\/c.kind=6):
  Calls Tryz.prog 135 #[(.pointer (some ⟨B,0,none⟩)),.agg #[.int .i64 c.kind,.int .i64 c.day,.int .i64 c.tranche,.int .i64 c.amount,.int .i64 c.ref],(.pointer (some ⟨b,0,none⟩))] w (Wd w b v (dEnd a.D c.ref (c.kind==5)) (a.dvt c) (a.de c)):=by
 have hde1:= @Ac.de_bad a c;have hde2:= @Ac.de_won a c;have hde3:= @Ac.de_old a c;have hde4:= @Ac.de_lost a c;obtain⟨ki,da,tr,am,re⟩:=c;simp only at hk hde1 hde2 hde3 hde4⊢;refine j4g ?_;intro W0 hW0;have hc0:W0.heap[w.heap.size]?=some (.cells #[.int .i64 ki,.int .i64 da,.int .i64 tr,.int .i64 am,.int .i64 re] 23 (0,0)):=by rw [hW0];exact Aq (heap_alloc_new w _) _
 have hr0:W0.heap[w.heap.size+1]?=some (.cells #[.int .i64 0,.int .i64 0,.int .i64 0,.int .i64 0,.int .i64 0] 96 (0,0)):=by rw [hW0];exact Av _ _ (by simp)
 have hk0:K0 w W0:=by rw [hW0];(repeat (first|exact Keeps.refl _ _|exact Keeps.alloc _ _|exact Keeps.drew _|exact Keeps.drewN _ _|refine Keeps.Am ?_|refine Keeps.Al ?_|refine Keeps.Af ?_))
 have hs0:w.heap.size+1<W0.heap.size:=lt_of_block hr0;obtain⟨Hde1,Hde2,Hde3,Hde4⟩:=hid4 hde1 hde2 hde3 hde4;clear hde4 hde3 hde2 hde1;rcases hk with rfl|rfl
 ·skip
  have hen:=fun(W:World) (hW:K0 w W)=>Rz re true a.D v b W (hb.keeps hW (by simp));obtain⟨⟨dr,dt,dd,da2,ds⟩,hd⟩:=eX (Ec a.D re true);obtain⟨z,hz⟩:=eX (Cv a.D re);rw [hd,hz] at hen;simp only [Disp.val] at hen;obtain⟨H,Hb,Hen,Hc0,Hr0,Hk0,Hd,Hz,Hsep⟩:=hid9 h hb hen hc0 hr0 hk0 hd hz hsep;clear hsep hz hd hk0 hr0 hc0 hen hb h;go_enter Tryz.func135,Tryz.ntmps135;go_wp2_with fail;rw [<-hW0];clear hW0;refine(Hen.o W0 Hk0.o).mono ?_;rintro e w1 ⟨rfl,v1,hb1,hk1,hf1⟩;refine j4h ?_;intro hAt hRl hc1 hr1 c0 cl;by_cases hz0:z=0
  ·subst hz0;obtain⟨W2,hW2⟩:=eY (w1.alloc (.cells #[.int .i64 dr,.int .i64 dt,.int .i64 dd,.int .i64 da2,.int .i64 ds] 132));have hk2:K0 w1 W2:=by rw [hW2];exact Keeps.alloc _ _
   have hx2:W2.heap[w1.heap.size]?=some (.cells #[.int .i64 dr,.int .i64 dt,.int .i64 dd,.int .i64 da2,.int .i64 ds] 132 (0,0)):=by rw [hW2];exact heap_alloc_new _ _
   have hol:=Vt B x a dd W2 (hAt.keep0 hk2);have d3:=Hde3.o Hz.o trivial;have d4:=Hde4.o Hz.o trivial;rw [Hd.o] at d3 d4;simp only at d3 d4;obtain⟨o,ho⟩:=eX (a.oldB dd);rw [ho] at hol d3 d4;obtain⟨Hb1,Hk1,Hf1,HAt,Hc1,Hr1,Hk2,Hx2,Hol⟩:=hid9 hb1 hk1 hf1 hAt hc1 hr1 hk2 hx2 hol;clear hol hx2 hk2 hr1 hc1 hAt hf1 hk1 hb1;obtain⟨D3,D4,Ho⟩:=hid3 d3 d4 ho;clear ho d4 d3;go_wp2_with fail;rw [<-hW2];clear hW2;refine Hol.o.mono ?_;rintro e w3 ⟨rfl,hk3⟩;have hr3:=Ad (Ad Hr1.o Hk2.o (by simp)) hk3 (by simp);have hpo:=λV=>Le.put (V:=V) Hb.o Hk0.o Hb1.o Hk1.o Hf1.o (Hk2.o.nt hk3) (R:=w.heap.size+1) (Nat.le_succ _) hs0;have hx3:=Ad Hx2.o hk3 (by simp);have x0:=Aa hx3 0;have x1:=Aa hx3 1;have x2:=Aa hx3 2;have x3:=Aa hx3 3;have xl:=lt_of_block hx3;clear hk3;obtain⟨Hr3,Hpo,Hx3⟩:=hid3 hr3 hpo hx3;clear hx3 hpo hr3;rcases o with _|_
   ·have hend:=D4.o rfl;have Hend:=Lib.hid hend;clear hend;have hsr:=setRow_heap _ (w.heap.size+1) #[.int .i64 0,.int .i64 0,.int .i64 0,.int .i64 0,.int .i64 0] #[.int .i64 5,.int .i64 dd,.int .i64 dt,.int .i64 da2,.int .i64 dr] 96 _ Hr3.o;refine jF ?_;intro sr0 sr1 sr2 sr3 sr4;obtain⟨Hsr,Sr0,Sr1,Sr2,Sr3,Sr4⟩:=hid6 hsr sr0 sr1 sr2 sr3 sr4;clear sr4 sr3 sr2 sr1 sr0 hsr
    go_wp2_with (refine wpList_store_row rfl 96 (.tmp 6) (.tmp 44) rfl (w.heap.size+1) #[.int .i64 5,.int .i64 dd,.int .i64 dt,.int .i64 da2,.int .i64 dr] rfl rfl 96 #[.int .i64 0,.int .i64 0,.int .i64 0,.int .i64 0,.int .i64 0] Hr3.o Br rfl (Dt _ _ _ _ _) ?_)
    refine jq ?_;intro R0' R1' R2' R3' R4';exact bodyPost_ret (v:= .tuple #[.agg #[.int .i64 5,.int .i64 dd,.int .i64 dt,.int .i64 da2,.int .i64 dr],.int .i64 0]) j0U rfl ⟨by rw [Hend.o.1,Hend.o.2],Hpo.o _⟩
   ·have hend:=D3.o rfl;have Hend:=Lib.hid hend;clear hend;have hsr:=setRow_heap _ (w.heap.size+1) #[.int .i64 0,.int .i64 0,.int .i64 0,.int .i64 0,.int .i64 0] #[.int .i64 0,.int .i64 0,.int .i64 0,.int .i64 0,.int .i64 0] 96 _ Hr3.o;refine jF ?_;intro sr0 sr1 sr2 sr3 sr4;obtain⟨Hsr,Sr0,Sr1,Sr2,Sr3,Sr4⟩:=hid6 hsr sr0 sr1 sr2 sr3 sr4;clear sr4 sr3 sr2 sr1 sr0 hsr
    go_wp2_with (refine wpList_store_row rfl 96 (.tmp 6) (.tmp 35) rfl (w.heap.size+1) #[.int .i64 0,.int .i64 0,.int .i64 0,.int .i64 0,.int .i64 0] rfl rfl 96 #[.int .i64 0,.int .i64 0,.int .i64 0,.int .i64 0,.int .i64 0] Hr3.o Br rfl (Dt _ _ _ _ _) ?_)
    refine jq ?_;intro R0' R1' R2' R3' R4';exact bodyPost_ret (v:= .tuple #[.agg #[.int .i64 0,.int .i64 0,.int .i64 0,.int .i64 0,.int .i64 0],.int .i64 11]) j0U rfl ⟨by rw [Hend.o.1,Hend.o.2];rfl,Hpo.o _⟩
  ·exact j4i
 ·skip
  have hen:=fun(W:World) (hW:K0 w W)=>Rz re false a.D v b W (hb.keeps hW (by simp));obtain⟨⟨dr,dt,dd,da2,ds⟩,hd⟩:=eX (Ec a.D re false);obtain⟨z,hz⟩:=eX (Cv a.D re);rw [hd,hz] at hen;simp only [Disp.val] at hen;obtain⟨H,Hb,Hen,Hc0,Hr0,Hk0,Hd,Hz,Hsep⟩:=hid9 h hb hen hc0 hr0 hk0 hd hz hsep;clear hsep hz hd hk0 hr0 hc0 hen hb h;go_enter Tryz.func135,Tryz.ntmps135;go_wp2_with fail;rw [<-hW0];clear hW0;refine(Hen.o W0 Hk0.o).mono ?_;rintro e w1 ⟨rfl,v1,hb1,hk1,hf1⟩;refine j4h ?_;intro hAt hRl hc1 hr1 c0 cl;by_cases hz0:z=0
  ·subst hz0;have hend:=Hde2.o Hz.o trivial;refine j4j ?_;intro hr2 hpo;clear hb1 hk1 hf1 hAt;obtain⟨Hc1,Hr1,Hr2,Hpo,Hend⟩:=hid5 hc1 hr1 hr2 hpo hend;clear hend hpo hr2 hr1 hc1;refine j4k ?_;intro Hsr Sr0 Sr1 Sr2 Sr3 Sr4
   go_wp2_with (refine wpList_store_row rfl 96 (.tmp 6) (.tmp 29) rfl (w.heap.size+1) #[.int .i64 0,.int .i64 0,.int .i64 0,.int .i64 0,.int .i64 0] rfl rfl 96 #[.int .i64 0,.int .i64 0,.int .i64 0,.int .i64 0,.int .i64 0] Hr2.o Br rfl (Dt _ _ _ _ _) ?_)
   refine jq ?_;intro R0' R1' R2' R3' R4';exact bodyPost_ret (v:= .tuple #[.agg #[.int .i64 0,.int .i64 0,.int .i64 0,.int .i64 0,.int .i64 0],.int .i64 0]) j0U rfl ⟨by rw [Hend.o.1,Hend.o.2];rfl,Hpo.o _⟩
  ·exact j4i
theorem Ac.Jz{a:Ac}{c:Cmd}{z:Int}(h:a.ee c=z)(hz:z≠0):a.evt c=ev00/\a.eD c=a.D:=
 ⟨by unfold Ac.evt;rw [h,if_pos hz],by unfold Ac.eD;rw [if_neg λe=>hz (by rw [<-h];exact e.2)]⟩
theorem Ac.Vf{a:Ac}{c:Cmd}(h:a.ee c=0):a.evt c=⟨if c.kind=7 then 6 else c.kind,if c.kind=3 then c.day else a.today,if c.kind=2 then 0 else c.tranche,c.amount,if c.kind=4 then Fv a.D c.tranche c.amount else 0⟩:=by
 unfold Ac.evt;rw [h,if_neg j7]
theorem Ac.eD_no{a:Ac}{c:Cmd}(h:c.kind≠4):a.eD c=a.D:=by unfold Ac.eD;rw [if_neg λe=>h e.1]
theorem Ac.eD_yes{a:Ac}{c:Cmd}(h:a.ee c=0)(hk:c.kind=4):a.eD c=dOpen a.D c.tranche a.today c.amount:=by unfold Ac.eD;rw [if_pos ⟨hk,h⟩]
theorem Ac.ee_tr{a:Ac}{c:Cmd}(h:¬c.kind=2)(ht:¬(1<=c.tranche/\c.tranche<=a.t.trs.length)):a.ee c=7:=by unfold Ac.ee;rw [if_pos ⟨h,ht⟩]
theorem Ac.Lj{a:Ac}{c:Cmd}(ht:c.kind=2\/(1<=c.tranche/\c.tranche<=a.t.trs.length))(h:(c.kind=7/\(c.amount<0\/10000000<c.amount))\/(¬c.kind=7/\(c.amount<1\/1000000000000000<c.amount))):a.ee c=8:=by
 unfold Ac.ee;rw [if_neg λe=>ht.elim e.1 e.2,if_pos h]
theorem Ac.ee_in{a:Ac}{c:Cmd}(ht:c.kind=2\/(1<=c.tranche/\c.tranche<=a.t.trs.length))(h:(c.kind=7/\0<=c.amount/\c.amount<=10000000)\/(¬c.kind=7/\1<=c.amount/\c.amount<=1000000000000000)):
  a.ee c=if c.kind=1 then(if a.t.limit<a.owes+c.amount then 9 else 0)
   else if c.kind=3 then(if c.day<a.t.start\/a.today<c.day then 10 else if a.oldB c.day=true then 11 else 0)
   else if c.kind=4 then(if a.s.p.bal.getD (c.tranche-1).toNat 0<c.amount then 9 else Dv a.D c.tranche c.amount) else 0:=by
 unfold Ac.ee;rw [if_neg λe=>ht.elim e.1 e.2,if_neg j6]
theorem ps_nums{p:Ps}(h:p.Bj=true):(0<=sumI p.bal/\sumI p.bal<=1000000000000000)/\(0<=p.cr/\p.cr<=1000000000000000)/\∀x∈p.bal,0<=x/\x<=1000000000000000:=by
 simp only [Ps.Bj,scanB,Bt,Bool.and_eq_true,decide_eq_true_eq,List.all_eq_true] at h;exact⟨h.1.2,h.2.2.2.1,h.1.1⟩
def evtS(B C:Nat)(td am:Int)(w:World):Prop:=w.cell? ⟨B,7,none⟩=some (.int .i64 td)/\w.cell? ⟨C,3,none⟩=some (.int .i64 am)
theorem evtS.keep{B C:Nat}{td am:Int}{w w':World}(h:evtS B C td am w)(hk:K0 w w'):evtS B C td am w':=⟨(hk.cell (Ag h.1) (by simp)).trans h.1,(hk.cell (Ag h.2) (by simp)).trans h.2⟩
def drwS(B C:Nat)(vp:Value)(cr du lim am:Int)(w:World):Prop:=w.cell? ⟨B,11,none⟩=some vp/\w.cell? ⟨B,12,none⟩=some (.int .i64 cr)/\w.cell? ⟨B,13,none⟩=some (.int .i64 du)/\w.cell? ⟨B,0,none⟩=some (.int .i64 lim)/\w.cell? ⟨C,3,none⟩=some (.int .i64 am)
theorem drwS.keep{B C:Nat}{vp:Value}{cr du lim am:Int}{w w':World}(h:drwS B C vp cr du lim am w)(hk:K0 w w'):drwS B C vp cr du lim am w':=by
 exact j4l
def rfdS(B C:Nat)(da st td:Int)(w:World):Prop:=w.cell? ⟨C,1,none⟩=some (.int .i64 da)/\w.cell? ⟨B,6,none⟩=some (.int .i64 st)/\w.cell? ⟨B,7,none⟩=some (.int .i64 td)
theorem rfdS.keep{B C:Nat}{da st td:Int}{w w':World}(h:rfdS B C da st td w)(hk:K0 w w'):rfdS B C da st td w':=⟨(hk.cell (Ag h.1) (by simp)).trans h.1,(hk.cell (Ag h.2.1) (by simp)).trans h.2.1,(hk.cell (Ag h.2.2) (by simp)).trans h.2.2⟩
def rfcS(C:Nat)(da:Int)(w:World):Prop:=w.cell? ⟨C,1,none⟩=some (.int .i64 da)
theorem rfcS.keepS{C:Nat}{da:Int}{w w':World}{S:Nat->Prop}(h:rfcS C da w)(hk:Keeps S w w')(hS:¬S C):rfcS C da w':=(hk.cell (Ag h) hS).trans h
def opnS(B C:Nat)(am tr td:Int)(vp:Value)(g o:Nat)(y:Int)(w:World):Prop:=w.cell? ⟨C,3,none⟩=some (.int .i64 am)/\w.cell? ⟨C,2,none⟩=some (.int .i64 tr)/\w.cell? ⟨B,7,none⟩=some (.int .i64 td)/\w.cell? ⟨B,11,none⟩=some vp/\w.cell? ⟨g,o,none⟩=some (.int .i64 y)
theorem opnS.keep{B C:Nat}{am tr td:Int}{vp:Value}{g o:Nat}{y:Int}{w w':World}(h:opnS B C am tr td vp g o y w)(hk:K0 w w'):opnS B C am tr td vp g o y w':=by
 exact j4l
def opcS(B C:Nat)(am tr td:Int)(w:World):Prop:=w.cell? ⟨C,3,none⟩=some (.int .i64 am)/\w.cell? ⟨C,2,none⟩=some (.int .i64 tr)/\w.cell? ⟨B,7,none⟩=some (.int .i64 td)
theorem opcS.keepS{B C:Nat}{am tr td:Int}{w w':World}{S:Nat->Prop}(h:opcS B C am tr td w)(hk:Keeps S w w')(hB:¬S B)(hC:¬S C):opcS B C am tr td w':=⟨(hk.cell (Ag h.1) hC).trans h.1,(hk.cell (Ag h.2.1) hC).trans h.2.1,(hk.cell (Ag h.2.2) hB).trans h.2.2⟩
structure EvSt(S:Nat->Prop)(w W:World)(C R E:Nat)(c:Cmd)(x:Ev):Prop where
 c:W.heap[C]?=some (.cells #[.int .i64 c.kind,.int .i64 c.day,.int .i64 c.tranche,.int .i64 c.amount,.int .i64 c.ref] 23 (0,0))
 r:W.heap[R]?=some (.cells #[.int .i64 0,.int .i64 0,.int .i64 0,.int .i64 0,.int .i64 0] 96 (0,0))
 e:W.heap[E]?=some (.cells #[.int .i64 x.kind,.int .i64 x.day,.int .i64 x.tranche,.int .i64 x.amount,.int .i64 x.ref] 96 (0,0))
 k:Keeps S w W
 lc:w.heap.size<=C
 lr:w.heap.size<=R
 le:w.heap.size<=E
 ce:¬C=E
 re:¬R=E
theorem EvSt.keep{S:Nat->Prop}{w W W':World}{C R E:Nat}{c:Cmd}{x:Ev}(h:EvSt S w W C R E c x)(hk:K0 W W'):EvSt S w W' C R E c x:=⟨Ad h.c hk (by simp),Ad h.r hk (by simp),Ad h.e hk (by simp),h.k.trans (hk.mono (by simp)),h.lc,h.lr,h.le,h.ce,h.re⟩
theorem EvSt.keepT{T:Nat->Prop}{w W W':World}{C R E:Nat}{c:Cmd}{x:Ev}(h:EvSt (λ_=>False) w W C R E c x)(hk:Keeps T W W')(hT:∀i,T i->i<w.heap.size):EvSt T w W' C R E c x:=⟨Ad h.c hk (λe=>by have:=hT _ e;have:=h.lc;omega),Ad h.r hk (λe=>by have:=hT _ e;have:=h.lr;omega),Ad h.e hk (λe=>by have:=hT _ e;have:=h.le;omega),(h.k.mono (by simp)).trans (hk.mono λ_ _ e=> .inl e),h.lc,h.lr,h.le,h.ce,h.re⟩
theorem EvSt.set{S:Nat->Prop}{w W W':World}{C R E:Nat}{c:Cmd}{x y:Ev}(h:EvSt S w W C R E c x)(j:Nat)(v:Value)(hW:W'=W.setCell ⟨E,j,none⟩ v)(hy:(#[.int .i64 x.kind,.int .i64 x.day,.int .i64 x.tranche,.int .i64 x.amount,.int .i64 x.ref]:Array Value).setIfInBounds j v= #[.int .i64 y.kind,.int .i64 y.day,.int .i64 y.tranche,.int .i64 y.amount,.int .i64 y.ref]):EvSt S w W' C R E c y:=by
 subst hW;have hk:Keeps (λi=>i=E) W (W.setCell ⟨E,j,none⟩ v):=(Keeps.refl _ _).setB _ _;refine⟨Ad h.c hk h.ce,Ad h.r hk h.re, ?_,h.k.trans (hk.mono λi _ e=> .inr (by have e':i=E:=e;have:=h.le;omega)),h.lc,h.lr,h.le,h.ce,h.re⟩;rw [<-hy];exact heap_setCell_same _ _ j _ _ v h.e
theorem EvSt.done{w W:World}{C R E b:Nat}{c:Cmd}{x:Ev}{v:Value}{D:List Disp}{V:Array Value}(h:EvSt (λ_=>False) w W C R E c x)(hb:Cr w b v D):Le w b v D (W.setRow R V):=
 ⟨v,(hb.keeps h.k (by simp)).keeps (Cc W R V) λk hk e=>by have e':k=R:=e;have:=hb.lt k hk;have:=h.lr;omega,(h.k.mono (by simp)).trans ((Cc W R V).mono λi _ e=> .inr (by have e':i=R:=e;have:=h.lr;omega)),λk hk=> .inl hk⟩
theorem EvSt.doneB{w W W2 W1:World}{C R E b:Nat}{c:Cmd}{x:Ev}{v v':Value}{D D':List Disp}{V:Array Value}(h1:EvSt (λ_=>False) w W1 C R E c x)(hb:Cr w b v D)(hb2:Cr W2 b v' D')(hk2:Keeps (Foot b v) W1 W2)(hf2:∀k,Foot b v' k->Foot b v k\/W1.heap.size<=k)(hk:Keeps (λi=>i=E) W2 W):Le w b v D' (W.setRow R V):=by
 have hl:=hb.lt;have hs:=h1.k.size;have hE:=lt_of_block h1.e;have hR:=lt_of_block h1.r
 have hno:∀k,Foot b v' k->¬k=E/\¬k=R:=λk hk=>by
  rcases hf2 k hk with e|e
  ·have:=hl k e;have:=h1.le;have:=h1.lr;omega
  ·omega
 refine⟨v',(hb2.keeps hk λk hk e=>(hno k hk).1 e).keeps (Cc W R V) λk hk e=>(hno k hk).2 e, ?_,λk hk=>(hf2 k hk).imp id λe=>by omega⟩;refine(h1.k.mono (by simp)).trans ((hk2.mono λi _ e=> .inl e).trans ((hk.mono λi _ e=> .inl (.inr ?_)).trans ((Cc W R V).mono λi _ e=> .inl (.inl (.inr ?_)))))
 ·have e':i=R:=e;have:=h1.lr;omega
 ·have e':i=E:=e;have:=h1.le;omega
theorem Aab(B:Nat)(x:AcV)(a:Ac)(c:Cmd)(b:Nat)(v:Value)(w:World)(h:AcAt w B x a)(hb:Cr w b v a.D)(hsep:∀k,Foot b v k->¬(AcF B x k\/x.rd k))(hk:c.kind=1\/c.kind=2\/c.kind=3\/c.kind=4\/c.kind=7):
  Calls Tryz.prog 134 #[(.pointer (some ⟨B,0,none⟩)),.agg #[.int .i64 c.kind,.int .i64 c.day,.int .i64 c.tranche,.int .i64 c.amount,.int .i64 c.ref],(.pointer (some ⟨b,0,none⟩))] w (Wd w b v (a.eD c) (a.evt c) (a.ee c)):=by
 have hn:=h.ok.nums;obtain⟨ki,da,tr,am,re⟩:=c;simp only at hk⊢;obtain⟨td,htd⟩:=eX a.today;refine j4g ?_;intro W0 hW0;have hc0:W0.heap[w.heap.size]?=some (.cells #[.int .i64 ki,.int .i64 da,.int .i64 tr,.int .i64 am,.int .i64 re] 23 (0,0)):=by rw [hW0];exact Aq (heap_alloc_new w _) _
 have hr0:W0.heap[w.heap.size+1]?=some (.cells #[.int .i64 0,.int .i64 0,.int .i64 0,.int .i64 0,.int .i64 0] 96 (0,0)):=by rw [hW0];exact Av _ _ (by simp)
 have hk0:K0 w W0:=by rw [hW0];(repeat (first|exact Keeps.refl _ _|exact Keeps.alloc _ _|exact Keeps.drew _|exact Keeps.drewN _ _|refine Keeps.Am ?_|refine Keeps.Al ?_|refine Keeps.Af ?_))
 have hs0:w.heap.size+1<W0.heap.size:=lt_of_block hr0;have hS0:evtS B w.heap.size td am W0.drew:=(show evtS B w.heap.size td am W0 from⟨by rw [<-htd];exact Aa (h.keep0 hk0).blk 7,Aa hc0 3⟩).keep (Keeps.drew _);obtain⟨H,Hb,Hc0,Hr0,Hk0,HS0,Hsep,Hn,Htd⟩:=hid9 h hb hc0 hr0 hk0 hS0 hsep hn htd;clear htd hn hsep hS0 hk0 hr0 hc0 hb h;have Hk:=Lib.hid hk;clear hk;go_enter Tryz.func134,Tryz.ntmps134;go_wp2_with fail;refine Az 0 rfl ?_;go_wp2_with fail;rw [<-hW0];clear hW0;refine Ak (evtS B w.heap.size td am) (.take 0 (.take 1 (.take 2 (.take 3 (.take 4 (.take 5 (.take 6 (.move 7 (.move 8 .done))))))))) j9 j9 ?_ ?_
 ·exact HS0.o
 intro w1 hs1 hk1;refine je ?_;intro K hK;refine hK.out _ _ j1I ?_;clear hK K;refine jc ?_;refine ja ?_;intro K hK;refine hK.out _ _ j1I ?_;clear hK K;refine js ?_;obtain⟨W1,hW1⟩:=eY (w1.alloc (.cells #[.int .i64 0,.int .i64 td,.int .i64 0,.int .i64 am,.int .i64 0] 96));have hk01:K0 W0 W1:=by rw [hW1];exact hk1.nt (Keeps.alloc _ _)
 have hst1:EvSt (λ_=>False) w W1 w.heap.size (w.heap.size+1) w1.heap.size ⟨ki,da,tr,am,re⟩ ⟨0,td,0,am,0⟩:=⟨Ad Hc0.o hk01 (by simp),Ad Hr0.o hk01 (by simp),by rw [hW1];exact heap_alloc_new _ _,Hk0.o.nt hk01,Nat.le_refl _,Nat.le_succ _,by have:=hk1.size;omega,by have:=hk1.size;omega,by have:=hk1.size;omega⟩;obtain⟨C,hC⟩:=eY w.heap.size;obtain⟨R,hR⟩:=eY (w.heap.size+1);obtain⟨E,hE⟩:=eY w1.heap.size;rw [<-hR,<-hC,<-hE] at hst1;rw [<-hW1]
 try rw [<-hR]
 try rw [<-hC]
 try rw [<-hE]
 clear hW1 hC hR hE hs1 hk1 hs0;clear Hc0 Hr0 Hk0 HS0;have Hst1:=Lib.hid hst1;clear hst1;clear hk01;by_cases h2:ki=2
 ·subst h2;refine j4m ?_;intro nce nec c0 c1 c2 c3 cl e0 e1 e2 e3 e4 el f0 f1 f2 f4;by_cases l1:am<1
  ·skip
   have hno:=Ac.Jz ((Ac.Lj (a:=a) (c:=⟨2,da,tr,am,re⟩) (.inl rfl) (.inr ⟨show¬(2:Int)=7 by decide,.inl l1⟩))) j7;have hpo:=j4n;have hee:=(Ac.Lj (a:=a) (c:=⟨2,da,tr,am,re⟩) (.inl rfl) (.inr ⟨show¬(2:Int)=7 by decide,.inl l1⟩));have hR0:=(Hst1.o).r;exact j05
  ·by_cases l2:1000000000000000<am
   ·skip
    have hno:=Ac.Jz ((Ac.Lj (a:=a) (c:=⟨2,da,tr,am,re⟩) (.inl rfl) (.inr ⟨show¬(2:Int)=7 by decide,.inr l2⟩))) j7;have hpo:=j4n;have hee:=(Ac.Lj (a:=a) (c:=⟨2,da,tr,am,re⟩) (.inl rfl) (.inr ⟨show¬(2:Int)=7 by decide,.inr l2⟩));have hR0:=(Hst1.o).r;exact j05
   ·have hee:a.ee ⟨2,da,tr,am,re⟩=0:=by rw [Ac.ee_in (.inl rfl) (.inr ⟨show¬(2:Int)=7 by decide,by show 1<=am;omega,by show am<=1000000000000000;omega⟩)];rfl
    have heD:=Ac.eD_no (a:=a) (c:=⟨2,da,tr,am,re⟩) (show(2:Int)≠4 by decide);obtain⟨Wz,hWz⟩:=eY (W1.setCell ⟨E,0,none⟩ (.int .i64 2));have hstz:=Hst1.o.set (y:=⟨2,td,0,am,0⟩) 0 (.int .i64 2) hWz rfl;have hpo:=hstz.done (D:=a.D) (V:= #[.int .i64 2,.int .i64 td,.int .i64 0,.int .i64 am,.int .i64 0]) Hb.o;have Hstz:=Lib.hid hstz;clear hstz;refine j0r ?_;intro hev hE0 hR0;obtain⟨Hev,HE0,HR0,Hee,Hpo,HeD⟩:=hid6 hev hE0 hR0 hee hpo heD;clear heD hpo hee hR0 hE0 hev
    go_upto_region 31 with fail
    rw [<-hWz];clear hWz;have hsr:=setRow_heap _ R #[.int .i64 0,.int .i64 0,.int .i64 0,.int .i64 0,.int .i64 0] #[.int .i64 2,.int .i64 td,.int .i64 0,.int .i64 am,.int .i64 0] 96 _ HR0.o;refine jF ?_;intro sr0 sr1 sr2 sr3 sr4;obtain⟨Hsr,Sr0,Sr1,Sr2,Sr3,Sr4⟩:=hid6 hsr sr0 sr1 sr2 sr3 sr4;clear sr4 sr3 sr2 sr1 sr0 hsr
    go_wp2_with (first|(refine wpList_load_row rfl 96 (.tmp 8) rfl E rfl 96 #[.int .i64 2,.int .i64 td,.int .i64 0,.int .i64 am,.int .i64 0] _ _ HE0.o Tryz.underlying96 rfl Br ?_)|(refine wpList_store_row rfl 96 (.tmp 6) (.tmp 137) rfl R #[.int .i64 2,.int .i64 td,.int .i64 0,.int .i64 am,.int .i64 0] rfl rfl 96 #[.int .i64 0,.int .i64 0,.int .i64 0,.int .i64 0,.int .i64 0] HR0.o Br rfl (Dt _ _ _ _ _) ?_))
    refine jq ?_;intro R0' R1' R2' R3' R4'
    try rw [Exit.Bq]
    exact bodyPost_ret (v:= .tuple #[.agg #[.int .i64 2,.int .i64 td,.int .i64 0,.int .i64 am,.int .i64 0],.int .i64 0]) jv rfl ⟨by rw [Hev.o,Hee.o];simp [Htd.o],by rw [HeD.o];exact Hpo.o⟩
 ·have hne:(ki !=2)=true:=by simp [h2]
  refine j4m ?_;intro nce nec c0 c1 c2 c3 cl e0 e1 e2 e3 e4 el f0 f1 f2 f4;obtain⟨W2,hW2⟩:=eY (W1.setCell ⟨E,2,none⟩ (.int .i64 tr));have hst2:=Hst1.o.set (y:=⟨0,td,tr,am,0⟩) 2 (.int .i64 tr) hW2 rfl;have hAt2:=H.o.keep0 hst2.k;have htr:=Vq B x a tr W2 hAt2;by_cases h3:1<=tr/\tr<=a.t.trs.length
  ·rw [decide_eq_true h3] at htr;obtain⟨Hst2,HAt2,Htr,H3,H2⟩:=hid5 hst2 hAt2 htr h3 h2;clear h2 h3 htr hAt2 hst2;go_wp2_with fail;rw [<-hW2];clear hW2;clear nce nec c0 c1 c2 c3 cl e0 e1 e2 e3 e4 el f0 f1 f2 f4;refine Htr.o.mono ?_;rintro e w' ⟨rfl,rfl⟩;have nce:=(Hst2.o).ce;have nec:¬E=C:=λe=>nce e.symm;have c0:=Aa (Hst2.o).c 0;have c1:=Aa (Hst2.o).c 1;have c2:=Aa (Hst2.o).c 2;have c3:=Aa (Hst2.o).c 3;have cl:=lt_of_block (Hst2.o).c;have e0:=Aa (Hst2.o).e 0;have e1:=Aa (Hst2.o).e 1;have e2:=Aa (Hst2.o).e 2;have e3:=Aa (Hst2.o).e 3;have e4:=Aa (Hst2.o).e 4;have el:=lt_of_block (Hst2.o).e;have f0:=Ab (Hst2.o).e 0;have f1:=Ab (Hst2.o).e 1;have f2:=Ab (Hst2.o).e 2;have f4:=Ab (Hst2.o).e 4;by_cases h7:ki=7
   ·subst h7;by_cases l1:am<0
    ·skip
     have hno:=Ac.Jz ((Ac.Lj (a:=a) (c:=⟨7,da,tr,am,re⟩) (.inr H3.o) (.inl ⟨rfl,.inl l1⟩))) j7;refine j0s ?_;intro hpo;have hee:=(Ac.Lj (a:=a) (c:=⟨7,da,tr,am,re⟩) (.inr H3.o) (.inl ⟨rfl,.inl l1⟩));have hR0:=(Hst2.o).r;exact j05
    ·by_cases l2:10000000<am
     ·skip
      have hno:=Ac.Jz ((Ac.Lj (a:=a) (c:=⟨7,da,tr,am,re⟩) (.inr H3.o) (.inl ⟨rfl,.inr l2⟩))) j7;refine j0s ?_;intro hpo;have hee:=(Ac.Lj (a:=a) (c:=⟨7,da,tr,am,re⟩) (.inr H3.o) (.inl ⟨rfl,.inr l2⟩));have hR0:=(Hst2.o).r;exact j05
     ·have hee:a.ee ⟨7,da,tr,am,re⟩=0:=by rw [Ac.ee_in (.inr H3.o) (.inl ⟨rfl,by show 0<=am;omega,by show am<=10000000;omega⟩)];rfl
      have heD:=Ac.eD_no (a:=a) (c:=⟨7,da,tr,am,re⟩) (show(7:Int)≠4 by decide);obtain⟨Wz,hWz⟩:=eY (W2.setCell ⟨E,0,none⟩ (.int .i64 6));have hstz:=Hst2.o.set (y:=⟨6,td,tr,am,0⟩) 0 (.int .i64 6) hWz rfl;have hpo:=hstz.done (D:=a.D) (V:= #[.int .i64 6,.int .i64 td,.int .i64 tr,.int .i64 am,.int .i64 0]) Hb.o;have Hstz:=Lib.hid hstz;clear hstz;refine j0r ?_;intro hev hE0 hR0;obtain⟨Hev,HE0,HR0,Hee,Hpo,HeD⟩:=hid6 hev hE0 hR0 hee hpo heD;clear heD hpo hee hR0 hE0 hev
      go_upto_region 31 with fail
      rw [<-hWz];clear hWz;have hsr:=setRow_heap _ R #[.int .i64 0,.int .i64 0,.int .i64 0,.int .i64 0,.int .i64 0] #[.int .i64 6,.int .i64 td,.int .i64 tr,.int .i64 am,.int .i64 0] 96 _ HR0.o;refine jF ?_;intro sr0 sr1 sr2 sr3 sr4;obtain⟨Hsr,Sr0,Sr1,Sr2,Sr3,Sr4⟩:=hid6 hsr sr0 sr1 sr2 sr3 sr4;clear sr4 sr3 sr2 sr1 sr0 hsr
      go_wp2_with (first|(refine wpList_load_row rfl 96 (.tmp 8) rfl E rfl 96 #[.int .i64 6,.int .i64 td,.int .i64 tr,.int .i64 am,.int .i64 0] _ _ HE0.o Tryz.underlying96 rfl Br ?_)|(refine wpList_store_row rfl 96 (.tmp 6) (.tmp 137) rfl R #[.int .i64 6,.int .i64 td,.int .i64 tr,.int .i64 am,.int .i64 0] rfl rfl 96 #[.int .i64 0,.int .i64 0,.int .i64 0,.int .i64 0,.int .i64 0] HR0.o Br rfl (Dt _ _ _ _ _) ?_))
      refine jq ?_;intro R0' R1' R2' R3' R4'
      try rw [Exit.Bq]
      exact bodyPost_ret (v:= .tuple #[.agg #[.int .i64 6,.int .i64 td,.int .i64 tr,.int .i64 am,.int .i64 0],.int .i64 0]) jv rfl ⟨by rw [Hev.o,Hee.o];simp [Htd.o],by rw [HeD.o];exact Hpo.o⟩
   ·have k7:(ki==7)=false:=by simp [h7]
    have H7:=Lib.hid h7;clear h7;by_cases l1:am<1
    ·skip
     have hno:=Ac.Jz ((Ac.Lj (a:=a) (c:=⟨ki,da,tr,am,re⟩) (.inr H3.o) (.inr ⟨H7.o,.inl l1⟩))) j7;refine j0s ?_;intro hpo;have hee:=(Ac.Lj (a:=a) (c:=⟨ki,da,tr,am,re⟩) (.inr H3.o) (.inr ⟨H7.o,.inl l1⟩));have hR0:=(Hst2.o).r;exact j05
    ·by_cases l2:1000000000000000<am
     ·skip
      have hno:=Ac.Jz ((Ac.Lj (a:=a) (c:=⟨ki,da,tr,am,re⟩) (.inr H3.o) (.inr ⟨H7.o,.inr l2⟩))) j7;refine j0s ?_;intro hpo;have hee:=(Ac.Lj (a:=a) (c:=⟨ki,da,tr,am,re⟩) (.inr H3.o) (.inr ⟨H7.o,.inr l2⟩));have hR0:=(Hst2.o).r;exact j05
     ·have hin:=Ac.ee_in (a:=a) (c:=⟨ki,da,tr,am,re⟩) (.inr H3.o) (.inr ⟨H7.o,by show 1<=am;omega,by show am<=1000000000000000;omega⟩);have hki:ki=1\/ki=3\/ki=4:=by have:=Hk.o;have:=H2.o;have:=H7.o;omega
      clear k7 hne;have Hin:=Lib.hid hin;clear hin;rcases hki with rfl|rfl|rfl
      ·have hin:=Hin.o;rw [if_pos rfl] at hin;obtain⟨⟨s0,s1⟩,⟨r0,r1⟩,_⟩:=ps_nums Hn.o.pr;obtain⟨ap,cp,hvp,_,_⟩:=Ae HAt2.o.bal;have hrd:=Reads.Bb HAt2.o.bal;rw [hvp] at hrd;have htot:=λW (hW:K0 W2 W)=>Jl a.s.p ap cp W (hrd.keeps hW (by simp)) (by have:=Hn.o.nb;have:=Hn.o.n8;omega);simp only [Ps.val,Hn.o.pr,if_true] at htot;unfold Ac.owes at hin;have hS:=(show drwS B C x.vp a.s.p.cr a.s.p.du a.t.limit am W2 from⟨Aa HAt2.o.blk 11,Aa HAt2.o.blk 12,Aa HAt2.o.blk 13,Aa HAt2.o.blk 0,c3⟩);have hbl:=lt_of_block HAt2.o.blk;rw [hvp] at hS;obtain⟨sb,hsb⟩:=eX (sumI a.s.p.bal);obtain⟨nb,hnb⟩:=eX a.s.p.bal.length;obtain⟨cr,hcr⟩:=eX a.s.p.cr;obtain⟨du,hdu⟩:=eX a.s.p.du;obtain⟨lim,hlm⟩:=eX a.t.limit;rw [hsb,hcr,hlm] at hin;rw [hsb] at s0 s1;rw [hcr] at r0 r1;rw [hsb,hnb,hcr,hdu] at htot;rw [hnb,hcr,hdu,hlm] at hS;have q1:IntKind.i64.wrap (sb-cr)=sb-cr:=IntWalk.i64_in _ ⟨by omega,by omega⟩;have q2:IntKind.i64.wrap (sb-cr+am)=sb-cr+am:=IntWalk.i64_in _ ⟨by omega,by omega⟩;obtain⟨Hvp,Hrd,Htot,HS,Hsb,Hnb,Hcr,Hdu,Hlm⟩:=hid9 hvp hrd htot hS hsb hnb hcr hdu hlm;clear hlm hdu hcr hnb hsb hS htot hrd hvp
       go_upto_region 13 with fail
       by_cases hlim:lim<sb-cr+am
       ·rw [if_pos hlim] at hin;have Hin:=Lib.hid hin;clear hin;clear nce nec c0 c1 c2 c3 cl e0 e1 e2 e3 e4 el f0 f1 f2 f4;refine Ak (drwS B C (.slice ap nb cp) cr du lim am) (.take 0 (.take 1 (.take 2 (.take 3 (.take 5 (.take 6 (.take 7 (.take 8 (.take 9 (.take 11 (.take 12 (.take 14 (.take 15 (.take 16 (.take 17 (.take 18 (.move 4 (.take 10 (.take 13 (.take 19 .done)))))))))))))))))))) j9 j9 ?_ ?_
        ·exact j06
        intro w3 hs3 hk3;refine je ?_;intro K hK
        go_at_call 170
        ((with_reducible refine(Htot.o w3 hk3).mono ?_);rintro e w4 ⟨rfl,hk4⟩;dsimp only)
        refine jZ ?_;clear hK K;refine jm ?_;have hst3:=Hst2.o.keep (hk3.nt hk4);clear hs3 hk3 hk4;have Hst3:=Lib.hid hst3;clear hst3;refine j07 ?_;intro nce nec c0 c1 c2 c3 cl e0 e1 e2 e3 e4 el f0 f1 f2 f4;have hno:=Ac.Jz (Hin.o) j7;refine j1Y ?_;intro hpo;have hee:=Hin.o;exact j4o
       ·rw [if_neg hlim] at hin;have hee:=hin;clear hin;have Hee:=Lib.hid hee;clear hee;clear nce nec c0 c1 c2 c3 cl e0 e1 e2 e3 e4 el f0 f1 f2 f4;refine Ak (drwS B C (.slice ap nb cp) cr du lim am) (.take 0 (.take 1 (.take 2 (.take 3 (.take 5 (.take 6 (.take 7 (.take 8 (.take 9 (.take 11 (.take 12 (.take 14 (.take 15 (.take 16 (.take 17 (.take 18 (.move 4 (.take 10 (.take 13 (.take 19 .done)))))))))))))))))))) j9 j9 ?_ ?_
        ·exact j06
        intro w3 hs3 hk3;refine je ?_;intro K hK
        go_at_call 170
        ((with_reducible refine(Htot.o w3 hk3).mono ?_);rintro e w4 ⟨rfl,hk4⟩;dsimp only)
        refine jZ ?_;clear hK K;refine jm ?_;have hst3:=Hst2.o.keep (hk3.nt hk4);clear hs3 hk3 hk4;have Hst3:=Lib.hid hst3;clear hst3;refine j07 ?_;intro nce nec c0 c1 c2 c3 cl e0 e1 e2 e3 e4 el f0 f1 f2 f4;have hee:=Hee.o;have heD:=Ac.eD_no (a:=a) (c:=⟨1,da,tr,am,re⟩) (show(1:Int)≠4 by decide);obtain⟨Wz,hWz⟩:=eY (w4.setCell ⟨E,0,none⟩ (.int .i64 1));have hstz:=Hst3.o.set (y:=⟨1,td,tr,am,0⟩) 0 (.int .i64 1) hWz rfl;have hpo:=hstz.done (D:=a.D) (V:= #[.int .i64 1,.int .i64 td,.int .i64 tr,.int .i64 am,.int .i64 0]) Hb.o;have Hstz:=Lib.hid hstz;clear hstz;refine j0r ?_;intro hev hE0 hR0;obtain⟨Hev,HE0,HR0,Hee,Hpo,HeD⟩:=hid6 hev hE0 hR0 hee hpo heD;clear heD hpo hee hR0 hE0 hev
        go_upto_region 31 with fail
        rw [<-hWz];clear hWz;have hsr:=setRow_heap _ R #[.int .i64 0,.int .i64 0,.int .i64 0,.int .i64 0,.int .i64 0] #[.int .i64 1,.int .i64 td,.int .i64 tr,.int .i64 am,.int .i64 0] 96 _ HR0.o;refine jF ?_;intro sr0 sr1 sr2 sr3 sr4;obtain⟨Hsr,Sr0,Sr1,Sr2,Sr3,Sr4⟩:=hid6 hsr sr0 sr1 sr2 sr3 sr4;clear sr4 sr3 sr2 sr1 sr0 hsr
        go_wp2_with (first|(refine wpList_load_row rfl 96 (.tmp 8) rfl E rfl 96 #[.int .i64 1,.int .i64 td,.int .i64 tr,.int .i64 am,.int .i64 0] _ _ HE0.o Tryz.underlying96 rfl Br ?_)|(refine wpList_store_row rfl 96 (.tmp 6) (.tmp 137) rfl R #[.int .i64 1,.int .i64 td,.int .i64 tr,.int .i64 am,.int .i64 0] rfl rfl 96 #[.int .i64 0,.int .i64 0,.int .i64 0,.int .i64 0,.int .i64 0] HR0.o Br rfl (Dt _ _ _ _ _) ?_))
        refine jq ?_;intro R0' R1' R2' R3' R4'
        try rw [Exit.Bq]
        exact bodyPost_ret (v:= .tuple #[.agg #[.int .i64 1,.int .i64 td,.int .i64 tr,.int .i64 am,.int .i64 0],.int .i64 0]) jv rfl ⟨by rw [Hev.o,Hee.o];simp [Htd.o],by rw [HeD.o];exact Hpo.o⟩
      ·have hin:=Hin.o;rw [if_neg (show¬(3:Int)=1 by decide),if_pos rfl] at hin;obtain⟨st,hst⟩:=eX a.t.start;have hS:=(show rfdS B C da a.t.start a.today W2 from⟨c1,Aa HAt2.o.blk 6,Aa HAt2.o.blk 7⟩);have hbl:=lt_of_block HAt2.o.blk;rw [hst,Htd.o] at hS hin;obtain⟨Hst,HS⟩:=hid2 hst hS;clear hS hst
       go_upto_region 19 with fail
       clear nce nec c0 c1 c2 c3 cl e0 e1 e2 e3 e4 el f0 f1 f2 f4;by_cases d1:da<st
       ·have d1':decide (da<st)=true:=by simp [d1]
        rw [if_pos (.inl d1)] at hin;exact j4p
       ·have d1':decide (da<st)=false:=by simp [d1]
        by_cases d2:td<da
        ·have d2':decide (td<da)=true:=by simp [d2]
         rw [if_pos (.inr d2)] at hin;exact j4p
        ·have d2':decide (td<da)=false:=by simp [d2]
         rw [if_neg λe=>e.elim d1 d2] at hin;have Hin2:=Lib.hid hin;clear hin;refine Ak (rfdS B C da st td) (.take 0 (.take 1 (.take 2 (.take 3 (.take 4 (.take 5 (.take 6 (.take 7 (.take 8 (.take 9 (.take 10 (.take 11 (.take 12 (.take 13 (.take 14 (.take 15 (.take 16 .done))))))))))))))))) j9 j9 ?_ ?_
         ·exact j06
         intro w3 hs3 hk3;refine jo ?_;have hst3:=Hst2.o.keep hk3;clear hs3;have Hst3:=Lib.hid hst3;clear hst3;refine j07 ?_;intro nce nec c0 c1 c2 c3 cl e0 e1 e2 e3 e4 el f0 f1 f2 f4;have hAt3:=HAt2.o.keep0 hk3;have hol:=Vt B x a da w3 hAt3;obtain⟨o,ho⟩:=eX (a.oldB da);rw [ho] at hol;obtain⟨HAt3,Hol,Ho⟩:=hid3 hAt3 hol ho;clear ho hol hAt3;clear d1' d2';go_wp2_with fail;refine Hol.o.mono ?_;rintro e w4 ⟨rfl,hk4⟩;clear nce nec c0 c1 c2 c3 cl e0 e1 e2 e3 e4 el f0 f1 f2 f4;have hst4:=Hst3.o.keep hk4;clear hk4;have Hst4:=Lib.hid hst4;clear hst4;have hin3:a.ee ⟨3,da,tr,am,re⟩=if o=true then 11 else 0:=by rw [Hin2.o];show(if a.oldB da=true then(11:Int) else 0)=_;rw [Ho.o]
         have nce:=(Hst4.o).ce;have nec:¬E=C:=λe=>nce e.symm;have c0:=Aa (Hst4.o).c 0;have c1:=Aa (Hst4.o).c 1;have c2:=Aa (Hst4.o).c 2;have c3:=Aa (Hst4.o).c 3;have cl:=lt_of_block (Hst4.o).c;have e0:=Aa (Hst4.o).e 0;have e1:=Aa (Hst4.o).e 1;have e2:=Aa (Hst4.o).e 2;have e3:=Aa (Hst4.o).e 3;have e4:=Aa (Hst4.o).e 4;have el:=lt_of_block (Hst4.o).e;have f0:=Ab (Hst4.o).e 0;have f1:=Ab (Hst4.o).e 1;have f2:=Ab (Hst4.o).e 2;have f4:=Ab (Hst4.o).e 4;rcases o with _|_
         ·have Hin3:=Lib.hid hin3;clear hin3
          go_upto_region 22 with fail
          clear nce nec c0 c1 c2 c3 cl e0 e1 e2 e3 e4 el f0 f1 f2 f4;refine Ak (rfcS C da) (.take 0 (.take 1 (.take 2 (.move 3 (.take 4 (.move 5 .done)))))) j9 j9 ?_ ?_
          ·exact(show rfcS C da w4 from Aa Hst4.o.c 1).keepS (Keeps.drew (S:=λ_=>False) _) (by simp)
          intro w6 hs6 hk6;have hst6:=Hst4.o.keep hk6;refine j4q ?_;intro nce nec c0 c1 c2 c3 cl e0 e1 e2 e3 e4 el f0 f1 f2 f4;refine j4r ?_;refine ja ?_;intro K hK;refine hK.out _ _ (by exact hs6.keepS (Keeps.setCell (S:=λi=>i=E) _ _ _ rfl) nce) ?_;clear hK K;refine jc ?_;refine j4r ?_;refine ja ?_;intro K hK;refine hK.out _ _ (by exact(hs6.keepS (Keeps.setCell (S:=λi=>i=E) _ _ _ rfl) nce).keepS (Keeps.setCell (S:=λi=>i=E) _ _ _ rfl) nce) ?_;clear hK K;refine js ?_;have hee:a.ee ⟨3,da,tr,am,re⟩=0:=by rw [Hin3.o];rfl
          have heD:=Ac.eD_no (a:=a) (c:=⟨3,da,tr,am,re⟩) (show(3:Int)≠4 by decide);obtain⟨Wz,hWz⟩:=eY ((w6.setCell ⟨E,0,none⟩ (.int .i64 3)).setCell ⟨E,1,none⟩ (.int .i64 da));have hstz:=(hst6.set (y:=⟨3,td,tr,am,0⟩) 0 (.int .i64 3) rfl rfl).set (y:=⟨3,da,tr,am,0⟩) 1 (.int .i64 da) hWz rfl;have hpo:=hstz.done (D:=a.D) (V:= #[.int .i64 3,.int .i64 da,.int .i64 tr,.int .i64 am,.int .i64 0]) Hb.o;clear hs6 hk6;obtain⟨Hstz,Hst6⟩:=hid2 hstz hst6;clear hst6 hstz;refine j0r ?_;intro hev hE0 hR0;obtain⟨Hev,HE0,HR0,Hee,Hpo,HeD⟩:=hid6 hev hE0 hR0 hee hpo heD;clear heD hpo hee hR0 hE0 hev
          go_upto_region 31 with fail
          rw [<-hWz];clear hWz;have hsr:=setRow_heap _ R #[.int .i64 0,.int .i64 0,.int .i64 0,.int .i64 0,.int .i64 0] #[.int .i64 3,.int .i64 da,.int .i64 tr,.int .i64 am,.int .i64 0] 96 _ HR0.o;refine jF ?_;intro sr0 sr1 sr2 sr3 sr4;obtain⟨Hsr,Sr0,Sr1,Sr2,Sr3,Sr4⟩:=hid6 hsr sr0 sr1 sr2 sr3 sr4;clear sr4 sr3 sr2 sr1 sr0 hsr
          go_wp2_with (first|(refine wpList_load_row rfl 96 (.tmp 8) rfl E rfl 96 #[.int .i64 3,.int .i64 da,.int .i64 tr,.int .i64 am,.int .i64 0] _ _ HE0.o Tryz.underlying96 rfl Br ?_)|(refine wpList_store_row rfl 96 (.tmp 6) (.tmp 137) rfl R #[.int .i64 3,.int .i64 da,.int .i64 tr,.int .i64 am,.int .i64 0] rfl rfl 96 #[.int .i64 0,.int .i64 0,.int .i64 0,.int .i64 0,.int .i64 0] HR0.o Br rfl (Dt _ _ _ _ _) ?_))
          refine jq ?_;intro R0' R1' R2' R3' R4'
          try rw [Exit.Bq]
          exact bodyPost_ret (v:= .tuple #[.agg #[.int .i64 3,.int .i64 da,.int .i64 tr,.int .i64 am,.int .i64 0],.int .i64 0]) jv rfl ⟨by rw [Hev.o,Hee.o];simp,by rw [HeD.o];exact Hpo.o⟩
         ·have Hin3:=Lib.hid hin3;clear hin3;have hno:=Ac.Jz (Hin3.o) j7;have hpo:=((Hst4.o).done (D:=a.D) (V:= #[.int .i64 0,.int .i64 0,.int .i64 0,.int .i64 0,.int .i64 0]) Hb.o);have hee:=Hin3.o;have hR0:=(Hst4.o).r;obtain⟨Hno,Hpo,Hee,HR0⟩:=hid4 hno hpo hee hR0;clear hR0 hee hpo hno;go_wp2_with fail;go_step3;go_wp2;refine j08 ?_;intro Hsr Sr0 Sr1 Sr2 Sr3 Sr4
          go_wp2_with (refine wpList_store_row rfl 96 (.tmp 6) (.tmp 138) rfl R #[.int .i64 0,.int .i64 0,.int .i64 0,.int .i64 0,.int .i64 0] rfl rfl 96 #[.int .i64 0,.int .i64 0,.int .i64 0,.int .i64 0,.int .i64 0] HR0.o Br rfl (Dt _ _ _ _ _) ?_)
          refine jq ?_;intro R0' R1' R2' R3' R4';rw [Exit.noGoto_ret];exact bodyPost_ret (v:= .tuple #[.agg #[.int .i64 0,.int .i64 0,.int .i64 0,.int .i64 0,.int .i64 0],.int .i64 11]) jv rfl ⟨by rw [Hno.o.1,Hee.o];rfl,by rw [Hno.o.2];exact Hpo.o⟩
      ·have hin:=Hin.o;rw [if_neg (show¬(4:Int)=1 by decide),if_neg (show¬(4:Int)=3 by decide),if_pos rfl] at hin;obtain⟨nb,hnb⟩:=eX a.s.p.bal.length;have hnt:=Hn.o.nb;rw [hnb] at hnt;obtain⟨t1,t2⟩:=H3.o;obtain⟨k,hk1⟩:∃k:Nat,(k:Int)=tr-1:=⟨(tr-1).toNat,by omega⟩;obtain⟨y,hy⟩:=Au (L:=a.s.p.bal) (k:=k) j6;have q3:(tr-1).toNat=k:=j8;have hyD:a.s.p.bal.getD (tr-1).toNat 0=y:=by rw [q3,List.getD_eq_getElem?_getD,hy];rfl
       simp only [hyD] at hin;obtain⟨g,cp,hvp,_⟩:=Ff HAt2.o.bal j6;have hrow:=HAt2.o.bal;rw [hvp] at hrow;have hcy:W2.cell? ⟨g,k,none⟩=some (.int .i64 y):=by have:=Bu Dq hrow hy 0 j7;simpa [i64c] using this
       have q1:(0:Int)<=tr-1:=j8;have hn8:=Hn.o.n8;have q2:tr-1<(nb:Int):=j8;have q4:IntKind.i64.wrap (tr-1)=tr-1:=IntWalk.i64_in _ ⟨by omega,by omega⟩;rw [hnb] at hvp hrow;have hS:=(show opnS B C am tr a.today x.vp g k y W2 from⟨c3,c2,Aa HAt2.o.blk 7,Aa HAt2.o.blk 11,hcy⟩);have hbl:=lt_of_block HAt2.o.blk;have hgl:=Ag hcy;rw [hvp,Htd.o] at hS;clear hcy t2 hnt hn8;obtain⟨Hnb,Hk1,Hy,HyD,Hvp,Hrow,HS⟩:=hid7 hnb hk1 hy hyD hvp hrow hS;clear hS hrow hvp hyD hy hk1 hnb
       go_upto_region 25 with fail
       clear nce nec c0 c1 c2 c3 cl e0 e1 e2 e3 e4 el f0 f1 f2 f4;by_cases d1:y<am
       ·rw [if_pos d1] at hin;have Hin2:=Lib.hid hin;clear hin;refine Ak (opnS B C am tr td (.slice (some ⟨g,0,none⟩) nb cp) g k y) (.take 0 (.take 1 (.take 2 (.take 3 (.take 4 (.take 5 (.take 6 (.take 7 (.take 8 (.take 9 (.take 10 (.take 11 (.take 12 .done))))))))))))) j9 j9 ?_ ?_
        ·exact j06
        intro w3 hs3 hk3;refine jo ?_;have hst3:=Hst2.o.keep hk3;clear hk3;have Hst3:=Lib.hid hst3;clear hst3;refine j07 ?_;intro nce nec c0 c1 c2 c3 cl e0 e1 e2 e3 e4 el f0 f1 f2 f4;have hno:=Ac.Jz (Hin2.o) j7;refine j1Y ?_;intro hpo;have hee:=Hin2.o;exact j4o
       ·rw [if_neg d1] at hin;have Hin2:=Lib.hid hin;clear hin;refine Ak (opnS B C am tr td (.slice (some ⟨g,0,none⟩) nb cp) g k y) (.take 0 (.take 1 (.take 2 (.take 3 (.take 4 (.take 5 (.take 6 (.take 7 (.take 8 (.take 9 (.take 10 (.take 11 (.take 12 .done))))))))))))) j9 j9 ?_ ?_
        ·exact j06
        intro w3 hs3 hk3;refine jo ?_;have hst3:=Hst2.o.keep hk3;clear hk3;have Hst3:=Lib.hid hst3;clear hst3;refine j07 ?_;intro nce nec c0 c1 c2 c3 cl e0 e1 e2 e3 e4 el f0 f1 f2 f4;have hop:=fun(W:World) (hW:K0 w W)=>Zv tr td am a.D v b W (Hb.o.keeps hW (by simp));obtain⟨rf,hrf⟩:=eX (Fv a.D tr am);obtain⟨z,hz⟩:=eX (Dv a.D tr am);rw [hrf,hz] at hop;have hFB:¬Foot b v B:=λe=>Hsep.o B e (.inl (.inl rfl));have hFC:¬Foot b v C:=λe=>by have:=Hb.o.lt C e;have:=Hst3.o.lc;omega
        clear d1 q1 q2 q4 q3 t1;have hS5:opcS B C am tr td w3:=⟨hs3.1,hs3.2.1,hs3.2.2.1⟩;clear hs3;obtain⟨Hop,Hrf,Hz,HFB,HFC,HS5⟩:=hid6 hop hrf hz hFB hFC hS5;clear hS5 hFC hFB hz hrf hop
        go_upto_region 26 with fail
        clear nce nec c0 c1 c2 c3 cl e0 e1 e2 e3 e4 el f0 f1 f2 f4;refine Ak (opcS B C am tr td) (.take 0 (.take 1 (.take 2 (.take 3 (.take 4 (.take 5 (.take 6 (.take 7 (.take 8 (.move 9 (.take 10 (.take 11 (.take 12 (.take 13 (.move 14 (.take 15 .done)))))))))))))))) j9 j9 ?_ ?_
        ·exact HS5.o.keepS (Keeps.drew (S:=λ_=>False) _) (by simp) (by simp)
        intro w5 hs5 hk5;have hst5:=Hst3.o.keep hk5;have hkw5:=hst5.k;refine je ?_;intro K hK
        go_at_call 172
        ((with_reducible refine(Hop.o w5 hkw5).mono ?_);rintro e w6 hg)
        obtain⟨rfl,v6,hb6,hk6,hf6⟩:=hg;dsimp only;have hst6:=hst5.keepT hk6 Hb.o.lt;refine hK.out _ _ (by exact hs5.keepS hk6 HFB.o HFC.o) ?_;clear hK K;refine jh ?_;refine j4q ?_;intro nce nec c0 c1 c2 c3 cl e0 e1 e2 e3 e4 el f0 f1 f2 f4;have hs6:=hs5.keepS hk6 HFB.o HFC.o;have neB:¬B=E:=λe=>by have:=H.o.lt B (.inl (.inl rfl));have:=hst6.le;omega
        refine ja ?_;intro K hK;refine hK.out _ _ (by exact hs6.keepS (Keeps.setCell (S:=λi=>i=E) _ _ _ rfl) neB nce) ?_;clear hK K;refine jm ?_;obtain⟨W7,hW7⟩:=eY (w6.setCell ⟨E,4,none⟩ (.int .i64 rf));have hst7:=hst6.set (y:=⟨0,td,tr,am,rf⟩) 4 (.int .i64 rf) hW7 rfl;have hk7:Keeps (λi=>i=E) w6 W7:=by rw [hW7];exact(Keeps.refl _ _).setB _ _
        rw [<-hW7];clear hW7;clear nce nec c0 c1 c2 c3 cl e0 e1 e2 e3 e4 el f0 f1 f2 f4;clear hs5 hs6 hkw5 hk5;obtain⟨Hst7,Hst5,Hst6,Hb6,Hk6,Hf6,Hk7⟩:=hid7 hst7 hst5 hst6 hb6 hk6 hf6 hk7;clear hk7 hf6 hk6 hb6 hst6 hst5 hst7;have nce:=(Hst7.o).ce;have nec:¬E=C:=λe=>nce e.symm;have c0:=Aa (Hst7.o).c 0;have c1:=Aa (Hst7.o).c 1;have c2:=Aa (Hst7.o).c 2;have c3:=Aa (Hst7.o).c 3;have cl:=lt_of_block (Hst7.o).c;have e0:=Aa (Hst7.o).e 0;have e1:=Aa (Hst7.o).e 1;have e2:=Aa (Hst7.o).e 2;have e3:=Aa (Hst7.o).e 3;have e4:=Aa (Hst7.o).e 4;have el:=lt_of_block (Hst7.o).e;have f0:=Ab (Hst7.o).e 0;have f1:=Ab (Hst7.o).e 1;have f2:=Ab (Hst7.o).e 2;have f4:=Ab (Hst7.o).e 4;have hiz:a.ee ⟨4,da,tr,am,re⟩=z:=by rw [Hin2.o];exact Hz.o
        by_cases hz0:z=0
        ·subst hz0;have hee:=hiz;have heD:a.eD ⟨4,da,tr,am,re⟩=dOpen a.D tr td am:=by rw [Ac.eD_yes hiz rfl,Htd.o]
         obtain⟨Wz,hWz⟩:=eY (W7.setCell ⟨E,0,none⟩ (.int .i64 4));have hstz:=Hst7.o.set (y:=⟨4,td,tr,am,rf⟩) 0 (.int .i64 4) hWz rfl;have hkz:Keeps (λi=>i=E) w6 Wz:=by rw [hWz];exact Hk7.o.setB _ _
         have hpo:=Hst5.o.doneB (V:= #[.int .i64 4,.int .i64 td,.int .i64 tr,.int .i64 am,.int .i64 rf]) Hb.o Hb6.o Hk6.o Hf6.o hkz;clear hiz;obtain⟨Hstz,Hkz⟩:=hid2 hstz hkz;clear hkz hstz;refine j0r ?_;intro hev hE0 hR0;obtain⟨Hev,HE0,HR0,Hee,Hpo,HeD⟩:=hid6 hev hE0 hR0 hee hpo heD;clear heD hpo hee hR0 hE0 hev
         go_upto_region 31 with fail
         rw [<-hWz];clear hWz;have hsr:=setRow_heap _ R #[.int .i64 0,.int .i64 0,.int .i64 0,.int .i64 0,.int .i64 0] #[.int .i64 4,.int .i64 td,.int .i64 tr,.int .i64 am,.int .i64 rf] 96 _ HR0.o;refine jF ?_;intro sr0 sr1 sr2 sr3 sr4;obtain⟨Hsr,Sr0,Sr1,Sr2,Sr3,Sr4⟩:=hid6 hsr sr0 sr1 sr2 sr3 sr4;clear sr4 sr3 sr2 sr1 sr0 hsr
         go_wp2_with (first|(refine wpList_load_row rfl 96 (.tmp 8) rfl E rfl 96 #[.int .i64 4,.int .i64 td,.int .i64 tr,.int .i64 am,.int .i64 rf] _ _ HE0.o Tryz.underlying96 rfl Br ?_)|(refine wpList_store_row rfl 96 (.tmp 6) (.tmp 137) rfl R #[.int .i64 4,.int .i64 td,.int .i64 tr,.int .i64 am,.int .i64 rf] rfl rfl 96 #[.int .i64 0,.int .i64 0,.int .i64 0,.int .i64 0,.int .i64 0] HR0.o Br rfl (Dt _ _ _ _ _) ?_))
         refine jq ?_;intro R0' R1' R2' R3' R4'
         try rw [Exit.Bq]
         exact bodyPost_ret (v:= .tuple #[.agg #[.int .i64 4,.int .i64 td,.int .i64 tr,.int .i64 am,.int .i64 rf],.int .i64 0]) jv rfl ⟨by rw [Hev.o,Hee.o];simp [Htd.o,Hrf.o],by rw [HeD.o];exact Hpo.o⟩
        ·have hne:(z !=0)=true:=by simp [hz0]
         have hDD:dOpen a.D tr td am=a.D:=by unfold dOpen;rw [if_neg (by rw [Hz.o];exact hz0)]
         have hpo7:=Hst5.o.doneB (V:= #[.int .i64 0,.int .i64 0,.int .i64 0,.int .i64 0,.int .i64 0]) Hb.o Hb6.o Hk6.o Hf6.o Hk7.o;rw [hDD] at hpo7;have Hpo7:=Lib.hid hpo7;have Hiz:=Lib.hid hiz;have Hz0:=Lib.hid hz0;clear hpo7 hiz hz0 hDD;have hno:=Ac.Jz (Hiz.o) (Hz0.o);have hpo:=Hpo7.o;have hee:=Hiz.o;have hR0:=(Hst7.o).r;obtain⟨Hno,Hpo,Hee,HR0⟩:=hid4 hno hpo hee hR0;clear hR0 hee hpo hno;go_wp2_with fail;go_step3;go_wp2;refine j08 ?_;intro Hsr Sr0 Sr1 Sr2 Sr3 Sr4
         go_wp2_with (refine wpList_store_row rfl 96 (.tmp 6) (.tmp 138) rfl R #[.int .i64 0,.int .i64 0,.int .i64 0,.int .i64 0,.int .i64 0] rfl rfl 96 #[.int .i64 0,.int .i64 0,.int .i64 0,.int .i64 0,.int .i64 0] HR0.o Br rfl (Dt _ _ _ _ _) ?_)
         refine jq ?_;intro R0' R1' R2' R3' R4';rw [Exit.noGoto_ret];exact bodyPost_ret (v:= .tuple #[.agg #[.int .i64 0,.int .i64 0,.int .i64 0,.int .i64 0,.int .i64 0],.int .i64 z]) jv rfl ⟨by rw [Hno.o.1,Hee.o];rfl,by rw [Hno.o.2];exact Hpo.o⟩
  ·rw [decide_eq_false h3] at htr;obtain⟨Hst2,HAt2,Htr,H3,H2⟩:=hid5 hst2 hAt2 htr h3 h2;clear h2 h3 htr hAt2 hst2;go_wp2_with fail;rw [<-hW2];clear hW2;clear nce nec c0 c1 c2 c3 cl e0 e1 e2 e3 e4 el f0 f1 f2 f4;refine Htr.o.mono ?_;rintro e w' ⟨rfl,rfl⟩;have hno:=Ac.Jz ((Ac.ee_tr (a:=a) (c:=⟨ki,da,tr,am,re⟩) H2.o H3.o)) j7;refine j0s ?_;intro hpo;have hee:=(Ac.ee_tr (a:=a) (c:=⟨ki,da,tr,am,re⟩) H2.o H3.o);have hR0:=(Hst2.o).r;obtain⟨Hno,Hpo,Hee,HR0⟩:=hid4 hno hpo hee hR0;clear hR0 hee hpo hno;go_wp2_with fail;go_step3;go_wp2;refine j08 ?_;intro Hsr Sr0 Sr1 Sr2 Sr3 Sr4
   go_wp2_with (refine wpList_store_row rfl 96 (.tmp 6) (.tmp 138) rfl R #[.int .i64 0,.int .i64 0,.int .i64 0,.int .i64 0,.int .i64 0] rfl rfl 96 #[.int .i64 0,.int .i64 0,.int .i64 0,.int .i64 0,.int .i64 0] HR0.o Br rfl (Dt _ _ _ _ _) ?_)
   refine jq ?_;intro R0' R1' R2' R3' R4';rw [Exit.noGoto_ret];exact bodyPost_ret (v:= .tuple #[.agg #[.int .i64 0,.int .i64 0,.int .i64 0,.int .i64 0,.int .i64 0],.int .i64 7]) jv rfl ⟨by rw [Hno.o.1,Hee.o];rfl,by rw [Hno.o.2];exact Hpo.o⟩
def Ac.xev(a:Ac)(c:Cmd):Ev:=if c.kind=5\/c.kind=6 then a.dvt c else a.evt c
def Ac.xz(a:Ac)(c:Cmd):Int:=if c.kind=5\/c.kind=6 then a.de c else a.ee c
def Ac.xD(a:Ac)(c:Cmd):List Disp:=if c.kind=5\/c.kind=6 then dEnd a.D c.ref (c.kind==5) else a.eD c
def Ac.xe(a:Ac)(c:Cmd):Int:=if¬a.xz c=0 then a.xz c else if c.kind=6 then 0 else a.ce (a.xev c)
def Ac.xr(a:Ac)(c:Cmd):Int:=if a.xe c=0/\c.kind=4 then(a.xev c).ref else 0
def Ac.nx(a:Ac)(c:Cmd):Ac:=if c.kind=6 then { a with seq:=a.seq+1 } else a.count (a.xev c)
def Ac.chg(a:Ac)(c:Cmd):Ac:=if¬a.xe c=0 then a else { a.nx c with D:=a.xD c }
theorem Ac.chg_no{a:Ac}{c:Cmd}{z:Int}(h:a.xe c=z)(hz:z≠0):a.chg c=a/\a.xr c=0:=⟨by unfold Ac.chg;rw [h,if_pos hz],by unfold Ac.xr;rw [h,if_neg λe=>hz e.1]⟩
theorem Ac.chg_yes{a:Ac}{c:Cmd}(h:a.xe c=0):a.chg c={ a.nx c with D:=a.xD c }/\a.xr c=if c.kind=4 then(a.xev c).ref else 0:=⟨by unfold Ac.chg;rw [h,if_neg (by decide)],by unfold Ac.xr;rw [h];simp⟩
theorem AcAt.otherT{w:World}{B R:Nat}{x:AcV}{a:Ac}(h:AcAt w B x a){C:Array Value}{t:TypeId}{fz:Nat×Nat}(hR:w.heap[R]?=some (.cells C t fz))(ht:∀s∈ [136,60,90,120,2,215,96,201,132,160],t≠s):∀b,AcF B x b\/x.rd b->¬b=R:=by
 have key:∀{b:Nat} {D:Array Value} {s:TypeId} {fz:Nat×Nat},w.heap[b]?=some (.cells D s fz)->t≠s->¬b=R:=λhb ht e=>by
  subst e;rw [hR] at hb;injection hb with hb;injection hb with _ he _;exact ht he
 simp only [List.mem_cons,List.not_mem_nil,or_false,forall_eq_or_imp,forall_eq] at ht;obtain⟨t1,t2,t3,t4,t5,t6,t7,t8,t9,t10⟩:=ht;rintro b ((rfl|hb|hb)|hb|hb|hb|hb|rfl|hb|hb|(rfl|hb)|⟨y,hy,hb⟩|⟨y,hy,hb⟩) e
 ·exact key h.blk t1 e
 ·exact Ai h.iss hR t2 (e▸hb)
 ·exact Ai h.adj hR t3 (e▸hb)
 ·exact Ai h.trs hR t4 (e▸hb)
 ·exact Ai h.bal hR t5 (e▸hb)
 ·exact Ai h.rts hR t5 (e▸hb)
 ·exact Ai h.now hR t2 (e▸hb)
 ·exact key h.dl.blk t6 e
 ·exact Ai h.dl.trs hR t4 (e▸hb)
 ·exact Ai h.dl.row hR t7 (e▸hb)
 ·exact key h.bk.blk t8 e
 ·exact Ai h.bk.row hR t9 (e▸hb)
 ·exact Ai (h.nln y hy) hR t10 (e▸hb)
 ·exact Ai (h.iln y hy) hR t10 (e▸hb)
theorem AcAt.other{w:World}{B R:Nat}{x:AcV}{a:Ac}(h:AcAt w B x a){C:Array Value}(hR:w.heap[R]?=some (.cells C 62 (0,0))):∀b,AcF B x b\/x.rd b->¬b=R:=h.otherT hR (by decide)
theorem AcAt.book{w W:World}{B b:Nat}{x:AcV}{a:Ac}{v:Value}{D:List Disp}(h:AcAt w B x a)(hb:Cr w b v D)(hf:∀k,Foot b v k->¬AcF B x k)(hW:W=w.setCell ⟨B,10,none⟩ (.pointer (some ⟨b,0,none⟩))):AcAt W B { x with bb:=b,vb:=v } { a with D:=D }:=by
 have hk:Keeps (λi=>i=B) w W:=by rw [hW];exact(Keeps.refl _ _).setB _ _
 have hB:∀i,x.rd i->¬i=B:=λi hi e=>h.sep i hi (.inl e)
 refine⟨by rw [hW];exact heap_setCell_same _ _ 10 _ _ (.pointer (some ⟨b,0,none⟩)) h.blk,hk.row h.trs λi hi=>hB i (.inl hi),h.dl.keepS hk (hB _ (.inr (.inr (.inr (.inr (.inl rfl)))))) (λi hi=>hB i (.inr (.inr (.inr (.inr (.inr (.inl hi))))))) (λi hi=>hB i (.inr (.inr (.inr (.inr (.inr (.inr (.inl hi)))))))),
  hb.keeps hk (λk hk e=>hf k hk (.inl e)),hk.row h.bal λi hi=>hB i (.inr (.inl hi)),hk.row h.rts λi hi=>hB i (.inr (.inr (.inl hi))),hk.row h.now λi hi=>hB i (.inr (.inr (.inr (.inl hi)))),λy hy=>hk.row (h.nln y hy) λi hi=>hB i (.inr (.inr (.inr (.inr (.inr (.inr (.inr (.inr (.inl ⟨y,hy,hi⟩)))))))))
  ,h.ns,hk.row h.iss λi hi e=>h.si i hi (.inl e),λy hy=>hk.row (h.iln y hy) λi hi=>hB i (.inr (.inr (.inr (.inr (.inr (.inr (.inr (.inr (.inr ⟨y,hy,hi⟩))))))))),h.is,hk.row h.adj λi hi e=>h.sa i hi e,⟨h.ok.wk,h.ok.il,h.ok.ill,h.ok.aj,h.ok.s0⟩, ?_,h.si,h.sa⟩
 rintro i (hi|hi|hi|hi|hi|hi|hi|hi|hi|hi) hF
 ·exact h.sep i (.inl hi) hF
 ·exact h.sep i (.inr (.inl hi)) hF
 ·exact h.sep i (.inr (.inr (.inl hi))) hF
 ·exact h.sep i (.inr (.inr (.inr (.inl hi)))) hF
 ·exact h.sep i (.inr (.inr (.inr (.inr (.inl hi))))) hF
 ·exact h.sep i (.inr (.inr (.inr (.inr (.inr (.inl hi)))))) hF
 ·exact h.sep i (.inr (.inr (.inr (.inr (.inr (.inr (.inl hi))))))) hF
 ·exact hf i hi hF
 ·exact h.sep i (.inr (.inr (.inr (.inr (.inr (.inr (.inr (.inr (.inl hi))))))))) hF
 ·exact h.sep i (.inr (.inr (.inr (.inr (.inr (.inr (.inr (.inr (.inr hi))))))))) hF
theorem AcAt.seq1{w W:World}{B:Nat}{x:AcV}{a:Ac}(h:AcAt w B x a)(hW:W=w.setCell ⟨B,8,none⟩ (.int .i64 (a.seq+1))):AcAt W B x { a with seq:=a.seq+1 }:=by
 have hk:Keeps (λi=>i=B) w W:=by rw [hW];exact(Keeps.refl _ _).setB _ _
 have hB:∀i,x.rd i->¬i=B:=λi hi e=>h.sep i hi (.inl e)
 exact⟨by rw [hW];exact heap_setCell_same _ _ 8 _ _ (.int .i64 (a.seq+1)) h.blk,hk.row h.trs λi hi=>hB i (.inl hi),h.dl.keepS hk (hB _ (.inr (.inr (.inr (.inr (.inl rfl)))))) (λi hi=>hB i (.inr (.inr (.inr (.inr (.inr (.inl hi))))))) (λi hi=>hB i (.inr (.inr (.inr (.inr (.inr (.inr (.inl hi)))))))),
  h.bk.keeps hk (λk hk=>hB k (.inr (.inr (.inr (.inr (.inr (.inr (.inr (.inl hk))))))))),hk.row h.bal λi hi=>hB i (.inr (.inl hi)),hk.row h.rts λi hi=>hB i (.inr (.inr (.inl hi))),hk.row h.now λi hi=>hB i (.inr (.inr (.inr (.inl hi)))),λy hy=>hk.row (h.nln y hy) λi hi=>hB i (.inr (.inr (.inr (.inr (.inr (.inr (.inr (.inr (.inl ⟨y,hy,hi⟩)))))))))
  ,h.ns,hk.row h.iss λi hi e=>h.si i hi (.inl e),λy hy=>hk.row (h.iln y hy) λi hi=>hB i (.inr (.inr (.inr (.inr (.inr (.inr (.inr (.inr (.inr ⟨y,hy,hi⟩))))))))),h.is,hk.row h.adj λi hi e=>h.sa i hi e,⟨h.ok.wk,h.ok.il,h.ok.ill,by have h1:=h.ok.aj;show(a.adj.length:Int)<=301000*(a.seq+1);omega,by have:=h.ok.s0;show 0<=a.seq+1;omega⟩,h.sep,h.si,h.sa⟩
theorem Bv.fin{w W2 W3 W4:World}{B b R:Nat}{x:AcV}{a a':Ac}{v:Value}{D:List Disp}{C V:Array Value}(h:AcAt w B x a)(hk:K0 w W2)(hp:Bv W2 B x a' W3)(hb:Cr W2 b v D)(hft:∀k,Foot b v k->w.heap.size<=k)(hR:W2.heap[R]?=some (.cells C 62 (0,0)))(hRw:w.heap.size<=R)(hW:W4=W3.setCell ⟨B,10,none⟩ (.pointer (some ⟨b,0,none⟩))):
  W4.heap[R]?=some (.cells C 62 (0,0))/\Bv w B x { a' with D:=D } (W4.setRow R V):=by
 obtain⟨x',hA,hk3,hf3⟩:=hp;have hlt:∀k,AcF B x k->k<w.heap.size:=λk hk=>h.lt k (.inl hk);have hw:=hk.size
 have hf:∀k,Foot b v k->¬AcF B x' k:=λk hk e=>by
  have h1:=hft k hk;have h2:=hb.lt k hk;rcases hf3.1 k e with h3|h3
  ·have:=hlt k h3;omega
  ·omega
 have hR3:¬AcF B x R:=λe=>by have:=hlt R e;omega
 have hB3:Cr W3 b v D:=hb.keeps hk3 λk hk e=>by have:=hft k hk;have:=hlt k e;omega
 have hA4:=hA.book hB3 hf hW;have hk4:Keeps (λi=>i=B) W3 W4:=by rw [hW];exact(Keeps.refl _ _).setB _ _
 have hR4:=Ad (Ad hR hk3 hR3) hk4 (λe=>hR3 (.inl e));have hkr:=Cc W4 R V;refine⟨hR4,_,hA4.keeps hkr λk hk e=>hA4.other hR4 k hk e, ?_,λk hk=> ?_,λk hk=> ?_⟩
 ·refine(hk.mono (by simp)).trans ((hk3.mono λi _ e=> .inl e).trans ((hk4.mono λi _ e=> .inl (.inl (.inl e))).trans (hkr.mono λi _ e=> .inl (.inl (.inr ?_)))));have e':i=R:=e;omega
 ·rcases hf3.1 k hk with h3|h3
  ·exact .inl h3
  ·exact .inr j6
 ·have key:∀k,x'.rd k->x.rd k\/w.heap.size<=k:=λk hk=>(hf3.2 k hk).imp id λe=>by omega
  rcases hk with hk|hk|hk|hk|hk|hk|hk|hk|hk|hk
  ·exact key k (.inl hk)
  ·exact key k (.inr (.inl hk))
  ·exact key k (.inr (.inr (.inl hk)))
  ·exact key k (.inr (.inr (.inr (.inl hk))))
  ·exact key k (.inr (.inr (.inr (.inr (.inl hk)))))
  ·exact key k (.inr (.inr (.inr (.inr (.inr (.inl hk))))))
  ·exact key k (.inr (.inr (.inr (.inr (.inr (.inr (.inl hk)))))))
  ·exact .inr (hft k hk)
  ·exact key k (.inr (.inr (.inr (.inr (.inr (.inr (.inr (.inr (.inl hk)))))))))
  ·exact key k (.inr (.inr (.inr (.inr (.inr (.inr (.inr (.inr (.inr hk)))))))))
theorem Bv.ret{w W0 W:World}{B R:Nat}{x:AcV}{a a':Ac}{C V:Array Value}(h:AcAt w B x a)(hk:K0 w W0)(hp:Bv W0 B x a' W)(hR:W0.heap[R]?=some (.cells C 62 (0,0)))(hRw:w.heap.size<=R):
  W.heap[R]?=some (.cells C 62 (0,0))/\Bv w B x a' (W.setRow R V):=by
 obtain⟨x',hA,hk3,hf3⟩:=hp;have hw:=hk.size;have hR3:¬AcF B x R:=λe=>by have:=h.lt R (.inl e);omega
 have hR4:=Ad hR hk3 hR3;have hkr:=Cc W R V;refine⟨hR4,_,hA.keeps hkr λk hk e=>hA.other hR4 k hk e, ?_,λk hk=>(hf3.1 k hk).imp id λh=>by omega,λk hk=>(hf3.2 k hk).imp id λh=>by omega⟩;refine(hk.mono (by simp)).trans ((hk3.mono λi _ e=> .inl e).trans (hkr.mono λi _ e=> .inl (.inr ?_)));have e':i=R:=e;omega
theorem Bv.more{w W W':World}{B:Nat}{x:AcV}{a:Ac}(h:Bv w B x a W)(hk:K0 W W'):Bv w B x a W':=by
 obtain⟨x',hA,hk3,hf3⟩:=h;exact⟨x',hA.keep0 hk,hk3.trans (hk.mono (by simp)),hf3⟩
theorem Bv.box{w W2 W3:World}{B i:Nat}{x:AcV}{a a':Ac}{o:Obj}(h:AcAt w B x a)(hp:Bv W2 B x a' W3)(hb:W2.heap[i]?=some o)(hi:w.heap.size<=i):W3.heap[i]?=some o:=by
 obtain⟨x',hA,hk3,hf3⟩:=hp;exact Ad hb hk3 λe=>by have:=h.lt i (.inl e);omega
theorem Ac.xe_bad{a:Ac}{c:Cmd}{z:Int}(h:a.xz c=z)(hz:¬z=0):a.xe c=z:=by unfold Ac.xe;rw [h,if_pos hz]
theorem Ac.xe_won{a:Ac}{c:Cmd}(h:a.xz c=0)(hk:c.kind=6):a.xe c=0:=by unfold Ac.xe;rw [h,if_neg (by decide),if_pos hk]
theorem Ac.xe_cnt{a:Ac}{c:Cmd}(h:a.xz c=0)(hk:¬c.kind=6):a.xe c=a.ce (a.xev c):=by unfold Ac.xe;rw [h,if_neg (by decide),if_neg hk]
theorem Ac.count_no{a:Ac}{e:Ev}(h:¬a.ce e=0):a.count e=a:=by unfold Ac.count;rw [if_neg h]
theorem Ae5(B:Nat)(x:AcV)(a:Ac)(c:Cmd)(b:Nat)(v:Value)(w:World)(h:AcAt w B x a)(hb:Cr w b v a.D)(hsep:∀k,Foot b v k->¬(AcF B x k\/x.rd k))(hk:1<=c.kind/\c.kind<=7):
  ((c.kind=5\/c.kind=6)->Calls Tryz.prog 135 #[(.pointer (some ⟨B,0,none⟩)),.agg #[.int .i64 c.kind,.int .i64 c.day,.int .i64 c.tranche,.int .i64 c.amount,.int .i64 c.ref],(.pointer (some ⟨b,0,none⟩))] w (Wd w b v (a.xD c) (a.xev c) (a.xz c)))/\
  (¬(c.kind=5\/c.kind=6)->Calls Tryz.prog 134 #[(.pointer (some ⟨B,0,none⟩)),.agg #[.int .i64 c.kind,.int .i64 c.day,.int .i64 c.tranche,.int .i64 c.amount,.int .i64 c.ref],(.pointer (some ⟨b,0,none⟩))] w (Wd w b v (a.xD c) (a.xev c) (a.xz c))):=by
 unfold Ac.xD Ac.xev Ac.xz;refine⟨λh5=> ?_,λh5=> ?_⟩
 ·rw [if_pos h5,if_pos h5,if_pos h5];exact Aac B x a c b v w h hb hsep h5
 ·rw [if_neg h5,if_neg h5,if_neg h5];exact Aab B x a c b v w h hb hsep j6
def acT(B:Nat)(t:Tm)(vt:Value)(td:Int)(w:World):Prop:=tbS B t vt w/\w.cell? ⟨B,7,none⟩=some (.int .i64 td)
theorem acT.keep{B:Nat}{t:Tm}{vt:Value}{td:Int}{w w':World}(h:acT B t vt td w)(hk:K0 w w'):acT B t vt td w':=⟨h.1.keep hk,(hk.cell (Ag h.2) (by simp)).trans h.2⟩
theorem acT.of{w:World}{B:Nat}{x:AcV}{a:Ac}(h:AcAt w B x a):acT B a.t x.vt a.today w:=
 ⟨⟨Aa h.blk 0,Aa h.blk 1,Aa h.blk 2,Aa h.blk 3,Aa h.blk 4,Aa h.blk 5,Aa h.blk 6⟩,Aa h.blk 7⟩
def CnRun(W2:World)(n:Nat)(Z:St×Int)(p r q z:Value)(wx:World):Prop:=∃(b7:Nat) (vb vr vo:Value) (cr du zz:Int),p=(.pointer (some ⟨b7,0,none⟩))/\z= .int .i64 zz/\vr=r/\vo=q/\W2.heap.size<=b7/\K0 W2 wx/\wx.heap[b7]?=some (.cells #[vb,.int .i64 cr,.int .i64 du] 52 (0,0))/\RunIs W2 n Z wx vb cr du r q zz/\∃a m c,vb= .slice a m c
theorem Eg.up{w w2 W:World}{n:Nat}{s:St}{vb vr vo:Value}{P:List SV}(h:Eg w2 n s vb vr vo P W)(hk:K0 w w2):Eg w n s vb vr vo P W:=
 ⟨h.bal,h.rts,h.out,h.ln,h.lp,h.nb,h.nr,λb hb=>by have:=h.wb b hb;have:=hk.size;omega,λb hb=>by have:=h.wr b hb;have:=hk.size;omega,λb hb=>by have:=h.wo b hb;have:=hk.size;omega,λx hx b hb=>by have:=h.wl x hx b hb;have:=hk.size;omega,hk.nt h.kp⟩
theorem RunIs.up{w w2:World}{m:Nat}{Z:St×Int}{W:World}{vb vr vo:Value}{cr du z:Int}(h:RunIs w2 m Z W vb cr du vr vo z)(hk:K0 w w2):RunIs w m Z W vb cr du vr vo z:=by
 cases h with
 |ok e g=>exact .ok e (g.up hk)
 |bad e=>exact .bad e
theorem ce_add{a:Ac}{e:Ev}(h:¬Et a.t a.L e=0):a.ce e=Et a.t a.L e/\a.count e=a:=by
 have h1:a.ce e=Et a.t a.L e:=by unfold Ac.ce;rw [if_pos h]
 exact⟨h1,by unfold Ac.count;rw [h1,if_neg h]⟩
theorem ce_run{a:Ac}{e:Ev}(h:Et a.t a.L e=0)(h2:¬(a.cz e).2=0):a.ce e=(a.cz e).2/\a.count e=a:=by
 have h1:a.ce e=(a.cz e).2:=by unfold Ac.ce;rw [if_neg j6,if_pos h2]
 exact⟨h1,by unfold Ac.count;rw [h1,if_neg h2]⟩
def cbS(B:Nat)(sq:Int)(vn:Value)(w:World):Prop:=w.cell? ⟨B,8,none⟩=some (.int .i64 sq)/\w.cell? ⟨B,15,none⟩=some vn
theorem cbS.keep{B:Nat}{sq:Int}{vn:Value}{w w':World}(h:cbS B sq vn w)(hk:K0 w w'):cbS B sq vn w':=⟨(hk.cell (Ag h.1) (by simp)).trans h.1,(hk.cell (Ag h.2) (by simp)).trans h.2⟩
theorem ce_bad{a:Ac}{e:Ev}(h:Et a.t a.L e=0)(h2:(a.cz e).2=0)(h3:¬(a.cb e).1=0):a.ce e=(a.cb e).1/\a.count e=a:=by
 have h1:a.ce e=(a.cb e).1:=by unfold Ac.ce;rw [if_neg j6,if_neg j6]
 exact⟨h1,by unfold Ac.count;rw [h1,if_neg h3]⟩
theorem ce_good{a:Ac}{e:Ev}(h:Et a.t a.L e=0)(h2:(a.cz e).2=0)(h3:(a.cb e).1=0):a.ce e=0/\a.count e={ a with L:=putL a.L e,s:=(a.cz e).1,adj:=a.adj++(a.cb e).2,seq:=a.seq+1 }:=by
 have h1:a.ce e=0:=by unfold Ac.ce;rw [if_neg j6,if_neg j6,h3]
 exact⟨h1,by unfold Ac.count;rw [h1,if_pos rfl]⟩
def b7S(b7:Nat)(vb:Value)(cr du:Int)(w:World):Prop:=w.cell? ⟨b7,0,none⟩=some vb/\w.cell? ⟨b7,1,none⟩=some (.int .i64 cr)/\w.cell? ⟨b7,2,none⟩=some (.int .i64 du)
theorem b7S.keep{b7:Nat}{vb:Value}{cr du:Int}{w w':World}{S:Nat->Prop}(h:b7S b7 vb cr du w)(hk:Keeps S w w')(hS:¬S b7):b7S b7 vb cr du w':=⟨(hk.cell (Ag h.1) hS).trans h.1,(hk.cell (Ag h.2.1) hS).trans h.2.1,(hk.cell (Ag h.2.2) hS).trans h.2.2⟩
theorem AcAt.counted{w wc Wf W2:World}{B B1 n M:Nat}{x:AcV}{a:Ac}{L1:List Ev}{Z:St×Int}{r2:List Adj}{v2 vp vr vn va:Value}{P:List SV}(h:AcAt w B x a)(hkc:K0 w wc)(hk2:K0 w W2)(hk2c:K0 W2 wc)
  (hK:Keeps (λi=>i=B\/x.va.ownBlock=some i) wc Wf) (hdl:DL W2 B1 a.t x.vtl L1 v2) (hB1:w.heap.size<=B1) (hv2:∀b,v2.ownBlock=some b->w.heap.size<=b) (hN:a.t.trs.length=n) (hZ:walkR a.t L1 a.today=Z) (hz:Z.2=0) (g:Eg W2 n Z.1 vp vr vn P wc)
  (hbet:betS (a.seq+1) a.s.out Z.1.out=(0,r2)) (hb:Wf.heap[B]?=some (.cells #[.int .i64 a.t.limit,x.vt,.int .i64 a.t.cyc,.int .i64 a.t.due,.int .i64 a.t.minFixed,.int .i64 a.t.minPart,.int .i64 a.t.start,.int .i64 a.today,.int .i64 (a.seq+1),(.pointer (some ⟨B1,0,none⟩)),(.pointer (some ⟨x.bb,0,none⟩)),vp,.int .i64 Z.1.p.cr,.int .i64 Z.1.p.du,vr,vn,x.vi,va] 136 (0,0)))
  (hra:Wf.ownsRow 0 90 9 va (a.adj++r2).length ((a.adj++r2).flatMap Adj.cells)) (hM1:wc.heap.size<=M) (hva:∀b,va.ownBlock=some b->x.va.ownBlock=some b\/M<=b):
  Bv w B x { a with L:=L1,s:=Z.1,adj:=a.adj++r2,seq:=a.seq+1 } Wf:=by
 have hA:=h.keep0 hkc;have hBl:=lt_of_block h.blk;have hval:∀b,x.va.ownBlock=some b->b<w.heap.size:=λb hb=>rowLt h.adj hb;have hsz:=hk2.size;have hszc:=hkc.size;have hsz2c:=hk2c.size;have hZ1:Z=(Z.1,0):=by rw [<-hz]
 have hnum:=h.ok.nums
 have hr2:r2.length<=300300:=by
  have:=betS_le (seq:=a.seq+1) (L:=a.s.out) (M:=Z.1.out) λy hy=>by have:=hnum.ol y hy;have:=hnum.n8;omega
  rw [hbet] at this;have:=hnum.o3;simp only at *;omega
 have hok:AcOk { a with L:=L1,s:=Z.1,adj:=a.adj++r2,seq:=a.seq+1 }:=by
  refine⟨by show walkR a.t L1 a.today=(Z.1,0);rw [hZ];exact hZ1, ?_,h.ok.ill, ?_,by have:=h.ok.s0;show 0<=a.seq+1;omega⟩
  ·have:=betS_len (seq:=a.seq+1) (L:=a.s.out) (M:=Z.1.out) (by rw [hbet]);show a.iss.length=Z.1.out.length;rw [h.ok.il,this]
  ·have:=h.ok.aj;show((a.adj++r2).length:Int)<=301000*(a.seq+1);rw [List.length_append];omega
 have nwo:∀b,w.heap.size<=b->¬(b=B\/x.va.ownBlock=some b):=λb hb e=>by
  rcases e with e|e
  ·omega
  ·have:=hval b e;omega
 have nw:∀b,W2.heap.size<=b->¬(b=B\/x.va.ownBlock=some b):=λb hb=>nwo b j6;have hdc:=hdl.keep hk2c;have hold:∀b,x.rd b->¬(b=B\/x.va.ownBlock=some b):=λb hb e=>h.sep b hb (e.imp id .inr)
 have hrd:∀b,AcV.rd ({ x with vl:=v2,bl:=B1,vp:=vp,vr:=vr,vn:=vn,va:=va,P:=P }:AcV) b->x.rd b\/(w.heap.size<=b/\b<M):=by
  rintro b (hb|hb|hb|hb|hb|hb|hb|hb|⟨y,hy,hb⟩|⟨y,hy,hb⟩)
  ·exact .inl (.inl hb)
  ·have:=g.wb b hb;have:=rowLt g.bal hb;exact .inr ⟨by omega,by omega⟩
  ·have:=g.wr b hb;have:=rowLt g.rts hb;exact .inr ⟨by omega,by omega⟩
  ·have:=g.wo b hb;have:=rowLt g.out hb;exact .inr ⟨by omega,by omega⟩
  ·have hb':b=B1:=hb;subst hb';have:=lt_of_block hdc.blk;exact .inr ⟨by omega,by omega⟩
  ·exact j1Z
  ·have:=hv2 b hb;have:=rowLt hdc.row hb;exact .inr ⟨by omega,by omega⟩
  ·exact .inl (.inr (.inr (.inr (.inr (.inr (.inr (.inr (.inl hb))))))))
  ·have:=g.wl y hy b hb;have:=rowLt (g.ln y hy) hb;exact .inr ⟨by omega,by omega⟩
  ·exact .inl (.inr (.inr (.inr (.inr (.inr (.inr (.inr (.inr (.inr ⟨y,hy,hb⟩)))))))))
 have haf:∀b,AcF B ({ x with vl:=v2,bl:=B1,vp:=vp,vr:=vr,vn:=vn,va:=va,P:=P }:AcV) b->AcF B x b\/M<=b:=by
  rintro b (hb|hb|hb)
  ·exact .inl (.inl hb)
  ·exact .inl (.inr (.inl hb))
  ·exact(hva b hb).imp (λe=> .inr (.inr e)) id
 obtain⟨h1,h2⟩:=AcAt.build (x':={ x with vl:=v2,bl:=B1,vp:=vp,vr:=vr,vn:=vn,va:=va,P:=P }) (a':={ a with L:=L1,s:=Z.1,adj:=a.adj++r2,seq:=a.seq+1 }) h M j6 ((hkc.mono (by simp)).trans (hK.mono λi _ e=> .inl (e.imp id .inr))) rfl rfl hb
  (hdc.keepS hK (nwo B1 hB1) (λb hb=>hold b (.inr (.inr (.inr (.inr (.inr (.inl hb))))))) (λb hb=>nwo b (hv2 b hb)))
  (hA.bk.keeps hK λb hb=>hold b (.inr (.inr (.inr (.inr (.inr (.inr (.inr (.inl hb)))))))))
  j4s j4t (hK.row g.out λb hb=>nw b (g.wo b hb)) (λy hy=>hK.row (g.ln y hy) λb hb=>nw b (g.wl y hy b hb)) g.lp
  (hK.row hA.iss λb hb=>h.si b hb) (λy hy=>hK.row (hA.iln y hy) λb hb=>hold b (.inr (.inr (.inr (.inr (.inr (.inr (.inr (.inr (.inr ⟨y,hy,hb⟩)))))))))) hA.is hra hok hrd haf
 exact⟨_,h1,(hkc.mono (by simp)).trans (hK.mono λi _ e=> .inl (e.imp id .inr)),h2⟩
theorem Aad(B:Nat)(x:AcV)(a:Ac)(e:Ev)(w:World)(h:AcAt w B x a)(hs:a.seq<=100000):Calls Tryz.prog 136 #[(.pointer (some ⟨B,0,none⟩)),.agg #[.int .i64 e.kind,.int .i64 e.day,.int .i64 e.tranche,.int .i64 e.amount,.int .i64 e.ref]] w λr w'=>r= .returned (.int .i64 (a.ce e))/\Bv w B x (a.count e) w':=by
 obtain⟨i0,hi,hi0,hi1,hi2⟩:=info_parts Gu;have hn:=h.ok.nums;have hfk:=λW (hW:K0 w W)=>Sa x.bl a.t x.vtl x.vl a.L W (h.dl.keep hW) (by have:=hn.ll;omega);obtain⟨W0,hW0⟩:=eY (w.alloc (.cells #[.int .i64 e.kind,.int .i64 e.day,.int .i64 e.tranche,.int .i64 e.amount,.int .i64 e.ref] 96));have hb0:W0.heap[w.heap.size]?=some (.cells #[.int .i64 e.kind,.int .i64 e.day,.int .i64 e.tranche,.int .i64 e.amount,.int .i64 e.ref] 96 (0,0)):=by rw [hW0];exact heap_alloc_new w _
 have hk0:K0 w W0:=by rw [hW0];exact Keeps.alloc _ _
 have c9:w.cell? ⟨B,9,none⟩=some (.pointer (some ⟨x.bl,0,none⟩)):=Aa h.blk 9;have HBl:=Lib.hid (lt_of_block h.blk);have hbl:=lt_of_block h.blk;obtain⟨H,Hn,Hfk,Hb0,Hk0,Hi,Hi0,Hi1,Hi2⟩:=hid9 h hn hfk hb0 hk0 hi hi0 hi1 hi2;clear hi2 hi1 hi0 hi hk0 hb0 hfk hn h;go_enter Tryz.func136,Tryz.ntmps136;go_wp2_with fail;rw [<-hW0];clear hW0;refine(Hfk.o _ Hk0.o).mono ?_;intro r w1 hf1;obtain⟨B1,v1,rfl,hdl1,hk1,hB1,hv1⟩:=hf1;have hb1:=Ad Hb0.o hk1 (by simp);have hkw1:=Hk0.o.nt hk1;have hsz0:=Hk0.o.size;have e0:=Aa hb1 0;have e1:=Aa hb1 1;have e2:=Aa hb1 2;have e3:=Aa hb1 3;have e4:=Aa hb1 4;have el:=lt_of_block hb1;have had:=Adt B1 a.t x.vtl v1 a.L e w1 hdl1 (by have:=Hn.o.ll;omega) (by have:=Hn.o.n8;omega);simp only [Ev.agg] at had;obtain⟨Hdl1,Hk1,Hb1,Hkw1,Had,HB1,Hv1⟩:=hid7 hdl1 hk1 hb1 hkw1 had hB1 hv1;clear hv1 hB1 had hkw1 hb1 hk1 hdl1;clear c9;go_wp2_with fail;refine Had.o.mono ?_;intro r w2 hpo;obtain⟨rfl,v2,hdl2,hk2,hf2⟩:=hpo;obtain⟨z,hz⟩:=eX (Et a.t a.L e);rw [hz]
 have hkw2:K0 w w2:=Hkw1.o.trans (hk2.mono λi _ e=> .inr (by
  rcases e with e|e
  ·have e':i=B1:=e;have:=HB1.o;omega
  ·have:=Hv1.o i e;omega))
 clear e0 e1 e2 e3 e4 el;by_cases h0:z=0
 ·subst h0;have hdl2':DL w2 B1 a.t x.vtl (putL a.L e) v2:=by unfold addL at hdl2;rw [if_pos hz] at hdl2;exact hdl2
  obtain⟨L1,hL1⟩:=eX (putL a.L e);rw [hL1] at hdl2';have hL1l:L1.length<=3000:=by rw [<-hL1,Lu];have:=Hn.o.ll;omega
  obtain⟨n,hN⟩:=eX a.t.trs.length;obtain⟨Z,hZ⟩:=eX (walkR a.t L1 a.today);obtain⟨adt,ct,hvt,_,_⟩:=Ae H.o.trs;have hrt:=Reads.Bb H.o.trs;rw [hN] at hvt hrt;obtain⟨t,ht⟩:=eX a.t;obtain⟨td,htd⟩:=eX a.today;rw [ht,htd] at hZ;rw [ht] at hdl2' hN hrt;rw [hvt] at hrt;have hall:=λW (hW:K0 w2 W)=>Vg B1 t x.vtl v2 L1 W (hdl2'.keep hW) j6;have hrun:=λW (hW:K0 w2 W) ad c (hr:Reads W 5 (.slice ad L1.length c) L1.length (L1.flatMap Ev.cells))=>Pf t adt ct n L1 ad c L1.length td W hN (hrt.keeps (hkw2.nt hW) (by simp)) rfl hr j6 (by have:=Hn.o.n8;rw [ht,hN] at this;omega);rw [hZ] at hrun;have hSk:∀W,K0 w2 W->acT B t (.slice adt n ct) td W:=λW hW=>by have:=acT.of (H.o.keep0 (hkw2.nt hW));rw [ht,htd,hvt] at this;exact this
  obtain⟨W2,hW2⟩:=eY w2;subst hW2;have HBl2:=Lib.hid (Nat.lt_of_lt_of_le HBl.o hkw2.size);clear HBl;have HBl:=HBl2;clear HBl2;obtain⟨Hz,Hdl2,Hk2,Hf2,Hkw2,Hdl2',HL1,HL1l,HN⟩:=hid9 hz hdl2 hk2 hf2 hkw2 hdl2' hL1 hL1l hN;clear hN hL1l hL1 hdl2' hkw2 hf2 hk2 hdl2 hz;obtain⟨HZ,Hvt,Hrt,Ht,Htd,Hall,Hrun,HSk⟩:=hid8 hZ hvt hrt ht htd hall hrun hSk;clear hSk hrun hall htd ht hrt hvt hZ
  go_upto_region 5 with fail
  go_cut [7,8,9,10] (λp r q z wx=>CnRun W2 n Z p r q z wx)
  case first=>
   refine Ak (acT B t (.slice adt n ct) td) (.take 0 (.take 1 (.take 2 (.take 3 (.take 4 (.take 6 (.take 7 (.take 8 (.take 9 (.fork 5 (.fork 10 (.take 11 (.take 12 (.take 13 (.take 14 (.take 15 (.move 16 (.move 17 (.take 18 (.take 19 (.take 20 .done)))))))))) 16 (.move 10 (.take 11 (.take 12 (.take 13 (.take 14 (.take 15 (.move 17 (.take 18 (.take 19 (.take 20 .done))))))))))) 16 (.move 5 (.move 10 (.take 11 (.take 12 (.take 13 (.take 14 (.take 15 (.move 17 (.take 18 (.take 19 (.take 20 .done))))))))))))))))))))) j9 j9 ?_ ?_
   ·exact HSk.o _ (Keeps.drew _)
   intro w3 hs3 hk3;refine jw ?_;refine Dk ?_ ?_ (HSk.o _ hk3)
   ·skip
    refine ja ?_;intro K hK
    go_at_call 96
    ((with_reducible refine(Hall.o w3 hk3).mono ?_);rintro e w4 hg)
    obtain⟨v',rfl,hrd,hkg,hng⟩:=hg;obtain⟨ae,ce,rfl,_⟩:=id hrd;dsimp only;have hkn:K0 W2 w4:=Keeps.nt hk3 hkg;refine hK.out _ _ j0V ?_;clear hK K;refine jc ?_;refine jw ?_;refine Dk ?_ ?_ (HSk.o _ hkn)
    ·skip
     refine ja ?_;intro K hK
     go_at_call 108
     ((with_reducible refine(Hrun.o w4 hkn ae ce hrd).mono ?_);intro e w5 hpo)
     obtain⟨vb2,cr2,du2,vr2,vo2,z2,rfl,hi2,hk7,a2,n2,c2,rfl⟩:=Qs hpo;clear hpo;refine j0W ?_;intro hkr;clear hK K;refine jc ?_;refine jw ?_;obtain⟨w8,hw8⟩:=eY ((w5).alloc (.cells #[.slice none 0 0,.int .i64 0,.int .i64 0] 52));obtain⟨b7,hb7⟩:=eY ((w5).heap.size);have hkA:K0 w5 w8:=by rw [hw8];exact Keeps.alloc _ _
     have hz8:(w8).heap[b7]?=some (.cells #[.slice none 0 0,.int .i64 0,.int .i64 0] 52 (0,0)):=by rw [hw8,hb7];exact heap_alloc_new _ _
     have hb7l:W2.heap.size<=b7:=by rw [hb7];exact(hkr).size
     have hka8:K0 W2 w8:=Keeps.nt hkr hkA;have hb7B:¬B=b7:=λe=>by have:=HBl.o;omega
     have hb7w:(w5).heap.size<=b7:=by rw [hb7];exact Nat.le_refl _
     refine ja ?_;intro K hK;rw [<-hw8,<-hb7];clear hw8 hb7;refine j09 ?_;clear hK K;refine jc ?_;refine jw ?_;refine j4u ?_;intro hlz z0 z1 z2' zf0 zf1 zf2 hbz hkz hk4z hrel;exact j20
    ·skip
     obtain⟨w8,hw8⟩:=eY ((w4).alloc (.cells #[.slice none 0 0,.int .i64 0,.int .i64 0] 52));obtain⟨b7,hb7⟩:=eY ((w4).heap.size);have hkA:K0 w4 w8:=by rw [hw8];exact Keeps.alloc _ _
     have hz8:(w8).heap[b7]?=some (.cells #[.slice none 0 0,.int .i64 0,.int .i64 0] 52 (0,0)):=by rw [hw8,hb7];exact heap_alloc_new _ _
     have hb7l:W2.heap.size<=b7:=by rw [hb7];exact(hkn).size
     have hka8:K0 W2 w8:=Keeps.nt hkn hkA;have hb7B:¬B=b7:=λe=>by have:=HBl.o;omega
     have hb7w:(w4).heap.size<=b7:=by rw [hb7];exact Nat.le_refl _
     refine ja ?_;intro K hK;rw [<-hw8,<-hb7];clear hw8 hb7;refine j09 ?_;clear hK K;refine jc ?_;refine jw ?_;have hrd8:=hrd.keeps hkA (by simp);refine ja ?_;intro K hK
     go_at_call 108
     ((with_reducible refine(Hrun.o w8 hka8 ae ce hrd8).mono ?_);intro e w5 hpo)
     obtain⟨vb2,cr2,du2,vr2,vo2,z2,rfl,hi2,hk7,a2,n2,c2,rfl⟩:=Qs hpo;clear hpo;dsimp only;have hkr:K0 W2 w5:=Keeps.nt hka8 hk7;refine hK.out _ _ (by exact HSk.o _ hkr) ?_;clear hK K;refine jc ?_;have hz5:=Ad hz8 hk7 (by simp);have hl8:=lt_of_block hz8;refine jw ?_;refine j0X ?_;intro hlz z0 z1 z2' zf0 zf1 zf2 hbz hkz hk4z;refine j4v ?_;intro hrel;exact j20
   ·skip
    obtain⟨w8,hw8⟩:=eY ((w3).alloc (.cells #[.slice none 0 0,.int .i64 0,.int .i64 0] 52));obtain⟨b7,hb7⟩:=eY ((w3).heap.size);have hkA:K0 w3 w8:=by rw [hw8];exact Keeps.alloc _ _
    have hz8:(w8).heap[b7]?=some (.cells #[.slice none 0 0,.int .i64 0,.int .i64 0] 52 (0,0)):=by rw [hw8,hb7];exact heap_alloc_new _ _
    have hb7l:W2.heap.size<=b7:=by rw [hb7];exact(hk3).size
    have hka8:K0 W2 w8:=Keeps.nt hk3 hkA;have hb7B:¬B=b7:=λe=>by have:=HBl.o;omega
    have hb7w:(w3).heap.size<=b7:=by rw [hb7];exact Nat.le_refl _
    refine ja ?_;intro K hK;rw [<-hw8,<-hb7];clear hw8 hb7;refine j09 ?_;clear hK K;refine jc ?_;refine jw ?_;refine ja ?_;intro K hK
    go_at_call 96
    ((with_reducible refine(Hall.o w8 hka8).mono ?_);rintro e w4 hg)
    obtain⟨v',rfl,hrd,hkg,hng⟩:=hg;obtain⟨ae,ce,rfl,_⟩:=id hrd;dsimp only;have hkn:K0 W2 w4:=Keeps.nt hka8 hkg;refine hK.out _ _ j0V ?_;clear hK K;refine jc ?_;have hz4:=Ad hz8 hkg (by simp);have hl4:=lt_of_block hz4;refine jw ?_;refine ja ?_;intro K hK
    go_at_call 108
    ((with_reducible refine(Hrun.o w4 hkn ae ce hrd).mono ?_);intro e w5 hpo)
    obtain⟨vb2,cr2,du2,vr2,vo2,z2,rfl,hi2,hk7,a2,n2,c2,rfl⟩:=Qs hpo;clear hpo;refine j0W ?_;intro hkr;clear hK K;refine jc ?_;have hz5:=Ad hz4 hk7 (by simp);refine jw ?_;refine j0X ?_;intro hlz z0 z1 z2' zf0 zf1 zf2 hbz hkz hk4z;refine j4w ?_;intro hrel;exact j20
  obtain⟨b7,vb,vr,vo,cr,du,zz,rfl,rfl,rfl,rfl,hb7,hk7,hbx7,hi7,av,mv,cv,rfl⟩:=hcut;have hcz:a.cz e=Z:=by unfold Ac.cz;rw [HL1.o,Ht.o,Htd.o];exact HZ.o
  have hkw7:=Hkw2.o.nt hk7;have hk7':=hk7
  cases hi7 with
  |bad hz7=>
   obtain⟨zz,hzz⟩:=eX Z.2;rw [hzz] at hz7⊢;have hne:(zz !=0)=true:=by simp [hz7]
   have hc:=ce_run Hz.o (by rw [hcz,hzz];exact hz7);rw [hcz,hzz] at hc;have hend:=Bv.same H.o hkw7;obtain⟨Hzz,Hz7,Hc,Hend,Hkw7,Hcz,Hk7,Hk7',Hbx7⟩:=hid9 hzz hz7 hc hend hkw7 hcz hk7 hk7' hbx7;clear hbx7 hk7' hk7 hcz hkw7 hend hc hz7 hzz;go_wp2;go_ret;exact⟨by rw [Hc.o.1];rfl,by rw [Hc.o.2];exact Hend.o⟩
  | @ok _ _ _ P hz7 g=>
   have hA:=H.o.keep0 hkw7;obtain⟨adn,cn,hvn,hstm,hPl⟩:=hA.stmN;obtain⟨ao,co,rfl,_,_⟩:=Ae g.out;obtain⟨ar,cr2,rfl,_,_⟩:=Ae g.rts;obtain⟨o1,o2,_,_⟩:=Mq HZ.o hz7;have hPP:P.length<=300:=by rw [show P.length=Z.1.out.length from by rw [<-g.lp,List.length_map]];exact o2
   have hll:∀y∈P,y.s.lines.length<=1000:=λy hy=>by
    exact j4x
   obtain⟨sq,hsq⟩:=eX a.seq;have hs0:=H.o.ok.s0;rw [hsq] at hs hs0;obtain⟨rr,hrr⟩:=eX (betS (sq+1) a.s.out Z.1.out);have hcb:a.cb e=rr:=by unfold Ac.cb;rw [hcz,hsq];exact hrr
   have hbet:=λW (hW:K0 wc W)=>Vp (sq+1) adn ao cn co x.P P W (hstm.row.keeps hW (by simp)) ((Reads.Bb g.out).keeps hW (by simp)) j6 j6 (λy hy=>⟨(hstm.ln y hy).keeps hW (by simp),hstm.ll y hy⟩) (λy hy=>⟨(Reads.Bb (g.ln y hy)).keeps hW (by simp),hll y hy⟩) rr (by have:=betw_S (sq+1) x.P P;rw [hA.ns,g.lp,hrr] at this;exact this)
   have hcS:∀W,K0 wc W->cbS B sq (.slice adn x.P.length cn) W:=λW hW=>by
    have hA2:=hA.keep0 hW;exact⟨by rw [<-hsq];exact Aa hA2.blk 8,by rw [<-hvn];exact Aa hA2.blk 15⟩
   have q4:IntKind.i64.wrap (sq+1)=sq+1:=IntWalk.i64_in _ ⟨by omega,by omega⟩;obtain⟨r1,r2⟩:=rr;have q5:(0:Int)<=sq+1:=j8;obtain⟨Hz7,Hcz,Hkw7,Hk7,Hk7',Hbx7,G,HA,Hvn⟩:=hid9 hz7 hcz hkw7 hk7 hk7' hbx7 g hA hvn;clear hvn hA g hbx7 hk7' hk7 hkw7 hcz hz7;obtain⟨Hstm,Hll,Hrr,Hcb,Hbet,HcS,Hsq,O1⟩:=hid8 hstm hll hrr hcb hbet hcS hsq o1;clear o1 hsq hcS hbet hcb hrr hll hstm
   go_upto_region 8 with fail
   refine Ak (cbS B sq (.slice adn x.P.length cn)) (.take 0 (.take 1 (.take 2 (.take 3 (.take 4 (.take 5 (.take 6 (.take 7 (.take 8 (.take 9 (.move 10 (.take 11 (.take 12 (.take 13 (.take 14 (.take 15 .done)))))))))))))))) j9 j9 ?_ ?_
   ·exact HcS.o _ (Keeps.drew _)
   intro w9 hs9 hk9;refine jR ?_;refine Ah rfl (λK hK=> ?_);go_simp
   go_at_call 175
   ((with_reducible refine(Hbet.o w9 hk9).mono ?_);rintro e w10 hg)
   obtain⟨va,rfl,hrowa,hfra⟩:=hg;dsimp only;have hk10:=Keeps.nt hk9 hfra.1;refine hK.out _ _ (by exact HcS.o _ hk10) ?_;clear hK K
   try simp only [aps]
   refine jR ?_;refine Ao ?_;have hfa:∀b,va.ownBlock=some b->wc.heap.size<=b:=λb hb=>by have:=hfra.2 b hb;have:=hk9.size;omega
   obtain⟨aa,ca,rfl,_,_⟩:=Ae hrowa;clear hs9 hk9 hfra q4 q5;simp only at hrowa hfa⊢;by_cases h1:r1=0
   ·subst h1;obtain⟨Hrowa,Hk10,Hfa⟩:=hid3 hrowa hk10 hfa;clear hfa hk10 hrowa
    go_upto_region 11 with fail
    have hA10:=HA.o.keep0 Hk10.o;have hb10:=hA10.blk;have hbx10:=Ad Hbx7.o Hk10.o (by simp);have hb7B:¬b7=B:=λe=>by have:=HBl.o;omega
    have hS10:b7S b7 (.slice av mv cv) Z.1.p.cr Z.1.p.du w10:=⟨Aa hbx10 0,Aa hbx10 1,Aa hbx10 2⟩;have hS0:=λW (hW:Keeps (λi=>i=B) w10 W)=>hS10.keep hW hb7B;obtain⟨HA10,Hbx10,HS10,HS0⟩:=hid4 hA10 hbx10 hS10 hS0;clear hS0 hS10 hbx10 hA10;refine Ak (b7S b7 (.slice av mv cv) Z.1.p.cr Z.1.p.du) (.take 0 (.take 1 (.take 2 (.take 3 (.take 4 (.take 5 (.take 6 (.take 7 (.take 8 (.take 9 (.move 10 (.take 11 (.take 12 (.move 13 (.take 14 (.take 15 (.move 16 (.take 17 (.take 18 (.move 19 .done)))))))))))))))))))) j9 j9 ?_ ?_
    ·exact HS0.o _ (Keeps.drew _)
    intro w11 hs11 hk11;have hb11:=Ad hb10 hk11 (by simp);have k11:Keeps (λi=>i=B) w10 w11:=hk11.mono (by simp);clear hs11 hk11 hb10;refine jR ?_;obtain⟨oa,ca⟩:∃v,World.cell? w11 ⟨B,9,none⟩=some v:=⟨_,(Aa hb11 9).trans rfl⟩;have fa:=Ab hb11 9;have la:=lt_of_block hb11;have hb12:=heap_setCell_same _ _ 9 _ _ (.pointer (some ⟨B1,0,none⟩)) hb11;obtain⟨w12,hwb⟩:=eY ((w11).setCell ⟨B,9,none⟩ (.pointer (some ⟨B1,0,none⟩)));have hkb:Keeps (λi=>i=B) w11 w12:=by rw [hwb];exact(Keeps.refl _ _).setB _ _
    refine ja ?_;intro K hK;rw [<-hwb] at⊢hb12;clear hwb ca fa la;have k12:=k11.trans (hkb.mono λ_ _ e=> .inl e);clear hkb;refine hK.out _ _ (by exact HS0.o _ k12) ?_;clear hK K;refine jh ?_;obtain⟨oca,ca⟩:∃v,World.cell? w12 ⟨B,11,none⟩=some v:=⟨_,(Aa hb12 11).trans rfl⟩;obtain⟨ocb,cb⟩:∃v,World.cell? w12 ⟨B,12,none⟩=some v:=⟨_,(Aa hb12 12).trans rfl⟩;obtain⟨occ,cc⟩:∃v,World.cell? w12 ⟨B,13,none⟩=some v:=⟨_,(Aa hb12 13).trans rfl⟩;have fa:=Ab hb12 11;have fb:=Ab hb12 12;have fc:=Ab hb12 13;have la:=lt_of_block hb12;have hbb0:=heap_setCell_same _ _ 11 _ _ (.slice av mv cv) hb12;have hbb1:=heap_setCell_same _ _ 12 _ _ (.int .i64 Z.1.p.cr) hbb0;have hb13:=heap_setCell_same _ _ 13 _ _ (.int .i64 Z.1.p.du) hbb1;clear hbb0 hbb1;obtain⟨w13,hwb⟩:=eY ((((w12).setCell ⟨B,11,none⟩ (.slice av mv cv)).setCell ⟨B,12,none⟩ (.int .i64 Z.1.p.cr)).setCell ⟨B,13,none⟩ (.int .i64 Z.1.p.du));have hkb:Keeps (λi=>i=B) w12 w13:=by rw [hwb];exact(((Keeps.refl _ _).setB _ _).setB _ _).setB _ _
    refine ja ?_;intro K hK;rw [<-hwb] at⊢hb13;clear hwb ca fa la cb cc fb fc;have k13:=k12.trans (hkb.mono λ_ _ e=> .inl e);clear hkb hb12 k12;refine hK.out _ _ (by exact HS0.o _ k13) ?_;clear hK K;refine jh ?_;obtain⟨oa,ca⟩:∃v,World.cell? w13 ⟨B,14,none⟩=some v:=⟨_,(Aa hb13 14).trans rfl⟩;have fa:=Ab hb13 14;have la:=lt_of_block hb13;have hb14:=heap_setCell_same _ _ 14 _ _ (.slice ar n cr2) hb13;obtain⟨w14,hwb⟩:=eY ((w13).setCell ⟨B,14,none⟩ (.slice ar n cr2));have hkb:Keeps (λi=>i=B) w13 w14:=by rw [hwb];exact(Keeps.refl _ _).setB _ _
    refine ja ?_;intro K hK;rw [<-hwb] at⊢hb14;clear hwb ca fa la;have k14:=k13.trans (hkb.mono λ_ _ e=> .inl e);clear hkb hb13 k13;refine hK.out _ _ (by exact HS0.o _ k14) ?_;clear hK K;refine jh ?_;obtain⟨oa,ca⟩:∃v,World.cell? w14 ⟨B,15,none⟩=some v:=⟨_,(Aa hb14 15).trans rfl⟩;have fa:=Ab hb14 15;have la:=lt_of_block hb14;have hb15:=heap_setCell_same _ _ 15 _ _ (.slice ao P.length co) hb14;obtain⟨w15,hwb⟩:=eY ((w14).setCell ⟨B,15,none⟩ (.slice ao P.length co));have hkb:Keeps (λi=>i=B) w14 w15:=by rw [hwb];exact(Keeps.refl _ _).setB _ _
    refine ja ?_;intro K hK;rw [<-hwb] at⊢hb15;clear hwb ca fa la;have k15:=k14.trans (hkb.mono λ_ _ e=> .inl e);clear hkb hb14 k14;refine hK.out _ _ (by exact HS0.o _ k15) ?_;clear hK K;refine jm ?_;obtain⟨aj,cj,hvj,_,_⟩:=Ae HA10.o.adj;obtain⟨nj,hnj⟩:=eX a.adj.length;obtain⟨mj,hmj⟩:=eX r2.length;have hnjl:nj<=30100000000:=by have:=H.o.ok.aj;rw [hnj,Hsq.o] at this;omega
    have hmjl:mj<=300300:=by
     have:=betS_le (seq:=sq+1) (L:=a.s.out) (M:=Z.1.out) λy hy=>by have:=Hn.o.ol y hy;have:=Hn.o.n8;omega
     rw [Hrr.o] at this;have:=Hn.o.o3;simp only at *;omega
    have hsaw:=HA10.o.sa;have hrowj:=k15.row HA10.o.adj λb hb e=>hsaw b hb e;have hrown:=Reads.Bb (k15.row Hrowa.o λb hb e=>by have h1:=Hfa.o b hb;have h2:=lt_of_block HA.o.blk;have e':b=B:=e;omega);rw [hnj] at hvj;rw [hvj,hnj] at hrowj;rw [hmj] at hrown⊢;have hb15':w15.heap[B]?=some (.cells #[.int .i64 a.t.limit,x.vt,.int .i64 a.t.cyc,.int .i64 a.t.due,.int .i64 a.t.minFixed,.int .i64 a.t.minPart,.int .i64 a.t.start,.int .i64 a.today,.int .i64 sq,(.pointer (some ⟨B1,0,none⟩)),(.pointer (some ⟨x.bb,0,none⟩)),.slice av mv cv,.int .i64 Z.1.p.cr,.int .i64 Z.1.p.du,.slice ar n cr2,.slice ao P.length co,x.vi,.slice aj nj cj] 136 (0,0)):=by rw [<-hvj,<-Hsq.o];exact hb15
    have c17:w15.cell? ⟨B,17,none⟩=some (.slice aj nj cj):=Aa hb15' 17;have hl15:=lt_of_block hb15';have hone:=Adj.one r2;have hM15:wc.heap.size<=w15.heap.size:=Nat.le_trans Hk10.o.size k15.size;obtain⟨Hb15,Hb15',Hrowj,Hrown,Hone,Hvj,Hnj,Hmj,K15⟩:=hid9 hb15 hb15' hrowj hrown hone hvj hnj hmj k15;clear k15 hmj hnj hvj hone hrown hrowj hb15' hb15;obtain⟨Hsaw,HM15,Hb11⟩:=hid3 hsaw hM15 hb11;clear hb11 hM15 hsaw;clear k11
    go_wp2_with (at_builtin;refine Ap rfl (.tmp 79) (.tmp 80) 85 rfl 0 90 i0 _ 9 72 Tryz.underlying85 Hi.o Hi0.o Hi1.o Hi2.o rfl j7 (.slice aj nj cj) nj _ rfl Hrowj.o _ mj _ rfl Hrown.o Hone.o jd j6 (Nat.zero_le _) ?_)
    intro v6 w16 hrow6 hk6 hf6;obtain⟨a6,c6,rfl,_,_⟩:=Ae hrow6;have hb16:=Ad Hb15'.o hk6 (λe=>Hsaw.o B (by rw [Hvj.o];exact e) rfl);have d17:=Aa hb16 17;have d8:=Aa hb16 8;have f17:=Ab hb16 17;have f8:=Ab hb16 8;have hl16:=lt_of_block hb16;have hbf1:=heap_setCell_same _ _ 17 _ _ (.slice a6 (nj+mj) c6) hb16;have hbf:=(heap_setCell_same _ _ 8 _ _ (.int .i64 (sq+1)) hbf1).trans rfl;obtain⟨Wf,hWf⟩:=eY ((w16.setCell ⟨B,17,none⟩ (.slice a6 (nj+mj) c6)).setCell ⟨B,8,none⟩ (.int .i64 (sq+1)));have kf:Keeps (λi=>i=B) w16 Wf:=by rw [hWf];exact((Keeps.refl _ _).setB _ _).setB _ _
    rw [<-hWf] at hbf;have hK:Keeps (λi=>i=B\/x.va.ownBlock=some i) wc Wf:=(((Hk10.o.mono (by simp)).trans (K15.o.mono λ_ _ e=> .inl (.inl e))).trans (hk6.mono λi _ e=> .inl (.inr (by rw [Hvj.o];exact e)))).trans (kf.mono λ_ _ e=> .inl (.inl e))
    have hva6:∀b,(Value.slice a6 (nj+mj) c6).ownBlock=some b->x.va.ownBlock=some b\/w15.heap.size<=b:=λb hb=>by
     rcases hf6 with h1|⟨g',h1,h2⟩
     ·rw [h1] at hb;exact .inl (by rw [Hvj.o];exact hb)
     ·rw [h1] at hb;simp only [Option.some.injEq] at hb;exact .inr j6
    have hra:=kf.row hrow6 (λb hb e=>by
     have e':b=B:=e;rcases hva6 b hb with h1|h1
     ·exact Hsaw.o b h1 e'
     ·omega)
    have hra':Wf.ownsRow 0 90 9 (.slice a6 (nj+mj) c6) (a.adj++r2).length ((a.adj++r2).flatMap Adj.cells):=by
     rw [List.length_append,Hnj.o,Hmj.o,List.flatMap_append];exact hra
    have hpost:=AcAt.counted H.o Hkw7.o Hkw2.o Hk7'.o hK (by rw [Ht.o];exact Hdl2'.o) (by have:=HB1.o;omega) (λb hb=>by
     rcases Hf2.o with h1|⟨g',h1,h2⟩
     ·rw [h1] at hb;have:=Hv1.o b hb;omega
     ·rw [h1] at hb;simp only [Option.some.injEq] at hb;have:=Hkw1.o.size;omega) (by rw [Ht.o];exact HN.o) (by rw [Ht.o,Htd.o];exact HZ.o) Hz7.o G.o (by rw [Hsq.o];exact Hrr.o) (by rw [Hsq.o];exact hbf) hra' HM15.o hva6
    have hc:=ce_good Hz.o (by rw [Hcz.o];exact Hz7.o) (by rw [Hcb.o]);rw [HL1.o,Hcz.o,Hcb.o] at hc;have q4:IntKind.i64.wrap (sq+1)=sq+1:=IntWalk.i64_in _ ⟨by omega,by omega⟩;clear hbf1 hK hra hra' hva6;obtain⟨Hrow6,Hk6,Hf6,Hb16,Hbf,Kf,Hpost,Hc⟩:=hid8 hrow6 hk6 hf6 hb16 hbf kf hpost hc;clear hc hpost kf hbf hb16 hf6 hk6 hrow6;go_wp2_with fail;rw [<-hWf];go_ret;exact⟨by rw [Hc.o.1];rfl,by rw [Hc.o.2];exact Hpost.o⟩
   ·have hne:(r1 !=0)=true:=by simp [h1]
    have hc:=ce_bad Hz.o (by rw [Hcz.o];exact Hz7.o) (by rw [Hcb.o];exact h1);rw [Hcb.o] at hc;simp only at hc;have hend:=Bv.same H.o (Hkw7.o.nt hk10);obtain⟨Hrowa,Hk10,Hfa,H1,Hc,Hend⟩:=hid6 hrowa hk10 hfa h1 hc hend;clear hend hc h1 hfa hk10 hrowa;go_wp2;go_ret;exact⟨by rw [Hc.o.1];rfl,by rw [Hc.o.2];exact Hend.o⟩
 ·have hne:(z !=0)=true:=by simp [h0]
  have hc:=ce_add (a:=a) (e:=e) (by rw [hz];exact h0);rw [hz] at hc;have hend:=Bv.same H.o hkw2;obtain⟨Hz,Hdl2,Hk2,Hf2,Hkw2,H0,Hend,Hc⟩:=hid8 hz hdl2 hk2 hf2 hkw2 h0 hend hc;clear hc hend h0 hkw2 hf2 hk2 hdl2 hz;go_wp2;go_ret;exact⟨by rw [Hc.o.1];rfl,by rw [Hc.o.2];exact Hend.o⟩
end Go.Proofs.YtgbgmadkmabeeaaGreat
