/- Part 10 of what the laws of this seat share: walks of functions, and plain laws. -/
import Derived.Test.YtgbgmadkmabeeaaGreatB9
set_option maxRecDepth 100000
set_option maxHeartbeats 3200000
namespace Go.Proofs.YtgbgmadkmabeeaaGreat
open Go.RowKit
theorem Ad7(B:Nat)(t:Tm)(vt v:Value)(L:List Ev)(e:Ev)(w:World)(h:DL w B t vt L v)(hl:L.length<=1000000)(ht:t.trs.length<=1000000):Calls Tryz.prog 174 #[(.pointer (some ⟨B,0,none⟩)),e.agg] w (Qb B t vt v L e w):=by
 have hno:=fun(z:Int) (W:World) (hz:Ep t L e=z) (h0:z≠0) hk=>Qb.none (w':=W) h hz h0 hk;obtain⟨z,hz⟩:∃z,evErr t e=z:=⟨_,rfl⟩;have hev0:=λW (hW:Keeps (λ_=>False) w W) ad c (hvt:vt= .slice ad t.trs.length c)=>Rh t e ad c W (Reads.Az (by rw [<-hvt];exact h.trs.of_keeps hW)) ht;obtain⟨p,hp⟩:∃p,placeOf e.day L L.length=p:=⟨_,rfl⟩;have hpl0:=λW (hW:Keeps (λ_=>False) w W) ad c (hv:v= .slice ad L.length c)=>Yp e.day L ad c W (Reads.Az (by rw [<-hv];exact h.row.of_keeps hW)) hl;have hpn:p<=L.length:=by rw [<-hp];exact Ki _ _ _
 have hput:putL L e=L.take p++ [e]++L.drop p:=by unfold putL;rw [hp]
 have hadd:Ep t L e=if¬z=0 then z else if 2000<=L.length then 14 else 0:=by unfold Ep;rw [hz]
 simp only [hz,hp] at hev0 hpl0;have hins0:=λW (hW:Keeps (λ_=>False) w W)=>insEv_any W v p L.length (L.flatMap Ev.cells) (h.row.of_keeps hW) hpn e.cells.toArray (by simp [Ev.cells]) (by intro u hu;exact Ev.one [e] u (by simpa using hu)) (Ev.one L) (by omega);obtain⟨hblk,htrs,hrow⟩:=h;have hBv:=Ai hrow hblk (by decide);have hBt:=Ai htrs hblk (by decide);obtain⟨adt,ct,hvt,_,_⟩:=Ae htrs;obtain⟨ad,cap,hvs,hcap,_⟩:=Ae hrow;have hev:=λW hW=>hev0 W hW adt ct hvt;have hpl:=λW hW=>hpl0 W hW ad cap hvs
 have hall:∀v' w',Ep t L e=0->w'.ownsRow 0 96 5 v' (L.length+1) ((L.flatMap Ev.cells).take (p*5)++e.cells++(L.flatMap Ev.cells).drop (p*5))->Keeps (λi=>v.ownBlock=some i) w w'->(v'.ownBlock=v.ownBlock\/∃g,v'.ownBlock=some g/\w.heap.size<=g)->
   Qb B t vt v L e w (.returned (.int .i64 0)) (w'.setCell ⟨B,7,none⟩ v'):=λv' w' h0 ho hk hf=>by
  have hb':=Ad hblk hk hBv;have ht':=hk.row htrs (λg hg e'=>Eu htrs hrow (by decide) hg e');have hbl:=lt_of_block hblk
  have nB:v'.ownBlock≠some B:=λe'=>by
   rcases hf with h1|⟨g,h1,h2⟩
   ·exact hBv (by rw [<-h1];exact e')
   ·rw [h1] at e';simp only [Option.some.injEq] at e';omega
  refine⟨by rw [h0],v',⟨?_, ?_, ?_⟩,(hk.mono λi _ e'=> .inr e').trans (Keeps.setCell _ _ _ (.inl (.inl rfl))),hf⟩
  ·rw [heap_setCell_same _ _ 7 _ _ v' hb'];rfl
  ·exact(Keeps.setCell (S:=λi=>i=B) w' ⟨B,7,none⟩ v' rfl).row ht' (λg hg e'=>hBt (by rw [hg,e']))
  ·unfold addL;rw [if_pos h0,Li,hput,List.flatMap_append,List.flatMap_append,<-Gz Ev.Aj,<-Km Ev.Aj];exact(Keeps.setCell (S:=λi=>i=B) w' ⟨B,7,none⟩ v' rfl).row (by simpa using ho) (λg hg e'=>nB (by rw [hg,e']))
 obtain⟨n,hn⟩:∃n,L.length=n:=⟨_,rfl⟩;obtain⟨nt,hnt⟩:∃n,t.trs.length=n:=⟨_,rfl⟩;rw [hn] at hvs hpl hins0 hall hpn hcap hl hadd;rw [hnt] at hvt hev;obtain⟨li,cy,du,mf,mp,st,T⟩:=t;obtain⟨ki,da,tr,am,re⟩:=e;subst hvt hvs;simp only [Tm.val,Ev.agg,Ev.cells] at hev hpl hins0 hblk hall⊢;have c0:=Aa hblk 0;have c6:=Aa hblk 6;have hbl:=lt_of_block hblk;have hnE:¬(Value.slice ad n cap).ownBlock=some w.heap.size:=λe=>by have:=Cj hrow e;omega
 clear hev0 hpl0 hput hp hn hnt hBt htrs hrow
 have hS:∀W,Keeps (λ_=>False) (w.alloc (.cells #[.int .i64 ki,.int .i64 da,.int .i64 tr,.int .i64 am,.int .i64 re] 96)) W->adS B w.heap.size li cy du mf mp st (.slice adt nt ct) (.slice ad n cap) ki da tr am re W:=λW hW=>
  adS.of (Ad (Ar hblk _) hW (by simp)) (Ad (heap_alloc_new w _) hW (by simp))
 obtain⟨Hno,Hz,Hev,Hpl,Hins0,Hall,Hadd,HS,Hblk⟩:=hid9 hno hz hev hpl hins0 hall hadd hS hblk;clear hblk hS hadd hall hins0 hpl hev hz hno;clear c0 c6;go_enter Tryz.func174,Tryz.ntmps174;go_wp2_with fail;refine Al (adS B w.heap.size li cy du mf mp st (.slice adt nt ct) (.slice ad n cap) ki da tr am re) (.take 0 (.take 1 (.take 2 (.take 3 (.take 4 (.move 5 (.take 6 .done))))))) (by kernel_rfl) (by kernel_rfl) ?_ ?_
 ·exact HS.out _ (Keeps.drew _)
 intro w1 hs1 hk1;refine jR ?_;refine Ag rfl (λK hK=> ?_);go_simp
 go_at_call 206
 ((with_reducible refine(Hev.out _ ((Keeps.alloc _ _).trans (hk1.mono (by simp)))).mono ?_);rintro e w2 ⟨rfl,hk2⟩;dsimp only)
 refine hK.out _ _ (by exact adS.keep hs1 hk2 (by simp) (by simp)) ?_;clear hK K
 try simp only [aps]
 have hs2:=adS.keep hs1 hk2 (by simp) (by simp);have hkA:Keeps (λ_=>False) (w.alloc (.cells #[.int .i64 ki,.int .i64 da,.int .i64 tr,.int .i64 am,.int .i64 re] 96)) w2:=hk1.trans (hk2.mono (by simp));have hkw:Keeps (λ_=>False) w w2:=(Keeps.alloc _ _).trans (hkA.mono (by simp));obtain⟨HkA,Hkw⟩:=hid2 hkA hkw;clear hkw hkA;clear hs1 hk1 hk2;refine jR ?_;refine Ap ?_;by_cases hz0:z=0
 ·subst hz0;have c7:w2.cell? ⟨B,7,none⟩=some (.slice ad n cap):=hs2.2.2.2.2.2.2.2.1;have lB:=Ah c7;by_cases hfull:2000<=n
  ·have h14:=Hadd.out;simp only [not_true_eq_false,if_false,if_pos hfull] at h14;have hfI:(2000:Int)<=(n:Int):=by omega
   have hpost:=Hno.out 14 w2 h14 (by decide) Hkw.out;obtain⟨H14,Hpost,Hs2⟩:=hid3 h14 hpost hs2;clear hs2 hpost h14;go_wp2_with fail;go_ret;exact Hpost.out
  ·have h00:=Hadd.out;simp only [not_true_eq_false,if_false,if_neg hfull] at h00;have hfI:¬(2000:Int)<=(n:Int):=by omega
   have hpl2:=Hpl.out w2 Hkw.out;obtain⟨H00,Hpl2⟩:=hid2 h00 hpl2;clear hpl2 h00;have HS2:=Lib.hid hs2;clear hs2;go_wp2_with fail;refine Cw (adS B w.heap.size li cy du mf mp st (.slice adt nt ct) (.slice ad n cap) ki da tr am re) 17 (.take 0 (.take 1 (.take 2 (.take 3 (.take 4 (.take 5 (.take 6 (.take 7 (.take 8 (.take 9 (.take 10 (.take 12 (.fork 11 (.move 13 (.move 14 (.move 15 (.move 16 (.move 17 .done))))) 13 (.move 11 (.move 14 (.move 15 (.move 16 (.move 17 .done)))))))))))))))))) (by kernel_rfl) (by kernel_rfl) ?_ ?_
   ·exact HS2.out.keep (Keeps.drew (S:=λ_=>False) _) (by simp) (by simp)
   intro w3 hs3 hk3;have hkw3:Keeps (λ_=>False) w w3:=Hkw.out.trans (hk3.mono (by simp));have hE3:=Ad (Ad (heap_alloc_new w _) HkA.out (by simp)) hk3 (by simp);obtain⟨Hkw3,HE3⟩:=hid2 hkw3 hE3;clear hE3 hkw3;clear hk3;refine jR ?_;refine Dn ?_ ?_ hs3
   ·skip
    refine Ag rfl (λK hK=> ?_);go_simp
    go_at_call 208
    ((with_reducible refine(Hpl.out w3 Hkw3.out).mono ?_);rintro e w33 ⟨rfl,rfl⟩;dsimp only)
    refine hK.out _ _ (by exact hs3) ?_;clear hK K
    try simp only [aps]
    refine jR ?_;refine Ag rfl (λK hK=> ?_);go_simp;refine hK.out _ _ (by exact adS.keep hs3 (Keeps.alloc (S:=λ_=>False) w3 _) (by simp) (by simp)) ?_;clear hK K
    try simp only [aps]
    refine jR ?_;refine Ag rfl (λK hK=> ?_);go_simp
    go_at_call 207
    ((with_reducible refine(Hins0.out w3 Hkw3.out).mono ?_);rintro e w4 ⟨v4,rfl,hrow4,hk4,hf4⟩;dsimp only)
    have hb4:=Ad (Ad Hblk.out Hkw3.out (by simp)) hk4 hBv;have hE4:=Ad HE3.out hk4 hnE;have hs4:=adS.of hb4 hE4;refine hK.out _ _ (by exact hs4) ?_;clear hK K
    try simp only [aps]
    have hpost:=Hall.out v4 w4 H00.out hrow4 ((Hkw3.out.mono (λ_ _ h=>h.elim)).trans (hk4.mono λ_ _ h=> .inl h)) (hf4.imp id fun⟨g,h1,h2⟩=>⟨g,h1,by have:=Hkw3.out.size;omega⟩);obtain⟨ad4,c4,rfl,_,_⟩:=Ae hrow4;have fB:=Ab hb4 7;have cB:=Aa hb4 7;have Hpost:=Lib.hid hpost;clear hpost;clear hrow4 hk4 hf4 hb4 hE4
    repeat (refine Eb (v:= ?_) rfl (by rfl) ?_ ?_;rotate_left;(· intro w' hSw;unfold adS at hSw;go_simp;(try with_reducible rfl));rotate_right;try simp only [aps])
    refine Cr rfl (λK hK=> ?_);go_simp;refine hK.out _ _ ?_;clear hK K
    try simp only [aps]
    refine Ap ?_;go_wp2_with fail;go_ret;exact Hpost.out
   ·skip
    refine Ag rfl (λK hK=> ?_);go_simp;refine hK.out _ _ (by exact adS.keep hs3 (Keeps.alloc (S:=λ_=>False) w3 _) (by simp) (by simp)) ?_;clear hK K
    try simp only [aps]
    refine jR ?_;refine Ag rfl (λK hK=> ?_);go_simp
    go_at_call 208
    ((with_reducible refine(Hpl.out (w3.alloc (.cells #[.int .i64 ki,.int .i64 da,.int .i64 tr,.int .i64 am,.int .i64 re] 96)) (Hkw3.out.trans (Keeps.alloc _ _))).mono ?_);rintro e w33 ⟨rfl,rfl⟩;dsimp only)
    refine hK.out _ _ (by exact adS.keep hs3 (Keeps.alloc (S:=λ_=>False) w3 _) (by simp) (by simp)) ?_;clear hK K
    try simp only [aps]
    refine jR ?_;refine Ag rfl (λK hK=> ?_);go_simp
    go_at_call 207
    ((with_reducible refine(Hins0.out w3 Hkw3.out).mono ?_);rintro e w4 ⟨v4,rfl,hrow4,hk4,hf4⟩;dsimp only)
    have hb4:=Ad (Ad Hblk.out Hkw3.out (by simp)) hk4 hBv;have hE4:=Ad HE3.out hk4 hnE;have hs4:=adS.of hb4 hE4;refine hK.out _ _ (by exact hs4) ?_;clear hK K
    try simp only [aps]
    have hpost:=Hall.out v4 w4 H00.out hrow4 ((Hkw3.out.mono (λ_ _ h=>h.elim)).trans (hk4.mono λ_ _ h=> .inl h)) (hf4.imp id fun⟨g,h1,h2⟩=>⟨g,h1,by have:=Hkw3.out.size;omega⟩);obtain⟨ad4,c4,rfl,_,_⟩:=Ae hrow4;have fB:=Ab hb4 7;have cB:=Aa hb4 7;have Hpost:=Lib.hid hpost;clear hpost;clear hrow4 hk4 hf4 hb4 hE4
    repeat (refine Eb (v:= ?_) rfl (by rfl) ?_ ?_;rotate_left;(· intro w' hSw;unfold adS at hSw;go_simp;(try with_reducible rfl));rotate_right;try simp only [aps])
    refine Cr rfl (λK hK=> ?_);go_simp;refine hK.out _ _ ?_;clear hK K
    try simp only [aps]
    refine Ap ?_;go_wp2_with fail;go_ret;exact Hpost.out
 ·have hzz:=Hadd.out;rw [if_pos hz0] at hzz;have hzI:(z !=0)=true:=by simp [hz0]
  have hpost:=Hno.out z w2 hzz hz0 Hkw.out;obtain⟨Hpost,Hzz,Hs2⟩:=hid3 hpost hzz hs2;clear hs2 hzz hpost;go_wp2_with fail;go_ret;exact Hpost.out
theorem Ud:(Tryz.prog.info? 132).map (λi=>(i.zero,i.size,i.bytes))=some (some (.agg #[.int .i64 0,.int .i64 0,.int .i64 0,.int .i64 0,.int .i64 0]),5,40):=by kernel_rfl
theorem Nl(w:World)(v:Value)(n:Nat)(xs:List Value)(hr:Reads w 5 v n xs)(h1:∀u∈xs,u.oneCell'=true)(hn:n<=1000000000000):
  Calls Tryz.prog 132 #[v] w λe w'=>∃v',e= .returned v'/\w'.ownsRow 0 132 5 v' n xs/\Keeps (λ_=>False) w w'/\(∀k,v'.ownBlock=some k->w.heap.size<=k):=by
 obtain⟨i0,hi,hz0,hz1,hz2⟩:=info_parts Ud;have hr':=hr;obtain⟨ad,c,rfl,hnc,hl,hnone,hcells⟩:=hr';clear hcells;have heq:=fun(wx:World) (ad:Option Addr) (l c:Nat)=>Lib.run_eql_slice_nil (P:=Tryz.prog) wx 53 _ ad l c 0 0 Tryz.underlying53;rcases ad with _|a
 ·obtain rfl:=hnone rfl;obtain rfl:n=0:=by omega
  obtain rfl:xs= []:=List.eq_nil_of_length_eq_zero jr;have hr0:=Lib.hid hr;clear hr;go_enter Tryz.func132,Tryz.ntmps132;exact jH
 ·have Hr:=Lib.hid hr;clear hr;obtain⟨Hl,Hnone,H1⟩:=hid3 hl hnone h1;clear h1 hnone hl;go_enter Tryz.func132,Tryz.ntmps132
  go_wp2_with (at_builtin;refine Ao rfl (.tmp 5) (.tmp 6) 53 rfl 0 132 i0 _ 5 40 Tryz.underlying53 hi hz0 hz1 hz2 rfl j7 _ 0 [] rfl (World.ownsRow_lit w #[] 0 j6 jd rfl) _ n xs rfl (Hr.out.keeps (Keeps.alloc (S:=λ_=>False) _ _) (by simp)) H1.out jd j6 j6 ?_)
  intro v' w1 hown1 hk1 hfr
  have hend:w1.ownsRow 0 132 5 v' n xs/\Keeps (λ_=>False) w w1/\(∀k,v'.ownBlock=some k->w.heap.size<=k):=by
   exact jI
  exact jJ
structure Disp where
 ref:Int
 tranche:Int
 day:Int
 amount:Int
 state:Int
deriving DecidableEq,Inhabited
def Disp.cells(d:Disp):List Value:= [.int .i64 d.ref,.int .i64 d.tranche,.int .i64 d.day,.int .i64 d.amount,.int .i64 d.state]
theorem Disp.Aj(d:Disp):d.cells.length=5:=rfl
theorem Disp.one(L:List Disp):∀u∈L.flatMap Disp.cells,u.oneCell'=true:=by
 intro u hu;obtain⟨d,_,hd⟩:=List.mem_flatMap.1 hu;simp only [Disp.cells,List.mem_cons,List.not_mem_nil,or_false] at hd;rcases hd with rfl|rfl|rfl|rfl|rfl<;>rfl
theorem Rx(a0:Int)(a1:Int)(a2:Int)(a3:Int)(a4:Int)(w:World):Calls Tryz.prog 130 #[.agg #[.int .i64 a0,.int .i64 a1,.int .i64 a2,.int .i64 a3,.int .i64 a4],.agg #[.int .i64 a0,.int .i64 a1,.int .i64 a2,.int .i64 a3,.int .i64 a4]] w
  λe w'=>e= .returned (.bool true)/\Keeps (λ_=>False) w w':=by
 go_enter Tryz.func130,Tryz.ntmps130;go_wp2;go_ret;exact⟨rfl,(Keeps.alloc _ _).trans (Keeps.alloc _ _)⟩
theorem Vj(L:List Disp)(v1 v2:Value)(w:World)(h1:Reads w 5 v1 L.length (L.flatMap Disp.cells))(h2:Reads w 5 v2 L.length (L.flatMap Disp.cells))(hl:L.length<=1000000000000):
  Calls Tryz.prog 129 #[v1,v2,.func (.func 130) #[] #[]] w λe w'=>e= .returned (.bool true)/\Keeps (λ_=>False) w w':=by
 have g1:=h1;have g2:=h2;obtain⟨ad1,c1,rfl,_,_⟩:=g1;obtain⟨ad2,c2,rfl,_,_⟩:=g2;obtain⟨H1,H2⟩:=hid2 h1 h2;clear h2 h1;go_enter Tryz.func129,Tryz.ntmps129;go_wp2
 go_loopw [7] (λi wr=>∃k:Nat,k<=L.length/\i= .int .i64 k/\Keeps (λ_=>False) w wr) (λi _=>L.length-(intOf i).toNat)
 case atStart=>exact⟨0,Nat.zero_le _,rfl,Keeps.refl _ _⟩
 case round=>
  obtain⟨k,hk,rfl,hkp⟩:=hrel;have Hkp:=Lib.hid hkp;clear hkp;by_cases hlt:k<L.length
  ·obtain⟨x,hx⟩:∃x,L[k]?=some x:=⟨L[k],List.getElem?_eq_getElem hlt⟩;obtain⟨g,o,c,he,hc⟩:=(H1.out.keeps Hkp.out (by simp)).elem Disp.Aj hx j7;obtain⟨g',o',c',he',hc'⟩:=(H2.out.keeps Hkp.out (by simp)).elem Disp.Aj hx j7;simp only [Value.slice.injEq,true_and] at he he';obtain⟨rfl,rfl⟩:=he;obtain⟨rfl,rfl⟩:=he';obtain⟨e0,e1,e2,e3,e4⟩:=x;have x0:wr.cell? ⟨g,o+k*5,none⟩=some (.int .i64 e0):=hc 0 j7;have x1:wr.cell? ⟨g,o+k*5+1,none⟩=some (.int .i64 e1):=hc 1 j7;have x2:wr.cell? ⟨g,o+k*5+2,none⟩=some (.int .i64 e2):=hc 2 j7;have x3:wr.cell? ⟨g,o+k*5+3,none⟩=some (.int .i64 e3):=hc 3 j7;have x4:wr.cell? ⟨g,o+k*5+4,none⟩=some (.int .i64 e4):=hc 4 j7;have y0:wr.cell? ⟨g',o'+k*5,none⟩=some (.int .i64 e0):=hc' 0 j7;have y1:wr.cell? ⟨g',o'+k*5+1,none⟩=some (.int .i64 e1):=hc' 1 j7;have y2:wr.cell? ⟨g',o'+k*5+2,none⟩=some (.int .i64 e2):=hc' 2 j7;have y3:wr.cell? ⟨g',o'+k*5+3,none⟩=some (.int .i64 e3):=hc' 3 j7;have y4:wr.cell? ⟨g',o'+k*5+4,none⟩=some (.int .i64 e4):=hc' 4 j7;clear hc hc';have Hx:=Lib.hid hx;clear hx;go_wp2
   go_still_tail 9,j9
   go_wp2_with (go_at_call 130;refine(Rx _ _ _ _ _ _).mono ?_;rintro e w' ⟨rfl,hk2⟩;have Hk2:=Lib.hid hk2;clear hk2)
   exact j3Q
  ·exact j0T
theorem Tk(L:List Disp)(v1 v2:Value)(w:World)(h1:Reads w 5 v1 L.length (L.flatMap Disp.cells))(h2:Reads w 5 v2 L.length (L.flatMap Disp.cells))(hl:L.length<=1000000000000):
  Calls Tryz.prog 71 #[v1,v2] w λe w'=>e= .returned (.bool true)/\Keeps (λ_=>False) w w':=by
 obtain⟨H1,H2⟩:=hid2 h1 h2;clear h2 h1;go_enter Tryz.func71,Tryz.ntmps71
 go_wp2_with (go_at_call 129;refine(Vj L _ _ _ H1.out H2.out hl).mono ?_;rintro e w' ⟨rfl,hk2⟩;have Hk2:=Lib.hid hk2;clear hk2)
 go_ret;exact⟨rfl,Hk2.out⟩
def Dv:List Disp->Int
 | []=>0
 |d::l=>(if d.state=1 then d.amount else 0)+Dv l
def Uy(L:List Disp):Prop:=L.length<=2000/\Dv L<=1000000000000000/\∀d∈L,1<=d.amount/\d.amount<=1000000000000000
theorem Gf:∀L:List Disp,(∀d∈L,1<=d.amount/\d.amount<=1000000000000000)->0<=Dv L
 | [],_=>Int.le_refl _
 |d::l,h=>by
  have:=Gf l λx hx=>h x (List.mem_cons_of_mem _ hx);have:=h d (List.mem_cons_self ..);unfold Dv;split<;>omega
theorem Nh(L:List Disp)(d:Disp):Dv (L++ [d])=Dv L+(if d.state=1 then d.amount else 0):=by
 induction L with
 |nil=>simp [Dv]
 |cons x l ih=>simp only [List.cons_append,Dv,ih];omega
theorem Ue{L:List Disp}{k:Nat}{x y:Disp}(hx:L[k]?=some x)(h1:x.state=1)(h2:y.state≠1):Dv (L.set k y)=Dv L-x.amount:=by
 induction L generalizing k with
 |nil=>simp at hx
 |cons a l ih=>
  cases k with
  |zero=>simp at hx;subst hx;simp [Dv,h1,h2];omega
  |succ k=>simp at hx;simp only [List.set_cons_succ,Dv,ih hx];omega
theorem heldOf_ge{L:List Disp}(h:∀d∈L,1<=d.amount/\d.amount<=1000000000000000){k:Nat}{x:Disp}(hx:L[k]?=some x)(h1:x.state=1):x.amount<=Dv L:=by
 induction L generalizing k with
 |nil=>simp at hx
 |cons a l ih=>
  have hl:∀d∈l,1<=d.amount/\d.amount<=1000000000000000:=λx hx=>h x (List.mem_cons_of_mem _ hx);have:=h a (List.mem_cons_self ..);have:=Gf l hl
  cases k with
  |zero=>simp at hx;subst hx;simp [Dv,h1];omega
  |succ k=>simp at hx;have:=ih hl hx;unfold Dv;split<;>omega
def Dq(L:List Disp)(t a:Int):Int:=
 if t<1\/8<t then 7 else if a<1\/1000000000000000<a then 8 else if 1000000000000000-Dv L<a then 5 else if 2000<=L.length then 14 else 0
def dOpen(L:List Disp)(t d a:Int):List Disp:=if Dq L t a=0 then L++ [⟨L.length+1,t,d,a,1⟩] else L
def Fs(L:List Disp)(t a:Int):Int:=if Dq L t a=0 then L.length+1 else 0
theorem dOpen_ok{L:List Disp}(h:Uy L)(t d a:Int):Uy (dOpen L t d a):=by
 unfold dOpen
 split
 ·rename_i h0;obtain⟨h1,h2,h3⟩:=h;unfold Dq at h0
  split at h0;· simp at h0
  split at h0;· simp at h0
  split at h0;· simp at h0
  split at h0;· simp at h0
  refine⟨by simp;omega,by rw [Nh];simp;omega,λx hx=> ?_⟩;rcases List.mem_append.1 hx with hx|hx
  ·exact h3 x hx
  ·simp at hx;subst hx;simp;omega
 ·exact h
def Cv(L:List Disp)(ref:Int):Int:=
 if ref<1\/(L.length:Int)<ref then 12 else match L[(ref-1).toNat]? with
  |some x=>if x.state=1 then 0 else 13
  |none=>12
def Disp.ended(d:Disp)(lost:Bool):Disp:={ d with state:=if lost then 2 else 3 }
def Disp.zero:Disp:=⟨0,0,0,0,0⟩
def Dw(L:List Disp)(ref:Int)(lost:Bool):Disp:=if Cv L ref=0 then(L[(ref-1).toNat]?.getD Disp.zero).ended lost else Disp.zero
def dEnd(L:List Disp)(ref:Int)(lost:Bool):List Disp:=if Cv L ref=0 then L.set (ref-1).toNat (Dw L ref lost) else L
theorem Yq{L:List Disp}{ref:Int}(h:Cv L ref=0):∃(k:Nat) (x:Disp),ref=k+1/\L[k]?=some x/\x.state=1:=by
 unfold Cv at h
 split at h
 ·simp at h
 ·rename_i h1;refine⟨(ref-1).toNat, ?_⟩;rcases hx:L[(ref-1).toNat]? with _|x
  ·rw [hx] at h;simp at h
  ·rw [hx] at h;simp only at h
   split at h
   ·exact⟨x,by omega,rfl,by assumption⟩
   ·simp at h
theorem dEnd_at{L:List Disp}{k:Nat}{x:Disp}(hx:L[k]?=some x)(h1:x.state=1)(lost:Bool):Cv L (k+1)=0/\Dw L (k+1) lost=x.ended lost/\dEnd L (k+1) lost=L.set k (x.ended lost):=by
 have hk:k<L.length:=by
  exact j0v
 have e1:((k:Int)+1-1).toNat=k:=j8
 have h0:Cv L (k+1)=0:=by
  unfold Cv;rw [if_neg j6,e1,hx];simp [h1]
 have h2:Dw L (k+1) lost=x.ended lost:=by unfold Dw;rw [if_pos h0,e1,hx];rfl
 exact⟨h0,h2,by unfold dEnd;rw [if_pos h0,h2,e1]⟩
theorem dEnd_ok{L:List Disp}(h:Uy L)(ref:Int)(lost:Bool):Uy (dEnd L ref lost):=by
 by_cases h0:Cv L ref=0
 ·obtain⟨k,x,rfl,hx,h1⟩:=Yq h0;rw [(dEnd_at hx h1 lost).2.2];obtain⟨a,b,c⟩:=h;have hxm:=c x (List.mem_of_getElem? hx);refine⟨by simpa using a, ?_,λy hy=> ?_⟩
  ·rw [Ue hx h1 (by unfold Disp.ended;cases lost<;>simp)];omega
  ·rcases List.mem_or_eq_of_mem_set hy with hy|hy
   ·exact c y hy
   ·subst hy;exact hxm
 ·unfold dEnd;rw [if_neg h0];exact h
structure Cmd where
 kind:Int
 day:Int
 tranche:Int
 amount:Int
 ref:Int
deriving DecidableEq,Inhabited
def Cmd.cells(d:Cmd):List Value:= [.int .i64 d.kind,.int .i64 d.day,.int .i64 d.tranche,.int .i64 d.amount,.int .i64 d.ref]
theorem Cmd.Aj(d:Cmd):d.cells.length=5:=rfl
theorem Cmd.one(L:List Cmd):∀u∈L.flatMap Cmd.cells,u.oneCell'=true:=by
 intro u hu;obtain⟨d,_,hd⟩:=List.mem_flatMap.1 hu;simp only [Cmd.cells,List.mem_cons,List.not_mem_nil,or_false] at hd;rcases hd with rfl|rfl|rfl|rfl|rfl<;>rfl
structure Ac where
 t:Tm
 today:Int
 seq:Int
 L:List Ev
 D:List Disp
 s:St
 iss:List Stm
 adj:List Adj
def betP(seq:Int):List Stm->List Stm->List Adj->Int×List Adj
 |a::A,b::B,acc=>if a.Cx&&b.Cx then betP seq A B (acc++Eg seq a b) else(5, [])
 |_,_,acc=>(0,acc)
def Jn:List Stm->List Stm->Bool
 | [], []=>true
 |a::A,b::B=>Gq a b&&Jn A B
 |_,_=>false
def betS(seq:Int)(L M:List Stm):Int×List Adj:=if Jn L M=true then betP seq L M [] else(1, [])
theorem Abm(seq:Int):∀(P Q:List SV) (acc:List Adj),Jm seq P Q acc=betP seq (P.map SV.s) (Q.map SV.s) acc
 | [],_,_=>by unfold Jm;cases ‹List SV›<;>rfl
 |_::_, [],_=>rfl
 |a::A,b::B,acc=>by
  simp only [Jm,List.map_cons,betP];rw [Abm seq A B]
theorem Nv:∀(P Q:List SV),Jn (P.map SV.s) (Q.map SV.s)=true↔P.length=Q.length/\Mf P Q P.length
 | [], []=>by simp [Jn,Mf]
 | [],b::B=>by simp [Jn]
 |a::A, []=>by simp [Jn]
 |a::A,b::B=>by
  simp only [List.map_cons,Jn,Bool.and_eq_true,Nv A B,List.length_cons]
  constructor
  ·rintro⟨h1,h2,h3⟩;refine⟨by omega,λi x y hi hx hy=> ?_⟩
   cases i with
   |zero=>simp at hx hy;subst hx;subst hy;exact h1
   |succ i=>simp at hx hy;exact h3 i x y (by omega) hx hy
  ·rintro⟨h1,h2⟩;exact⟨h2 0 a b (by omega) rfl rfl,by omega,λi x y hi hx hy=>h2 (i+1) x y (by omega) (by simpa using hx) (by simpa using hy)⟩
theorem betw_S(seq:Int)(P Q:List SV):Betw seq P Q (betS seq (P.map SV.s) (Q.map SV.s)):=by
 unfold Betw betS;by_cases h:Jn (P.map SV.s) (Q.map SV.s)=true
 ·exact .inl ⟨(Nv P Q).1 h,by rw [if_pos h,Abm]⟩
 ·exact .inr ⟨λh'=>h ((Nv P Q).2 h'),by rw [if_neg h]⟩
theorem Uz:∀(L M:List Stm),Jn L M=true->L.length=M.length
 | [], [],_=>rfl
 | [],_::_,h=>by cases h
 |_::_, [],h=>by cases h
 |a::A,b::B,h=>by
  simp only [Jn,Bool.and_eq_true] at h;simp [Uz A B h.2]
theorem betS_len{seq:Int}{L M:List Stm}(h:(betS seq L M).1=0):L.length=M.length:=by
 unfold betS at h
 split at h
 ·rename_i h1;exact Uz L M h1
 ·cases h
theorem betP_le(seq:Int):∀(L M:List Stm) (acc:List Adj),(∀x∈L,x.lines.length<=1000)->(betP seq L M acc).2.length<=acc.length+1001*L.length
 | [],M,acc,_=>by cases M<;>simp [betP]
 |a::A, [],acc,_=>by simp [betP]
 |a::A,b::B,acc,h=>by
  unfold betP
  split
  ·have h1:=betP_le seq A B (acc++Eg seq a b) λx hx=>h x (List.mem_cons_of_mem _ hx);have h2:=Wq seq a b;have h3:=h a (List.mem_cons_self ..);rw [List.length_append] at h1;rw [List.length_cons];omega
  ·simp
theorem betS_le{seq:Int}{L M:List Stm}(h:∀x∈L,x.lines.length<=1000):(betS seq L M).2.length<=1001*L.length:=by
 unfold betS
 split
 ·have:=betP_le seq L M [] h;simpa using this
 ·simp
def Ac.cz(a:Ac)(e:Ev):St×Int:=walkR a.t (putL a.L e) a.today
def Ac.cb(a:Ac)(e:Ev):Int×List Adj:=betS (a.seq+1) a.s.out (a.cz e).1.out
def Ac.ce(a:Ac)(e:Ev):Int:=if¬Ep a.t a.L e=0 then Ep a.t a.L e else if¬(a.cz e).2=0 then(a.cz e).2 else(a.cb e).1
def Ac.count(a:Ac)(e:Ev):Ac:=if a.ce e=0 then { a with L:=putL a.L e,s:=(a.cz e).1,adj:=a.adj++(a.cb e).2,seq:=a.seq+1 } else a
def Ac.tz(a:Ac)(d:Int):St×Int:=walkR a.t a.L (a.today+d)
def Ac.te(a:Ac)(d:Int):Int:=if d<1\/400<d then 1 else if¬ofE a.t.start a.t.cyc (a.today+d)=0 then 10 else(a.tz d).2
def Ac.tc(a:Ac)(d:Int):Int:=if a.te d=0/\a.s.out.length<(a.tz d).1.out.length then((a.tz d).1.out.length:Int) else 0
def Ac.tick(a:Ac)(d:Int):Ac:=if a.te d=0 then { a with today:=a.today+d,s:=(a.tz d).1,iss:=a.iss++(a.tz d).1.out.drop a.s.out.length,seq:=a.seq+1 } else a
def Ac.cyc(a:Ac)(d:Int):Int:=ofV a.t.start a.t.cyc d
def Ac.oldB(a:Ac)(d:Int):Bool:=decide (24<a.cyc a.today-a.cyc d)
def Ac.owes(a:Ac):Int:=sumI a.s.p.bal-a.s.p.cr
def Ac.ee(a:Ac)(c:Cmd):Int:=
 if¬c.kind=2/\¬(1<=c.tranche/\c.tranche<=a.t.trs.length) then 7
 else if(c.kind=7/\(c.amount<0\/10000000<c.amount))\/(¬c.kind=7/\(c.amount<1\/1000000000000000<c.amount)) then 8
 else if c.kind=1 then(if a.t.limit<a.owes+c.amount then 9 else 0)
 else if c.kind=3 then(if c.day<a.t.start\/a.today<c.day then 10 else if a.oldB c.day=true then 11 else 0)
 else if c.kind=4 then(if a.s.p.bal.getD (c.tranche-1).toNat 0<c.amount then 9 else Dq a.D c.tranche c.amount)
 else 0
def ev00:Ev:=⟨0,0,0,0,0⟩
def Ac.evt(a:Ac)(c:Cmd):Ev:=if¬a.ee c=0 then ev00 else
 ⟨if c.kind=7 then 6 else c.kind,if c.kind=3 then c.day else a.today,if c.kind=2 then 0 else c.tranche,c.amount,if c.kind=4 then Fs a.D c.tranche c.amount else 0⟩
def Ac.eD(a:Ac)(c:Cmd):List Disp:=if c.kind=4/\a.ee c=0 then dOpen a.D c.tranche a.today c.amount else a.D
def Ac.de(a:Ac)(c:Cmd):Int:=if¬Cv a.D c.ref=0 then Cv a.D c.ref else if c.kind=6 then 0 else if a.oldB (Dw a.D c.ref (c.kind==5)).day=true then 11 else 0
def Ac.dvt(a:Ac)(c:Cmd):Ev:=if¬a.de c=0\/c.kind=6 then ev00 else⟨5,(Dw a.D c.ref (c.kind==5)).day,(Dw a.D c.ref (c.kind==5)).tranche,(Dw a.D c.ref (c.kind==5)).amount,(Dw a.D c.ref (c.kind==5)).ref⟩
theorem Wx{B n cT:Nat}{adT:Option Addr}{c0 c2 c3 c4 c5 c6 c7 c8 c9 c10 c11 c12 c13 c14 c15 c16 c17 c18 c19:Value}{W W2:World}(h:W.heap[B]?=some (.cells #[c0,.slice adT n cT,c2,c3,c4,c5,c6,c7,c8,c9,c10,c11,c12,c13,c14,c15,c16,c17,c18,c19] 250 (0,0)))(hk:Keeps (λ_=>False) W W2)(a b:Nat):
  ((W2.setCell ⟨B,14,none⟩ (.slice (some ⟨a,0,none⟩) n n)).setCell ⟨B,15,none⟩ (.slice (some ⟨b,0,none⟩) n n)).heap[B]?=some (.cells #[c0,.slice adT n cT,c2,c3,c4,c5,c6,c7,c8,c9,c10,c11,c12,c13,.slice (some ⟨a,0,none⟩) n n,.slice (some ⟨b,0,none⟩) n n,c16,c17,c18,c19] 250 (0,0))/\Keeps (λi=>i=B) W ((W2.setCell ⟨B,14,none⟩ (.slice (some ⟨a,0,none⟩) n n)).setCell ⟨B,15,none⟩ (.slice (some ⟨b,0,none⟩) n n)):=by
 have h2:=Ad h hk (by simp);have h3:=(heap_setCell_same _ _ 14 _ _ (.slice (some ⟨a,0,none⟩) n n) h2).trans rfl;have h4:=(heap_setCell_same _ _ 15 _ _ (.slice (some ⟨b,0,none⟩) n n) h3).trans rfl;have k1:Keeps (λi=>i=B) W2 (W2.setCell ⟨B,14,none⟩ (.slice (some ⟨a,0,none⟩) n n)):=Keeps.setCell (S:=λi=>i=B) _ _ _ rfl;have k2:Keeps (λi=>i=B) (W2.setCell ⟨B,14,none⟩ (.slice (some ⟨a,0,none⟩) n n)) ((W2.setCell ⟨B,14,none⟩ (.slice (some ⟨a,0,none⟩) n n)).setCell ⟨B,15,none⟩ (.slice (some ⟨b,0,none⟩) n n)):=Keeps.setCell (S:=λi=>i=B) _ _ _ rfl;have k0:Keeps (λi=>i=B) W W2:=hk.mono (by simp);exact⟨h4,Keeps.trans (Keeps.trans k0 (k1.mono λ_ _ h=> .inl h)) (k2.mono λ_ _ h=> .inl h)⟩
theorem Xt{B n cT:Nat}{adT:Option Addr}{c0 c2 c3 c4 c5 c6 c7 c8 c9 c10 c11 c12 c13 c14 c15 c16 c17 c18 c19:Value}{W:World}(h:W.heap[B]?=some (.cells #[c0,.slice adT n cT,c2,c3,c4,c5,c6,c7,c8,c9,c10,c11,c12,c13,c14,c15,c16,c17,c18,c19] 250 (0,0)))(hn:n<=1000):
  Calls Tryz.prog 181 #[(.pointer (some ⟨B,0,none⟩))] W λe W'=>e= .returned (.tuple #[])/\∃a b,W'.heap[B]?=some (.cells #[c0,.slice adT n cT,c2,c3,c4,c5,c6,c7,c8,c9,c10,c11,c12,c13,.slice (some ⟨a,0,none⟩) n n,.slice (some ⟨b,0,none⟩) n n,c16,c17,c18,c19] 250 (0,0))/\W'.heap[a]?=some (.cells ((List.replicate n si0).map SI.v).toArray 50 (0,0))/\W'.heap[b]?=some (.cells ((List.replicate n si0).map SI.v).toArray 50 (0,0))/\W.heap.size<=a/\W.heap.size<=b/\a≠b/\Keeps (λi=>i=B) W W':=by
 obtain⟨i0,hi,hi0,hi1,hi2⟩:=info_parts Uc;refine j3t ?_;intro hmk;simp only [Int.toNat_natCast,hi1,Nat.mul_one] at hmk;obtain⟨Z,hZ⟩:∃Z,Z=madeCells (Value.slice none 0 0).cells n:=⟨_,rfl⟩;rw [<-hZ] at hmk;rw [Aap] at hZ;have hblk:=h
 have hS:∀W',Keeps (λ_=>False) W W'->(W'.cell? ⟨B,14,none⟩=some c14/\W'.cell? ⟨B,15,none⟩=some c15/\W'.frozen? ⟨B,14,none⟩=false/\W'.frozen? ⟨B,15,none⟩=false/\B<W'.heap.size):=λW' hk=>by
  have hb:=Ad h hk (by simp);exact⟨Aa hb 14,Aa hb 15,Ab hb 14,Ab hb 15,lt_of_block hb⟩
 have q1:=Aa h 1;have bl:=lt_of_block h;obtain⟨H,Hblk,Hi,Hi0,Hi1,Hi2,HZ,HS⟩:=hid8 h hblk hi hi0 hi1 hi2 hZ hS;clear hS hZ hi2 hi1 hi0 hi hblk h;go_enter Tryz.func181,Tryz.ntmps181;go_wp2_with fail;refine Al (λ_=>True) (.take 0 (.take 1 (.take 3 (.fork 2 (.move 4 (.take 5 (.take 6 (.take 7 (.move 8 .done))))) 4 (.move 2 (.take 5 (.take 6 (.take 7 (.move 8 .done))))))))) j9 j9 ?_ ?_
 ·trivial
 intro w1 hs1 hk1;have Hk1:=Lib.hid hk1;clear hk1 hs1;refine jR ?_;refine Dn ?_ ?_ trivial
 ·skip
  refine jB ?_;refine jB ?_;obtain⟨s14,s15,s16,s17,sl⟩:=HS.out _ ((Hk1.out.Af (o:= .cells Z 50)).Af (o:= .cells Z 50));have z0:((w1.alloc (.cells Z 50)).alloc (.cells Z 50)).heap[w1.heap.size]?=some (.cells ((List.replicate n si0).map SI.v).toArray 50 (0,0)):=by rw [show((List.replicate n si0).map SI.v).toArray=Z from HZ.out.symm];exact Ar (heap_alloc_new w1 _) _
  have z1:((w1.alloc (.cells Z 50)).alloc (.cells Z 50)).heap[w1.heap.size+1]?=some (.cells ((List.replicate n si0).map SI.v).toArray 50 (0,0)):=by rw [show((List.replicate n si0).map SI.v).toArray=Z from HZ.out.symm];exact Av _ _ (by simp)
  have hka:=(Hk1.out.Af (o:= .cells Z 50)).Af (o:= .cells Z 50);obtain⟨hfb,hfk⟩:=Wx Hblk.out hka (w1.heap.size) (w1.heap.size+1);have hBl:=lt_of_block Hblk.out;have hs1:=Hk1.out.size;have kBB:Keeps (λi=>i=B) ((w1.alloc (.cells Z 50)).alloc (.cells Z 50)) ((((w1.alloc (.cells Z 50)).alloc (.cells Z 50)).setCell ⟨B,14,none⟩ (.slice (some ⟨w1.heap.size,0,none⟩) n n)).setCell ⟨B,15,none⟩ (.slice (some ⟨w1.heap.size+1,0,none⟩) n n)):=(Keeps.setCell (S:=λi=>i=B) _ _ _ rfl).trans (Keeps.setCell _ _ _ (.inl rfl))
  have hfin:∃a b,((((w1.alloc (.cells Z 50)).alloc (.cells Z 50)).setCell ⟨B,14,none⟩ (.slice (some ⟨w1.heap.size,0,none⟩) n n)).setCell ⟨B,15,none⟩ (.slice (some ⟨w1.heap.size+1,0,none⟩) n n)).heap[B]?=some (.cells #[c0,.slice adT n cT,c2,c3,c4,c5,c6,c7,c8,c9,c10,c11,c12,c13,.slice (some ⟨a,0,none⟩) n n,.slice (some ⟨b,0,none⟩) n n,c16,c17,c18,c19] 250 (0,0))/\((((w1.alloc (.cells Z 50)).alloc (.cells Z 50)).setCell ⟨B,14,none⟩ (.slice (some ⟨w1.heap.size,0,none⟩) n n)).setCell ⟨B,15,none⟩ (.slice (some ⟨w1.heap.size+1,0,none⟩) n n)).heap[a]?=some (.cells ((List.replicate n si0).map SI.v).toArray 50 (0,0))/\
   ((((w1.alloc (.cells Z 50)).alloc (.cells Z 50)).setCell ⟨B,14,none⟩ (.slice (some ⟨w1.heap.size,0,none⟩) n n)).setCell ⟨B,15,none⟩ (.slice (some ⟨w1.heap.size+1,0,none⟩) n n)).heap[b]?=some (.cells ((List.replicate n si0).map SI.v).toArray 50 (0,0))/\W.heap.size<=a/\W.heap.size<=b/\a≠b/\Keeps (λi=>i=B) W ((((w1.alloc (.cells Z 50)).alloc (.cells Z 50)).setCell ⟨B,14,none⟩ (.slice (some ⟨w1.heap.size,0,none⟩) n n)).setCell ⟨B,15,none⟩ (.slice (some ⟨w1.heap.size+1,0,none⟩) n n)):=
   ⟨w1.heap.size,w1.heap.size+1,hfb,Ad z0 kBB j6,Ad z1 kBB j6,by omega,by omega,by omega,hfk⟩
  exact j3R
 ·skip
  refine jB ?_;refine jB ?_;obtain⟨s14,s15,s16,s17,sl⟩:=HS.out _ ((Hk1.out.Af (o:= .cells Z 50)).Af (o:= .cells Z 50));have z0:((w1.alloc (.cells Z 50)).alloc (.cells Z 50)).heap[w1.heap.size]?=some (.cells ((List.replicate n si0).map SI.v).toArray 50 (0,0)):=by rw [show((List.replicate n si0).map SI.v).toArray=Z from HZ.out.symm];exact Ar (heap_alloc_new w1 _) _
  have z1:((w1.alloc (.cells Z 50)).alloc (.cells Z 50)).heap[w1.heap.size+1]?=some (.cells ((List.replicate n si0).map SI.v).toArray 50 (0,0)):=by rw [show((List.replicate n si0).map SI.v).toArray=Z from HZ.out.symm];exact Av _ _ (by simp)
  have hka:=(Hk1.out.Af (o:= .cells Z 50)).Af (o:= .cells Z 50);obtain⟨hfb,hfk⟩:=Wx Hblk.out hka (w1.heap.size+1) (w1.heap.size);have hBl:=lt_of_block Hblk.out;have hs1:=Hk1.out.size;have kBB:Keeps (λi=>i=B) ((w1.alloc (.cells Z 50)).alloc (.cells Z 50)) ((((w1.alloc (.cells Z 50)).alloc (.cells Z 50)).setCell ⟨B,14,none⟩ (.slice (some ⟨w1.heap.size+1,0,none⟩) n n)).setCell ⟨B,15,none⟩ (.slice (some ⟨w1.heap.size,0,none⟩) n n)):=(Keeps.setCell (S:=λi=>i=B) _ _ _ rfl).trans (Keeps.setCell _ _ _ (.inl rfl))
  have hfin:∃a b,((((w1.alloc (.cells Z 50)).alloc (.cells Z 50)).setCell ⟨B,14,none⟩ (.slice (some ⟨w1.heap.size+1,0,none⟩) n n)).setCell ⟨B,15,none⟩ (.slice (some ⟨w1.heap.size,0,none⟩) n n)).heap[B]?=some (.cells #[c0,.slice adT n cT,c2,c3,c4,c5,c6,c7,c8,c9,c10,c11,c12,c13,.slice (some ⟨a,0,none⟩) n n,.slice (some ⟨b,0,none⟩) n n,c16,c17,c18,c19] 250 (0,0))/\((((w1.alloc (.cells Z 50)).alloc (.cells Z 50)).setCell ⟨B,14,none⟩ (.slice (some ⟨w1.heap.size+1,0,none⟩) n n)).setCell ⟨B,15,none⟩ (.slice (some ⟨w1.heap.size,0,none⟩) n n)).heap[a]?=some (.cells ((List.replicate n si0).map SI.v).toArray 50 (0,0))/\
   ((((w1.alloc (.cells Z 50)).alloc (.cells Z 50)).setCell ⟨B,14,none⟩ (.slice (some ⟨w1.heap.size+1,0,none⟩) n n)).setCell ⟨B,15,none⟩ (.slice (some ⟨w1.heap.size,0,none⟩) n n)).heap[b]?=some (.cells ((List.replicate n si0).map SI.v).toArray 50 (0,0))/\W.heap.size<=a/\W.heap.size<=b/\a≠b/\Keeps (λi=>i=B) W ((((w1.alloc (.cells Z 50)).alloc (.cells Z 50)).setCell ⟨B,14,none⟩ (.slice (some ⟨w1.heap.size+1,0,none⟩) n n)).setCell ⟨B,15,none⟩ (.slice (some ⟨w1.heap.size,0,none⟩) n n)):=
   ⟨w1.heap.size+1,w1.heap.size,hfb,Ad z1 kBB j6,Ad z0 kBB j6,by omega,by omega,by omega,hfk⟩
  exact j3R
theorem rowSame{W W':World}{e:TypeId}{sz m:Nat}{v:Value}{xs:List Value}(h:W.ownsRow 0 e sz v m xs)(hb:∀g,v.ownBlock=some g->W'.heap[g]?=W.heap[g]?):W'.ownsRow 0 e sz v m xs:=by
 obtain⟨h1,h2⟩:=h;refine⟨h1, ?_⟩;rcases h2 with h2|⟨g,cap,cur,hv,h3,h4,h5⟩
 ·exact .inl h2
 ·exact .inr ⟨g,cap,cur,hv,h3,(hb g (by rw [hv];rfl)).trans h4,h5⟩
section
variable {w0:World} {X:Fx} {B:Nat} {t:Tm} {n:Nat} {vt:Value} {L:List Ev} {f0 f1 f2:Value} {s:St} {vl vb vr:Value} {g0 g1:Nat} {S0 S1:List SI} {vo:Value} {P:List SV} {W W':World}
theorem RunV.Xx(h:RunV w0 X B t n vt L f0 f1 f2 s vl vb vr g0 g1 S0 S1 vo P W):RunV w0 ⟨X.X,X.X,W⟩ B t n vt L f0 f1 f2 s vl vb vr g0 g1 S0 S1 vo P W:=
 { h with
  yx:=λ_ h=>h
  fz:=λ_ _=>rfl }
end
structure DayP(t:Tm)(T:List Ev)(n:Nat)(td:Int)(A:List (Int×Int))(s:St)(Z:St×Int):Prop where
 sp:∃fr te S',A.drop s.out.length=(fr,te)::S'/\Qt fr te/\(te<td->SpanC td (te+1) S')/\fr<=s.day/\s.day<=te/\StOk n s (s.day-fr).toNat/\walkD t T n (td-s.day).toNat ((fr,te)::S') s=Z
 dt:s.day<=td
 i:s.i<=T.length
section
variable {t:Tm} {T:List Ev} {n:Nat} {td:Int} {A:List (Int×Int)} {s:St} {Z:St×Int}
theorem DayP.err(h:DayP t T n td A s Z)(he:(evR s.day (T.drop s.i) s.i s.p s.R).2.2.2≠0):Z.2=(evR s.day (T.drop s.i) s.i s.p s.R).2.2.2:=by
 obtain⟨fr,te,S',_,_,_,_,_,_,hw⟩:=h.sp;rcases hd:(td-s.day).toNat with _|d
 ·rw [hd] at hw;unfold walkD at hw;rw [<-hw]
 ·rw [hd] at hw;unfold walkD at hw;rw [if_neg he] at hw;rw [<-hw]
theorem DayP.last(h:DayP t T n td A s Z)(hd:s.day=td):Z=(evSt s (evR s.day (T.drop s.i) s.i s.p s.R),(evR s.day (T.drop s.i) s.i s.p s.R).2.2.2):=by
 obtain⟨fr,te,S',_,_,_,_,_,_,hw⟩:=h.sp;rw [show(td-s.day).toNat=0 by omega] at hw;unfold walkD at hw;exact hw.symm
theorem DayP.go(h:DayP t T n td A s Z)(he:(evR s.day (T.drop s.i) s.i s.p s.R).2.2.2=0)(hd:s.day≠td)(hz:t.err=0)(hn:t.trs.length=n):
  ∃fr te,A[s.out.length]?=some (fr,te)/\Qt fr te/\StOk n (endSt (evSt s (evR s.day (T.drop s.i) s.i s.p s.R)) n n) ((s.day-fr).toNat+1)/\fr<=s.day/\s.day<=te/\s.out.length<A.length/\
   (te≠s.day->DayP t T n td A { endSt (evSt s (evR s.day (T.drop s.i) s.i s.p s.R)) n n with day:=s.day+1 } Z)/\
   (te=s.day->Fa t T n (endSt (evSt s (evR s.day (T.drop s.i) s.i s.p s.R)) n n) fr te=none->Z.2=5)/\
   (te=s.day->∀s2,Fa t T n (endSt (evSt s (evR s.day (T.drop s.i) s.i s.p s.R)) n n) fr te=some s2->DayP t T n td A { s2 with day:=s.day+1 } Z):=by
 obtain⟨fr,te,S',hA,hok,hnx,hfr,hte,hs,hw⟩:=h.sp;have hdt:=h.dt;have hi:=h.i;obtain⟨d,hdd⟩:∃d,(td-s.day).toNat=d+1:=⟨(td-s.day).toNat-1,by omega⟩;rw [hdd] at hw;unfold walkD at hw;rw [if_pos he] at hw
 have hget:A[s.out.length]?=some (fr,te):=by
  have h1:=congrArg (λl=>l[0]?) hA
  simpa using h1
 have hlt:s.out.length<A.length:=by
  obtain⟨hh,_⟩:=List.getElem?_eq_some_iff.1 hget;exact hh
 have hs1:StOk n (endSt (evSt s (evR s.day (T.drop s.i) s.i s.p s.R)) n n) ((s.day-fr).toNat+1):=(hs.ev he).fin;obtain⟨_,_,_,_,i1,i2⟩:=evR_ok s.day (T.drop s.i) s.i s.p s.R hs.pr hs.rt he
 have hi2:(evR s.day (T.drop s.i) s.i s.p s.R).1<=T.length:=by
  rw [List.length_drop] at i2;omega
 refine⟨fr,te,hget,hok,hs1,hfr,hte,hlt,λhne=> ?_,λhe hc=> ?_,λhe s2 hc=> ?_⟩
 ·dsimp only at hw;rw [if_neg hne] at hw;refine⟨⟨fr,te,S',hA,hok,hnx,by show fr<=s.day+1;omega,by show s.day+1<=te;omega, ?_, ?_⟩,by show s.day+1<=td;omega,hi2⟩
  ·show StOk n _ (s.day+1-fr).toNat;rw [show(s.day+1-fr).toNat=(s.day-fr).toNat+1 by omega];exact⟨hs1.pr,hs1.nb,hs1.nr,hs1.rt,hs1.n0,hs1.n1,hs1.m0,hs1.m1⟩
  ·exact j3S
 ·dsimp only at hw;rw [if_pos he,hc] at hw;rw [<-hw]
 ·dsimp only at hw;rw [if_pos he,hc] at hw;obtain⟨c1,c2,c3,c4⟩:=Qo hz hn hs1 hc;obtain⟨te',S'',hS,hok',hfr',hnx'⟩:=(hnx j6).head;subst hS
  have hA2:A.drop (s.out.length+1)=(te+1,te')::S'':=by
   rw [<-List.drop_drop,hA];rfl
  have hlo:=hok'.le;refine⟨⟨te+1,te',S'', ?_,hok',hnx',by show te+1<=s.day+1;omega,by show s.day+1<=te';omega, ?_, ?_⟩,by show s.day+1<=td;omega, ?_⟩
  ·show A.drop s2.out.length=_;rw [c2];exact hA2
  ·show StOk n _ (s.day+1-(te+1)).toNat;rw [show(s.day+1-(te+1)).toNat=0 by omega];exact⟨c1.pr,c1.nb,c1.nr,c1.rt,c1.n0,c1.n1,c1.m0,c1.m1⟩
  ·exact j3S
  ·show s2.i<=T.length;rw [c3];exact hi2
theorem DayP.start{L:List Ev}(hz:Dl t L td=0)(hn:t.trs.length=n):DayP t (sortL L) n td (allL t.start t.cyc td) (st0 t) (walkR t L td):=by
 have hr:=Ea hz;have hA:allL t.start t.cyc td=(findW t.cyc td 300 t.start).1:=by unfold allL;rw [if_pos hr.fd]
 obtain⟨hs,_⟩:=Kn t.cyc td 300 t.start hr.fd;obtain⟨te,S',hS,hok,_,hnx⟩:=hs.head;refine⟨⟨t.start,te,S', ?_,hok,hnx,Int.le_refl _,hok.le, ?_, ?_⟩,hr.d0,Nat.zero_le _⟩
 ·rw [hA,hS];rfl
 ·show StOk n (st0 t) (t.start-t.start).toNat;rw [show(t.start-t.start).toNat=0 by omega,<-hn];exact st0_ok hr.tm
 ·unfold walkR;rw [if_pos hz,hA,hS,hn];rfl
theorem Abp(st cd day:Int):(allL st cd day).length<=300:=by
 unfold allL
 split
 ·rename_i h;exact(Kn cd day 300 st h).2
 ·simp
end
structure Gh(α:Type) where
 ev:α->Ev->Ps->Ps->α
 day:α->Ps->α
 cl:α->St->St->α
section
variable {α:Type} (γ:Gh α)
def evG(day:Int):List Ev->Ps->List Int->α->α
 | [],_,_,a=>a
 |e::M,p,R,a=>if e.day=day then(if(Dt p R e).2.2=0 then evG day M (Dt p R e).1 (Dt p R e).2.1 (γ.ev a e p (Dt p R e).1) else a) else a
def walkG(t:Tm)(T:List Ev)(n:Nat):Nat->List (Int×Int)->St->α->α
 |0,_,s,a=>evG γ s.day (T.drop s.i) s.p s.R a
 |d+1,S,s,a=>if(evR s.day (T.drop s.i) s.i s.p s.R).2.2.2=0 then
   (match S with
    | []=>a
    |(fr,te)::S'=>if te=s.day then(match Fa t T n (endSt (evSt s (evR s.day (T.drop s.i) s.i s.p s.R)) n n) fr te with
      |none=>a
      |some s2=>walkG t T n d S' { s2 with day:=s.day+1 } (γ.cl (γ.day (evG γ s.day (T.drop s.i) s.p s.R a) (evR s.day (T.drop s.i) s.i s.p s.R).2.1) (endSt (evSt s (evR s.day (T.drop s.i) s.i s.p s.R)) n n) s2))
     else walkG t T n d ((fr,te)::S') { endSt (evSt s (evR s.day (T.drop s.i) s.i s.p s.R)) n n with day:=s.day+1 } (γ.day (evG γ s.day (T.drop s.i) s.p s.R a) (evR s.day (T.drop s.i) s.i s.p s.R).2.1))
  else a
def DayS(t:Tm)(T:List Ev)(n:Nat)(td:Int)(A:List (Int×Int))(s:St)(a z:α):Prop:=walkG γ t T n (td-s.day).toNat (A.drop s.out.length) s a=z
end
section
variable {α:Type} {γ:Gh α} {t:Tm} {T:List Ev} {n:Nat} {td:Int} {A:List (Int×Int)} {s:St} {a z:α}
theorem DayS.last(h:DayS γ t T n td A s a z)(hd:s.day=td):evG γ s.day (T.drop s.i) s.p s.R a=z:=by
 unfold DayS at h;rw [show(td-s.day).toNat=0 by omega] at h;exact h
theorem DayS.go(h:DayS γ t T n td A s a z)(he:(evR s.day (T.drop s.i) s.i s.p s.R).2.2.2=0)(hd:s.day<td){fr te:Int}(hA:A[s.out.length]?=some (fr,te)):
  (te≠s.day->DayS γ t T n td A { endSt (evSt s (evR s.day (T.drop s.i) s.i s.p s.R)) n n with day:=s.day+1 } (γ.day (evG γ s.day (T.drop s.i) s.p s.R a) (evR s.day (T.drop s.i) s.i s.p s.R).2.1) z)/\
  (te=s.day->∀s2,Fa t T n (endSt (evSt s (evR s.day (T.drop s.i) s.i s.p s.R)) n n) fr te=some s2->s2.out.length=s.out.length+1->
   DayS γ t T n td A { s2 with day:=s.day+1 } (γ.cl (γ.day (evG γ s.day (T.drop s.i) s.p s.R a) (evR s.day (T.drop s.i) s.i s.p s.R).2.1) (endSt (evSt s (evR s.day (T.drop s.i) s.i s.p s.R)) n n) s2) z):=by
 unfold DayS at h;obtain⟨d,hdd⟩:∃d,(td-s.day).toNat=d+1:=⟨(td-s.day).toNat-1,by omega⟩
 have hdr:A.drop s.out.length=(fr,te)::A.drop (s.out.length+1):=by
  obtain⟨h1,h2⟩:=List.getElem?_eq_some_iff.1 hA;rw [List.drop_eq_getElem_cons h1,h2]
 rw [hdd,hdr] at h;unfold walkG at h;rw [if_pos he] at h;dsimp only at h;refine⟨λhne=> ?_,λhee s2 hc hl=> ?_⟩
 ·rw [if_neg hne] at h;show walkG γ t T n (td-(s.day+1)).toNat (A.drop s.out.length) _ _=z;rw [show(td-(s.day+1)).toNat=d by omega,hdr];exact h
 ·rw [if_pos hee,hc] at h;show walkG γ t T n (td-(s.day+1)).toNat (A.drop s2.out.length) _ _=z;rw [show(td-(s.day+1)).toNat=d by omega,hl];exact h
end
section
variable {t:Tm} {T:List Ev} {n:Nat} {td:Int} {A:List (Int×Int)} {s:St} {D DD:List (List Int)}
end
def wkX(b8 b13:Nat)(vS:Value):Nat->Prop:=λi=>i=b8\/i=b13\/vS.ownBlock=some i
structure Wt(α:Type) where
 I:α->(Nat->Prop)->World->Prop
 fr:∀{a:α} {G:Nat->Prop} {W W':World},I a G W->(∀b,G b->W'.heap[b]?=W.heap[b]?)->I a G W'
 lt:∀{a:α} {G:Nat->Prop} {W:World} {b:Nat},I a G W->G b->b<W.heap.size
def wt0:Wt Unit where
 I:=λ_ G _=>∀b,¬G b
 fr:=λh _=>h
 lt:=λh hb=>absurd hb (h _)
def fxG(K G:Nat->Prop)(W:World):Fx:=⟨λi=>K i\/G i,λi=>K i\/G i,W⟩
def RunI{α:Type}(V:Wt α)(w:World)(K:Nat->Prop)(B:Nat)(t:Tm)(n:Nat)(vt:Value)(L:List Ev)(f0 f1 f2:Value)(s:St)(a:α)(vl vb vr:Value)(g0 g1:Nat)(S0 S1:List SI)(vo:Value)(P:List SV)(Z W:World):Prop:=
 ∃G,RunV w (fxG K G W) B t n vt L f0 f1 f2 s vl vb vr g0 g1 S0 S1 vo P W/\V.I a G W/\(∀i,K i->¬G i)/\(∀i,K i->W.heap[i]?=Z.heap[i]?)
section
variable {α:Type} {V:Wt α} {w:World} {K:Nat->Prop} {B:Nat} {t:Tm} {n:Nat} {vt:Value} {L:List Ev} {f0 f1 f2:Value} {s s':St} {a a':α} {vl vb vr vb' vr':Value} {g0 g1 g0' g1':Nat} {S0 S1 S0' S1':List SI} {vo vo':Value} {P P':List SV} {Z W W':World}
theorem RunI.same{G:Nat->Prop}(hI:V.I a G W)(hK:∀i,K i->¬G i)(hr:RunV w (fxG K G W) B t n vt L f0 f1 f2 s' vl vb' vr' g0' g1' S0' S1' vo' P' W'):RunI V w K B t n vt L f0 f1 f2 s' a vl vb' vr' g0' g1' S0' S1' vo' P' W W':=
 ⟨G,hr.Xx,V.fr hI λb hb=>hr.fz b (.inr hb),hK,λi hi=>hr.fz i (.inl hi)⟩
theorem RunI.keep0(h:RunI V w K B t n vt L f0 f1 f2 s a vl vb vr g0 g1 S0 S1 vo P Z W)(hk:Keeps (λ_=>False) W W'):RunI V w K B t n vt L f0 f1 f2 s a vl vb vr g0 g1 S0 S1 vo P Z W':=by
 obtain⟨G,hr,hI,hK,hZ⟩:=h;have h1:=hr.keep0 hk;exact⟨G,h1.Xx,V.fr hI λb hb=>h1.fz b (.inr hb),hK,λi hi=>(h1.fz i (.inl hi)).trans (hZ i hi)⟩
theorem RunI.self(h:RunI V w K B t n vt L f0 f1 f2 s a vl vb vr g0 g1 S0 S1 vo P Z W):RunI V w K B t n vt L f0 f1 f2 s a vl vb vr g0 g1 S0 S1 vo P W W:=by
 obtain⟨G,hr,hI,hK,_⟩:=h;exact⟨G,hr.Xx,hI,hK,λ_ _=>rfl⟩
theorem RunI.trans(h:RunI V w K B t n vt L f0 f1 f2 s a vl vb vr g0 g1 S0 S1 vo P Z W)(h2:RunI V w K B t n vt L f0 f1 f2 s' a' vl vb' vr' g0' g1' S0' S1' vo' P' W W'):RunI V w K B t n vt L f0 f1 f2 s' a' vl vb' vr' g0' g1' S0' S1' vo' P' Z W':=by
 obtain⟨_,_,_,_,hZ⟩:=h;obtain⟨G,hr,hI,hK,hZ2⟩:=h2;exact⟨G,hr,hI,hK,λi hi=>(hZ2 i hi).trans (hZ i hi)⟩
end
structure DayW{α:Type}(V:Wt α)(w:World)(B b8 b13:Nat)(t:Tm)(n:Nat)(vt f0 f1 f2:Value)(T:List Ev)(A:List (Int×Int))(vS:Value)(s:St)(a:α)(W:World):Prop where
 run:∃vl vb vr g0 g1 S0 S1 vo P,RunI V w (wkX b8 b13 vS) B t n vt T f0 f1 f2 s a vl vb vr g0 g1 S0 S1 vo P W W
 pos:W.heap[b8]?=some (.cells #[.slice none 0 0,.int .i64 0,.int .i64 0] 52 (0,0))
 spn:∃x y,W.heap[b13]?=some (.cells #[.int .i64 x,.int .i64 y] 57 (0,0))
 row:W.ownsRow 0 57 2 vS A.length (A.flatMap spc)
 lo:w.heap.size<=b8/\w.heap.size<=b13/\∀g,vS.ownBlock=some g->w.heap.size<=g
 nv:∀g,vS.ownBlock=some g->g≠b13
section
variable {α:Type} {V:Wt α} {w:World} {B b8 b13:Nat} {t:Tm} {n:Nat} {vt f0 f1 f2:Value} {T:List Ev} {A:List (Int×Int)} {vS:Value} {s s':St} {a a':α} {W W':World}
theorem DayW.call(h:DayW V w B b8 b13 t n vt f0 f1 f2 T A vS s a W){vl vb vr:Value}{g0 g1:Nat}{S0 S1:List SI}{vo:Value}{P:List SV}(hr:RunI V w (wkX b8 b13 vS) B t n vt T f0 f1 f2 s' a' vl vb vr g0 g1 S0 S1 vo P W W'):DayW V w B b8 b13 t n vt f0 f1 f2 T A vS s' a' W':=by
 obtain⟨G,hr,hI,hK,hb⟩:=hr;obtain⟨x,y,hxy⟩:=h.spn;exact⟨⟨_,_,_,_,_,_,_,_,_,G,hr,hI,hK,λ_ _=>rfl⟩,(hb _ (.inl rfl)).trans h.pos,⟨x,y,(hb _ (.inr (.inl rfl))).trans hxy⟩,rowSame h.row λg hg=>hb g (.inr (.inr hg)),h.lo,h.nv⟩
theorem DayW.span(h:DayW V w B b8 b13 t n vt f0 f1 f2 T A vS s a W)(x y:Int):DayW V w B b8 b13 t n vt f0 f1 f2 T A vS s a ((W.setCell ⟨b13,0,none⟩ (.int .i64 x)).setCell ⟨b13,1,none⟩ (.int .i64 y))/\((W.setCell ⟨b13,0,none⟩ (.int .i64 x)).setCell ⟨b13,1,none⟩ (.int .i64 y)).heap[b13]?=some (.cells #[.int .i64 x,.int .i64 y] 57 (0,0)):=by
 obtain⟨x0,y0,hs⟩:=h.spn;have hb:((W.setCell ⟨b13,0,none⟩ (.int .i64 x)).setCell ⟨b13,1,none⟩ (.int .i64 y)).heap[b13]?=some (.cells #[.int .i64 x,.int .i64 y] 57 (0,0)):=(heap_setCell_same _ _ 1 _ _ _ ((heap_setCell_same _ _ 0 _ _ _ hs).trans rfl)).trans rfl;have hk:Keeps (λi=>i=b13) W ((W.setCell ⟨b13,0,none⟩ (.int .i64 x)).setCell ⟨b13,1,none⟩ (.int .i64 y)):=(Keeps.setCell (S:=λi=>i=b13) _ _ _ rfl).trans (Keeps.setCell _ _ _ (.inl rfl));obtain⟨vl,vb,vr,g0,g1,S0,S1,vo,P,G,hr,hI,hK,_⟩:=h.run;have hr2:RunV w ⟨λi=>wkX b8 b13 vS i\/G i,λ_=>False,W⟩ B t n vt T f0 f1 f2 s vl vb vr g0 g1 S0 S1 vo P W:={ hr with yx:=λ_ h=>h.elim,fz:=λ_ h=>h.elim };have hr3:=(hr2.keep hk (λb hb=>by have e:b=b13:=hb;exact .inl (.inr (.inl e))) (λ_ _ h=>h)).Xx;refine⟨⟨⟨vl,vb,vr,g0,g1,S0,S1,vo,P,G,hr3,V.fr hI λb hb=>hk.block b (V.lt hI hb) (λe=>hK b13 (.inr (.inl rfl)) (by have e':b=b13:=e;exact e'▸hb)),hK,λ_ _=>rfl⟩,Ad h.pos hk (λe=> ?_),⟨x,y,hb⟩,hk.row h.row (λg hg e=>h.nv g hg e),h.lo,h.nv⟩,hb⟩;have e':b8=b13:=e;have h1:=h.pos;rw [e',hs] at h1;exact j0o
theorem DayW.keep0(h:DayW V w B b8 b13 t n vt f0 f1 f2 T A vS s a W)(hk:Keeps (λ_=>False) W W'):DayW V w B b8 b13 t n vt f0 f1 f2 T A vS s a W':=by
 obtain⟨vl,vb,vr,g0,g1,S0,S1,vo,P,hr⟩:=h.run;exact h.call (hr.keep0 hk)
theorem DayW.day(h:DayW V w B b8 b13 t n vt f0 f1 f2 T A vS s a W)(d:Int):DayW V w B b8 b13 t n vt f0 f1 f2 T A vS { s with day:=d } a (W.setCell ⟨B,9,none⟩ (.int .i64 d)):=by
 obtain⟨vl,vb,vr,g0,g1,S0,S1,vo,P,G,hr,hI,hK,_⟩:=h.run;exact h.call (RunI.same hI hK (hr.setDay d))
theorem DayW.c9(h:DayW V w B b8 b13 t n vt f0 f1 f2 T A vS s a W):W.cell? ⟨B,9,none⟩=some (.int .i64 s.day)/\W.frozen? ⟨B,9,none⟩=false/\B<W.heap.size:=by
 obtain⟨vl,vb,vr,g0,g1,S0,S1,vo,P,G,hr,_⟩:=h.run;exact⟨Aa hr.blk 9,Ab hr.blk 9,lt_of_block hr.blk⟩
theorem DayW.keeps(h:DayW V w B b8 b13 t n vt f0 f1 f2 T A vS s a W):∃G,V.I a G W/\Keeps G w W/\¬G b8:=by
 obtain⟨_,_,_,_,_,_,_,_,_,G,hr,hI,hK,_⟩:=h.run
 exact⟨G,hI,hr.kp.mono λk hk hX=>by
  obtain⟨h1,h2,h3⟩:=h.lo;rcases hX with hX|hX
  ·exfalso;rcases hX with rfl|rfl|hX
   ·omega
   ·omega
   ·have:=h3 k hX;omega
  ·exact hX,hK _ (.inl rfl)⟩
end
def EvOk{α:Type}(V:Wt α)(γ:Gh α)(f0 f1 f2:Value)(n:Nat):Prop:=∀{w:World} {K:Nat->Prop} {B:Nat} {t:Tm} {vt:Value} {L:List Ev} {s:St} {a:α} {vl vb vr:Value} {g0 g1:Nat} {S0 S1:List SI} {vo:Value} {P:List SV} {W:World},RunI V w K B t n vt L f0 f1 f2 s a vl vb vr g0 g1 S0 S1 vo P W W->n<=1000->L.length<=1000000->s.i<=L.length->s.p.Bg=true->
 ∀Z:Nat×Ps×List Int×Int,evR s.day (L.drop s.i) s.i s.p s.R=Z->Calls Tryz.prog 182 #[(.pointer (some ⟨B,0,none⟩))] W λe W'=>e= .returned (.int .i64 Z.2.2.2)/\∃vb' vr' a',(Z.2.2.2=0->a'=evG γ s.day (L.drop s.i) s.p s.R a)/\RunI V w K B t n vt L f0 f1 f2 (evSt s Z) a' vl vb' vr' g0 g1 S0 S1 vo P W W'
def EndOk{α:Type}(V:Wt α)(γ:Gh α)(J:Int->α->Prop)(f0 f1 f2:Value)(n:Nat):Prop:=∀{w:World} {K:Nat->Prop} {B:Nat} {t:Tm} {vt:Value} {L:List Ev} {s:St} {a:α} {vl vb vr:Value} {g0 g1:Nat} {S0 S1:List SI} {vo:Value} {P:List SV} {W:World},RunI V w K B t n vt L f0 f1 f2 s a vl vb vr g0 g1 S0 S1 vo P W W->n<=1000->(∀r∈s.e0,r.length<=100000)->(∀r∈s.e1,r.length<=100000)->s.p.Bg=true->J s.day a-> -135140<=s.day->s.day<=2932896->
 Calls Tryz.prog 183 #[(.pointer (some ⟨B,0,none⟩))] W λe W'=>e= .returned (.tuple #[])/\∃S0' S1',RunI V w K B t n vt L f0 f1 f2 (endSt s n n) (γ.day a s.p) vl vb vr g0 g1 S0' S1' vo P W W'
def ClOk{α:Type}(V:Wt α)(γ:Gh α)(f0 f1 f2:Value)(n:Nat):Prop:=∀{w:World} {K:Nat->Prop} {B:Nat} {t:Tm} {vt:Value} {L:List Ev} {s:St} {a:α} {vl vb vr:Value} {g0 g1:Nat} {S0 S1:List SI} {vo:Value} {P:List SV} {W:World},RunI V w K B t n vt L f0 f1 f2 s a vl vb vr g0 g1 S0 S1 vo P W W->
 t.err=0->t.trs.length=n->L.length<=1000000->(∀x∈L,x.kind=2->0<=x.amount/\x.amount<=1000000000000000)->s.p.Bg=true->(∀x∈s.R,0<=x/\x<=10000000)->(∀r∈s.e0,∀y∈r,0<=y/\y<=1000000000000000)->(∀r∈s.e1,∀y∈r,0<=y/\y<=10000000)->
 (∀(k:Nat) (a b:List Int),s.e0[k]?=some a->s.e1[k]?=some b->a.length=b.length/\a.length<=40000)->s.out.length+1<=300->∀fr te:Int,(-135140<=fr/\fr<=te/\te<=2932896)->∀C:Option St,Fa t L n s fr te=C->
 Calls Tryz.prog 184 #[(.pointer (some ⟨B,0,none⟩)),.agg #[.int .i64 fr,.int .i64 te]] W λe W'=>match C with
   |none=>e= .returned (.int .i64 5)/\RunI V w K B t n vt L f0 f1 f2 s a vl vb vr g0 g1 S0 S1 vo P W W'
   |some s'=>e= .returned (.int .i64 0)/\∃vb' g0' g1' vo' P',RunI V w K B t n vt L f0 f1 f2 s' (γ.cl a s s') vl vb' vr g0' g1' (List.replicate n si0) (List.replicate n si0) vo' P' W W'
structure GhOk{α:Type}(γ:Gh α)(J:Int->α->Prop):Prop where
 ev:∀(d:Int) (a:α) (e:Ev) (p q:Ps),J d a->J d (γ.ev a e p q)
 day:∀(d:Int) (a:α) (p:Ps),J d a->J (d+1) (γ.day a p)
 cl:∀(d:Int) (a:α) (s s':St),J d a->J d (γ.cl a s s')
theorem Yk{α:Type}{γ:Gh α}{J:Int->α->Prop}(h:GhOk γ J)(d:Int):∀(M:List Ev) (p:Ps) (R:List Int) (a:α),J d a->J d (evG γ d M p R a)
 | [],_,_,_,ha=>ha
 |e::M,p,R,a,ha=>by
  unfold evG
  split
  ·split
   ·exact Yk h d M _ _ _ (h.ev _ _ _ _ _ ha)
   ·exact ha
  ·exact ha
theorem evG_id{α:Type}{γ:Gh α}(h:∀a e p q,γ.ev a e p q=a)(d:Int):∀(M:List Ev) (p:Ps) (R:List Int) (a:α),evG γ d M p R a=a
 | [],_,_,_=>rfl
 |e::M,p,R,a=>by
  unfold evG
  split
  ·split
   ·rw [h];exact evG_id h d M _ _ a
   ·rfl
  ·rfl
theorem evOk_nil{α:Type}(V:Wt α){γ:Gh α}(h:∀a e p q,γ.ev a e p q=a)(f1 f2:Value)(n:Nat):EvOk V γ .nilFunc f1 f2 n:=by
 rintro w K B t vt L s a vl vb vr g0 g1 S0 S1 vo P W ⟨G,hr,hI,hK,_⟩ hn hl hi _ Z hZ;refine(Vl hr hn hl hi Z hZ).mono ?_;rintro e W' ⟨rfl,vb',vr',hr'⟩;exact⟨rfl,vb',vr',a,λ_=>(evG_id h _ _ _ _ _).symm,RunI.same hI hK hr'⟩
theorem endOk_nil{α:Type}(V:Wt α){γ:Gh α}(J:Int->α->Prop)(h:∀a p,γ.day a p=a)(f0 f2:Value)(n:Nat):EndOk V γ J f0 .nilFunc f2 n:=by
 rintro w K B t vt L s a vl vb vr g0 g1 S0 S1 vo P W ⟨G,hr,hI,hK,_⟩ hn h0 h1 _ _ _ _;refine(Ac3 hr hn h0 h1).mono ?_;rintro e W' ⟨rfl,S0',S1',hr'⟩;rw [h];exact⟨rfl,S0',S1',RunI.same hI hK hr'⟩
theorem clOk_nil{α:Type}(V:Wt α){γ:Gh α}(h:∀a s s',γ.cl a s s'=a)(f0 f1:Value)(n:Nat):ClOk V γ f0 f1 .nilFunc n:=by
 rintro w K B t vt L s a vl vb vr g0 g1 S0 S1 vo P W ⟨G,hr,hI,hK,_⟩ hz hn hl hok hpr hrt he0 he1 hlen hcy fr te hsp C hC;refine(Xu hr hz hn hl hok hpr hrt he0 he1 hlen hcy fr te hsp C hC).mono ?_;intro e W' h';rcases C with _|s'
 ·exact⟨h'.1,RunI.same hI hK h'.2⟩
 ·obtain⟨h1,vb',g0',g1',vo',P',hr'⟩:=h';exact⟨h1,vb',g0',g1',vo',P',by rw [h];exact RunI.same hI hK hr'⟩
theorem tbS.keepS{E:Nat}{t:Tm}{v:Value}{w w':World}{S:Nat->Prop}(h:tbS E t v w)(hk:Keeps S w w')(hS:¬S E):tbS E t v w':=by
 obtain⟨h0,h1,h2,h3,h4,h5,h6⟩:=h;exact⟨(hk.cell (Ah h0) hS).trans h0,(hk.cell (Ah h1) hS).trans h1,(hk.cell (Ah h2) hS).trans h2,(hk.cell (Ah h3) hS).trans h3,(hk.cell (Ah h4) hS).trans h4,(hk.cell (Ah h5) hS).trans h5,(hk.cell (Ah h6) hS).trans h6⟩
structure PreR(w:World)(B b8 b13:Nat)(t:Tm)(n:Nat)(vt:Value)(T:List Ev)(A:List (Int×Int))(vS vl vb:Value)(f0 f1 f2:Value)(vr:Value)(k:Nat)(W:World):Prop where
 blk:W.heap[B]?=some (.cells #[.int .i64 t.limit,vt,.int .i64 t.cyc,.int .i64 t.due,.int .i64 t.minFixed,.int .i64 t.minPart,.int .i64 t.start,vl,.int .i64 0,.int .i64 t.start,vb,.int .i64 0,.int .i64 0,vr,.slice none 0 0,.slice none 0 0,.slice none 0 0,f0,f1,f2] 250 (0,0))
 tb:tbS w.heap.size t vt W
 evs:W.ownsRow 0 96 5 vl T.length (T.flatMap Ev.cells)
 bal:W.ownsRow 0 2 1 vb n ((List.replicate n (0:Int)).flatMap i64c)
 rts:W.ownsRow 0 2 1 vr k (((t.trs.map Tn.rate).take k).flatMap i64c)
 pos:W.heap[b8]?=some (.cells #[.slice none 0 0,.int .i64 0,.int .i64 0] 52 (0,0))
 spn:W.heap[b13]?=some (.cells #[.int .i64 0,.int .i64 0] 57 (0,0))
 row:W.ownsRow 0 57 2 vS A.length (A.flatMap spc)
 lo:w.heap.size<=b8/\w.heap.size<=b13/\w.heap.size<=B/\∀g,vS.ownBlock=some g->w.heap.size<=g
 nv:∀g,vS.ownBlock=some g->g≠b13
 wl:∀g,vl.ownBlock=some g->w.heap.size<=g
 wb:∀g,vb.ownBlock=some g->w.heap.size<=g
 wr:∀g,vr.ownBlock=some g->w.heap.size<=g
 br:∀g,vb.ownBlock=some g->vr.ownBlock≠some g
 tn:vr.ownBlock≠some w.heap.size
 kp:Keeps (λ_=>False) w W
section
variable {w:World} {B b8 b13:Nat} {t:Tm} {n:Nat} {vt:Value} {T:List Ev} {A:List (Int×Int)} {vS vl vb f0 f1 f2 vr:Value} {k:Nat} {W W':World}
theorem PreR.keep0(h:PreR w B b8 b13 t n vt T A vS vl vb f0 f1 f2 vr k W)(hk:Keeps (λ_=>False) W W'):PreR w B b8 b13 t n vt T A vS vl vb f0 f1 f2 vr k W':=
 { h with
  blk:=Ad h.blk hk (by simp)
  tb:=h.tb.keep hk
  evs:=h.evs.of_keeps hk
  bal:=h.bal.of_keeps hk
  rts:=h.rts.of_keeps hk
  pos:=Ad h.pos hk (by simp)
  spn:=Ad h.spn hk (by simp)
  row:=h.row.of_keeps hk
  kp:=h.kp.nt hk }
theorem PreR.app(h:PreR w B b8 b13 t n vt T A vS vl vb f0 f1 f2 vr k W)(hnB:¬B=w.heap.size){x:Int}(hx:(t.trs.map Tn.rate)[k]?=some x){v9:Value}(hk:Keeps (λi=>vr.ownBlock=some i) W W')(hr:W'.ownsRow 0 2 1 v9 (k+1) (((t.trs.map Tn.rate).take k++ [x]).flatMap i64c))
  (hf:v9.ownBlock=vr.ownBlock\/∃g,v9.ownBlock=some g/\W.heap.size<=g):PreR w B b8 b13 t n vt T A vS vl vb f0 f1 f2 v9 (k+1) (W'.setCell ⟨B,13,none⟩ v9):=by
 have nb:∀{e:TypeId} {b:Nat} {c:Array Value},W.heap[b]?=some (.cells c e (0,0))->e≠2->¬vr.ownBlock=some b:=λhb hne=>Ai h.rts hb hne;have nr:∀{e:TypeId} {sz m:Nat} {u:Value} {xs:List Value},W.ownsRow 0 e sz u m xs->e≠2->∀b,u.ownBlock=some b->¬vr.ownBlock=some b:=λhr' hne b hb e=>Eu hr' h.rts hne hb e;have hB:=Ad h.blk hk (nb h.blk j7);have kB:Keeps (λi=>i=B) W' (W'.setCell ⟨B,13,none⟩ v9):=Keeps.setCell _ _ _ rfl;have hne:∀{e:TypeId} {sz m:Nat} {v:Value} {xs:List Value},W'.ownsRow 0 e sz v m xs->250≠e->∀i,v.ownBlock=some i->¬i=B:=λhr hne i hi e=>by subst e;exact Ai hr hB hne hi
 have nog:∀{e:TypeId} {g:Nat} {c:Array Value},W'.heap[g]?=some (.cells c e (0,0))->250≠e->¬g=B:=λhg hne' e=>by
  subst e;rw [hB] at hg;exact j1P
 have hp:=Ad h.pos hk (nb h.pos j7);have hs:=Ad h.spn hk (nb h.spn j7);have he:=hk.row h.evs (nr h.evs j7);have ho:=hk.row h.row (nr h.row j7);have hbl:=hk.row h.bal (λb hb=>h.br b hb);have hsz:=h.kp.size;refine⟨(heap_setCell_same _ _ 13 _ _ _ hB).trans rfl, ?_,kB.row he (hne he j7),kB.row hbl (hne hbl j7), ?_,Ad hp kB (nog hp j7),Ad hs kB (nog hs j7),kB.row ho (hne ho j7),h.lo,h.nv,h.wl,h.wb,λg hg=> ?_,λg hg e=> ?_,λe=> ?_, ?_⟩
 ·exact(h.tb.keepS hk h.tn).keepS kB (λe=>hnB (Eq.symm e))
 ·rw [take_snoc' hx];exact kB.row hr (hne hr j7)
 ·rcases hf with e|⟨g',e,hh⟩
  ·exact h.wr g (e▸hg)
  ·rw [e] at hg;injection hg with hg;omega
 ·rcases hf with e'|⟨g',e',hh⟩
  ·exact h.br g hg (e'▸e)
  ·rw [e'] at e;injection e with e;have:=Cj h.bal hg;omega
 ·rcases hf with e'|⟨g',e',hh⟩
  ·exact h.tn (e'▸e)
  ·rw [e'] at e;injection e with e;have:w.heap.size<W.heap.size:=Ah h.tb.1;omega
 ·exact(h.kp.trans (hk.mono λi _ e=> .inr (h.wr i e))).trans (kB.mono λi _ e=> .inr (by have e':i=B:=e;rw [e'];exact h.lo.2.2.1))
theorem PreR.start(hb:W.heap[B]?=some (.cells #[.int .i64 t.limit,vt,.int .i64 t.cyc,.int .i64 t.due,.int .i64 t.minFixed,.int .i64 t.minPart,.int .i64 t.start,vl,.int .i64 0,.int .i64 t.start,.slice none 0 0,.int .i64 0,.int .i64 0,.slice none 0 0,.slice none 0 0,.slice none 0 0,.slice none 0 0,f0,f1,f2] 250 (0,0)))(htb:tbS w.heap.size t vt W)(he:W.ownsRow 0 96 5 vl T.length (T.flatMap Ev.cells))
  (hp:W.heap[b8]?=some (.cells #[.slice none 0 0,.int .i64 0,.int .i64 0] 52 (0,0))) (hs:W.heap[b13]?=some (.cells #[.int .i64 0,.int .i64 0] 57 (0,0))) (hr:W.ownsRow 0 57 2 vS A.length (A.flatMap spc)) (lo:w.heap.size<=b8/\w.heap.size<=b13/\w.heap.size<=B/\∀g,vS.ownBlock=some g->w.heap.size<=g) (nv:∀g,vS.ownBlock=some g->g≠b13) (wl:∀g,vl.ownBlock=some g->w.heap.size<=g)
  (hn:n<=maxLen) (hnB:B≠w.heap.size) (hk:Keeps (λ_=>False) w W):PreR w B b8 b13 t n vt T A vS vl (.slice (some ⟨W.heap.size,0,none⟩) n n) f0 f1 f2 (.slice none 0 0) 0 ((W.alloc (.cells (madeCells (Value.int .i64 0).cells n) 2)).setCell ⟨B,10,none⟩ (.slice (some ⟨W.heap.size,0,none⟩) n n)):=by
 have kA:Keeps (λ_=>False) W (W.alloc (.cells (madeCells (Value.int .i64 0).cells n) 2)):=Keeps.alloc _ _;have kB:Keeps (λi=>i=B) (W.alloc (.cells (madeCells (Value.int .i64 0).cells n) 2)) ((W.alloc (.cells (madeCells (Value.int .i64 0).cells n) 2)).setCell ⟨B,10,none⟩ (.slice (some ⟨W.heap.size,0,none⟩) n n)):=Keeps.setCell _ _ _ rfl;have hne:∀{e:TypeId} {sz m:Nat} {v:Value} {xs:List Value},W.ownsRow 0 e sz v m xs->250≠e->∀i,v.ownBlock=some i->¬i=B:=λhr hne i hi e=>by subst e;exact Ai hr hb hne hi
 have nog:∀{e:TypeId} {g:Nat} {c:Array Value},W.heap[g]?=some (.cells c e (0,0))->250≠e->¬g=B:=λhg hne' e=>by
  subst e;rw [hb] at hg;exact j1P
 have hbl:=lt_of_block hb;have hks:=hk.size;have hm:=(RowZ.made W 2 n hn).1;refine⟨(heap_setCell_same _ _ 10 _ _ _ (Ar hb _)).trans rfl,(htb.keep kA).keepS kB (λe=>hnB (Eq.symm e)),kB.row (he.of_keeps kA) (hne he j7),kB.row hm (λi hi e=>by simp [Value.ownBlock] at hi;have e':i=B:=e;omega),World.ownsRow_nil _ _ _ _,Ad (Ar hp _) kB (nog hp j7),Ad (Ar hs _) kB (nog hs j7),kB.row (hr.of_keeps kA) (hne hr j7),lo,nv,wl,λg hg=> ?_,λg hg=>by simp [Value.ownBlock] at hg,λg hg e=>by simp [Value.ownBlock] at e,by simp [Value.ownBlock], ?_⟩
 ·simp [Value.ownBlock] at hg;omega
 ·exact(hk.nt kA).trans (kB.mono λi _ e=> .inr (by have e':i=B:=e;have:=lo.2.2.1;omega))
theorem PreR.fin{α:Type}{V:Wt α}{a0:α}{G0:Nat->Prop}(hI:V.I a0 G0 w)(hG:∀b,vt.ownBlock=some b->¬G0 b)(h:PreR w B b8 b13 t n vt T A vS vl vb f0 f1 f2 vr n W)(hn:t.trs.length=n)(hvt:Reads w 2 vt n (t.trs.flatMap Tn.cells))(hvb:∀b,vt.ownBlock=some b->b<w.heap.size){a b:Nat}(hB:W'.heap[B]?=some (.cells #[.int .i64 t.limit,vt,.int .i64 t.cyc,.int .i64 t.due,.int .i64 t.minFixed,.int .i64 t.minPart,.int .i64 t.start,vl,.int .i64 0,.int .i64 t.start,vb,.int .i64 0,.int .i64 0,vr,.slice (some ⟨a,0,none⟩) n n,.slice (some ⟨b,0,none⟩) n n,.slice none 0 0,f0,f1,f2] 250 (0,0)))
  (ha:W'.heap[a]?=some (.cells ((List.replicate n si0).map SI.v).toArray 50 (0,0))) (hb:W'.heap[b]?=some (.cells ((List.replicate n si0).map SI.v).toArray 50 (0,0))) (la:W.heap.size<=a) (lb:W.heap.size<=b) (hab:a≠b) (hk:Keeps (λi=>i=B) W W'):DayW V w B b8 b13 t n vt f0 f1 f2 T A vS (st0 t) a0 W':=by
 have hne:∀{e:TypeId} {sz m:Nat} {v:Value} {xs:List Value},W.ownsRow 0 e sz v m xs->250≠e->∀i,v.ownBlock=some i->¬i=B:=λhr hne i hi e=>by subst e;exact Ai hr h.blk hne hi
 have nog:∀{e:TypeId} {g:Nat} {c:Array Value},W.heap[g]?=some (.cells c e (0,0))->250≠e->¬g=B:=λhg hne' e=>by
  subst e;rw [h.blk] at hg;exact j1P
 refine j3s ?_;intro hnil hget;obtain⟨lo1,lo2,lo3,lo4⟩:=h.lo;have hks:=h.kp.size
 have nX:∀i,W.heap.size<=i->¬wkX b8 b13 vS i:=λi hi e=>by
  rcases e with e|e|e
  ·have:=lt_of_block h.pos;omega
  ·have:=lt_of_block h.spn;omega
  ·have:=Cj h.row e;omega
 have nR:∀{e:TypeId} {sz m:Nat} {v:Value} {xs:List Value},W.ownsRow 0 e sz v m xs->e≠52->e≠57->∀i,v.ownBlock=some i->¬wkX b8 b13 vS i:=λhr h1 h2 i hi e=>by
  rcases e with e|e|e
  ·subst e;exact Ai hr h.pos (Ne.symm h1) hi
  ·subst e;exact Ai hr h.spn (Ne.symm h2) hi
  ·exact Eu h.row hr h2.symm e hi
 have nB:¬wkX b8 b13 vS B:=λe=>by
  rcases e with e|e|e
  ·exact nog h.pos j7 e.symm
  ·exact nog h.spn j7 e.symm
  ·exact hne h.row j7 _ e rfl
 have hk0:Keeps (λ_=>False) w W':=h.kp.trans (hk.mono λi _ e=> .inr (by have e':i=B:=e;omega));have nG:∀i,w.heap.size<=i->¬G0 i:=λi hi e=>by have:=V.lt hI e;omega
 have hrt:=h.rts;rw [List.take_of_length_le (by rw [List.length_map];omega)] at hrt;refine⟨⟨vl,vb,vr,a,b,List.replicate n si0,List.replicate n si0,.slice none 0 0, [],G0, ?_,V.fr hI (λi hi=>hk0.block i (V.lt hI hi) (by simp)),λi hi=> ?_,λ_ _=>rfl⟩,Ad h.pos hk (nog h.pos j7),⟨0,0,Ad h.spn hk (nog h.spn j7)⟩,hk.row h.row (hne h.row j7),⟨lo1,lo2,lo4⟩,h.nv⟩
 rotate_left
 ·rcases hi with rfl|rfl|hi
  ·exact nG _ lo1
  ·exact nG _ lo2
  ·exact nG _ (lo4 _ hi)
 exact {
  blk:=hB
  trs:=hvt.keeps hk0 (by simp)
  evs:=hk.row h.evs (hne h.evs j7)
  bal:=by show W'.ownsRow 0 _ 1 vb n ((List.replicate t.trs.length (0:Int)).flatMap i64c);rw [hn];exact hk.row h.bal (hne h.bal j7)
  rts:=hk.row hrt (hne hrt j7)
  o0:=ha
  o1:=hb
  i0:=λx hx=>by rw [hnil x hx];exact World.ownsRow_nil _ _ _ _
  i1:=λx hx=>by rw [hnil x hx];exact World.ownsRow_nil _ _ _ _
  out:=World.ownsRow_nil _ _ _ _
  ln:=λx hx=>by simp at hx
  l0:=by simp [si0,st0,hn]
  l1:=by simp [si0,st0,hn]
  lp:=rfl
  n0:=by simp
  n1:=by simp
  nb:=by simp [st0,hn]
  nr:=by simp [st0,hn]
  d00:=λj k x y hx hy _ b e=>by rw [hget j x hx] at e;simp [si0,SI.v,Value.ownBlock] at e
  d11:=λj k x y hx hy _ b e=>by rw [hget j x hx] at e;simp [si0,SI.v,Value.ownBlock] at e
  d01:=λx y hx hy b e=>by rw [hnil x hx] at e;simp [si0,SI.v,Value.ownBlock] at e
  db0:=λx hx b e=>by rw [hnil x hx] at e;simp [si0,SI.v,Value.ownBlock] at e
  db1:=λx hx b e=>by rw [hnil x hx] at e;simp [si0,SI.v,Value.ownBlock] at e
  g01:=hab
  wB:=⟨lo3,λe=>e.elim nB (nG _ lo3)⟩
  w0':=⟨by omega,λe=>e.elim (nX a la) (nG _ j6)⟩
  w1':=⟨by omega,λe=>e.elim (nX b lb) (nG _ j6)⟩
  wl:=λi hi=>⟨h.wl i hi,λe=>e.elim (nR h.evs j7 j7 i hi) (nG _ (h.wl i hi))⟩
  wb:=λi hi=>⟨h.wb i hi,λe=>e.elim (nR h.bal j7 j7 i hi) (nG _ (h.wb i hi))⟩
  wr:=λi hi=>⟨h.wr i hi,λe=>e.elim (nR h.rts j7 j7 i hi) (nG _ (h.wr i hi))⟩
  wo:=λi hi=>by simp [Value.ownBlock] at hi
  wi0:=λx hx b e=>by rw [hnil x hx] at e;simp [si0,SI.v,Value.ownBlock] at e
  wi1:=λx hx b e=>by rw [hnil x hx] at e;simp [si0,SI.v,Value.ownBlock] at e
  wln:=λx hx=>by simp at hx
  wt:=λi hi=>⟨hvb i hi,λe=>by
   have:=hvb i hi;rcases e with(e|e|e)|e
   ·omega
   ·omega
   ·have:=lo4 i e;omega
   ·exact hG i hi e⟩
  xl:=λi e=>by
   rcases e with(e|e|e)|e
   ·subst e;exact Nat.lt_of_lt_of_le (lt_of_block h.pos) hk.size
   ·subst e;exact Nat.lt_of_lt_of_le (lt_of_block h.spn) hk.size
   ·exact Nat.lt_of_lt_of_le (Cj h.row e) hk.size
   ·exact Nat.lt_of_lt_of_le (V.lt hI e) hk0.size
  yx:=λ_ e=>e
  fz:=λ_ _=>rfl
  kp:=hk0.mono (by simp) }
end
def wkS(b:Nat)(t:Tm)(vt f0 f1 f2:Value)(W:World):Prop:=tbS b t vt W/\W.cell? ⟨b+1,0,none⟩=some f0/\W.cell? ⟨b+1,1,none⟩=some f1/\W.cell? ⟨b+1,2,none⟩=some f2
theorem wkS.keep{b:Nat}{t:Tm}{vt f0 f1 f2:Value}{W W':World}(h:wkS b t vt f0 f1 f2 W)(hk:Keeps (λ_=>False) W W'):wkS b t vt f0 f1 f2 W':=
 ⟨h.1.keep hk,(hk.cell (Ah h.2.1) (by simp)).trans h.2.1,(hk.cell (Ah h.2.2.1) (by simp)).trans h.2.2.1,(hk.cell (Ah h.2.2.2) (by simp)).trans h.2.2.2⟩
structure Ut(w:World)(n:Nat)(s:St)(vb vr vo:Value)(P:List SV)(G:Nat->Prop)(w':World):Prop where
 bal:w'.ownsRow 0 2 1 vb n (s.p.bal.flatMap i64c)
 rts:w'.ownsRow 0 2 1 vr n (s.R.flatMap i64c)
 out:w'.ownsRow 0 60 9 vo P.length (P.flatMap SV.cells)
 ln:∀x∈P,w'.ownsRow 0 160 3 x.v x.s.lines.length (x.s.lines.flatMap Ln.cells)
 lp:P.map SV.s=s.out
 nb:s.p.bal.length=n
 nr:s.R.length=n
 wb:∀b,vb.ownBlock=some b->w.heap.size<=b
 wr:∀b,vr.ownBlock=some b->w.heap.size<=b
 wo:∀b,vo.ownBlock=some b->w.heap.size<=b
 wl:∀x∈P,∀b,x.v.ownBlock=some b->w.heap.size<=b
 kp:Keeps G w w'
abbrev Ed(w:World)(n:Nat)(s:St)(vb vr vo:Value)(P:List SV)(w':World):Prop:=Ut w n s vb vr vo P (λ_=>False) w'
def WalkPostG{α:Type}(V:Wt α)(w:World)(n:Nat)(Z:St×Int)(z:α)(e:Ending)(w':World):Prop:=(Z.2=0/\∃vb vr vo P G,e= .returned (.tuple #[.agg #[vb,.int .i64 Z.1.p.cr,.int .i64 Z.1.p.du],vr,vo,.int .i64 0])/\Ut w n Z.1 vb vr vo P G w'/\V.I z G w')\/
 (Z.2≠0/\e= .returned (.tuple #[.agg #[.slice none 0 0,.int .i64 0,.int .i64 0],.slice none 0 0,.slice none 0 0,.int .i64 Z.2])/\∃a G,V.I a G w'/\Keeps G w w')
def Uu(w:World)(n:Nat)(Z:St×Int)(e:Ending)(w':World):Prop:=(Z.2=0/\∃vb vr vo P,e= .returned (.tuple #[.agg #[vb,.int .i64 Z.1.p.cr,.int .i64 Z.1.p.du],vr,vo,.int .i64 0])/\Ed w n Z.1 vb vr vo P w')\/
 (Z.2≠0/\e= .returned (.tuple #[.agg #[.slice none 0 0,.int .i64 0,.int .i64 0],.slice none 0 0,.slice none 0 0,.int .i64 Z.2])/\Keeps (λ_=>False) w w')
def wkFr(td:Int)(b:Nat)(vS:Value)(B:Nat)(u:Nat->Value):Act:={ tmps:= #[u 0,u 1,.int .i64 td,u 3,u 4,u 5,u 6,u 7,(.pointer (some ⟨b+1+1,0,none⟩)),u 9,u 10,u 11,vS,(.pointer (some ⟨b+1+1+1,0,none⟩)),(.pointer (some ⟨B,0,none⟩)),u 15,u 16,u 17,u 18,u 19,u 20,u 21,u 22,u 23,u 24,u 25,u 26,u 27,u 28,u 29,u 30,u 31,u 32,u 33,u 34,u 35,u 36,u 37,u 38,u 39,u 40,u 41,u 42,u 43,u 44,u 45,u 46,u 47,u 48,u 49,u 50,u 51,u 52,u 53,u 54,u 55,u 56,u 57,u 58,u 59,u 60,u 61,u 62,u 63,u 64,u 65,u 66,u 67,u 68,u 69,u 70,u 71,u 72,u 73,u 74,u 75,u 76,u 77,u 78,u 79,u 80,u 81,u 82,u 83,u 84,u 85,u 86,u 87,u 88,u 89,u 90,u 91,u 92,u 93,u 94,u 95,u 96,u 97,u 98,u 99,u 100,u 101,u 102,u 103,u 104,u 105,u 106,u 107,u 108,u 109,u 110,u 111,u 112,u 113,u 114,u 115,u 116,u 117,u 118,u 119],defers:= [] }
def wk0Fr(b:Nat)(e:Int)(u:Nat->Value):Act:={ tmps:= #[u 0,u 1,u 2,u 3,u 4,u 5,u 6,u 7,(.pointer (some ⟨b+1+1,0,none⟩)),u 9,u 10,u 11,u 12,u 13,u 14,.int .i64 e,u 16,u 17,u 18,u 19,u 20,u 21,u 22,u 23,u 24,u 25,u 26,u 27,u 28,u 29,u 30,u 31,u 32,u 33,u 34,u 35,u 36,u 37,u 38,u 39,u 40,u 41,u 42,u 43,u 44,u 45,u 46,u 47,u 48,u 49,u 50,u 51,u 52,u 53,u 54,u 55,u 56,u 57,u 58,u 59,u 60,u 61,u 62,u 63,u 64,u 65,u 66,u 67,u 68,u 69,u 70,u 71,u 72,u 73,u 74,u 75,u 76,u 77,u 78,u 79,u 80,u 81,u 82,u 83,u 84,u 85,u 86,u 87,u 88,u 89,u 90,u 91,u 92,u 93,u 94,u 95,u 96,u 97,u 98,u 99,u 100,u 101,u 102,u 103,u 104,u 105,u 106,u 107,u 108,u 109,u 110,u 111,u 112,u 113,u 114,u 115,u 116,u 117,u 118,u 119],defers:= [] }
def ptB(a:Act):Nat:=match a.tmps.getD 14 undef with| .pointer (some ⟨b,_,_⟩)=>b|_=>0
section
variable {α:Type} (V:Wt α) (γ:Gh α) (J:Int->α->Prop)
def wkJ0(w:World)(R:St×Int)(a':Act)(W:World):Prop:=∃(e:Int) (u:Nat->Value),a'=wk0Fr w.heap.size e u/\W.heap[w.heap.size+1+1]?=some (.cells #[.slice none 0 0,.int .i64 0,.int .i64 0] 52 (0,0))/\(∃a G,V.I a G W/\Keeps G w W/\¬G (w.heap.size+1+1))/\e≠0/\R.2=e
def wkJ1(w:World)(t:Tm)(n:Nat)(vt:Value)(f0 f1 f2:Value)(T:List Ev)(td:Int)(A:List (Int×Int))(R:St×Int)(y:α)(z:Int)(a':Act)(W:World):Prop:=z=0/\∃(s:St) (a:α) (B:Nat) (vS:Value) (u:Nat->Value),a'=wkFr td w.heap.size vS B u/\DayW V w B (w.heap.size+1+1) (w.heap.size+1+1+1) t n vt f0 f1 f2 T A vS s a W/\DayP t T n td A s R/\DayS γ t T n td A s a y/\J s.day a
end
section
variable {α:Type} {V:Wt α} {γ:Gh α} {J:Int->α->Prop}
theorem wkJ0.mk{w:World}{R:St×Int}{a':Act}{W:World}(e:Int)(h:a'=wk0Fr w.heap.size e (λi=>a'.tmps.getD i undef))(h1:W.heap[w.heap.size+1+1]?=some (.cells #[.slice none 0 0,.int .i64 0,.int .i64 0] 52 (0,0)))(h2:∃a G,V.I a G W/\Keeps G w W/\¬G (w.heap.size+1+1))(h3:e≠0)(h4:R.2=e):wkJ0 V w R a' W:=⟨e,_,h,h1,h2,h3,h4⟩
theorem wkJ1.mk{w:World}{t:Tm}{n:Nat}{vt f0 f1 f2:Value}{T:List Ev}{td:Int}{A:List (Int×Int)}{R:St×Int}{y:α}{z:Int}{a':Act}{W:World}(s:St)(a:α)(B:Nat)(vS:Value)(hz:z=0)(h:a'=wkFr td w.heap.size vS B (λi=>a'.tmps.getD i undef))(h1:DayW V w B (w.heap.size+1+1) (w.heap.size+1+1+1) t n vt f0 f1 f2 T A vS s a W)(h2:DayP t T n td A s R)(h3:DayS γ t T n td A s a y)(h4:J s.day a):wkJ1 V γ J w t n vt f0 f1 f2 T td A R y z a' W:=⟨hz,s,a,B,vS,_,h,h1,h2,h3,h4⟩
end
theorem Rf:∀M:List Tn,(M.flatMap Tn.cells).length=M.length*2
 | []=>rfl
 |x::M=>by rw [List.flatMap_cons,List.length_append,Rf M,Tn.Aj,List.length_cons];omega
def r11S(B b:Nat)(vr:Value)(x:Int)(W:World):Prop:=W.cell? ⟨B,13,none⟩=some vr/\W.cell? ⟨b,0,none⟩=some (.int .i64 x)
theorem r11S.keep{B b:Nat}{vr:Value}{x:Int}{S:Nat->Prop}{W W':World}(h:r11S B b vr x W)(hk:Keeps S W W')(h1:¬S B)(h2:¬S b):r11S B b vr x W':=⟨(hk.cell (Ah h.1) h1).trans h.1,(hk.cell (Ah h.2) h2).trans h.2⟩
def w20S(b13 B:Nat)(te sd:Int)(W:World):Prop:=W.cell? ⟨b13,1,none⟩=some (.int .i64 te)/\W.cell? ⟨B,9,none⟩=some (.int .i64 sd)
def w17S(B:Nat)(vb:Value)(cr du:Int)(vr vo:Value)(W:World):Prop:=W.cell? ⟨B,10,none⟩=some vb/\W.cell? ⟨B,11,none⟩=some (.int .i64 cr)/\W.cell? ⟨B,12,none⟩=some (.int .i64 du)/\W.cell? ⟨B,13,none⟩=some vr/\W.cell? ⟨B,16,none⟩=some vo
theorem w17S.keep{B:Nat}{vb vr vo:Value}{cr du:Int}{S:Nat->Prop}{W W':World}(h:w17S B vb cr du vr vo W)(hk:Keeps S W W')(hB:¬S B):w17S B vb cr du vr vo W':=by
 obtain⟨h1,h2,h3,h4,h5⟩:=h;exact⟨(hk.cell (Ah h1) hB).trans h1,(hk.cell (Ah h2) hB).trans h2,(hk.cell (Ah h3) hB).trans h3,(hk.cell (Ah h4) hB).trans h4,(hk.cell (Ah h5) hB).trans h5⟩
theorem Abw{w:World}{X:Fx}{B b8:Nat}{t:Tm}{n:Nat}{vt:Value}{T:List Ev}{f0 f1 f2:Value}{s:St}{vl vb vr:Value}{g0 g1:Nat}{S0 S1:List SI}{vo:Value}{P:List SV}{W W':World}(h:RunV w X B t n vt T f0 f1 f2 s vl vb vr g0 g1 S0 S1 vo P W)(hk:Keeps (λi=>i=b8) W W')(hX:X.X b8)(hb8:w.heap.size<=b8){G:Nat->Prop}(hkw:Keeps G w W):Ut w n s vb vr vo P G W' where
 bal:=hk.row h.bal λb hb e=>by have e':b=b8:=e;exact(h.wb b hb).2 (e'▸hX)
 rts:=hk.row h.rts λb hb e=>by have e':b=b8:=e;exact(h.wr b hb).2 (e'▸hX)
 out:=hk.row h.out λb hb e=>by have e':b=b8:=e;exact(h.wo b hb).2 (e'▸hX)
 ln:=λx hx=>hk.row (h.ln x hx) λb hb e=>by have e':b=b8:=e;exact(h.wln x hx b hb).2 (e'▸hX)
 lp:=h.lp
 nb:=h.nb
 nr:=h.nr
 wb:=λb hb=>(h.wb b hb).1
 wr:=λb hb=>(h.wr b hb).1
 wo:=λb hb=>(h.wo b hb).1
 wl:=λx hx b hb=>(h.wln x hx b hb).1
 kp:=hkw.trans (hk.mono λi _ e=> .inr (by have e':i=b8:=e;omega))
def ghR{α:Type}(γ:Gh α)(t:Tm)(L:List Ev)(td:Int)(a:α):α:=walkG γ t (sortL L) t.trs.length (td-t.start).toNat (allL t.start t.cyc td) (st0 t) a
theorem Aa4{α:Type}(V:Wt α)(γ:Gh α)(J:Int->α->Prop)(hGJ:GhOk γ J)(a0:α)(G0:Nat->Prop)(t:Tm)(adt:Option Addr)(ct n:Nat)(L:List Ev)(ad:Option Addr)(cap N:Nat)(td:Int)(f0 f1 f2:Value)(w:World)(hn:t.trs.length=n)(htr:Reads w 2 (.slice adt n ct) n (t.trs.flatMap Tn.cells))(hN:L.length=N)(hr:Reads w 5 (.slice ad N cap) N (L.flatMap Ev.cells))(hl:N<=1000000)(htl:n<=1000000)
  (hf:Dl t L td=0->EvOk V γ f0 f1 f2 n/\EndOk V γ J f0 f1 f2 n/\ClOk V γ f0 f1 f2 n) (hJ0:Dl t L td=0->J t.start a0) (hI0:V.I a0 G0 w) (hG0:Dl t L td=0->∀b,adt.map (·.block)=some b->¬G0 b):
  Calls Tryz.prog 149 #[.agg #[.int .i64 t.limit,.slice adt n ct,.int .i64 t.cyc,.int .i64 t.due,.int .i64 t.minFixed,.int .i64 t.minPart,.int .i64 t.start],.slice ad N cap,.int .i64 td,.agg #[f0,f1,f2]] w (WalkPostG V w n (walkR t L td) (ghR γ t L td a0)):=by
 have hsrt:=λW (hW:Keeps (λ_=>False) w W)=>Abf (.slice ad N cap) L W (by rw [hN];exact hr.keeps hW (by simp)) j6;have hrgt:=λW (hW:Keeps (λ_=>False) w W)=>Xv t adt ct n L ad cap N td W hn (htr.keeps hW (by simp)) hN (hr.keeps hW (by simp)) hl htl;obtain⟨w4,hw4⟩:∃x,x=(((w.alloc (.cells #[.int .i64 t.limit,.slice adt n ct,.int .i64 t.cyc,.int .i64 t.due,.int .i64 t.minFixed,.int .i64 t.minPart,.int .i64 t.start] 44)).alloc (.cells #[f0,f1,f2] 221)).alloc (.cells #[.slice none 0 0,.int .i64 0,.int .i64 0] 52)).alloc (.cells #[.int .i64 0,.int .i64 0] 57):=⟨_,rfl⟩
 have hS4:∀W,Keeps (λ_=>False) w4 W->wkS w.heap.size t (.slice adt n ct) f0 f1 f2 W:=λW hW=>by
  have h1:=Ad (Ar (Ar (Av (w.alloc (.cells #[.int .i64 t.limit,.slice adt n ct,.int .i64 t.cyc,.int .i64 t.due,.int .i64 t.minFixed,.int .i64 t.minPart,.int .i64 t.start] 44)) (.cells #[f0,f1,f2] 221) (i:=w.heap.size+1) (by simp)) (.cells #[.slice none 0 0,.int .i64 0,.int .i64 0] 52)) (.cells #[.int .i64 0,.int .i64 0] 57)) (hw4▸hW) (by simp);exact⟨tbS.of (Ad (Ar (Ar (Ar (heap_alloc_new w _) _) _) _) (hw4▸hW) (by simp)),Aa h1 0,Aa h1 1,Aa h1 2⟩
 have hk4:Keeps (λ_=>False) w w4:=by rw [hw4];exact((Keeps.alloc _ _).Af).Af.Af
 have hp4:w4.heap[w.heap.size+2]?=some (.cells #[.slice none 0 0,.int .i64 0,.int .i64 0] 52 (0,0)):=by rw [hw4];exact Ar (Av _ _ (by simp)) _
 have hs4:w4.heap[w.heap.size+3]?=some (.cells #[.int .i64 0,.int .i64 0] 57 (0,0)):=by rw [hw4];exact Av _ _ (by simp)
 obtain⟨z,hz⟩:∃z,Dl t L td=z:=⟨_,rfl⟩;obtain⟨R,hR⟩:∃R,walkR t L td=R:=⟨_,rfl⟩;obtain⟨A,hA⟩:∃A,allL t.start t.cyc td=A:=⟨_,rfl⟩;obtain⟨y,hy⟩:∃y,ghR γ t L td a0=y:=⟨_,rfl⟩;have hR':=hR;unfold walkR at hR';rw [hz] at hR' hf hrgt;rw [hA] at hR';rw [hR,hy];obtain⟨HGJ,HJ0,HI0,HG0,Hy,Htr,Hr,Hsrt,Hrgt⟩:=hid9 hGJ hJ0 hI0 hG0 hy htr hr hsrt hrgt;clear hrgt hsrt hr htr hy hG0 hI0 hJ0 hGJ;obtain⟨HS4,Hk4,Hp4,Hs4,HR,HR',Hf,HN,Hn⟩:=hid9 hS4 hk4 hp4 hs4 hR hR' hf hN hn;clear hn hN hf hR' hR hs4 hp4 hk4 hS4;have Hz:=Lib.hid hz;clear hz;go_enter Tryz.func149,Tryz.ntmps149;go_wp2;refine Lc 1 0 (wkJ1 V γ J w t n (.slice adt n ct) f0 f1 f2 (sortL L) td A R y z) (wkJ0 V w R) (λa W=>(td+1-Cz W (ptB a) 9).toNat) (λ_ _=>0) rfl rfl ?_ ?_ ?_
 ·rintro a' W ⟨e,u,rfl,hb,⟨aI,GI,hI,hk,hGb⟩,he,hRe⟩;unfold wk0Fr;refine j1Q ?_;intro d0 d1 d2 e0 e1 e2 dl;have hkz:=hk.trans ((((Keeps.setCell (S:=λi=>w.heap.size<=i) W ⟨w.heap.size+1+1,0,none⟩ (.slice none 0 0) jm).trans (Keeps.setCell _ ⟨w.heap.size+1+1,1,none⟩ (.int .i64 0) (.inl jm))).trans (Keeps.setCell _ ⟨w.heap.size+1+1,2,none⟩ (.int .i64 0) (.inl jm))).mono λi _ h=> .inr h);have hb3:(((W.setCell ⟨w.heap.size+1+1,0,none⟩ (.slice none 0 0)).setCell ⟨w.heap.size+1+1,1,none⟩ (.int .i64 0)).setCell ⟨w.heap.size+1+1,2,none⟩ (.int .i64 0)).heap[w.heap.size+1+1]?=some (.cells #[.slice none 0 0,.int .i64 0,.int .i64 0] 52 (0,0)):=(heap_setCell_same _ _ 2 _ _ _ ((heap_setCell_same _ _ 1 _ _ _ ((heap_setCell_same _ _ 0 _ _ _ hb).trans rfl)).trans rfl)).trans rfl;have hI3:∃a G,V.I a G (((W.setCell ⟨w.heap.size+1+1,0,none⟩ (.slice none 0 0)).setCell ⟨w.heap.size+1+1,1,none⟩ (.int .i64 0)).setCell ⟨w.heap.size+1+1,2,none⟩ (.int .i64 0))/\Keeps G w (((W.setCell ⟨w.heap.size+1+1,0,none⟩ (.slice none 0 0)).setCell ⟨w.heap.size+1+1,1,none⟩ (.int .i64 0)).setCell ⟨w.heap.size+1+1,2,none⟩ (.int .i64 0)):=⟨aI,GI,V.fr hI λb hb=>(((Keeps.setCell (S:=λi=>i=w.heap.size+1+1) W ⟨w.heap.size+1+1,0,none⟩ (.slice none 0 0) rfl).trans (Keeps.setCell _ ⟨w.heap.size+1+1,1,none⟩ (.int .i64 0) (.inl rfl))).trans (Keeps.setCell _ ⟨w.heap.size+1+1,2,none⟩ (.int .i64 0) (.inl rfl))).block b (V.lt hI hb) (λe=>hGb (by have e':b=w.heap.size+1+1:=e;exact e'▸hb)),hkz⟩;obtain⟨HI,HGb,HI3,Hb,Hk,He,HRe,Hkz,Hb3⟩:=hid9 hI hGb hI3 hb hk he hRe hkz hb3;clear hb3 hkz hRe he hk hb hI3 hGb hI;go_wp2;refine Jr ?_;have r0:=Aa Hb3.out 0;have r1:=Aa Hb3.out 1;have r2:=Aa Hb3.out 2;clear d0 d1 d2;exact bodyPost_ret (v:= .tuple #[.agg #[.slice none 0 0,.int .i64 0,.int .i64 0],.slice none 0 0,.slice none 0 0,.int .i64 e]) (by simp [results,Tryz.results149,go_sem,r0,r1,r2]) rfl (.inr ⟨by rw [HRe.out];exact He.out,by rw [HRe.out],HI3.out⟩)
 ·intro hp0;rintro a' W ⟨hz0,s,aI,B,vS,u,rfl,hd,hp,hgs,hJs⟩;unfold wkFr;obtain⟨vl,vb,vr,g0,g1,S0,S1,vo,P,hri⟩:=hd.run;obtain⟨Gv,hrv,_,_,_⟩:=id hri;have hpr0:s.p.Bg=true:=by obtain⟨_,_,_,_,_,_,_,_,hs0,_⟩:=hp.sp;exact hs0.pr
  obtain⟨Z,hZ⟩:∃Z,evR s.day ((sortL L).drop s.i) s.i s.p s.R=Z:=⟨_,rfl⟩;have hrok:=Ea (Hz.out.trans hz0);have hnum:=Fg hrok.tm;rw [Hn.out] at hnum;obtain⟨⟨l0,l1⟩,_⟩:=hnum;have hn1:n<=1000:=j8;have hev:=(Hf.out hz0).1 hri hn1 (by rw [Kg,HN.out];exact hl) hp.i hpr0 Z hZ;have hbd:=lt_of_block hrv.blk;obtain⟨E,hE⟩:∃E,Z.2.2.2=E:=⟨_,rfl⟩;rw [hE] at hev;have hperr:=hp.err;rw [hZ,hE] at hperr;have hmeas:Cz W B 9<td+1:=by rw [Dc (Aa hrv.blk 9)];have:=hp.dt;omega
  by_cases hE0:E=0
  ·subst hE0;obtain⟨sd,hsd⟩:∃x,s.day=x:=⟨_,rfl⟩;by_cases hday:s.day=td
   ·have hlast:=hp.last hday;rw [hZ,hE] at hlast;have hgl:=hgs.last hday;obtain⟨HJs,Hgs,Hgl,Hri,Hpr0,Hd,Hp,Hrv,HZ⟩:=hid9 hJs hgs hgl hri hpr0 hd hp hrv hZ;clear hZ hrv hp hd hpr0 hri hgl hgs hJs;obtain⟨Hev,HE,Hperr,Hlast,Hmeas,Hday,Hrok,L0⟩:=hid8 hev hE hperr hlast hmeas hday hrok l0;clear l0 hrok hday hmeas hlast hperr hE hev;go_wp2_with fail;refine(Hev.out).mono ?_;rintro e w1 ⟨rfl,vb',vr',a1,hea,hr1i⟩;obtain⟨G1,hr1,_,_,_⟩:=id hr1i;obtain⟨ab,cb,rfl⟩:∃a c,vb'= .slice a n c:=by obtain⟨a,c,h,_⟩:=Ae hr1.bal;exact⟨a,c,h⟩
    have hd1:=Hd.out.call hr1i;have hay:a1=y:=by rw [hea (by first|exact HE.out|trivial),Hgl.out]
    have c9:w1.cell? ⟨B,9,none⟩=some (.int .i64 sd):=by rw [<-hsd];exact Aa hr1.blk 9
    have bl:=lt_of_block hr1.blk;clear hea;obtain⟨Hr1,Hr1i,Hd1,Hay⟩:=hid4 hr1 hr1i hd1 hay;clear hay hd1 hr1i hr1;have hdI:(sd==td)=true:=by rw [<-hsd,Hday.out];simp
    go_wp2_with fail;obtain⟨pc,hpc⟩:∃x,(evSt s Z).p.cr=x:=⟨_,rfl⟩;obtain⟨pd,hpd⟩:∃x,(evSt s Z).p.du=x:=⟨_,rfl⟩
    have hS1:w17S B (.slice ab n cb) pc pd vr' vo w1.drew:=by
     rw [<-hpc,<-hpd];exact(show w17S B (.slice ab n cb) (evSt s Z).p.cr (evSt s Z).p.du vr' vo w1 from⟨Aa Hr1.out.blk 10,Aa Hr1.out.blk 11,Aa Hr1.out.blk 12,Aa Hr1.out.blk 13,Aa Hr1.out.blk 16⟩).keep (S:=λ_=>False) (Keeps.drew _) (by simp)
    have hBX:¬B=w.heap.size+1+1:=λe=>Hr1.out.wB.2 (.inl (.inl e));obtain⟨Hpc,Hpd,HS1⟩:=hid3 hpc hpd hS1;clear hS1 hpd hpc;clear c9;refine Al (w17S B (.slice ab n cb) pc pd vr' vo) (.take 0 (.take 1 (.take 2 (.take 3 (.take 4 (.take 5 (.take 6 (.take 7 (.take 8 (.take 9 (.take 10 (.take 11 (.move 12 (.take 13 (.take 14 (.take 15 .done)))))))))))))))) j9 j9 ?_ ?_
    ·exact HS1.out
    intro w2 hs2 hk2;have hd2:=Hd.out.call (Hr1i.out.keep0 hk2);have hr2:=Hr1.out.keep0 hk2;obtain⟨G2,hI2,hkG,hGb⟩:=hd2.keeps;have e0:=Ab hd2.pos 0;have e1:=Ab hd2.pos 1;have e2:=Ab hd2.pos 2;have d0:=Aa hd2.pos 0;have d1:=Aa hd2.pos 1;have d2:=Aa hd2.pos 2;have dl:=lt_of_block hd2.pos;refine jR ?_;have hkz:Keeps (λi=>i=w.heap.size+1+1) w2 (((w2.setCell ⟨w.heap.size+1+1,0,none⟩ (.slice ab n cb)).setCell ⟨w.heap.size+1+1,1,none⟩ (.int .i64 pc)).setCell ⟨w.heap.size+1+1,2,none⟩ (.int .i64 pd)):=((Keeps.setCell (S:=λi=>i=w.heap.size+1+1) _ _ _ rfl).trans (Keeps.setCell _ _ _ (.inl rfl))).trans (Keeps.setCell _ _ _ (.inl rfl));have hb3:(((w2.setCell ⟨w.heap.size+1+1,0,none⟩ (.slice ab n cb)).setCell ⟨w.heap.size+1+1,1,none⟩ (.int .i64 pc)).setCell ⟨w.heap.size+1+1,2,none⟩ (.int .i64 pd)).heap[w.heap.size+1+1]?=some (.cells #[.slice ab n cb,.int .i64 pc,.int .i64 pd] 52 (0,0)):=(heap_setCell_same _ _ 2 _ _ _ ((heap_setCell_same _ _ 1 _ _ _ ((heap_setCell_same _ _ 0 _ _ _ hd2.pos).trans rfl)).trans rfl)).trans rfl;have hres:=Abw hr2 hkz (.inl (.inl rfl)) j6 hkG;have hI3:=V.fr hI2 λb hb=>hkz.block b (V.lt hI2 hb) (λe=>hGb (by have e':b=w.heap.size+1+1:=e;exact e'▸hb));obtain⟨Hkz,Hb3,Hres,Hr2,Hd2,Hk2,HI2,HkG,HGb⟩:=hid9 hkz hb3 hres hr2 hd2 hk2 hI2 hkG hGb;clear hGb hkG hI2 hk2 hd2 hr2 hres hb3 hkz;have HI3:=Lib.hid hI3;clear hI3;refine jc ?_;intro K hK;refine hK.out _ _ (by exact hs2.keep Hkz.out hBX) ?_;clear hK K;refine jj ?_;clear d0 d1 d2 e0 e1 e2 hs2;go_wp2;refine Jr ?_;have r0:=Aa Hb3.out 0;have r1:=Aa Hb3.out 1;have r2:=Aa Hb3.out 2;exact bodyPost_ret (v:= .tuple #[.agg #[.slice ab n cb,.int .i64 pc,.int .i64 pd],vr',vo,.int .i64 0]) (by simp [results,Tryz.results149,go_sem,r0,r1,r2]) rfl (.inl ⟨by rw [Hlast.out],.slice ab n cb,vr',vo,P,G2,by rw [Hlast.out,<-Hpc.out,<-Hpd.out],by rw [Hlast.out];exact Hres.out,by rw [<-Hay.out];exact HI3.out⟩)
   ·obtain⟨fr,te,hget,hsok,hst1,hfr,hte,hlt,hg1,hg2,hg3⟩:=hp.go (by rw [hZ];exact hE) hday hrok.tm Hn.out;have hgg:=hgs.go (by rw [hZ];exact hE) (by have:=hp.dt;omega) hget;rw [hZ] at hst1 hg1 hg2 hg3 hgg;rw [hsd] at hg1 hg2 hg3 hfr hte;have hsd0: -135140<=sd:=by have:=hsok.lo;omega
    have hsd1:sd<=2932896:=by have:=hsok.hi;omega
    obtain⟨_,_,_,_,hsok0,_,hfr0,hte0,hs0,_⟩:=hp.sp;have hlen0:∀r∈(evSt s Z).e0,r.length<=100000:=λr hr=>by have:=(hs0.m0 r hr).1;have:=hsok0.sh;omega
    have hlen1:∀r∈(evSt s Z).e1,r.length<=100000:=λr hr=>by have:=(hs0.m1 r hr).1;have:=hsok0.sh;omega
    obtain⟨g,o,cS,hvS,_⟩:=(Reads.Az hd.row).elem (f:=spc) (size:=2) (λp=>rfl) hget j7;subst hvS;obtain⟨s2,hs2⟩:∃x,endSt (evSt s Z) n n=x:=⟨_,rfl⟩;have hs2d:s2.day=sd:=by rw [<-hs2];exact hsd
    have hs2o:s2.out=s.out:=by rw [<-hs2];rfl
    rw [hs2] at hst1 hg1 hg2 hg3;obtain⟨C,hC⟩:∃C,Fa t (sortL L) n s2 fr te=C:=⟨_,rfl⟩;rw [hC] at hg2 hg3;have hdI:(sd==td)=false:=beq_eq_false_iff_ne.2 (by rw [<-hsd];exact hday);obtain⟨mA,hmA⟩:∃x,A.length=x:=⟨_,rfl⟩;rw [hmA] at hlt hd hrv hev⊢;obtain⟨mo,hmo⟩:∃x,P.length=x:=⟨_,rfl⟩;obtain⟨av,cv,rfl⟩:∃a c,vo= .slice a mo c:=by obtain⟨a,c,h,_⟩:=Ae hrv.out;rw [hmo] at h;exact⟨a,c,h⟩
    have hmo2:s.out.length=mo:=by rw [<-hrv.lp,List.length_map];exact hmo
    rw [hmo2] at hlt hget;have hltI:(mo:Int)<(mA:Int):=j8;have hmA3:mA<=300:=by rw [<-hmA,<-hA];exact Abp _ _ _
    obtain⟨HJs,Hgs,Hgg,Hri,Hpr0,Hd,Hp,Hrv,HZ⟩:=hid9 hJs hgs hgg hri hpr0 hd hp hrv hZ;clear hZ hrv hp hd hpr0 hri hgg hgs hJs;obtain⟨Hev,HE,Hperr,Hmeas,Hday,Hrok,L0,Hget,Hsok⟩:=hid9 hev hE hperr hmeas hday hrok l0 hget hsok;clear hsok hget l0 hrok hday hmeas hperr hE hev;obtain⟨Hst1,Hfr,Hte,Hg1,Hg2,Hg3,Hs0,Hsok0,Hfr0⟩:=hid9 hst1 hfr hte hg1 hg2 hg3 hs0 hsok0 hfr0;clear hfr0 hsok0 hs0 hg3 hg2 hg1 hte hfr hst1;obtain⟨Hte0,Hlen0,Hlen1,Hs2,Hs2d,Hs2o,HC,HmA,Hmo⟩:=hid9 hte0 hlen0 hlen1 hs2 hs2d hs2o hC hmA hmo;clear hmo hmA hC hs2o hs2d hs2 hlen1 hlen0 hte0;have Hmo2:=Lib.hid hmo2;clear hmo2;go_wp2_with fail;refine(Hev.out).mono ?_;rintro e w1 ⟨rfl,vb',vr',a1,hea,hr1i⟩;have hae:=hea (by first|exact HE.out|trivial);obtain⟨G1,hr1,_,_,_⟩:=id hr1i;have c9:w1.cell? ⟨B,9,none⟩=some (.int .i64 sd):=by rw [<-hsd];exact Aa hr1.blk 9
    have bl:=lt_of_block hr1.blk;have hend:=(Hf.out hz0).2.1 hr1i.self hn1 Hlen0.out Hlen1.out (by have:=Hst1.out.pr;rw [<-Hs2.out] at this;exact this) (by rw [hae];exact Yk HGJ.out _ _ _ _ _ HJs.out) (by show -135140<=s.day;rw [hsd];exact hsd0) (by show s.day<=2932896;rw [hsd];exact hsd1);rw [Hs2.out] at hend;clear hea;obtain⟨Hr1,Hr1i,Hend,Hae⟩:=hid4 hr1 hr1i hend hae;clear hae hend hr1i hr1;go_wp2_with fail;refine(Hend.out).mono ?_;rintro e w2 ⟨rfl,S0',S1',hr2i⟩;have hd2:=(Hd.out.call Hr1i.out).call hr2i;obtain⟨G2,hr2,_,_,_⟩:=id hr2i;obtain⟨g',o',c',he',hc'⟩:=(Reads.Az hd2.row).elem (f:=spc) (size:=2) (λp=>rfl) Hget.out j7;rw [HmA.out] at he';simp only [Value.slice.injEq,true_and,Option.some.injEq,Addr.mk.injEq,and_true] at he';obtain⟨⟨rfl,rfl⟩,rfl⟩:=he';have x0:w2.cell? ⟨g,o+mo*2,none⟩=some (.int .i64 fr):=hc' 0 j7;have x1:w2.cell? ⟨g,o+mo*2+1,none⟩=some (.int .i64 te):=hc' 1 j7;have c16:=Aa hr2.blk 16;have bl2:=lt_of_block hr2.blk;obtain⟨sx,sy,hsn⟩:=hd2.spn;have d0:=Aa hsn 0;have d1:=Aa hsn 1;have e0:=Ab hsn 0;have e1:=Ab hsn 1;have dl:=lt_of_block hsn;obtain⟨hd3,hsn3⟩:=hd2.span fr te;clear c9 bl hc';obtain⟨Hr2,Hr2i,Hd2,Hsn,Hd3,Hsn3⟩:=hid6 hr2 hr2i hd2 hsn hd3 hsn3;clear hsn3 hd3 hsn hd2 hr2i hr2;go_wp2_with fail;clear x0 x1 c16 bl2 d0 d1 e0 e1 dl;obtain⟨w3,hw3⟩:∃x,x=((w2.setCell ⟨w.heap.size+1+1+1,0,none⟩ (.int .i64 fr)).setCell ⟨w.heap.size+1+1+1,1,none⟩ (.int .i64 te)):=⟨_,rfl⟩;rw [<-hw3] at Hd3 Hsn3⊢;clear hw3
    have hS3:w20S (w.heap.size+1+1+1) B te sd w3.drew:=⟨Aa Hsn3.out 1,by
     obtain⟨_,_,_,_,_,_,_,_,_,_,h,_⟩:=Hd3.out.run
     rw [<-Hs2d.out];exact Aa h.blk 9⟩
    have HS3:=Lib.hid hS3;clear hS3;refine Al (w20S (w.heap.size+1+1+1) B te sd) (.take 0 (.take 1 (.take 2 (.take 3 (.take 4 (.take 5 (.take 6 .done))))))) j9 j9 ?_ ?_
    ·exact HS3.out
    intro w4 hs4 hk4;refine jn ?_;have hd4:=Hd3.out.keep0 hk4;have hsn4:=Ad Hsn3.out hk4 (by simp);have hcs:Cz W B 9=sd:=by rw [<-hsd];exact Dc Hd.out.c9.1
    clear hs4;by_cases hte0:te=sd
    ·have hteI:(te==sd)=true:=by simp [hte0]
     have d0:=Aa hsn4 0;have d1:=Aa hsn4 1;have dl:=lt_of_block hsn4;obtain⟨vl4,vb4,vr4,g40,g41,S40,S41,vo4,P4,hr4i⟩:=hd4.run;have hst2:=Hst1.out;have hle40:(s.day-fr).toNat+1<=40000:=by have:=Hsok.out.sh;have:=Hte.out;rw [hsd];omega
     have hcl:=(Hf.out hz0).2.2 hr4i Hrok.out.tm Hn.out (by rw [Kg,HN.out];exact hl) (λx hx=>evErr_amt (Hrok.out.ev x ((Nr L).2.mem hx))) hst2.pr hst2.rt (λr hr=>(hst2.m0 r hr).2) (λr hr=>(hst2.m1 r hr).2) (hst2.lens hle40) (by rw [Hs2o.out,Hmo2.out];omega) fr te ⟨Hsok.out.lo,Hsok.out.le,Hsok.out.hi⟩ C HC.out;rcases C with _|s'
     ·have hR5:=Hg2.out hte0 rfl;obtain⟨Hd4,Hsn4,Hcs,Hr4i,Hst2,Hle40,Hcl,HR5,Hte0⟩:=hid9 hd4 hsn4 hcs hr4i hst2 hle40 hcl hR5 hte0;clear hte0 hR5 hcl hle40 hst2 hr4i hcs hsn4 hd4;go_wp2_with fail;refine(Hcl.out).mono ?_;rintro e w5 ⟨rfl,hr5⟩;have hd5:=Hd4.out.call hr5;obtain⟨Hr5,Hd5⟩:=hid2 hr5 hd5;clear hd5 hr5;go_wp2_with fail;go_step3;go_wp2;refine Sn ⟨wkJ0.mk 5 rfl Hd5.out.pos ⟨_,Hd5.out.keeps⟩ j7 HR5.out, ?_⟩;show _<td+1;exact Hmeas.out
     ·have hp5:=Hg3.out hte0 s' rfl;obtain⟨_,c2,_,hs5⟩:=Qo Hrok.out.tm Hn.out hst2 HC.out;have hg5:=Hgg.out.2 (by rw [hsd];exact hte0) s' (by rw [Hs2.out];exact HC.out) (by rw [c2,Hs2o.out]);have hae':=Hae.out;rw [hsd] at hae';rw [Hs2.out,hsd,<-hae'] at hg5;have hJ5:=HGJ.out.cl _ _ s2 s' (HGJ.out.day _ _ (evSt s Z).p (Yk HGJ.out s.day ((sortL L).drop s.i) s.p s.R aI HJs.out));rw [hsd,<-hae'] at hJ5;rw [Hs2d.out] at hs5;obtain⟨Hd4,Hsn4,Hcs,Hr4i,Hst2,Hle40,Hcl,Hp5,Hte0⟩:=hid9 hd4 hsn4 hcs hr4i hst2 hle40 hcl hp5 hte0;clear hte0 hp5 hcl hle40 hst2 hr4i hcs hsn4 hd4;obtain⟨Hs5,Hg5,HJ5⟩:=hid3 hs5 hg5 hJ5;clear hJ5 hg5 hs5;go_wp2_with fail;refine(Hcl.out).mono ?_;rintro e w5 ⟨rfl,vb5,g50,g51,vo5,P5,hr5⟩;have hd5:=Hd4.out.call hr5;obtain⟨c9,f9,bl9⟩:=hd5.c9;rw [Hs5.out] at c9;have hd6:=hd5.day (sd+1);clear d0 d1 dl;obtain⟨Hr5,Hd5,Hd6⟩:=hid3 hr5 hd5 hd6;clear hd6 hd5 hr5;exact j3T
    ·have hteI:(te==sd)=false:=beq_eq_false_iff_ne.2 hte0;have hp5:=Hg1.out hte0;have hg5:=Hgg.out.1 (by rw [hsd];exact hte0);have hae':=Hae.out;rw [hsd] at hae';rw [Hs2.out,hsd,<-hae'] at hg5;have hJ5:=HGJ.out.day _ _ (evSt s Z).p (Yk HGJ.out s.day ((sortL L).drop s.i) s.p s.R aI HJs.out);rw [hsd,<-hae'] at hJ5;obtain⟨c9,f9,bl9⟩:=hd4.c9;rw [Hs2d.out] at c9;have hd6:=hd4.day (sd+1);obtain⟨Hd4,Hsn4,Hcs,Hp5,Hte0,Hd6,Hg5,HJ5⟩:=hid8 hd4 hsn4 hcs hp5 hte0 hd6 hg5 hJ5;clear hJ5 hg5 hd6 hte0 hp5 hcs hsn4 hd4;exact j3T
  ·have hEb:(E==0)=false:=beq_eq_false_iff_ne.2 hE0;obtain⟨HJs,Hgs,Hri,Hpr0,Hd,Hp,Hrv,HZ,Hev⟩:=hid9 hJs hgs hri hpr0 hd hp hrv hZ hev;clear hev hZ hrv hp hd hpr0 hri hgs hJs;obtain⟨HE,Hperr,HE0,Hmeas,Hrok,L0⟩:=hid6 hE hperr hE0 hmeas hrok l0;clear l0 hrok hmeas hE0 hperr hE;go_wp2_with fail;refine(Hev.out).mono ?_;rintro e w1 ⟨rfl,vb',vr',a1,_,hr1⟩;have hd1:=Hd.out.call hr1;obtain⟨Hr1,Hd1⟩:=hid2 hr1 hd1;clear hd1 hr1;go_wp2_with fail;go_step3;go_wp2;refine Sn ⟨wkJ0.mk E rfl Hd1.out.pos ⟨_,Hd1.out.keeps⟩ HE0.out (Hperr.out HE0.out), ?_⟩;show _<td+1;exact Hmeas.out
 ·intro hp1;go_wp2_with fail;rw [<-hw4];clear hw4;have hS5:=HS4.out w4.drew (Keeps.drew _);have HS5:=Lib.hid hS5;clear hS5;refine Al (wkS w.heap.size t (.slice adt n ct) f0 f1 f2) (.take 0 (.take 1 (.take 3 (.take 4 (.take 5 (.move 2 (.take 6 (.move 7 (.take 8 .done))))))))) j9 j9 ?_ ?_
  ·exact HS5.out
  intro w5 hs5 hk5;refine j1R ?_;have hk5w:=Hk4.out.nt hk5;refine jc ?_;intro K hK
  go_at_call 178
  ((with_reducible refine(Hsrt.out _ hk5w).mono ?_);rintro e w6 ⟨vl,rfl,hrl,hk6,hnl⟩;dsimp only)
  obtain⟨al,cl,rfl⟩:∃a c,vl= .slice a N c:=by obtain⟨a,c,h,_⟩:=Ae hrl;rw [HN.out] at h;exact⟨a,c,h⟩
  refine hK.out _ _ (by exact hs5.keep hk6) ?_;clear hK K;refine ja ?_;refine j1R ?_;refine jc ?_;intro K hK;refine hK.out _ _ (by exact(hs5.keep hk6).keep (Keeps.alloc _ _)) ?_;clear hK K;refine ja ?_;refine j1R ?_;refine Ap ?_;have hk7:=(hk5w.nt hk6).Af (o:= .cells #[.int .i64 t.limit,.slice adt n ct,.int .i64 t.cyc,.int .i64 t.due,.int .i64 t.minFixed,.int .i64 t.minPart,.int .i64 t.start,.slice al N cl,.int .i64 0,.int .i64 t.start,.slice none 0 0,.int .i64 0,.int .i64 0,.slice none 0 0,.slice none 0 0,.slice none 0 0,.slice none 0 0,f0,f1,f2] 250);have hb7:=heap_alloc_new w6 (.cells #[.int .i64 t.limit,.slice adt n ct,.int .i64 t.cyc,.int .i64 t.due,.int .i64 t.minFixed,.int .i64 t.minPart,.int .i64 t.start,.slice al N cl,.int .i64 0,.int .i64 t.start,.slice none 0 0,.int .i64 0,.int .i64 0,.slice none 0 0,.slice none 0 0,.slice none 0 0,.slice none 0 0,f0,f1,f2] 250);have hr7:=hrl.alloc (.cells #[.int .i64 t.limit,.slice adt n ct,.int .i64 t.cyc,.int .i64 t.due,.int .i64 t.minFixed,.int .i64 t.minPart,.int .i64 t.start,.slice al N cl,.int .i64 0,.int .i64 t.start,.slice none 0 0,.int .i64 0,.int .i64 0,.slice none 0 0,.slice none 0 0,.slice none 0 0,.slice none 0 0,f0,f1,f2] 250);have hk47:Keeps (λ_=>False) w4 _:=(hk5.nt hk6).Af (o:= .cells #[.int .i64 t.limit,.slice adt n ct,.int .i64 t.cyc,.int .i64 t.due,.int .i64 t.minFixed,.int .i64 t.minPart,.int .i64 t.start,.slice al N cl,.int .i64 0,.int .i64 t.start,.slice none 0 0,.int .i64 0,.int .i64 0,.slice none 0 0,.slice none 0 0,.slice none 0 0,.slice none 0 0,f0,f1,f2] 250);have hBw:w.heap.size<=w6.heap.size:=(hk5w.nt hk6).size;have hBn:w6.heap.size≠w.heap.size:=by have:=lt_of_block Hp4.out;have:=(hk5.nt hk6).size;omega
  have hnl':∀g,(Value.slice al N cl).ownBlock=some g->w.heap.size<=g:=λg hg=>by have:=hnl g hg;have:=hk5w.size;omega
  obtain⟨w7,hw7⟩:∃x,x=w6.alloc (.cells #[.int .i64 t.limit,.slice adt n ct,.int .i64 t.cyc,.int .i64 t.due,.int .i64 t.minFixed,.int .i64 t.minPart,.int .i64 t.start,.slice al N cl,.int .i64 0,.int .i64 t.start,.slice none 0 0,.int .i64 0,.int .i64 0,.slice none 0 0,.slice none 0 0,.slice none 0 0,.slice none 0 0,f0,f1,f2] 250):=⟨_,rfl⟩;rw [<-hw7] at hk7 hb7 hr7 hk47⊢;obtain⟨B,hB⟩:∃x,x=w6.heap.size:=⟨_,rfl⟩;rw [<-hB] at hb7 hBw hBn⊢;clear hB hw7 hs5 hk5 hk5w hk6 hrl hnl;obtain⟨b0,b1,b2,b3,b4,b5,b6⟩:=(HS4.out w7 hk47).1;have bbl:=Ah b0;have hp7:=Ad Hp4.out hk47 (by simp);have hs7:=Ad Hs4.out hk47 (by simp);obtain⟨Hk7,Hb7,Hr7,Hk47,Hnl',Hp7,Hs7⟩:=hid7 hk7 hb7 hr7 hk47 hnl' hp7 hs7;clear hs7 hp7 hnl' hk47 hr7 hb7 hk7;go_wp2_with fail;refine(Hrgt.out _ Hk7.out).mono ?_;rintro e w8 ⟨rfl,hk8⟩;by_cases hz0:z=0
  ·have hrok:=Ea (Hz.out.trans hz0);have hnum:=Fg hrok.tm;rw [Hn.out] at hnum;obtain⟨⟨l0,l1⟩,_,_,_,_,_,⟨sa,sb⟩⟩:=hnum;have hzI:(z==0)=true:=by simp [hz0]
   have hall:=λW=>Ad8 t.start t.cyc td W j6;rw [hA] at hall;clear b0 b1 b2 b3 b4 b5 b6 bbl;obtain⟨b0,b1,b2,b3,b4,b5,b6⟩:=(HS4.out w8 (Hk47.out.nt hk8)).1;have bbl:=Ah b0;obtain⟨Hk8,Hall,Hrok,Hz0⟩:=hid4 hk8 hall hrok hz0;clear hz0 hrok hall hk8;go_wp2_with fail;refine(Hall.out _).mono ?_;rintro e w9 ⟨vS,rfl,hrow,hk9,hnS⟩;clear b0 b1 b2 b3 b4 b5 b6 bbl;have hk89:=Hk8.out.nt hk9;have hb9:=Ad Hb7.out hk89 (by simp);obtain⟨b0,b1,b2,b3,b4,b5,b6⟩:=(HS4.out w9 (Hk47.out.nt hk89)).1;have bbl:=Ah b0;have c10:=Aa hb9 10;have f10:=Ab hb9 10;have bl9:=lt_of_block hb9;obtain⟨i0,hi,hi0,hi1,hi2⟩:=info_parts Gm;refine j16 ?_;intro hmk;simp only [Int.toNat_natCast,hi1,Nat.mul_one] at hmk;obtain⟨Y,hY⟩:∃Y,Y=madeCells (Value.int IntKind.i64 0).cells n:=⟨_,rfl⟩;rw [<-hY] at hmk;obtain⟨Hi,Hi0,Hi1,Hi2,HY,Hrow,Hk9,HnS,Hk89⟩:=hid9 hi hi0 hi1 hi2 hY hrow hk9 hnS hk89;clear hk89 hnS hk9 hrow hY hi2 hi1 hi0 hi;have Hb9:=Lib.hid hb9;clear hb9;go_wp2
   have hpre:PreR w B (w.heap.size+1+1) (w.heap.size+1+1+1) t n (.slice adt n ct) (sortL L) A vS (.slice al N cl) (.slice (some ⟨w9.heap.size,0,none⟩) n n) f0 f1 f2 (.slice none 0 0) 0 ((w9.setCell ⟨B,10,none⟩ (.slice (some ⟨w9.heap.size,0,none⟩) n n)).alloc (.cells Y 2)):=by
    have hl8:w.heap.size+1+1+1<w8.heap.size:=by have:=lt_of_block Hs7.out;have:=Hk8.out.size;omega
    rw [HY.out,<-World.setCell_alloc_past _ _ _ _ bl9];exact PreR.start Hb9.out (HS4.out w9 (Hk47.out.nt Hk89.out)).1 (by rw [Kg];exact Hr7.out.of_keeps Hk89.out) (Ad Hp7.out Hk89.out (by simp)) (Ad Hs7.out Hk89.out (by simp)) Hrow.out ⟨by omega,by omega,hBw,λg hg=>by have:=HnS.out g hg;omega⟩ (λg hg=>by have:=HnS.out g hg;omega) Hnl'.out jd hBn (Hk7.out.nt Hk89.out)
   obtain⟨W0,hW0⟩:∃x,x=((w9.setCell ⟨B,10,none⟩ (.slice (some ⟨w9.heap.size,0,none⟩) n n)).alloc (.cells Y 2)):=⟨_,rfl⟩;rw [<-hW0] at hpre⊢;clear hW0;obtain⟨vb,hvb⟩:∃x,x=(Value.slice (some ⟨w9.heap.size,0,none⟩) n n):=⟨_,rfl⟩;rw [<-hvb] at hpre;clear hvb b0 b1 b2 b3 b4 b5 b6 bbl c10 f10 bl9 hmk;have Hpre:=Lib.hid hpre;clear hpre
   go_loopw [49] (λx wx=>∃(k:Nat) (vr:Value),x= .int .i64 (k:Nat)/\k<=n/\PreR w B (w.heap.size+1+1) (w.heap.size+1+1+1) t n (.slice adt n ct) (sortL L) A vS (.slice al N cl) vb f0 f1 f2 vr k wx) (λx _=>n-(intOf x).toNat)
   case atStart=>exact⟨0,_,rfl,Nat.zero_le _,Hpre.out⟩
   case round=>
    obtain⟨k,vr,rfl,hkn,hpr⟩:=hrel;obtain⟨wq,hwq⟩:∃x,x=wr:=⟨_,rfl⟩;subst hwq;obtain⟨ar,cr,rfl⟩:∃a c,vr= .slice a k c:=by obtain⟨a,c,h,_⟩:=Ae hpr.rts;exact⟨a,c,h⟩
    by_cases hlt:k<n
    ·have hltI:(k:Int)<(n:Int):=j8;obtain⟨x,hx⟩:=Aq (L:=t.trs) (k:=k) jQ;obtain⟨g,o,c',he,hc⟩:=(Htr.out.keeps hpr.kp (by simp)).elem Tn.Aj hx j7;simp only [Value.slice.injEq,true_and] at he;obtain⟨rfl,rfl⟩:=he;obtain⟨xr,xg⟩:=x;have x0:wq.cell? ⟨g,o+k*2,none⟩=some (.int .i64 xr):=hc 0 j7;have x1:wq.cell? ⟨g,o+k*2+1,none⟩=some (.bool xg):=hc 1 j7;clear hc;obtain⟨w10,hw10⟩:∃x,x=wq.alloc (.cells #[.int .i64 xr,.bool xg] 120):=⟨_,rfl⟩;have hpr1:=hpr.keep0 (Keeps.alloc wq (.cells #[.int .i64 xr,.bool xg] 120));rw [<-hw10] at hpr1;have hqB:=lt_of_block hpr.blk;have hqr:¬(Value.slice ar k cr).ownBlock=some wq.heap.size:=λe=>by have:=Cj hpr.rts e;omega
     have hS1:r11S B wq.heap.size (.slice ar k cr) xr w10.drew:=(show r11S B wq.heap.size (.slice ar k cr) xr w10 from⟨Aa hpr1.blk 13,by rw [hw10];exact Aa (heap_alloc_new wq (.cells #[.int .i64 xr,.bool xg] 120)) 0⟩).keep (S:=λ_=>False) (Keeps.drew _) (by simp) (by simp);obtain⟨Hx,Hpr,Hpr1,HS1⟩:=hid4 hx hpr hpr1 hS1;clear hS1 hpr1 hpr hx;go_wp2_with fail;rw [<-hw10];clear hw10 x0 x1;obtain⟨b9,hb9e⟩:∃x,x=wq.heap.size:=⟨_,rfl⟩;rw [<-hb9e] at HS1 hqr hqB⊢;have Hb9e:=Lib.hid hb9e;clear hb9e;refine Cw (r11S B b9 (.slice ar k cr) xr) 11 (.take 0 (.take 1 (.take 2 (.take 3 (.take 4 (.take 5 (.take 6 (.move 7 (.move 8 (.move 9 (.move 10 (.move 11 .done)))))))))))) j9 j9 ?_ ?_
     ·exact HS1.out
     intro w11 hs11 hk11;refine je ?_;intro K hK;refine hK.out _ _ (by exact hs11.keep (S:=λ_=>False) (Keeps.alloc _ _) (by simp) (by simp)) ?_;clear hK K;refine jh ?_;have hk11a:=hk11.nt (Keeps.alloc w11 (.cells #[.int .i64 xr] 2));have hpr2:=Hpr1.out.keep0 hk11a;have hrt2:=hpr2.rts;refine Ag rfl (λK hK=> ?_);refine Bv rfl (.tmp 57) (.tmp 60) 50 rfl 0 2 i0 _ 1 8 Tryz.underlying50 Hi.out Hi0.out Hi1.out Hi2.out rfl j7 (.slice ar k cr) k _ rfl hrt2 _ 1 _ rfl (Reads.litAt _ _ _ 1 1 _ jq rfl) jg jd j6 (Nat.zero_le _) ?_;intro v12 w12 hown12 hk12 hf12;obtain⟨a12,c12,rfl,_,_⟩:=Ae hown12;have hxr:(t.trs.map Tn.rate)[k]?=some xr:=by rw [List.getElem?_map,Hx.out];rfl
     have happ:=hpr2.app hBn hxr hk12 (by rw [List.flatMap_append];exact hown12) hf12;have hB12:=Ad hpr2.blk hk12 (λe=>Ai hrt2 hpr2.blk j7 e);have o13:=Aa hB12 13;have f13:=Ab hB12 13;have l13:=lt_of_block hB12;refine hK.out _ _ (by exact(hs11.keep (S:=λ_=>False) (Keeps.alloc _ _) (by simp) (by simp)).keep hk12 (λe=>Ai hrt2 hpr2.blk j7 e) hqr) ?_;clear hK K;refine ja ?_;obtain⟨Hk11a,Hpr2,Hrt2,Hown12,Hk12,Hxr,Happ,HB12,Hk11⟩:=hid9 hk11a hpr2 hrt2 hown12 hk12 hxr happ hB12 hk11;clear hk11 hB12 happ hxr hk12 hown12 hrt2 hpr2 hk11a;clear hs11 hf12
     repeat (refine Eb (v:= ?_) rfl (by rfl) ?_ ?_;rotate_left;(· intro w' hSw;unfold r11S at hSw;go_simp;(try with_reducible rfl));rotate_right;try simp only [aps])
     refine jT ?_;clear o13 f13 l13;exact j37
    ·obtain rfl:n=k:=by omega
     have hfr0:=Xt hpr.blk j6
     have hne:t.trs.flatMap Tn.cells≠ []:=λe=>by
      have h1:=congrArg List.length e;rw [Rf t.trs,Hn.out] at h1;simp at h1;omega
     have hvb:∀b,(Value.slice adt n ct).ownBlock=some b->b<w.heap.size:=λb hb=>by
      obtain⟨g,hg,hl⟩:=Htr.out.lt hne;rw [hg] at hb;injection hb with hb;omega
     have hps:=DayP.start (Hz.out.trans Hz0.out) Hn.out;rw [hA,HR.out] at hps;have hgs0:DayS γ t (sortL L) n td A (st0 t) a0 y:=by rw [<-Hy.out,<-hA,<-Hn.out];exact rfl
     obtain⟨Hpr,Hfr0,Hne,Hvb,Hps,Hgs0⟩:=hid6 hpr hfr0 hne hvb hps hgs0;clear hgs0 hps hvb hne hfr0 hpr;go_wp2_with fail;refine Hfr0.out.mono ?_;rintro e w12 ⟨rfl,a,b,hBb,ha,hb,la,lb,hab,hk⟩;have hday:=Hpr.out.fin HI0.out (λb hb=>HG0.out (Hz.out.trans Hz0.out) b (by cases adt with|none=>cases hb|some x=>exact hb)) Hn.out Htr.out Hvb.out hBb ha hb la lb hab hk;obtain⟨Hday,HBb,Ha,Hb,La,Lb,Hab,Hk⟩:=hid8 hday hBb ha hb la lb hab hk;clear hk hab lb la hb ha hBb hday;go_wp2_with fail;go_step3;rename_i hK;refine hK _ _ ?_;refine hp1.out _ _ ?_;exact wkJ1.mk (st0 t) a0 B vS (by first|exact Hz0.out|rfl) rfl Hday.out Hps.out Hgs0.out (HJ0.out (Hz.out.trans Hz0.out))
  ·have hzI:(z==0)=false:=beq_eq_false_iff_ne.2 hz0;have hR2:R.2=z:=by have:=HR'.out;rw [if_neg hz0] at this;rw [<-this]
   obtain⟨Hk8,Hz0,HR2⟩:=hid3 hk8 hz0 hR2;clear hR2 hz0 hk8;go_wp2_with fail;go_step3;go_wp2;refine Sn (wkJ0.mk z rfl (Ad Hp7.out Hk8.out (by simp)) ⟨a0,G0,V.fr HI0.out (λb hb=>(Hk7.out.nt Hk8.out).block b (V.lt HI0.out hb) (by simp)),(Hk7.out.nt Hk8.out).mono (by simp),λe=>by have:=V.lt HI0.out e;omega⟩ Hz0.out HR2.out)
theorem Aa5(t:Tm)(adt:Option Addr)(ct n:Nat)(L:List Ev)(ad:Option Addr)(cap N:Nat)(td:Int)(f0 f1 f2:Value)(w:World)(hn:t.trs.length=n)(htr:Reads w 2 (.slice adt n ct) n (t.trs.flatMap Tn.cells))(hN:L.length=N)(hr:Reads w 5 (.slice ad N cap) N (L.flatMap Ev.cells))(hl:N<=1000000)(htl:n<=1000000)
  (hf:Dl t L td=0->f0= .nilFunc/\f1= .nilFunc/\f2= .nilFunc):
  Calls Tryz.prog 149 #[.agg #[.int .i64 t.limit,.slice adt n ct,.int .i64 t.cyc,.int .i64 t.due,.int .i64 t.minFixed,.int .i64 t.minPart,.int .i64 t.start],.slice ad N cap,.int .i64 td,.agg #[f0,f1,f2]] w (Uu w n (walkR t L td)):=by
 refine(Aa4 wt0 ⟨λa _ _ _=>a,λa _=>a,λa _ _=>a⟩ (λ_ _=>True) ⟨λ_ _ _ _ _ h=>h,λ_ _ _ h=>h,λ_ _ _ _ h=>h⟩ () (λ_=>False) t adt ct n L ad cap N td f0 f1 f2 w hn htr hN hr hl htl (λhz=> ?_) (λ_=>trivial) (λ_ h=>h) (λ_ _ _ h=>h)).mono ?_
 ·obtain⟨rfl,rfl,rfl⟩:=hf hz;exact⟨evOk_nil _ (λ_ _ _ _=>rfl) _ _ _,endOk_nil wt0 (λ_ _=>True) (λ_ _=>rfl) _ _ _,clOk_nil _ (λ_ _ _=>rfl) _ _ _⟩
 ·rintro e w' (⟨hz,vb,vr,vo,P,G,rfl,hres,hI⟩|⟨hz,rfl,a,G,hI,hk⟩)
  ·exact .inl ⟨hz,vb,vr,vo,P,rfl,{ hres with kp:=hres.kp.mono λi _ h=>absurd h (hI i) }⟩
  ·exact .inr ⟨hz,rfl,hk.mono λi _ h=>absurd h (hI i)⟩
theorem Ed.lift{w w2 w' w'':World}{n:Nat}{s:St}{vb vr vo:Value}{P:List SV}{b8:Nat}(h:Ed w2 n s vb vr vo P w')(hk:Keeps (λi=>i=b8) w' w'')(hb:b8<w2.heap.size)(hkw:Keeps (λ_=>False) w w2)(hwb:w.heap.size<=b8):Ed w n s vb vr vo P w'' where
 bal:=hk.row h.bal λb hb' e=>by have e':b=b8:=e;have:=h.wb b hb';omega
 rts:=hk.row h.rts λb hb' e=>by have e':b=b8:=e;have:=h.wr b hb';omega
 out:=hk.row h.out λb hb' e=>by have e':b=b8:=e;have:=h.wo b hb';omega
 ln:=λx hx=>hk.row (h.ln x hx) λb hb' e=>by have e':b=b8:=e;have:=h.wl x hx b hb';omega
 lp:=h.lp
 nb:=h.nb
 nr:=h.nr
 wb:=λb hb'=>by have:=h.wb b hb';have:=hkw.size;omega
 wr:=λb hb'=>by have:=h.wr b hb';have:=hkw.size;omega
 wo:=λb hb'=>by have:=h.wo b hb';have:=hkw.size;omega
 wl:=λx hx b hb'=>by have:=h.wl x hx b hb';have:=hkw.size;omega
 kp:=(hkw.nt h.kp).trans (hk.mono λi _ e=> .inr (by have e':i=b8:=e;omega))
theorem Nt(t:Tm)(adt:Option Addr)(ct n:Nat)(L:List Ev)(ad:Option Addr)(cap N:Nat)(td:Int)(w:World)(hn:t.trs.length=n)(htr:Reads w 2 (.slice adt n ct) n (t.trs.flatMap Tn.cells))(hN:L.length=N)(hr:Reads w 5 (.slice ad N cap) N (L.flatMap Ev.cells))(hl:N<=1000000)(htl:n<=1000000):
  Calls Tryz.prog 108 #[.agg #[.int .i64 t.limit,.slice adt n ct,.int .i64 t.cyc,.int .i64 t.due,.int .i64 t.minFixed,.int .i64 t.minPart,.int .i64 t.start],.slice ad N cap,.int .i64 td] w (Uu w n (walkR t L td)):=by
 obtain⟨R,hR⟩:∃R,walkR t L td=R:=⟨_,rfl⟩;have hwk:=λW (hW:Keeps (λ_=>False) w W)=>Aa5 t adt ct n L ad cap N td .nilFunc .nilFunc .nilFunc W hn (htr.keeps hW (by simp)) hN (hr.keeps hW (by simp)) hl htl (λ_=>⟨rfl,rfl,rfl⟩);rw [hR] at hwk⊢;obtain⟨w2,hw2⟩:∃x,x=(w.alloc (.cells #[.int .i64 t.limit,.slice adt n ct,.int .i64 t.cyc,.int .i64 t.due,.int .i64 t.minFixed,.int .i64 t.minPart,.int .i64 t.start] 44)).alloc (.cells #[.slice none 0 0,.int .i64 0,.int .i64 0] 52):=⟨_,rfl⟩;have hk2:Keeps (λ_=>False) w w2:=by rw [hw2];exact(Keeps.alloc _ _).Af
 have hp2:w2.heap[w.heap.size+1]?=some (.cells #[.slice none 0 0,.int .i64 0,.int .i64 0] 52 (0,0)):=by rw [hw2];exact Av _ _ (by simp)
 obtain⟨Htr,Hr,HR,HN,Hn,Hwk,Hk2,Hp2⟩:=hid8 htr hr hR hN hn hwk hk2 hp2;clear hp2 hk2 hwk hn hN hR hr htr;go_enter Tryz.func108,Tryz.ntmps108;go_wp2_with fail;rw [<-hw2];clear hw2;refine(Hwk.out _ Hk2.out).mono ?_;rintro e w3 (⟨hz,vb,vr,vo,P,rfl,hres⟩|⟨hz,rfl,hk3⟩)
 ·obtain⟨ab,cb,rfl⟩:∃a c,vb= .slice a n c:=by obtain⟨a,c,h,_⟩:=Ae hres.bal;exact⟨a,c,h⟩
  have hb:=Ad Hp2.out hres.kp (by simp);refine j1Q ?_;intro d0 d1 d2 e0 e1 e2 dl;have hkz:Keeps (λi=>i=w.heap.size+1) w3 (((w3.setCell ⟨w.heap.size+1,0,none⟩ (.slice ab n cb)).setCell ⟨w.heap.size+1,1,none⟩ (.int .i64 R.1.p.cr)).setCell ⟨w.heap.size+1,2,none⟩ (.int .i64 R.1.p.du)):=((Keeps.setCell (S:=λi=>i=w.heap.size+1) _ _ _ rfl).trans (Keeps.setCell _ _ _ (.inl rfl))).trans (Keeps.setCell _ _ _ (.inl rfl));have hb3:(((w3.setCell ⟨w.heap.size+1,0,none⟩ (.slice ab n cb)).setCell ⟨w.heap.size+1,1,none⟩ (.int .i64 R.1.p.cr)).setCell ⟨w.heap.size+1,2,none⟩ (.int .i64 R.1.p.du)).heap[w.heap.size+1]?=some (.cells #[.slice ab n cb,.int .i64 R.1.p.cr,.int .i64 R.1.p.du] 52 (0,0)):=(heap_setCell_same _ _ 2 _ _ _ ((heap_setCell_same _ _ 1 _ _ _ ((heap_setCell_same _ _ 0 _ _ _ hb).trans rfl)).trans rfl)).trans rfl;have hres2:=hres.lift hkz (lt_of_block Hp2.out) Hk2.out j6;obtain⟨Hz,Hres,Hb,Hkz,Hb3,Hres2⟩:=hid6 hz hres hb hkz hb3 hres2;clear hres2 hb3 hkz hb hres hz;go_wp2;have r0:=Aa Hb3.out 0;have r1:=Aa Hb3.out 1;have r2:=Aa Hb3.out 2;clear d0 d1 d2;exact bodyPost_ret (v:= .tuple #[.agg #[.slice ab n cb,.int .i64 R.1.p.cr,.int .i64 R.1.p.du],vr,vo,.int .i64 0]) (by simp [results,Tryz.results108,go_sem,r0,r1,r2]) rfl (.inl ⟨Hz.out,_,vr,vo,P,rfl,Hres2.out⟩)
 ·have hb:=Ad Hp2.out hk3 (by simp);refine j1Q ?_;intro d0 d1 d2 e0 e1 e2 dl;have hkz:Keeps (λi=>i=w.heap.size+1) w3 (((w3.setCell ⟨w.heap.size+1,0,none⟩ (.slice none 0 0)).setCell ⟨w.heap.size+1,1,none⟩ (.int .i64 0)).setCell ⟨w.heap.size+1,2,none⟩ (.int .i64 0)):=((Keeps.setCell (S:=λi=>i=w.heap.size+1) _ _ _ rfl).trans (Keeps.setCell _ _ _ (.inl rfl))).trans (Keeps.setCell _ _ _ (.inl rfl));have hb3:(((w3.setCell ⟨w.heap.size+1,0,none⟩ (.slice none 0 0)).setCell ⟨w.heap.size+1,1,none⟩ (.int .i64 0)).setCell ⟨w.heap.size+1,2,none⟩ (.int .i64 0)).heap[w.heap.size+1]?=some (.cells #[.slice none 0 0,.int .i64 0,.int .i64 0] 52 (0,0)):=(heap_setCell_same _ _ 2 _ _ _ ((heap_setCell_same _ _ 1 _ _ _ ((heap_setCell_same _ _ 0 _ _ _ hb).trans rfl)).trans rfl)).trans rfl;have hkf:Keeps (λ_=>False) w (((w3.setCell ⟨w.heap.size+1,0,none⟩ (.slice none 0 0)).setCell ⟨w.heap.size+1,1,none⟩ (.int .i64 0)).setCell ⟨w.heap.size+1,2,none⟩ (.int .i64 0)):=(Hk2.out.nt hk3).trans (hkz.mono λi _ e=> .inr jo);obtain⟨Hz,Hb,Hkz,Hb3,Hkf,Hk3⟩:=hid6 hz hb hkz hb3 hkf hk3;clear hk3 hkf hb3 hkz hb hz;go_wp2;have r0:=Aa Hb3.out 0;have r1:=Aa Hb3.out 1;have r2:=Aa Hb3.out 2;clear d0 d1 d2;exact bodyPost_ret (v:= .tuple #[.agg #[.slice none 0 0,.int .i64 0,.int .i64 0],.slice none 0 0,.slice none 0 0,.int .i64 R.2]) (by simp [results,Tryz.results108,go_sem,r0,r1,r2]) rfl (.inr ⟨Hz.out,rfl,Hkf.out⟩)
theorem Yg(B:Nat)(q:Ev->Bool)(ad:Option Addr)(cap:Nat)(L:List Ev)(w:World)(hr:Reads w 5 (.slice ad L.length cap) L.length (L.flatMap Ev.cells))(hl:L.length<=1000000)
  (hq:∀W (x:Ev),Keeps (λ_=>False) w W->Calls Tryz.prog 177 #[x.agg,(.pointer (some ⟨B,0,none⟩))] W λe w'=>e= .returned (.bool (q x))/\Keeps (λ_=>False) W w'):
  Calls Tryz.prog 213 #[.slice ad L.length cap,.func (.func 177) #[] #[(.pointer (some ⟨B,0,none⟩))]] w λe w'=>e= .returned (.int .i64 (retI (L.findIdx? q)))/\Keeps (λ_=>False) w w':=by
 obtain⟨n,hn⟩:∃n,L.length=n:=⟨_,rfl⟩;obtain⟨r,hrr⟩:∃r,retI (L.findIdx? q)=r:=⟨_,rfl⟩;rw [hrr];rw [hn] at hr hl⊢;obtain⟨Hr,Hq,Hrr,Hn⟩:=hid4 hr hq hrr hn;clear hn hrr hq hr;go_enter Tryz.func213,Tryz.ntmps213;go_wp2_with fail
 go_loopw [8] (λc wx=>∃j:Nat,j<=n/\c= .int .i64 (j:Nat)/\(∀i y,i<j->L[i]?=some y->q y=false)/\Keeps (λ_=>False) w wx) (λc _=>n-(intOf c).toNat)
 case atStart=>exact⟨0,Nat.zero_le _,rfl,λi y h=>absurd h (Nat.not_lt_zero _),Keeps.refl _ _⟩
 case round=>
  obtain⟨j,hj,rfl,hno,hkx⟩:=hrel;by_cases hjl:j<n
  ·obtain⟨x,hx⟩:=Aq (L:=L) (k:=j) (by rw [Hn.out];exact hjl);have hjI:(j:Int)<(n:Int):=j8;obtain⟨g,o,c,he,hc⟩:=(Hr.out.keeps hkx (by simp)).elem Ev.Aj hx j7;simp only [Value.slice.injEq,true_and] at he;obtain⟨rfl,rfl⟩:=he;have hcall:=Hq.out wr x hkx;obtain⟨qx,hqx⟩:∃b,q x=b:=⟨_,rfl⟩;rw [hqx] at hcall;obtain⟨ki,da,tr,am,re⟩:=x;refine j3g ?_;intro x0 x1 x2 x3 x4;simp only [Ev.agg] at hcall;clear hc;rcases qx with _|_
   ·have hno':∀i y,i<j+1->L[i]?=some y->q y=false:=λi y hi hy=>by
     exact j3h
    obtain⟨Hno,Hno',Hx,Hqx,Hkx,Hcall⟩:=hid6 hno hno' hx hqx hkx hcall;clear hcall hkx hqx hx hno' hno
    go_wp2_with (go_at_call 177;((with_reducible refine Hcall.out.mono ?_);rintro e w1 ⟨rfl,hk1⟩;have Hk1:=Lib.hid hk1;clear hk1))
    exact j3i
   ·have hf:=Wy hx hno hqx;obtain⟨Hno,Hx,Hqx,Hkx,Hcall,Hf⟩:=hid6 hno hx hqx hkx hcall hf;clear hf hcall hkx hqx hx hno
    go_wp2_with (go_at_call 177;((with_reducible refine Hcall.out.mono ?_);rintro e w1 ⟨rfl,hk1⟩;have Hk1:=Lib.hid hk1;clear hk1))
    go_ret;exact⟨by rw [<-Hrr.out,Hf.out];rfl,Keeps.nt Hkx.out Hk1.out⟩
  ·exact j3j
theorem Ad5(B:Nat)(q:Ev->Bool)(v:Value)(L:List Ev)(w:World)(hr:w.ownsRow 0 96 5 v L.length (L.flatMap Ev.cells))(hl:L.length<=1000000)
  (hq:∀W (x:Ev),Keeps (λi=>v.ownBlock=some i) w W->Calls Tryz.prog 177 #[x.agg,(.pointer (some ⟨B,0,none⟩))] W λe w'=>e= .returned (.bool (q x))/\Keeps (λ_=>False) W w'):
  Calls Tryz.prog 176 #[v,.func (.func 177) #[] #[(.pointer (some ⟨B,0,none⟩))]] w λe w'=>∃v',e= .returned v'/\w'.ownsRow 0 96 5 v' (L.filter (λx=> !q x)).length ((L.filter (λx=> !q x)).flatMap Ev.cells)/\Keeps (λi=>v.ownBlock=some i) w w'/\(∀g,v'.ownBlock=some g->v.ownBlock=some g):=by
 obtain⟨ad,cap,rfl,hcap,hcm⟩:=Ae hr;have hidx:=Yg B q ad cap L w (Reads.Az hr) hl (λW x hW=>hq W x (hW.mono (by simp)));obtain⟨n,hn⟩:∃n,L.length=n:=⟨_,rfl⟩;rcases hf:L.findIdx? q with _|k
 ·have hfil:=find_none hf;rw [hf] at hidx;simp only [retI] at hidx;rw [hfil];rw [hn] at hidx hr hl⊢;obtain⟨Hidx,Hr,Hf,Hfil,Hn,Hq⟩:=hid6 hidx hr hf hfil hn hq;clear hq hn hfil hf hr hidx;go_enter Tryz.func176,Tryz.ntmps176
  go_wp2_with (go_at_call 213;((with_reducible refine Hidx.out.mono ?_);rintro e w1 ⟨rfl,hk1⟩;have Hk1:=Lib.hid hk1;clear hk1))
  go_ret;exact⟨_,rfl,Hr.out.of_keeps Hk1.out,Hk1.out.mono (by simp),λ_ h=>h⟩
 ·have hstart:=Er.start hn hf;have hk:k<n:=by have:=(List.findIdx?_eq_some_iff_getElem.1 hf).1;omega
  rw [hf] at hidx;simp only [retI] at hidx;rw [hn] at hidx hr hl hcap⊢;obtain⟨g,c2,he,hg⟩:=Ga hr j6;simp only [Value.slice.injEq,true_and] at he;obtain⟨rfl,rfl⟩:=he;simp only [Value.ownBlock,Option.some.injEq] at hq⊢;have hne:((k:Int)== -1)=false:=beq_eq_false_iff_ne.2 j6;obtain⟨Hidx,Hr,Hf,Hn,Hq,Hstart⟩:=hid6 hidx hr hf hn hq hstart;clear hstart hq hn hf hr hidx;go_enter Tryz.func176,Tryz.ntmps176
  go_wp2_with (go_at_call 213;((with_reducible refine Hidx.out.mono ?_);rintro e w1 ⟨rfl,hk1⟩;have Hk1:=Lib.hid hk1;clear hk1))
  go_loopw [5,6] (λa c wx=>∃(i j:Nat) (X:List Ev),a= .int .i64 (i:Nat)/\c= .int .i64 (j:Nat)/\Er q L X n i j/\wx.ownsRow 0 96 5 (.slice (some ⟨g,0,none⟩) n cap) n (X.flatMap Ev.cells)/\Keeps (λi=>g=i) w wx) (λ_ c _=>n-(intOf c).toNat)
  case atStart=>exact⟨k,k+1,L,rfl,by go_num,Hstart.out,Hr.out.of_keeps Hk1.out,Hk1.out.mono (by simp)⟩
  case round=>
   obtain⟨i,j,X,rfl,rfl,hst,hrow,hkx⟩:=hrel;have hij:=hst.lt;have hjn:=hst.le;by_cases hjl:j<n
   ·have hjI:(j:Int)<(n:Int):=j8;have hiI:(i:Int)<(n:Int):=j8;obtain⟨x,hx⟩:=Aq (L:=X) (k:=j) (by rw [hst.len];exact hjl);have hrowX:wr.ownsRow 0 96 5 (.slice (some ⟨g,0,none⟩) X.length cap) X.length (X.flatMap Ev.cells):=by rw [hst.len];exact hrow
    obtain⟨qx,hqx⟩:∃b,q x=b:=⟨_,rfl⟩;have hcall:∀W,Keeps (λ_=>False) wr W->Calls Tryz.prog 177 #[x.agg,(.pointer (some ⟨B,0,none⟩))] W λe w'=>e= .returned (.bool (q x))/\Keeps (λ_=>False) W w':=λW hW=>Hq.out W x (hkx.trans (hW.mono (by simp)));rw [hqx] at hcall;obtain⟨ki,da,tr,am,re⟩:=x;have x0:wr.cell? ⟨g,j*5,none⟩=some (.int .i64 ki):=Cc Ev.Aj hrowX hx 0 j7;have x1:wr.cell? ⟨g,j*5+1,none⟩=some (.int .i64 da):=Cc Ev.Aj hrowX hx 1 j7;have x2:wr.cell? ⟨g,j*5+2,none⟩=some (.int .i64 tr):=Cc Ev.Aj hrowX hx 2 j7;have x3:wr.cell? ⟨g,j*5+3,none⟩=some (.int .i64 am):=Cc Ev.Aj hrowX hx 3 j7;have x4:wr.cell? ⟨g,j*5+4,none⟩=some (.int .i64 re):=Cc Ev.Aj hrowX hx 4 j7;simp only [Ev.agg] at hcall;have hgl:=Ah x0;clear hrowX;rcases qx with _|_
    ·have hst':=hst.keep hx hqx;obtain⟨Hst,Hst',Hx,Hqx,Hcall,Hrow,Hkx⟩:=hid7 hst hst' hx hqx hcall hrow hkx;clear hkx hrow hcall hqx hx hst' hst;go_wp2_with fail;refine(Hcall.out _ jf).mono ?_;rintro e w2 ⟨rfl,hk2⟩;have hk3:=Keeps.nt j3U hk2;have hrow3:=Hrow.out.of_keeps hk3;have hrowX:w2.ownsRow 0 96 5 (.slice (some ⟨g,0,none⟩) X.length cap) X.length (X.flatMap Ev.cells):=by rw [Hst.out.len];exact hrow3
     obtain⟨⟨yk,yd,yt,ya,yr⟩,hy⟩:=Aq (L:=X) (k:=i) (by rw [Hst.out.len];omega);have y0:w2.cell? ⟨g,i*5,none⟩=some (.int .i64 yk):=Cc Ev.Aj hrowX hy 0 j7;have y1:w2.cell? ⟨g,i*5+1,none⟩=some (.int .i64 yd):=Cc Ev.Aj hrowX hy 1 j7;have y2:w2.cell? ⟨g,i*5+2,none⟩=some (.int .i64 yt):=Cc Ev.Aj hrowX hy 2 j7;have y3:w2.cell? ⟨g,i*5+3,none⟩=some (.int .i64 ya):=Cc Ev.Aj hrowX hy 3 j7;have y4:w2.cell? ⟨g,i*5+4,none⟩=some (.int .i64 yr):=Cc Ev.Aj hrowX hy 4 j7
     have hfr:∀o,w2.frozen? ⟨g,o,none⟩=false:=λo=>by
      rcases hrow3.2 with⟨h0,_⟩|⟨g1,cap1,cur,h0,_,hh,_⟩
      ·simp at h0
      ·exact j3l
     have f0:=hfr (i*5);have f1:=hfr (i*5+1);have f2:=hfr (i*5+2);have f3:=hfr (i*5+3);have f4:=hfr (i*5+4);have v0:w2.heap[wr.heap.size]?=some (.cells #[.int .i64 ki,.int .i64 da,.int .i64 tr,.int .i64 am,.int .i64 re] 96 (0,0)):=Mr hk2 (by simp);have vc0:=Aa v0 0;have vc1:=Aa v0 1;have vc2:=Aa v0 2;have vc3:=Aa v0 3;have vc4:=Aa v0 4;have hnew:=Pj hrow3 Hst.out.len (k:=i) j6 ki da tr am re;clear hrowX hfr;obtain⟨Hk3,Hrow3,Hy,V0,Hnew⟩:=hid5 hk3 hrow3 hy v0 hnew;clear hnew v0 hy hrow3 hk3;clear hk2;go_wp2_with fail;go_roundw
     case rel=>exact⟨i+1,j+1,X.set i ⟨ki,da,tr,am,re⟩,by go_num,by go_num,Hst'.out,Hnew.out,Hkx.out.trans (((Hk3.out.mono (by simp)).trans ((Nf w2 g _ _ _ _ _ _ _ _ _ _).mono λ_ _ h=> .inl h)).mono λ_ _ h=> .inl h)⟩
     case measure=>simp [intOf];omega
    ·have hst':=hst.skip hx hqx;obtain⟨Hst,Hst',Hx,Hqx,Hcall,Hrow,Hkx⟩:=hid7 hst hst' hx hqx hcall hrow hkx;clear hkx hrow hcall hqx hx hst' hst;go_wp2_with fail;refine(Hcall.out _ jf).mono ?_;rintro e w2 ⟨rfl,hk2⟩;have hk3:=Keeps.nt j3U hk2;have Hk3:=Lib.hid hk3;clear hk3;clear hk2;go_wp2_with fail;go_roundw
     case rel=>exact⟨i,j+1,X,rfl,by go_num,Hst'.out,Hrow.out.of_keeps Hk3.out,Hkx.out.trans (Hk3.out.mono (by simp))⟩
     case measure=>simp [intOf];omega
   ·obtain rfl:j=n:=by omega
    have hin:i<j:=hij;have hcl:∀ty,∃vs:List Value,(Builtin.clear_ #[82] ty #[.slice (some ⟨g,i*5,none⟩) (j-i) (cap-i)]).run Tryz.prog wr= .ok (.tuple #[]) (wr.setCells g (i*5) vs):=λty=>Xr wr ty g i j (cap-i) cap _ hrow hin;have hiI:(i:Int)<=(j:Int):=j8;obtain⟨vs,hcl1⟩:=hcl 0;have hci:¬cap=i:=j8;have hiC:(i:Int)<=(cap:Int):=j8;have hiC2:i<=cap:=j8;have hdone:=hst.done Hn.out;have hrd:=Yz hrow hst.len hst.cnt vs;rw [hdone] at hrd;have hlen:(L.filter (λx=> !q x)).length=i:=by rw [<-hdone,List.length_take,hst.len];omega
    clear hcl;obtain⟨Hst,Hrow,Hkx,Hdone,Hrd,Hlen⟩:=hid6 hst hrow hkx hdone hrd hlen;clear hlen hrd hdone hkx hrow hst;go_wp2_with fail;go_ret;exact⟨_,rfl,by rw [Hlen.out];exact Hrd.out,Hkx.out.trans ((Lp g vs (i*5) wr).mono λ_ _ h=> .inl h.symm),λg' hg'=>by simpa [Value.ownBlock] using hg'⟩
inductive Want where
 |all
def Want.p:Want->Ev->Bool
 | .all,_=>true
def Want.fv(_B:Nat):Want->Value
 | .all=> .func (.func 143) #[] #[]
def Want.at(_B:Nat)(_w:World):Want->Prop
 | .all=>True
theorem Want.at.keep{B:Nat}{w w':World}{q:Want}(h:q.at B w){S:Nat->Prop}(_hk:Keeps S w w')(_hS:B<w.heap.size->¬S B):q.at B w':=by
 cases q with
 |all=>trivial
theorem some1_any(q:Want)(B Bd:Nat)(x:Ev)(w:World)(hB:w.cell? ⟨B,0,none⟩=some (q.fv Bd))(hd:q.at Bd w):
  Calls Tryz.prog 177 #[x.agg,(.pointer (some ⟨B,0,none⟩))] w λe w'=>e= .returned (.bool (!q.p x))/\Keeps (λ_=>False) w w':=by
 obtain⟨ki,da,tr,am,re⟩:=x;simp only [Ev.agg];have hBl:=Ah hB
 cases q with
 |all=>
  simp only [Want.fv] at hB;clear hd;go_enter Tryz.func177,Tryz.ntmps177;go_wp2;go_ret;exact⟨rfl,by(repeat (first|exact Keeps.refl _ _|exact Keeps.alloc _ _|exact Keeps.drew _|exact Keeps.drewN _ _|refine Keeps.Am ?_|refine Keeps.Ak ?_|refine Keeps.Af ?_))⟩
def Ku(w:World)(M:List Ev)(e:Ending)(w':World):Prop:=∃v',e= .returned v'/\Reads w' 5 v' M.length (M.flatMap Ev.cells)/\Keeps (λ_=>False) w w'/\(∀g,v'.ownBlock=some g->w.heap.size<=g)
theorem Abh(q:Want)(B Bd:Nat)(t:Tm)(vt v:Value)(L:List Ev)(w:World)(h:DL w B t vt L v)(hl:L.length<=1000000)(hd:q.at Bd w)(hdl:Bd<w.heap.size):Calls Tryz.prog 142 #[(.pointer (some ⟨B,0,none⟩)),q.fv Bd] w (Ku w (L.filter q.p)):=by
 obtain⟨hb,_,hr⟩:=h;have b7:=Aa hb 7;have hbl:=lt_of_block hb;have Hdl:=Lib.hid hdl;clear hdl
 cases q with
 |all=>
  simp only [Want.fv];obtain⟨Hd,Hr,Hb⟩:=hid3 hd hr hb;clear hb hr hd;go_enter Tryz.func142,Tryz.ntmps142;go_wp2_with fail;refine(Mc _ v L.length _ (Reads.Az (Hr.out.alloc _)) (λu hu=>Ev.one _ u hu) j6).mono ?_;rintro e w1 ⟨v1,rfl,hrow1,hk1,hnew1⟩;have hB3:=Mr hk1 (by simp);have c3:=Aa hB3 0;obtain⟨ad1,c1,hv1,_,_⟩:=Ae hrow1;have hnew2:∀g,v1.ownBlock=some g->w.heap.size+1<=g:=λg hg=>by have:=hnew1 g hg;simp at this;exact this
  have hdel:=Ad5 w.heap.size (λx=> !(Want.all).p x) v1 L w1 hrow1 hl (λW x hW=>some1_any (Want.all) w.heap.size Bd x W ((hW.cell (Ah c3) (λe=>by have:=hnew2 w.heap.size e;omega)).trans c3) ((Hd.out.keep (S:=λ_=>False) ((Keeps.alloc _ _).trans (hk1.mono (by simp))) (by simp)).keep hW (λhlt e=>by have:=hnew2 Bd e;have:=Hdl.out;omega)));simp only [Bool.not_not] at hdel;subst hv1;obtain⟨Hdel,Hnew2,Hk1⟩:=hid3 hdel hnew2 hk1;clear hk1 hnew2 hdel;clear hrow1 hnew1 hB3;go_wp2_with fail;refine Hdel.out.mono ?_;rintro e w2 ⟨v2,rfl,hrd0,hk2,hown⟩;have hrd:=Reads.Az hrd0;clear hrd0;have hpost:Ku w (L.filter (Want.all).p) (.returned v2) w2:=⟨v2,rfl,hrd,((Keeps.alloc w _).trans (Hk1.out.mono (by simp))).trans (hk2.mono λi _ e=> .inr (by have:=Hnew2.out i e;omega)),λg hg=>by have:=Hnew2.out g (hown g hg);omega⟩;obtain⟨ad2,c2,rfl,_⟩:=id hrd;have Hpost:=Lib.hid hpost;clear hpost;clear hrd hk2 hown;go_wp2_with fail;go_ret;exact Hpost.out
theorem Ku.up{w:World}{o:Obj}{M:List Ev}{e:Ending}{w':World}(h:Ku (w.alloc o) M e w'):Ku w M e w':=by
 obtain⟨v,he,hr,hk,hg⟩:=h;exact⟨v,he,hr,(Keeps.alloc _ _).trans (hk.mono (by simp)),λg h'=>by have:=hg g h';simp at this;omega⟩
theorem Uh(B:Nat)(t:Tm)(vt v:Value)(L:List Ev)(w:World)(h:DL w B t vt L v)(hl:L.length<=1000000):Calls Tryz.prog 96 #[(.pointer (some ⟨B,0,none⟩))] w (Ku w L):=by
 have hf:L.filter Want.all.p=L:=List.filter_eq_self.2 λ_ _=>rfl;have hs:=Abh .all B B t vt v L w h hl trivial (lt_of_block h.blk);simp only [Want.fv] at hs;rw [hf] at hs;clear h;obtain⟨Hs,Hf⟩:=hid2 hs hf;clear hf hs;go_enter Tryz.func96,Tryz.ntmps96;go_wp2_with fail;refine Hs.out.mono ?_;rintro e w1 ⟨v1,rfl,hrd,hk,hown⟩;obtain⟨ad1,c1,rfl,_⟩:=id hrd;have HP:=Lib.hid (⟨_,rfl,hrd,hk,hown⟩:Ku _ _ (.returned (.slice ad1 _ c1)) w1);clear hrd hk hown;go_wp2_with fail;go_ret;exact HP.out
def fkS(B:Nat)(li cy du mf mp st:Int)(vt v:Value)(w:World):Prop:=
 w.cell? ⟨B,0,none⟩=some (.int .i64 li)/\w.cell? ⟨B,1,none⟩=some vt/\w.cell? ⟨B,2,none⟩=some (.int .i64 cy)/\w.cell? ⟨B,3,none⟩=some (.int .i64 du)/\w.cell? ⟨B,4,none⟩=some (.int .i64 mf)/\w.cell? ⟨B,5,none⟩=some (.int .i64 mp)/\w.cell? ⟨B,6,none⟩=some (.int .i64 st)/\w.cell? ⟨B,7,none⟩=some v
theorem fkS.of{B:Nat}{li cy du mf mp st:Int}{vt v:Value}{w:World}(hb:w.heap[B]?=some (.cells #[.int .i64 li,vt,.int .i64 cy,.int .i64 du,.int .i64 mf,.int .i64 mp,.int .i64 st,v] 215 (0,0))):fkS B li cy du mf mp st vt v w:=
 ⟨Aa hb 0,Aa hb 1,Aa hb 2,Aa hb 3,Aa hb 4,Aa hb 5,Aa hb 6,Aa hb 7⟩
theorem fkS.keep{B:Nat}{li cy du mf mp st:Int}{vt v:Value}{w w':World}(h:fkS B li cy du mf mp st vt v w)(hk:Keeps (λ_=>False) w w'):fkS B li cy du mf mp st vt v w':=by
 exact j2t
def Abt(t:Tm)(vt:Value)(L:List Ev)(w:World)(e:Ending)(w':World):Prop:=∃B' v',e= .returned (.pointer (some ⟨B',0,none⟩))/\DL w' B' t vt L v'/\Keeps (λ_=>False) w w'/\w.heap.size<=B'/\(∀g,v'.ownBlock=some g->w.heap.size<=g)
theorem Rk(B:Nat)(t:Tm)(vt v:Value)(L:List Ev)(w:World)(h:DL w B t vt L v)(hl:L.length<=1000000):Calls Tryz.prog 124 #[(.pointer (some ⟨B,0,none⟩))] w (Abt t vt L w):=by
 obtain⟨hb,ht,hr⟩:=h;obtain⟨adt,ct,rfl,_,_⟩:=Ae ht;have hS:∀W,Keeps (λ_=>False) w W->fkS B t.limit t.cyc t.due t.minFixed t.minPart t.start (.slice adt t.trs.length ct) v W:=λW hW=>fkS.of (Ad hb hW (by simp));have hcl:=λW (hW:Keeps (λ_=>False) w W)=>Mc W v L.length (L.flatMap Ev.cells) (Reads.Az (hr.of_keeps hW)) (λu hu=>Ev.one _ u hu) j6;have hbl:=lt_of_block hb;obtain⟨Hb,Ht,Hr,HS,Hcl⟩:=hid5 hb ht hr hS hcl;clear hcl hS hr ht hb;go_enter Tryz.func124,Tryz.ntmps124;go_wp2_with fail;refine Al (fkS B t.limit t.cyc t.due t.minFixed t.minPart t.start (.slice adt t.trs.length ct) v) (.take 0 (.take 1 (.take 2 (.take 3 (.take 4 (.take 5 (.take 6 (.take 7 (.move 8 (.take 9 (.move 10 (.take 11 .done)))))))))))) j9 j9 ?_ ?_
 ·exact HS.out _ (Keeps.drew _)
 intro w1 hs1 hk1;refine je ?_;intro K hK
 go_at_call 165
 ((with_reducible refine(Hcl.out w1 hk1).mono ?_);rintro e w2 ⟨v2,rfl,hrow2,hk2,hnew2⟩;dsimp only)
 refine hK.out _ _ (by exact HS.out _ (hk1.trans (hk2.mono (by simp)))) ?_;clear hK K;refine ja ?_;have hs2:=HS.out _ (hk1.trans (hk2.mono (by simp)));have hk:=Keeps.nt hk1 hk2;have ht2:=Ht.out.of_keeps hk;obtain⟨ad2,c2,rfl,_,_⟩:=Ae hrow2
 have hpost:Abt t (.slice adt t.trs.length ct) L w (.returned (.pointer (some ⟨w2.heap.size,0,none⟩))) (w2.alloc (.cells #[.int .i64 t.limit,.slice adt t.trs.length ct,.int .i64 t.cyc,.int .i64 t.due,.int .i64 t.minFixed,.int .i64 t.minPart,.int .i64 t.start,.slice ad2 L.length c2] 215)):=
  ⟨_,_,rfl,⟨heap_alloc_new _ _,ht2.alloc _,hrow2.alloc _⟩,Keeps.nt hk (Keeps.alloc _ _),hk.size,λg hg=>by have:=hnew2 g hg;have:=hk1.size;omega⟩
 have Hpost:=Lib.hid hpost;clear hpost;clear hs1 hk1 hk2 hrow2 hnew2 hk ht2;have Hs2:=Lib.hid hs2;clear hs2;refine je ?_;intro K hK;refine hK.out _ _ (by exact fkS.keep Hs2.out (Keeps.alloc _ _)) ?_;clear hK K;refine jj ?_;go_wp2_with fail;go_ret;exact Hpost.out
structure Cs(w:World)(b:Nat)(v:Value)(L:List Disp):Prop where
 blk:w.heap[b]?=some (.cells #[v,.int .i64 (Dv L)] 201 (0,0))
 row:w.ownsRow 0 132 5 v L.length (L.flatMap Disp.cells)
 ok:Uy L
def Foot(b:Nat)(v:Value)(k:Nat):Prop:=k=b\/v.ownBlock=some k
theorem Cs.lt{w:World}{b:Nat}{v:Value}{L:List Disp}(h:Cs w b v L):∀k,Foot b v k->k<w.heap.size:=by
 rintro k (rfl|hk)
 ·exact lt_of_block h.blk
 ·exact(h.row.lt k hk).2
theorem Cs.keeps{S:Nat->Prop}{w w':World}{b:Nat}{v:Value}{L:List Disp}(h:Cs w b v L)(hk:Keeps S w w')(hS:∀k,Foot b v k->¬S k):Cs w' b v L:=
 ⟨by rw [hk.block b (lt_of_block h.blk) (hS b (.inl rfl))];exact h.blk,hk.row h.row λk hk=>hS k (.inr hk),h.ok⟩
def Qa(w:World)(b:Nat)(v:Value)(L':List Disp)(r:Value)(e:Ending)(w':World):Prop:=
 e= .returned r/\∃v',Cs w' b v' L'/\Keeps (Foot b v) w w'/\∀k,Foot b v' k->Foot b v k\/w.heap.size<=k
theorem Abb(w:World):Calls Tryz.prog 107 #[] w λe w'=>e= .returned (.pointer (some ⟨w.heap.size,0,none⟩))/\Cs w' w.heap.size (.slice none 0 0) []/\Keeps (λ_=>False) w w':=by
 have hend:Cs (w.alloc (.cells #[.slice none 0 0,.int .i64 0] 201)) w.heap.size (.slice none 0 0) []/\Keeps (λ_=>False) w (w.alloc (.cells #[.slice none 0 0,.int .i64 0] 201)):=
  ⟨⟨heap_alloc_new w _,World.ownsRow_nil _ _ _ _,by simp,by simp [Dv],by simp⟩,Keeps.alloc _ _⟩
 have Hend:=Lib.hid hend;clear hend;go_enter Tryz.func107,Tryz.ntmps107;go_wp2;go_ret;exact⟨rfl,Hend.out⟩
theorem Ad0(t d a:Int)(b:Nat)(w:World)(ht:t<1\/8<t):
  Calls Tryz.prog 172 #[(.pointer (some ⟨b,0,none⟩)),.int .i64 t,.int .i64 d,.int .i64 a] w λe w'=>e= .returned (.tuple #[.int .i64 0,.int .i64 7])/\w'=w:=by
 rcases(show t<1\/(¬t<1/\8<t) from by omega) with ht|⟨h2,ht⟩<;>
 ·exact j1S
theorem Acz(t d a:Int)(b:Nat)(w:World)(ht:¬(t<1\/8<t))(ha:a<1\/1000000000000000<a):
  Calls Tryz.prog 172 #[(.pointer (some ⟨b,0,none⟩)),.int .i64 t,.int .i64 d,.int .i64 a] w λe w'=>e= .returned (.tuple #[.int .i64 0,.int .i64 8])/\w'=w:=by
 have t1:1<=t:=j8;have t2:t<=8:=j8;clear ht;rcases(show a<1\/(¬a<1/\1000000000000000<a) from by omega) with ht|⟨h2,ht⟩<;>
 ·exact j1S
theorem Ad1(t d a held:Int)(b:Nat)(v:Value)(w:World)(t1:1<=t)(t2:t<=8)(a1:1<=a)(a2:a<=1000000000000000)(l0:0<=held)(l1:held<=1000000000000000)(ha:1000000000000000-held<a)
  (hb:w.heap[b]?=some (.cells #[v,.int .i64 held] 201 (0,0))):
  Calls Tryz.prog 172 #[(.pointer (some ⟨b,0,none⟩)),.int .i64 t,.int .i64 d,.int .i64 a] w λe w'=>e= .returned (.tuple #[.int .i64 0,.int .i64 5])/\w'=w:=by
 exact j3V
theorem Aba(t d a held:Int)(b n cap:Nat)(ad:Option Addr)(w:World)(t1:1<=t)(t2:t<=8)(a1:1<=a)(a2:a<=1000000000000000)(l0:0<=held)(l1:held<=1000000000000000)(ha:a<=1000000000000000-held)
  (hn:2000<=n) (hb:w.heap[b]?=some (.cells #[.slice ad n cap,.int .i64 held] 201 (0,0))):
  Calls Tryz.prog 172 #[(.pointer (some ⟨b,0,none⟩)),.int .i64 t,.int .i64 d,.int .i64 a] w λe w'=>e= .returned (.tuple #[.int .i64 0,.int .i64 14])/\w'=w:=by
 have c0:w.cell? ⟨b,0,none⟩=some (.slice ad n cap):=Aa hb 0;exact j3V
end Go.Proofs.YtgbgmadkmabeeaaGreat
