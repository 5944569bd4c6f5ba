/- Part 24 of what the laws of this seat share: walks of functions, and plain laws. -/
import Derived.Deep.RegionHeld3
import Derived.Test.YtjkdnaljkdnomaaGreatDoorS21
set_option maxRecDepth 100000
set_option maxHeartbeats 800000
namespace Go.Proofs.YtjkdnaljkdnomaaGreatDoor
open Go.RowKit
structure Cv(w:World)(b:Nat)(v:Value)(L:List Disp):Prop where
 blk:w.heap[b]?=some (.cells #[v,.int .i64 (El L)] 150 (0,0))
 row:w.ownsRow 0 148 5 v L.length (L.flatMap Disp.cells)
 ok:Vk L
def Foot(b:Nat)(v:Value)(k:Nat):Prop:=k=b\/v.ownBlock=some k
theorem Cv.lt{w:World}{b:Nat}{v:Value}{L:List Disp}(h:Cv w b v L):∀k,Foot b v k->k<w.heap.size:=by
 rintro k (rfl|hk)
 ·exact lt_of_block h.blk
 ·exact(h.row.lt k hk).2
theorem Cv.keeps{S:Nat->Prop}{w w':World}{b:Nat}{v:Value}{L:List Disp}(h:Cv w b v L)(hk:Keeps S w w')(hS:∀k,Foot b v k->¬S k):Cv w' b v L:=
 ⟨by rw [hk.block b (lt_of_block h.blk) (hS b (.inl rfl))];exact h.blk,hk.row h.row λk hk=>hS k (.inr hk),h.ok⟩
def Qn(w:World)(b:Nat)(v:Value)(L':List Disp)(r:Value)(e:Ending)(w':World):Prop:=
 e= .returned r/\∃v',Cv w' b v' L'/\Keeps (Foot b v) w w'/\∀k,Foot b v' k->Foot b v k\/w.heap.size<=k
theorem Abx(w:World):Calls Tryz.prog 51 #[] w λe w'=>e= .returned (.pointer (some ⟨w.heap.size,0,none⟩))/\Cv w' w.heap.size (.slice none 0 0) []/\K0 w w':=by
 have hend:Cv (w.alloc (.cells #[.slice none 0 0,.int .i64 0] 150)) w.heap.size (.slice none 0 0) []/\K0 w (w.alloc (.cells #[.slice none 0 0,.int .i64 0] 150)):=
  ⟨⟨heap_alloc_new w _,World.ownsRow_nil _ _ _ _,by simp,by simp [El],by simp⟩,Keeps.alloc _ _⟩
 have Hend:=Lib.hid hend;clear hend;go_enter Tryz.func51,Tryz.ntmps51;go_wp2;go_ret;exact⟨rfl,Hend.o⟩
theorem Adm(t d a:Int)(b:Nat)(w:World)(ht:t<1\/8<t):
  Calls Tryz.prog 114 #[(.pointer (some ⟨b,0,none⟩)),.int .i64 t,.int .i64 d,.int .i64 a] w λe w'=>e= .returned (.tuple #[.int .i64 0,.int .i64 7])/\w'=w:=by
 rcases(show t<1\/(¬t<1/\8<t) from by omega) with ht|⟨h2,ht⟩<;>
 ·exact j13
theorem Adl(t d a:Int)(b:Nat)(w:World)(ht:¬(t<1\/8<t))(ha:a<1\/1000000000000000<a):
  Calls Tryz.prog 114 #[(.pointer (some ⟨b,0,none⟩)),.int .i64 t,.int .i64 d,.int .i64 a] w λe w'=>e= .returned (.tuple #[.int .i64 0,.int .i64 8])/\w'=w:=by
 have t1:1<=t:=j8;have t2:t<=8:=j8;clear ht;rcases(show a<1\/(¬a<1/\1000000000000000<a) from by omega) with ht|⟨h2,ht⟩<;>
 ·exact j13
theorem Adn(t d a held:Int)(b:Nat)(v:Value)(w:World)(t1:1<=t)(t2:t<=8)(a1:1<=a)(a2:a<=1000000000000000)(l0:0<=held)(l1:held<=1000000000000000)(ha:1000000000000000-held<a)
  (hb:w.heap[b]?=some (.cells #[v,.int .i64 held] 150 (0,0))):
  Calls Tryz.prog 114 #[(.pointer (some ⟨b,0,none⟩)),.int .i64 t,.int .i64 d,.int .i64 a] w λe w'=>e= .returned (.tuple #[.int .i64 0,.int .i64 5])/\w'=w:=by
 have c1:w.cell? ⟨b,1,none⟩=some (.int .i64 held):=Aa hb 1;clear hb;exact j13
theorem Abw(t d a held:Int)(b n cap:Nat)(ad:Option Addr)(w:World)(t1:1<=t)(t2:t<=8)(a1:1<=a)(a2:a<=1000000000000000)(l0:0<=held)(l1:held<=1000000000000000)(ha:a<=1000000000000000-held)
  (hn:2000<=n) (hb:w.heap[b]?=some (.cells #[.slice ad n cap,.int .i64 held] 150 (0,0))):
  Calls Tryz.prog 114 #[(.pointer (some ⟨b,0,none⟩)),.int .i64 t,.int .i64 d,.int .i64 a] w λe w'=>e= .returned (.tuple #[.int .i64 0,.int .i64 14])/\w'=w:=by
 have c0:w.cell? ⟨b,0,none⟩=some (.slice ad n cap):=Aa hb 0;have c1:w.cell? ⟨b,1,none⟩=some (.int .i64 held):=Aa hb 1;clear hb;exact j13
theorem Abv(t d a held:Int)(n:Nat)(v:Value)(xs:List Value)(b:Nat)(w:World)(t1:1<=t)(t2:t<=8)(a1:1<=a)(a2:a<=1000000000000000)
  (l0:0<=held) (l1:held+a<=1000000000000000) (ln:n<2000)
  (hb:w.heap[b]?=some (.cells #[v,.int .i64 held] 150 (0,0))) (hown:w.ownsRow 0 148 5 v n xs):
  Calls Tryz.prog 114 #[(.pointer (some ⟨b,0,none⟩)),.int .i64 t,.int .i64 d,.int .i64 a] w λe w'=>e= .returned (.tuple #[.int .i64 (n+1),.int .i64 0])/\
   ∃v',w'.heap[b]?=some (.cells #[v',.int .i64 (held+a)] 150 (0,0))/\w'.ownsRow 0 148 5 v' (n+1) (xs++Disp.cells ⟨n+1,t,d,a,1⟩)/\Keeps (Foot b v) w w'/\∀k,Foot b v' k->Foot b v k\/w.heap.size<=k:=by
 have c0:w.cell? ⟨b,0,none⟩=some v:=Aa hb 0;have c1:w.cell? ⟨b,1,none⟩=some (.int .i64 held):=Aa hb 1;obtain⟨i0,hi,hz0,hz1,hz2⟩:=info_parts Un;obtain⟨ad,cap,rfl,hncap,_⟩:=Ae hown;obtain⟨Hown,Hb⟩:=hid2 hown hb;clear hb hown;go_enter Tryz.func114,Tryz.ntmps114;go_wp2;refine Ay 0 rfl ?_;go_wp2
 go_quiet (fail)
 go_wp2_with (at_builtin;refine Am rfl (.tmp 49) (.tmp 55) 52 rfl 0 148 i0 _ 5 40 Tryz.underlying52 hi hz0 hz1 hz2 rfl j7 _ n xs rfl (Hown.o.alloc _) _ 1 [.int .i64 (n+1),.int .i64 t,.int .i64 d,.int .i64 a,.int .i64 1] rfl (Reads.lit _ _ _ _ _ rfl) jf jd j6 j6 ?_)
 intro v' w1 hown1 hk1 hfr;have hk0:Keeps (λk=>(Value.slice ad n cap).ownBlock=some k) w w1:=(Keeps.trans (Keeps.trans (Keeps.drewN w nq) (Keeps.alloc _ _)) (hk1.mono λk _ h=> .inl h));have hne:(Value.slice ad n cap).ownBlock≠some b:=Ah Hown.o Hb.o j7;have hb1:w1.heap[b]?=some (.cells #[.slice ad n cap,.int .i64 held] 150 (0,0)):=by rw [hk0.block b (lt_of_block Hb.o) hne];exact Hb.o
 have d0:w1.cell? ⟨b,0,none⟩=some (.slice ad n cap):=Aa hb1 0;have d1:w1.cell? ⟨b,1,none⟩=some (.int .i64 held):=Aa hb1 1;have e0:w1.frozen? ⟨b,0,none⟩=false:=Ab hb1 0;have e1:w1.frozen? ⟨b,1,none⟩=false:=Ab hb1 1;obtain⟨ad',cap',rfl,hncap',_⟩:=Ae hown1;have hne1:(Value.slice ad' (n+1) cap').ownBlock≠some b:=Ah hown1 hb1 j7
 have hend:((w1.setCell ⟨b,0,none⟩ (.slice ad' (n+1) cap')).setCell ⟨b,1,none⟩ (.int .i64 (held+a))).heap[b]?=some (.cells #[.slice ad' (n+1) cap',.int .i64 (held+a)] 150 (0,0))/\
  ((w1.setCell ⟨b,0,none⟩ (.slice ad' (n+1) cap')).setCell ⟨b,1,none⟩ (.int .i64 (held+a))).ownsRow 0 148 5 (.slice ad' (n+1) cap') (n+1) (xs++Disp.cells ⟨n+1,t,d,a,1⟩)/\
  Keeps (Foot b (.slice ad n cap)) w ((w1.setCell ⟨b,0,none⟩ (.slice ad' (n+1) cap')).setCell ⟨b,1,none⟩ (.int .i64 (held+a)))/\∀k,Foot b (.slice ad' (n+1) cap') k->Foot b (.slice ad n cap) k\/w.heap.size<=k:=by
  refine⟨?_, ?_, ?_, ?_⟩
  ·exact heap_setCell_same _ _ _ _ _ _ (heap_setCell_same _ _ _ _ _ _ hb1)
  ·exact ownsRow_setCell_other (ownsRow_setCell_other hown1 hne1 _) hne1 _
  ·exact((hk0.mono λk _ h=> .inr h).trans (Keeps.setCell _ _ _ (.inl (.inl rfl)))).trans (Keeps.setCell _ _ _ (.inl (.inl rfl)))
  ·rintro k (rfl|hk)
   ·exact .inl (.inl rfl)
   ·rcases hfr with hf|⟨g,hg,hh⟩
    ·exact .inl (.inr (by rw [<-hf];exact hk))
    ·right
     rw [hg] at hk;simp only [Option.some.injEq] at hk;omega
 clear hown1 hk1 hk0 hfr hb1;have Hend:=Lib.hid hend;clear hend;clear c0 c1 hne hne1;go_wp2;go_step3;go_wp2;refine Bo ?_
 go_ret2
 exact⟨rfl,_,Hend.o⟩
theorem Zg(t d a:Int)(L:List Disp)(v:Value)(b:Nat)(w:World)(h:Cv w b v L):
  Calls Tryz.prog 114 #[(.pointer (some ⟨b,0,none⟩)),.int .i64 t,.int .i64 d,.int .i64 a] w (Qn w b v (dOpen L t d a) (.tuple #[.int .i64 (Eh L t a),.int .i64 (Dq L t a)])):=by
 obtain⟨hl,hh,hd⟩:=h.ok;have h0:=Jq L hd
 have stay:∀n:Int,n≠0->Dq L t a=n->∀e w',e= .returned (.tuple #[.int .i64 0,.int .i64 n])/\w'=w->Qn w b v (dOpen L t d a) (.tuple #[.int .i64 (Eh L t a),.int .i64 (Dq L t a)]) e w':=by
  rintro n hn he e w' ⟨rfl,rfl⟩;have h1:dOpen L t d a=L:=by unfold dOpen;rw [if_neg j6]
  have h2:Eh L t a=0:=by unfold Eh;rw [if_neg j6]
  rw [h1,h2,he];exact⟨rfl,v,h,Keeps.refl _ _,λk hk=> .inl hk⟩
 by_cases ht:t<1\/8<t
 ·exact(Adm t d a b w ht).mono (stay 7 j7 (by unfold Dq;rw [if_pos ht]))
 by_cases ha:a<1\/1000000000000000<a
 ·exact(Adl t d a b w ht ha).mono (stay 8 j7 (by unfold Dq;rw [if_neg ht,if_pos ha]))
 by_cases hs:1000000000000000-El L<a
 ·exact(Adn t d a _ b v w j6 j6 j6 j6 h0 hh hs h.blk).mono (stay 5 j7 (by unfold Dq;rw [if_neg ht,if_neg ha,if_pos hs]))
 by_cases hn:2000<=L.length
 ·obtain⟨ad,cap,rfl,_,_⟩:=Ae h.row;exact(Abw t d a _ b _ cap ad w j6 j6 j6 j6 h0 hh j6 hn h.blk).mono (stay 14 j7 (by unfold Dq;rw [if_neg ht,if_neg ha,if_neg hs,if_pos hn]))
 have he:Dq L t a=0:=by unfold Dq;rw [if_neg ht,if_neg ha,if_neg hs,if_neg hn]
 have h1:dOpen L t d a=L++ [⟨L.length+1,t,d,a,1⟩]:=by unfold dOpen;rw [if_pos he]
 have h2:Eh L t a=L.length+1:=by unfold Eh;rw [if_pos he]
 have hok:=dOpen_ok h.ok t d a;refine(Abv t d a _ _ v _ b w j6 j6 j6 j6 h0 j6 j6 h.blk h.row).mono ?_;rintro e w' ⟨rfl,v',hb,hr,hk,hf⟩;refine⟨by rw [he,h2],v',⟨?_, ?_,hok⟩,hk,hf⟩
 ·rw [h1,Nr];simpa using hb
 ·rw [h1];simpa [List.flatMap_append] using hr
def Disp.val(d:Disp):Value:= .agg #[.int .i64 d.ref,.int .i64 d.tranche,.int .i64 d.day,.int .i64 d.amount,.int .i64 d.state]
theorem Adq(ref:Int)(lost:Bool)(b n cap:Nat)(ad:Option Addr)(held:Value)(w:World)(_:n<=2000)(hb:w.heap[b]?=some (.cells #[.slice ad n cap,held] 150 (0,0)))(hr:ref<1\/(n:Int)<ref):
  Calls Tryz.prog 115 #[(.pointer (some ⟨b,0,none⟩)),.int .i64 ref,.bool lost] w
  λe w'=>e= .returned (.tuple #[.agg #[.int .i64 0,.int .i64 0,.int .i64 0,.int .i64 0,.int .i64 0],.int .i64 12])/\K0 w w':=by
 have c0:w.cell? ⟨b,0,none⟩=some (.slice ad n cap):=Aa hb 0;have hbl:b<w.heap.size:=lt_of_block hb;clear hb;rcases(show ref<1\/(1<=ref/\(n:Int)<ref) from by omega) with ht|⟨h2,ht⟩<;>
 ·go_enter Tryz.func115,Tryz.ntmps115;go_wp2;exact bodyPost_ret (v:= .tuple #[.agg #[.int .i64 0,.int .i64 0,.int .i64 0,.int .i64 0,.int .i64 0],.int .i64 12]) j14 rfl ⟨rfl,Keeps.alloc _ _⟩
theorem Adp(k:Nat)(lost:Bool)(b g n cap:Nat)(held:Value)(s:Int)(w:World)(hn:n<=2000)(hk:k<n)(hb:w.heap[b]?=some (.cells #[.slice (some ⟨g,0,none⟩) n cap,held] 150 (0,0)))
  (x4:w.cell? ⟨g,k*5+4,none⟩=some (.int .i64 s)) (hs:(s==1)=false):
  Calls Tryz.prog 115 #[(.pointer (some ⟨b,0,none⟩)),.int .i64 (k+1),.bool lost] w
  λe w'=>e= .returned (.tuple #[.agg #[.int .i64 0,.int .i64 0,.int .i64 0,.int .i64 0,.int .i64 0],.int .i64 13])/\K0 w w':=by
 have c0:w.cell? ⟨b,0,none⟩=some (.slice (some ⟨g,0,none⟩) n cap):=Aa hb 0;have hbl:b<w.heap.size:=lt_of_block hb;have hgl:g<w.heap.size:=Ai x4;clear hb;go_enter Tryz.func115,Tryz.ntmps115;go_wp2;exact bodyPost_ret (v:= .tuple #[.agg #[.int .i64 0,.int .i64 0,.int .i64 0,.int .i64 0,.int .i64 0],.int .i64 13]) j14 rfl ⟨rfl,Keeps.alloc _ _⟩
theorem Ado(k:Nat)(lost:Bool)(held:Int)(g cap:Nat)(L:List Disp)(x:Disp)(b:Nat)(w:World)(hx:L[k]?=some x)(hst:x.state=1)
  (ln:L.length<=2000) (l0:0<=held) (l1:held<=1000000000000000) (a1:1<=x.amount) (a2:x.amount<=1000000000000000)
  (hb:w.heap[b]?=some (.cells #[.slice (some ⟨g,0,none⟩) L.length cap,.int .i64 held] 150 (0,0))) (hown:w.ownsRow 0 148 5 (.slice (some ⟨g,0,none⟩) L.length cap) L.length (L.flatMap Disp.cells)):
  Calls Tryz.prog 115 #[(.pointer (some ⟨b,0,none⟩)),.int .i64 (k+1),.bool lost] w λe w'=>e= .returned (.tuple #[(x.ended lost).val,.int .i64 0])/\
   w'.heap[b]?=some (.cells #[.slice (some ⟨g,0,none⟩) L.length cap,.int .i64 (held-x.amount)] 150 (0,0))/\w'.ownsRow 0 148 5 (.slice (some ⟨g,0,none⟩) L.length cap) L.length ((L.set k (x.ended lost)).flatMap Disp.cells)/\
   Keeps (Foot b (.slice (some ⟨g,0,none⟩) L.length cap)) w w':=by
 have hk:k<L.length:=by
  exact j0E
 obtain⟨xr,xt,xd,xa,xs⟩:=x;simp only at hst a1 a2;subst hst;have c0:w.cell? ⟨b,0,none⟩=some (.slice (some ⟨g,0,none⟩) L.length cap):=Aa hb 0;have c1:w.cell? ⟨b,1,none⟩=some (.int .i64 held):=Aa hb 1;have f1:w.frozen? ⟨b,1,none⟩=false:=Ab hb 1;have hbl:b<w.heap.size:=lt_of_block hb;have hgl:g<w.heap.size:=(hown.lt g rfl).2;have hne:¬b=g:=λe=>Ah hown hb j7 (by rw [e];rfl);have x0:w.cell? ⟨g,k*5,none⟩=some (.int .i64 xr):=Bw Disp.Aj hown hx 0 j7;have x1:w.cell? ⟨g,k*5+1,none⟩=some (.int .i64 xt):=Bw Disp.Aj hown hx 1 j7;have x2:w.cell? ⟨g,k*5+2,none⟩=some (.int .i64 xd):=Bw Disp.Aj hown hx 2 j7;have x3:w.cell? ⟨g,k*5+3,none⟩=some (.int .i64 xa):=Bw Disp.Aj hown hx 3 j7;have x4:w.cell? ⟨g,k*5+4,none⟩=some (.int .i64 1):=Bw Disp.Aj hown hx 4 j7;have y4:w.frozen? ⟨g,k*5+4,none⟩=false:=hown.frozenAt _
 have hend:∀(s:Int) (cs:Array Value),((((w.setCell ⟨g,k*5+4,none⟩ (.int .i64 s)).setCell ⟨b,1,none⟩ (.int .i64 (held-xa))).alloc (.cells cs 148)).drew).heap[b]?=some (.cells #[.slice (some ⟨g,0,none⟩) L.length cap,.int .i64 (held-xa)] 150 (0,0))/\
  ((((w.setCell ⟨g,k*5+4,none⟩ (.int .i64 s)).setCell ⟨b,1,none⟩ (.int .i64 (held-xa))).alloc (.cells cs 148)).drew).ownsRow 0 148 5 (.slice (some ⟨g,0,none⟩) L.length cap) L.length ((L.set k ⟨xr,xt,xd,xa,s⟩).flatMap Disp.cells)/\
  Keeps (Foot b (.slice (some ⟨g,0,none⟩) L.length cap)) w ((((w.setCell ⟨g,k*5+4,none⟩ (.int .i64 s)).setCell ⟨b,1,none⟩ (.int .i64 (held-xa))).alloc (.cells cs 148)).drew):=by
  intro s cs;have b1:(w.setCell ⟨g,k*5+4,none⟩ (.int .i64 s)).heap[b]?=_:=(heap_setCell_other w ⟨g,k*5+4,none⟩ b _ hne).trans hb;have r1:=Je Disp.Aj hown hx 4 j7 (y:=⟨xr,xt,xd,xa,s⟩) (u:= .int .i64 s) rfl;refine⟨?_, ?_, ?_⟩
  ·have b2:=heap_setCell_same _ _ 1 _ _ (.int .i64 (held-xa)) b1;exact(Below.heap_alloc _ _ _ (lt_of_block b2)).trans b2
  ·exact((ownsRow_setCell_other r1 (λe=>hne (by simp [Value.ownBlock] at e;exact e.symm)) _).alloc _).drew
  ·exact(((Keeps.setCell w _ _ (.inr rfl)).trans (Keeps.setCell _ _ _ (.inl (.inl rfl)))).trans (Keeps.alloc _ _)).trans (Keeps.drew _)
 clear hown hb hx;have Hend:=Lib.hid hend;clear hend
 cases lost
 ·go_enter Tryz.func115,Tryz.ntmps115;go_wp2
  go_region
  go_wp2;exact bodyPost_ret (v:= .tuple #[.agg #[.int .i64 xr,.int .i64 xt,.int .i64 xd,.int .i64 xa,.int .i64 3],.int .i64 0]) j14 rfl ⟨rfl,Hend.o 3 _⟩
 ·go_enter Tryz.func115,Tryz.ntmps115;go_wp2
  go_region
  go_wp2;rw [Vr];exact bodyPost_ret (v:= .tuple #[.agg #[.int .i64 xr,.int .i64 xt,.int .i64 xd,.int .i64 xa,.int .i64 2],.int .i64 0]) j14 rfl ⟨rfl,Hend.o 2 _⟩
theorem Ry(ref:Int)(lost:Bool)(L:List Disp)(v:Value)(b:Nat)(w:World)(h:Cv w b v L):
  Calls Tryz.prog 115 #[(.pointer (some ⟨b,0,none⟩)),.int .i64 ref,.bool lost] w (Qn w b v (dEnd L ref lost) (.tuple #[(Ea L ref lost).val,.int .i64 (Ct L ref)])):=by
 obtain⟨hl,hh,hd⟩:=h.ok;have h0:=Jq L hd
 have stay:∀n:Int,n≠0->Ct L ref=n->∀e w',e= .returned (.tuple #[.agg #[.int .i64 0,.int .i64 0,.int .i64 0,.int .i64 0,.int .i64 0],.int .i64 n])/\K0 w w'->
  Qn w b v (dEnd L ref lost) (.tuple #[(Ea L ref lost).val,.int .i64 (Ct L ref)]) e w':=by
  rintro n hn he e w' ⟨rfl,hk⟩;have h1:dEnd L ref lost=L:=by unfold dEnd;rw [if_neg j6]
  have h2:Ea L ref lost=Disp.zero:=by unfold Ea;rw [if_neg j6]
  rw [h1,h2,he];exact⟨rfl,v,h.keeps hk (by simp),hk.mono (by simp),λk hk=> .inl hk⟩
 obtain⟨ad,cap,rfl,_,_⟩:=Ae h.row;by_cases hr:ref<1\/(L.length:Int)<ref
 ·exact(Adq ref lost b L.length cap ad _ w hl h.blk hr).mono (stay 12 j7 (by unfold Ct;rw [if_pos hr]))
 obtain⟨k,rfl⟩:∃k:Nat,ref=k+1:=⟨(ref-1).toNat,by omega⟩;have hk:k<L.length:=j8;obtain⟨g,cap',hv,hg⟩:=Ey h.row j6;injection hv with e1 e2 e3;subst e1;subst e3;have hx:L[k]?=some L[k]:=List.getElem?_eq_getElem hk;by_cases hs:L[k].state=1
 ·have hA:=dEnd_at hx hs lost;have hok:=dEnd_ok h.ok (k+1) lost;have hxm:=hd _ (List.mem_of_getElem? hx);refine(Ado k lost _ g cap L _ b w hx hs hl h0 hh hxm.1 hxm.2 h.blk h.row).mono ?_;rintro e w' ⟨rfl,hb,hr,hk⟩;rw [hA.2.2] at hok;refine⟨by rw [hA.1,hA.2.1],_,⟨?_, ?_, ?_⟩,hk,λk hk=> .inl hk⟩
  ·rw [hA.2.2,Uo hx hs (by unfold Disp.ended;cases lost<;>simp)];exact hb
  ·rw [hA.2.2];simpa using hr
  ·rw [hA.2.2];exact hok
 ·have he:Ct L (k+1)=13:=by
   unfold Ct;rw [if_neg hr,show((k:Int)+1-1).toNat=k from by omega,hx];simp [hs]
  have x4:w.cell? ⟨g,k*5+4,none⟩=some (.int .i64 L[k].state):=Bw Disp.Aj h.row hx 4 j7;exact(Adp k lost b g L.length cap _ _ w hl hk h.blk x4 (by simpa using hs)).mono (stay 13 j7 he)
theorem Aby(L:List Disp)(v:Value)(b:Nat)(w:World)(h:Cv w b v L):Calls Tryz.prog 34 #[(.pointer (some ⟨b,0,none⟩))] w
  λe w'=>∃v',e= .returned v'/\w'.ownsRow 0 148 5 v' L.length (L.flatMap Disp.cells)/\K0 w w'/\(∀k,v'.ownBlock=some k->w.heap.size<=k):=by
 have c0:w.cell? ⟨b,0,none⟩=some v:=Aa h.blk 0;obtain⟨ad,cap,rfl,_,_⟩:=Ae h.row;have H:=Lib.hid h;clear h;go_enter Tryz.func34,Tryz.ntmps34
 go_wp2_with (go_at_call 69;refine(Nv w _ _ _ (Reads.Bg H.o.row) (Disp.one L) (by have:=H.o.ok.1;omega)).mono ?_;rintro e w' ⟨v',rfl,hend⟩;have Hend:=Lib.hid hend;clear hend)
 go_ret;exact⟨_,rfl,Hend.o⟩
theorem Qd(L:List Disp)(v:Value)(b:Nat)(w:World)(h:Cv w b v L):Calls Tryz.prog 65 #[(.pointer (some ⟨b,0,none⟩))] w
  λe w'=>∃b' v',e= .returned (.pointer (some ⟨b',0,none⟩))/\Cv w' b' v' L/\K0 w w'/\(∀k,Foot b' v' k->w.heap.size<=k):=by
 have c0:w.cell? ⟨b,0,none⟩=some v:=Aa h.blk 0;have c1:w.cell? ⟨b,1,none⟩=some (.int .i64 (El L)):=Aa h.blk 1;obtain⟨ad,cap,rfl,_,_⟩:=Ae h.row;have hbl:=lt_of_block h.blk;have H:=Lib.hid h;clear h;go_enter Tryz.func65,Tryz.ntmps65;go_wp2
 go_region_held3 (λw'=>w'.cell? ⟨b,0,none⟩=some (.slice ad L.length cap)/\w'.cell? ⟨b,1,none⟩=some (.int .i64 (El L))) (first|go_keep) (first|(go_at_call 69;refine(Nv _ _ _ _ (Reads.Bg (H.o.keeps (Keeps.drew (S:=λ_=>False) _) (by simp)).row) (Disp.one L) (by have:=H.o.ok.1;omega)).mono ?_;rintro e w1 ⟨v1,rfl,hown,hk,hf⟩;obtain⟨ad1,cap1,rfl,_,_⟩:=Ae hown;have c0:=hk.cell (p:=⟨b,0,none⟩) hbl (by simp);have c1:=hk.cell (p:=⟨b,1,none⟩) hbl (by simp);have Hend:=Lib.hid (And.intro hown (And.intro hk hf));clear hown hk hf))
 go_wp2;go_ret;refine⟨_,_,rfl,⟨heap_alloc_new w1 _,Hend.o.1.alloc _,H.o.ok⟩,((Keeps.drew w).trans (Hend.o.2.1.mono (by simp))).trans (Keeps.alloc _ _), ?_⟩;rintro k (rfl|hk)
 ·have:=Hend.o.2.1.size;simpa using this
 ·exact Hend.o.2.2 k hk
end Go.Proofs.YtjkdnaljkdnomaaGreatDoor
