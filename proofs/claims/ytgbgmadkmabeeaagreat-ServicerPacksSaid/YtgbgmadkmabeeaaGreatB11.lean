/- Part 11 of what the laws of this seat share: walks of functions, and plain laws. -/
import Derived.Test.YtgbgmadkmabeeaaGreatB10
set_option maxRecDepth 100000
set_option maxHeartbeats 3200000
namespace Go.Proofs.YtgbgmadkmabeeaaGreat
open Go.RowKit
theorem Ab9(t d a held:Int)(n:Nat)(v:Value)(xs:List Value)(b:Nat)(w:World)(t1:1<=t)(t2:t<=8)(a1:1<=a)(a2:a<=1000000000000000)
  (l0:0<=held) (l1:held+a<=1000000000000000) (ln:n<2000)
  (hb:w.heap[b]?=some (.cells #[v,.int .i64 held] 201 (0,0))) (hown:w.ownsRow 0 132 5 v n xs):
  Calls Tryz.prog 172 #[(.pointer (some ⟨b,0,none⟩)),.int .i64 t,.int .i64 d,.int .i64 a] w λe w'=>e= .returned (.tuple #[.int .i64 (n+1),.int .i64 0])/\
   ∃v',w'.heap[b]?=some (.cells #[v',.int .i64 (held+a)] 201 (0,0))/\w'.ownsRow 0 132 5 v' (n+1) (xs++Disp.cells ⟨n+1,t,d,a,1⟩)/\Keeps (Foot b v) w w'/\∀k,Foot b v' k->Foot b v k\/w.heap.size<=k:=by
 have c0:w.cell? ⟨b,0,none⟩=some v:=Aa hb 0;have c1:w.cell? ⟨b,1,none⟩=some (.int .i64 held):=Aa hb 1;obtain⟨i0,hi,hz0,hz1,hz2⟩:=info_parts Ud;obtain⟨ad,cap,rfl,hncap,_⟩:=Ae hown;obtain⟨Hown,Hb⟩:=hid2 hown hb;clear hb hown;go_enter Tryz.func172,Tryz.ntmps172;go_wp2;refine Ay 0 rfl ?_;go_wp2
 go_quiet (fail)
 go_wp2_with (at_builtin;refine Ao rfl (.tmp 49) (.tmp 55) 53 rfl 0 132 i0 _ 5 40 Tryz.underlying53 hi hz0 hz1 hz2 rfl j7 _ n xs rfl (Hown.out.alloc _) _ 1 [.int .i64 (n+1),.int .i64 t,.int .i64 d,.int .i64 a,.int .i64 1] rfl (Reads.lit _ _ _ _ _ rfl) jg jd j6 j6 ?_)
 intro v' w1 hown1 hk1 hfr;have hk0:Keeps (λk=>(Value.slice ad n cap).ownBlock=some k) w w1:=(Keeps.trans (Keeps.trans (Keeps.drewN w nq) (Keeps.alloc _ _)) (hk1.mono λk _ h=> .inl h));have hne:(Value.slice ad n cap).ownBlock≠some b:=Ai Hown.out Hb.out j7;have hb1:w1.heap[b]?=some (.cells #[.slice ad n cap,.int .i64 held] 201 (0,0)):=by rw [hk0.block b (lt_of_block Hb.out) hne];exact Hb.out
 have d0:w1.cell? ⟨b,0,none⟩=some (.slice ad n cap):=Aa hb1 0;have d1:w1.cell? ⟨b,1,none⟩=some (.int .i64 held):=Aa hb1 1;have e0:w1.frozen? ⟨b,0,none⟩=false:=Ab hb1 0;have e1:w1.frozen? ⟨b,1,none⟩=false:=Ab hb1 1;obtain⟨ad',cap',rfl,hncap',_⟩:=Ae hown1;have hne1:(Value.slice ad' (n+1) cap').ownBlock≠some b:=Ai hown1 hb1 j7
 have hend:((w1.setCell ⟨b,0,none⟩ (.slice ad' (n+1) cap')).setCell ⟨b,1,none⟩ (.int .i64 (held+a))).heap[b]?=some (.cells #[.slice ad' (n+1) cap',.int .i64 (held+a)] 201 (0,0))/\
  ((w1.setCell ⟨b,0,none⟩ (.slice ad' (n+1) cap')).setCell ⟨b,1,none⟩ (.int .i64 (held+a))).ownsRow 0 132 5 (.slice ad' (n+1) cap') (n+1) (xs++Disp.cells ⟨n+1,t,d,a,1⟩)/\
  Keeps (Foot b (.slice ad n cap)) w ((w1.setCell ⟨b,0,none⟩ (.slice ad' (n+1) cap')).setCell ⟨b,1,none⟩ (.int .i64 (held+a)))/\∀k,Foot b (.slice ad' (n+1) cap') k->Foot b (.slice ad n cap) k\/w.heap.size<=k:=by
  refine⟨?_, ?_, ?_, ?_⟩
  ·exact heap_setCell_same _ _ _ _ _ _ (heap_setCell_same _ _ _ _ _ _ hb1)
  ·exact ownsRow_setCell_other (ownsRow_setCell_other hown1 hne1 _) hne1 _
  ·exact((hk0.mono λk _ h=> .inr h).trans (Keeps.setCell _ _ _ (.inl (.inl rfl)))).trans (Keeps.setCell _ _ _ (.inl (.inl rfl)))
  ·rintro k (rfl|hk)
   ·exact .inl (.inl rfl)
   ·rcases hfr with hf|⟨g,hg,hh⟩
    ·exact .inl (.inr (by rw [<-hf];exact hk))
    ·right
     rw [hg] at hk;simp only [Option.some.injEq] at hk;omega
 obtain⟨Hown1,Hk1,Hk0,Hfr,Hb1,Hend⟩:=hid6 hown1 hk1 hk0 hfr hb1 hend;clear hend hb1 hfr hk0 hk1 hown1;clear c0 c1 hne hne1;go_wp2;go_step3;go_wp2;refine Bq ?_
 go_ret2
 exact⟨rfl,_,Hend.out⟩
theorem Yn(t d a:Int)(L:List Disp)(v:Value)(b:Nat)(w:World)(h:Cs w b v L):
  Calls Tryz.prog 172 #[(.pointer (some ⟨b,0,none⟩)),.int .i64 t,.int .i64 d,.int .i64 a] w (Qa w b v (dOpen L t d a) (.tuple #[.int .i64 (Fs L t a),.int .i64 (Dq L t a)])):=by
 obtain⟨hl,hh,hd⟩:=h.ok;have h0:=Gf L hd
 have stay:∀n:Int,n≠0->Dq L t a=n->∀e w',e= .returned (.tuple #[.int .i64 0,.int .i64 n])/\w'=w->Qa w b v (dOpen L t d a) (.tuple #[.int .i64 (Fs L t a),.int .i64 (Dq L t a)]) e w':=by
  rintro n hn he e w' ⟨rfl,rfl⟩;have h1:dOpen L t d a=L:=by unfold dOpen;rw [if_neg j6]
  have h2:Fs L t a=0:=by unfold Fs;rw [if_neg j6]
  rw [h1,h2,he];exact⟨rfl,v,h,Keeps.refl _ _,λk hk=> .inl hk⟩
 by_cases ht:t<1\/8<t
 ·exact(Ad0 t d a b w ht).mono (stay 7 j7 (by unfold Dq;rw [if_pos ht]))
 by_cases ha:a<1\/1000000000000000<a
 ·exact(Acz t d a b w ht ha).mono (stay 8 j7 (by unfold Dq;rw [if_neg ht,if_pos ha]))
 by_cases hs:1000000000000000-Dv L<a
 ·exact(Ad1 t d a _ b v w j6 j6 j6 j6 h0 hh hs h.blk).mono (stay 5 j7 (by unfold Dq;rw [if_neg ht,if_neg ha,if_pos hs]))
 by_cases hn:2000<=L.length
 ·obtain⟨ad,cap,rfl,_,_⟩:=Ae h.row;exact(Aba t d a _ b _ cap ad w j6 j6 j6 j6 h0 hh j6 hn h.blk).mono (stay 14 j7 (by unfold Dq;rw [if_neg ht,if_neg ha,if_neg hs,if_pos hn]))
 have he:Dq L t a=0:=by unfold Dq;rw [if_neg ht,if_neg ha,if_neg hs,if_neg hn]
 have h1:dOpen L t d a=L++ [⟨L.length+1,t,d,a,1⟩]:=by unfold dOpen;rw [if_pos he]
 have h2:Fs L t a=L.length+1:=by unfold Fs;rw [if_pos he]
 have hok:=dOpen_ok h.ok t d a;refine(Ab9 t d a _ _ v _ b w j6 j6 j6 j6 h0 j6 j6 h.blk h.row).mono ?_;rintro e w' ⟨rfl,v',hb,hr,hk,hf⟩;refine⟨by rw [he,h2],v',⟨?_, ?_,hok⟩,hk,hf⟩
 ·rw [h1,Nh];simpa using hb
 ·rw [h1];simpa [List.flatMap_append] using hr
def Disp.val(d:Disp):Value:= .agg #[.int .i64 d.ref,.int .i64 d.tranche,.int .i64 d.day,.int .i64 d.amount,.int .i64 d.state]
theorem Ad4(ref:Int)(lost:Bool)(b n cap:Nat)(ad:Option Addr)(held:Value)(w:World)(_hn:n<=2000)(hb:w.heap[b]?=some (.cells #[.slice ad n cap,held] 201 (0,0)))(hr:ref<1\/(n:Int)<ref):
  Calls Tryz.prog 173 #[(.pointer (some ⟨b,0,none⟩)),.int .i64 ref,.bool lost] w
  λe w'=>e= .returned (.tuple #[.agg #[.int .i64 0,.int .i64 0,.int .i64 0,.int .i64 0,.int .i64 0],.int .i64 12])/\Keeps (λ_=>False) w w':=by
 have c0:w.cell? ⟨b,0,none⟩=some (.slice ad n cap):=Aa hb 0;have hbl:b<w.heap.size:=lt_of_block hb;have Hb:=Lib.hid hb;clear hb;rcases(show ref<1\/(1<=ref/\(n:Int)<ref) from by omega) with ht|⟨h2,ht⟩<;>
 ·go_enter Tryz.func173,Tryz.ntmps173;go_wp2;exact bodyPost_ret (v:= .tuple #[.agg #[.int .i64 0,.int .i64 0,.int .i64 0,.int .i64 0,.int .i64 0],.int .i64 12]) j0U rfl ⟨rfl,Keeps.alloc _ _⟩
theorem Ad3(k:Nat)(lost:Bool)(b g n cap:Nat)(held:Value)(s:Int)(w:World)(hn:n<=2000)(hk:k<n)(hb:w.heap[b]?=some (.cells #[.slice (some ⟨g,0,none⟩) n cap,held] 201 (0,0)))
  (x4:w.cell? ⟨g,k*5+4,none⟩=some (.int .i64 s)) (hs:(s==1)=false):
  Calls Tryz.prog 173 #[(.pointer (some ⟨b,0,none⟩)),.int .i64 (k+1),.bool lost] w
  λe w'=>e= .returned (.tuple #[.agg #[.int .i64 0,.int .i64 0,.int .i64 0,.int .i64 0,.int .i64 0],.int .i64 13])/\Keeps (λ_=>False) w w':=by
 have c0:w.cell? ⟨b,0,none⟩=some (.slice (some ⟨g,0,none⟩) n cap):=Aa hb 0;have hbl:b<w.heap.size:=lt_of_block hb;have hgl:g<w.heap.size:=Ah x4;have hs1:¬s=1:=by simpa using hs
 have Hb:=Lib.hid hb;clear hb;go_enter Tryz.func173,Tryz.ntmps173;go_wp2;exact bodyPost_ret (v:= .tuple #[.agg #[.int .i64 0,.int .i64 0,.int .i64 0,.int .i64 0,.int .i64 0],.int .i64 13]) j0U rfl ⟨rfl,Keeps.alloc _ _⟩
theorem Ad2(k:Nat)(lost:Bool)(held:Int)(g cap:Nat)(L:List Disp)(x:Disp)(b:Nat)(w:World)(hx:L[k]?=some x)(hst:x.state=1)
  (ln:L.length<=2000) (l0:0<=held) (l1:held<=1000000000000000) (a1:1<=x.amount) (a2:x.amount<=1000000000000000)
  (hb:w.heap[b]?=some (.cells #[.slice (some ⟨g,0,none⟩) L.length cap,.int .i64 held] 201 (0,0))) (hown:w.ownsRow 0 132 5 (.slice (some ⟨g,0,none⟩) L.length cap) L.length (L.flatMap Disp.cells)):
  Calls Tryz.prog 173 #[(.pointer (some ⟨b,0,none⟩)),.int .i64 (k+1),.bool lost] w λe w'=>e= .returned (.tuple #[(x.ended lost).val,.int .i64 0])/\
   w'.heap[b]?=some (.cells #[.slice (some ⟨g,0,none⟩) L.length cap,.int .i64 (held-x.amount)] 201 (0,0))/\w'.ownsRow 0 132 5 (.slice (some ⟨g,0,none⟩) L.length cap) L.length ((L.set k (x.ended lost)).flatMap Disp.cells)/\
   Keeps (Foot b (.slice (some ⟨g,0,none⟩) L.length cap)) w w':=by
 have hk:k<L.length:=by
  exact j0v
 obtain⟨xr,xt,xd,xa,xs⟩:=x;simp only at hst a1 a2;subst hst;have c0:w.cell? ⟨b,0,none⟩=some (.slice (some ⟨g,0,none⟩) L.length cap):=Aa hb 0;have c1:w.cell? ⟨b,1,none⟩=some (.int .i64 held):=Aa hb 1;have f1:w.frozen? ⟨b,1,none⟩=false:=Ab hb 1;have hbl:b<w.heap.size:=lt_of_block hb;have hgl:g<w.heap.size:=(hown.lt g rfl).2;have hne:¬b=g:=λe=>Ai hown hb j7 (by rw [e];rfl);have x0:w.cell? ⟨g,k*5,none⟩=some (.int .i64 xr):=Cc Disp.Aj hown hx 0 j7;have x1:w.cell? ⟨g,k*5+1,none⟩=some (.int .i64 xt):=Cc Disp.Aj hown hx 1 j7;have x2:w.cell? ⟨g,k*5+2,none⟩=some (.int .i64 xd):=Cc Disp.Aj hown hx 2 j7;have x3:w.cell? ⟨g,k*5+3,none⟩=some (.int .i64 xa):=Cc Disp.Aj hown hx 3 j7;have x4:w.cell? ⟨g,k*5+4,none⟩=some (.int .i64 1):=Cc Disp.Aj hown hx 4 j7;have y4:w.frozen? ⟨g,k*5+4,none⟩=false:=hown.frozenAt _
 have hend:∀(s:Int) (cs:Array Value),((((w.setCell ⟨g,k*5+4,none⟩ (.int .i64 s)).setCell ⟨b,1,none⟩ (.int .i64 (held-xa))).alloc (.cells cs 132)).drew).heap[b]?=some (.cells #[.slice (some ⟨g,0,none⟩) L.length cap,.int .i64 (held-xa)] 201 (0,0))/\
  ((((w.setCell ⟨g,k*5+4,none⟩ (.int .i64 s)).setCell ⟨b,1,none⟩ (.int .i64 (held-xa))).alloc (.cells cs 132)).drew).ownsRow 0 132 5 (.slice (some ⟨g,0,none⟩) L.length cap) L.length ((L.set k ⟨xr,xt,xd,xa,s⟩).flatMap Disp.cells)/\
  Keeps (Foot b (.slice (some ⟨g,0,none⟩) L.length cap)) w ((((w.setCell ⟨g,k*5+4,none⟩ (.int .i64 s)).setCell ⟨b,1,none⟩ (.int .i64 (held-xa))).alloc (.cells cs 132)).drew):=by
  intro s cs;have b1:(w.setCell ⟨g,k*5+4,none⟩ (.int .i64 s)).heap[b]?=_:=(heap_setCell_other w ⟨g,k*5+4,none⟩ b _ hne).trans hb;have r1:=Gx Disp.Aj hown hx 4 j7 (y:=⟨xr,xt,xd,xa,s⟩) (u:= .int .i64 s) rfl;refine⟨?_, ?_, ?_⟩
  ·have b2:=heap_setCell_same _ _ 1 _ _ (.int .i64 (held-xa)) b1;exact(Below.heap_alloc _ _ _ (lt_of_block b2)).trans b2
  ·exact((ownsRow_setCell_other r1 (λe=>hne (by simp [Value.ownBlock] at e;exact e.symm)) _).alloc _).drew
  ·exact(((Keeps.setCell w _ _ (.inr rfl)).trans (Keeps.setCell _ _ _ (.inl (.inl rfl)))).trans (Keeps.alloc _ _)).trans (Keeps.drew _)
 obtain⟨Hown,Hb,Hx,Hend⟩:=hid4 hown hb hx hend;clear hend hx hb hown
 cases lost
 ·go_enter Tryz.func173,Tryz.ntmps173;go_wp2
  go_region
  go_wp2;exact bodyPost_ret (v:= .tuple #[.agg #[.int .i64 xr,.int .i64 xt,.int .i64 xd,.int .i64 xa,.int .i64 3],.int .i64 0]) j0U rfl ⟨rfl,Hend.out 3 _⟩
 ·go_enter Tryz.func173,Tryz.ntmps173;go_wp2
  go_region
  go_wp2;rw [Vg];exact bodyPost_ret (v:= .tuple #[.agg #[.int .i64 xr,.int .i64 xt,.int .i64 xd,.int .i64 xa,.int .i64 2],.int .i64 0]) j0U rfl ⟨rfl,Hend.out 2 _⟩
theorem Rj(ref:Int)(lost:Bool)(L:List Disp)(v:Value)(b:Nat)(w:World)(h:Cs w b v L):
  Calls Tryz.prog 173 #[(.pointer (some ⟨b,0,none⟩)),.int .i64 ref,.bool lost] w (Qa w b v (dEnd L ref lost) (.tuple #[(Dw L ref lost).val,.int .i64 (Cv L ref)])):=by
 obtain⟨hl,hh,hd⟩:=h.ok;have h0:=Gf L hd
 have stay:∀n:Int,n≠0->Cv L ref=n->∀e w',e= .returned (.tuple #[.agg #[.int .i64 0,.int .i64 0,.int .i64 0,.int .i64 0,.int .i64 0],.int .i64 n])/\Keeps (λ_=>False) w w'->
  Qa w b v (dEnd L ref lost) (.tuple #[(Dw L ref lost).val,.int .i64 (Cv L ref)]) e w':=by
  rintro n hn he e w' ⟨rfl,hk⟩;have h1:dEnd L ref lost=L:=by unfold dEnd;rw [if_neg j6]
  have h2:Dw L ref lost=Disp.zero:=by unfold Dw;rw [if_neg j6]
  rw [h1,h2,he];exact⟨rfl,v,h.keeps hk (by simp),hk.mono (by simp),λk hk=> .inl hk⟩
 obtain⟨ad,cap,rfl,_,_⟩:=Ae h.row;by_cases hr:ref<1\/(L.length:Int)<ref
 ·exact(Ad4 ref lost b L.length cap ad _ w hl h.blk hr).mono (stay 12 j7 (by unfold Cv;rw [if_pos hr]))
 obtain⟨k,rfl⟩:∃k:Nat,ref=k+1:=⟨(ref-1).toNat,by omega⟩;have hk:k<L.length:=j8;obtain⟨g,cap',hv,hg⟩:=Ga h.row j6;injection hv with e1 e2 e3;subst e1;subst e3;have hx:L[k]?=some L[k]:=List.getElem?_eq_getElem hk;by_cases hs:L[k].state=1
 ·have hA:=dEnd_at hx hs lost;have hge:=heldOf_ge hd hx hs;have hok:=dEnd_ok h.ok (k+1) lost;have hxm:=hd _ (List.mem_of_getElem? hx);refine(Ad2 k lost _ g cap L _ b w hx hs hl h0 hh hxm.1 hxm.2 h.blk h.row).mono ?_;rintro e w' ⟨rfl,hb,hr,hk⟩;rw [hA.2.2] at hok;refine⟨by rw [hA.1,hA.2.1],_,⟨?_, ?_, ?_⟩,hk,λk hk=> .inl hk⟩
  ·rw [hA.2.2,Ue hx hs (by unfold Disp.ended;cases lost<;>simp)];exact hb
  ·rw [hA.2.2];simpa using hr
  ·rw [hA.2.2];exact hok
 ·have he:Cv L (k+1)=13:=by
   unfold Cv;rw [if_neg hr,show((k:Int)+1-1).toNat=k from by omega,hx];simp [hs]
  have x4:w.cell? ⟨g,k*5+4,none⟩=some (.int .i64 L[k].state):=Cc Disp.Aj h.row hx 4 j7;exact(Ad3 k lost b g L.length cap _ _ w hl hk h.blk x4 (by simpa using hs)).mono (stay 13 j7 he)
theorem Abc(L:List Disp)(v:Value)(b:Nat)(w:World)(h:Cs w b v L):Calls Tryz.prog 74 #[(.pointer (some ⟨b,0,none⟩))] w
  λe w'=>∃v',e= .returned v'/\w'.ownsRow 0 132 5 v' L.length (L.flatMap Disp.cells)/\Keeps (λ_=>False) w w'/\(∀k,v'.ownBlock=some k->w.heap.size<=k):=by
 have c0:w.cell? ⟨b,0,none⟩=some v:=Aa h.blk 0;obtain⟨ad,cap,rfl,_,_⟩:=Ae h.row;have H:=Lib.hid h;clear h;go_enter Tryz.func74,Tryz.ntmps74
 go_wp2_with (go_at_call 132;refine(Nl w _ _ _ (Reads.Az H.out.row) (Disp.one L) (by have:=H.out.ok.1;omega)).mono ?_;rintro e w' ⟨v',rfl,hend⟩;have Hend:=Lib.hid hend;clear hend)
 go_ret;exact⟨_,rfl,Hend.out⟩
theorem Pp(L:List Disp)(v:Value)(b:Nat)(w:World)(h:Cs w b v L):Calls Tryz.prog 125 #[(.pointer (some ⟨b,0,none⟩))] w
  λe w'=>∃b' v',e= .returned (.pointer (some ⟨b',0,none⟩))/\Cs w' b' v' L/\Keeps (λ_=>False) w w'/\(∀k,Foot b' v' k->w.heap.size<=k):=by
 have c0:w.cell? ⟨b,0,none⟩=some v:=Aa h.blk 0;have c1:w.cell? ⟨b,1,none⟩=some (.int .i64 (Dv L)):=Aa h.blk 1;obtain⟨ad,cap,rfl,_,_⟩:=Ae h.row;have hbl:=lt_of_block h.blk;have H:=Lib.hid h;clear h;go_enter Tryz.func125,Tryz.ntmps125;go_wp2
 go_region_held3 (λw'=>w'.cell? ⟨b,0,none⟩=some (.slice ad L.length cap)/\w'.cell? ⟨b,1,none⟩=some (.int .i64 (Dv L))) (first|go_keep) (first|(go_at_call 132;refine(Nl _ _ _ _ (Reads.Az (H.out.keeps (Keeps.drew (S:=λ_=>False) _) (by simp)).row) (Disp.one L) (by have:=H.out.ok.1;omega)).mono ?_;rintro e w1 ⟨v1,rfl,hown,hk,hf⟩;obtain⟨ad1,cap1,rfl,_,_⟩:=Ae hown;have c0:=hk.cell (p:=⟨b,0,none⟩) hbl (by simp);have c1:=hk.cell (p:=⟨b,1,none⟩) hbl (by simp);have Hend:=Lib.hid (And.intro hown (And.intro hk hf));clear hown hk hf))
 go_wp2;go_ret;refine⟨_,_,rfl,⟨heap_alloc_new w1 _,Hend.out.1.alloc _,H.out.ok⟩,((Keeps.drew w).trans (Hend.out.2.1.mono (by simp))).trans (Keeps.alloc _ _), ?_⟩;rintro k (rfl|hk)
 ·have:=Hend.out.2.1.size;simpa using this
 ·exact Hend.out.2.2 k hk
theorem DL.keepS{W W':World}{B:Nat}{t:Tm}{vt v:Value}{L:List Ev}(h:DL W B t vt L v){S:Nat->Prop}(hk:Keeps S W W')(h1:¬S B)(h2:∀b,vt.ownBlock=some b->¬S b)(h3:∀b,v.ownBlock=some b->¬S b):DL W' B t vt L v:=⟨Ad h.blk hk h1,hk.row h.trs h2,hk.row h.row h3⟩
structure AcV where
 vt:Value
 vl:Value
 vtl:Value
 vb:Value
 vp:Value
 vr:Value
 vn:Value
 vi:Value
 va:Value
 bl:Nat
 bb:Nat
 P:List SV
 I:List SV
def AcV.blk(x:AcV)(a:Ac):Array Value:= #[.int .i64 a.t.limit,x.vt,.int .i64 a.t.cyc,.int .i64 a.t.due,.int .i64 a.t.minFixed,.int .i64 a.t.minPart,.int .i64 a.t.start,.int .i64 a.today,.int .i64 a.seq,(.pointer (some ⟨x.bl,0,none⟩)),(.pointer (some ⟨x.bb,0,none⟩)),x.vp,.int .i64 a.s.p.cr,.int .i64 a.s.p.du,x.vr,x.vn,x.vi,x.va]
def AcV.rd(x:AcV)(b:Nat):Prop:=x.vt.ownBlock=some b\/x.vp.ownBlock=some b\/x.vr.ownBlock=some b\/x.vn.ownBlock=some b\/b=x.bl\/x.vtl.ownBlock=some b\/x.vl.ownBlock=some b\/Foot x.bb x.vb b\/(∃y∈x.P,y.v.ownBlock=some b)\/(∃y∈x.I,y.v.ownBlock=some b)
def AcF(B:Nat)(x:AcV)(b:Nat):Prop:=b=B\/x.vi.ownBlock=some b\/x.va.ownBlock=some b
structure AcOk(a:Ac):Prop where
 wk:walkR a.t a.L a.today=(a.s,0)
 il:a.iss.length=a.s.out.length
 ill:∀y∈a.iss,y.lines.length=a.t.trs.length
 aj:(a.adj.length:Int)<=301000*a.seq
 s0:0<=a.seq
structure AcAt(w:World)(B:Nat)(x:AcV)(a:Ac):Prop where
 blk:w.heap[B]?=some (.cells (x.blk a) 136 (0,0))
 trs:w.ownsRow 0 120 2 x.vt a.t.trs.length (a.t.trs.flatMap Tn.cells)
 dl:DL w x.bl a.t x.vtl a.L x.vl
 bk:Cs w x.bb x.vb a.D
 bal:w.ownsRow 0 2 1 x.vp a.s.p.bal.length (a.s.p.bal.flatMap i64c)
 rts:w.ownsRow 0 2 1 x.vr a.s.R.length (a.s.R.flatMap i64c)
 now:w.ownsRow 0 60 9 x.vn x.P.length (x.P.flatMap SV.cells)
 nln:∀y∈x.P,w.ownsRow 0 160 3 y.v y.s.lines.length (y.s.lines.flatMap Ln.cells)
 ns:x.P.map SV.s=a.s.out
 iss:w.ownsRow 0 60 9 x.vi x.I.length (x.I.flatMap SV.cells)
 iln:∀y∈x.I,w.ownsRow 0 160 3 y.v y.s.lines.length (y.s.lines.flatMap Ln.cells)
 is:x.I.map SV.s=a.iss
 adj:w.ownsRow 0 90 9 x.va a.adj.length (a.adj.flatMap Adj.cells)
 ok:AcOk a
 sep:∀b,x.rd b->¬AcF B x b
 si:∀b,x.vi.ownBlock=some b->¬(b=B\/x.va.ownBlock=some b)
 sa:∀b,x.va.ownBlock=some b->¬b=B
theorem rowLt{w:World}{e:TypeId}{size n:Nat}{v:Value}{xs:List Value}(h:w.ownsRow 0 e size v n xs){b:Nat}(hb:v.ownBlock=some b):b<w.heap.size:=(h.lt b hb).2
theorem AcAt.lt{w:World}{B:Nat}{x:AcV}{a:Ac}(h:AcAt w B x a):∀b,AcF B x b\/x.rd b->b<w.heap.size:=by
 rintro b ((rfl|hb|hb)|hb|hb|hb|hb|rfl|hb|hb|hb|⟨y,hy,hb⟩|⟨y,hy,hb⟩)
 ·exact lt_of_block h.blk
 ·exact rowLt h.iss hb
 ·exact rowLt h.adj hb
 ·exact rowLt h.trs hb
 ·exact rowLt h.bal hb
 ·exact rowLt h.rts hb
 ·exact rowLt h.now hb
 ·exact lt_of_block h.dl.blk
 ·exact rowLt h.dl.trs hb
 ·exact rowLt h.dl.row hb
 ·exact h.bk.lt b hb
 ·exact rowLt (h.nln y hy) hb
 ·exact rowLt (h.iln y hy) hb
theorem AcAt.keeps{w w':World}{B:Nat}{x:AcV}{a:Ac}(h:AcAt w B x a){S:Nat->Prop}(hk:Keeps S w w')(hS:∀b,AcF B x b\/x.rd b->¬S b):AcAt w' B x a where
 blk:=Ad h.blk hk (hS _ (.inl (.inl rfl)))
 trs:=hk.row h.trs λb hb=>hS b (.inr (.inl hb))
 dl:=h.dl.keepS hk (hS _ (.inr (.inr (.inr (.inr (.inr (.inl rfl))))))) (λb hb=>hS b (.inr (.inr (.inr (.inr (.inr (.inr (.inl hb)))))))) (λb hb=>hS b (.inr (.inr (.inr (.inr (.inr (.inr (.inr (.inl hb)))))))))
 bk:=h.bk.keeps hk λb hb=>hS b (.inr (.inr (.inr (.inr (.inr (.inr (.inr (.inr (.inl hb)))))))))
 bal:=hk.row h.bal λb hb=>hS b (.inr (.inr (.inl hb)))
 rts:=hk.row h.rts λb hb=>hS b (.inr (.inr (.inr (.inl hb))))
 now:=hk.row h.now λb hb=>hS b (.inr (.inr (.inr (.inr (.inl hb)))))
 nln:=λy hy=>hk.row (h.nln y hy) λb hb=>hS b (.inr (.inr (.inr (.inr (.inr (.inr (.inr (.inr (.inr (.inl ⟨y,hy,hb⟩))))))))))
 ns:=h.ns
 iss:=hk.row h.iss λb hb=>hS b (.inl (.inr (.inl hb)))
 iln:=λy hy=>hk.row (h.iln y hy) λb hb=>hS b (.inr (.inr (.inr (.inr (.inr (.inr (.inr (.inr (.inr (.inr ⟨y,hy,hb⟩))))))))))
 is:=h.is
 adj:=hk.row h.adj λb hb=>hS b (.inl (.inr (.inr hb)))
 ok:=h.ok
 sep:=h.sep
 si:=h.si
 sa:=h.sa
theorem AcAt.keep0{w w':World}{B:Nat}{x:AcV}{a:Ac}(h:AcAt w B x a)(hk:Keeps (λ_=>False) w w'):AcAt w' B x a:=h.keeps hk (by simp)
structure AcNums(a:Ac):Prop where
 tm:a.t.err=0
 ll:a.L.length<=2000
 d0:a.t.start<=a.today
 d1:a.today<=2932896
 ds: -135140<=a.t.start
 cy:ofE a.t.start a.t.cyc a.today=0
 nb:a.s.p.bal.length=a.t.trs.length
 nr:a.s.R.length=a.t.trs.length
 pr:a.s.p.Bg=true
 n1:1<=a.t.trs.length
 n8:a.t.trs.length<=8
 ol:∀y∈a.s.out,y.lines.length=a.t.trs.length
 o3:a.s.out.length<=300
theorem Sy{t:Tm}{L:List Ev}{td:Int}{Z:St×Int}(hw:walkR t L td=Z)(hz2:Z.2=0):Dl t L td=0/\∃len,StOk t.trs.length Z.1 len:=by
 unfold walkR at hw
 split at hw
 ·rename_i h0;have hok:=Ea h0;obtain⟨_,_,len,h3⟩:=Wl hok.tm rfl _ _ _ _ Z (st0_ok hok.tm) (by simp [st0]) hw hz2;exact⟨h0,len,h3⟩
 ·subst hw;exact absurd hz2 ‹_›
theorem repErr_of{t:Tm}{L:List Ev}{td:Int}(h:Dl t L td=0):ofE t.start t.cyc td=0:=by
 unfold Dl at h
 split at h
 ·split at h
  ·split at h
   ·cases h
   ·split at h
    ·cases h
    ·split at h
     ·cases h
     ·omega
  ·rename_i h2;exact absurd h h2
 ·cases h
theorem AcOk.nums{a:Ac}(h:AcOk a):AcNums a:=by
 obtain⟨h0,len,hs⟩:=Sy h.wk rfl;obtain⟨o1,o2,o3,o4⟩:=Mh h.wk rfl;have hr:=Ea h0;obtain⟨⟨l0,l1⟩,_,_,_,_,_,hst⟩:=Fg hr.tm;exact⟨hr.tm,hr.ln,hr.d0,hr.d1,by omega,repErr_of h0,hs.nb,hs.nr,o4,by omega,by omega,o1,o2⟩
def cyS(B:Nat)(st cd:Int)(w:World):Prop:=w.cell? ⟨B,6,none⟩=some (.int .i64 st)/\w.cell? ⟨B,2,none⟩=some (.int .i64 cd)
theorem cyS.of{w:World}{B:Nat}{x:AcV}{a:Ac}(h:AcAt w B x a):cyS B a.t.start a.t.cyc w:=⟨Aa h.blk 6,Aa h.blk 2⟩
theorem cyS.keep{B:Nat}{st cd:Int}{w w':World}(h:cyS B st cd w)(hk:Keeps (λ_=>False) w w'):cyS B st cd w':=⟨(hk.cell (Ah h.1) (by simp)).trans h.1,(hk.cell (Ah h.2) (by simp)).trans h.2⟩
theorem Pv(B:Nat)(x:AcV)(a:Ac)(d:Int)(w:World)(h:AcAt w B x a):Calls Tryz.prog 73 #[(.pointer (some ⟨B,0,none⟩)),.int .i64 d] w λe w'=>e= .returned (.int .i64 (a.cyc d))/\Keeps (λ_=>False) w w':=by
 have hn:=h.ok.nums;have hcy:=λW=>Qk a.t.start a.t.cyc d W ⟨by have:=hn.ds;omega,by have:=hn.d0;have:=hn.d1;omega⟩;have hS:∀W,Keeps (λ_=>False) w W->cyS B a.t.start a.t.cyc W:=λW hW=>cyS.of (h.keep0 hW);have hbl:=lt_of_block h.blk;have hv:ofV a.t.start a.t.cyc d=a.cyc d:=rfl;rw [hv] at hcy;clear hn hv;obtain⟨H,Hcy,HS⟩:=hid3 h hcy hS;clear hS hcy h;go_enter Tryz.func73,Tryz.ntmps73;go_wp2_with fail;refine Al (cyS B a.t.start a.t.cyc) (.take 0 (.take 1 (.take 2 (.take 3 (.take 4 (.take 5 (.take 6 (.take 7 (.take 8 (.take 9 (.take 10 (.move 11 (.take 12 (.take 13 (.take 14 (.take 15 (.take 16 .done))))))))))))))))) j9 j9 ?_ ?_
 ·exact HS.out _ (Keeps.drew _)
 intro w1 hs1 hk1;refine je ?_;intro K hK
 go_at_call 131
 ((with_reducible refine(Hcy.out w1).mono ?_);rintro e w2 ⟨rfl,hk2⟩;dsimp only)
 refine hK.out _ _ (by exact hs1.keep hk2) ?_;clear hK K;refine ja ?_;have Hk:=Lib.hid (Keeps.nt hk1 hk2);clear hs1 hk1 hk2;refine jn ?_;go_wp2_with fail;go_ret;exact⟨rfl,Hk.out⟩
structure OwnP(w W:World)(v:Value)(L:List SV):Prop where
 row:W.ownsRow 0 60 9 v L.length (L.flatMap SV.cells)
 ln:∀x∈L,W.ownsRow 0 160 3 x.v x.s.lines.length (x.s.lines.flatMap Ln.cells)
 fr:Fresh w W v
 lf:∀x∈L,∀b,x.v.ownBlock=some b->w.heap.size<=b
theorem OwnP.keep{w W W':World}{v:Value}{L:List SV}(h:OwnP w W v L)(hk:Keeps (λ_=>False) W W'):OwnP w W' v L:=⟨hk.row h.row (by simp),λx hx=>hk.row (h.ln x hx) (by simp),h.fr.keep hk,h.lf⟩
theorem OwnP.app{w W1 w6:World}{v v6:Value}{L:List SV}{x:SV}{m:Nat}{xs:List Value}(h:OwnP w W1 v L)(hk:Keeps (λj=>v.ownBlock=some j\/W1.heap.size<=j) W1 w6)(hm:m=L.length+1)(hx:xs=L.flatMap SV.cells++x.cells)(hr:w6.ownsRow 0 60 9 v6 m xs)
  (hl:w6.ownsRow 0 160 3 x.v x.s.lines.length (x.s.lines.flatMap Ln.cells)) (hlf:∀b,x.v.ownBlock=some b->w.heap.size<=b) (hf:v6.ownBlock=v.ownBlock\/∃g,v6.ownBlock=some g/\W1.heap.size<=g):OwnP w w6 v6 (L++ [x]):=by
 have hsz:=h.fr.1.size;subst hm hx;refine⟨by simpa using hr,λy hy=> ?_,⟨h.fr.1.trans (hk.mono λi _ e=> .inr ?_),λg hg=> ?_⟩,λy hy b hb=> ?_⟩
 ·rcases List.mem_append.1 hy with hy|hy
  ·refine hk.row (h.ln y hy) λg hg e=> ?_;rcases e with e|e
   ·exact Eu (h.ln y hy) h.row j7 hg e
   ·have:=Pk (h.ln y hy) hg;omega
  ·obtain rfl:y=x:=by simpa using hy
   exact hl
 ·rcases e with e|e
  ·exact h.fr.2 i e
  ·omega
 ·rcases hf with e|⟨g',e,h'⟩
  ·exact h.fr.2 g (by rw [<-e];exact hg)
  ·exact j1c
 ·rcases List.mem_append.1 hy with hy|hy
  ·exact h.lf y hy b hb
  ·obtain rfl:y=x:=by simpa using hy
   exact hlf b hb
def OwnPost(w:World)(M:List Stm)(e:Ending)(w':World):Prop:=∃v Q,e= .returned v/\OwnP w w' v Q/\Q.map SV.s=M
structure StmsR(w:World)(ad:Option Addr)(n cap:Nat)(P:List SV):Prop where
 row:Reads w 9 (.slice ad n cap) n (P.flatMap SV.cells)
 ln:∀x∈P,Reads w 3 x.v x.s.lines.length (x.s.lines.flatMap Ln.cells)
 ll:∀x∈P,x.s.lines.length<=1000
 n:P.length=n
theorem StmsR.keep{w w':World}{ad:Option Addr}{n cap:Nat}{P:List SV}(h:StmsR w ad n cap P)(hk:Keeps (λ_=>False) w w'):StmsR w' ad n cap P:=⟨h.row.keeps hk (by simp),λx hx=>(h.ln x hx).keeps hk (by simp),h.ll,h.n⟩
theorem Adf(ad:Option Addr)(cap n:Nat)(P:List SV)(w:World)(h:StmsR w ad n cap P)(hn:n<=1000):Calls Tryz.prog 92 #[.slice ad n cap] w (OwnPost w (P.map SV.s)):=by
 obtain⟨i0,hi,hi0,hi1,hi2⟩:=info_parts Mq;obtain⟨H,Hi,Hi0,Hi1,Hi2⟩:=hid5 h hi hi0 hi1 hi2;clear hi2 hi1 hi0 hi h;go_enter Tryz.func92,Tryz.ntmps92;go_wp2_with fail
 go_loopw [3,8] (λv c wr=>∃(k:Nat) (adv:Option Addr) (cv:Nat) (Q:List SV),k<=n/\c= .int .i64 (k:Nat)/\v= .slice adv k cv/\OwnP w wr (.slice adv k cv) Q/\Q.map SV.s=(P.map SV.s).take k) (λ_ c _=>n-(intOf c).toNat)
 case atStart=>exact⟨0,none,0, [],Nat.zero_le _,rfl,rfl,⟨World.ownsRow_nil _ _ _ _,by simp,⟨Keeps.refl _ _,by simp [Value.ownBlock]⟩,by simp⟩,rfl⟩
 case round=>
  obtain⟨k,adv,cv,Q,hkn,rfl,rfl,hp,hq⟩:=hrel;have hQk:Q.length=k:=by have:=congrArg List.length hq;simp at this;rw [this,H.out.n];omega
  by_cases hlt:k<n
  ·have hltI:(k:Int)<(n:Int):=j8;obtain⟨x,hx⟩:=Aq (L:=P) (k:=k) (by rw [H.out.n];exact hlt);have hk0:=hp.fr.1;have hrd:=H.out.row.keeps hk0 (by simp);obtain⟨g,o,c,he,hc⟩:=hrd.elem SV.Aj hx j7;simp only [Value.slice.injEq,true_and] at he;obtain⟨rfl,rfl⟩:=he;refine j2w ?_;intro x0 x1 x2 x3 x4 x5 x6 x7 x8;have hgl:=Ah x0;clear hc;have hxl:=(H.out.ln x (List.mem_of_getElem? hx)).keeps hk0 (by simp);have hxll:=H.out.ll x (List.mem_of_getElem? hx);have hq1:(P.map SV.s).take (k+1)=(P.map SV.s).take k++ [x.s]:=take_snoc' (by rw [List.getElem?_map,hx];rfl);obtain⟨⟨cy,fr,te,du,tot,cre,mi,gr,X⟩,axd,axc⟩:=x;simp only [SV.v] at x0 x1 x2 x3 x4 x5 x6 x7 x8 hxl hxll hq1;obtain⟨m,hm⟩:∃m,X.length=m:=⟨_,rfl⟩;rw [hm] at hxl hxll x4;have hcl:=λW (hW:Keeps (λ_=>False) wr W)=>Vw W (.slice axd m axc) m (X.flatMap Ln.cells) (hxl.keeps hW (by simp)) (λu hu=>Ln.one _ u hu) j6;clear hrd;have hlt0:∀b,(Value.slice adv k cv).ownBlock=some b->b<wr.heap.size:=λb hb=>Pk hp.row hb;have hrowk:=hp.row;rw [hQk] at hrowk;obtain⟨Hp,Hq,HQk,Hk0,Hxl,Hq1,Hm,Hcl,Hx⟩:=hid9 hp hq hQk hk0 hxl hq1 hm hcl hx;clear hx hcl hm hq1 hxl hk0 hQk hq hp;obtain⟨Hlt0,Hrowk⟩:=hid2 hlt0 hrowk;clear hrowk hlt0;go_wp2_with fail;refine(Hcl.out _ (Keeps.alloc _ _)).mono ?_;rintro e w1 ⟨v1,rfl,hrow1,hk1,hnew1⟩;obtain⟨a1,c1,rfl,_,_⟩:=Ae hrow1;have hbx:=Ad (heap_alloc_new wr (.cells #[.int .i64 cy,.int .i64 fr,.int .i64 te,.int .i64 du,.slice axd m axc,.int .i64 tot,.int .i64 cre,.int .i64 mi,.bool gr] 60)) hk1 (by simp);have b0:=Aa hbx 0;have b1:=Aa hbx 1;have b2:=Aa hbx 2;have b3:=Aa hbx 3;have b4:=Aa hbx 4;have b5:=Aa hbx 5;have b6:=Aa hbx 6;have b7:=Aa hbx 7;have b8:=Aa hbx 8;have f4:=Ab hbx 4;have bl:=lt_of_block hbx;have hk2:Keeps (λi=>i=wr.heap.size) w1 (w1.setCell ⟨wr.heap.size,4,none⟩ (.slice a1 m c1)):=Keeps.setCell _ _ _ rfl;have hk12:Keeps (λj=>wr.heap.size<=j) wr (w1.setCell ⟨wr.heap.size,4,none⟩ (.slice a1 m c1)):=((Keeps.alloc wr _).trans (hk1.mono (by simp))).trans (hk2.mono λi _ e=> .inr (by have e':i=wr.heap.size:=e;omega));have hrow2:=hk12.row Hrowk.out (λb hb e=>by have:=Hlt0.out b hb;have e':wr.heap.size<=b:=e;omega);have hl2:=hk2.row hrow1 (λb hb e=>by have:=hnew1 b hb;simp at this;have e':b=wr.heap.size:=e;omega);obtain⟨W2,hW2⟩:∃x,x=w1.setCell ⟨wr.heap.size,4,none⟩ (.slice a1 m c1):=⟨_,rfl⟩;have hrow2':=hrow2;rw [<-hW2] at hk12 hl2 hrow2;obtain⟨Hrow1,Hk1,Hnew1,Hbx,Hk2,Hk12,Hl2,Hrow2⟩:=hid8 hrow1 hk1 hnew1 hbx hk2 hk12 hl2 hrow2;clear hrow2 hl2 hk12 hk2 hbx hnew1 hk1 hrow1
   go_wp2_with (at_builtin;refine Ao rfl (.tmp 16) (.tmp 18) 84 rfl 0 60 i0 _ 9 88 Tryz.underlying84 Hi.out Hi0.out Hi1.out Hi2.out rfl j7 (.slice adv k cv) k _ rfl (hrow2'.alloc _) _ 1 _ rfl (Reads.litAt _ _ _ 9 1 _ jq rfl) jg jd j6 (Nat.zero_le _) ?_)
   intro v6 w6 hrow6 hk6 hf6;obtain⟨a6,c6,rfl,_,_⟩:=Ae hrow6;rw [<-hW2] at hk6;have hsz1:=Hk1.out.size;simp only [World.size_alloc] at hsz1;have hsz12:=Hk12.out.size;have hkA:Keeps (λj=>(Value.slice adv k cv).ownBlock=some j\/wr.heap.size<=j) wr w6:=((Hk12.out.mono λ_ _ e=> .inr e).trans ((Keeps.alloc (S:=λ_=>False) W2 _).mono (by simp))).trans (hk6.mono λi _ e=> .inl (.inl e));have hl6:=hk6.row (Hl2.out.alloc _) (λb hb e=>by have h1:=Hlt0.out b e;have h2:=Hnew1.out b hb;simp at h2;omega);have hlf:∀b,(Value.slice a1 m c1).ownBlock=some b->w.heap.size<=b:=λb hb=>by have h2:=Hnew1.out b hb;simp at h2;have:=Hk0.out.size;omega
   have hp6:OwnP w w6 (.slice a6 (k+1) c6) (Q++ [⟨⟨cy,fr,te,du,tot,cre,mi,gr,X⟩,a1,c1⟩]):=Hp.out.app hkA (m:=k+1) (xs:=_) (by rw [HQk.out]) (by simp [SV.cells,SV.v,Hm.out]) hrow6 (by rw [SV.v,Hm.out];exact hl6) (by rw [SV.v,Hm.out];exact hlf) (hf6.imp id fun⟨g,h1,h2⟩=>⟨g,h1,by omega⟩);have hq6:(Q++ [(⟨⟨cy,fr,te,du,tot,cre,mi,gr,X⟩,a1,c1⟩:SV)]).map SV.s=(P.map SV.s).take (k+1):=by rw [Hq1.out,List.map_append,Hq.out];rfl
   clear hrow6 hk6 hf6 hkA hl6 hlf hsz12 hsz1 hrow2' b0 b1 b2 b3 b4 b5 b6 b7 b8 f4 bl x0 x1 x2 x3 x4 x5 x6 x7 x8;obtain⟨Hp6,Hq6,HW2⟩:=hid3 hp6 hq6 hW2;clear hW2 hq6 hp6;go_wp2_with fail;go_roundw
   case rel=>exact⟨k+1,a6,c6,_,by omega,by go_num,by go_num,Hp6.out,Hq6.out⟩
   case measure=>simp [intOf];omega
  ·obtain rfl:k=n:=by omega
   rw [List.take_of_length_le (by rw [List.length_map,H.out.n];exact Nat.le_refl _)] at hq;obtain⟨Hp,Hq,HQk⟩:=hid3 hp hq hQk;clear hQk hq hp;go_wp2_with fail;go_ret;exact⟨_,Q,rfl,Hp.out,Hq.out⟩
theorem cyc_bd(a:Ac)(d:Int):0<=a.cyc d/\a.cyc d<=300:=by
 unfold Ac.cyc ofV
 split
 ·rename_i h;unfold ofE at h
  split at h
  ·split at h
   ·rename_i h2;have:=(Kn a.t.cyc d 300 a.t.start h2).2;omega
   ·cases h
  ·rename_i h2;exact absurd h h2
 ·omega
theorem Us(B:Nat)(x:AcV)(a:Ac)(d:Int)(w:World)(h:AcAt w B x a):Calls Tryz.prog 171 #[(.pointer (some ⟨B,0,none⟩)),.int .i64 d] w λe w'=>e= .returned (.bool (a.oldB d))/\Keeps (λ_=>False) w w':=by
 have c7:w.cell? ⟨B,7,none⟩=some (.int .i64 a.today):=Aa h.blk 7;have hbl:=lt_of_block h.blk;have hcy:=fun(D:Int) (W:World) (hW:Keeps (λ_=>False) w W)=>Pv B x a D W (h.keep0 hW);obtain⟨b1,b2⟩:=cyc_bd a a.today;obtain⟨b3,b4⟩:=cyc_bd a d;obtain⟨c1,hc1⟩:∃c,a.cyc a.today=c:=⟨_,rfl⟩;obtain⟨c2,hc2⟩:∃c,a.cyc d=c:=⟨_,rfl⟩;have hcy1:=hcy a.today;have hcy2:=hcy d;have ho:a.oldB d=decide (24<c1-c2):=by unfold Ac.oldB;rw [hc1,hc2]
 rw [hc1] at hcy1 b1 b2;rw [hc2] at hcy2 b3 b4;rw [ho];clear hcy;by_cases hlt:24<c1-c2
 ·have hd:decide (24<c1-c2)=true:=by simp [hlt]
  rw [hd];obtain⟨H,Hcy1,Hcy2,Hc1,Hc2,Ho,Hd⟩:=hid7 h hcy1 hcy2 hc1 hc2 ho hd;clear hd ho hc2 hc1 hcy2 hcy1 h;go_enter Tryz.func171,Tryz.ntmps171;go_wp2_with fail;refine(Hcy1.out _ (Keeps.refl _ _)).mono ?_;rintro e w1 ⟨rfl,hk1⟩;have Hk1:=Lib.hid hk1;clear hk1;go_wp2_with fail;refine(Hcy2.out _ Hk1.out).mono ?_;rintro e w2 ⟨rfl,hk2⟩;have Hk2:=Lib.hid (Hk1.out.nt hk2);clear hk2;go_wp2;go_ret;exact⟨rfl,Hk2.out⟩
 ·have hd:decide (24<c1-c2)=false:=by simp [hlt]
  rw [hd];obtain⟨H,Hcy1,Hcy2,Hc1,Hc2,Ho,Hd⟩:=hid7 h hcy1 hcy2 hc1 hc2 ho hd;clear hd ho hc2 hc1 hcy2 hcy1 h;go_enter Tryz.func171,Tryz.ntmps171;go_wp2_with fail;refine(Hcy1.out _ (Keeps.refl _ _)).mono ?_;rintro e w1 ⟨rfl,hk1⟩;have Hk1:=Lib.hid hk1;clear hk1;go_wp2_with fail;refine(Hcy2.out _ Hk1.out).mono ?_;rintro e w2 ⟨rfl,hk2⟩;have Hk2:=Lib.hid (Hk1.out.nt hk2);clear hk2;go_wp2;go_ret;exact⟨by rw [<-Hd.out];rfl,Hk2.out⟩
theorem Ur(B:Nat)(x:AcV)(a:Ac)(d:Int)(w:World)(h:AcAt w B x a):Calls Tryz.prog 169 #[(.pointer (some ⟨B,0,none⟩)),.int .i64 d] w λe w'=>e= .returned (.bool (decide (1<=d/\d<=a.t.trs.length)))/\w=w':=by
 have c1:w.cell? ⟨B,1,none⟩=some x.vt:=Aa h.blk 1;have hbl:=lt_of_block h.blk;obtain⟨n,hn⟩:∃n,a.t.trs.length=n:=⟨_,rfl⟩;obtain⟨ad,c,hv,_,_⟩:=Ae h.trs;have e1:x.vt= .slice ad n c:=by rw [hv,hn]
 rw [e1] at c1;rw [hn];by_cases h1:1<=d
 ·by_cases h2:d<=(n:Int)
  ·have hd:decide (1<=d/\d<=(n:Int))=true:=by simp [h1,h2]
   exact j1T
  ·have hd:decide (1<=d/\d<=(n:Int))=false:=by simp [h2]
   exact j1T
 ·have hd:decide (1<=d/\d<=(n:Int))=false:=by simp [h1]
  exact j1T
theorem Aw:(Tryz.prog.info? 62).map (·.size)=some 20:=by kernel_rfl
theorem Co(w:World)(g:Nat)(cs:Array Value):Keeps (λi=>i=g) w (w.setRow g cs):=⟨rfl,rfl,rfl,by simp [World.setRow],λk _ hk=>setRow_other w g k _ hk⟩
theorem Dy(z:Int)(w:World):Calls Tryz.prog 77 #[.int .i64 z] w λe w'=>e= .returned (.agg #[.int .i64 z,.int .i64 0,.int .i64 0,.int .i64 0,.int .i64 0,.slice none 0 0,.int .i64 0,.int .i64 0,.slice none 0 0,.slice none 0 0,.int .i64 0,.int .i64 0,.int .i64 0,.int .i64 0,.int .i64 0,.slice none 0 0,.int .i64 0,.int .i64 0,.int .i64 0,.bool false])/\Keeps (λ_=>False) w w':=by
 have hb:=j3W;have hb2:=setRow_heap (w.alloc (.cells #[.int .i64 0,.int .i64 0,.int .i64 0,.int .i64 0,.int .i64 0,.slice none 0 0,.int .i64 0,.int .i64 0,.slice none 0 0,.slice none 0 0,.int .i64 0,.int .i64 0,.int .i64 0,.int .i64 0,.int .i64 0,.slice none 0 0,.int .i64 0,.int .i64 0,.int .i64 0,.bool false] 62)) w.heap.size #[.int .i64 0,.int .i64 0,.int .i64 0,.int .i64 0,.int .i64 0,.slice none 0 0,.int .i64 0,.int .i64 0,.slice none 0 0,.slice none 0 0,.int .i64 0,.int .i64 0,.int .i64 0,.int .i64 0,.int .i64 0,.slice none 0 0,.int .i64 0,.int .i64 0,.int .i64 0,.bool false] #[.int .i64 z,.int .i64 0,.int .i64 0,.int .i64 0,.int .i64 0,.slice none 0 0,.int .i64 0,.int .i64 0,.slice none 0 0,.slice none 0 0,.int .i64 0,.int .i64 0,.int .i64 0,.int .i64 0,.int .i64 0,.slice none 0 0,.int .i64 0,.int .i64 0,.int .i64 0,.bool false] 62 _ hb;have hk:=(Keeps.alloc (S:=λ_=>False) w (.cells #[.int .i64 0,.int .i64 0,.int .i64 0,.int .i64 0,.int .i64 0,.slice none 0 0,.int .i64 0,.int .i64 0,.slice none 0 0,.slice none 0 0,.int .i64 0,.int .i64 0,.int .i64 0,.int .i64 0,.int .i64 0,.slice none 0 0,.int .i64 0,.int .i64 0,.int .i64 0,.bool false] 62)).trans ((Co (w.alloc (.cells #[.int .i64 0,.int .i64 0,.int .i64 0,.int .i64 0,.int .i64 0,.slice none 0 0,.int .i64 0,.int .i64 0,.slice none 0 0,.slice none 0 0,.int .i64 0,.int .i64 0,.int .i64 0,.int .i64 0,.int .i64 0,.slice none 0 0,.int .i64 0,.int .i64 0,.int .i64 0,.bool false] 62)) w.heap.size #[.int .i64 z,.int .i64 0,.int .i64 0,.int .i64 0,.int .i64 0,.slice none 0 0,.int .i64 0,.int .i64 0,.slice none 0 0,.slice none 0 0,.int .i64 0,.int .i64 0,.int .i64 0,.int .i64 0,.int .i64 0,.slice none 0 0,.int .i64 0,.int .i64 0,.int .i64 0,.bool false]).mono λi _ e=> .inr jZ);have h1:(#[.int .i64 z,.int .i64 0,.int .i64 0,.int .i64 0,.int .i64 0,.slice none 0 0,.int .i64 0,.int .i64 0,.slice none 0 0,.slice none 0 0,.int .i64 0,.int .i64 0,.int .i64 0,.int .i64 0,.int .i64 0,.slice none 0 0,.int .i64 0,.int .i64 0,.int .i64 0,.bool false]:Array Value).all (·.oneCell')=true:=by simp [Value.oneCell']
 obtain⟨Hb,Hb2,Hk,H1⟩:=hid4 hb hb2 hk h1;clear h1 hk hb2 hb;go_enter Tryz.func77,Tryz.ntmps77
 go_wp2_with (refine wpList_store_row rfl 62 (.tmp 2) (.tmp 4) rfl w.heap.size #[.int .i64 z,.int .i64 0,.int .i64 0,.int .i64 0,.int .i64 0,.slice none 0 0,.int .i64 0,.int .i64 0,.slice none 0 0,.slice none 0 0,.int .i64 0,.int .i64 0,.int .i64 0,.int .i64 0,.int .i64 0,.slice none 0 0,.int .i64 0,.int .i64 0,.int .i64 0,.bool false] rfl rfl 62 #[.int .i64 0,.int .i64 0,.int .i64 0,.int .i64 0,.int .i64 0,.slice none 0 0,.int .i64 0,.int .i64 0,.slice none 0 0,.slice none 0 0,.int .i64 0,.int .i64 0,.int .i64 0,.int .i64 0,.int .i64 0,.slice none 0 0,.int .i64 0,.int .i64 0,.int .i64 0,.bool false] Hb.out Aw rfl H1.out ?_)
 exact bodyPost_ret (results_cell_row rfl _ _ w.heap.size 62 #[.int .i64 z,.int .i64 0,.int .i64 0,.int .i64 0,.int .i64 0,.slice none 0 0,.int .i64 0,.int .i64 0,.slice none 0 0,.slice none 0 0,.int .i64 0,.int .i64 0,.int .i64 0,.int .i64 0,.int .i64 0,.slice none 0 0,.int .i64 0,.int .i64 0,.int .i64 0,.bool false] _ _ rfl Hb2.out Tryz.underlying62 rfl Aw) rfl ⟨rfl,Hk.out⟩
def chB(c:Cmd):Bool:=decide (1<=c.kind)&&decide (c.kind<=8)
theorem Md(c:Cmd)(w:World):Calls Tryz.prog 62 #[.agg #[.int .i64 c.kind,.int .i64 c.day,.int .i64 c.tranche,.int .i64 c.amount,.int .i64 c.ref]] w λe w'=>e= .returned (.bool (chB c))/\Keeps (λ_=>False) w w':=by
 obtain⟨ki,da,tr,am,re⟩:=c;simp only;by_cases h1:1<=ki
 ·by_cases h2:ki<=8
  ·have hd:chB ⟨ki,da,tr,am,re⟩=true:=by simp [chB,h1,h2]
   exact j1U
  ·have hd:chB ⟨ki,da,tr,am,re⟩=false:=by simp [chB,h2]
   exact j1U
 ·have hd:chB ⟨ki,da,tr,am,re⟩=false:=by simp [chB,h1]
  exact j1U
theorem putRow{w W:World}{R:Nat}{C V:Array Value}{t:TypeId}(h:W.heap[R]?=some (.cells C t (0,0)))(hk:Keeps (λ_=>False) w W)(hR:w.heap.size<=R):(W.setRow R V).heap[R]?=some (.cells V t (0,0))/\Keeps (λ_=>False) w (W.setRow R V):=
 ⟨setRow_heap W R C V t _ h,hk.trans ((Co W R V).mono λi _ e=> .inr (by have e':i=R:=e;omega))⟩
theorem Dr(e r c:Int):(#[.int .i64 e,.int .i64 r,.int .i64 c,.int .i64 0,.int .i64 0,.slice none 0 0,.int .i64 0,.int .i64 0,.slice none 0 0,.slice none 0 0,.int .i64 0,.int .i64 0,.int .i64 0,.int .i64 0,.int .i64 0,.slice none 0 0,.int .i64 0,.int .i64 0,.int .i64 0,.bool false]:Array Value).all (·.oneCell')=true:=by simp [Value.oneCell']
theorem Yx(w:World)(v:Value)(n:Nat)(xs:List Value)(hr:Reads w 9 v n xs)(h1:∀u∈xs,u.oneCell'=true)(hn:n<=1000000000000):
  Calls Tryz.prog 91 #[v] w λe w'=>∃v',e= .returned v'/\w'.ownsRow 0 90 9 v' n xs/\Keeps (λ_=>False) w w'/\(∀k,v'.ownBlock=some k->w.heap.size<=k):=by
 obtain⟨i0,hi,hz0,hz1,hz2⟩:=info_parts Gr;have hr':=hr;obtain⟨ad,c,rfl,hnc,hl,hnone,hcells⟩:=hr';clear hcells;have heq:=fun(wx:World) (ad:Option Addr) (l c:Nat)=>Lib.run_eql_slice_nil (P:=Tryz.prog) wx 85 _ ad l c 0 0 Tryz.underlying85;rcases ad with _|a
 ·obtain rfl:=hnone rfl;obtain rfl:n=0:=by omega
  obtain rfl:xs= []:=List.eq_nil_of_length_eq_zero jr;have hr0:=Lib.hid hr;clear hr;go_enter Tryz.func91,Tryz.ntmps91;exact jH
 ·have Hr:=Lib.hid hr;clear hr;obtain⟨Hl,Hnone,H1⟩:=hid3 hl hnone h1;clear h1 hnone hl;go_enter Tryz.func91,Tryz.ntmps91
  go_wp2_with (at_builtin;refine Ao rfl (.tmp 5) (.tmp 6) 85 rfl 0 90 i0 _ 9 72 Tryz.underlying85 hi hz0 hz1 hz2 rfl j7 _ 0 [] rfl (World.ownsRow_lit w #[] 0 j6 jd rfl) _ n xs rfl (Hr.out.keeps (Keeps.alloc (S:=λ_=>False) _ _) (by simp)) H1.out jd j6 j6 ?_)
  intro v' w1 hown1 hk1 hfr
  have hend:w1.ownsRow 0 90 9 v' n xs/\Keeps (λ_=>False) w w1/\(∀k,v'.ownBlock=some k->w.heap.size<=k):=by
   exact jI
  exact jJ
theorem StmsR.ofP{w:World}{v:Value}{P:List SV}(h1:w.ownsRow 0 60 9 v P.length (P.flatMap SV.cells))(h2:∀y∈P,w.ownsRow 0 160 3 y.v y.s.lines.length (y.s.lines.flatMap Ln.cells))(h3:∀y∈P,y.s.lines.length<=1000):∃ad c,v= .slice ad P.length c/\StmsR w ad P.length c P:=by
 obtain⟨ad,c,rfl,_,_⟩:=Ae h1;exact⟨ad,c,rfl,Reads.Az h1,λy hy=>Reads.Az (h2 y hy),h3,rfl⟩
theorem AcAt.stmN{w:World}{B:Nat}{x:AcV}{a:Ac}(h:AcAt w B x a):∃ad c,x.vn= .slice ad x.P.length c/\StmsR w ad x.P.length c x.P/\x.P.length<=1000:=by
 have hn:=h.ok.nums;have hl:x.P.length=a.s.out.length:=by rw [<-h.ns,List.length_map]
 obtain⟨ad,c,h1,h2⟩:=StmsR.ofP h.now h.nln λy hy=>by
  have:y.s∈a.s.out:=by rw [<-h.ns];exact List.mem_map.2 ⟨y,hy,rfl⟩
  have h3:=hn.ol _ this;have:=hn.n8;omega
 exact⟨ad,c,h1,h2,by rw [hl];have:=hn.o3;omega⟩
theorem Qz:(Tryz.prog.info? 55).map (·.size)=some 8:=by kernel_rfl
def StIs(a:Ac)(w w':World)(v1 v2 v3:Value):Prop:=w'.ownsRow 0 2 1 v1 a.s.p.bal.length (a.s.p.bal.flatMap i64c)/\w'.ownsRow 0 2 1 v2 a.s.R.length (a.s.R.flatMap i64c)/\w'.ownsRow 0 132 5 v3 a.D.length (a.D.flatMap Disp.cells)/\
 Keeps (λ_=>False) w w'/\∀b,v1.ownBlock=some b\/v2.ownBlock=some b\/v3.ownBlock=some b->w.heap.size<=b
def Qs(a:Ac)(w:World)(e:Ending)(w':World):Prop:=∃a1 c1 a2 c2 a3 c3,e= .returned (.agg #[.int .i64 a.today,.int .i64 (a.cyc a.today),.slice a1 a.s.p.bal.length c1,.int .i64 a.s.p.cr,.int .i64 a.s.p.du,.slice a2 a.s.R.length c2,.slice a3 a.D.length c3,.int .i64 a.seq])/\StIs a w w' (.slice a1 a.s.p.bal.length c1) (.slice a2 a.s.R.length c2) (.slice a3 a.D.length c3)
def stS(B b bb:Nat)(td sq cr du:Int)(vr vp:Value)(w:World):Prop:=w.cell? ⟨B,7,none⟩=some (.int .i64 td)/\w.cell? ⟨B,8,none⟩=some (.int .i64 sq)/\w.cell? ⟨B,14,none⟩=some vr/\w.cell? ⟨B,10,none⟩=some (.pointer (some ⟨bb,0,none⟩))/\w.cell? ⟨b,0,none⟩=some vp/\w.cell? ⟨b,1,none⟩=some (.int .i64 cr)/\w.cell? ⟨b,2,none⟩=some (.int .i64 du)
theorem stS.keep{B b bb:Nat}{td sq cr du:Int}{vr vp:Value}{w w':World}(h:stS B b bb td sq cr du vr vp w){S:Nat->Prop}(hk:Keeps S w w')(h1:¬S B)(h2:¬S b):stS B b bb td sq cr du vr vp w':=by
 obtain⟨c0,c1,c2,c3,c4,c5,c6⟩:=h;exact⟨(hk.cell (Ah c0) h1).trans c0,(hk.cell (Ah c1) h1).trans c1,(hk.cell (Ah c2) h1).trans c2,(hk.cell (Ah c3) h1).trans c3,(hk.cell (Ah c4) h2).trans c4,(hk.cell (Ah c5) h2).trans c5,(hk.cell (Ah c6) h2).trans c6⟩
theorem Zf(B:Nat)(x:AcV)(a:Ac)(w:World)(h:AcAt w B x a):Calls Tryz.prog 31 #[(.pointer (some ⟨B,0,none⟩))] w (Qs a w):=by
 have hn:=h.ok.nums;obtain⟨n,hN⟩:∃n,a.s.p.bal.length=n:=⟨_,rfl⟩;obtain⟨m,hM⟩:∃n,a.s.R.length=n:=⟨_,rfl⟩;obtain⟨q,hQ⟩:∃n,a.D.length=n:=⟨_,rfl⟩;have hn8:n<=8:=by have:=hn.nb;have:=hn.n8;omega
 have hm8:m<=8:=by have:=hn.nr;have:=hn.n8;omega
 obtain⟨ap,cp,hvp,_,_⟩:=Ae h.bal;obtain⟨ar,cr,hvr,_,_⟩:=Ae h.rts;have hrp:=Reads.Az h.bal;have hrr:=Reads.Az h.rts;rw [hN] at hvp hrp;rw [hM] at hvr hrr;rw [hvp] at hrp;rw [hvr] at hrr;have hc1:=λW (hW:Keeps (λ_=>False) w W)=>Em W (.slice ap n cp) n _ (hrp.keeps hW (by simp)) (Js _) j6;have hc2:=λW (hW:Keeps (λ_=>False) w W)=>Em W (.slice ar m cr) m _ (hrr.keeps hW (by simp)) (Js _) j6;have hcy:=λW (hW:Keeps (λ_=>False) w W)=>Pv B x a a.today W (h.keep0 hW);have hda:=λW (hW:Keeps (λ_=>False) w W)=>Abc a.D x.vb x.bb W (h.bk.keeps hW (by simp));rw [hQ] at hda;obtain⟨cyn,hcyn⟩:∃c,a.cyc a.today=c:=⟨_,rfl⟩;rw [hcyn] at hcy;obtain⟨td,htd⟩:∃c,a.today=c:=⟨_,rfl⟩;have hcyn':=hcyn;rw [htd] at hcy hcyn';obtain⟨sq,hsq⟩:∃c,a.seq=c:=⟨_,rfl⟩;obtain⟨pc,hpc⟩:∃c,a.s.p.cr=c:=⟨_,rfl⟩;obtain⟨pd,hpd⟩:∃c,a.s.p.du=c:=⟨_,rfl⟩;obtain⟨bb,hbb⟩:∃c,x.bb=c:=⟨_,rfl⟩;rw [hbb] at hda;have d7:w.cell? ⟨B,7,none⟩=some (.int .i64 td):=by rw [<-htd];exact Aa h.blk 7
 have d8:w.cell? ⟨B,8,none⟩=some (.int .i64 sq):=by rw [<-hsq];exact Aa h.blk 8
 have d10:w.cell? ⟨B,10,none⟩=some (.pointer (some ⟨bb,0,none⟩)):=by rw [<-hbb];exact Aa h.blk 10
 have c11:w.cell? ⟨B,11,none⟩=some (.slice ap n cp):=by rw [<-hvp];exact Aa h.blk 11
 have c12:w.cell? ⟨B,12,none⟩=some (.int .i64 pc):=by rw [<-hpc];exact Aa h.blk 12
 have c13:w.cell? ⟨B,13,none⟩=some (.int .i64 pd):=by rw [<-hpd];exact Aa h.blk 13
 have d14:w.cell? ⟨B,14,none⟩=some (.slice ar m cr):=by rw [<-hvr];exact Aa h.blk 14
 have hbl:=lt_of_block h.blk;obtain⟨W0,hW0⟩:∃x,x=(w.alloc (.cells #[.int .i64 0,.int .i64 0,.slice none 0 0,.int .i64 0,.int .i64 0,.slice none 0 0,.slice none 0 0,.int .i64 0] 55)).alloc (.cells #[.slice ap n cp,.int .i64 pc,.int .i64 pd] 52):=⟨_,rfl⟩;have hr0:W0.heap[w.heap.size]?=some (.cells #[.int .i64 0,.int .i64 0,.slice none 0 0,.int .i64 0,.int .i64 0,.slice none 0 0,.slice none 0 0,.int .i64 0] 55 (0,0)):=by rw [hW0];exact Ar (heap_alloc_new w _) _
 have hp0:W0.heap[w.heap.size+1]?=some (.cells #[.slice ap n cp,.int .i64 pc,.int .i64 pd] 52 (0,0)):=by rw [hW0];exact Av _ _ (by simp)
 have hk0:Keeps (λ_=>False) w W0:=by rw [hW0];(repeat (first|exact Keeps.refl _ _|exact Keeps.alloc _ _|exact Keeps.drew _|exact Keeps.drewN _ _|refine Keeps.Am ?_|refine Keeps.Ak ?_|refine Keeps.Af ?_))
 have hw:Qs a=λw e w'=>∃a1 c1 a2 c2 a3 c3,e= .returned (.agg #[.int .i64 td,.int .i64 cyn,.slice a1 n c1,.int .i64 pc,.int .i64 pd,.slice a2 m c2,.slice a3 q c3,.int .i64 sq])/\StIs a w w' (.slice a1 n c1) (.slice a2 m c2) (.slice a3 q c3):=by
  unfold Qs;simp only [hcyn];simp only [hN,hM,hQ,htd,hsq,hpc,hpd]
 rw [hw];clear hn hcyn';obtain⟨H,HN,HM,HQ,Hvp,Hvr,Hrp,Hrr,Hc1⟩:=hid9 h hN hM hQ hvp hvr hrp hrr hc1;clear hc1 hrr hrp hvr hvp hQ hM hN h;obtain⟨Hc2,Hcy,Hda,Hcyn,Htd,Hsq,Hpc,Hpd,Hbb⟩:=hid9 hc2 hcy hda hcyn htd hsq hpc hpd hbb;clear hbb hpd hpc hsq htd hcyn hda hcy hc2;obtain⟨D7,D8,D10,D14,Hr0,Hp0,Hk0,Hw⟩:=hid8 d7 d8 d10 d14 hr0 hp0 hk0 hw;clear hw hk0 hp0 hr0 d14 d10 d8 d7;go_enter Tryz.func31,Tryz.ntmps31;go_wp2_with fail;rw [<-hW0];clear hW0;refine(Hc1.out _ Hk0.out).mono ?_;rintro e w1 ⟨v1,rfl,hrow1,hk1,hnew1⟩;obtain⟨a1,c1,rfl,_,_⟩:=Ae hrow1;have hr1:=Ad Hr0.out hk1 (by simp);have hp1:=Ad Hp0.out hk1 (by simp);have p0:=Aa hp1 0;have f0:=Ab hp1 0;have pl:=lt_of_block hp1;have k2:Keeps (λi=>i=w.heap.size+1) w1 (w1.setCell ⟨w.heap.size+1,0,none⟩ (.slice a1 n c1)):=Keeps.setCell _ _ _ rfl;have hp2:=(heap_setCell_same _ _ 0 _ _ (.slice a1 n c1) hp1).trans rfl;have hr2:=Ad hr1 k2 j6;have hrow2:=k2.row hrow1 (λb hb e=>by have h1:=hnew1 b hb;have h2:=lt_of_block Hp0.out;have e':b=w.heap.size+1:=e;omega);have hkw2:Keeps (λ_=>False) w (w1.setCell ⟨w.heap.size+1,0,none⟩ (.slice a1 n c1)):=(Hk0.out.nt hk1).trans (k2.mono λi _ e=> .inr jo);obtain⟨W2,hW2⟩:∃x,x=w1.setCell ⟨w.heap.size+1,0,none⟩ (.slice a1 n c1):=⟨_,rfl⟩;rw [<-hW2] at hp2 hr2 hrow2 hkw2;have hf1:∀b,(Value.slice a1 n c1).ownBlock=some b->w.heap.size+1<b:=λb hb=>by have h1:=hnew1 b hb;have h2:=lt_of_block Hp0.out;omega
 clear k2 hnew1;obtain⟨Hrow1,Hk1,Hr1,Hp1,Hp2,Hr2,Hrow2,Hkw2,Hf1⟩:=hid9 hrow1 hk1 hr1 hp1 hp2 hr2 hrow2 hkw2 hf1;clear hf1 hkw2 hrow2 hr2 hp2 hp1 hr1 hk1 hrow1;clear c11 c12 c13
 go_upto_region 5 with fail
 rw [<-hW2];clear hW2 p0 f0 pl
 have hS2:stS B (w.heap.size+1) bb td sq pc pd (.slice ar m cr) (.slice a1 n c1) W2:=by
  have hk:=Hkw2.out;exact⟨(hk.cell (Ah D7.out) (by simp)).trans D7.out,(hk.cell (Ah D8.out) (by simp)).trans D8.out,(hk.cell (Ah D14.out) (by simp)).trans D14.out,(hk.cell (Ah D10.out) (by simp)).trans D10.out,Aa Hp2.out 0,Aa Hp2.out 1,Aa Hp2.out 2⟩
 have HS2:=Lib.hid hS2;clear hS2;refine Al (stS B (w.heap.size+1) bb td sq pc pd (.slice ar m cr) (.slice a1 n c1)) (.take 0 (.take 1 (.take 2 (.take 3 (.take 4 (.take 5 (.take 6 (.take 7 (.take 8 (.take 10 (.take 11 (.take 12 (.take 13 (.take 14 (.take 16 (.take 17 (.take 18 (.take 19 (.take 21 (.take 22 (.take 23 (.take 24 (.move 9 (.move 15 (.move 20 (.take 25 (.move 26 .done))))))))))))))))))))))))))) j9 j9 ?_ ?_
 ·exact HS2.out.keep (Keeps.drew (S:=λ_=>False) _) (by simp) (by simp)
 intro w3 hs3 hk3;refine je ?_;intro K hK
 go_at_call 73
 ((with_reducible refine(Hcy.out w3 (Hkw2.out.nt hk3)).mono ?_);rintro e w4 ⟨rfl,hk4⟩;dsimp only)
 refine hK.out _ _ (by exact hs3.keep hk4 (by simp) (by simp)) ?_;clear hK K;refine ja ?_;have hs4:=hs3.keep hk4 (by simp) (by simp);have hk24:=Keeps.nt hk3 hk4;clear hs3 hk3 hk4;refine je ?_;intro K hK
 go_at_call 72
 ((with_reducible refine(Hc2.out w4 (Hkw2.out.nt hk24)).mono ?_);rintro e w5 ⟨v2,rfl,hrow5,hk5,hnew5⟩;dsimp only)
 refine hK.out _ _ (by exact hs4.keep hk5 (by simp) (by simp)) ?_;clear hK K;refine ja ?_;obtain⟨a2,c2,rfl,_,_⟩:=Ae hrow5;have hs5:=hs4.keep hk5 (by simp) (by simp);have hk25:=Keeps.nt hk24 hk5;have hf5:∀b,(Value.slice a2 m c2).ownBlock=some b->W2.heap.size<=b:=λb hb=>by have:=hnew5 b hb;have:=hk24.size;omega
 clear hs4 hk24 hk5 hnew5;refine je ?_;intro K hK
 go_at_call 74
 ((with_reducible refine(Hda.out w5 (Hkw2.out.nt hk25)).mono ?_);rintro e w6 ⟨v3,rfl,hrow6,hk6,hnew6⟩;dsimp only)
 refine hK.out _ _ (by exact hs5.keep hk6 (by simp) (by simp)) ?_;clear hK K;refine ja ?_;obtain⟨a3,c3,rfl,_,_⟩:=Ae hrow6;have hs6:=hs5.keep hk6 (by simp) (by simp);have hk26:=Keeps.nt hk25 hk6;have hr6:=Ad Hr2.out hk26 (by simp);have hrow51:=hk6.row hrow5 (by simp);have hrow21:=hk26.row Hrow2.out (by simp);have hf6:∀b,(Value.slice a3 q c3).ownBlock=some b->W2.heap.size<=b:=λb hb=>by have:=hnew6 b hb;have:=hk25.size;omega
 have h2l:=lt_of_block Hr2.out;have kR:=Co w6 w.heap.size #[.int .i64 td,.int .i64 cyn,.slice a1 n c1,.int .i64 pc,.int .i64 pd,.slice a2 m c2,.slice a3 q c3,.int .i64 sq];have hput:=putRow (V:= #[.int .i64 td,.int .i64 cyn,.slice a1 n c1,.int .i64 pc,.int .i64 pd,.slice a2 m c2,.slice a3 q c3,.int .i64 sq]) hr6 (Hkw2.out.nt hk26) (Nat.le_refl _);obtain⟨hput1,hput2⟩:=hput;have e1:=kR.row hrow21 (λb hb e=>by have:=Hf1.out b hb;have e':b=w.heap.size:=e;omega);have e2:=kR.row hrow51 (λb hb e=>by have:=hf5 b hb;have e':b=w.heap.size:=e;omega);have e3:=kR.row hrow6 (λb hb e=>by have:=hf6 b hb;have e':b=w.heap.size:=e;omega)
 have hend:StIs a w (w6.setRow w.heap.size #[.int .i64 td,.int .i64 cyn,.slice a1 n c1,.int .i64 pc,.int .i64 pd,.slice a2 m c2,.slice a3 q c3,.int .i64 sq]) (.slice a1 n c1) (.slice a2 m c2) (.slice a3 q c3):=by
  refine⟨by rw [HN.out];exact e1,by rw [HM.out];exact e2,by rw [HQ.out];exact e3,hput2,λb hb=> ?_⟩;rcases hb with hb|hb|hb
  ·have:=Hf1.out b hb;omega
  ·have:=hf5 b hb;omega
  ·have:=hf6 b hb;omega
 have hs7:=hs6.keep kR j6 j6;have h1:(#[.int .i64 td,.int .i64 cyn,.slice a1 n c1,.int .i64 pc,.int .i64 pd,.slice a2 m c2,.slice a3 q c3,.int .i64 sq]:Array Value).all (·.oneCell')=true:=by simp [Value.oneCell']
 clear hs5 hk25 hk6 hnew6 kR e1 e2 e3 hput2 hf5 hf6 hrow51 hrow21 hrow5 hrow6 hk26 h2l;have Hs7:=Lib.hid hs7;clear hs7;obtain⟨Hput1,Hend,Hr6,H1⟩:=hid4 hput1 hend hr6 h1;clear h1 hr6 hend hput1;refine jR ?_;refine Ag rfl (λK hK=> ?_);refine wp_store_row 55 (.tmp 2) (.tmp 40) rfl w.heap.size #[.int .i64 td,.int .i64 cyn,.slice a1 n c1,.int .i64 pc,.int .i64 pd,.slice a2 m c2,.slice a3 q c3,.int .i64 sq] rfl rfl 55 #[.int .i64 0,.int .i64 0,.slice none 0 0,.int .i64 0,.int .i64 0,.slice none 0 0,.slice none 0 0,.int .i64 0] Hr6.out Qz rfl H1.out ?_;refine hK.out _ _ (by exact Hs7.out) ?_;clear hK K;refine jt ?_;go_wp2_with fail;exact bodyPost_ret (results_cell_row rfl _ _ w.heap.size 55 _ _ _ rfl Hput1.out Tryz.underlying55 rfl Qz) rfl ⟨a1,c1,a2,c2,a3,c3,rfl,Hend.out⟩
theorem Keeps.setB{w W:World}{B:Nat}(h:Keeps (λj=>j=B) w W)(i:Nat)(v:Value):Keeps (λj=>j=B) w (W.setCell ⟨B,i,none⟩ v):=h.trans (Keeps.setCell (S:=λj=>j=B\/w.heap.size<=j) W ⟨B,i,none⟩ v (.inl rfl))
def acNew(t:Tm):Ac:=⟨t,t.start,0, [], [],st0 t, [], []⟩
def NewAc(t:Tm)(w:World)(e:Ending)(w':World):Prop:=∃B x,e= .returned (.tuple #[(.pointer (some ⟨B,0,none⟩)),.int .i64 0])/\AcAt w' B x (acNew t)/\Keeps (λ_=>False) w w'/\(∀b,AcF B x b\/x.rd b->w.heap.size<=b)
theorem Wj{t:Tm}(h:Dl t [] t.start=0):walkR t [] t.start=(st0 t,0):=by
 unfold walkR;rw [if_pos h,show(t.start-t.start).toNat=0 by omega];rfl
theorem acNew_ok{t:Tm}(h:Dl t [] t.start=0):AcOk (acNew t):=
 ⟨Wj h,rfl,by simp [acNew],by simp [acNew],by simp [acNew]⟩
theorem AcAt.new{w W8 W9:World}{t:Tm}{B bl bb n:Nat}{vt vtl vb vr vo:Value}{P:List SV}{W7:World}(hok:AcOk (acNew t))(hN:t.trs.length=n)(hrow:W7.ownsRow 0 120 2 vt n (t.trs.flatMap Tn.cells))(hdl:DL W7 bl t vtl [] (.slice none 0 0))(hbk:Cs W7 bb (.slice none 0 0) [])
  (hres:Ed W7 n (st0 t) vb vr vo P W8) (hB9:W9.heap[B]?=some (.cells #[.int .i64 t.limit,vt,.int .i64 t.cyc,.int .i64 t.due,.int .i64 t.minFixed,.int .i64 t.minPart,.int .i64 t.start,.int .i64 t.start,.int .i64 0,(.pointer (some ⟨bl,0,none⟩)),(.pointer (some ⟨bb,0,none⟩)),vb,.int .i64 (st0 t).p.cr,.int .i64 (st0 t).p.du,vr,vo,.slice none 0 0,.slice none 0 0] 136 (0,0))) (k9:Keeps (λi=>i=B) W8 W9)
  (hBl:B<W7.heap.size) (h1:∀b,vt.ownBlock=some b->b<B) (h2:bl<B) (h3:∀b,vtl.ownBlock=some b->b<B) (h4:bb<B) (hk:Keeps (λ_=>False) w W7) (hw:∀b,b=B\/vt.ownBlock=some b\/b=bl\/vtl.ownBlock=some b\/b=bb->w.heap.size<=b):
  ∃x,AcAt W9 B x (acNew t)/\Keeps (λ_=>False) w W9/\(∀b,AcF B x b\/x.rd b->w.heap.size<=b):=by
 have hkk:Keeps (λi=>i=B) W7 W9:=(hres.kp.mono (by simp)).trans (k9.mono λi _ e=> .inl e)
 have hf:∀b,vb.ownBlock=some b\/vr.ownBlock=some b\/vo.ownBlock=some b\/(∃y∈P,y.v.ownBlock=some b)->W7.heap.size<=b:=by
  rintro b (hb|hb|hb|⟨y,hy,hb⟩)
  ·exact hres.wb b hb
  ·exact hres.wr b hb
  ·exact hres.wo b hb
  ·exact hres.wl y hy b hb
 have hsz:=hk.size
 refine⟨⟨vt,.slice none 0 0,vtl,.slice none 0 0,vb,vr,vo,.slice none 0 0,.slice none 0 0,bl,bb,P, []⟩,⟨hB9,by rw [show(acNew t).t.trs.length=n from hN];exact hkk.row hrow λb hb e=>by have:=h1 b hb;have e':b=B:=e;omega,
  hdl.keepS hkk (λe=>by have e':bl=B:=e;omega) (λb hb e=>by have:=h3 b hb;have e':b=B:=e;omega) (by simp [Value.ownBlock]),hbk.keeps hkk (λb hb e=>by
   have e':b=B:=e;rcases hb with hb|hb
   ·have hb':b=bb:=hb;omega
   ·simp [Value.ownBlock] at hb),
  by rw [show(acNew t).s.p.bal.length=n from hres.nb];exact k9.row hres.bal λb hb e=>by have:=hres.wb b hb;have e':b=B:=e;omega,
  by rw [show(acNew t).s.R.length=n from hres.nr];exact k9.row hres.rts λb hb e=>by have:=hres.wr b hb;have e':b=B:=e;omega,
  k9.row hres.out λb hb e=>by have:=hres.wo b hb;have e':b=B:=e;omega,
  λy hy=>k9.row (hres.ln y hy) λb hb e=>by have:=hres.wl y hy b hb;have e':b=B:=e;omega,
  hres.lp,World.ownsRow_nil _ _ _ _,by simp,rfl,World.ownsRow_nil _ _ _ _,hok, ?_,by simp [Value.ownBlock],by simp [Value.ownBlock]⟩,(hk.nt hres.kp).trans (k9.mono λi _ e=> .inr (by have e':i=B:=e;have:=hw B (.inl rfl);omega)), ?_⟩
 ·intro b hb hF
  have hbB:b=B:=by
   rcases hF with hF|hF|hF
   ·exact hF
   ·simp [Value.ownBlock] at hF
   ·simp [Value.ownBlock] at hF
  subst hbB;rcases hb with hb|hb|hb|hb|hb|hb|hb|hb|hb|⟨y,hy,hb⟩
  ·have:=h1 b hb;omega
  ·have:=hf b (.inl hb);omega
  ·have:=hf b (.inr (.inl hb));omega
  ·have:=hf b (.inr (.inr (.inl hb)));omega
  ·have hb':b=bl:=hb;omega
  ·have:=h3 b hb;omega
  ·simp [Value.ownBlock] at hb
  ·rcases hb with hb|hb
   ·have hb':b=bb:=hb;omega
   ·simp [Value.ownBlock] at hb
  ·have:=hf b (.inr (.inr (.inr hb)));omega
  ·simp at hy
 ·rintro b ((hb|hb|hb)|hb|hb|hb|hb|hb|hb|hb|hb|hb|⟨y,hy,hb⟩)
  ·exact hw b (.inl hb)
  ·simp [Value.ownBlock] at hb
  ·simp [Value.ownBlock] at hb
  ·exact hw b (.inr (.inl hb))
  ·have:=hf b (.inl hb);omega
  ·have:=hf b (.inr (.inl hb));omega
  ·have:=hf b (.inr (.inr (.inl hb)));omega
  ·exact hw b (.inr (.inr (.inl hb)))
  ·exact hw b (.inr (.inr (.inr (.inl hb))))
  ·simp [Value.ownBlock] at hb
  ·rcases hb with hb|hb
   ·exact hw b (.inr (.inr (.inr (.inr hb))))
   ·simp [Value.ownBlock] at hb
  ·have:=hf b (.inr (.inr (.inr hb)));omega
  ·simp at hy
theorem accNew_ok(t:Tm)(v:Value)(w:World)(hr:Reads w 2 v t.trs.length (t.trs.flatMap Tn.cells))(hre:Dl t [] t.start=0):
  Calls Tryz.prog 58 #[.agg #[.int .i64 t.limit,v,.int .i64 t.cyc,.int .i64 t.due,.int .i64 t.minFixed,.int .i64 t.minPart,.int .i64 t.start]] w (NewAc t w):=by
 have hok:=Ea hre;obtain⟨⟨l0,l1⟩,_,_,_,_,_,hst1,hst2⟩:=Fg hok.tm;have hnew:=acNew_ok hre;have hwk:=Wj hre;obtain⟨n,hN⟩:∃n,t.trs.length=n:=⟨_,rfl⟩;rw [hN] at l0 l1;obtain⟨ad,c,hv,_,_⟩:=id hr;have hri:=λW (hW:Keeps (λ_=>False) w W)=>Jd t ad c W (by rw [<-hv];exact hr.keeps hW (by simp)) j6;simp only [Tm.val] at hri;rw [hok.tm] at hri;rw [hv] at hr⊢;rw [hN] at hr hri hv⊢;have hcl:=λW (hW:Keeps (λ_=>False) w W)=>Rn W (.slice ad n c) n _ (hr.keeps hW (by simp)) (λu hu=>Tn.one _ u hu) j6;obtain⟨W0,hW0⟩:∃x,x=w.alloc (.cells #[.int .i64 t.limit,.slice ad n c,.int .i64 t.cyc,.int .i64 t.due,.int .i64 t.minFixed,.int .i64 t.minPart,.int .i64 t.start] 44):=⟨_,rfl⟩;have hb0:W0.heap[w.heap.size]?=some (.cells #[.int .i64 t.limit,.slice ad n c,.int .i64 t.cyc,.int .i64 t.due,.int .i64 t.minFixed,.int .i64 t.minPart,.int .i64 t.start] 44 (0,0)):=by rw [hW0];exact heap_alloc_new w _
 have hk0:Keeps (λ_=>False) w W0:=by rw [hW0];exact Keeps.alloc _ _
 obtain⟨Hr,Hv,Hri,HN,Hb0,Hk0,Hok,Hnew,Hwk⟩:=hid9 hr hv hri hN hb0 hk0 hok hnew hwk;clear hwk hnew hok hk0 hb0 hN hri hv hr;obtain⟨Hcl,Hre⟩:=hid2 hcl hre;clear hre hcl;go_enter Tryz.func58,Tryz.ntmps58;go_wp2_with fail;rw [<-hW0];clear hW0;refine(Hri.out _ Hk0.out).mono ?_;rintro e w1 ⟨rfl,hk1⟩;have hb1:=Ad Hb0.out hk1 (by simp);have hk01:=Hk0.out.nt hk1;have p1:=Aa hb1 1;have f1:=Ab hb1 1;have pl:=lt_of_block hb1;obtain⟨Hk1,Hb1,Hk01⟩:=hid3 hk1 hb1 hk01;clear hk01 hb1 hk1;go_wp2_with fail;refine(Hcl.out _ Hk01.out).mono ?_;rintro e w2 ⟨vt,rfl,hrow2,hk2,hnew2⟩;obtain⟨gt,ct,rfl⟩:=El hrow2 l0;have hb2:=Ad Hb1.out hk2 (by simp);clear p1 f1 pl;have p1:=Aa hb2 1;have f1:=Ab hb2 1;have pl:=lt_of_block hb2;have k3:Keeps (λi=>i=w.heap.size) w2 (w2.setCell ⟨w.heap.size,1,none⟩ (.slice (some ⟨gt,0,none⟩) n ct)):=Keeps.setCell _ _ _ rfl;have hb3:=(heap_setCell_same _ _ 1 _ _ (.slice (some ⟨gt,0,none⟩) n ct) hb2).trans rfl;have hgt:w.heap.size<gt:=by have h1:=hnew2 gt rfl;have h2:=lt_of_block Hb1.out;omega
 have hrow3:=k3.row hrow2 (λb hb e=>by have e':b=w.heap.size:=e;simp only [Value.ownBlock,Option.some.injEq] at hb;omega);have hk03:Keeps (λ_=>False) w (w2.setCell ⟨w.heap.size,1,none⟩ (.slice (some ⟨gt,0,none⟩) n ct)):=(Hk01.out.nt hk2).trans (k3.mono λi _ e=> .inr jZ);obtain⟨W3,hW3⟩:∃x,x=w2.setCell ⟨w.heap.size,1,none⟩ (.slice (some ⟨gt,0,none⟩) n ct):=⟨_,rfl⟩;rw [<-hW3] at hb3 hrow3 hk03;clear k3 hnew2;obtain⟨Hrow2,Hk2,Hb2,Hb3,Hrow3,Hk03⟩:=hid6 hrow2 hk2 hb2 hb3 hrow3 hk03;clear hk03 hrow3 hb3 hb2 hk2 hrow2
 go_upto_region 5 with fail
 rw [<-hW3];clear hW3 p1 f1 pl;have hS3:tbS w.heap.size t (.slice (some ⟨gt,0,none⟩) n ct) W3:=tbS.of Hb3.out;have hdn:=λW (hW:Keeps (λ_=>False) W3 W)=>Ad6 t (.slice (some ⟨gt,0,none⟩) n ct) W (by rw [HN.out];exact(Reads.Az Hrow3.out).keeps hW (by simp)) (by rw [HN.out];omega);simp only [Tm.val] at hdn;obtain⟨HS3,Hdn⟩:=hid2 hS3 hdn;clear hdn hS3;refine Al (tbS w.heap.size t (.slice (some ⟨gt,0,none⟩) n ct)) (.take 0 (.take 1 (.take 2 (.take 3 (.move 4 (.move 5 (.take 6 (.move 7 (.take 8 .done))))))))) j9 j9 ?_ ?_
 ·exact HS3.out.keep (Keeps.drew _)
 intro w4 hs4 hk4;refine je ?_;intro K hK
 go_at_call 106
 ((with_reducible refine(Hdn.out w4 hk4).mono ?_);rintro e w5 hd5)
 obtain⟨bl,vtl,rfl,hdl5,hk5,hbl5,hvtl5⟩:=hd5;dsimp only;refine hK.out _ _ (by exact hs4.keep hk5) ?_;clear hK K;refine ja ?_;have hs5:=hs4.keep hk5;have hk35:=Keeps.nt hk4 hk5;have hl4:=hk4.size;have hl5:=hk5.size;clear hs4 hk4;refine je ?_;intro K hK
 go_at_call 107
 ((with_reducible refine(Abb w5).mono ?_);rintro e w6 ⟨rfl,hbk6,hk6⟩;dsimp only)
 refine hK.out _ _ (by exact hs5.keep hk6) ?_;clear hK K;refine ja ?_;have hs6:=hs5.keep hk6;have hk36:=Keeps.nt hk35 hk6;have hl6:=hk6.size;have hbkl:=lt_of_block hbk6.blk;have hdl6:=hdl5.keep hk6;obtain⟨bb,hbb⟩:∃x,x=w5.heap.size:=⟨_,rfl⟩;rw [<-hbb] at hbk6 hbkl⊢;obtain⟨W7,hW7⟩:∃x,x=w6.alloc (.cells #[.int .i64 t.limit,.slice (some ⟨gt,0,none⟩) n ct,.int .i64 t.cyc,.int .i64 t.due,.int .i64 t.minFixed,.int .i64 t.minPart,.int .i64 t.start,.int .i64 t.start,.int .i64 0,(.pointer (some ⟨bl,0,none⟩)),(.pointer (some ⟨bb,0,none⟩)),.slice none 0 0,.int .i64 0,.int .i64 0,.slice none 0 0,.slice none 0 0,.slice none 0 0,.slice none 0 0] 136):=⟨_,rfl⟩;obtain⟨B,hB⟩:∃x,x=w6.heap.size:=⟨_,rfl⟩;have hk7:Keeps (λ_=>False) w6 W7:=by rw [hW7];exact Keeps.alloc _ _
 have hB7:W7.heap[B]?=some (.cells #[.int .i64 t.limit,.slice (some ⟨gt,0,none⟩) n ct,.int .i64 t.cyc,.int .i64 t.due,.int .i64 t.minFixed,.int .i64 t.minPart,.int .i64 t.start,.int .i64 t.start,.int .i64 0,(.pointer (some ⟨bl,0,none⟩)),(.pointer (some ⟨bb,0,none⟩)),.slice none 0 0,.int .i64 0,.int .i64 0,.slice none 0 0,.slice none 0 0,.slice none 0 0,.slice none 0 0] 136 (0,0)):=by rw [hW7,hB];exact heap_alloc_new _ _
 have hs7:=hs6.keep hk7;have hdl7:=hdl6.keep hk7;have hbk7:=hbk6.keeps hk7 (by simp);have hk37:=Keeps.nt hk36 hk7;have hk07:=Hk03.out.nt hk37;have hrow7:=hk37.row Hrow3.out (by simp);have hbbl:W3.heap.size<=bb:=by rw [hbb];have:=hk35.size;exact this
 have hbbB:bb<B:=by rw [hB];exact hbkl
 have hblB:bl<B:=by have:=lt_of_block hdl6.blk;omega
 have hvtlB:∀b,vtl.ownBlock=some b->b<B:=λb hb=>by have:=Pk hdl6.trs hb;omega
 have hgtB:gt<B:=by have:=Pk (hk36.row Hrow3.out (by simp)) (show(Value.slice (some ⟨gt,0,none⟩) n ct).ownBlock=some gt from rfl);omega
 have hwB:w.heap.size<=B:=by have:=Hk03.out.size;have:=hk36.size;omega
 have hB7l:B+1=W7.heap.size:=by rw [hW7,hB];simp
 have hrun:=λW (hW:Keeps (λ_=>False) W7 W)=>Nt t (some ⟨gt,0,none⟩) ct n [] none 0 0 t.start W HN.out ((Reads.Az hrow7).keeps hW (by simp)) rfl (Reads.nil W 5) j6 j6;rw [Hwk.out] at hrun;clear hs5 hk35 hk6 hs6 hk36 hbk6 hdl6 hdl5 hk5 hk7;have Hs7:=Lib.hid hs7;clear hs7;obtain⟨Hdl7,Hbk7,Hk37,Hk07,Hrow7,HvtlB,Hvtl5,HB7l,Hrun⟩:=hid9 hdl7 hbk7 hk37 hk07 hrow7 hvtlB hvtl5 hB7l hrun;clear hrun hB7l hvtl5 hvtlB hrow7 hk07 hk37 hbk7 hdl7;obtain⟨HB7,Hbl5,Hbb⟩:=hid3 hB7 hbl5 hbb;clear hbb hbl5 hB7;refine je ?_;intro K hK;rw [<-hW7,<-hB];clear hW7 hB;refine hK.out _ _ (by exact Hs7.out) ?_;clear hK K;refine jj ?_;obtain⟨t0,t1,t2,t3,t4,t5,t6⟩:=Hs7.out;have tl:=Ah t0;go_wp2_with fail;refine(Hrun.out _ (Keeps.refl _ _)).mono ?_;rintro e w8 (⟨hz,vb,vr,vo,P,rfl,hres⟩|⟨hz,_⟩)
 ·obtain⟨ab,cb,rfl,_,_⟩:=Ae hres.bal;obtain⟨ar,cr,rfl,_,_⟩:=Ae hres.rts;obtain⟨ao,co,rfl,_,_⟩:=Ae hres.out;have hB8:=Ad HB7.out hres.kp (by simp);have b11:=Aa hB8 11;have b12:=Aa hB8 12;have b13:=Aa hB8 13;have b14:=Aa hB8 14;have b15:=Aa hB8 15;have f11:=Ab hB8 11;have f12:=Ab hB8 12;have f13:=Ab hB8 13;have f14:=Ab hB8 14;have f15:=Ab hB8 15;have bbl:=lt_of_block hB8;clear t0 t1 t2 t3 t4 t5 t6 tl;obtain⟨W9,hW9⟩:∃x,x=((((w8.setCell ⟨B,11,none⟩ (.slice ab n cb)).setCell ⟨B,12,none⟩ (.int .i64 (st0 t).p.cr)).setCell ⟨B,13,none⟩ (.int .i64 (st0 t).p.du)).setCell ⟨B,14,none⟩ (.slice ar n cr)).setCell ⟨B,15,none⟩ (.slice ao P.length co):=⟨_,rfl⟩;have h1:=heap_setCell_same _ _ 11 _ _ (.slice ab n cb) hB8;have h2:=heap_setCell_same _ _ 12 _ _ (.int .i64 (st0 t).p.cr) h1;have h3:=heap_setCell_same _ _ 13 _ _ (.int .i64 (st0 t).p.du) h2;have h4:=heap_setCell_same _ _ 14 _ _ (.slice ar n cr) h3;have h5:=(heap_setCell_same _ _ 15 _ _ (.slice ao P.length co) h4).trans rfl
  have k9:Keeps (λi=>i=B) w8 W9:=by
   rw [hW9];exact(((((Keeps.refl _ w8).setB _ _).setB _ _).setB _ _).setB _ _).setB _ _
  rw [<-hW9] at h5;clear h1 h2 h3 h4
  have hend:=AcAt.new (w:=w) Hnew.out HN.out Hrow7.out Hdl7.out Hbk7.out hres h5 k9 (by have:=HB7l.out;omega) (by simp [Value.ownBlock];exact hgtB) hblB HvtlB.out hbbB Hk07.out (by
   have:=Hk03.out.size;rintro b (hb|hb|hb|hb|hb)
   ·omega
   ·simp only [Value.ownBlock,Option.some.injEq] at hb;omega
   ·have:=Hbl5.out;omega
   ·have:=Hvtl5.out b hb;omega
   ·omega)
  obtain⟨Hend,Hres,HB8,H5,K9⟩:=hid5 hend hres hB8 h5 k9;clear k9 h5 hB8 hres hend;go_wp2_with fail;rw [<-hW9]
  go_ret2
  obtain⟨x,h1,h2,h3⟩:=Hend.out;exact⟨B,x,rfl,h1,h2,h3⟩
 ·exact absurd rfl hz
inductive RunIs (w0:World) (m:Nat) (Z:St×Int) (W:World):Value->Int->Int->Value->Value->Int->Prop
 |ok {vb vr vo:Value} {P:List SV}:Z.2=0->Ed w0 m Z.1 vb vr vo P W->RunIs w0 m Z W vb Z.1.p.cr Z.1.p.du vr vo 0
 |bad:¬Z.2=0->RunIs w0 m Z W (.slice none 0 0) 0 0 (.slice none 0 0) (.slice none 0 0) Z.2
theorem Qg{m:Nat}{Z:St×Int}{w W:World}{e:Ending}(h:Uu w m Z e W):∃vb cr du vr vo z,e= .returned (.tuple #[.agg #[vb,.int .i64 cr,.int .i64 du],vr,vo,.int .i64 z])/\RunIs w m Z W vb cr du vr vo z/\Keeps (λ_=>False) w W/\∃a n c,vb= .slice a n c:=by
 rcases h with⟨hz,vb,vr,vo,P,rfl,hres⟩|⟨hz,rfl,hk⟩
 ·obtain⟨a,c,h,_⟩:=Ae hres.bal;exact⟨_,_,_,_,_,_,rfl,.ok hz hres,hres.kp,a,_,c,h⟩
 ·exact⟨_,_,_,_,_,_,rfl,.bad hz,hk,none,0,0,rfl⟩
theorem RunIs.keep{w0:World}{m:Nat}{Z:St×Int}{W W':World}{vb vr vo:Value}{cr du z:Int}(h:RunIs w0 m Z W vb cr du vr vo z)(hk:Keeps (λ_=>False) W W'):RunIs w0 m Z W' vb cr du vr vo z:=by
 cases h with
 |ok e g=>exact .ok e ⟨g.bal.of_keeps hk,g.rts.of_keeps hk,g.out.of_keeps hk,λx hx=>(g.ln x hx).of_keeps hk,g.lp,g.nb,g.nr,g.wb,g.wr,g.wo,g.wl,g.kp.nt hk⟩
 |bad e=>exact .bad e
theorem RunIs.lift{w w2:World}{m b:Nat}{Z:St×Int}{W W':World}{vb vr vo:Value}{cr du z:Int}(h:RunIs w2 m Z W vb cr du vr vo z)(hk:Keeps (λi=>i=b) W W')(hb:b<w2.heap.size)(hkw:Keeps (λ_=>False) w w2)(hwb:w.heap.size<=b):RunIs w m Z W' vb cr du vr vo z:=by
 cases h with
 |ok e g=>exact .ok e (g.lift hk hb hkw hwb)
 |bad e=>exact .bad e
theorem AcAt.build{w W:World}{B:Nat}{x x':AcV}{a a':Ac}(h:AcAt w B x a)(M:Nat)(hM:w.heap.size<=M)(hk:Keeps (AcF B x) w W)(hvt:x'.vt=x.vt)(ht:a'.t=a.t)
  (blk:W.heap[B]?=some (.cells (x'.blk a') 136 (0,0))) (dl:DL W x'.bl a.t x'.vtl a'.L x'.vl) (bk:Cs W x'.bb x'.vb a'.D)
  (bal:W.ownsRow 0 2 1 x'.vp a'.s.p.bal.length (a'.s.p.bal.flatMap i64c)) (rts:W.ownsRow 0 2 1 x'.vr a'.s.R.length (a'.s.R.flatMap i64c))
  (now:W.ownsRow 0 60 9 x'.vn x'.P.length (x'.P.flatMap SV.cells)) (nln:∀y∈x'.P,W.ownsRow 0 160 3 y.v y.s.lines.length (y.s.lines.flatMap Ln.cells)) (ns:x'.P.map SV.s=a'.s.out)
  (iss:W.ownsRow 0 60 9 x'.vi x'.I.length (x'.I.flatMap SV.cells)) (iln:∀y∈x'.I,W.ownsRow 0 160 3 y.v y.s.lines.length (y.s.lines.flatMap Ln.cells)) (is:x'.I.map SV.s=a'.iss)
  (adj:W.ownsRow 0 90 9 x'.va a'.adj.length (a'.adj.flatMap Adj.cells)) (ok:AcOk a')
  (hrd:∀b,x'.rd b->x.rd b\/(w.heap.size<=b/\b<M)) (haf:∀b,AcF B x' b->AcF B x b\/M<=b):
  AcAt W B x' a'/\(∀b,AcF B x' b->AcF B x b\/w.heap.size<=b)/\(∀b,x'.rd b->x.rd b\/w.heap.size<=b):=by
 refine⟨⟨blk, ?_,by rw [ht];exact dl,bk,bal,rts,now,nln,ns,iss,iln,is,adj,ok, ?_, ?_, ?_⟩,λb hb=>(haf b hb).imp id λh2=>by omega,λb hb=>(hrd b hb).imp id λh2=>h2.1⟩
 ·rw [hvt,ht];exact hk.row h.trs λb hb=>h.sep b (.inl hb)
 ·intro b hb hF;rcases hrd b hb with h1|⟨h1,h2⟩
  ·rcases haf b hF with h3|h3
   ·exact h.sep b h1 h3
   ·have:=h.lt b (.inr h1);omega
  ·rcases haf b hF with h3|h3
   ·have:=h.lt b (.inl h3);omega
   ·omega
 ·rintro b hb (rfl|hb2)
  ·exact Ai iss blk j7 hb
  ·exact Eu iss adj j7 hb hb2
 ·rintro b hb rfl;exact Ai adj blk j7 hb
def Cf(w:World)(B:Nat)(x:AcV)(a':Ac)(W:World):Prop:=∃x',AcAt W B x' a'/\Keeps (AcF B x) w W/\(∀b,AcF B x' b->AcF B x b\/w.heap.size<=b)/\(∀b,x'.rd b->x.rd b\/w.heap.size<=b)
theorem Cf.same{w W:World}{B:Nat}{x:AcV}{a:Ac}(h:AcAt w B x a)(hk:Keeps (λ_=>False) w W):Cf w B x a W:=⟨x,h.keep0 hk,hk.mono (by simp),λ_ hb=> .inl hb,λ_ hb=> .inl hb⟩
def Kv(w:World)(b:Nat)(v:Value)(D:List Disp)(W:World):Prop:=∃v',Cs W b v' D/\Keeps (Foot b v) w W/\∀k,Foot b v' k->Foot b v k\/w.heap.size<=k
def Ux(w:World)(b:Nat)(v:Value)(D:List Disp)(x:Ev)(z:Int)(e:Ending)(w':World):Prop:=
 e= .returned (.tuple #[.agg #[.int .i64 x.kind,.int .i64 x.day,.int .i64 x.tranche,.int .i64 x.amount,.int .i64 x.ref],.int .i64 z])/\Kv w b v D w'
theorem Bl:(Tryz.prog.info? 96).map (·.size)=some 5:=by kernel_rfl
theorem Dm(a b c d e:Int):(#[.int .i64 a,.int .i64 b,.int .i64 c,.int .i64 d,.int .i64 e]:Array Value).all (·.oneCell')=true:=by simp [Value.oneCell']
theorem Kv.put{w w0 w1 W:World}{b R:Nat}{v v':Value}{D D':List Disp}{V:Array Value}(hb:Cs w b v D)(hk0:Keeps (λ_=>False) w w0)(hb1:Cs w1 b v' D')(hk1:Keeps (Foot b v) w0 w1)(hf:∀k,Foot b v' k->Foot b v k\/w0.heap.size<=k)
  (hk:Keeps (λ_=>False) w1 W) (hR:w.heap.size<=R) (hR2:R<w0.heap.size):Kv w b v D' (W.setRow R V):=by
 have hs:=hk0.size;refine⟨v',(hb1.keeps hk (by simp)).keeps (Co W R V) λk h e=> ?_,((hk0.mono (by simp)).trans ((hk1.mono λi _ e=> .inl e).trans ((hk.mono (by simp)).trans ((Co W R V).mono λi _ e=> .inl (.inl (.inr ?_)))))),λk h=>(hf k h).imp id j6⟩
 ·have e':k=R:=e;rcases hf k h with h|h
  ·have:=hb.lt k h;omega
  ·omega
 ·have e':i=R:=e;omega
theorem Ac.de_bad{a:Ac}{c:Cmd}(h:¬Cv a.D c.ref=0):a.de c=Cv a.D c.ref/\a.dvt c=ev00:=by
 have h1:a.de c=Cv a.D c.ref:=by unfold Ac.de;rw [if_pos h]
 exact⟨h1,by unfold Ac.dvt;rw [h1,if_pos (.inl h)]⟩
theorem Ac.de_won{a:Ac}{c:Cmd}(h:Cv a.D c.ref=0)(hk:c.kind=6):a.de c=0/\a.dvt c=ev00:=by
 have h1:a.de c=0:=by unfold Ac.de;rw [if_neg j6,if_pos hk]
 exact⟨h1,by unfold Ac.dvt;rw [if_pos (.inr hk)]⟩
theorem Ac.de_old{a:Ac}{c:Cmd}(h:Cv a.D c.ref=0)(hk:c.kind=5)(ho:a.oldB (Dw a.D c.ref true).day=true):a.de c=11/\a.dvt c=ev00:=by
 have h1:a.de c=11:=by unfold Ac.de;rw [if_neg j6,if_neg j6,hk];exact if_pos ho
 exact⟨h1,by unfold Ac.dvt;rw [h1,if_pos (.inl j7)]⟩
theorem Ac.de_lost{a:Ac}{c:Cmd}(h:Cv a.D c.ref=0)(hk:c.kind=5)(ho:a.oldB (Dw a.D c.ref true).day=false):a.de c=0/\a.dvt c=⟨5,(Dw a.D c.ref true).day,(Dw a.D c.ref true).tranche,(Dw a.D c.ref true).amount,(Dw a.D c.ref true).ref⟩:=by
 have h1:a.de c=0:=by unfold Ac.de;rw [if_neg j6,if_neg j6,hk];exact if_neg (by rw [show((5:Int)==5)=true from rfl,ho];decide)
 exact⟨h1,by unfold Ac.dvt;rw [h1,hk];rfl⟩
theorem Zh(B:Nat)(x:AcV)(a:Ac)(c:Cmd)(b:Nat)(v:Value)(w:World)(h:AcAt w B x a)(hb:Cs w b v a.D)(hsep:∀k,Foot b v k->¬(AcF B x k\/x.rd k))(hk:c.kind=5\/c.kind=6):
  Calls Tryz.prog 135 #[(.pointer (some ⟨B,0,none⟩)),.agg #[.int .i64 c.kind,.int .i64 c.day,.int .i64 c.tranche,.int .i64 c.amount,.int .i64 c.ref],(.pointer (some ⟨b,0,none⟩))] w (Ux w b v (dEnd a.D c.ref (c.kind==5)) (a.dvt c) (a.de c)):=by
 have hde1:= @Ac.de_bad a c;have hde2:= @Ac.de_won a c;have hde3:= @Ac.de_old a c;have hde4:= @Ac.de_lost a c;obtain⟨ki,da,tr,am,re⟩:=c;simp only at hk hde1 hde2 hde3 hde4⊢;refine j3X ?_;intro W0 hW0;have hc0:W0.heap[w.heap.size]?=some (.cells #[.int .i64 ki,.int .i64 da,.int .i64 tr,.int .i64 am,.int .i64 re] 23 (0,0)):=by rw [hW0];exact Ar (heap_alloc_new w _) _
 have hr0:W0.heap[w.heap.size+1]?=some (.cells #[.int .i64 0,.int .i64 0,.int .i64 0,.int .i64 0,.int .i64 0] 96 (0,0)):=by rw [hW0];exact Av _ _ (by simp)
 have hk0:Keeps (λ_=>False) w W0:=by rw [hW0];(repeat (first|exact Keeps.refl _ _|exact Keeps.alloc _ _|exact Keeps.drew _|exact Keeps.drewN _ _|refine Keeps.Am ?_|refine Keeps.Ak ?_|refine Keeps.Af ?_))
 have hs0:w.heap.size+1<W0.heap.size:=lt_of_block hr0;obtain⟨Hde1,Hde2,Hde3,Hde4⟩:=hid4 hde1 hde2 hde3 hde4;clear hde4 hde3 hde2 hde1;rcases hk with rfl|rfl
 ·skip
  have hen:=fun(W:World) (hW:Keeps (λ_=>False) w W)=>Rj re true a.D v b W (hb.keeps hW (by simp));obtain⟨⟨dr,dt,dd,da2,ds⟩,hd⟩:∃d,Dw a.D re true=d:=⟨_,rfl⟩;obtain⟨z,hz⟩:∃z,Cv a.D re=z:=⟨_,rfl⟩;rw [hd,hz] at hen;simp only [Disp.val] at hen;obtain⟨H,Hb,Hen,Hc0,Hr0,Hk0,Hd,Hz,Hsep⟩:=hid9 h hb hen hc0 hr0 hk0 hd hz hsep;clear hsep hz hd hk0 hr0 hc0 hen hb h;go_enter Tryz.func135,Tryz.ntmps135;go_wp2_with fail;rw [<-hW0];clear hW0;refine(Hen.out W0 Hk0.out).mono ?_;rintro e w1 ⟨rfl,v1,hb1,hk1,hf1⟩;refine j3Y ?_;intro hAt hRl hc1 hr1 c0 cl;by_cases hz0:z=0
  ·subst hz0;obtain⟨W2,hW2⟩:∃x,x=w1.alloc (.cells #[.int .i64 dr,.int .i64 dt,.int .i64 dd,.int .i64 da2,.int .i64 ds] 132):=⟨_,rfl⟩;have hk2:Keeps (λ_=>False) w1 W2:=by rw [hW2];exact Keeps.alloc _ _
   have hx2:W2.heap[w1.heap.size]?=some (.cells #[.int .i64 dr,.int .i64 dt,.int .i64 dd,.int .i64 da2,.int .i64 ds] 132 (0,0)):=by rw [hW2];exact heap_alloc_new _ _
   have hol:=Us B x a dd W2 (hAt.keep0 hk2);have d3:=Hde3.out Hz.out trivial;have d4:=Hde4.out Hz.out trivial;rw [Hd.out] at d3 d4;simp only at d3 d4;obtain⟨o,ho⟩:∃o,a.oldB dd=o:=⟨_,rfl⟩;rw [ho] at hol d3 d4;obtain⟨Hb1,Hk1,Hf1,HAt,Hc1,Hr1,Hk2,Hx2,Hol⟩:=hid9 hb1 hk1 hf1 hAt hc1 hr1 hk2 hx2 hol;clear hol hx2 hk2 hr1 hc1 hAt hf1 hk1 hb1;obtain⟨D3,D4,Ho⟩:=hid3 d3 d4 ho;clear ho d4 d3;go_wp2_with fail;rw [<-hW2];clear hW2;refine Hol.out.mono ?_;rintro e w3 ⟨rfl,hk3⟩;have hr3:=Ad (Ad Hr1.out Hk2.out (by simp)) hk3 (by simp);have hpo:=λV=>Kv.put (V:=V) Hb.out Hk0.out Hb1.out Hk1.out Hf1.out (Hk2.out.nt hk3) (R:=w.heap.size+1) (Nat.le_succ _) hs0;have hx3:=Ad Hx2.out hk3 (by simp);have x0:=Aa hx3 0;have x1:=Aa hx3 1;have x2:=Aa hx3 2;have x3:=Aa hx3 3;have xl:=lt_of_block hx3;clear hk3;obtain⟨Hr3,Hpo,Hx3⟩:=hid3 hr3 hpo hx3;clear hx3 hpo hr3;rcases o with _|_
   ·have hend:=D4.out rfl;have Hend:=Lib.hid hend;clear hend;have hsr:=setRow_heap _ (w.heap.size+1) #[.int .i64 0,.int .i64 0,.int .i64 0,.int .i64 0,.int .i64 0] #[.int .i64 5,.int .i64 dd,.int .i64 dt,.int .i64 da2,.int .i64 dr] 96 _ Hr3.out;refine jD ?_;intro sr0 sr1 sr2 sr3 sr4;obtain⟨Hsr,Sr0,Sr1,Sr2,Sr3,Sr4⟩:=hid6 hsr sr0 sr1 sr2 sr3 sr4;clear sr4 sr3 sr2 sr1 sr0 hsr
    go_wp2_with (refine wpList_store_row rfl 96 (.tmp 6) (.tmp 44) rfl (w.heap.size+1) #[.int .i64 5,.int .i64 dd,.int .i64 dt,.int .i64 da2,.int .i64 dr] rfl rfl 96 #[.int .i64 0,.int .i64 0,.int .i64 0,.int .i64 0,.int .i64 0] Hr3.out Bl rfl (Dm _ _ _ _ _) ?_)
    refine jp ?_;intro R0' R1' R2' R3' R4';exact bodyPost_ret (v:= .tuple #[.agg #[.int .i64 5,.int .i64 dd,.int .i64 dt,.int .i64 da2,.int .i64 dr],.int .i64 0]) j0V rfl ⟨by rw [Hend.out.1,Hend.out.2],Hpo.out _⟩
   ·have hend:=D3.out rfl;have Hend:=Lib.hid hend;clear hend;have hsr:=setRow_heap _ (w.heap.size+1) #[.int .i64 0,.int .i64 0,.int .i64 0,.int .i64 0,.int .i64 0] #[.int .i64 0,.int .i64 0,.int .i64 0,.int .i64 0,.int .i64 0] 96 _ Hr3.out;refine jD ?_;intro sr0 sr1 sr2 sr3 sr4;obtain⟨Hsr,Sr0,Sr1,Sr2,Sr3,Sr4⟩:=hid6 hsr sr0 sr1 sr2 sr3 sr4;clear sr4 sr3 sr2 sr1 sr0 hsr
    go_wp2_with (refine wpList_store_row rfl 96 (.tmp 6) (.tmp 35) rfl (w.heap.size+1) #[.int .i64 0,.int .i64 0,.int .i64 0,.int .i64 0,.int .i64 0] rfl rfl 96 #[.int .i64 0,.int .i64 0,.int .i64 0,.int .i64 0,.int .i64 0] Hr3.out Bl rfl (Dm _ _ _ _ _) ?_)
    refine jp ?_;intro R0' R1' R2' R3' R4';exact bodyPost_ret (v:= .tuple #[.agg #[.int .i64 0,.int .i64 0,.int .i64 0,.int .i64 0,.int .i64 0],.int .i64 11]) j0V rfl ⟨by rw [Hend.out.1,Hend.out.2];rfl,Hpo.out _⟩
  ·exact j3Z
 ·skip
  have hen:=fun(W:World) (hW:Keeps (λ_=>False) w W)=>Rj re false a.D v b W (hb.keeps hW (by simp));obtain⟨⟨dr,dt,dd,da2,ds⟩,hd⟩:∃d,Dw a.D re false=d:=⟨_,rfl⟩;obtain⟨z,hz⟩:∃z,Cv a.D re=z:=⟨_,rfl⟩;rw [hd,hz] at hen;simp only [Disp.val] at hen;obtain⟨H,Hb,Hen,Hc0,Hr0,Hk0,Hd,Hz,Hsep⟩:=hid9 h hb hen hc0 hr0 hk0 hd hz hsep;clear hsep hz hd hk0 hr0 hc0 hen hb h;go_enter Tryz.func135,Tryz.ntmps135;go_wp2_with fail;rw [<-hW0];clear hW0;refine(Hen.out W0 Hk0.out).mono ?_;rintro e w1 ⟨rfl,v1,hb1,hk1,hf1⟩;refine j3Y ?_;intro hAt hRl hc1 hr1 c0 cl;by_cases hz0:z=0
  ·subst hz0;have hend:=Hde2.out Hz.out trivial;refine j40 ?_;intro hr2 hpo;clear hb1 hk1 hf1 hAt;obtain⟨Hc1,Hr1,Hr2,Hpo,Hend⟩:=hid5 hc1 hr1 hr2 hpo hend;clear hend hpo hr2 hr1 hc1;refine j41 ?_;intro Hsr Sr0 Sr1 Sr2 Sr3 Sr4
   go_wp2_with (refine wpList_store_row rfl 96 (.tmp 6) (.tmp 29) rfl (w.heap.size+1) #[.int .i64 0,.int .i64 0,.int .i64 0,.int .i64 0,.int .i64 0] rfl rfl 96 #[.int .i64 0,.int .i64 0,.int .i64 0,.int .i64 0,.int .i64 0] Hr2.out Bl rfl (Dm _ _ _ _ _) ?_)
   refine jp ?_;intro R0' R1' R2' R3' R4';exact bodyPost_ret (v:= .tuple #[.agg #[.int .i64 0,.int .i64 0,.int .i64 0,.int .i64 0,.int .i64 0],.int .i64 0]) j0V rfl ⟨by rw [Hend.out.1,Hend.out.2];rfl,Hpo.out _⟩
  ·exact j3Z
theorem Ac.Jt{a:Ac}{c:Cmd}{z:Int}(h:a.ee c=z)(hz:z≠0):a.evt c=ev00/\a.eD c=a.D:=
 ⟨by unfold Ac.evt;rw [h,if_pos hz],by unfold Ac.eD;rw [if_neg λe=>hz (by rw [<-h];exact e.2)]⟩
theorem Ac.Ug{a:Ac}{c:Cmd}(h:a.ee c=0):a.evt c=⟨if c.kind=7 then 6 else c.kind,if c.kind=3 then c.day else a.today,if c.kind=2 then 0 else c.tranche,c.amount,if c.kind=4 then Fs a.D c.tranche c.amount else 0⟩:=by
 unfold Ac.evt;rw [h,if_neg j7]
theorem Ac.eD_no{a:Ac}{c:Cmd}(h:c.kind≠4):a.eD c=a.D:=by unfold Ac.eD;rw [if_neg λe=>h e.1]
theorem Ac.eD_yes{a:Ac}{c:Cmd}(h:a.ee c=0)(hk:c.kind=4):a.eD c=dOpen a.D c.tranche a.today c.amount:=by unfold Ac.eD;rw [if_pos ⟨hk,h⟩]
theorem Ac.ee_tr{a:Ac}{c:Cmd}(h:¬c.kind=2)(ht:¬(1<=c.tranche/\c.tranche<=a.t.trs.length)):a.ee c=7:=by unfold Ac.ee;rw [if_pos ⟨h,ht⟩]
theorem Ac.Kz{a:Ac}{c:Cmd}(ht:c.kind=2\/(1<=c.tranche/\c.tranche<=a.t.trs.length))(h:(c.kind=7/\(c.amount<0\/10000000<c.amount))\/(¬c.kind=7/\(c.amount<1\/1000000000000000<c.amount))):a.ee c=8:=by
 unfold Ac.ee;rw [if_neg λe=>ht.elim e.1 e.2,if_pos h]
theorem Ac.ee_in{a:Ac}{c:Cmd}(ht:c.kind=2\/(1<=c.tranche/\c.tranche<=a.t.trs.length))(h:(c.kind=7/\0<=c.amount/\c.amount<=10000000)\/(¬c.kind=7/\1<=c.amount/\c.amount<=1000000000000000)):
  a.ee c=if c.kind=1 then(if a.t.limit<a.owes+c.amount then 9 else 0)
   else if c.kind=3 then(if c.day<a.t.start\/a.today<c.day then 10 else if a.oldB c.day=true then 11 else 0)
   else if c.kind=4 then(if a.s.p.bal.getD (c.tranche-1).toNat 0<c.amount then 9 else Dq a.D c.tranche c.amount) else 0:=by
 unfold Ac.ee;rw [if_neg λe=>ht.elim e.1 e.2,if_neg j6]
theorem ps_nums{p:Ps}(h:p.Bg=true):(0<=sumI p.bal/\sumI p.bal<=1000000000000000)/\(0<=p.cr/\p.cr<=1000000000000000)/\∀x∈p.bal,0<=x/\x<=1000000000000000:=by
 simp only [Ps.Bg,scanB,Br,Bool.and_eq_true,decide_eq_true_eq,List.all_eq_true] at h;exact⟨h.1.2,h.2.2.2.1,h.1.1⟩
def evtS(B C:Nat)(td am:Int)(w:World):Prop:=w.cell? ⟨B,7,none⟩=some (.int .i64 td)/\w.cell? ⟨C,3,none⟩=some (.int .i64 am)
theorem evtS.keep{B C:Nat}{td am:Int}{w w':World}(h:evtS B C td am w)(hk:Keeps (λ_=>False) w w'):evtS B C td am w':=⟨(hk.cell (Ah h.1) (by simp)).trans h.1,(hk.cell (Ah h.2) (by simp)).trans h.2⟩
def drwS(B C:Nat)(vp:Value)(cr du lim am:Int)(w:World):Prop:=w.cell? ⟨B,11,none⟩=some vp/\w.cell? ⟨B,12,none⟩=some (.int .i64 cr)/\w.cell? ⟨B,13,none⟩=some (.int .i64 du)/\w.cell? ⟨B,0,none⟩=some (.int .i64 lim)/\w.cell? ⟨C,3,none⟩=some (.int .i64 am)
theorem drwS.keep{B C:Nat}{vp:Value}{cr du lim am:Int}{w w':World}(h:drwS B C vp cr du lim am w)(hk:Keeps (λ_=>False) w w'):drwS B C vp cr du lim am w':=by
 exact j42
def rfdS(B C:Nat)(da st td:Int)(w:World):Prop:=w.cell? ⟨C,1,none⟩=some (.int .i64 da)/\w.cell? ⟨B,6,none⟩=some (.int .i64 st)/\w.cell? ⟨B,7,none⟩=some (.int .i64 td)
theorem rfdS.keep{B C:Nat}{da st td:Int}{w w':World}(h:rfdS B C da st td w)(hk:Keeps (λ_=>False) w w'):rfdS B C da st td w':=⟨(hk.cell (Ah h.1) (by simp)).trans h.1,(hk.cell (Ah h.2.1) (by simp)).trans h.2.1,(hk.cell (Ah h.2.2) (by simp)).trans h.2.2⟩
def rfcS(C:Nat)(da:Int)(w:World):Prop:=w.cell? ⟨C,1,none⟩=some (.int .i64 da)
theorem rfcS.keepS{C:Nat}{da:Int}{w w':World}{S:Nat->Prop}(h:rfcS C da w)(hk:Keeps S w w')(hS:¬S C):rfcS C da w':=(hk.cell (Ah h) hS).trans h
def opnS(B C:Nat)(am tr td:Int)(vp:Value)(g o:Nat)(y:Int)(w:World):Prop:=w.cell? ⟨C,3,none⟩=some (.int .i64 am)/\w.cell? ⟨C,2,none⟩=some (.int .i64 tr)/\w.cell? ⟨B,7,none⟩=some (.int .i64 td)/\w.cell? ⟨B,11,none⟩=some vp/\w.cell? ⟨g,o,none⟩=some (.int .i64 y)
theorem opnS.keep{B C:Nat}{am tr td:Int}{vp:Value}{g o:Nat}{y:Int}{w w':World}(h:opnS B C am tr td vp g o y w)(hk:Keeps (λ_=>False) w w'):opnS B C am tr td vp g o y w':=by
 exact j42
def opcS(B C:Nat)(am tr td:Int)(w:World):Prop:=w.cell? ⟨C,3,none⟩=some (.int .i64 am)/\w.cell? ⟨C,2,none⟩=some (.int .i64 tr)/\w.cell? ⟨B,7,none⟩=some (.int .i64 td)
theorem opcS.keepS{B C:Nat}{am tr td:Int}{w w':World}{S:Nat->Prop}(h:opcS B C am tr td w)(hk:Keeps S w w')(hB:¬S B)(hC:¬S C):opcS B C am tr td w':=⟨(hk.cell (Ah h.1) hC).trans h.1,(hk.cell (Ah h.2.1) hC).trans h.2.1,(hk.cell (Ah h.2.2) hB).trans h.2.2⟩
structure EvSt(S:Nat->Prop)(w W:World)(C R E:Nat)(c:Cmd)(x:Ev):Prop where
 c:W.heap[C]?=some (.cells #[.int .i64 c.kind,.int .i64 c.day,.int .i64 c.tranche,.int .i64 c.amount,.int .i64 c.ref] 23 (0,0))
 r:W.heap[R]?=some (.cells #[.int .i64 0,.int .i64 0,.int .i64 0,.int .i64 0,.int .i64 0] 96 (0,0))
 e:W.heap[E]?=some (.cells #[.int .i64 x.kind,.int .i64 x.day,.int .i64 x.tranche,.int .i64 x.amount,.int .i64 x.ref] 96 (0,0))
 k:Keeps S w W
 lc:w.heap.size<=C
 lr:w.heap.size<=R
 le:w.heap.size<=E
 ce:¬C=E
 re:¬R=E
theorem EvSt.keep{S:Nat->Prop}{w W W':World}{C R E:Nat}{c:Cmd}{x:Ev}(h:EvSt S w W C R E c x)(hk:Keeps (λ_=>False) W W'):EvSt S w W' C R E c x:=⟨Ad h.c hk (by simp),Ad h.r hk (by simp),Ad h.e hk (by simp),h.k.trans (hk.mono (by simp)),h.lc,h.lr,h.le,h.ce,h.re⟩
theorem EvSt.keepT{T:Nat->Prop}{w W W':World}{C R E:Nat}{c:Cmd}{x:Ev}(h:EvSt (λ_=>False) w W C R E c x)(hk:Keeps T W W')(hT:∀i,T i->i<w.heap.size):EvSt T w W' C R E c x:=⟨Ad h.c hk (λe=>by have:=hT _ e;have:=h.lc;omega),Ad h.r hk (λe=>by have:=hT _ e;have:=h.lr;omega),Ad h.e hk (λe=>by have:=hT _ e;have:=h.le;omega),(h.k.mono (by simp)).trans (hk.mono λ_ _ e=> .inl e),h.lc,h.lr,h.le,h.ce,h.re⟩
theorem EvSt.set{S:Nat->Prop}{w W W':World}{C R E:Nat}{c:Cmd}{x y:Ev}(h:EvSt S w W C R E c x)(j:Nat)(v:Value)(hW:W'=W.setCell ⟨E,j,none⟩ v)(hy:(#[.int .i64 x.kind,.int .i64 x.day,.int .i64 x.tranche,.int .i64 x.amount,.int .i64 x.ref]:Array Value).setIfInBounds j v= #[.int .i64 y.kind,.int .i64 y.day,.int .i64 y.tranche,.int .i64 y.amount,.int .i64 y.ref]):EvSt S w W' C R E c y:=by
 subst hW;have hk:Keeps (λi=>i=E) W (W.setCell ⟨E,j,none⟩ v):=(Keeps.refl _ _).setB _ _;refine⟨Ad h.c hk h.ce,Ad h.r hk h.re, ?_,h.k.trans (hk.mono λi _ e=> .inr (by have e':i=E:=e;have:=h.le;omega)),h.lc,h.lr,h.le,h.ce,h.re⟩;rw [<-hy];exact heap_setCell_same _ _ j _ _ v h.e
theorem EvSt.done{w W:World}{C R E b:Nat}{c:Cmd}{x:Ev}{v:Value}{D:List Disp}{V:Array Value}(h:EvSt (λ_=>False) w W C R E c x)(hb:Cs w b v D):Kv w b v D (W.setRow R V):=
 ⟨v,(hb.keeps h.k (by simp)).keeps (Co W R V) λk hk e=>by have e':k=R:=e;have:=hb.lt k hk;have:=h.lr;omega,(h.k.mono (by simp)).trans ((Co W R V).mono λi _ e=> .inr (by have e':i=R:=e;have:=h.lr;omega)),λk hk=> .inl hk⟩
theorem EvSt.doneB{w W W2 W1:World}{C R E b:Nat}{c:Cmd}{x:Ev}{v v':Value}{D D':List Disp}{V:Array Value}(h1:EvSt (λ_=>False) w W1 C R E c x)(hb:Cs w b v D)(hb2:Cs W2 b v' D')(hk2:Keeps (Foot b v) W1 W2)(hf2:∀k,Foot b v' k->Foot b v k\/W1.heap.size<=k)(hk:Keeps (λi=>i=E) W2 W):Kv w b v D' (W.setRow R V):=by
 have hl:=hb.lt;have hs:=h1.k.size;have hE:=lt_of_block h1.e;have hR:=lt_of_block h1.r
 have hno:∀k,Foot b v' k->¬k=E/\¬k=R:=λk hk=>by
  rcases hf2 k hk with e|e
  ·have:=hl k e;have:=h1.le;have:=h1.lr;omega
  ·omega
 refine⟨v',(hb2.keeps hk λk hk e=>(hno k hk).1 e).keeps (Co W R V) λk hk e=>(hno k hk).2 e, ?_,λk hk=>(hf2 k hk).imp id λe=>by omega⟩;refine(h1.k.mono (by simp)).trans ((hk2.mono λi _ e=> .inl e).trans ((hk.mono λi _ e=> .inl (.inr ?_)).trans ((Co W R V).mono λi _ e=> .inl (.inl (.inr ?_)))))
 ·have e':i=R:=e;have:=h1.lr;omega
 ·have e':i=E:=e;have:=h1.le;omega
end Go.Proofs.YtgbgmadkmabeeaaGreat
