/- Part 24 of what the laws of this seat share: walks of functions, and plain laws. -/
import Derived.Test.YtgbgmadkmabeeaaGreatG8
import Derived.Test.YtgbgmadkmabeeaaGreatG21
import Derived.Test.YtgbgmadkmabeeaaGreatG22
import Derived.Test.YtgbgmadkmabeeaaGreatG23
set_option maxRecDepth 100000
set_option maxHeartbeats 6400000
namespace Go.Proofs.YtgbgmadkmabeeaaGreat
open Go.RowKit
def c4S(B:Nat)(li:Int)(vt:Value)(cy du mf mp st:Int)(v0 v1:Value)(W:World):Prop:=W.cell? ⟨B,0,none⟩=some (.int .i64 li)/\W.cell? ⟨B,1,none⟩=some vt/\W.cell? ⟨B,2,none⟩=some (.int .i64 cy)/\W.cell? ⟨B,3,none⟩=some (.int .i64 du)/\W.cell? ⟨B,4,none⟩=some (.int .i64 mf)/\W.cell? ⟨B,5,none⟩=some (.int .i64 mp)/\W.cell? ⟨B,6,none⟩=some (.int .i64 st)/\W.cell? ⟨B,14,none⟩=some v0/\W.cell? ⟨B,15,none⟩=some v1
theorem c4S.keep{B:Nat}{li:Int}{vt:Value}{cy du mf mp st:Int}{v0 v1:Value}{W W':World}(h:c4S B li vt cy du mf mp st v0 v1 W)(hk:K0 W W'):c4S B li vt cy du mf mp st v0 v1 W':=by
 obtain⟨h1,h2,h3,h4,h5,h6,h7,h8,h9⟩:=h;refine j03 ?_;intro k;exact⟨k h1,k h2,k h3,k h4,k h5,k h6,k h7,k h8,k h9⟩
def c7S(B b3:Nat)(li:Int)(vt:Value)(cy du mf mp st:Int)(vo vb:Value)(pc pd:Int)(vr:Value)(fr te:Int)(W:World):Prop:=W.cell? ⟨B,0,none⟩=some (.int .i64 li)/\W.cell? ⟨B,1,none⟩=some vt/\W.cell? ⟨B,2,none⟩=some (.int .i64 cy)/\W.cell? ⟨B,3,none⟩=some (.int .i64 du)/\W.cell? ⟨B,4,none⟩=some (.int .i64 mf)/\W.cell? ⟨B,5,none⟩=some (.int .i64 mp)/\W.cell? ⟨B,6,none⟩=some (.int .i64 st)/\
 W.cell? ⟨B,16,none⟩=some vo/\W.cell? ⟨B,10,none⟩=some vb/\W.cell? ⟨B,11,none⟩=some (.int .i64 pc)/\W.cell? ⟨B,12,none⟩=some (.int .i64 pd)/\W.cell? ⟨B,13,none⟩=some vr/\W.cell? ⟨b3,0,none⟩=some (.int .i64 fr)/\W.cell? ⟨b3,1,none⟩=some (.int .i64 te)
theorem c7S.keep{B b3:Nat}{li:Int}{vt:Value}{cy du mf mp st:Int}{vo vb:Value}{pc pd:Int}{vr:Value}{fr te:Int}{W W':World}(h:c7S B b3 li vt cy du mf mp st vo vb pc pd vr fr te W)(hk:K0 W W'):c7S B b3 li vt cy du mf mp st vo vb pc pd vr fr te W':=by
 obtain⟨h1,h2,h3,h4,h5,h6,h7,h8,h9,h10,h11,h12,h13,h14⟩:=h;refine j03 ?_;intro k;exact⟨k h1,k h2,k h3,k h4,k h5,k h6,k h7,k h8,k h9,k h10,k h11,k h12,k h13,k h14⟩
def r13S(B b8:Nat)(vo:Value)(cy fr te du:Int)(vl:Value)(tt cr mi:Int)(g:Bool)(W:World):Prop:=W.cell? ⟨B,16,none⟩=some vo/\W.cell? ⟨b8,0,none⟩=some (.int .i64 cy)/\W.cell? ⟨b8,1,none⟩=some (.int .i64 fr)/\W.cell? ⟨b8,2,none⟩=some (.int .i64 te)/\W.cell? ⟨b8,3,none⟩=some (.int .i64 du)/\W.cell? ⟨b8,4,none⟩=some vl/\W.cell? ⟨b8,5,none⟩=some (.int .i64 tt)/\W.cell? ⟨b8,6,none⟩=some (.int .i64 cr)/\W.cell? ⟨b8,7,none⟩=some (.int .i64 mi)/\W.cell? ⟨b8,8,none⟩=some (.bool g)
theorem r13S.keep{B b8:Nat}{vo:Value}{cy fr te du:Int}{vl:Value}{tt cr mi:Int}{g:Bool}{W W':World}{S:Nat->Prop}(h:r13S B b8 vo cy fr te du vl tt cr mi g W)(hk:Keeps S W W')(h1:¬S B)(h2:¬S b8):r13S B b8 vo cy fr te du vl tt cr mi g W':=by
 obtain⟨c0,c1,c2,c3,c4,c5,c6,c7,c8,c9⟩:=h;have k:∀{p:Addr} {u:Value},¬S p.block->W.cell? p=some u->W'.cell? p=some u:=λhn hc=>(hk.cell (Ag hc) hn).trans hc;exact⟨k h1 c0,k h2 c1,k h2 c2,k h2 c3,k h2 c4,k h2 c5,k h2 c6,k h2 c7,k h2 c8,k h2 c9⟩
theorem r13S.of{B b8:Nat}{vo:Value}{cy fr te du:Int}{vl:Value}{tt cr mi:Int}{g:Bool}{W:World}{C:Array Value}{e:TypeId}(h:W.heap[B]?=some (.cells C e (0,0)))(hv:C[16]?=some vo)(h8:W.heap[b8]?=some (.cells #[.int .i64 cy,.int .i64 fr,.int .i64 te,.int .i64 du,vl,.int .i64 tt,.int .i64 cr,.int .i64 mi,.bool g] 60 (0,0))):r13S B b8 vo cy fr te du vl tt cr mi g W:=
 ⟨(Aa h 16).trans hv,Aa h8 0,Aa h8 1,Aa h8 2,Aa h8 3,Aa h8 4,Aa h8 5,Aa h8 6,Aa h8 7,Aa h8 8⟩
theorem Yy{w0:World}{X:Fx}{B:Nat}{t:Tm}{n:Nat}{vt:Value}{L:List Ev}{f0 f1:Value}{s:St}{vl vb vr:Value}{g0 g1:Nat}{S0 S1:List SI}{vo:Value}{P:List SV}{W:World}(h:RunV w0 X B t n vt L f0 f1 .nilFunc s vl vb vr g0 g1 S0 S1 vo P W)
  (hz:t.err=0) (hn:t.trs.length=n) (hl:L.length<=1000000) (hok:∀x∈L,x.kind=2->0<=x.amount/\x.amount<=1000000000000000) (hpr:s.p.Bj=true) (hrt:∀x∈s.R,0<=x/\x<=10000000)
  (he0:∀r∈s.e0,∀y∈r,0<=y/\y<=1000000000000000) (he1:∀r∈s.e1,∀y∈r,0<=y/\y<=10000000) (hlen:∀(k:Nat) (a b:List Int),s.e0[k]?=some a->s.e1[k]?=some b->a.length=b.length/\a.length<=40000)
  (hcy:s.out.length+1<=300) (fr te:Int) (hsp: -135140<=fr/\fr<=te/\te<=2932896) (C:Option St) (hC:Fe t L n s fr te=C):
  Calls Tryz.prog 184 #[(.pointer (some ⟨B,0,none⟩)),.agg #[.int .i64 fr,.int .i64 te]] W λe W'=>match C with
   |none=>e= .returned (.int .i64 5)/\RunV w0 X B t n vt L f0 f1 .nilFunc s vl vb vr g0 g1 S0 S1 vo P W'
   |some s'=>e= .returned (.int .i64 0)/\∃vb' g0' g1' vo' P',RunV w0 X B t n vt L f0 f1 .nilFunc s' vl vb' vr g0' g1' (List.replicate n si0) (List.replicate n si0) vo' P' W':=by
 obtain⟨i0,hi,hi0,hi1,hi2⟩:=info_parts Na;have hnum:=Fp hz;rw [hn] at hnum;obtain⟨⟨l0,l1⟩,_⟩:=hnum;obtain⟨adT,cT,rfl⟩:∃a c,vt= .slice a n c:=by obtain⟨a,c,h,_⟩:=h.trs;exact⟨a,c,h⟩
 obtain⟨ab,cb,rfl⟩:∃a c,vb= .slice a n c:=by obtain⟨a,c,h,_⟩:=Ae h.bal;exact⟨a,c,h⟩
 obtain⟨ar,cr,rfl⟩:∃a c,vr= .slice a n c:=by obtain⟨a,c,h,_⟩:=Ae h.rts;exact⟨a,c,h⟩
 obtain⟨m,hmm⟩:=eX P.length;obtain⟨av,cv,rfl⟩:∃a c,vo= .slice a m c:=by obtain⟨a,c,h,_⟩:=Ae h.out;rw [hmm] at h;exact⟨a,c,h⟩
 have hpo:s.out.length=m:=by rw [<-h.lp,List.length_map];exact hmm
 have hm1:m+1<=300:=by rw [<-hpo];exact hcy
 obtain⟨fb,hfb⟩:=eX (freeB s.out fr L);have hfree:=fun(W':World) (hW:K0 W W')=>Aax (h.keep0 hW) hl j6 hok fr te;rw [hfb] at hfree;obtain⟨O,hO⟩:=eX (intrO fb t.trs s.e0 s.e1)
 have hint:=fun(W':World) (hW:K0 W W')=>Te t (.slice adT n cT) S0 S1 (some ⟨g0,0,none⟩) (some ⟨g1,0,none⟩) n n n fb W' hz hn (h.keep0 hW).trs (Aat (h.keep0 hW).o0 h.n0) h.n0
  (λx hx=>⟨Reads.Bb ((h.keep0 hW).i0 x hx),by
   obtain⟨k,hk⟩:=List.getElem?_of_mem hx;obtain⟨y,hy⟩:=Au (L:=S1) (k:=k) (by rw [h.n1,<-h.n0];exact Dl hk);have:=hlen k x.L y.L (by rw [<-h.l0,List.getElem?_map,hk];rfl) (by rw [<-h.l1,List.getElem?_map,hy];rfl)
   unfold maxLen;omega⟩)
  (Aat (h.keep0 hW).o1 h.n1) h.n1
  (λy hy=>⟨Reads.Bb ((h.keep0 hW).i1 y hy),by
   obtain⟨k,hk⟩:=List.getElem?_of_mem hy;obtain⟨x,hx⟩:=Au (L:=S0) (k:=k) (by rw [h.n0,<-h.n1];exact Dl hk);have:=hlen k x.L y.L (by rw [<-h.l0,List.getElem?_map,hx];rfl) (by rw [<-h.l1,List.getElem?_map,hk];rfl)
   unfold maxLen;omega⟩)
  (λk x y hx hy=>hlen k x.L y.L (by rw [<-h.l0,List.getElem?_map,hx];rfl) (by rw [<-h.l1,List.getElem?_map,hy];rfl))
  (λx hx=>he0 x.L (by rw [<-h.l0];exact List.mem_map_of_mem hx)) (λx hx=>he1 x.L (by rw [<-h.l1];exact List.mem_map_of_mem hx))
 rw [h.l0,h.l1,hO] at hint;unfold Fe at hC;rw [hfb,hO] at hC;have ka:K0 W (W.alloc (.cells #[.int .i64 fr,.int .i64 te] 57)):=Keeps.alloc _ _;have hA:=h.keep0 ka;have hb3:=heap_alloc_new W (.cells #[.int .i64 fr,.int .i64 te] 57);have s0:=Aa hb3 0;have s1:=Aa hb3 1;have b16:=Aa h.blk 16;rcases O with _|V
 ·simp only at hC;subst hC;obtain⟨Hi,Hi0,Hi1,Hi2,H,Hz,Hn,Hok,Hpr⟩:=hid9 hi hi0 hi1 hi2 h hz hn hok hpr;clear hpr hok hn hz h hi2 hi1 hi0 hi;obtain⟨Hrt,He0,He1,Hlen,Hmm,Hpo,Hfb,Hfree,HO⟩:=hid9 hrt he0 he1 hlen hmm hpo hfb hfree hO;clear hO hfree hfb hpo hmm hlen he1 he0 hrt;obtain⟨Hint,Ka,HA,Hb3⟩:=hid4 hint ka hA hb3;clear hb3 hA ka hint;clear s0 s1 b16;go_enter Tryz.func184,Tryz.ntmps184;go_wp2_with fail;refine(Hfree.o _ Ka.o).mono ?_;rintro e w2 ⟨rfl,hk2⟩;have hk2w:=Ka.o.nt hk2;have hr2:=H.o.keep0 hk2w;refine j3X ?_;intro hS4;obtain⟨Hk2,Hk2w,Hr2,HS4⟩:=hid4 hk2 hk2w hr2 hS4;clear hS4 hr2 hk2w hk2;go_wp2_with fail;refine Ak (c4S B t.limit (.slice adT n cT) t.cyc t.due t.minFixed t.minPart t.start (.slice (some ⟨g0,0,none⟩) n n) (.slice (some ⟨g1,0,none⟩) n n)) (.take 0 (.take 1 (.take 2 (.take 3 (.take 4 (.take 5 (.take 6 (.take 7 (.take 8 (.take 9 (.take 10 (.take 11 (.take 12 (.take 13 (.take 14 (.move 15 (.take 16 (.take 17 (.take 18 (.take 19 (.take 20 .done))))))))))))))))))))) j9 j9 ?_ ?_
  ·exact HS4.o
  intro w3 hs3 hk3;refine je ?_;intro K hK
  go_at_call 220
  ((with_reducible refine(Hint.o _ (Hk2w.o.nt hk3)).mono ?_);rintro e w4 ⟨rfl,hk4⟩;dsimp only)
  refine jZ ?_;clear hK K;refine jm ?_;have hr4:=(Hr2.o.keep0 hk3).keep0 hk4;clear hs3;obtain⟨Hr4,Hk3,Hk4⟩:=hid3 hr4 hk3 hk4;clear hk4 hk3 hr4;go_wp2;go_ret;exact⟨rfl,Hr4.o⟩
 ·simp only at hC;obtain⟨hVl,hVb⟩:=Uu hn (by rw [<-h.l0,List.length_map];exact h.n0) (by rw [<-h.l1,List.length_map];exact h.n1) he0 he1 hO;rw [hpo] at hC;obtain⟨D,hD⟩:=eX (Mk t ((m:Int)+1) fr te s.p s.R V fb);rw [hD] at hC;obtain⟨⟨x,q,z⟩,hcv⟩:=eX (Es D);obtain⟨Hi,Hi0,Hi1,Hi2,H,Hz,Hn,Hok,Hpr⟩:=hid9 hi hi0 hi1 hi2 h hz hn hok hpr;clear hpr hok hn hz h hi2 hi1 hi0 hi;obtain⟨Hrt,He0,He1,Hlen,Hmm,Hpo,Hfb,Hfree,HO⟩:=hid9 hrt he0 he1 hlen hmm hpo hfb hfree hO;clear hO hfree hfb hpo hmm hlen he1 he0 hrt;obtain⟨Hint,Ka,HA,Hb3,HVl,HVb,HD,Hcv,HC⟩:=hid9 hint ka hA hb3 hVl hVb hD hcv hC;clear hC hcv hD hVb hVl hb3 hA ka hint;clear s0 s1 b16;go_enter Tryz.func184,Tryz.ntmps184;go_wp2_with fail;refine(Hfree.o _ Ka.o).mono ?_;rintro e w2 ⟨rfl,hk2⟩;have hk2w:=Ka.o.nt hk2;have hr2:=H.o.keep0 hk2w;have hb32:=Ad Hb3.o hk2 (by simp);refine j3X ?_;intro hS4;obtain⟨Hk2,Hk2w,Hr2,HS4,Hb32⟩:=hid5 hk2 hk2w hr2 hS4 hb32;clear hb32 hS4 hr2 hk2w hk2;go_wp2_with fail;refine Ak (c4S B t.limit (.slice adT n cT) t.cyc t.due t.minFixed t.minPart t.start (.slice (some ⟨g0,0,none⟩) n n) (.slice (some ⟨g1,0,none⟩) n n)) (.take 0 (.take 1 (.take 2 (.take 3 (.take 4 (.take 5 (.take 6 (.take 7 (.take 8 (.take 9 (.take 10 (.take 11 (.take 12 (.take 13 (.take 14 (.move 15 (.take 16 (.take 17 (.take 18 (.take 19 (.take 20 .done))))))))))))))))))))) j9 j9 ?_ ?_
  ·exact HS4.o
  intro w3 hs3 hk3;refine je ?_;intro K hK
  go_at_call 220
  ((with_reducible refine(Hint.o _ (Hk2w.o.nt hk3)).mono ?_);rintro e w4 ⟨gV,rfl,hrV,hk4,hgV⟩;dsimp only)
  refine jZ ?_;clear hK K;refine jm ?_;have hk4w:=(Hk2w.o.nt hk3).nt hk4;have hr4:=H.o.keep0 hk4w;have hb34:=Ad (Ad Hb32.o hk3 (by simp)) hk4 (by simp);have hS7:=(show c7S B W.heap.size t.limit (.slice adT n cT) t.cyc t.due t.minFixed t.minPart t.start (.slice av m cv) (.slice ab n cb) s.p.cr s.p.du (.slice ar n cr) fr te w4 from⟨Aa hr4.blk 0,Aa hr4.blk 1,Aa hr4.blk 2,Aa hr4.blk 3,Aa hr4.blk 4,Aa hr4.blk 5,Aa hr4.blk 6,Aa hr4.blk 16,Aa hr4.blk 10,Aa hr4.blk 11,Aa hr4.blk 12,Aa hr4.blk 13,Aa hb34 0,Aa hb34 1⟩).keep (Keeps.drew _);have hclo:=fun(W':World) (hW:K0 w4 W')=>Aa5 t (.slice adT n cT) ((m:Int)+1) fr te s.p.bal V s.R s.p.cr s.p.du ab (some ⟨gV,0,none⟩) ar cb n cr n fb W' Hz.o Hn.o (hr4.keep0 hW).trs j6 hsp (Reads.Bb (hr4.keep0 hW).bal) H.o.nb (hrV.keep hW).reads HVl.o (Reads.Bb (hr4.keep0 hW).rts) H.o.nr Hpr.o (List.all_eq_true.2 λy hy=>(Bo y).2 (HVb.o y hy)) Hrt.o;rw [HD.o] at hclo;have hq1:IntKind.i64.wrap ((m:Int)+1)=(m:Int)+1:=IntWalk.i64_in _ ⟨by omega,by omega⟩;clear hs3;obtain⟨Hk3,Hk4,Hk4w,Hr4,Hb34,HS7,Hclo,HrV,HgV⟩:=hid9 hk3 hk4 hk4w hr4 hb34 hS7 hclo hrV hgV;clear hgV hrV hclo hS7 hb34 hr4 hk4w hk4 hk3;go_wp2_with fail;refine Ak (c7S B W.heap.size t.limit (.slice adT n cT) t.cyc t.due t.minFixed t.minPart t.start (.slice av m cv) (.slice ab n cb) s.p.cr s.p.du (.slice ar n cr) fr te) (.take 0 (.take 1 (.take 2 (.take 3 (.take 4 (.take 5 (.take 6 (.take 7 (.take 8 (.take 9 (.take 10 (.take 11 (.take 12 (.take 13 (.take 14 (.take 15 (.take 16 (.take 17 (.take 18 (.take 19 (.take 20 (.fork3 21 (.take 22 (.take 23 (.take 24 (.take 25 (.fork 26 (.move 27 (.move 28 (.move 29 (.take 30 .done)))) 27 (.move 26 (.move 28 (.move 29 (.take 30 .done))))))))) 26 (.fork 21 (.take 22 (.take 23 (.take 24 (.take 25 (.move 27 (.move 28 (.move 29 (.take 30 .done)))))))) 27 (.move 21 (.take 22 (.take 23 (.take 24 (.take 25 (.move 28 (.move 29 (.take 30 .done))))))))) 27 (.fork 21 (.take 22 (.take 23 (.take 24 (.take 25 (.move 26 (.move 28 (.move 29 (.take 30 .done)))))))) 26 (.move 21 (.take 22 (.take 23 (.take 24 (.take 25 (.move 28 (.move 29 (.take 30 .done))))))))))))))))))))))))))))))) j9 j9 ?_ ?_
  ·exact HS7.o
  intro w7 hs7 hk7;have Hk7:=Lib.hid hk7;clear hk7;refine jR ?_;refine mix_fork3 ?_ ?_ ?_ hs7
  ·skip
   refine ja ?_;intro K hK
   go_at_call 221
   ((with_reducible refine(Hclo.o _ (Hk7.o.nt jM)).mono ?_);rintro e w5 hpost)
   obtain⟨al,cl2,ab2,cb2,rfl,hln,hbn2,hk5,hol,hob⟩:=Fj.uni hpost Hcv.o;clear hpost;dsimp only;refine hK.out _ _ (by exact hs7.keep j1K) ?_;clear hK K;refine jh ?_;refine Dk ?_ ?_ (hs7.keep j1K)
   ·skip
    refine j3Y ?_;refine ja ?_;intro K hK;refine hK.out _ _ (by exact hs7.keep (Keeps.nt j3Z (Keeps.alloc _ _))) ?_;clear hK K;refine jc ?_;obtain⟨wE,hwE⟩:=eY (((w5).alloc (.cells #[.int .i64 0,.int .i64 0,.int .i64 0,.int .i64 0,.slice none 0 0,.int .i64 0,.int .i64 0,.int .i64 0,.bool false] 60)).alloc (.cells #[.slice none 0 0,.int .i64 0,.int .i64 0] 52));have k7E:K0 w7 wE:=by rw [hwE];exact(Keeps.nt j3Z j40)
    have hb8:wE.heap[w5.heap.size]?=some (.cells #[.int .i64 0,.int .i64 0,.int .i64 0,.int .i64 0,.slice none 0 0,.int .i64 0,.int .i64 0,.int .i64 0,.bool false] 60 (0,0)):=by rw [hwE];exact Aq (heap_alloc_new (w5) _) _
    have hb9:wE.heap[w5.heap.size+1]?=some (.cells #[.slice none 0 0,.int .i64 0,.int .i64 0] 52 (0,0)):=by rw [hwE];exact Av _ _ (by simp)
    have k5E:K0 w5 wE:=by rw [hwE];exact(Keeps.nt (Keeps.nt j0P j1L) j40)
    refine j04 ?_;intro hlnE hbnE hs5
    try simp at hs5
    have holE:∀b,(Value.slice al x.lines.length cl2).ownBlock=some b->w7.heap.size<=b:=λb hb=>by have h1:=hol b hb;have h2:=((Keeps.refl (λ_=>False) w7)).size;omega
    have hobE:∀b,(Value.slice ab2 q.bal.length cb2).ownBlock=some b->w7.heap.size<=b:=λb hb=>by have h1:=hob b hb;have h2:=((Keeps.refl (λ_=>False) w7)).size;omega
    rw [<-hwE];obtain⟨b8,hb8e⟩:=eY w5.heap.size;obtain⟨b9,hb9e⟩:=eY (w5.heap.size+1);exact j41
   ·skip
    refine j3Y ?_;refine ja ?_;intro K hK;refine hK.out _ _ (by exact hs7.keep (Keeps.nt j42 (Keeps.alloc _ _))) ?_;clear hK K;refine jc ?_;obtain⟨wE,hwE⟩:=eY (((w5).alloc (.cells #[.slice none 0 0,.int .i64 0,.int .i64 0] 52)).alloc (.cells #[.int .i64 0,.int .i64 0,.int .i64 0,.int .i64 0,.slice none 0 0,.int .i64 0,.int .i64 0,.int .i64 0,.bool false] 60));have k7E:K0 w7 wE:=by rw [hwE];exact(Keeps.nt j42 j43)
    have hb8:wE.heap[w5.heap.size+1]?=some (.cells #[.int .i64 0,.int .i64 0,.int .i64 0,.int .i64 0,.slice none 0 0,.int .i64 0,.int .i64 0,.int .i64 0,.bool false] 60 (0,0)):=by rw [hwE];exact Av _ _ (by simp)
    have hb9:wE.heap[w5.heap.size]?=some (.cells #[.slice none 0 0,.int .i64 0,.int .i64 0] 52 (0,0)):=by rw [hwE];exact Aq (heap_alloc_new (w5) _) _
    have k5E:K0 w5 wE:=by rw [hwE];exact(Keeps.nt (Keeps.nt j0P j1M) j43)
    refine j04 ?_;intro hlnE hbnE hs5
    try simp at hs5
    have holE:∀b,(Value.slice al x.lines.length cl2).ownBlock=some b->w7.heap.size<=b:=λb hb=>by have h1:=hol b hb;have h2:=((Keeps.refl (λ_=>False) w7)).size;omega
    have hobE:∀b,(Value.slice ab2 q.bal.length cb2).ownBlock=some b->w7.heap.size<=b:=λb hb=>by have h1:=hob b hb;have h2:=((Keeps.refl (λ_=>False) w7)).size;omega
    rw [<-hwE];obtain⟨b8,hb8e⟩:=eY (w5.heap.size+1);obtain⟨b9,hb9e⟩:=eY w5.heap.size;exact j0Q
  ·skip
   refine j44 ?_;refine Dk ?_ ?_ (hs7.keep (Keeps.nt jM (Keeps.alloc _ _)))
   ·skip
    refine ja ?_;intro K hK
    go_at_call 221
    ((with_reducible refine(Hclo.o _ (Hk7.o.nt j0R)).mono ?_);rintro e w5 hpost)
    obtain⟨al,cl2,ab2,cb2,rfl,hln,hbn2,hk5,hol,hob⟩:=Fj.uni hpost Hcv.o;clear hpost;dsimp only;refine hK.out _ _ (by exact hs7.keep j1N) ?_;clear hK K;refine jh ?_;refine ja ?_;intro K hK;refine hK.out _ _ (by exact hs7.keep (Keeps.nt j1N (Keeps.alloc _ _))) ?_;clear hK K;refine jc ?_;obtain⟨wE,hwE⟩:=eY ((w5).alloc (.cells #[.slice none 0 0,.int .i64 0,.int .i64 0] 52));have k7E:K0 w7 wE:=by rw [hwE];exact(Keeps.nt j1N j1M)
    have hb8:wE.heap[w7.heap.size]?=some (.cells #[.int .i64 0,.int .i64 0,.int .i64 0,.int .i64 0,.slice none 0 0,.int .i64 0,.int .i64 0,.int .i64 0,.bool false] 60 (0,0)):=by rw [hwE];exact Aq (Ad (heap_alloc_new (w7) _) hk5 (by simp)) _
    have hb9:wE.heap[w5.heap.size]?=some (.cells #[.slice none 0 0,.int .i64 0,.int .i64 0] 52 (0,0)):=by rw [hwE];exact heap_alloc_new (w5) _
    have k5E:K0 w5 wE:=by rw [hwE];exact(Keeps.nt j0P j1M)
    refine j04 ?_;intro hlnE hbnE hs5
    try simp at hs5
    have holE:∀b,(Value.slice al x.lines.length cl2).ownBlock=some b->w7.heap.size<=b:=λb hb=>by have h1:=hol b hb;have h2:=((Keeps.nt jM j45)).size;omega
    have hobE:∀b,(Value.slice ab2 q.bal.length cb2).ownBlock=some b->w7.heap.size<=b:=λb hb=>by have h1:=hob b hb;have h2:=((Keeps.nt jM j45)).size;omega
    rw [<-hwE];obtain⟨b8,hb8e⟩:=eY w7.heap.size;obtain⟨b9,hb9e⟩:=eY w5.heap.size;exact j0Q
   ·skip
    refine ja ?_;intro K hK;refine hK.out _ _ (by exact hs7.keep (Keeps.nt j0R (Keeps.alloc _ _))) ?_;clear hK K;refine jc ?_;refine ja ?_;intro K hK
    go_at_call 221
    ((with_reducible refine(Hclo.o _ (Hk7.o.nt j1O)).mono ?_);rintro e w5 hpost)
    obtain⟨al,cl2,ab2,cb2,rfl,hln,hbn2,hk5,hol,hob⟩:=Fj.uni hpost Hcv.o;clear hpost;dsimp only;refine hK.out _ _ (by exact hs7.keep (Keeps.nt j1O hk5)) ?_;clear hK K;refine jh ?_;obtain⟨wE,hwE⟩:=eY w5;have k7E:K0 w7 wE:=by rw [hwE];exact(Keeps.nt j1O hk5)
    have hb8:wE.heap[w7.heap.size]?=some (.cells #[.int .i64 0,.int .i64 0,.int .i64 0,.int .i64 0,.slice none 0 0,.int .i64 0,.int .i64 0,.int .i64 0,.bool false] 60 (0,0)):=by rw [hwE];exact Ad (Aq (heap_alloc_new (w7) _) _) hk5 (by simp)
    have hb9:wE.heap[w7.heap.size+1]?=some (.cells #[.slice none 0 0,.int .i64 0,.int .i64 0] 52 (0,0)):=by rw [hwE];exact Ad (Av _ _ (by simp)) hk5 (by simp)
    have k5E:K0 w5 wE:=by rw [hwE];exact(Keeps.refl (λ_=>False) w5)
    refine j04 ?_;intro hlnE hbnE hs5
    try simp at hs5
    have holE:∀b,(Value.slice al x.lines.length cl2).ownBlock=some b->w7.heap.size<=b:=λb hb=>by have h1:=hol b hb;have h2:=((Keeps.nt j0R j46)).size;omega
    have hobE:∀b,(Value.slice ab2 q.bal.length cb2).ownBlock=some b->w7.heap.size<=b:=λb hb=>by have h1:=hob b hb;have h2:=((Keeps.nt j0R j46)).size;omega
    rw [<-hwE];obtain⟨b8,hb8e⟩:=eY w7.heap.size;obtain⟨b9,hb9e⟩:=eY (w7.heap.size+1);exact j41
  ·skip
   refine j44 ?_;refine Dk ?_ ?_ (hs7.keep (Keeps.nt jM (Keeps.alloc _ _)))
   ·skip
    refine ja ?_;intro K hK
    go_at_call 221
    ((with_reducible refine(Hclo.o _ (Hk7.o.nt j0S)).mono ?_);rintro e w5 hpost)
    obtain⟨al,cl2,ab2,cb2,rfl,hln,hbn2,hk5,hol,hob⟩:=Fj.uni hpost Hcv.o;clear hpost;dsimp only;refine hK.out _ _ (by exact hs7.keep j1P) ?_;clear hK K;refine jh ?_;refine ja ?_;intro K hK;refine hK.out _ _ (by exact hs7.keep (Keeps.nt j1P (Keeps.alloc _ _))) ?_;clear hK K;refine jc ?_;obtain⟨wE,hwE⟩:=eY ((w5).alloc (.cells #[.int .i64 0,.int .i64 0,.int .i64 0,.int .i64 0,.slice none 0 0,.int .i64 0,.int .i64 0,.int .i64 0,.bool false] 60));have k7E:K0 w7 wE:=by rw [hwE];exact(Keeps.nt j1P j1L)
    have hb8:wE.heap[w5.heap.size]?=some (.cells #[.int .i64 0,.int .i64 0,.int .i64 0,.int .i64 0,.slice none 0 0,.int .i64 0,.int .i64 0,.int .i64 0,.bool false] 60 (0,0)):=by rw [hwE];exact heap_alloc_new (w5) _
    have hb9:wE.heap[w7.heap.size]?=some (.cells #[.slice none 0 0,.int .i64 0,.int .i64 0] 52 (0,0)):=by rw [hwE];exact Aq (Ad (heap_alloc_new (w7) _) hk5 (by simp)) _
    have k5E:K0 w5 wE:=by rw [hwE];exact(Keeps.nt j0P j1L)
    refine j04 ?_;intro hlnE hbnE hs5
    try simp at hs5
    have holE:∀b,(Value.slice al x.lines.length cl2).ownBlock=some b->w7.heap.size<=b:=λb hb=>by have h1:=hol b hb;have h2:=((Keeps.nt jM j47)).size;omega
    have hobE:∀b,(Value.slice ab2 q.bal.length cb2).ownBlock=some b->w7.heap.size<=b:=λb hb=>by have h1:=hob b hb;have h2:=((Keeps.nt jM j47)).size;omega
    rw [<-hwE];obtain⟨b8,hb8e⟩:=eY w5.heap.size;obtain⟨b9,hb9e⟩:=eY w7.heap.size;exact j0Q
   ·skip
    refine ja ?_;intro K hK;refine hK.out _ _ (by exact hs7.keep (Keeps.nt j0S (Keeps.alloc _ _))) ?_;clear hK K;refine jc ?_;refine ja ?_;intro K hK
    go_at_call 221
    ((with_reducible refine(Hclo.o _ (Hk7.o.nt j1Q)).mono ?_);rintro e w5 hpost)
    obtain⟨al,cl2,ab2,cb2,rfl,hln,hbn2,hk5,hol,hob⟩:=Fj.uni hpost Hcv.o;clear hpost;dsimp only;refine hK.out _ _ (by exact hs7.keep (Keeps.nt j1Q hk5)) ?_;clear hK K;refine jh ?_;obtain⟨wE,hwE⟩:=eY w5;have k7E:K0 w7 wE:=by rw [hwE];exact(Keeps.nt j1Q hk5)
    have hb8:wE.heap[w7.heap.size+1]?=some (.cells #[.int .i64 0,.int .i64 0,.int .i64 0,.int .i64 0,.slice none 0 0,.int .i64 0,.int .i64 0,.int .i64 0,.bool false] 60 (0,0)):=by rw [hwE];exact Ad (Av _ _ (by simp)) hk5 (by simp)
    have hb9:wE.heap[w7.heap.size]?=some (.cells #[.slice none 0 0,.int .i64 0,.int .i64 0] 52 (0,0)):=by rw [hwE];exact Ad (Aq (heap_alloc_new (w7) _) _) hk5 (by simp)
    have k5E:K0 w5 wE:=by rw [hwE];exact(Keeps.refl (λ_=>False) w5)
    refine j04 ?_;intro hlnE hbnE hs5
    try simp at hs5
    have holE:∀b,(Value.slice al x.lines.length cl2).ownBlock=some b->w7.heap.size<=b:=λb hb=>by have h1:=hol b hb;have h2:=((Keeps.nt j0S j48)).size;omega
    have hobE:∀b,(Value.slice ab2 q.bal.length cb2).ownBlock=some b->w7.heap.size<=b:=λb hb=>by have h1:=hob b hb;have h2:=((Keeps.nt j0S j48)).size;omega
    rw [<-hwE];obtain⟨b8,hb8e⟩:=eY (w7.heap.size+1);obtain⟨b9,hb9e⟩:=eY w7.heap.size;exact j0Q
structure Rk(fr te:Int):Prop where
 lo: -135140<=fr
 le:fr<=te
 hi:te<=2932896
 sh:te<=fr+31
inductive SpanC (day:Int):Int->List (Int×Int)->Prop
 |last {fr te:Int}:Rk fr te->fr<=day->day<=te->SpanC day fr [(fr,te)]
 |more {fr te:Int} {S:List (Int×Int)}:Rk fr te->te<day->SpanC day (te+1) S->SpanC day fr ((fr,te)::S)
theorem SpanC.head{day fr:Int}{S:List (Int×Int)}(h:SpanC day fr S):∃te S',S=(fr,te)::S'/\Rk fr te/\fr<=day/\(te<day->SpanC day (te+1) S'):=by
 cases h with
 |last h1 h2 h3=>exact⟨_,_,rfl,h1,h2,λh=>by omega⟩
 |more h1 h2 h3=>exact⟨_,_,rfl,h1,by have:=h1.le;omega,λ_=>h3⟩
theorem Kv(cd day:Int):∀(f:Nat) (fr:Int),(findW cd day f fr).2=true->SpanC day fr (findW cd day f fr).1/\(findW cd day f fr).1.length<=f:=by
 intro f
 induction f with
 |zero=>intro fr h;cases h
 |succ f ih=>
  intro fr h;unfold findW at h⊢
  split at h
  ·rename_i hl;rw [if_pos hl];have hl2:=hl;unfold lastE at hl2
   split at hl2
   ·cases hl2
   ·rename_i hc
    split at hl2
    ·cases hl2
    ·rename_i hf
     split at hl2
     ·cases hl2
     ·rename_i ht;have hf': -135140<=fr/\fr<=2932896:=j8;have hge:=Abl (fr:=fr) (cd:=cd) hf'.1 hf'.2 j6 j6;have hok:Rk fr (lastF fr cd):=⟨hf'.1,hge.1,by omega,hge.2⟩
      split at h
      ·rename_i hd;rw [if_pos hd];obtain⟨h1,h2⟩:=ih _ h;exact⟨.more hok hd.1 h1,by simp only [List.length_cons];omega⟩
      ·rename_i hd;rw [if_neg hd];simp only [Bool.and_eq_true,decide_eq_true_eq] at h;exact⟨.last hok h.1 h.2,by simp⟩
  ·cases h
theorem evErr_amt{t:Tm}{e:Ev}(h:evErr t e=0):e.kind=2->0<=e.amount/\e.amount<=1000000000000000:=by
 intro hk;unfold evErr at h
 split at h
 ·cases h
 ·split at h
  ·cases h
  ·split at h
   ·cases h
   ·split at h
    ·cases h
    ·rename_i ha
     constructor<;>omega
structure RepOk(t:Tm)(L:List Ev)(td:Int):Prop where
 tm:t.err=0
 ev:∀x∈L,evErr t x=0
 ln:L.length<=2000
 d0:t.start<=td
 d1:td<=2932896
 fd:(findW t.cyc td 300 t.start).2=true
 lt:∀x∈L,x.day<=td
theorem Ed{t:Tm}{L:List Ev}{td:Int}(h:Dp t L td=0):RepOk t L td:=by
 unfold Dp at h
 split at h
 ·rename_i h1
  split at h
  ·rename_i h2
   split at h
   ·cases h
   ·rename_i h3
    split at h
    ·cases h
    ·rename_i h4
     split at h
     ·cases h
     ·rename_i h5
      split at h
      ·cases h
      ·rename_i h6;have h5':ofE t.start t.cyc td=0:=j8;refine⟨h1,Yd h2,by omega,by omega,by omega, ?_,λx hx=> ?_⟩
       ·unfold ofE at h5'
        split at h5'
        ·split at h5'
         ·assumption
         ·cases h5'
        ·rename_i hh;exact absurd h5' hh
       ·rcases hb:lateQ td x with _|_
        ·simp [lateQ] at hb;exact hb
        ·exact absurd (List.any_eq_true.2 ⟨x,hx,hb⟩) h6
  ·rename_i h2;exact absurd h h2
 ·cases h
structure StOk(n:Nat)(s:St)(len:Nat):Prop where
 pr:s.p.Bj=true
 nb:s.p.bal.length=n
 nr:s.R.length=n
 rt:∀x∈s.R,0<=x/\x<=10000000
 n0:s.e0.length=n
 n1:s.e1.length=n
 m0:∀r∈s.e0,r.length=len/\∀y∈r,0<=y/\y<=1000000000000000
 m1:∀r∈s.e1,r.length=len/\∀y∈r,0<=y/\y<=10000000
theorem evR_ok(day:Int):∀(M:List Ev) (i:Nat) (p:Ps) (R:List Int),p.Bj=true->(∀x∈R,0<=x/\x<=10000000)->(evR day M i p R).2.2.2=0->
  (evR day M i p R).2.1.Bj=true/\(evR day M i p R).2.1.bal.length=p.bal.length/\(evR day M i p R).2.2.1.length=R.length/\(∀x∈(evR day M i p R).2.2.1,0<=x/\x<=10000000)/\i<=(evR day M i p R).1/\(evR day M i p R).1<=i+M.length:=by
 intro M
 induction M with
 |nil=>intro i p R hp hR _;exact⟨hp,rfl,rfl,hR,Nat.le_refl _,Nat.le_refl _⟩
 |cons e M ih=>
  intro i p R hp hR h;unfold evR at h⊢
  split at h
  ·rename_i hd;rw [if_pos hd]
   split at h
   ·rename_i h0;rw [if_pos h0];obtain⟨a1,a2,a3,a4⟩:=Yn h0;obtain⟨b1,b2,b3,b4,b5,b6⟩:=ih _ _ _ a3 a4 h;exact⟨b1,b2.trans a1,b3.trans a2,b4,by omega,by simp only [List.length_cons];omega⟩
   ·rename_i h0;exact absurd h h0
  ·rename_i hd;rw [if_neg hd];exact⟨hp,rfl,rfl,hR,Nat.le_refl _,by omega⟩
theorem StOk.ev{n len:Nat}{s:St}(h:StOk n s len){M:List Ev}(hz:(evR s.day M s.i s.p s.R).2.2.2=0):StOk n (evSt s (evR s.day M s.i s.p s.R)) len:=by
 obtain⟨b1,b2,b3,b4,_,_⟩:=evR_ok s.day M s.i s.p s.R h.pr h.rt hz;exact⟨b1,b2.trans h.nb,b3.trans h.nr,b4,h.n0,h.n1,h.m0,h.m1⟩
theorem ext_mem{E:List (List Int)}{V:List Int}{r:List Int}(h:r∈List.zipWith (λr v=>r++ [v]) E V):∃a∈E,∃v∈V,r=a++ [v]:=by
 obtain⟨k,hk⟩:=List.getElem?_of_mem h;rw [List.getElem?_zipWith] at hk;rcases h1:E[k]? with _|a
 ·rw [h1] at hk;simp at hk
 ·rcases h2:V[k]? with _|v
  ·rw [h1,h2] at hk;simp at hk
  ·rw [h1,h2] at hk;simp only [Option.some.injEq] at hk;exact⟨a,List.mem_of_getElem? h1,v,List.mem_of_getElem? h2,hk.symm⟩
theorem StOk.fin{n len:Nat}{s:St}(h:StOk n s len):StOk n (endSt s n n) (len+1):=by
 have e0:extL s.e0 s.p.bal n=List.zipWith (λr v=>r++ [v]) s.e0 s.p.bal:=Yc h.nb h.n0;have e1:extL s.e1 s.R n=List.zipWith (λr v=>r++ [v]) s.e1 s.R:=Yc h.nr h.n1;obtain⟨hb,_⟩:=Fb h.pr;refine⟨h.pr,h.nb,h.nr,h.rt, ?_, ?_, ?_, ?_⟩
 ·show(extL s.e0 s.p.bal n).length=n;rw [e0,List.length_zipWith,h.n0,h.nb];omega
 ·show(extL s.e1 s.R n).length=n;rw [e1,List.length_zipWith,h.n1,h.nr];omega
 ·intro r hr;have hr':r∈extL s.e0 s.p.bal n:=hr;rw [e0] at hr';obtain⟨a,ha,v,hv,rfl⟩:=ext_mem hr';obtain⟨h1,h2⟩:=h.m0 a ha;refine⟨by rw [List.length_append,h1];rfl,λy hy=> ?_⟩;rcases List.mem_append.1 hy with hy|hy
  ·exact h2 y hy
  ·obtain rfl:y=v:=by simpa using hy
   exact hb _ hv
 ·intro r hr;have hr':r∈extL s.e1 s.R n:=hr;rw [e1] at hr';obtain⟨a,ha,v,hv,rfl⟩:=ext_mem hr';obtain⟨h1,h2⟩:=h.m1 a ha;refine⟨by rw [List.length_append,h1];rfl,λy hy=> ?_⟩;rcases List.mem_append.1 hy with hy|hy
  ·exact h2 y hy
  ·obtain rfl:y=v:=by simpa using hy
   exact h.rt _ hv
theorem StOk.lens{n len:Nat}{s:St}(h:StOk n s len)(hl:len<=40000):∀(k:Nat) (a b:List Int),s.e0[k]?=some a->s.e1[k]?=some b->a.length=b.length/\a.length<=40000:=λk a b ha hb=>by
 have h1:=(h.m0 a (List.mem_of_getElem? ha)).1;have h2:=(h.m1 b (List.mem_of_getElem? hb)).1;omega
theorem Re{t:Tm}{L:List Ev}{n len:Nat}{s s':St}{fr te:Int}(hz:t.err=0)(hn:t.trs.length=n)(h:StOk n s len)(hc:Fe t L n s fr te=some s'):StOk n s' 0/\s'.out.length=s.out.length+1/\s'.i=s.i/\s'.day=s.day:=by
 unfold Fe at hc
 split at hc
 ·cases hc
 ·rename_i V hV;obtain⟨v1,v2⟩:=Uu hn h.n0 h.n1 (λr hr=>(h.m0 r hr).2) (λr hr=>(h.m1 r hr).2) hV
  split at hc
  ·cases hc
  ·rename_i x q hx;simp only [Option.some.injEq] at hc;subst hc;obtain⟨q1,q2⟩:=Gb hz h.pr (by rw [v1];exact h.nb.symm) (List.all_eq_true.2 λy hy=>(Bo y).2 (v2 y hy)) hx;have hrep:∀r∈List.replicate n ([]:List Int),r= []:=λr hr=>(List.mem_replicate.1 hr).2;refine⟨⟨q2,q1.trans h.nb,h.nr,h.rt,by simp,by simp,λr hr=> ?_,λr hr=> ?_⟩,by simp,rfl,rfl⟩
   ·rw [hrep r hr];simp
   ·rw [hrep r hr];simp
def walkD(t:Tm)(T:List Ev)(n:Nat):Nat->List (Int×Int)->St->St×Int
 |0,_,s=>(evSt s (evR s.day (T.drop s.i) s.i s.p s.R),(evR s.day (T.drop s.i) s.i s.p s.R).2.2.2)
 |d+1,S,s=>if(evR s.day (T.drop s.i) s.i s.p s.R).2.2.2=0 then
   (match S with
    | []=>(s,5)
    |(fr,te)::S'=>if te=s.day then(match Fe t T n (endSt (evSt s (evR s.day (T.drop s.i) s.i s.p s.R)) n n) fr te with
      |none=>(s,5)
      |some s2=>walkD t T n d S' { s2 with day:=s.day+1 })
     else walkD t T n d ((fr,te)::S') { endSt (evSt s (evR s.day (T.drop s.i) s.i s.p s.R)) n n with day:=s.day+1 })
  else(s,(evR s.day (T.drop s.i) s.i s.p s.R).2.2.2)
def st0(t:Tm):St:=⟨0,t.start,⟨List.replicate t.trs.length 0,0,0⟩,t.trs.map Tn.rate,List.replicate t.trs.length [],List.replicate t.trs.length [], []⟩
theorem st0_ok{t:Tm}(h:t.err=0):StOk t.trs.length (st0 t) 0:=by
 obtain⟨⟨l0,l1⟩,hr,_⟩:=Fp h;have hrep:∀r∈List.replicate t.trs.length ([]:List Int),r= []:=λr hr=>(List.mem_replicate.1 hr).2;refine⟨?_,by simp [st0],by simp [st0],λx hx=> ?_,by simp [st0],by simp [st0],λr hr=> ?_,λr hr=> ?_⟩
 ·have h1:∀k:Nat,sumI (List.replicate k (0:Int))=0:=λk=>by
   induction k with
   |zero=>rfl
   |succ k ih=>rw [List.replicate_succ,sumI,ih];rfl
  have h2:(List.replicate t.trs.length (0:Int)).all Bt=true:=List.all_eq_true.2 λx hx=>by rw [(List.mem_replicate.1 hx).2];rfl
  show Ps.Bj ⟨List.replicate t.trs.length 0,0,0⟩=true;simp only [Ps.Bj,scanB,h1,h2,List.length_replicate];simp [Bt,l0,l1]
 ·simp only [st0,List.mem_map] at hx;obtain⟨y,hy,rfl⟩:=hx;exact hr y hy
 ·rw [hrep r hr];simp
 ·rw [hrep r hr];simp
def walkR(t:Tm)(L:List Ev)(td:Int):St×Int:=if Dp t L td=0 then walkD t (sortL L) t.trs.length (td-t.start).toNat (allL t.start t.cyc td) (st0 t) else(st0 t,Dp t L td)
theorem Aa2{t:Tm}{L:List Ev}{n len:Nat}{s s':St}{fr te:Int}(_:t.err=0)(hn:t.trs.length=n)(h:StOk n s len)(hc:Fe t L n s fr te=some s'):∃x,s'.out=s.out++ [x]/\x.lines.length=n/\x.cycle=(s.out.length:Int)+1/\x.fr=fr/\x.te=te:=by
 unfold Fe at hc
 split at hc
 ·cases hc
 ·rename_i V hV;obtain⟨v1,v2⟩:=Uu hn h.n0 h.n1 (λr hr=>(h.m0 r hr).2) (λr hr=>(h.m1 r hr).2) hV
  split at hc
  ·cases hc
  ·rename_i x q hx;simp only [Option.some.injEq] at hc;subst hc;refine⟨x,rfl, ?_⟩;unfold Mk at hx
   split at hx
   ·rename_i h0;simp only [Option.some.injEq,Prod.mk.injEq] at hx;obtain⟨rfl,_⟩:=hx;rcases Rf h.pr (by rw [v1];exact h.nb.symm) (List.all_eq_true.2 λy hy=>(Bo y).2 (v2 y hy)) with⟨_,_,h3⟩|⟨h3,_⟩
    ·exact⟨Us _ _ _ (h3.trans h.nb) v1 h.nr,rfl,rfl,rfl⟩
    ·rw [h0] at h3;cases h3
   ·cases hx
theorem Xl{t:Tm}{T:List Ev}{n:Nat}(hz:t.err=0)(hn:t.trs.length=n):∀(d:Nat) (S:List (Int×Int)) (s:St) (len:Nat) (Z:St×Int),StOk n s len->(∀x∈s.out,x.lines.length=n)->walkD t T n d S s=Z->Z.2=0->(∀x∈Z.1.out,x.lines.length=n)/\Z.1.out.length<=s.out.length+S.length/\∃len',StOk n Z.1 len':=by
 intro d
 induction d with
 |zero=>
  intro S s len Z h hx hw hz2;subst hw;unfold walkD at hz2⊢;exact⟨hx,by show s.out.length<=_;omega,len,h.ev hz2⟩
 |succ d ih=>
  intro S s len Z h hx hw hz2;unfold walkD at hw
  split at hw
  ·rename_i h0;have h1:=(h.ev h0).fin
   split at hw
   ·subst hw;cases hz2
   ·rename_i fr te S'
    split at hw
    ·rename_i hte
     split at hw
     ·subst hw;cases hz2
     ·rename_i s2 hc;obtain⟨x,e1,e2,_⟩:=Aa2 hz hn h1 hc;obtain⟨k1,k2,k3,k4⟩:=Re hz hn h1 hc;have e1':s2.out=s.out++ [x]:=e1;have hk:StOk n { s2 with day:=s.day+1 } 0:=⟨k1.pr,k1.nb,k1.nr,k1.rt,k1.n0,k1.n1,k1.m0,k1.m1⟩
      obtain⟨i1,i2,i3⟩:=ih S' _ 0 Z hk (λy hy=>by
       have hy':y∈s2.out:=hy;rw [e1'] at hy';rcases List.mem_append.1 hy' with h2|h2
       ·exact hx y h2
       ·obtain rfl:y=x:=by simpa using h2
        exact e2) hw hz2
      refine⟨i1, ?_,i3⟩;have:({ s2 with day:=s.day+1 }:St).out.length=s.out.length+1:=by show s2.out.length=_;rw [e1',List.length_append];rfl
      rw [this] at i2;simp only [List.length_cons];omega
    ·obtain⟨s3,hs3⟩:∃s3:St,s3={ endSt (evSt s (evR s.day (T.drop s.i) s.i s.p s.R)) n n with day:=s.day+1 }:=⟨_,rfl⟩;have hw':walkD t T n d ((fr,te)::S') s3=Z:=by rw [hs3];exact hw
     have hk:StOk n s3 (len+1):=by rw [hs3];exact⟨h1.pr,h1.nb,h1.nr,h1.rt,h1.n0,h1.n1,h1.m0,h1.m1⟩
     have ho:s3.out=s.out:=by rw [hs3];rfl
     obtain⟨i1,i2,i3⟩:=ih _ _ (len+1) Z hk (by rw [ho];exact hx) hw' hz2;exact⟨i1,by rw [ho] at i2;exact i2,i3⟩
  ·rename_i h0;subst hw;exact absurd hz2 h0
theorem Mq{t:Tm}{L:List Ev}{td:Int}{Z:St×Int}(hw:walkR t L td=Z)(hz2:Z.2=0):(∀x∈Z.1.out,x.lines.length=t.trs.length)/\Z.1.out.length<=300/\t.err=0/\Ps.Bj Z.1.p=true:=by
 unfold walkR at hw
 split at hw
 ·rename_i h0;have hok:=Ed h0;obtain⟨h1,h2,len,h3⟩:=Xl hok.tm rfl _ _ _ _ Z (st0_ok hok.tm) (by simp [st0]) hw hz2;obtain⟨_,h4⟩:=Kv t.cyc td 300 t.start hok.fd;have hall:(allL t.start t.cyc td).length<=300:=by unfold allL;rw [if_pos hok.fd];exact h4
  refine⟨h1, ?_,hok.tm,h3.pr⟩;have:(st0 t).out.length=0:=rfl;omega
 ·rename_i h0;subst hw;exact absurd hz2 h0
structure Cmd where
 kind:Int
 day:Int
 tranche:Int
 amount:Int
 ref:Int
deriving DecidableEq,Inhabited
def Cmd.cells(d:Cmd):List Value:= [.int .i64 d.kind,.int .i64 d.day,.int .i64 d.tranche,.int .i64 d.amount,.int .i64 d.ref]
theorem Cmd.Aj(d:Cmd):d.cells.length=5:=rfl
theorem Cmd.one(L:List Cmd):∀u∈L.flatMap Cmd.cells,u.oneCell'=true:=by
 intro u hu;obtain⟨d,_,hd⟩:=List.mem_flatMap.1 hu;simp only [Cmd.cells,List.mem_cons,List.not_mem_nil,or_false] at hd;rcases hd with rfl|rfl|rfl|rfl|rfl<;>rfl
structure Ac where
 t:Tm
 today:Int
 seq:Int
 L:List Ev
 D:List Disp
 s:St
 iss:List Stm
 adj:List Adj
def betP(seq:Int):List Stm->List Stm->List Adj->Int×List Adj
 |a::A,b::B,acc=>if a.Cz&&b.Cz then betP seq A B (acc++Ei seq a b) else(5, [])
 |_,_,acc=>(0,acc)
def Jq:List Stm->List Stm->Bool
 | [], []=>true
 |a::A,b::B=>Gt a b&&Jq A B
 |_,_=>false
def betS(seq:Int)(L M:List Stm):Int×List Adj:=if Jq L M=true then betP seq L M [] else(1, [])
theorem Acc(seq:Int):∀(P Q:List SV) (acc:List Adj),Jp seq P Q acc=betP seq (P.map SV.s) (Q.map SV.s) acc
 | [],_,_=>by unfold Jp;cases ‹List SV›<;>rfl
 |_::_, [],_=>rfl
 |a::A,b::B,acc=>by
  simp only [Jp,List.map_cons,betP];rw [Acc seq A B]
theorem Pm:∀(P Q:List SV),Jq (P.map SV.s) (Q.map SV.s)=true↔P.length=Q.length/\Mm P Q P.length
 | [], []=>by simp [Jq,Mm]
 | [],b::B=>by simp [Jq]
 |a::A, []=>by simp [Jq]
 |a::A,b::B=>by
  simp only [List.map_cons,Jq,Bool.and_eq_true,Pm A B,List.length_cons]
  constructor
  ·rintro⟨h1,h2,h3⟩;refine⟨by omega,λi x y hi hx hy=> ?_⟩
   cases i with
   |zero=>simp at hx hy;subst hx;subst hy;exact h1
   |succ i=>simp at hx hy;exact h3 i x y (by omega) hx hy
  ·rintro⟨h1,h2⟩;exact⟨h2 0 a b (by omega) rfl rfl,by omega,λi x y hi hx hy=>h2 (i+1) x y (by omega) (by simpa using hx) (by simpa using hy)⟩
theorem betw_S(seq:Int)(P Q:List SV):Betw seq P Q (betS seq (P.map SV.s) (Q.map SV.s)):=by
 unfold Betw betS;by_cases h:Jq (P.map SV.s) (Q.map SV.s)=true
 ·exact .inl ⟨(Pm P Q).1 h,by rw [if_pos h,Acc]⟩
 ·exact .inr ⟨λh'=>h ((Pm P Q).2 h'),by rw [if_neg h]⟩
theorem Wh:∀(L M:List Stm),Jq L M=true->L.length=M.length
 | [], [],_=>rfl
 | [],_::_,h=>by cases h
 |_::_, [],h=>by cases h
 |a::A,b::B,h=>by
  simp only [Jq,Bool.and_eq_true] at h;simp [Wh A B h.2]
theorem betS_len{seq:Int}{L M:List Stm}(h:(betS seq L M).1=0):L.length=M.length:=by
 unfold betS at h
 split at h
 ·rename_i h1;exact Wh L M h1
 ·cases h
theorem betP_le(seq:Int):∀(L M:List Stm) (acc:List Adj),(∀x∈L,x.lines.length<=1000)->(betP seq L M acc).2.length<=acc.length+1001*L.length
 | [],M,acc,_=>by cases M<;>simp [betP]
 |a::A, [],acc,_=>by simp [betP]
 |a::A,b::B,acc,h=>by
  unfold betP
  split
  ·have h1:=betP_le seq A B (acc++Ei seq a b) λx hx=>h x (List.mem_cons_of_mem _ hx);have h2:=Xv seq a b;have h3:=h a (List.mem_cons_self ..);rw [List.length_append] at h1;rw [List.length_cons];omega
  ·simp
theorem betS_le{seq:Int}{L M:List Stm}(h:∀x∈L,x.lines.length<=1000):(betS seq L M).2.length<=1001*L.length:=by
 unfold betS
 split
 ·have:=betP_le seq L M [] h;simpa using this
 ·simp
def Ac.cz(a:Ac)(e:Ev):St×Int:=walkR a.t (putL a.L e) a.today
def Ac.cb(a:Ac)(e:Ev):Int×List Adj:=betS (a.seq+1) a.s.out (a.cz e).1.out
def Ac.ce(a:Ac)(e:Ev):Int:=if¬Et a.t a.L e=0 then Et a.t a.L e else if¬(a.cz e).2=0 then(a.cz e).2 else(a.cb e).1
def Ac.count(a:Ac)(e:Ev):Ac:=if a.ce e=0 then { a with L:=putL a.L e,s:=(a.cz e).1,adj:=a.adj++(a.cb e).2,seq:=a.seq+1 } else a
def Ac.tz(a:Ac)(d:Int):St×Int:=walkR a.t a.L (a.today+d)
def Ac.te(a:Ac)(d:Int):Int:=if d<1\/400<d then 1 else if¬ofE a.t.start a.t.cyc (a.today+d)=0 then 10 else(a.tz d).2
def Ac.tc(a:Ac)(d:Int):Int:=if a.te d=0/\a.s.out.length<(a.tz d).1.out.length then((a.tz d).1.out.length:Int) else 0
def Ac.tick(a:Ac)(d:Int):Ac:=if a.te d=0 then { a with today:=a.today+d,s:=(a.tz d).1,iss:=a.iss++(a.tz d).1.out.drop a.s.out.length,seq:=a.seq+1 } else a
def Ac.cyc(a:Ac)(d:Int):Int:=ofV a.t.start a.t.cyc d
def Ac.oldB(a:Ac)(d:Int):Bool:=decide (24<a.cyc a.today-a.cyc d)
def Ac.owes(a:Ac):Int:=sumI a.s.p.bal-a.s.p.cr
def Ac.ee(a:Ac)(c:Cmd):Int:=
 if¬c.kind=2/\¬(1<=c.tranche/\c.tranche<=a.t.trs.length) then 7
 else if(c.kind=7/\(c.amount<0\/10000000<c.amount))\/(¬c.kind=7/\(c.amount<1\/1000000000000000<c.amount)) then 8
 else if c.kind=1 then(if a.t.limit<a.owes+c.amount then 9 else 0)
 else if c.kind=3 then(if c.day<a.t.start\/a.today<c.day then 10 else if a.oldB c.day=true then 11 else 0)
 else if c.kind=4 then(if a.s.p.bal.getD (c.tranche-1).toNat 0<c.amount then 9 else Dv a.D c.tranche c.amount)
 else 0
def ev00:Ev:=⟨0,0,0,0,0⟩
def Ac.evt(a:Ac)(c:Cmd):Ev:=if¬a.ee c=0 then ev00 else
 ⟨if c.kind=7 then 6 else c.kind,if c.kind=3 then c.day else a.today,if c.kind=2 then 0 else c.tranche,c.amount,if c.kind=4 then Fv a.D c.tranche c.amount else 0⟩
def Ac.eD(a:Ac)(c:Cmd):List Disp:=if c.kind=4/\a.ee c=0 then dOpen a.D c.tranche a.today c.amount else a.D
def Ac.de(a:Ac)(c:Cmd):Int:=if¬Cv a.D c.ref=0 then Cv a.D c.ref else if c.kind=6 then 0 else if a.oldB (Ec a.D c.ref (c.kind==5)).day=true then 11 else 0
def Ac.dvt(a:Ac)(c:Cmd):Ev:=if¬a.de c=0\/c.kind=6 then ev00 else⟨5,(Ec a.D c.ref (c.kind==5)).day,(Ec a.D c.ref (c.kind==5)).tranche,(Ec a.D c.ref (c.kind==5)).amount,(Ec a.D c.ref (c.kind==5)).ref⟩
theorem Xz{B n cT:Nat}{adT:Option Addr}{c0 c2 c3 c4 c5 c6 c7 c8 c9 c10 c11 c12 c13 c14 c15 c16 c17 c18 c19:Value}{W W2:World}(h:W.heap[B]?=some (.cells #[c0,.slice adT n cT,c2,c3,c4,c5,c6,c7,c8,c9,c10,c11,c12,c13,c14,c15,c16,c17,c18,c19] 250 (0,0)))(hk:K0 W W2)(a b:Nat):
  ((W2.setCell ⟨B,14,none⟩ (.slice (some ⟨a,0,none⟩) n n)).setCell ⟨B,15,none⟩ (.slice (some ⟨b,0,none⟩) n n)).heap[B]?=some (.cells #[c0,.slice adT n cT,c2,c3,c4,c5,c6,c7,c8,c9,c10,c11,c12,c13,.slice (some ⟨a,0,none⟩) n n,.slice (some ⟨b,0,none⟩) n n,c16,c17,c18,c19] 250 (0,0))/\Keeps (λi=>i=B) W ((W2.setCell ⟨B,14,none⟩ (.slice (some ⟨a,0,none⟩) n n)).setCell ⟨B,15,none⟩ (.slice (some ⟨b,0,none⟩) n n)):=by
 have h2:=Ad h hk (by simp);have h3:=(heap_setCell_same _ _ 14 _ _ (.slice (some ⟨a,0,none⟩) n n) h2).trans rfl;have h4:=(heap_setCell_same _ _ 15 _ _ (.slice (some ⟨b,0,none⟩) n n) h3).trans rfl;have k1:Keeps (λi=>i=B) W2 (W2.setCell ⟨B,14,none⟩ (.slice (some ⟨a,0,none⟩) n n)):=Keeps.setCell (S:=λi=>i=B) _ _ _ rfl;have k2:Keeps (λi=>i=B) (W2.setCell ⟨B,14,none⟩ (.slice (some ⟨a,0,none⟩) n n)) ((W2.setCell ⟨B,14,none⟩ (.slice (some ⟨a,0,none⟩) n n)).setCell ⟨B,15,none⟩ (.slice (some ⟨b,0,none⟩) n n)):=Keeps.setCell (S:=λi=>i=B) _ _ _ rfl;have k0:Keeps (λi=>i=B) W W2:=hk.mono (by simp);exact⟨h4,Keeps.trans (Keeps.trans k0 (k1.mono λ_ _ h=> .inl h)) (k2.mono λ_ _ h=> .inl h)⟩
theorem Yx{B n cT:Nat}{adT:Option Addr}{c0 c2 c3 c4 c5 c6 c7 c8 c9 c10 c11 c12 c13 c14 c15 c16 c17 c18 c19:Value}{W:World}(h:W.heap[B]?=some (.cells #[c0,.slice adT n cT,c2,c3,c4,c5,c6,c7,c8,c9,c10,c11,c12,c13,c14,c15,c16,c17,c18,c19] 250 (0,0)))(hn:n<=1000):
  Calls Tryz.prog 181 #[(.pointer (some ⟨B,0,none⟩))] W λe W'=>e= .returned (.tuple #[])/\∃a b,W'.heap[B]?=some (.cells #[c0,.slice adT n cT,c2,c3,c4,c5,c6,c7,c8,c9,c10,c11,c12,c13,.slice (some ⟨a,0,none⟩) n n,.slice (some ⟨b,0,none⟩) n n,c16,c17,c18,c19] 250 (0,0))/\W'.heap[a]?=some (.cells ((List.replicate n si0).map SI.v).toArray 50 (0,0))/\W'.heap[b]?=some (.cells ((List.replicate n si0).map SI.v).toArray 50 (0,0))/\W.heap.size<=a/\W.heap.size<=b/\a≠b/\Keeps (λi=>i=B) W W':=by
 obtain⟨i0,hi,hi0,hi1,hi2⟩:=info_parts Va;refine j3L ?_;intro hmk;simp only [Int.toNat_natCast,hi1,Nat.mul_one] at hmk;obtain⟨Z,hZ⟩:=eY (madeCells (Value.slice none 0 0).cells n);rw [<-hZ] at hmk;rw [Abi] at hZ;have hblk:=h
 have hS:∀W',K0 W W'->(W'.cell? ⟨B,14,none⟩=some c14/\W'.cell? ⟨B,15,none⟩=some c15/\W'.frozen? ⟨B,14,none⟩=false/\W'.frozen? ⟨B,15,none⟩=false/\B<W'.heap.size):=λW' hk=>by
  have hb:=Ad h hk (by simp);exact⟨Aa hb 14,Aa hb 15,Ab hb 14,Ab hb 15,lt_of_block hb⟩
 have q1:=Aa h 1;have bl:=lt_of_block h;obtain⟨H,Hblk,Hi,Hi0,Hi1,Hi2,HZ,HS⟩:=hid8 h hblk hi hi0 hi1 hi2 hZ hS;clear hS hZ hi2 hi1 hi0 hi hblk h;go_enter Tryz.func181,Tryz.ntmps181;go_wp2_with fail;refine Ak (λ_=>True) (.take 0 (.take 1 (.take 3 (.fork 2 (.move 4 (.take 5 (.take 6 (.take 7 (.move 8 .done))))) 4 (.move 2 (.take 5 (.take 6 (.take 7 (.move 8 .done))))))))) j9 j9 ?_ ?_
 ·trivial
 intro w1 hs1 hk1;have Hk1:=Lib.hid hk1;clear hk1 hs1;refine jR ?_;refine Dk ?_ ?_ trivial
 ·skip
  refine jC ?_;refine jC ?_;obtain⟨s14,s15,s16,s17,sl⟩:=HS.o _ ((Hk1.o.Af (o:= .cells Z 50)).Af (o:= .cells Z 50));have z0:((w1.alloc (.cells Z 50)).alloc (.cells Z 50)).heap[w1.heap.size]?=some (.cells ((List.replicate n si0).map SI.v).toArray 50 (0,0)):=by rw [show((List.replicate n si0).map SI.v).toArray=Z from HZ.o.symm];exact Aq (heap_alloc_new w1 _) _
  have z1:((w1.alloc (.cells Z 50)).alloc (.cells Z 50)).heap[w1.heap.size+1]?=some (.cells ((List.replicate n si0).map SI.v).toArray 50 (0,0)):=by rw [show((List.replicate n si0).map SI.v).toArray=Z from HZ.o.symm];exact Av _ _ (by simp)
  have hka:=(Hk1.o.Af (o:= .cells Z 50)).Af (o:= .cells Z 50);obtain⟨hfb,hfk⟩:=Xz Hblk.o hka (w1.heap.size) (w1.heap.size+1);have hBl:=lt_of_block Hblk.o;have hs1:=Hk1.o.size;have kBB:Keeps (λi=>i=B) ((w1.alloc (.cells Z 50)).alloc (.cells Z 50)) ((((w1.alloc (.cells Z 50)).alloc (.cells Z 50)).setCell ⟨B,14,none⟩ (.slice (some ⟨w1.heap.size,0,none⟩) n n)).setCell ⟨B,15,none⟩ (.slice (some ⟨w1.heap.size+1,0,none⟩) n n)):=(Keeps.setCell (S:=λi=>i=B) _ _ _ rfl).trans (Keeps.setCell _ _ _ (.inl rfl))
  have hfin:∃a b,((((w1.alloc (.cells Z 50)).alloc (.cells Z 50)).setCell ⟨B,14,none⟩ (.slice (some ⟨w1.heap.size,0,none⟩) n n)).setCell ⟨B,15,none⟩ (.slice (some ⟨w1.heap.size+1,0,none⟩) n n)).heap[B]?=some (.cells #[c0,.slice adT n cT,c2,c3,c4,c5,c6,c7,c8,c9,c10,c11,c12,c13,.slice (some ⟨a,0,none⟩) n n,.slice (some ⟨b,0,none⟩) n n,c16,c17,c18,c19] 250 (0,0))/\((((w1.alloc (.cells Z 50)).alloc (.cells Z 50)).setCell ⟨B,14,none⟩ (.slice (some ⟨w1.heap.size,0,none⟩) n n)).setCell ⟨B,15,none⟩ (.slice (some ⟨w1.heap.size+1,0,none⟩) n n)).heap[a]?=some (.cells ((List.replicate n si0).map SI.v).toArray 50 (0,0))/\
   ((((w1.alloc (.cells Z 50)).alloc (.cells Z 50)).setCell ⟨B,14,none⟩ (.slice (some ⟨w1.heap.size,0,none⟩) n n)).setCell ⟨B,15,none⟩ (.slice (some ⟨w1.heap.size+1,0,none⟩) n n)).heap[b]?=some (.cells ((List.replicate n si0).map SI.v).toArray 50 (0,0))/\W.heap.size<=a/\W.heap.size<=b/\a≠b/\Keeps (λi=>i=B) W ((((w1.alloc (.cells Z 50)).alloc (.cells Z 50)).setCell ⟨B,14,none⟩ (.slice (some ⟨w1.heap.size,0,none⟩) n n)).setCell ⟨B,15,none⟩ (.slice (some ⟨w1.heap.size+1,0,none⟩) n n)):=
   ⟨w1.heap.size,w1.heap.size+1,hfb,Ad z0 kBB j6,Ad z1 kBB j6,by omega,by omega,by omega,hfk⟩
  exact j49
 ·skip
  refine jC ?_;refine jC ?_;obtain⟨s14,s15,s16,s17,sl⟩:=HS.o _ ((Hk1.o.Af (o:= .cells Z 50)).Af (o:= .cells Z 50));have z0:((w1.alloc (.cells Z 50)).alloc (.cells Z 50)).heap[w1.heap.size]?=some (.cells ((List.replicate n si0).map SI.v).toArray 50 (0,0)):=by rw [show((List.replicate n si0).map SI.v).toArray=Z from HZ.o.symm];exact Aq (heap_alloc_new w1 _) _
  have z1:((w1.alloc (.cells Z 50)).alloc (.cells Z 50)).heap[w1.heap.size+1]?=some (.cells ((List.replicate n si0).map SI.v).toArray 50 (0,0)):=by rw [show((List.replicate n si0).map SI.v).toArray=Z from HZ.o.symm];exact Av _ _ (by simp)
  have hka:=(Hk1.o.Af (o:= .cells Z 50)).Af (o:= .cells Z 50);obtain⟨hfb,hfk⟩:=Xz Hblk.o hka (w1.heap.size+1) (w1.heap.size);have hBl:=lt_of_block Hblk.o;have hs1:=Hk1.o.size;have kBB:Keeps (λi=>i=B) ((w1.alloc (.cells Z 50)).alloc (.cells Z 50)) ((((w1.alloc (.cells Z 50)).alloc (.cells Z 50)).setCell ⟨B,14,none⟩ (.slice (some ⟨w1.heap.size+1,0,none⟩) n n)).setCell ⟨B,15,none⟩ (.slice (some ⟨w1.heap.size,0,none⟩) n n)):=(Keeps.setCell (S:=λi=>i=B) _ _ _ rfl).trans (Keeps.setCell _ _ _ (.inl rfl))
  have hfin:∃a b,((((w1.alloc (.cells Z 50)).alloc (.cells Z 50)).setCell ⟨B,14,none⟩ (.slice (some ⟨w1.heap.size+1,0,none⟩) n n)).setCell ⟨B,15,none⟩ (.slice (some ⟨w1.heap.size,0,none⟩) n n)).heap[B]?=some (.cells #[c0,.slice adT n cT,c2,c3,c4,c5,c6,c7,c8,c9,c10,c11,c12,c13,.slice (some ⟨a,0,none⟩) n n,.slice (some ⟨b,0,none⟩) n n,c16,c17,c18,c19] 250 (0,0))/\((((w1.alloc (.cells Z 50)).alloc (.cells Z 50)).setCell ⟨B,14,none⟩ (.slice (some ⟨w1.heap.size+1,0,none⟩) n n)).setCell ⟨B,15,none⟩ (.slice (some ⟨w1.heap.size,0,none⟩) n n)).heap[a]?=some (.cells ((List.replicate n si0).map SI.v).toArray 50 (0,0))/\
   ((((w1.alloc (.cells Z 50)).alloc (.cells Z 50)).setCell ⟨B,14,none⟩ (.slice (some ⟨w1.heap.size+1,0,none⟩) n n)).setCell ⟨B,15,none⟩ (.slice (some ⟨w1.heap.size,0,none⟩) n n)).heap[b]?=some (.cells ((List.replicate n si0).map SI.v).toArray 50 (0,0))/\W.heap.size<=a/\W.heap.size<=b/\a≠b/\Keeps (λi=>i=B) W ((((w1.alloc (.cells Z 50)).alloc (.cells Z 50)).setCell ⟨B,14,none⟩ (.slice (some ⟨w1.heap.size+1,0,none⟩) n n)).setCell ⟨B,15,none⟩ (.slice (some ⟨w1.heap.size,0,none⟩) n n)):=
   ⟨w1.heap.size+1,w1.heap.size,hfb,Ad z1 kBB j6,Ad z0 kBB j6,by omega,by omega,by omega,hfk⟩
  exact j49
theorem rowSame{W W':World}{e:TypeId}{sz m:Nat}{v:Value}{xs:List Value}(h:W.ownsRow 0 e sz v m xs)(hb:∀g,v.ownBlock=some g->W'.heap[g]?=W.heap[g]?):W'.ownsRow 0 e sz v m xs:=by
 obtain⟨h1,h2⟩:=h;refine⟨h1, ?_⟩;rcases h2 with h2|⟨g,cap,cur,hv,h3,h4,h5⟩
 ·exact .inl h2
 ·exact .inr ⟨g,cap,cur,hv,h3,(hb g (by rw [hv];rfl)).trans h4,h5⟩
section
variable {w0:World} {X:Fx} {B:Nat} {t:Tm} {n:Nat} {vt:Value} {L:List Ev} {f0 f1 f2:Value} {s:St} {vl vb vr:Value} {g0 g1:Nat} {S0 S1:List SI} {vo:Value} {P:List SV} {W W':World}
theorem RunV.Zb(h:RunV w0 X B t n vt L f0 f1 f2 s vl vb vr g0 g1 S0 S1 vo P W):RunV w0 ⟨X.X,X.X,W⟩ B t n vt L f0 f1 f2 s vl vb vr g0 g1 S0 S1 vo P W:=
 { h with
  yx:=λ_ h=>h
  fz:=λ_ _=>rfl }
end
structure DayP(t:Tm)(T:List Ev)(n:Nat)(td:Int)(A:List (Int×Int))(s:St)(Z:St×Int):Prop where
 sp:∃fr te S',A.drop s.out.length=(fr,te)::S'/\Rk fr te/\(te<td->SpanC td (te+1) S')/\fr<=s.day/\s.day<=te/\StOk n s (s.day-fr).toNat/\walkD t T n (td-s.day).toNat ((fr,te)::S') s=Z
 dt:s.day<=td
 i:s.i<=T.length
section
variable {t:Tm} {T:List Ev} {n:Nat} {td:Int} {A:List (Int×Int)} {s:St} {Z:St×Int}
theorem DayP.err(h:DayP t T n td A s Z)(he:(evR s.day (T.drop s.i) s.i s.p s.R).2.2.2≠0):Z.2=(evR s.day (T.drop s.i) s.i s.p s.R).2.2.2:=by
 obtain⟨fr,te,S',_,_,_,_,_,_,hw⟩:=h.sp;rcases hd:(td-s.day).toNat with _|d
 ·rw [hd] at hw;unfold walkD at hw;rw [<-hw]
 ·rw [hd] at hw;unfold walkD at hw;rw [if_neg he] at hw;rw [<-hw]
theorem DayP.last(h:DayP t T n td A s Z)(hd:s.day=td):Z=(evSt s (evR s.day (T.drop s.i) s.i s.p s.R),(evR s.day (T.drop s.i) s.i s.p s.R).2.2.2):=by
 obtain⟨fr,te,S',_,_,_,_,_,_,hw⟩:=h.sp;rw [show(td-s.day).toNat=0 by omega] at hw;unfold walkD at hw;exact hw.symm
theorem DayP.go(h:DayP t T n td A s Z)(he:(evR s.day (T.drop s.i) s.i s.p s.R).2.2.2=0)(hd:s.day≠td)(hz:t.err=0)(hn:t.trs.length=n):
  ∃fr te,A[s.out.length]?=some (fr,te)/\Rk fr te/\StOk n (endSt (evSt s (evR s.day (T.drop s.i) s.i s.p s.R)) n n) ((s.day-fr).toNat+1)/\fr<=s.day/\s.day<=te/\s.out.length<A.length/\
   (te≠s.day->DayP t T n td A { endSt (evSt s (evR s.day (T.drop s.i) s.i s.p s.R)) n n with day:=s.day+1 } Z)/\
   (te=s.day->Fe t T n (endSt (evSt s (evR s.day (T.drop s.i) s.i s.p s.R)) n n) fr te=none->Z.2=5)/\
   (te=s.day->∀s2,Fe t T n (endSt (evSt s (evR s.day (T.drop s.i) s.i s.p s.R)) n n) fr te=some s2->DayP t T n td A { s2 with day:=s.day+1 } Z):=by
 obtain⟨fr,te,S',hA,hok,hnx,hfr,hte,hs,hw⟩:=h.sp;have hdt:=h.dt;have hi:=h.i;obtain⟨d,hdd⟩:∃d,(td-s.day).toNat=d+1:=⟨(td-s.day).toNat-1,by omega⟩;rw [hdd] at hw;unfold walkD at hw;rw [if_pos he] at hw
 have hget:A[s.out.length]?=some (fr,te):=by
  have h1:=congrArg (λl=>l[0]?) hA
  simpa using h1
 have hlt:s.out.length<A.length:=by
  obtain⟨hh,_⟩:=List.getElem?_eq_some_iff.1 hget;exact hh
 have hs1:StOk n (endSt (evSt s (evR s.day (T.drop s.i) s.i s.p s.R)) n n) ((s.day-fr).toNat+1):=(hs.ev he).fin;obtain⟨_,_,_,_,i1,i2⟩:=evR_ok s.day (T.drop s.i) s.i s.p s.R hs.pr hs.rt he
 have hi2:(evR s.day (T.drop s.i) s.i s.p s.R).1<=T.length:=by
  rw [List.length_drop] at i2;omega
 refine⟨fr,te,hget,hok,hs1,hfr,hte,hlt,λhne=> ?_,λhe hc=> ?_,λhe s2 hc=> ?_⟩
 ·dsimp only at hw;rw [if_neg hne] at hw;refine⟨⟨fr,te,S',hA,hok,hnx,by show fr<=s.day+1;omega,by show s.day+1<=te;omega, ?_, ?_⟩,by show s.day+1<=td;omega,hi2⟩
  ·show StOk n _ (s.day+1-fr).toNat;rw [show(s.day+1-fr).toNat=(s.day-fr).toNat+1 by omega];exact⟨hs1.pr,hs1.nb,hs1.nr,hs1.rt,hs1.n0,hs1.n1,hs1.m0,hs1.m1⟩
  ·exact j4a
 ·dsimp only at hw;rw [if_pos he,hc] at hw;rw [<-hw]
 ·dsimp only at hw;rw [if_pos he,hc] at hw;obtain⟨c1,c2,c3,c4⟩:=Re hz hn hs1 hc;obtain⟨te',S'',hS,hok',hfr',hnx'⟩:=(hnx j6).head;subst hS
  have hA2:A.drop (s.out.length+1)=(te+1,te')::S'':=by
   rw [<-List.drop_drop,hA];rfl
  have hlo:=hok'.le;refine⟨⟨te+1,te',S'', ?_,hok',hnx',by show te+1<=s.day+1;omega,by show s.day+1<=te';omega, ?_, ?_⟩,by show s.day+1<=td;omega, ?_⟩
  ·show A.drop s2.out.length=_;rw [c2];exact hA2
  ·show StOk n _ (s.day+1-(te+1)).toNat;rw [show(s.day+1-(te+1)).toNat=0 by omega];exact⟨c1.pr,c1.nb,c1.nr,c1.rt,c1.n0,c1.n1,c1.m0,c1.m1⟩
  ·exact j4a
  ·show s2.i<=T.length;rw [c3];exact hi2
theorem DayP.start{L:List Ev}(hz:Dp t L td=0)(hn:t.trs.length=n):DayP t (sortL L) n td (allL t.start t.cyc td) (st0 t) (walkR t L td):=by
 have hr:=Ed hz;have hA:allL t.start t.cyc td=(findW t.cyc td 300 t.start).1:=by unfold allL;rw [if_pos hr.fd]
 obtain⟨hs,_⟩:=Kv t.cyc td 300 t.start hr.fd;obtain⟨te,S',hS,hok,_,hnx⟩:=hs.head;refine⟨⟨t.start,te,S', ?_,hok,hnx,Int.le_refl _,hok.le, ?_, ?_⟩,hr.d0,Nat.zero_le _⟩
 ·rw [hA,hS];rfl
 ·show StOk n (st0 t) (t.start-t.start).toNat;rw [show(t.start-t.start).toNat=0 by omega,<-hn];exact st0_ok hr.tm
 ·unfold walkR;rw [if_pos hz,hA,hS,hn];rfl
theorem Acg(st cd day:Int):(allL st cd day).length<=300:=by
 unfold allL
 split
 ·rename_i h;exact(Kv cd day 300 st h).2
 ·simp
end
structure Gh(α:Type) where
 ev:α->Ev->Ps->Ps->α
 day:α->Ps->α
 cl:α->St->St->α
section
variable {α:Type} (γ:Gh α)
def evG(day:Int):List Ev->Ps->List Int->α->α
 | [],_,_,a=>a
 |e::M,p,R,a=>if e.day=day then(if(Dw p R e).2.2=0 then evG day M (Dw p R e).1 (Dw p R e).2.1 (γ.ev a e p (Dw p R e).1) else a) else a
def walkG(t:Tm)(T:List Ev)(n:Nat):Nat->List (Int×Int)->St->α->α
 |0,_,s,a=>evG γ s.day (T.drop s.i) s.p s.R a
 |d+1,S,s,a=>if(evR s.day (T.drop s.i) s.i s.p s.R).2.2.2=0 then
   (match S with
    | []=>a
    |(fr,te)::S'=>if te=s.day then(match Fe t T n (endSt (evSt s (evR s.day (T.drop s.i) s.i s.p s.R)) n n) fr te with
      |none=>a
      |some s2=>walkG t T n d S' { s2 with day:=s.day+1 } (γ.cl (γ.day (evG γ s.day (T.drop s.i) s.p s.R a) (evR s.day (T.drop s.i) s.i s.p s.R).2.1) (endSt (evSt s (evR s.day (T.drop s.i) s.i s.p s.R)) n n) s2))
     else walkG t T n d ((fr,te)::S') { endSt (evSt s (evR s.day (T.drop s.i) s.i s.p s.R)) n n with day:=s.day+1 } (γ.day (evG γ s.day (T.drop s.i) s.p s.R a) (evR s.day (T.drop s.i) s.i s.p s.R).2.1))
  else a
def DayS(t:Tm)(T:List Ev)(n:Nat)(td:Int)(A:List (Int×Int))(s:St)(a z:α):Prop:=walkG γ t T n (td-s.day).toNat (A.drop s.out.length) s a=z
end
section
variable {α:Type} {γ:Gh α} {t:Tm} {T:List Ev} {n:Nat} {td:Int} {A:List (Int×Int)} {s:St} {a z:α}
theorem DayS.last(h:DayS γ t T n td A s a z)(hd:s.day=td):evG γ s.day (T.drop s.i) s.p s.R a=z:=by
 unfold DayS at h;rw [show(td-s.day).toNat=0 by omega] at h;exact h
theorem DayS.go(h:DayS γ t T n td A s a z)(he:(evR s.day (T.drop s.i) s.i s.p s.R).2.2.2=0)(hd:s.day<td){fr te:Int}(hA:A[s.out.length]?=some (fr,te)):
  (te≠s.day->DayS γ t T n td A { endSt (evSt s (evR s.day (T.drop s.i) s.i s.p s.R)) n n with day:=s.day+1 } (γ.day (evG γ s.day (T.drop s.i) s.p s.R a) (evR s.day (T.drop s.i) s.i s.p s.R).2.1) z)/\
  (te=s.day->∀s2,Fe t T n (endSt (evSt s (evR s.day (T.drop s.i) s.i s.p s.R)) n n) fr te=some s2->s2.out.length=s.out.length+1->
   DayS γ t T n td A { s2 with day:=s.day+1 } (γ.cl (γ.day (evG γ s.day (T.drop s.i) s.p s.R a) (evR s.day (T.drop s.i) s.i s.p s.R).2.1) (endSt (evSt s (evR s.day (T.drop s.i) s.i s.p s.R)) n n) s2) z):=by
 unfold DayS at h;obtain⟨d,hdd⟩:∃d,(td-s.day).toNat=d+1:=⟨(td-s.day).toNat-1,by omega⟩
 have hdr:A.drop s.out.length=(fr,te)::A.drop (s.out.length+1):=by
  obtain⟨h1,h2⟩:=List.getElem?_eq_some_iff.1 hA;rw [List.drop_eq_getElem_cons h1,h2]
 rw [hdd,hdr] at h;unfold walkG at h;rw [if_pos he] at h;dsimp only at h;refine⟨λhne=> ?_,λhee s2 hc hl=> ?_⟩
 ·rw [if_neg hne] at h;show walkG γ t T n (td-(s.day+1)).toNat (A.drop s.out.length) _ _=z;rw [show(td-(s.day+1)).toNat=d by omega,hdr];exact h
 ·rw [if_pos hee,hc] at h;show walkG γ t T n (td-(s.day+1)).toNat (A.drop s2.out.length) _ _=z;rw [show(td-(s.day+1)).toNat=d by omega,hl];exact h
end
section
variable {t:Tm} {T:List Ev} {n:Nat} {td:Int} {A:List (Int×Int)} {s:St} {D DD:List (List Int)}
end
end Go.Proofs.YtgbgmadkmabeeaaGreat
