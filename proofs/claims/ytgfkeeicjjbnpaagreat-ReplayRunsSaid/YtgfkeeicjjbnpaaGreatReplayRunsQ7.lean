/- Part 7 of the proof of ReplayRuns: walks and plain laws. -/
import Derived.Test.YtgfkeeicjjbnpaaGreatReplayRunsQ6
set_option maxRecDepth 100000
set_option maxHeartbeats 6400000
namespace Go.Proofs.YtgfkeeicjjbnpaaGreat
open Go.RowKit
theorem Tc{w0:World}{X:Fx}{B:Nat}{t:Tm}{n:Nat}{vt:Value}{L:List Ev}{f0 f1:Value}{s:St}{vl vb vr:Value}{g0 g1:Nat}{S0 S1:List SI}{vo:Value}{P:List SV}{W:World}(h:RunV w0 X B t n vt L f0 f1 .nilFunc s vl vb vr g0 g1 S0 S1 vo P W)
  (hz:t.err=0) (hn:t.trs.length=n) (hl:L.length<=1000000) (hok:∀x∈L,x.kind=2->0<=x.amount/\x.amount<=1000000000000000) (hpr:s.p.Ar=true) (hrt:∀x∈s.R,0<=x/\x<=10000000)
  (he0:∀r∈s.e0,∀y∈r,0<=y/\y<=1000000000000000) (he1:∀r∈s.e1,∀y∈r,0<=y/\y<=10000000) (hlen:∀(k:Nat) (a b:List Int),s.e0[k]?=some a->s.e1[k]?=some b->a.length=b.length/\a.length<=40000)
  (hcy:s.out.length+1<=300) (fr te:Int) (hsp: -135140<=fr/\fr<=te/\te<=2932896) (C:Option St) (hC:Dh t L n s fr te=C):
  Calls Tryz.prog 108 #[(.pointer (some ⟨B,0,none⟩)),.agg #[.int .i64 fr,.int .i64 te]] W λe W'=>match C with
   |none=>e= .returned (.int .i64 5)/\RunV w0 X B t n vt L f0 f1 .nilFunc s vl vb vr g0 g1 S0 S1 vo P W'
   |some s'=>e= .returned (.int .i64 0)/\∃vb' g0' g1' vo' P',RunV w0 X B t n vt L f0 f1 .nilFunc s' vl vb' vr g0' g1' (List.replicate n si0) (List.replicate n si0) vo' P' W':=by
 obtain⟨i0,hi,hi0,hi1,hi2⟩:=info_parts Rx;have hnum:=Ck hz;rw [hn] at hnum;obtain⟨⟨l0,l1⟩,_⟩:=hnum;obtain⟨adT,cT,rfl⟩:∃a c,vt= .slice a n c:=by obtain⟨a,c,h,_⟩:=h.trs;exact⟨a,c,h⟩
 obtain⟨ab,cb,rfl⟩:∃a c,vb= .slice a n c:=by obtain⟨a,c,h,_⟩:=Ad h.bal;exact⟨a,c,h⟩
 obtain⟨ar,cr,rfl⟩:∃a c,vr= .slice a n c:=by obtain⟨a,c,h,_⟩:=Ad h.rts;exact⟨a,c,h⟩
 obtain⟨m,hmm⟩:∃m,P.length=m:=⟨_,rfl⟩;obtain⟨av,cv,rfl⟩:∃a c,vo= .slice a m c:=by obtain⟨a,c,h,_⟩:=Ad h.out;rw [hmm] at h;exact⟨a,c,h⟩
 have hpo:s.out.length=m:=by rw [<-h.lp,List.length_map];exact hmm
 have hm1:m+1<=300:=by rw [<-hpo];exact hcy
 obtain⟨fb,hfb⟩:∃fb,freeB s.out fr L=fb:=⟨_,rfl⟩;have hfree:=fun(W':World) (hW:Keeps (λ_=>False) W W')=>Vg (h.keep0 hW) hl j1 hok fr te;rw [hfb] at hfree;obtain⟨O,hO⟩:∃O,intrO fb t.trs s.e0 s.e1=O:=⟨_,rfl⟩
 have hint:=fun(W':World) (hW:Keeps (λ_=>False) W W')=>Pf t (.slice adT n cT) S0 S1 (some ⟨g0,0,none⟩) (some ⟨g1,0,none⟩) n n n fb W' hz hn (h.keep0 hW).trs (Vd (h.keep0 hW).o0 h.n0) h.n0
  (λx hx=>⟨Reads.Ay ((h.keep0 hW).i0 x hx),by
   obtain⟨k,hk⟩:=List.getElem?_of_mem hx;obtain⟨y,hy⟩:=Aj (L:=S1) (k:=k) (by rw [h.n1,<-h.n0];exact Cj hk);have:=hlen k x.L y.L (by rw [<-h.l0,List.getElem?_map,hk];rfl) (by rw [<-h.l1,List.getElem?_map,hy];rfl)
   unfold maxLen;omega⟩)
  (Vd (h.keep0 hW).o1 h.n1) h.n1
  (λy hy=>⟨Reads.Ay ((h.keep0 hW).i1 y hy),by
   obtain⟨k,hk⟩:=List.getElem?_of_mem hy;obtain⟨x,hx⟩:=Aj (L:=S0) (k:=k) (by rw [h.n0,<-h.n1];exact Cj hk);have:=hlen k x.L y.L (by rw [<-h.l0,List.getElem?_map,hx];rfl) (by rw [<-h.l1,List.getElem?_map,hk];rfl)
   unfold maxLen;omega⟩)
  (λk x y hx hy=>hlen k x.L y.L (by rw [<-h.l0,List.getElem?_map,hx];rfl) (by rw [<-h.l1,List.getElem?_map,hy];rfl))
  (λx hx=>he0 x.L (by rw [<-h.l0];exact List.mem_map_of_mem hx)) (λx hx=>he1 x.L (by rw [<-h.l1];exact List.mem_map_of_mem hx))
 rw [h.l0,h.l1,hO] at hint;unfold Dh at hC;rw [hfb,hO] at hC;have ka:Keeps (λ_=>False) W (W.alloc (.cells #[.int .i64 fr,.int .i64 te] 55)):=Keeps.alloc _ _;have hA:=h.keep0 ka;have hb3:=heap_alloc_new W (.cells #[.int .i64 fr,.int .i64 te] 55);have s0:=Aa hb3 0;have s1:=Aa hb3 1;have b16:=Aa h.blk 16;rcases O with _|V
 ·simp only at hC;subst hC;obtain⟨Hi,Hi0,Hi1,Hi2,H,Hz,Hn,Hok,Hpr⟩:=hid9 hi hi0 hi1 hi2 h hz hn hok hpr;clear hpr hok hn hz h hi2 hi1 hi0 hi;obtain⟨Hrt,He0,He1,Hlen,Hmm,Hpo,Hfb,Hfree,HO⟩:=hid9 hrt he0 he1 hlen hmm hpo hfb hfree hO;clear hO hfree hfb hpo hmm hlen he1 he0 hrt;obtain⟨Hint,Ka,HA,Hb3⟩:=hid4 hint ka hA hb3;clear hb3 hA ka hint;clear s0 s1 b16;go_enter Tryz.func108,Tryz.ntmps108;go_wp2_with fail;refine(Hfree.out _ Ka.out).mono ?_;rintro e w2 ⟨rfl,hk2⟩;have hk2w:=Ka.out.nt hk2;have hr2:=H.out.keep0 hk2w;refine j50 ?_;intro hS4;obtain⟨Hk2,Hk2w,Hr2,HS4⟩:=hid4 hk2 hk2w hr2 hS4;clear hS4 hr2 hk2w hk2;go_wp2_with fail;refine Ak (c4S B t.limit (.slice adT n cT) t.cyc t.due t.minFixed t.minPart t.start (.slice (some ⟨g0,0,none⟩) n n) (.slice (some ⟨g1,0,none⟩) n n)) (.take 0 (.take 1 (.take 2 (.take 3 (.take 4 (.take 5 (.take 6 (.take 7 (.take 8 (.take 9 (.take 10 (.take 11 (.take 12 (.take 13 (.take 14 (.move 15 (.take 16 (.take 17 (.take 18 (.take 19 (.take 20 .done))))))))))))))))))))) j4 j4 ?_ ?_
  ·exact HS4.out
  intro w3 hs3 hk3;refine je ?_;intro K hK
  go_at_call 170
  ((with_reducible refine(Hint.out _ (Hk2w.out.nt hk3)).mono ?_);rintro e w4 ⟨rfl,hk4⟩;dsimp only)
  refine hK.out _ _ j0j ?_;clear hK K;refine jg ?_;have hr4:=(Hr2.out.keep0 hk3).keep0 hk4;clear hs3;obtain⟨Hr4,Hk3,Hk4⟩:=hid3 hr4 hk3 hk4;clear hk4 hk3 hr4;go_wp2;go_ret;exact⟨rfl,Hr4.out⟩
 ·simp only at hC;obtain⟨hVl,hVb⟩:=Lu hn (by rw [<-h.l0,List.length_map];exact h.n0) (by rw [<-h.l1,List.length_map];exact h.n1) he0 he1 hO;rw [hpo] at hC;obtain⟨D,hD⟩:∃D,Eu t ((m:Int)+1) fr te s.p s.R V fb=D:=⟨_,rfl⟩;rw [hD] at hC;obtain⟨⟨x,q,z⟩,hcv⟩:∃c,Da D=c:=⟨_,rfl⟩;obtain⟨Hi,Hi0,Hi1,Hi2,H,Hz,Hn,Hok,Hpr⟩:=hid9 hi hi0 hi1 hi2 h hz hn hok hpr;clear hpr hok hn hz h hi2 hi1 hi0 hi;obtain⟨Hrt,He0,He1,Hlen,Hmm,Hpo,Hfb,Hfree,HO⟩:=hid9 hrt he0 he1 hlen hmm hpo hfb hfree hO;clear hO hfree hfb hpo hmm hlen he1 he0 hrt;obtain⟨Hint,Ka,HA,Hb3,HVl,HVb,HD,Hcv,HC⟩:=hid9 hint ka hA hb3 hVl hVb hD hcv hC;clear hC hcv hD hVb hVl hb3 hA ka hint;clear s0 s1 b16;go_enter Tryz.func108,Tryz.ntmps108;go_wp2_with fail;refine(Hfree.out _ Ka.out).mono ?_;rintro e w2 ⟨rfl,hk2⟩;have hk2w:=Ka.out.nt hk2;have hr2:=H.out.keep0 hk2w;have hb32:=Ac Hb3.out hk2 (by simp);refine j50 ?_;intro hS4;obtain⟨Hk2,Hk2w,Hr2,HS4,Hb32⟩:=hid5 hk2 hk2w hr2 hS4 hb32;clear hb32 hS4 hr2 hk2w hk2;go_wp2_with fail;refine Ak (c4S B t.limit (.slice adT n cT) t.cyc t.due t.minFixed t.minPart t.start (.slice (some ⟨g0,0,none⟩) n n) (.slice (some ⟨g1,0,none⟩) n n)) (.take 0 (.take 1 (.take 2 (.take 3 (.take 4 (.take 5 (.take 6 (.take 7 (.take 8 (.take 9 (.take 10 (.take 11 (.take 12 (.take 13 (.take 14 (.move 15 (.take 16 (.take 17 (.take 18 (.take 19 (.take 20 .done))))))))))))))))))))) j4 j4 ?_ ?_
  ·exact HS4.out
  intro w3 hs3 hk3;refine je ?_;intro K hK
  go_at_call 170
  ((with_reducible refine(Hint.out _ (Hk2w.out.nt hk3)).mono ?_);rintro e w4 ⟨gV,rfl,hrV,hk4,hgV⟩;dsimp only)
  refine hK.out _ _ j0j ?_;clear hK K;refine jg ?_;have hk4w:=(Hk2w.out.nt hk3).nt hk4;have hr4:=H.out.keep0 hk4w;have hb34:=Ac (Ac Hb32.out hk3 (by simp)) hk4 (by simp);have hS7:=(show c7S B W.heap.size t.limit (.slice adT n cT) t.cyc t.due t.minFixed t.minPart t.start (.slice av m cv) (.slice ab n cb) s.p.cr s.p.du (.slice ar n cr) fr te w4 from⟨Aa hr4.blk 0,Aa hr4.blk 1,Aa hr4.blk 2,Aa hr4.blk 3,Aa hr4.blk 4,Aa hr4.blk 5,Aa hr4.blk 6,Aa hr4.blk 16,Aa hr4.blk 10,Aa hr4.blk 11,Aa hr4.blk 12,Aa hr4.blk 13,Aa hb34 0,Aa hb34 1⟩).keep (Keeps.drew _);have hclo:=fun(W':World) (hW:Keeps (λ_=>False) w4 W')=>Un t (.slice adT n cT) ((m:Int)+1) fr te s.p.bal V s.R s.p.cr s.p.du ab (some ⟨gV,0,none⟩) ar cb n cr n fb W' Hz.out Hn.out (hr4.keep0 hW).trs j1 hsp (Reads.Ay (hr4.keep0 hW).bal) H.out.nb (hrV.keep hW).reads HVl.out (Reads.Ay (hr4.keep0 hW).rts) H.out.nr Hpr.out (List.all_eq_true.2 λy hy=>(Aw y).2 (HVb.out y hy)) Hrt.out;rw [HD.out] at hclo;have hq1:IntKind.i64.wrap ((m:Int)+1)=(m:Int)+1:=IntWalk.i64_in _ ⟨by omega,by omega⟩;clear hs3;obtain⟨Hk3,Hk4,Hk4w,Hr4,Hb34,HS7,Hclo,HrV,HgV⟩:=hid9 hk3 hk4 hk4w hr4 hb34 hS7 hclo hrV hgV;clear hgV hrV hclo hS7 hb34 hr4 hk4w hk4 hk3;go_wp2_with fail;refine Ak (c7S B W.heap.size t.limit (.slice adT n cT) t.cyc t.due t.minFixed t.minPart t.start (.slice av m cv) (.slice ab n cb) s.p.cr s.p.du (.slice ar n cr) fr te) (.take 0 (.take 1 (.take 2 (.take 3 (.take 4 (.take 5 (.take 6 (.take 7 (.take 8 (.take 9 (.take 10 (.take 11 (.take 12 (.take 13 (.take 14 (.take 15 (.take 16 (.take 17 (.take 18 (.take 19 (.take 20 (.fork3 21 (.take 22 (.take 23 (.take 24 (.take 25 (.fork 26 (.move 27 (.move 28 (.move 29 (.take 30 .done)))) 27 (.move 26 (.move 28 (.move 29 (.take 30 .done))))))))) 26 (.fork 21 (.take 22 (.take 23 (.take 24 (.take 25 (.move 27 (.move 28 (.move 29 (.take 30 .done)))))))) 27 (.move 21 (.take 22 (.take 23 (.take 24 (.take 25 (.move 28 (.move 29 (.take 30 .done))))))))) 27 (.fork 21 (.take 22 (.take 23 (.take 24 (.take 25 (.move 26 (.move 28 (.move 29 (.take 30 .done)))))))) 26 (.move 21 (.take 22 (.take 23 (.take 24 (.take 25 (.move 28 (.move 29 (.take 30 .done))))))))))))))))))))))))))))))) j4 j4 ?_ ?_
  ·exact HS7.out
  intro w7 hs7 hk7;have Hk7:=Lib.hid hk7;clear hk7;refine jR ?_;refine Rw ?_ ?_ ?_ hs7
  ·skip
   refine j7 ?_;intro K hK
   go_at_call 171
   ((with_reducible refine(Hclo.out _ (Hk7.out.nt jp)).mono ?_);rintro e w5 hpost)
   obtain⟨al,cl2,ab2,cb2,rfl,hln,hbn2,hk5,hol,hob⟩:=Cr.uni hpost Hcv.out;clear hpost;dsimp only;refine hK.out _ _ j51 ?_;clear hK K;refine ji ?_;refine Bz ?_ ?_ (hs7.keep j2q)
   ·skip
    refine j15 ?_;refine j52 ?_;intro wE hwE;have k7E:Keeps (λ_=>False) w7 wE:=by rw [hwE];exact(Keeps.nt j2r j16)
    have hb8:wE.heap[w5.heap.size]?=some (.cells #[.int .i64 0,.int .i64 0,.int .i64 0,.int .i64 0,.slice none 0 0,.int .i64 0,.int .i64 0,.int .i64 0,.bool false] 58 (0,0)):=by rw [hwE];exact Ap (heap_alloc_new (w5) _) _
    have hb9:wE.heap[w5.heap.size+1]?=some (.cells #[.slice none 0 0,.int .i64 0,.int .i64 0] 35 (0,0)):=by rw [hwE];exact Av _ _ (by simp)
    have k5E:Keeps (λ_=>False) w5 wE:=by rw [hwE];exact(Keeps.nt j53 j16)
    refine jr ?_;intro hlnE hbnE hs5
    try simp at hs5
    have holE:∀b,(Value.slice al x.lines.length cl2).ownBlock=some b->w7.heap.size<=b:=λb hb=>by have h1:=hol b hb;have h2:=((Keeps.refl (λ_=>False) w7)).size;omega
    have hobE:∀b,(Value.slice ab2 q.bal.length cb2).ownBlock=some b->w7.heap.size<=b:=λb hb=>by have h1:=hob b hb;have h2:=((Keeps.refl (λ_=>False) w7)).size;omega
    rw [<-hwE];obtain⟨b8,hb8e⟩:∃x,x=w5.heap.size:=⟨_,rfl⟩;obtain⟨b9,hb9e⟩:∃x,x=w5.heap.size+1:=⟨_,rfl⟩;exact j54
   ·skip
    refine j15 ?_;refine j55 ?_;intro wE hwE;have k7E:Keeps (λ_=>False) w7 wE:=by rw [hwE];exact(Keeps.nt j2s j17)
    have hb8:wE.heap[w5.heap.size+1]?=some (.cells #[.int .i64 0,.int .i64 0,.int .i64 0,.int .i64 0,.slice none 0 0,.int .i64 0,.int .i64 0,.int .i64 0,.bool false] 58 (0,0)):=by rw [hwE];exact Av _ _ (by simp)
    have hb9:wE.heap[w5.heap.size]?=some (.cells #[.slice none 0 0,.int .i64 0,.int .i64 0] 35 (0,0)):=by rw [hwE];exact Ap (heap_alloc_new (w5) _) _
    have k5E:Keeps (λ_=>False) w5 wE:=by rw [hwE];exact(Keeps.nt j56 j17)
    refine jr ?_;intro hlnE hbnE hs5
    try simp at hs5
    have holE:∀b,(Value.slice al x.lines.length cl2).ownBlock=some b->w7.heap.size<=b:=λb hb=>by have h1:=hol b hb;have h2:=((Keeps.refl (λ_=>False) w7)).size;omega
    have hobE:∀b,(Value.slice ab2 q.bal.length cb2).ownBlock=some b->w7.heap.size<=b:=λb hb=>by have h1:=hob b hb;have h2:=((Keeps.refl (λ_=>False) w7)).size;omega
    rw [<-hwE];obtain⟨b8,hb8e⟩:∃x,x=w5.heap.size+1:=⟨_,rfl⟩;obtain⟨b9,hb9e⟩:∃x,x=w5.heap.size:=⟨_,rfl⟩;exact j18
  ·skip
   refine j19 ?_;refine Bz ?_ ?_ (hs7.keep (Keeps.nt jp (Keeps.alloc _ _)))
   ·skip
    refine j7 ?_;intro K hK
    go_at_call 171
    ((with_reducible refine(Hclo.out _ (Hk7.out.nt jP)).mono ?_);rintro e w5 hpost)
    obtain⟨al,cl2,ab2,cb2,rfl,hln,hbn2,hk5,hol,hob⟩:=Cr.uni hpost Hcv.out;clear hpost;refine j57 ?_;clear hK K;refine j58 ?_;intro wE hwE;have k7E:Keeps (λ_=>False) w7 wE:=by rw [hwE];exact(Keeps.nt j1a j1b)
    have hb8:wE.heap[w7.heap.size]?=some (.cells #[.int .i64 0,.int .i64 0,.int .i64 0,.int .i64 0,.slice none 0 0,.int .i64 0,.int .i64 0,.int .i64 0,.bool false] 58 (0,0)):=by rw [hwE];exact Ap (Ac (heap_alloc_new (w7) _) hk5 (by simp)) _
    have hb9:wE.heap[w5.heap.size]?=some (.cells #[.slice none 0 0,.int .i64 0,.int .i64 0] 35 (0,0)):=by rw [hwE];exact heap_alloc_new (w5) _
    have k5E:Keeps (λ_=>False) w5 wE:=by rw [hwE];exact(Keeps.nt j1c j1b)
    refine jr ?_;intro hlnE hbnE hs5
    try simp at hs5
    have holE:∀b,(Value.slice al x.lines.length cl2).ownBlock=some b->w7.heap.size<=b:=λb hb=>by have h1:=hol b hb;have h2:=((Keeps.nt jp j1d)).size;omega
    have hobE:∀b,(Value.slice ab2 q.bal.length cb2).ownBlock=some b->w7.heap.size<=b:=λb hb=>by have h1:=hob b hb;have h2:=((Keeps.nt jp j1d)).size;omega
    rw [<-hwE];obtain⟨b8,hb8e⟩:∃x,x=w7.heap.size:=⟨_,rfl⟩;obtain⟨b9,hb9e⟩:∃x,x=w5.heap.size:=⟨_,rfl⟩;exact j18
   ·skip
    refine j59 ?_;refine j7 ?_;intro K hK
    go_at_call 171
    ((with_reducible refine(Hclo.out _ (Hk7.out.nt j0p)).mono ?_);rintro e w5 hpost)
    obtain⟨al,cl2,ab2,cb2,rfl,hln,hbn2,hk5,hol,hob⟩:=Cr.uni hpost Hcv.out;clear hpost;refine j5a ?_;clear hK K;refine ji ?_;obtain⟨wE,hwE⟩:∃x,x=w5:=⟨_,rfl⟩;have k7E:Keeps (λ_=>False) w7 wE:=by rw [hwE];exact(Keeps.nt j0p hk5)
    have hb8:wE.heap[w7.heap.size]?=some (.cells #[.int .i64 0,.int .i64 0,.int .i64 0,.int .i64 0,.slice none 0 0,.int .i64 0,.int .i64 0,.int .i64 0,.bool false] 58 (0,0)):=by rw [hwE];exact Ac (Ap (heap_alloc_new (w7) _) _) hk5 (by simp)
    have hb9:wE.heap[w7.heap.size+1]?=some (.cells #[.slice none 0 0,.int .i64 0,.int .i64 0] 35 (0,0)):=by rw [hwE];exact Ac (Av _ _ (by simp)) hk5 (by simp)
    have k5E:Keeps (λ_=>False) w5 wE:=by rw [hwE];exact(Keeps.refl (λ_=>False) w5)
    refine jr ?_;intro hlnE hbnE hs5
    try simp at hs5
    have holE:∀b,(Value.slice al x.lines.length cl2).ownBlock=some b->w7.heap.size<=b:=λb hb=>by have h1:=hol b hb;have h2:=((Keeps.nt jP j1e)).size;omega
    have hobE:∀b,(Value.slice ab2 q.bal.length cb2).ownBlock=some b->w7.heap.size<=b:=λb hb=>by have h1:=hob b hb;have h2:=((Keeps.nt jP j1e)).size;omega
    rw [<-hwE];obtain⟨b8,hb8e⟩:∃x,x=w7.heap.size:=⟨_,rfl⟩;obtain⟨b9,hb9e⟩:∃x,x=w7.heap.size+1:=⟨_,rfl⟩;exact j54
  ·skip
   refine j19 ?_;refine Bz ?_ ?_ (hs7.keep (Keeps.nt jp (Keeps.alloc _ _)))
   ·skip
    refine j7 ?_;intro K hK
    go_at_call 171
    ((with_reducible refine(Hclo.out _ (Hk7.out.nt jQ)).mono ?_);rintro e w5 hpost)
    obtain⟨al,cl2,ab2,cb2,rfl,hln,hbn2,hk5,hol,hob⟩:=Cr.uni hpost Hcv.out;clear hpost;refine j5b ?_;clear hK K;refine j5c ?_;intro wE hwE;have k7E:Keeps (λ_=>False) w7 wE:=by rw [hwE];exact(Keeps.nt j1f j1g)
    have hb8:wE.heap[w5.heap.size]?=some (.cells #[.int .i64 0,.int .i64 0,.int .i64 0,.int .i64 0,.slice none 0 0,.int .i64 0,.int .i64 0,.int .i64 0,.bool false] 58 (0,0)):=by rw [hwE];exact heap_alloc_new (w5) _
    have hb9:wE.heap[w7.heap.size]?=some (.cells #[.slice none 0 0,.int .i64 0,.int .i64 0] 35 (0,0)):=by rw [hwE];exact Ap (Ac (heap_alloc_new (w7) _) hk5 (by simp)) _
    have k5E:Keeps (λ_=>False) w5 wE:=by rw [hwE];exact(Keeps.nt j1c j1g)
    refine jr ?_;intro hlnE hbnE hs5
    try simp at hs5
    have holE:∀b,(Value.slice al x.lines.length cl2).ownBlock=some b->w7.heap.size<=b:=λb hb=>by have h1:=hol b hb;have h2:=((Keeps.nt jp j1h)).size;omega
    have hobE:∀b,(Value.slice ab2 q.bal.length cb2).ownBlock=some b->w7.heap.size<=b:=λb hb=>by have h1:=hob b hb;have h2:=((Keeps.nt jp j1h)).size;omega
    rw [<-hwE];obtain⟨b8,hb8e⟩:∃x,x=w5.heap.size:=⟨_,rfl⟩;obtain⟨b9,hb9e⟩:∃x,x=w7.heap.size:=⟨_,rfl⟩;exact j18
   ·skip
    refine j5d ?_;refine j7 ?_;intro K hK
    go_at_call 171
    ((with_reducible refine(Hclo.out _ (Hk7.out.nt j0q)).mono ?_);rintro e w5 hpost)
    obtain⟨al,cl2,ab2,cb2,rfl,hln,hbn2,hk5,hol,hob⟩:=Cr.uni hpost Hcv.out;clear hpost;refine j5e ?_;clear hK K;refine ji ?_;obtain⟨wE,hwE⟩:∃x,x=w5:=⟨_,rfl⟩;have k7E:Keeps (λ_=>False) w7 wE:=by rw [hwE];exact(Keeps.nt j0q hk5)
    have hb8:wE.heap[w7.heap.size+1]?=some (.cells #[.int .i64 0,.int .i64 0,.int .i64 0,.int .i64 0,.slice none 0 0,.int .i64 0,.int .i64 0,.int .i64 0,.bool false] 58 (0,0)):=by rw [hwE];exact Ac (Av _ _ (by simp)) hk5 (by simp)
    have hb9:wE.heap[w7.heap.size]?=some (.cells #[.slice none 0 0,.int .i64 0,.int .i64 0] 35 (0,0)):=by rw [hwE];exact Ac (Ap (heap_alloc_new (w7) _) _) hk5 (by simp)
    have k5E:Keeps (λ_=>False) w5 wE:=by rw [hwE];exact(Keeps.refl (λ_=>False) w5)
    refine jr ?_;intro hlnE hbnE hs5
    try simp at hs5
    have holE:∀b,(Value.slice al x.lines.length cl2).ownBlock=some b->w7.heap.size<=b:=λb hb=>by have h1:=hol b hb;have h2:=((Keeps.nt jQ j1i)).size;omega
    have hobE:∀b,(Value.slice ab2 q.bal.length cb2).ownBlock=some b->w7.heap.size<=b:=λb hb=>by have h1:=hob b hb;have h2:=((Keeps.nt jQ j1i)).size;omega
    rw [<-hwE];obtain⟨b8,hb8e⟩:∃x,x=w7.heap.size+1:=⟨_,rfl⟩;obtain⟨b9,hb9e⟩:∃x,x=w7.heap.size:=⟨_,rfl⟩;exact j18
structure Na(fr te:Int):Prop where
 lo: -135140<=fr
 le:fr<=te
 hi:te<=2932896
 sh:te<=fr+31
inductive SpanC (day:Int):Int->List (Int×Int)->Prop
 |last {fr te:Int}:Na fr te->fr<=day->day<=te->SpanC day fr [(fr,te)]
 |more {fr te:Int} {S:List (Int×Int)}:Na fr te->te<day->SpanC day (te+1) S->SpanC day fr ((fr,te)::S)
theorem SpanC.head{day fr:Int}{S:List (Int×Int)}(h:SpanC day fr S):∃te S',S=(fr,te)::S'/\Na fr te/\fr<=day/\(te<day->SpanC day (te+1) S'):=by
 cases h with
 |last h1 h2 h3=>exact⟨_,_,rfl,h1,h2,λh=>by omega⟩
 |more h1 h2 h3=>exact⟨_,_,rfl,h1,by have:=h1.le;omega,λ_=>h3⟩
theorem Kv(cd day:Int):∀(f:Nat) (fr:Int),(findW cd day f fr).2=true->SpanC day fr (findW cd day f fr).1/\(findW cd day f fr).1.length<=f:=by
 intro f
 induction f with
 |zero=>intro fr h;cases h
 |succ f ih=>
  intro fr h;unfold findW at h⊢
  split at h
  ·rename_i hl;rw [if_pos hl];have hl2:=hl;unfold lastE at hl2
   split at hl2
   ·cases hl2
   ·rename_i hc
    split at hl2
    ·cases hl2
    ·rename_i hf
     split at hl2
     ·cases hl2
     ·rename_i ht;have hf': -135140<=fr/\fr<=2932896:=j3;have hge:=Qi (fr:=fr) (cd:=cd) hf'.1 hf'.2 j1 j1;have hok:Na fr (lastF fr cd):=⟨hf'.1,hge.1,by omega,hge.2⟩
      split at h
      ·rename_i hd;rw [if_pos hd];obtain⟨h1,h2⟩:=ih _ h;exact⟨.more hok hd.1 h1,by simp only [List.length_cons];omega⟩
      ·rename_i hd;rw [if_neg hd];simp only [Bool.and_eq_true,decide_eq_true_eq] at h;exact⟨.last hok h.1 h.2,by simp⟩
  ·cases h
theorem Sb{t:Tm}{e:Ev}(h:evErr t e=0):e.kind=2->0<=e.amount/\e.amount<=1000000000000000:=by
 intro hk;unfold evErr at h
 split at h
 ·cases h
 ·split at h
  ·cases h
  ·split at h
   ·cases h
   ·split at h
    ·cases h
    ·rename_i ha
     constructor<;>omega
structure RepOk(t:Tm)(L:List Ev)(td:Int):Prop where
 tm:t.err=0
 ev:∀x∈L,evErr t x=0
 ln:L.length<=2000
 d0:t.start<=td
 d1:td<=2932896
 fd:(findW t.cyc td 300 t.start).2=true
 lt:∀x∈L,x.day<=td
theorem Cn{t:Tm}{L:List Ev}{td:Int}(h:Cs t L td=0):RepOk t L td:=by
 unfold Cs at h
 split at h
 ·rename_i h1
  split at h
  ·rename_i h2
   split at h
   ·cases h
   ·rename_i h3
    split at h
    ·cases h
    ·rename_i h4
     split at h
     ·cases h
     ·rename_i h5
      split at h
      ·cases h
      ·rename_i h6;have h5':ofE t.start t.cyc td=0:=j3;refine⟨h1,Sa h2,by omega,by omega,by omega, ?_,λx hx=> ?_⟩
       ·unfold ofE at h5'
        split at h5'
        ·split at h5'
         ·assumption
         ·cases h5'
        ·rename_i hh;exact absurd h5' hh
       ·rcases hb:lateQ td x with _|_
        ·simp [lateQ] at hb;exact hb
        ·exact absurd (List.any_eq_true.2 ⟨x,hx,hb⟩) h6
  ·rename_i h2;exact absurd h h2
 ·cases h
structure StOk(n:Nat)(s:St)(len:Nat):Prop where
 pr:s.p.Ar=true
 nb:s.p.bal.length=n
 nr:s.R.length=n
 rt:∀x∈s.R,0<=x/\x<=10000000
 n0:s.e0.length=n
 n1:s.e1.length=n
 m0:∀r∈s.e0,r.length=len/\∀y∈r,0<=y/\y<=1000000000000000
 m1:∀r∈s.e1,r.length=len/\∀y∈r,0<=y/\y<=10000000
theorem evR_ok(day:Int):∀(M:List Ev) (i:Nat) (p:Ps) (R:List Int),p.Ar=true->(∀x∈R,0<=x/\x<=10000000)->(evR day M i p R).2.2.2=0->
  (evR day M i p R).2.1.Ar=true/\(evR day M i p R).2.1.bal.length=p.bal.length/\(evR day M i p R).2.2.1.length=R.length/\(∀x∈(evR day M i p R).2.2.1,0<=x/\x<=10000000)/\i<=(evR day M i p R).1/\(evR day M i p R).1<=i+M.length:=by
 intro M
 induction M with
 |nil=>intro i p R hp hR _;exact⟨hp,rfl,rfl,hR,Nat.le_refl _,Nat.le_refl _⟩
 |cons e M ih=>
  intro i p R hp hR h;unfold evR at h⊢
  split at h
  ·rename_i hd;rw [if_pos hd]
   split at h
   ·rename_i h0;rw [if_pos h0];obtain⟨a1,a2,a3,a4⟩:=Mx h0;obtain⟨b1,b2,b3,b4,b5,b6⟩:=ih _ _ _ a3 a4 h;exact⟨b1,b2.trans a1,b3.trans a2,b4,by omega,by simp only [List.length_cons];omega⟩
   ·rename_i h0;exact absurd h h0
  ·rename_i hd;rw [if_neg hd];exact⟨hp,rfl,rfl,hR,Nat.le_refl _,by omega⟩
theorem StOk.ev{n len:Nat}{s:St}(h:StOk n s len){M:List Ev}(hz:(evR s.day M s.i s.p s.R).2.2.2=0):StOk n (evSt s (evR s.day M s.i s.p s.R)) len:=by
 obtain⟨b1,b2,b3,b4,_,_⟩:=evR_ok s.day M s.i s.p s.R h.pr h.rt hz;exact⟨b1,b2.trans h.nb,b3.trans h.nr,b4,h.n0,h.n1,h.m0,h.m1⟩
theorem ext_mem{E:List (List Int)}{V:List Int}{r:List Int}(h:r∈List.zipWith (λr v=>r++ [v]) E V):∃a∈E,∃v∈V,r=a++ [v]:=by
 obtain⟨k,hk⟩:=List.getElem?_of_mem h;rw [List.getElem?_zipWith] at hk;rcases h1:E[k]? with _|a
 ·rw [h1] at hk;simp at hk
 ·rcases h2:V[k]? with _|v
  ·rw [h1,h2] at hk;simp at hk
  ·rw [h1,h2] at hk;simp only [Option.some.injEq] at hk;exact⟨a,List.mem_of_getElem? h1,v,List.mem_of_getElem? h2,hk.symm⟩
theorem StOk.fin{n len:Nat}{s:St}(h:StOk n s len):StOk n (endSt s n n) (len+1):=by
 have e0:extL s.e0 s.p.bal n=List.zipWith (λr v=>r++ [v]) s.e0 s.p.bal:=Jy h.nb h.n0;have e1:extL s.e1 s.R n=List.zipWith (λr v=>r++ [v]) s.e1 s.R:=Jy h.nr h.n1;obtain⟨hb,_⟩:=Cc h.pr;refine⟨h.pr,h.nb,h.nr,h.rt, ?_, ?_, ?_, ?_⟩
 ·show(extL s.e0 s.p.bal n).length=n;rw [e0,List.length_zipWith,h.n0,h.nb];omega
 ·show(extL s.e1 s.R n).length=n;rw [e1,List.length_zipWith,h.n1,h.nr];omega
 ·intro r hr;have hr':r∈extL s.e0 s.p.bal n:=hr;rw [e0] at hr';obtain⟨a,ha,v,hv,rfl⟩:=ext_mem hr';obtain⟨h1,h2⟩:=h.m0 a ha;refine⟨by rw [List.length_append,h1];rfl,λy hy=> ?_⟩;rcases List.mem_append.1 hy with hy|hy
  ·exact h2 y hy
  ·obtain rfl:y=v:=by simpa using hy
   exact hb _ hv
 ·intro r hr;have hr':r∈extL s.e1 s.R n:=hr;rw [e1] at hr';obtain⟨a,ha,v,hv,rfl⟩:=ext_mem hr';obtain⟨h1,h2⟩:=h.m1 a ha;refine⟨by rw [List.length_append,h1];rfl,λy hy=> ?_⟩;rcases List.mem_append.1 hy with hy|hy
  ·exact h2 y hy
  ·obtain rfl:y=v:=by simpa using hy
   exact h.rt _ hv
theorem StOk.lens{n len:Nat}{s:St}(h:StOk n s len)(hl:len<=40000):∀(k:Nat) (a b:List Int),s.e0[k]?=some a->s.e1[k]?=some b->a.length=b.length/\a.length<=40000:=λk a b ha hb=>by
 have h1:=(h.m0 a (List.mem_of_getElem? ha)).1;have h2:=(h.m1 b (List.mem_of_getElem? hb)).1;omega
theorem Jz{t:Tm}{L:List Ev}{n len:Nat}{s s':St}{fr te:Int}(hz:t.err=0)(hn:t.trs.length=n)(h:StOk n s len)(hc:Dh t L n s fr te=some s'):StOk n s' 0/\s'.out.length=s.out.length+1/\s'.i=s.i/\s'.day=s.day:=by
 unfold Dh at hc
 split at hc
 ·cases hc
 ·rename_i V hV;obtain⟨v1,v2⟩:=Lu hn h.n0 h.n1 (λr hr=>(h.m0 r hr).2) (λr hr=>(h.m1 r hr).2) hV
  split at hc
  ·cases hc
  ·rename_i x q hx;simp only [Option.some.injEq] at hc;subst hc;obtain⟨q1,q2⟩:=Eb hz h.pr (by rw [v1];exact h.nb.symm) (List.all_eq_true.2 λy hy=>(Aw y).2 (v2 y hy)) hx;have hrep:∀r∈List.replicate n ([]:List Int),r= []:=λr hr=>(List.mem_replicate.1 hr).2;refine⟨⟨q2,q1.trans h.nb,h.nr,h.rt,by simp,by simp,λr hr=> ?_,λr hr=> ?_⟩,by simp,rfl,rfl⟩
   ·rw [hrep r hr];simp
   ·rw [hrep r hr];simp
def walkD(t:Tm)(T:List Ev)(n:Nat):Nat->List (Int×Int)->St->St×Int
 |0,_,s=>(evSt s (evR s.day (T.drop s.i) s.i s.p s.R),(evR s.day (T.drop s.i) s.i s.p s.R).2.2.2)
 |d+1,S,s=>if(evR s.day (T.drop s.i) s.i s.p s.R).2.2.2=0 then
   (match S with
    | []=>(s,5)
    |(fr,te)::S'=>if te=s.day then(match Dh t T n (endSt (evSt s (evR s.day (T.drop s.i) s.i s.p s.R)) n n) fr te with
      |none=>(s,5)
      |some s2=>walkD t T n d S' { s2 with day:=s.day+1 })
     else walkD t T n d ((fr,te)::S') { endSt (evSt s (evR s.day (T.drop s.i) s.i s.p s.R)) n n with day:=s.day+1 })
  else(s,(evR s.day (T.drop s.i) s.i s.p s.R).2.2.2)
def st0(t:Tm):St:=⟨0,t.start,⟨List.replicate t.trs.length 0,0,0⟩,t.trs.map Tn.rate,List.replicate t.trs.length [],List.replicate t.trs.length [], []⟩
theorem st0_ok{t:Tm}(h:t.err=0):StOk t.trs.length (st0 t) 0:=by
 obtain⟨⟨l0,l1⟩,hr,_⟩:=Ck h;have hrep:∀r∈List.replicate t.trs.length ([]:List Int),r= []:=λr hr=>(List.mem_replicate.1 hr).2;refine⟨?_,by simp [st0],by simp [st0],λx hx=> ?_,by simp [st0],by simp [st0],λr hr=> ?_,λr hr=> ?_⟩
 ·have h1:∀k:Nat,sumI (List.replicate k (0:Int))=0:=λk=>by
   induction k with
   |zero=>rfl
   |succ k ih=>rw [List.replicate_succ,sumI,ih];rfl
  have h2:(List.replicate t.trs.length (0:Int)).all Az=true:=List.all_eq_true.2 λx hx=>by rw [(List.mem_replicate.1 hx).2];rfl
  show Ps.Ar ⟨List.replicate t.trs.length 0,0,0⟩=true;simp only [Ps.Ar,scanB,h1,h2,List.length_replicate];simp [Az,l0,l1]
 ·simp only [st0,List.mem_map] at hx;obtain⟨y,hy,rfl⟩:=hx;exact hr y hy
 ·rw [hrep r hr];simp
 ·rw [hrep r hr];simp
def walkR(t:Tm)(L:List Ev)(td:Int):St×Int:=if Cs t L td=0 then walkD t (sortL L) t.trs.length (td-t.start).toNat (allL t.start t.cyc td) (st0 t) else(st0 t,Cs t L td)
theorem Rz{B n cT:Nat}{adT:Option Addr}{c0 c2 c3 c4 c5 c6 c7 c8 c9 c10 c11 c12 c13 c14 c15 c16 c17 c18 c19:Value}{W W2:World}(h:W.heap[B]?=some (.cells #[c0,.slice adT n cT,c2,c3,c4,c5,c6,c7,c8,c9,c10,c11,c12,c13,c14,c15,c16,c17,c18,c19] 178 (0,0)))(hk:Keeps (λ_=>False) W W2)(a b:Nat):
  ((W2.setCell ⟨B,14,none⟩ (.slice (some ⟨a,0,none⟩) n n)).setCell ⟨B,15,none⟩ (.slice (some ⟨b,0,none⟩) n n)).heap[B]?=some (.cells #[c0,.slice adT n cT,c2,c3,c4,c5,c6,c7,c8,c9,c10,c11,c12,c13,.slice (some ⟨a,0,none⟩) n n,.slice (some ⟨b,0,none⟩) n n,c16,c17,c18,c19] 178 (0,0))/\Keeps (λi=>i=B) W ((W2.setCell ⟨B,14,none⟩ (.slice (some ⟨a,0,none⟩) n n)).setCell ⟨B,15,none⟩ (.slice (some ⟨b,0,none⟩) n n)):=by
 have h2:=Ac h hk (by simp);have h3:=(heap_setCell_same _ _ 14 _ _ (.slice (some ⟨a,0,none⟩) n n) h2).trans rfl;have h4:=(heap_setCell_same _ _ 15 _ _ (.slice (some ⟨b,0,none⟩) n n) h3).trans rfl;have k1:Keeps (λi=>i=B) W2 (W2.setCell ⟨B,14,none⟩ (.slice (some ⟨a,0,none⟩) n n)):=Keeps.setCell (S:=λi=>i=B) _ _ _ rfl;have k2:Keeps (λi=>i=B) (W2.setCell ⟨B,14,none⟩ (.slice (some ⟨a,0,none⟩) n n)) ((W2.setCell ⟨B,14,none⟩ (.slice (some ⟨a,0,none⟩) n n)).setCell ⟨B,15,none⟩ (.slice (some ⟨b,0,none⟩) n n)):=Keeps.setCell (S:=λi=>i=B) _ _ _ rfl;have k0:Keeps (λi=>i=B) W W2:=hk.mono (by simp);exact⟨h4,Keeps.trans (Keeps.trans k0 (k1.mono λ_ _ h=> .inl h)) (k2.mono λ_ _ h=> .inl h)⟩
theorem Ta{B n cT:Nat}{adT:Option Addr}{c0 c2 c3 c4 c5 c6 c7 c8 c9 c10 c11 c12 c13 c14 c15 c16 c17 c18 c19:Value}{W:World}(h:W.heap[B]?=some (.cells #[c0,.slice adT n cT,c2,c3,c4,c5,c6,c7,c8,c9,c10,c11,c12,c13,c14,c15,c16,c17,c18,c19] 178 (0,0)))(hn:n<=1000):
  Calls Tryz.prog 105 #[(.pointer (some ⟨B,0,none⟩))] W λe W'=>e= .returned (.tuple #[])/\∃a b,W'.heap[B]?=some (.cells #[c0,.slice adT n cT,c2,c3,c4,c5,c6,c7,c8,c9,c10,c11,c12,c13,.slice (some ⟨a,0,none⟩) n n,.slice (some ⟨b,0,none⟩) n n,c16,c17,c18,c19] 178 (0,0))/\W'.heap[a]?=some (.cells ((List.replicate n si0).map SI.v).toArray 33 (0,0))/\W'.heap[b]?=some (.cells ((List.replicate n si0).map SI.v).toArray 33 (0,0))/\W.heap.size<=a/\W.heap.size<=b/\a≠b/\Keeps (λi=>i=B) W W':=by
 obtain⟨i0,hi,hi0,hi1,hi2⟩:=info_parts Ja;refine j4I ?_;intro hmk;simp only [Int.toNat_natCast,hi1,Nat.mul_one] at hmk;obtain⟨Z,hZ⟩:∃Z,Z=madeCells (Value.slice none 0 0).cells n:=⟨_,rfl⟩;rw [<-hZ] at hmk;rw [Vz] at hZ;have hblk:=h
 have hS:∀W',Keeps (λ_=>False) W W'->(W'.cell? ⟨B,14,none⟩=some c14/\W'.cell? ⟨B,15,none⟩=some c15/\W'.frozen? ⟨B,14,none⟩=false/\W'.frozen? ⟨B,15,none⟩=false/\B<W'.heap.size):=λW' hk=>by
  have hb:=Ac h hk (by simp);exact⟨Aa hb 14,Aa hb 15,Ab hb 14,Ab hb 15,lt_of_block hb⟩
 have q1:=Aa h 1;have bl:=lt_of_block h;obtain⟨H,Hblk,Hi,Hi0,Hi1,Hi2,HZ,HS⟩:=hid8 h hblk hi hi0 hi1 hi2 hZ hS;clear hS hZ hi2 hi1 hi0 hi hblk h;go_enter Tryz.func105,Tryz.ntmps105;go_wp2_with fail;refine Ak (λ_=>True) (.take 0 (.take 1 (.take 3 (.fork 2 (.move 4 (.take 5 (.take 6 (.take 7 (.move 8 .done))))) 4 (.move 2 (.take 5 (.take 6 (.take 7 (.move 8 .done))))))))) j4 j4 ?_ ?_
 ·trivial
 intro w1 hs1 hk1;have Hk1:=Lib.hid hk1;clear hk1 hs1;refine jR ?_;refine Bz ?_ ?_ trivial
 ·skip
  refine jj ?_;refine jR ?_;refine jj ?_;refine j12 ?_;intro s14 s15 s16 s17 sl;have z0:((w1.alloc (.cells Z 33)).alloc (.cells Z 33)).heap[w1.heap.size]?=some (.cells ((List.replicate n si0).map SI.v).toArray 33 (0,0)):=by rw [show((List.replicate n si0).map SI.v).toArray=Z from HZ.out.symm];exact Ap (heap_alloc_new w1 _) _
  have z1:((w1.alloc (.cells Z 33)).alloc (.cells Z 33)).heap[w1.heap.size+1]?=some (.cells ((List.replicate n si0).map SI.v).toArray 33 (0,0)):=by rw [show((List.replicate n si0).map SI.v).toArray=Z from HZ.out.symm];exact Av _ _ (by simp)
  have hka:=(Hk1.out.Af (o:= .cells Z 33)).Af (o:= .cells Z 33);obtain⟨hfb,hfk⟩:=Rz Hblk.out hka (w1.heap.size) (w1.heap.size+1);have hBl:=lt_of_block Hblk.out;have hs1:=Hk1.out.size;have kBB:Keeps (λi=>i=B) ((w1.alloc (.cells Z 33)).alloc (.cells Z 33)) ((((w1.alloc (.cells Z 33)).alloc (.cells Z 33)).setCell ⟨B,14,none⟩ (.slice (some ⟨w1.heap.size,0,none⟩) n n)).setCell ⟨B,15,none⟩ (.slice (some ⟨w1.heap.size+1,0,none⟩) n n)):=(Keeps.setCell (S:=λi=>i=B) _ _ _ rfl).trans (Keeps.setCell _ _ _ (.inl rfl))
  have hfin:∃a b,((((w1.alloc (.cells Z 33)).alloc (.cells Z 33)).setCell ⟨B,14,none⟩ (.slice (some ⟨w1.heap.size,0,none⟩) n n)).setCell ⟨B,15,none⟩ (.slice (some ⟨w1.heap.size+1,0,none⟩) n n)).heap[B]?=some (.cells #[c0,.slice adT n cT,c2,c3,c4,c5,c6,c7,c8,c9,c10,c11,c12,c13,.slice (some ⟨a,0,none⟩) n n,.slice (some ⟨b,0,none⟩) n n,c16,c17,c18,c19] 178 (0,0))/\((((w1.alloc (.cells Z 33)).alloc (.cells Z 33)).setCell ⟨B,14,none⟩ (.slice (some ⟨w1.heap.size,0,none⟩) n n)).setCell ⟨B,15,none⟩ (.slice (some ⟨w1.heap.size+1,0,none⟩) n n)).heap[a]?=some (.cells ((List.replicate n si0).map SI.v).toArray 33 (0,0))/\
   ((((w1.alloc (.cells Z 33)).alloc (.cells Z 33)).setCell ⟨B,14,none⟩ (.slice (some ⟨w1.heap.size,0,none⟩) n n)).setCell ⟨B,15,none⟩ (.slice (some ⟨w1.heap.size+1,0,none⟩) n n)).heap[b]?=some (.cells ((List.replicate n si0).map SI.v).toArray 33 (0,0))/\W.heap.size<=a/\W.heap.size<=b/\a≠b/\Keeps (λi=>i=B) W ((((w1.alloc (.cells Z 33)).alloc (.cells Z 33)).setCell ⟨B,14,none⟩ (.slice (some ⟨w1.heap.size,0,none⟩) n n)).setCell ⟨B,15,none⟩ (.slice (some ⟨w1.heap.size+1,0,none⟩) n n)):=
   ⟨w1.heap.size,w1.heap.size+1,hfb,Ac z0 kBB j1,Ac z1 kBB j1,by omega,by omega,by omega,hfk⟩
  exact j5f
 ·skip
  refine jj ?_;refine jR ?_;refine jj ?_;refine j12 ?_;intro s14 s15 s16 s17 sl;have z0:((w1.alloc (.cells Z 33)).alloc (.cells Z 33)).heap[w1.heap.size]?=some (.cells ((List.replicate n si0).map SI.v).toArray 33 (0,0)):=by rw [show((List.replicate n si0).map SI.v).toArray=Z from HZ.out.symm];exact Ap (heap_alloc_new w1 _) _
  have z1:((w1.alloc (.cells Z 33)).alloc (.cells Z 33)).heap[w1.heap.size+1]?=some (.cells ((List.replicate n si0).map SI.v).toArray 33 (0,0)):=by rw [show((List.replicate n si0).map SI.v).toArray=Z from HZ.out.symm];exact Av _ _ (by simp)
  have hka:=(Hk1.out.Af (o:= .cells Z 33)).Af (o:= .cells Z 33);obtain⟨hfb,hfk⟩:=Rz Hblk.out hka (w1.heap.size+1) (w1.heap.size);have hBl:=lt_of_block Hblk.out;have hs1:=Hk1.out.size;have kBB:Keeps (λi=>i=B) ((w1.alloc (.cells Z 33)).alloc (.cells Z 33)) ((((w1.alloc (.cells Z 33)).alloc (.cells Z 33)).setCell ⟨B,14,none⟩ (.slice (some ⟨w1.heap.size+1,0,none⟩) n n)).setCell ⟨B,15,none⟩ (.slice (some ⟨w1.heap.size,0,none⟩) n n)):=(Keeps.setCell (S:=λi=>i=B) _ _ _ rfl).trans (Keeps.setCell _ _ _ (.inl rfl))
  have hfin:∃a b,((((w1.alloc (.cells Z 33)).alloc (.cells Z 33)).setCell ⟨B,14,none⟩ (.slice (some ⟨w1.heap.size+1,0,none⟩) n n)).setCell ⟨B,15,none⟩ (.slice (some ⟨w1.heap.size,0,none⟩) n n)).heap[B]?=some (.cells #[c0,.slice adT n cT,c2,c3,c4,c5,c6,c7,c8,c9,c10,c11,c12,c13,.slice (some ⟨a,0,none⟩) n n,.slice (some ⟨b,0,none⟩) n n,c16,c17,c18,c19] 178 (0,0))/\((((w1.alloc (.cells Z 33)).alloc (.cells Z 33)).setCell ⟨B,14,none⟩ (.slice (some ⟨w1.heap.size+1,0,none⟩) n n)).setCell ⟨B,15,none⟩ (.slice (some ⟨w1.heap.size,0,none⟩) n n)).heap[a]?=some (.cells ((List.replicate n si0).map SI.v).toArray 33 (0,0))/\
   ((((w1.alloc (.cells Z 33)).alloc (.cells Z 33)).setCell ⟨B,14,none⟩ (.slice (some ⟨w1.heap.size+1,0,none⟩) n n)).setCell ⟨B,15,none⟩ (.slice (some ⟨w1.heap.size,0,none⟩) n n)).heap[b]?=some (.cells ((List.replicate n si0).map SI.v).toArray 33 (0,0))/\W.heap.size<=a/\W.heap.size<=b/\a≠b/\Keeps (λi=>i=B) W ((((w1.alloc (.cells Z 33)).alloc (.cells Z 33)).setCell ⟨B,14,none⟩ (.slice (some ⟨w1.heap.size+1,0,none⟩) n n)).setCell ⟨B,15,none⟩ (.slice (some ⟨w1.heap.size,0,none⟩) n n)):=
   ⟨w1.heap.size+1,w1.heap.size,hfb,Ac z1 kBB j1,Ac z0 kBB j1,by omega,by omega,by omega,hfk⟩
  exact j5f
theorem rowSame{W W':World}{e:TypeId}{sz m:Nat}{v:Value}{xs:List Value}(h:W.ownsRow 0 e sz v m xs)(hb:∀g,v.ownBlock=some g->W'.heap[g]?=W.heap[g]?):W'.ownsRow 0 e sz v m xs:=by
 obtain⟨h1,h2⟩:=h;refine⟨h1, ?_⟩;rcases h2 with h2|⟨g,cap,cur,hv,h3,h4,h5⟩
 ·exact .inl h2
 ·exact .inr ⟨g,cap,cur,hv,h3,(hb g (by rw [hv];rfl)).trans h4,h5⟩
section
variable {w0:World} {X:Fx} {B:Nat} {t:Tm} {n:Nat} {vt:Value} {L:List Ev} {f0 f1 f2:Value} {s:St} {vl vb vr:Value} {g0 g1:Nat} {S0 S1:List SI} {vo:Value} {P:List SV} {W W':World}
theorem RunV.Mm(h:RunV w0 X B t n vt L f0 f1 f2 s vl vb vr g0 g1 S0 S1 vo P W):RunV w0 ⟨X.X,X.X,W⟩ B t n vt L f0 f1 f2 s vl vb vr g0 g1 S0 S1 vo P W:=
 { h with
  yx:=λ_ h=>h
  fz:=λ_ _=>rfl }
end
structure DayP(t:Tm)(T:List Ev)(n:Nat)(td:Int)(A:List (Int×Int))(s:St)(Z:St×Int):Prop where
 sp:∃fr te S',A.drop s.out.length=(fr,te)::S'/\Na fr te/\(te<td->SpanC td (te+1) S')/\fr<=s.day/\s.day<=te/\StOk n s (s.day-fr).toNat/\walkD t T n (td-s.day).toNat ((fr,te)::S') s=Z
 dt:s.day<=td
 i:s.i<=T.length
section
variable {t:Tm} {T:List Ev} {n:Nat} {td:Int} {A:List (Int×Int)} {s:St} {Z:St×Int}
theorem DayP.err(h:DayP t T n td A s Z)(he:(evR s.day (T.drop s.i) s.i s.p s.R).2.2.2≠0):Z.2=(evR s.day (T.drop s.i) s.i s.p s.R).2.2.2:=by
 obtain⟨fr,te,S',_,_,_,_,_,_,hw⟩:=h.sp;rcases hd:(td-s.day).toNat with _|d
 ·rw [hd] at hw;unfold walkD at hw;rw [<-hw]
 ·rw [hd] at hw;unfold walkD at hw;rw [if_neg he] at hw;rw [<-hw]
theorem DayP.last(h:DayP t T n td A s Z)(hd:s.day=td):Z=(evSt s (evR s.day (T.drop s.i) s.i s.p s.R),(evR s.day (T.drop s.i) s.i s.p s.R).2.2.2):=by
 obtain⟨fr,te,S',_,_,_,_,_,_,hw⟩:=h.sp;rw [show(td-s.day).toNat=0 by omega] at hw;unfold walkD at hw;exact hw.symm
theorem DayP.go(h:DayP t T n td A s Z)(he:(evR s.day (T.drop s.i) s.i s.p s.R).2.2.2=0)(hd:s.day≠td)(hz:t.err=0)(hn:t.trs.length=n):
  ∃fr te,A[s.out.length]?=some (fr,te)/\Na fr te/\StOk n (endSt (evSt s (evR s.day (T.drop s.i) s.i s.p s.R)) n n) ((s.day-fr).toNat+1)/\fr<=s.day/\s.day<=te/\s.out.length<A.length/\
   (te≠s.day->DayP t T n td A { endSt (evSt s (evR s.day (T.drop s.i) s.i s.p s.R)) n n with day:=s.day+1 } Z)/\
   (te=s.day->Dh t T n (endSt (evSt s (evR s.day (T.drop s.i) s.i s.p s.R)) n n) fr te=none->Z.2=5)/\
   (te=s.day->∀s2,Dh t T n (endSt (evSt s (evR s.day (T.drop s.i) s.i s.p s.R)) n n) fr te=some s2->DayP t T n td A { s2 with day:=s.day+1 } Z):=by
 obtain⟨fr,te,S',hA,hok,hnx,hfr,hte,hs,hw⟩:=h.sp;have hdt:=h.dt;have hi:=h.i;obtain⟨d,hdd⟩:∃d,(td-s.day).toNat=d+1:=⟨(td-s.day).toNat-1,by omega⟩;rw [hdd] at hw;unfold walkD at hw;rw [if_pos he] at hw
 have hget:A[s.out.length]?=some (fr,te):=by
  have h1:=congrArg (λl=>l[0]?) hA
  simpa using h1
 have hlt:s.out.length<A.length:=by
  obtain⟨hh,_⟩:=List.getElem?_eq_some_iff.1 hget;exact hh
 have hs1:StOk n (endSt (evSt s (evR s.day (T.drop s.i) s.i s.p s.R)) n n) ((s.day-fr).toNat+1):=(hs.ev he).fin;obtain⟨_,_,_,_,i1,i2⟩:=evR_ok s.day (T.drop s.i) s.i s.p s.R hs.pr hs.rt he
 have hi2:(evR s.day (T.drop s.i) s.i s.p s.R).1<=T.length:=by
  rw [List.length_drop] at i2;omega
 refine⟨fr,te,hget,hok,hs1,hfr,hte,hlt,λhne=> ?_,λhe hc=> ?_,λhe s2 hc=> ?_⟩
 ·dsimp only at hw;rw [if_neg hne] at hw;refine⟨⟨fr,te,S',hA,hok,hnx,by show fr<=s.day+1;omega,by show s.day+1<=te;omega, ?_, ?_⟩,by show s.day+1<=td;omega,hi2⟩
  ·show StOk n _ (s.day+1-fr).toNat;rw [show(s.day+1-fr).toNat=(s.day-fr).toNat+1 by omega];exact⟨hs1.pr,hs1.nb,hs1.nr,hs1.rt,hs1.n0,hs1.n1,hs1.m0,hs1.m1⟩
  ·exact j5g
 ·dsimp only at hw;rw [if_pos he,hc] at hw;rw [<-hw]
 ·dsimp only at hw;rw [if_pos he,hc] at hw;obtain⟨c1,c2,c3,c4⟩:=Jz hz hn hs1 hc;obtain⟨te',S'',hS,hok',hfr',hnx'⟩:=(hnx j1).head;subst hS
  have hA2:A.drop (s.out.length+1)=(te+1,te')::S'':=by
   rw [<-List.drop_drop,hA];rfl
  have hlo:=hok'.le;refine⟨⟨te+1,te',S'', ?_,hok',hnx',by show te+1<=s.day+1;omega,by show s.day+1<=te';omega, ?_, ?_⟩,by show s.day+1<=td;omega, ?_⟩
  ·show A.drop s2.out.length=_;rw [c2];exact hA2
  ·show StOk n _ (s.day+1-(te+1)).toNat;rw [show(s.day+1-(te+1)).toNat=0 by omega];exact⟨c1.pr,c1.nb,c1.nr,c1.rt,c1.n0,c1.n1,c1.m0,c1.m1⟩
  ·exact j5g
  ·show s2.i<=T.length;rw [c3];exact hi2
theorem DayP.start{L:List Ev}(hz:Cs t L td=0)(hn:t.trs.length=n):DayP t (sortL L) n td (allL t.start t.cyc td) (st0 t) (walkR t L td):=by
 have hr:=Cn hz;have hA:allL t.start t.cyc td=(findW t.cyc td 300 t.start).1:=by unfold allL;rw [if_pos hr.fd]
 obtain⟨hs,_⟩:=Kv t.cyc td 300 t.start hr.fd;obtain⟨te,S',hS,hok,_,hnx⟩:=hs.head;refine⟨⟨t.start,te,S', ?_,hok,hnx,Int.le_refl _,hok.le, ?_, ?_⟩,hr.d0,Nat.zero_le _⟩
 ·rw [hA,hS];rfl
 ·show StOk n (st0 t) (t.start-t.start).toNat;rw [show(t.start-t.start).toNat=0 by omega,<-hn];exact st0_ok hr.tm
 ·unfold walkR;rw [if_pos hz,hA,hS,hn];rfl
theorem Gf(st cd day:Int):(allL st cd day).length<=300:=by
 unfold allL
 split
 ·rename_i h;exact(Kv cd day 300 st h).2
 ·simp
end
structure Gh(α:Type) where
 ev:α->Ev->Ps->Ps->α
 day:α->Ps->α
 cl:α->St->St->α
section
variable {α:Type} (γ:Gh α)
def evG(day:Int):List Ev->Ps->List Int->α->α
 | [],_,_,a=>a
 |e::M,p,R,a=>if e.day=day then(if(Ch p R e).2.2=0 then evG day M (Ch p R e).1 (Ch p R e).2.1 (γ.ev a e p (Ch p R e).1) else a) else a
def walkG(t:Tm)(T:List Ev)(n:Nat):Nat->List (Int×Int)->St->α->α
 |0,_,s,a=>evG γ s.day (T.drop s.i) s.p s.R a
 |d+1,S,s,a=>if(evR s.day (T.drop s.i) s.i s.p s.R).2.2.2=0 then
   (match S with
    | []=>a
    |(fr,te)::S'=>if te=s.day then(match Dh t T n (endSt (evSt s (evR s.day (T.drop s.i) s.i s.p s.R)) n n) fr te with
      |none=>a
      |some s2=>walkG t T n d S' { s2 with day:=s.day+1 } (γ.cl (γ.day (evG γ s.day (T.drop s.i) s.p s.R a) (evR s.day (T.drop s.i) s.i s.p s.R).2.1) (endSt (evSt s (evR s.day (T.drop s.i) s.i s.p s.R)) n n) s2))
     else walkG t T n d ((fr,te)::S') { endSt (evSt s (evR s.day (T.drop s.i) s.i s.p s.R)) n n with day:=s.day+1 } (γ.day (evG γ s.day (T.drop s.i) s.p s.R a) (evR s.day (T.drop s.i) s.i s.p s.R).2.1))
  else a
def DayS(t:Tm)(T:List Ev)(n:Nat)(td:Int)(A:List (Int×Int))(s:St)(a z:α):Prop:=walkG γ t T n (td-s.day).toNat (A.drop s.out.length) s a=z
end
section
variable {α:Type} {γ:Gh α} {t:Tm} {T:List Ev} {n:Nat} {td:Int} {A:List (Int×Int)} {s:St} {a z:α}
theorem DayS.last(h:DayS γ t T n td A s a z)(hd:s.day=td):evG γ s.day (T.drop s.i) s.p s.R a=z:=by
 unfold DayS at h;rw [show(td-s.day).toNat=0 by omega] at h;exact h
theorem DayS.go(h:DayS γ t T n td A s a z)(he:(evR s.day (T.drop s.i) s.i s.p s.R).2.2.2=0)(hd:s.day<td){fr te:Int}(hA:A[s.out.length]?=some (fr,te)):
  (te≠s.day->DayS γ t T n td A { endSt (evSt s (evR s.day (T.drop s.i) s.i s.p s.R)) n n with day:=s.day+1 } (γ.day (evG γ s.day (T.drop s.i) s.p s.R a) (evR s.day (T.drop s.i) s.i s.p s.R).2.1) z)/\
  (te=s.day->∀s2,Dh t T n (endSt (evSt s (evR s.day (T.drop s.i) s.i s.p s.R)) n n) fr te=some s2->s2.out.length=s.out.length+1->
   DayS γ t T n td A { s2 with day:=s.day+1 } (γ.cl (γ.day (evG γ s.day (T.drop s.i) s.p s.R a) (evR s.day (T.drop s.i) s.i s.p s.R).2.1) (endSt (evSt s (evR s.day (T.drop s.i) s.i s.p s.R)) n n) s2) z):=by
 unfold DayS at h;obtain⟨d,hdd⟩:∃d,(td-s.day).toNat=d+1:=⟨(td-s.day).toNat-1,by omega⟩
 have hdr:A.drop s.out.length=(fr,te)::A.drop (s.out.length+1):=by
  obtain⟨h1,h2⟩:=List.getElem?_eq_some_iff.1 hA;rw [List.drop_eq_getElem_cons h1,h2]
 rw [hdd,hdr] at h;unfold walkG at h;rw [if_pos he] at h;dsimp only at h;refine⟨λhne=> ?_,λhee s2 hc hl=> ?_⟩
 ·rw [if_neg hne] at h;show walkG γ t T n (td-(s.day+1)).toNat (A.drop s.out.length) _ _=z;rw [show(td-(s.day+1)).toNat=d by omega,hdr];exact h
 ·rw [if_pos hee,hc] at h;show walkG γ t T n (td-(s.day+1)).toNat (A.drop s2.out.length) _ _=z;rw [show(td-(s.day+1)).toNat=d by omega,hl];exact h
end
def ghE(n:Nat):Gh (List (List Int)):=⟨λD _ _ _=>D,λD p=>extL D p.bal n,λD _ _=>D⟩
theorem evG_E(n:Nat)(d:Int):∀(M:List Ev) (p:Ps) (R:List Int) (D:List (List Int)),evG (ghE n) d M p R D=D
 | [],_,_,_=>rfl
 |e::M,p,R,D=>by
  unfold evG
  split
  ·split
   ·exact evG_E n d M _ _ D
   ·rfl
  ·rfl
def daysR(t:Tm)(L:List Ev)(td:Int):List (List Int):=walkG (ghE t.trs.length) t (sortL L) t.trs.length (td-t.start).toNat (allL t.start t.cyc td) (st0 t) (List.replicate t.trs.length [])
def DayE(t:Tm)(T:List Ev)(n:Nat)(td:Int)(A:List (Int×Int))(s:St)(D DD:List (List Int)):Prop:=DayS (ghE n) t T n td A s D DD
section
variable {t:Tm} {T:List Ev} {n:Nat} {td:Int} {A:List (Int×Int)} {s:St} {D DD:List (List Int)}
theorem DayE.start{L:List Ev}(hn:t.trs.length=n):DayE t (sortL L) n td (allL t.start t.cyc td) (st0 t) (List.replicate n []) (daysR t L td):=by
 subst hn;exact rfl
theorem DayE.last(h:DayE t T n td A s D DD)(hd:s.day=td):D=DD:=by
 have h1:=DayS.last h hd
 rwa [evG_E] at h1
theorem DayE.go(h:DayE t T n td A s D DD)(he:(evR s.day (T.drop s.i) s.i s.p s.R).2.2.2=0)(hd:s.day<td){fr te:Int}(hA:A[s.out.length]?=some (fr,te)):
  (te≠s.day->DayE t T n td A { endSt (evSt s (evR s.day (T.drop s.i) s.i s.p s.R)) n n with day:=s.day+1 } (extL D (evR s.day (T.drop s.i) s.i s.p s.R).2.1.bal n) DD)/\
  (te=s.day->∀s2,Dh t T n (endSt (evSt s (evR s.day (T.drop s.i) s.i s.p s.R)) n n) fr te=some s2->s2.out.length=s.out.length+1->DayE t T n td A { s2 with day:=s.day+1 } (extL D (evR s.day (T.drop s.i) s.i s.p s.R).2.1.bal n) DD):=by
 have h1:=DayS.go h he hd hA;rw [evG_E] at h1;exact h1
end
def wkX(b8 b13:Nat)(vS:Value):Nat->Prop:=λi=>i=b8\/i=b13\/vS.ownBlock=some i
structure Wt(α:Type) where
 I:α->(Nat->Prop)->World->Prop
 fr:∀{a:α} {G:Nat->Prop} {W W':World},I a G W->(∀b,G b->W'.heap[b]?=W.heap[b]?)->I a G W'
 lt:∀{a:α} {G:Nat->Prop} {W:World} {b:Nat},I a G W->G b->b<W.heap.size
def wt0:Wt Unit where
 I:=λ_ G _=>∀b,¬G b
 fr:=λh _=>h
 lt:=λh hb=>absurd hb (h _)
def fxG(K G:Nat->Prop)(W:World):Fx:=⟨λi=>K i\/G i,λi=>K i\/G i,W⟩
def RunI{α:Type}(V:Wt α)(w:World)(K:Nat->Prop)(B:Nat)(t:Tm)(n:Nat)(vt:Value)(L:List Ev)(f0 f1 f2:Value)(s:St)(a:α)(vl vb vr:Value)(g0 g1:Nat)(S0 S1:List SI)(vo:Value)(P:List SV)(Z W:World):Prop:=
 ∃G,RunV w (fxG K G W) B t n vt L f0 f1 f2 s vl vb vr g0 g1 S0 S1 vo P W/\V.I a G W/\(∀i,K i->¬G i)/\(∀i,K i->W.heap[i]?=Z.heap[i]?)
section
variable {α:Type} {V:Wt α} {w:World} {K:Nat->Prop} {B:Nat} {t:Tm} {n:Nat} {vt:Value} {L:List Ev} {f0 f1 f2:Value} {s s':St} {a a':α} {vl vb vr vb' vr':Value} {g0 g1 g0' g1':Nat} {S0 S1 S0' S1':List SI} {vo vo':Value} {P P':List SV} {Z W W':World}
theorem RunI.same{G:Nat->Prop}(hI:V.I a G W)(hK:∀i,K i->¬G i)(hr:RunV w (fxG K G W) B t n vt L f0 f1 f2 s' vl vb' vr' g0' g1' S0' S1' vo' P' W'):RunI V w K B t n vt L f0 f1 f2 s' a vl vb' vr' g0' g1' S0' S1' vo' P' W W':=
 ⟨G,hr.Mm,V.fr hI λb hb=>hr.fz b (.inr hb),hK,λi hi=>hr.fz i (.inl hi)⟩
theorem RunI.keep0(h:RunI V w K B t n vt L f0 f1 f2 s a vl vb vr g0 g1 S0 S1 vo P Z W)(hk:Keeps (λ_=>False) W W'):RunI V w K B t n vt L f0 f1 f2 s a vl vb vr g0 g1 S0 S1 vo P Z W':=by
 obtain⟨G,hr,hI,hK,hZ⟩:=h;have h1:=hr.keep0 hk;exact⟨G,h1.Mm,V.fr hI λb hb=>h1.fz b (.inr hb),hK,λi hi=>(h1.fz i (.inl hi)).trans (hZ i hi)⟩
theorem RunI.self(h:RunI V w K B t n vt L f0 f1 f2 s a vl vb vr g0 g1 S0 S1 vo P Z W):RunI V w K B t n vt L f0 f1 f2 s a vl vb vr g0 g1 S0 S1 vo P W W:=by
 obtain⟨G,hr,hI,hK,_⟩:=h;exact⟨G,hr.Mm,hI,hK,λ_ _=>rfl⟩
theorem RunI.trans(h:RunI V w K B t n vt L f0 f1 f2 s a vl vb vr g0 g1 S0 S1 vo P Z W)(h2:RunI V w K B t n vt L f0 f1 f2 s' a' vl vb' vr' g0' g1' S0' S1' vo' P' W W'):RunI V w K B t n vt L f0 f1 f2 s' a' vl vb' vr' g0' g1' S0' S1' vo' P' Z W':=by
 obtain⟨_,_,_,_,hZ⟩:=h;obtain⟨G,hr,hI,hK,hZ2⟩:=h2;exact⟨G,hr,hI,hK,λi hi=>(hZ2 i hi).trans (hZ i hi)⟩
end
structure DayW{α:Type}(V:Wt α)(w:World)(B b8 b13:Nat)(t:Tm)(n:Nat)(vt f0 f1 f2:Value)(T:List Ev)(A:List (Int×Int))(vS:Value)(s:St)(a:α)(W:World):Prop where
 run:∃vl vb vr g0 g1 S0 S1 vo P,RunI V w (wkX b8 b13 vS) B t n vt T f0 f1 f2 s a vl vb vr g0 g1 S0 S1 vo P W W
 pos:W.heap[b8]?=some (.cells #[.slice none 0 0,.int .i64 0,.int .i64 0] 35 (0,0))
 spn:∃x y,W.heap[b13]?=some (.cells #[.int .i64 x,.int .i64 y] 55 (0,0))
 row:W.ownsRow 0 55 2 vS A.length (A.flatMap spc)
 lo:w.heap.size<=b8/\w.heap.size<=b13/\∀g,vS.ownBlock=some g->w.heap.size<=g
 nv:∀g,vS.ownBlock=some g->g≠b13
section
variable {α:Type} {V:Wt α} {w:World} {B b8 b13:Nat} {t:Tm} {n:Nat} {vt f0 f1 f2:Value} {T:List Ev} {A:List (Int×Int)} {vS:Value} {s s':St} {a a':α} {W W':World}
theorem DayW.call(h:DayW V w B b8 b13 t n vt f0 f1 f2 T A vS s a W){vl vb vr:Value}{g0 g1:Nat}{S0 S1:List SI}{vo:Value}{P:List SV}(hr:RunI V w (wkX b8 b13 vS) B t n vt T f0 f1 f2 s' a' vl vb vr g0 g1 S0 S1 vo P W W'):DayW V w B b8 b13 t n vt f0 f1 f2 T A vS s' a' W':=by
 obtain⟨G,hr,hI,hK,hb⟩:=hr;obtain⟨x,y,hxy⟩:=h.spn;exact⟨⟨_,_,_,_,_,_,_,_,_,G,hr,hI,hK,λ_ _=>rfl⟩,(hb _ (.inl rfl)).trans h.pos,⟨x,y,(hb _ (.inr (.inl rfl))).trans hxy⟩,rowSame h.row λg hg=>hb g (.inr (.inr hg)),h.lo,h.nv⟩
theorem DayW.span(h:DayW V w B b8 b13 t n vt f0 f1 f2 T A vS s a W)(x y:Int):DayW V w B b8 b13 t n vt f0 f1 f2 T A vS s a ((W.setCell ⟨b13,0,none⟩ (.int .i64 x)).setCell ⟨b13,1,none⟩ (.int .i64 y))/\((W.setCell ⟨b13,0,none⟩ (.int .i64 x)).setCell ⟨b13,1,none⟩ (.int .i64 y)).heap[b13]?=some (.cells #[.int .i64 x,.int .i64 y] 55 (0,0)):=by
 obtain⟨x0,y0,hs⟩:=h.spn;have hb:((W.setCell ⟨b13,0,none⟩ (.int .i64 x)).setCell ⟨b13,1,none⟩ (.int .i64 y)).heap[b13]?=some (.cells #[.int .i64 x,.int .i64 y] 55 (0,0)):=(heap_setCell_same _ _ 1 _ _ _ ((heap_setCell_same _ _ 0 _ _ _ hs).trans rfl)).trans rfl;have hk:Keeps (λi=>i=b13) W ((W.setCell ⟨b13,0,none⟩ (.int .i64 x)).setCell ⟨b13,1,none⟩ (.int .i64 y)):=(Keeps.setCell (S:=λi=>i=b13) _ _ _ rfl).trans (Keeps.setCell _ _ _ (.inl rfl));obtain⟨vl,vb,vr,g0,g1,S0,S1,vo,P,G,hr,hI,hK,_⟩:=h.run;have hr2:RunV w ⟨λi=>wkX b8 b13 vS i\/G i,λ_=>False,W⟩ B t n vt T f0 f1 f2 s vl vb vr g0 g1 S0 S1 vo P W:={ hr with yx:=λ_ h=>h.elim,fz:=λ_ h=>h.elim };have hr3:=(hr2.keep hk (λb hb=>by have e:b=b13:=hb;exact .inl (.inr (.inl e))) (λ_ _ h=>h)).Mm;refine⟨⟨⟨vl,vb,vr,g0,g1,S0,S1,vo,P,G,hr3,V.fr hI λb hb=>hk.block b (V.lt hI hb) (λe=>hK b13 (.inr (.inl rfl)) (by have e':b=b13:=e;exact e'▸hb)),hK,λ_ _=>rfl⟩,Ac h.pos hk (λe=> ?_),⟨x,y,hb⟩,hk.row h.row (λg hg e=>h.nv g hg e),h.lo,h.nv⟩,hb⟩;have e':b8=b13:=e;have h1:=h.pos;rw [e',hs] at h1;exact j0o
theorem DayW.keep0(h:DayW V w B b8 b13 t n vt f0 f1 f2 T A vS s a W)(hk:Keeps (λ_=>False) W W'):DayW V w B b8 b13 t n vt f0 f1 f2 T A vS s a W':=by
 obtain⟨vl,vb,vr,g0,g1,S0,S1,vo,P,hr⟩:=h.run;exact h.call (hr.keep0 hk)
theorem DayW.day(h:DayW V w B b8 b13 t n vt f0 f1 f2 T A vS s a W)(d:Int):DayW V w B b8 b13 t n vt f0 f1 f2 T A vS { s with day:=d } a (W.setCell ⟨B,9,none⟩ (.int .i64 d)):=by
 obtain⟨vl,vb,vr,g0,g1,S0,S1,vo,P,G,hr,hI,hK,_⟩:=h.run;exact h.call (RunI.same hI hK (hr.setDay d))
theorem DayW.c9(h:DayW V w B b8 b13 t n vt f0 f1 f2 T A vS s a W):W.cell? ⟨B,9,none⟩=some (.int .i64 s.day)/\W.frozen? ⟨B,9,none⟩=false/\B<W.heap.size:=by
 obtain⟨vl,vb,vr,g0,g1,S0,S1,vo,P,G,hr,_⟩:=h.run;exact⟨Aa hr.blk 9,Ab hr.blk 9,lt_of_block hr.blk⟩
theorem DayW.keeps(h:DayW V w B b8 b13 t n vt f0 f1 f2 T A vS s a W):∃G,V.I a G W/\Keeps G w W/\¬G b8:=by
 obtain⟨_,_,_,_,_,_,_,_,_,G,hr,hI,hK,_⟩:=h.run
 exact⟨G,hI,hr.kp.mono λk hk hX=>by
  obtain⟨h1,h2,h3⟩:=h.lo;rcases hX with hX|hX
  ·exfalso;rcases hX with rfl|rfl|hX
   ·omega
   ·omega
   ·have:=h3 k hX;omega
  ·exact hX,hK _ (.inl rfl)⟩
end
def EvOk{α:Type}(V:Wt α)(γ:Gh α)(f0 f1 f2:Value)(n:Nat):Prop:=∀{w:World} {K:Nat->Prop} {B:Nat} {t:Tm} {vt:Value} {L:List Ev} {s:St} {a:α} {vl vb vr:Value} {g0 g1:Nat} {S0 S1:List SI} {vo:Value} {P:List SV} {W:World},RunI V w K B t n vt L f0 f1 f2 s a vl vb vr g0 g1 S0 S1 vo P W W->n<=1000->L.length<=1000000->s.i<=L.length->s.p.Ar=true->
 ∀Z:Nat×Ps×List Int×Int,evR s.day (L.drop s.i) s.i s.p s.R=Z->Calls Tryz.prog 106 #[(.pointer (some ⟨B,0,none⟩))] W λe W'=>e= .returned (.int .i64 Z.2.2.2)/\∃vb' vr' a',(Z.2.2.2=0->a'=evG γ s.day (L.drop s.i) s.p s.R a)/\RunI V w K B t n vt L f0 f1 f2 (evSt s Z) a' vl vb' vr' g0 g1 S0 S1 vo P W W'
def EndOk{α:Type}(V:Wt α)(γ:Gh α)(J:Int->α->Prop)(f0 f1 f2:Value)(n:Nat):Prop:=∀{w:World} {K:Nat->Prop} {B:Nat} {t:Tm} {vt:Value} {L:List Ev} {s:St} {a:α} {vl vb vr:Value} {g0 g1:Nat} {S0 S1:List SI} {vo:Value} {P:List SV} {W:World},RunI V w K B t n vt L f0 f1 f2 s a vl vb vr g0 g1 S0 S1 vo P W W->n<=1000->(∀r∈s.e0,r.length<=100000)->(∀r∈s.e1,r.length<=100000)->s.p.Ar=true->J s.day a-> -135140<=s.day->s.day<=2932896->
 Calls Tryz.prog 107 #[(.pointer (some ⟨B,0,none⟩))] W λe W'=>e= .returned (.tuple #[])/\∃S0' S1',RunI V w K B t n vt L f0 f1 f2 (endSt s n n) (γ.day a s.p) vl vb vr g0 g1 S0' S1' vo P W W'
def ClOk{α:Type}(V:Wt α)(γ:Gh α)(f0 f1 f2:Value)(n:Nat):Prop:=∀{w:World} {K:Nat->Prop} {B:Nat} {t:Tm} {vt:Value} {L:List Ev} {s:St} {a:α} {vl vb vr:Value} {g0 g1:Nat} {S0 S1:List SI} {vo:Value} {P:List SV} {W:World},RunI V w K B t n vt L f0 f1 f2 s a vl vb vr g0 g1 S0 S1 vo P W W->
 t.err=0->t.trs.length=n->L.length<=1000000->(∀x∈L,x.kind=2->0<=x.amount/\x.amount<=1000000000000000)->s.p.Ar=true->(∀x∈s.R,0<=x/\x<=10000000)->(∀r∈s.e0,∀y∈r,0<=y/\y<=1000000000000000)->(∀r∈s.e1,∀y∈r,0<=y/\y<=10000000)->
 (∀(k:Nat) (a b:List Int),s.e0[k]?=some a->s.e1[k]?=some b->a.length=b.length/\a.length<=40000)->s.out.length+1<=300->∀fr te:Int,(-135140<=fr/\fr<=te/\te<=2932896)->∀C:Option St,Dh t L n s fr te=C->
 Calls Tryz.prog 108 #[(.pointer (some ⟨B,0,none⟩)),.agg #[.int .i64 fr,.int .i64 te]] W λe W'=>match C with
   |none=>e= .returned (.int .i64 5)/\RunI V w K B t n vt L f0 f1 f2 s a vl vb vr g0 g1 S0 S1 vo P W W'
   |some s'=>e= .returned (.int .i64 0)/\∃vb' g0' g1' vo' P',RunI V w K B t n vt L f0 f1 f2 s' (γ.cl a s s') vl vb' vr g0' g1' (List.replicate n si0) (List.replicate n si0) vo' P' W W'
structure GhOk{α:Type}(γ:Gh α)(J:Int->α->Prop):Prop where
 ev:∀(d:Int) (a:α) (e:Ev) (p q:Ps),J d a->J d (γ.ev a e p q)
 day:∀(d:Int) (a:α) (p:Ps),J d a->J (d+1) (γ.day a p)
 cl:∀(d:Int) (a:α) (s s':St),J d a->J d (γ.cl a s s')
theorem Uh{α:Type}{γ:Gh α}{J:Int->α->Prop}(h:GhOk γ J)(d:Int):∀(M:List Ev) (p:Ps) (R:List Int) (a:α),J d a->J d (evG γ d M p R a)
 | [],_,_,_,ha=>ha
 |e::M,p,R,a,ha=>by
  unfold evG
  split
  ·split
   ·exact Uh h d M _ _ _ (h.ev _ _ _ _ _ ha)
   ·exact ha
  ·exact ha
theorem evG_id{α:Type}{γ:Gh α}(h:∀a e p q,γ.ev a e p q=a)(d:Int):∀(M:List Ev) (p:Ps) (R:List Int) (a:α),evG γ d M p R a=a
 | [],_,_,_=>rfl
 |e::M,p,R,a=>by
  unfold evG
  split
  ·split
   ·rw [h];exact evG_id h d M _ _ a
   ·rfl
  ·rfl
theorem Wq{α:Type}(V:Wt α){γ:Gh α}(h:∀a e p q,γ.ev a e p q=a)(f1 f2:Value)(n:Nat):EvOk V γ .nilFunc f1 f2 n:=by
 rintro w K B t vt L s a vl vb vr g0 g1 S0 S1 vo P W ⟨G,hr,hI,hK,_⟩ hn hl hi _ Z hZ;refine(Qx hr hn hl hi Z hZ).mono ?_;rintro e W' ⟨rfl,vb',vr',hr'⟩;exact⟨rfl,vb',vr',a,λ_=>(evG_id h _ _ _ _ _).symm,RunI.same hI hK hr'⟩
theorem endOk_nil{α:Type}(V:Wt α){γ:Gh α}(J:Int->α->Prop)(h:∀a p,γ.day a p=a)(f0 f2:Value)(n:Nat):EndOk V γ J f0 .nilFunc f2 n:=by
 rintro w K B t vt L s a vl vb vr g0 g1 S0 S1 vo P W ⟨G,hr,hI,hK,_⟩ hn h0 h1 _ _ _ _;refine(Xl hr hn h0 h1).mono ?_;rintro e W' ⟨rfl,S0',S1',hr'⟩;rw [h];exact⟨rfl,S0',S1',RunI.same hI hK hr'⟩
theorem Wz{α:Type}(V:Wt α){γ:Gh α}(h:∀a s s',γ.cl a s s'=a)(f0 f1:Value)(n:Nat):ClOk V γ f0 f1 .nilFunc n:=by
 rintro w K B t vt L s a vl vb vr g0 g1 S0 S1 vo P W ⟨G,hr,hI,hK,_⟩ hz hn hl hok hpr hrt he0 he1 hlen hcy fr te hsp C hC;refine(Tc hr hz hn hl hok hpr hrt he0 he1 hlen hcy fr te hsp C hC).mono ?_;intro e W' h';rcases C with _|s'
 ·exact⟨h'.1,RunI.same hI hK h'.2⟩
 ·obtain⟨h1,vb',g0',g1',vo',P',hr'⟩:=h';exact⟨h1,vb',g0',g1',vo',P',by rw [h];exact RunI.same hI hK hr'⟩
theorem tbS.keepS{E:Nat}{t:Tm}{v:Value}{w w':World}{S:Nat->Prop}(h:tbS E t v w)(hk:Keeps S w w')(hS:¬S E):tbS E t v w':=by
 obtain⟨h0,h1,h2,h3,h4,h5,h6⟩:=h;exact⟨(hk.cell (Ai h0) hS).trans h0,(hk.cell (Ai h1) hS).trans h1,(hk.cell (Ai h2) hS).trans h2,(hk.cell (Ai h3) hS).trans h3,(hk.cell (Ai h4) hS).trans h4,(hk.cell (Ai h5) hS).trans h5,(hk.cell (Ai h6) hS).trans h6⟩
structure PreR(w:World)(B b8 b13:Nat)(t:Tm)(n:Nat)(vt:Value)(T:List Ev)(A:List (Int×Int))(vS vl vb:Value)(f0 f1 f2:Value)(vr:Value)(k:Nat)(W:World):Prop where
 blk:W.heap[B]?=some (.cells #[.int .i64 t.limit,vt,.int .i64 t.cyc,.int .i64 t.due,.int .i64 t.minFixed,.int .i64 t.minPart,.int .i64 t.start,vl,.int .i64 0,.int .i64 t.start,vb,.int .i64 0,.int .i64 0,vr,.slice none 0 0,.slice none 0 0,.slice none 0 0,f0,f1,f2] 178 (0,0))
 tb:tbS w.heap.size t vt W
 evs:W.ownsRow 0 32 5 vl T.length (T.flatMap Ev.cells)
 bal:W.ownsRow 0 2 1 vb n ((List.replicate n (0:Int)).flatMap i64c)
 rts:W.ownsRow 0 2 1 vr k (((t.trs.map Tn.rate).take k).flatMap i64c)
 pos:W.heap[b8]?=some (.cells #[.slice none 0 0,.int .i64 0,.int .i64 0] 35 (0,0))
 spn:W.heap[b13]?=some (.cells #[.int .i64 0,.int .i64 0] 55 (0,0))
 row:W.ownsRow 0 55 2 vS A.length (A.flatMap spc)
 lo:w.heap.size<=b8/\w.heap.size<=b13/\w.heap.size<=B/\∀g,vS.ownBlock=some g->w.heap.size<=g
 nv:∀g,vS.ownBlock=some g->g≠b13
 wl:∀g,vl.ownBlock=some g->w.heap.size<=g
 wb:∀g,vb.ownBlock=some g->w.heap.size<=g
 wr:∀g,vr.ownBlock=some g->w.heap.size<=g
 br:∀g,vb.ownBlock=some g->vr.ownBlock≠some g
 tn:vr.ownBlock≠some w.heap.size
 kp:Keeps (λ_=>False) w W
section
variable {w:World} {B b8 b13:Nat} {t:Tm} {n:Nat} {vt:Value} {T:List Ev} {A:List (Int×Int)} {vS vl vb f0 f1 f2 vr:Value} {k:Nat} {W W':World}
theorem PreR.keep0(h:PreR w B b8 b13 t n vt T A vS vl vb f0 f1 f2 vr k W)(hk:Keeps (λ_=>False) W W'):PreR w B b8 b13 t n vt T A vS vl vb f0 f1 f2 vr k W':=
 { h with
  blk:=Ac h.blk hk (by simp)
  tb:=h.tb.keep hk
  evs:=h.evs.of_keeps hk
  bal:=h.bal.of_keeps hk
  rts:=h.rts.of_keeps hk
  pos:=Ac h.pos hk (by simp)
  spn:=Ac h.spn hk (by simp)
  row:=h.row.of_keeps hk
  kp:=h.kp.nt hk }
theorem PreR.app(h:PreR w B b8 b13 t n vt T A vS vl vb f0 f1 f2 vr k W)(hnB:¬B=w.heap.size){x:Int}(hx:(t.trs.map Tn.rate)[k]?=some x){v9:Value}(hk:Keeps (λi=>vr.ownBlock=some i) W W')(hr:W'.ownsRow 0 2 1 v9 (k+1) (((t.trs.map Tn.rate).take k++ [x]).flatMap i64c))
  (hf:v9.ownBlock=vr.ownBlock\/∃g,v9.ownBlock=some g/\W.heap.size<=g):PreR w B b8 b13 t n vt T A vS vl vb f0 f1 f2 v9 (k+1) (W'.setCell ⟨B,13,none⟩ v9):=by
 have nb:∀{e:TypeId} {b:Nat} {c:Array Value},W.heap[b]?=some (.cells c e (0,0))->e≠2->¬vr.ownBlock=some b:=λhb hne=>Ag h.rts hb hne;have nr:∀{e:TypeId} {sz m:Nat} {u:Value} {xs:List Value},W.ownsRow 0 e sz u m xs->e≠2->∀b,u.ownBlock=some b->¬vr.ownBlock=some b:=λhr' hne b hb e=>Cm hr' h.rts hne hb e;have hB:=Ac h.blk hk (nb h.blk j2);have kB:Keeps (λi=>i=B) W' (W'.setCell ⟨B,13,none⟩ v9):=Keeps.setCell _ _ _ rfl;have hne:∀{e:TypeId} {sz m:Nat} {v:Value} {xs:List Value},W'.ownsRow 0 e sz v m xs->178≠e->∀i,v.ownBlock=some i->¬i=B:=λhr hne i hi e=>by subst e;exact Ag hr hB hne hi
 have nog:∀{e:TypeId} {g:Nat} {c:Array Value},W'.heap[g]?=some (.cells c e (0,0))->178≠e->¬g=B:=λhg hne' e=>by
  subst e;rw [hB] at hg;exact j2t
 have hp:=Ac h.pos hk (nb h.pos j2);have hs:=Ac h.spn hk (nb h.spn j2);have he:=hk.row h.evs (nr h.evs j2);have ho:=hk.row h.row (nr h.row j2);have hbl:=hk.row h.bal (λb hb=>h.br b hb);have hsz:=h.kp.size;refine⟨(heap_setCell_same _ _ 13 _ _ _ hB).trans rfl, ?_,kB.row he (hne he j2),kB.row hbl (hne hbl j2), ?_,Ac hp kB (nog hp j2),Ac hs kB (nog hs j2),kB.row ho (hne ho j2),h.lo,h.nv,h.wl,h.wb,λg hg=> ?_,λg hg e=> ?_,λe=> ?_, ?_⟩
 ·exact(h.tb.keepS hk h.tn).keepS kB (λe=>hnB (Eq.symm e))
 ·rw [take_snoc' hx];exact kB.row hr (hne hr j2)
 ·rcases hf with e|⟨g',e,hh⟩
  ·exact h.wr g (e▸hg)
  ·rw [e] at hg;injection hg with hg;omega
 ·rcases hf with e'|⟨g',e',hh⟩
  ·exact h.br g hg (e'▸e)
  ·rw [e'] at e;injection e with e;have:=Bh h.bal hg;omega
 ·rcases hf with e'|⟨g',e',hh⟩
  ·exact h.tn (e'▸e)
  ·rw [e'] at e;injection e with e;have:w.heap.size<W.heap.size:=Ai h.tb.1;omega
 ·exact(h.kp.trans (hk.mono λi _ e=> .inr (h.wr i e))).trans (kB.mono λi _ e=> .inr (by have e':i=B:=e;rw [e'];exact h.lo.2.2.1))
theorem PreR.start(hb:W.heap[B]?=some (.cells #[.int .i64 t.limit,vt,.int .i64 t.cyc,.int .i64 t.due,.int .i64 t.minFixed,.int .i64 t.minPart,.int .i64 t.start,vl,.int .i64 0,.int .i64 t.start,.slice none 0 0,.int .i64 0,.int .i64 0,.slice none 0 0,.slice none 0 0,.slice none 0 0,.slice none 0 0,f0,f1,f2] 178 (0,0)))(htb:tbS w.heap.size t vt W)(he:W.ownsRow 0 32 5 vl T.length (T.flatMap Ev.cells))
  (hp:W.heap[b8]?=some (.cells #[.slice none 0 0,.int .i64 0,.int .i64 0] 35 (0,0))) (hs:W.heap[b13]?=some (.cells #[.int .i64 0,.int .i64 0] 55 (0,0))) (hr:W.ownsRow 0 55 2 vS A.length (A.flatMap spc)) (lo:w.heap.size<=b8/\w.heap.size<=b13/\w.heap.size<=B/\∀g,vS.ownBlock=some g->w.heap.size<=g) (nv:∀g,vS.ownBlock=some g->g≠b13) (wl:∀g,vl.ownBlock=some g->w.heap.size<=g)
  (hn:n<=maxLen) (hnB:B≠w.heap.size) (hk:Keeps (λ_=>False) w W):PreR w B b8 b13 t n vt T A vS vl (.slice (some ⟨W.heap.size,0,none⟩) n n) f0 f1 f2 (.slice none 0 0) 0 ((W.alloc (.cells (madeCells (Value.int .i64 0).cells n) 2)).setCell ⟨B,10,none⟩ (.slice (some ⟨W.heap.size,0,none⟩) n n)):=by
 have kA:Keeps (λ_=>False) W (W.alloc (.cells (madeCells (Value.int .i64 0).cells n) 2)):=Keeps.alloc _ _;have kB:Keeps (λi=>i=B) (W.alloc (.cells (madeCells (Value.int .i64 0).cells n) 2)) ((W.alloc (.cells (madeCells (Value.int .i64 0).cells n) 2)).setCell ⟨B,10,none⟩ (.slice (some ⟨W.heap.size,0,none⟩) n n)):=Keeps.setCell _ _ _ rfl;have hne:∀{e:TypeId} {sz m:Nat} {v:Value} {xs:List Value},W.ownsRow 0 e sz v m xs->178≠e->∀i,v.ownBlock=some i->¬i=B:=λhr hne i hi e=>by subst e;exact Ag hr hb hne hi
 have nog:∀{e:TypeId} {g:Nat} {c:Array Value},W.heap[g]?=some (.cells c e (0,0))->178≠e->¬g=B:=λhg hne' e=>by
  subst e;rw [hb] at hg;exact j2t
 have hbl:=lt_of_block hb;have hks:=hk.size;have hm:=(RowZ.made W 2 n hn).1;refine⟨(heap_setCell_same _ _ 10 _ _ _ (Ap hb _)).trans rfl,(htb.keep kA).keepS kB (λe=>hnB (Eq.symm e)),kB.row (he.of_keeps kA) (hne he j2),kB.row hm (λi hi e=>by simp [Value.ownBlock] at hi;have e':i=B:=e;omega),World.ownsRow_nil _ _ _ _,Ac (Ap hp _) kB (nog hp j2),Ac (Ap hs _) kB (nog hs j2),kB.row (hr.of_keeps kA) (hne hr j2),lo,nv,wl,λg hg=> ?_,λg hg=>by simp [Value.ownBlock] at hg,λg hg e=>by simp [Value.ownBlock] at e,by simp [Value.ownBlock], ?_⟩
 ·simp [Value.ownBlock] at hg;omega
 ·exact(hk.nt kA).trans (kB.mono λi _ e=> .inr (by have e':i=B:=e;have:=lo.2.2.1;omega))
theorem PreR.fin{α:Type}{V:Wt α}{a0:α}{G0:Nat->Prop}(hI:V.I a0 G0 w)(hG:∀b,vt.ownBlock=some b->¬G0 b)(h:PreR w B b8 b13 t n vt T A vS vl vb f0 f1 f2 vr n W)(hn:t.trs.length=n)(hvt:Reads w 2 vt n (t.trs.flatMap Tn.cells))(hvb:∀b,vt.ownBlock=some b->b<w.heap.size){a b:Nat}(hB:W'.heap[B]?=some (.cells #[.int .i64 t.limit,vt,.int .i64 t.cyc,.int .i64 t.due,.int .i64 t.minFixed,.int .i64 t.minPart,.int .i64 t.start,vl,.int .i64 0,.int .i64 t.start,vb,.int .i64 0,.int .i64 0,vr,.slice (some ⟨a,0,none⟩) n n,.slice (some ⟨b,0,none⟩) n n,.slice none 0 0,f0,f1,f2] 178 (0,0)))
  (ha:W'.heap[a]?=some (.cells ((List.replicate n si0).map SI.v).toArray 33 (0,0))) (hb:W'.heap[b]?=some (.cells ((List.replicate n si0).map SI.v).toArray 33 (0,0))) (la:W.heap.size<=a) (lb:W.heap.size<=b) (hab:a≠b) (hk:Keeps (λi=>i=B) W W'):DayW V w B b8 b13 t n vt f0 f1 f2 T A vS (st0 t) a0 W':=by
 have hne:∀{e:TypeId} {sz m:Nat} {v:Value} {xs:List Value},W.ownsRow 0 e sz v m xs->178≠e->∀i,v.ownBlock=some i->¬i=B:=λhr hne i hi e=>by subst e;exact Ag hr h.blk hne hi
 have nog:∀{e:TypeId} {g:Nat} {c:Array Value},W.heap[g]?=some (.cells c e (0,0))->178≠e->¬g=B:=λhg hne' e=>by
  subst e;rw [h.blk] at hg;exact j2t
 refine j4H ?_;intro hnil hget;obtain⟨lo1,lo2,lo3,lo4⟩:=h.lo;have hks:=h.kp.size
 have nX:∀i,W.heap.size<=i->¬wkX b8 b13 vS i:=λi hi e=>by
  rcases e with e|e|e
  ·have:=lt_of_block h.pos;omega
  ·have:=lt_of_block h.spn;omega
  ·have:=Bh h.row e;omega
 have nR:∀{e:TypeId} {sz m:Nat} {v:Value} {xs:List Value},W.ownsRow 0 e sz v m xs->e≠35->e≠55->∀i,v.ownBlock=some i->¬wkX b8 b13 vS i:=λhr h1 h2 i hi e=>by
  rcases e with e|e|e
  ·subst e;exact Ag hr h.pos (Ne.symm h1) hi
  ·subst e;exact Ag hr h.spn (Ne.symm h2) hi
  ·exact Cm h.row hr h2.symm e hi
 have nB:¬wkX b8 b13 vS B:=λe=>by
  rcases e with e|e|e
  ·exact nog h.pos j2 e.symm
  ·exact nog h.spn j2 e.symm
  ·exact hne h.row j2 _ e rfl
 have hk0:Keeps (λ_=>False) w W':=h.kp.trans (hk.mono λi _ e=> .inr (by have e':i=B:=e;omega));have nG:∀i,w.heap.size<=i->¬G0 i:=λi hi e=>by have:=V.lt hI e;omega
 have hrt:=h.rts;rw [List.take_of_length_le (by rw [List.length_map];omega)] at hrt;refine⟨⟨vl,vb,vr,a,b,List.replicate n si0,List.replicate n si0,.slice none 0 0, [],G0, ?_,V.fr hI (λi hi=>hk0.block i (V.lt hI hi) (by simp)),λi hi=> ?_,λ_ _=>rfl⟩,Ac h.pos hk (nog h.pos j2),⟨0,0,Ac h.spn hk (nog h.spn j2)⟩,hk.row h.row (hne h.row j2),⟨lo1,lo2,lo4⟩,h.nv⟩
 rotate_left
 ·rcases hi with rfl|rfl|hi
  ·exact nG _ lo1
  ·exact nG _ lo2
  ·exact nG _ (lo4 _ hi)
 exact {
  blk:=hB
  trs:=hvt.keeps hk0 (by simp)
  evs:=hk.row h.evs (hne h.evs j2)
  bal:=by show W'.ownsRow 0 _ 1 vb n ((List.replicate t.trs.length (0:Int)).flatMap i64c);rw [hn];exact hk.row h.bal (hne h.bal j2)
  rts:=hk.row hrt (hne hrt j2)
  o0:=ha
  o1:=hb
  i0:=λx hx=>by rw [hnil x hx];exact World.ownsRow_nil _ _ _ _
  i1:=λx hx=>by rw [hnil x hx];exact World.ownsRow_nil _ _ _ _
  out:=World.ownsRow_nil _ _ _ _
  ln:=λx hx=>by simp at hx
  l0:=by simp [si0,st0,hn]
  l1:=by simp [si0,st0,hn]
  lp:=rfl
  n0:=by simp
  n1:=by simp
  nb:=by simp [st0,hn]
  nr:=by simp [st0,hn]
  d00:=λj k x y hx hy _ b e=>by rw [hget j x hx] at e;simp [si0,SI.v,Value.ownBlock] at e
  d11:=λj k x y hx hy _ b e=>by rw [hget j x hx] at e;simp [si0,SI.v,Value.ownBlock] at e
  d01:=λx y hx hy b e=>by rw [hnil x hx] at e;simp [si0,SI.v,Value.ownBlock] at e
  db0:=λx hx b e=>by rw [hnil x hx] at e;simp [si0,SI.v,Value.ownBlock] at e
  db1:=λx hx b e=>by rw [hnil x hx] at e;simp [si0,SI.v,Value.ownBlock] at e
  g01:=hab
  wB:=⟨lo3,λe=>e.elim nB (nG _ lo3)⟩
  w0':=⟨by omega,λe=>e.elim (nX a la) (nG _ j1)⟩
  w1':=⟨by omega,λe=>e.elim (nX b lb) (nG _ j1)⟩
  wl:=λi hi=>⟨h.wl i hi,λe=>e.elim (nR h.evs j2 j2 i hi) (nG _ (h.wl i hi))⟩
  wb:=λi hi=>⟨h.wb i hi,λe=>e.elim (nR h.bal j2 j2 i hi) (nG _ (h.wb i hi))⟩
  wr:=λi hi=>⟨h.wr i hi,λe=>e.elim (nR h.rts j2 j2 i hi) (nG _ (h.wr i hi))⟩
  wo:=λi hi=>by simp [Value.ownBlock] at hi
  wi0:=λx hx b e=>by rw [hnil x hx] at e;simp [si0,SI.v,Value.ownBlock] at e
  wi1:=λx hx b e=>by rw [hnil x hx] at e;simp [si0,SI.v,Value.ownBlock] at e
  wln:=λx hx=>by simp at hx
  wt:=λi hi=>⟨hvb i hi,λe=>by
   have:=hvb i hi;rcases e with(e|e|e)|e
   ·omega
   ·omega
   ·have:=lo4 i e;omega
   ·exact hG i hi e⟩
  xl:=λi e=>by
   rcases e with(e|e|e)|e
   ·subst e;exact Nat.lt_of_lt_of_le (lt_of_block h.pos) hk.size
   ·subst e;exact Nat.lt_of_lt_of_le (lt_of_block h.spn) hk.size
   ·exact Nat.lt_of_lt_of_le (Bh h.row e) hk.size
   ·exact Nat.lt_of_lt_of_le (V.lt hI e) hk0.size
  yx:=λ_ e=>e
  fz:=λ_ _=>rfl
  kp:=hk0.mono (by simp) }
end
end Go.Proofs.YtgfkeeicjjbnpaaGreat
