/- Part 9 of what the laws of this seat share: walks of functions, and plain laws. -/
import Derived.Test.YtgbgmadkmabeeaaGreatB8
set_option maxRecDepth 100000
set_option maxHeartbeats 6400000
namespace Go.Proofs.YtgbgmadkmabeeaaGreat
open Go.RowKit
theorem Xu{w0:World}{X:Fx}{B:Nat}{t:Tm}{n:Nat}{vt:Value}{L:List Ev}{f0 f1:Value}{s:St}{vl vb vr:Value}{g0 g1:Nat}{S0 S1:List SI}{vo:Value}{P:List SV}{W:World}(h:RunV w0 X B t n vt L f0 f1 .nilFunc s vl vb vr g0 g1 S0 S1 vo P W)
  (hz:t.err=0) (hn:t.trs.length=n) (hl:L.length<=1000000) (hok:∀x∈L,x.kind=2->0<=x.amount/\x.amount<=1000000000000000) (hpr:s.p.Bg=true) (hrt:∀x∈s.R,0<=x/\x<=10000000)
  (he0:∀r∈s.e0,∀y∈r,0<=y/\y<=1000000000000000) (he1:∀r∈s.e1,∀y∈r,0<=y/\y<=10000000) (hlen:∀(k:Nat) (a b:List Int),s.e0[k]?=some a->s.e1[k]?=some b->a.length=b.length/\a.length<=40000)
  (hcy:s.out.length+1<=300) (fr te:Int) (hsp: -135140<=fr/\fr<=te/\te<=2932896) (C:Option St) (hC:Fa t L n s fr te=C):
  Calls Tryz.prog 184 #[(.pointer (some ⟨B,0,none⟩)),.agg #[.int .i64 fr,.int .i64 te]] W λe W'=>match C with
   |none=>e= .returned (.int .i64 5)/\RunV w0 X B t n vt L f0 f1 .nilFunc s vl vb vr g0 g1 S0 S1 vo P W'
   |some s'=>e= .returned (.int .i64 0)/\∃vb' g0' g1' vo' P',RunV w0 X B t n vt L f0 f1 .nilFunc s' vl vb' vr g0' g1' (List.replicate n si0) (List.replicate n si0) vo' P' W':=by
 obtain⟨i0,hi,hi0,hi1,hi2⟩:=info_parts Mq;have hnum:=Fg hz;rw [hn] at hnum;obtain⟨⟨l0,l1⟩,_⟩:=hnum;obtain⟨adT,cT,rfl⟩:∃a c,vt= .slice a n c:=by obtain⟨a,c,h,_⟩:=h.trs;exact⟨a,c,h⟩
 obtain⟨ab,cb,rfl⟩:∃a c,vb= .slice a n c:=by obtain⟨a,c,h,_⟩:=Ae h.bal;exact⟨a,c,h⟩
 obtain⟨ar,cr,rfl⟩:∃a c,vr= .slice a n c:=by obtain⟨a,c,h,_⟩:=Ae h.rts;exact⟨a,c,h⟩
 obtain⟨m,hmm⟩:∃m,P.length=m:=⟨_,rfl⟩;obtain⟨av,cv,rfl⟩:∃a c,vo= .slice a m c:=by obtain⟨a,c,h,_⟩:=Ae h.out;rw [hmm] at h;exact⟨a,c,h⟩
 have hpo:s.out.length=m:=by rw [<-h.lp,List.length_map];exact hmm
 have hm1:m+1<=300:=by rw [<-hpo];exact hcy
 obtain⟨fb,hfb⟩:∃fb,freeB s.out fr L=fb:=⟨_,rfl⟩;have hfree:=fun(W':World) (hW:Keeps (λ_=>False) W W')=>Aa1 (h.keep0 hW) hl j6 hok fr te;rw [hfb] at hfree;obtain⟨O,hO⟩:∃O,intrO fb t.trs s.e0 s.e1=O:=⟨_,rfl⟩
 have hint:=fun(W':World) (hW:Keeps (λ_=>False) W W')=>Si t (.slice adT n cT) S0 S1 (some ⟨g0,0,none⟩) (some ⟨g1,0,none⟩) n n n fb W' hz hn (h.keep0 hW).trs (Zx (h.keep0 hW).o0 h.n0) h.n0
  (λx hx=>⟨Reads.Az ((h.keep0 hW).i0 x hx),by
   obtain⟨k,hk⟩:=List.getElem?_of_mem hx;obtain⟨y,hy⟩:=Aq (L:=S1) (k:=k) (by rw [h.n1,<-h.n0];exact Db hk);have:=hlen k x.L y.L (by rw [<-h.l0,List.getElem?_map,hk];rfl) (by rw [<-h.l1,List.getElem?_map,hy];rfl)
   unfold maxLen;omega⟩)
  (Zx (h.keep0 hW).o1 h.n1) h.n1
  (λy hy=>⟨Reads.Az ((h.keep0 hW).i1 y hy),by
   obtain⟨k,hk⟩:=List.getElem?_of_mem hy;obtain⟨x,hx⟩:=Aq (L:=S0) (k:=k) (by rw [h.n0,<-h.n1];exact Db hk);have:=hlen k x.L y.L (by rw [<-h.l0,List.getElem?_map,hx];rfl) (by rw [<-h.l1,List.getElem?_map,hk];rfl)
   unfold maxLen;omega⟩)
  (λk x y hx hy=>hlen k x.L y.L (by rw [<-h.l0,List.getElem?_map,hx];rfl) (by rw [<-h.l1,List.getElem?_map,hy];rfl))
  (λx hx=>he0 x.L (by rw [<-h.l0];exact List.mem_map_of_mem hx)) (λx hx=>he1 x.L (by rw [<-h.l1];exact List.mem_map_of_mem hx))
 rw [h.l0,h.l1,hO] at hint;unfold Fa at hC;rw [hfb,hO] at hC;have ka:Keeps (λ_=>False) W (W.alloc (.cells #[.int .i64 fr,.int .i64 te] 57)):=Keeps.alloc _ _;have hA:=h.keep0 ka;have hb3:=heap_alloc_new W (.cells #[.int .i64 fr,.int .i64 te] 57);have s0:=Aa hb3 0;have s1:=Aa hb3 1;have b16:=Aa h.blk 16;rcases O with _|V
 ·simp only at hC;subst hC;obtain⟨Hi,Hi0,Hi1,Hi2,H,Hz,Hn,Hok,Hpr⟩:=hid9 hi hi0 hi1 hi2 h hz hn hok hpr;clear hpr hok hn hz h hi2 hi1 hi0 hi;obtain⟨Hrt,He0,He1,Hlen,Hmm,Hpo,Hfb,Hfree,HO⟩:=hid9 hrt he0 he1 hlen hmm hpo hfb hfree hO;clear hO hfree hfb hpo hmm hlen he1 he0 hrt;obtain⟨Hint,Ka,HA,Hb3⟩:=hid4 hint ka hA hb3;clear hb3 hA ka hint;clear s0 s1 b16;go_enter Tryz.func184,Tryz.ntmps184;go_wp2_with fail;refine(Hfree.out _ Ka.out).mono ?_;rintro e w2 ⟨rfl,hk2⟩;have hk2w:=Ka.out.nt hk2;have hr2:=H.out.keep0 hk2w;refine j3C ?_;intro hS4;obtain⟨Hk2,Hk2w,Hr2,HS4⟩:=hid4 hk2 hk2w hr2 hS4;clear hS4 hr2 hk2w hk2;go_wp2_with fail;refine Al (c4S B t.limit (.slice adT n cT) t.cyc t.due t.minFixed t.minPart t.start (.slice (some ⟨g0,0,none⟩) n n) (.slice (some ⟨g1,0,none⟩) n n)) (.take 0 (.take 1 (.take 2 (.take 3 (.take 4 (.take 5 (.take 6 (.take 7 (.take 8 (.take 9 (.take 10 (.take 11 (.take 12 (.take 13 (.take 14 (.move 15 (.take 16 (.take 17 (.take 18 (.take 19 (.take 20 .done))))))))))))))))))))) j9 j9 ?_ ?_
  ·exact HS4.out
  intro w3 hs3 hk3;refine je ?_;intro K hK
  go_at_call 220
  ((with_reducible refine(Hint.out _ (Hk2w.out.nt hk3)).mono ?_);rintro e w4 ⟨rfl,hk4⟩;dsimp only)
  refine j00 ?_;clear hK K;refine jj ?_;have hr4:=(Hr2.out.keep0 hk3).keep0 hk4;clear hs3;obtain⟨Hr4,Hk3,Hk4⟩:=hid3 hr4 hk3 hk4;clear hk4 hk3 hr4;go_wp2;go_ret;exact⟨rfl,Hr4.out⟩
 ·simp only at hC;obtain⟨hVl,hVb⟩:=Tw hn (by rw [<-h.l0,List.length_map];exact h.n0) (by rw [<-h.l1,List.length_map];exact h.n1) he0 he1 hO;rw [hpo] at hC;obtain⟨D,hD⟩:∃D,Ma t ((m:Int)+1) fr te s.p s.R V fb=D:=⟨_,rfl⟩;rw [hD] at hC;obtain⟨⟨x,q,z⟩,hcv⟩:∃c,Eo D=c:=⟨_,rfl⟩;obtain⟨Hi,Hi0,Hi1,Hi2,H,Hz,Hn,Hok,Hpr⟩:=hid9 hi hi0 hi1 hi2 h hz hn hok hpr;clear hpr hok hn hz h hi2 hi1 hi0 hi;obtain⟨Hrt,He0,He1,Hlen,Hmm,Hpo,Hfb,Hfree,HO⟩:=hid9 hrt he0 he1 hlen hmm hpo hfb hfree hO;clear hO hfree hfb hpo hmm hlen he1 he0 hrt;obtain⟨Hint,Ka,HA,Hb3,HVl,HVb,HD,Hcv,HC⟩:=hid9 hint ka hA hb3 hVl hVb hD hcv hC;clear hC hcv hD hVb hVl hb3 hA ka hint;clear s0 s1 b16;go_enter Tryz.func184,Tryz.ntmps184;go_wp2_with fail;refine(Hfree.out _ Ka.out).mono ?_;rintro e w2 ⟨rfl,hk2⟩;have hk2w:=Ka.out.nt hk2;have hr2:=H.out.keep0 hk2w;have hb32:=Ad Hb3.out hk2 (by simp);refine j3C ?_;intro hS4;obtain⟨Hk2,Hk2w,Hr2,HS4,Hb32⟩:=hid5 hk2 hk2w hr2 hS4 hb32;clear hb32 hS4 hr2 hk2w hk2;go_wp2_with fail;refine Al (c4S B t.limit (.slice adT n cT) t.cyc t.due t.minFixed t.minPart t.start (.slice (some ⟨g0,0,none⟩) n n) (.slice (some ⟨g1,0,none⟩) n n)) (.take 0 (.take 1 (.take 2 (.take 3 (.take 4 (.take 5 (.take 6 (.take 7 (.take 8 (.take 9 (.take 10 (.take 11 (.take 12 (.take 13 (.take 14 (.move 15 (.take 16 (.take 17 (.take 18 (.take 19 (.take 20 .done))))))))))))))))))))) j9 j9 ?_ ?_
  ·exact HS4.out
  intro w3 hs3 hk3;refine je ?_;intro K hK
  go_at_call 220
  ((with_reducible refine(Hint.out _ (Hk2w.out.nt hk3)).mono ?_);rintro e w4 ⟨gV,rfl,hrV,hk4,hgV⟩;dsimp only)
  refine j00 ?_;clear hK K;refine jj ?_;have hk4w:=(Hk2w.out.nt hk3).nt hk4;have hr4:=H.out.keep0 hk4w;have hb34:=Ad (Ad Hb32.out hk3 (by simp)) hk4 (by simp);have hS7:=(show c7S B W.heap.size t.limit (.slice adT n cT) t.cyc t.due t.minFixed t.minPart t.start (.slice av m cv) (.slice ab n cb) s.p.cr s.p.du (.slice ar n cr) fr te w4 from⟨Aa hr4.blk 0,Aa hr4.blk 1,Aa hr4.blk 2,Aa hr4.blk 3,Aa hr4.blk 4,Aa hr4.blk 5,Aa hr4.blk 6,Aa hr4.blk 16,Aa hr4.blk 10,Aa hr4.blk 11,Aa hr4.blk 12,Aa hr4.blk 13,Aa hb34 0,Aa hb34 1⟩).keep (Keeps.drew _);have hclo:=fun(W':World) (hW:Keeps (λ_=>False) w4 W')=>Yy t (.slice adT n cT) ((m:Int)+1) fr te s.p.bal V s.R s.p.cr s.p.du ab (some ⟨gV,0,none⟩) ar cb n cr n fb W' Hz.out Hn.out (hr4.keep0 hW).trs j6 hsp (Reads.Az (hr4.keep0 hW).bal) H.out.nb (hrV.keep hW).reads HVl.out (Reads.Az (hr4.keep0 hW).rts) H.out.nr Hpr.out (List.all_eq_true.2 λy hy=>(Bi y).2 (HVb.out y hy)) Hrt.out;rw [HD.out] at hclo;have hq1:IntKind.i64.wrap ((m:Int)+1)=(m:Int)+1:=IntWalk.i64_in _ ⟨by omega,by omega⟩;clear hs3;obtain⟨Hk3,Hk4,Hk4w,Hr4,Hb34,HS7,Hclo,HrV,HgV⟩:=hid9 hk3 hk4 hk4w hr4 hb34 hS7 hclo hrV hgV;clear hgV hrV hclo hS7 hb34 hr4 hk4w hk4 hk3;go_wp2_with fail;refine Al (c7S B W.heap.size t.limit (.slice adT n cT) t.cyc t.due t.minFixed t.minPart t.start (.slice av m cv) (.slice ab n cb) s.p.cr s.p.du (.slice ar n cr) fr te) (.take 0 (.take 1 (.take 2 (.take 3 (.take 4 (.take 5 (.take 6 (.take 7 (.take 8 (.take 9 (.take 10 (.take 11 (.take 12 (.take 13 (.take 14 (.take 15 (.take 16 (.take 17 (.take 18 (.take 19 (.take 20 (.fork3 21 (.take 22 (.take 23 (.take 24 (.take 25 (.fork 26 (.move 27 (.move 28 (.move 29 (.take 30 .done)))) 27 (.move 26 (.move 28 (.move 29 (.take 30 .done))))))))) 26 (.fork 21 (.take 22 (.take 23 (.take 24 (.take 25 (.move 27 (.move 28 (.move 29 (.take 30 .done)))))))) 27 (.move 21 (.take 22 (.take 23 (.take 24 (.take 25 (.move 28 (.move 29 (.take 30 .done))))))))) 27 (.fork 21 (.take 22 (.take 23 (.take 24 (.take 25 (.move 26 (.move 28 (.move 29 (.take 30 .done)))))))) 26 (.move 21 (.take 22 (.take 23 (.take 24 (.take 25 (.move 28 (.move 29 (.take 30 .done))))))))))))))))))))))))))))))) j9 j9 ?_ ?_
  ·exact HS7.out
  intro w7 hs7 hk7;have Hk7:=Lib.hid hk7;clear hk7;refine jR ?_;refine mix_fork3 ?_ ?_ ?_ hs7
  ·skip
   refine jc ?_;intro K hK
   go_at_call 221
   ((with_reducible refine(Hclo.out _ (Hk7.out.nt jM)).mono ?_);rintro e w5 hpost)
   obtain⟨al,cl2,ab2,cb2,rfl,hln,hbn2,hk5,hol,hob⟩:=Ff.uni hpost Hcv.out;clear hpost;dsimp only;refine hK.out _ _ (by exact hs7.keep j1I) ?_;clear hK K;refine jh ?_;refine Dn ?_ ?_ (hs7.keep j1I)
   ·skip
    refine j3D ?_;refine jc ?_;intro K hK;refine hK.out _ _ (by exact hs7.keep (Keeps.nt j3E (Keeps.alloc _ _))) ?_;clear hK K;refine ja ?_;obtain⟨wE,hwE⟩:∃x,x=((w5).alloc (.cells #[.int .i64 0,.int .i64 0,.int .i64 0,.int .i64 0,.slice none 0 0,.int .i64 0,.int .i64 0,.int .i64 0,.bool false] 60)).alloc (.cells #[.slice none 0 0,.int .i64 0,.int .i64 0] 52):=⟨_,rfl⟩;have k7E:Keeps (λ_=>False) w7 wE:=by rw [hwE];exact(Keeps.nt j3E j3F)
    have hb8:wE.heap[w5.heap.size]?=some (.cells #[.int .i64 0,.int .i64 0,.int .i64 0,.int .i64 0,.slice none 0 0,.int .i64 0,.int .i64 0,.int .i64 0,.bool false] 60 (0,0)):=by rw [hwE];exact Ar (heap_alloc_new (w5) _) _
    have hb9:wE.heap[w5.heap.size+1]?=some (.cells #[.slice none 0 0,.int .i64 0,.int .i64 0] 52 (0,0)):=by rw [hwE];exact Av _ _ (by simp)
    have k5E:Keeps (λ_=>False) w5 wE:=by rw [hwE];exact(Keeps.nt (Keeps.nt j0P j1J) j3F)
    refine j04 ?_;intro hlnE hbnE hs5
    try simp at hs5
    have holE:∀b,(Value.slice al x.lines.length cl2).ownBlock=some b->w7.heap.size<=b:=λb hb=>by have h1:=hol b hb;have h2:=((Keeps.refl (λ_=>False) w7)).size;omega
    have hobE:∀b,(Value.slice ab2 q.bal.length cb2).ownBlock=some b->w7.heap.size<=b:=λb hb=>by have h1:=hob b hb;have h2:=((Keeps.refl (λ_=>False) w7)).size;omega
    rw [<-hwE];obtain⟨b8,hb8e⟩:∃x,x=w5.heap.size:=⟨_,rfl⟩;obtain⟨b9,hb9e⟩:∃x,x=w5.heap.size+1:=⟨_,rfl⟩;exact j3G
   ·skip
    refine j3D ?_;refine jc ?_;intro K hK;refine hK.out _ _ (by exact hs7.keep (Keeps.nt j3H (Keeps.alloc _ _))) ?_;clear hK K;refine ja ?_;obtain⟨wE,hwE⟩:∃x,x=((w5).alloc (.cells #[.slice none 0 0,.int .i64 0,.int .i64 0] 52)).alloc (.cells #[.int .i64 0,.int .i64 0,.int .i64 0,.int .i64 0,.slice none 0 0,.int .i64 0,.int .i64 0,.int .i64 0,.bool false] 60):=⟨_,rfl⟩;have k7E:Keeps (λ_=>False) w7 wE:=by rw [hwE];exact(Keeps.nt j3H j3I)
    have hb8:wE.heap[w5.heap.size+1]?=some (.cells #[.int .i64 0,.int .i64 0,.int .i64 0,.int .i64 0,.slice none 0 0,.int .i64 0,.int .i64 0,.int .i64 0,.bool false] 60 (0,0)):=by rw [hwE];exact Av _ _ (by simp)
    have hb9:wE.heap[w5.heap.size]?=some (.cells #[.slice none 0 0,.int .i64 0,.int .i64 0] 52 (0,0)):=by rw [hwE];exact Ar (heap_alloc_new (w5) _) _
    have k5E:Keeps (λ_=>False) w5 wE:=by rw [hwE];exact(Keeps.nt (Keeps.nt j0P j1K) j3I)
    refine j04 ?_;intro hlnE hbnE hs5
    try simp at hs5
    have holE:∀b,(Value.slice al x.lines.length cl2).ownBlock=some b->w7.heap.size<=b:=λb hb=>by have h1:=hol b hb;have h2:=((Keeps.refl (λ_=>False) w7)).size;omega
    have hobE:∀b,(Value.slice ab2 q.bal.length cb2).ownBlock=some b->w7.heap.size<=b:=λb hb=>by have h1:=hob b hb;have h2:=((Keeps.refl (λ_=>False) w7)).size;omega
    rw [<-hwE];obtain⟨b8,hb8e⟩:∃x,x=w5.heap.size+1:=⟨_,rfl⟩;obtain⟨b9,hb9e⟩:∃x,x=w5.heap.size:=⟨_,rfl⟩;exact j0Q
  ·skip
   refine j3J ?_;refine Dn ?_ ?_ (hs7.keep (Keeps.nt jM (Keeps.alloc _ _)))
   ·skip
    refine jc ?_;intro K hK
    go_at_call 221
    ((with_reducible refine(Hclo.out _ (Hk7.out.nt j0R)).mono ?_);rintro e w5 hpost)
    obtain⟨al,cl2,ab2,cb2,rfl,hln,hbn2,hk5,hol,hob⟩:=Ff.uni hpost Hcv.out;clear hpost;dsimp only;refine hK.out _ _ (by exact hs7.keep j1L) ?_;clear hK K;refine jh ?_;refine jc ?_;intro K hK;refine hK.out _ _ (by exact hs7.keep (Keeps.nt j1L (Keeps.alloc _ _))) ?_;clear hK K;refine ja ?_;obtain⟨wE,hwE⟩:∃x,x=(w5).alloc (.cells #[.slice none 0 0,.int .i64 0,.int .i64 0] 52):=⟨_,rfl⟩;have k7E:Keeps (λ_=>False) w7 wE:=by rw [hwE];exact(Keeps.nt j1L j1K)
    have hb8:wE.heap[w7.heap.size]?=some (.cells #[.int .i64 0,.int .i64 0,.int .i64 0,.int .i64 0,.slice none 0 0,.int .i64 0,.int .i64 0,.int .i64 0,.bool false] 60 (0,0)):=by rw [hwE];exact Ar (Ad (heap_alloc_new (w7) _) hk5 (by simp)) _
    have hb9:wE.heap[w5.heap.size]?=some (.cells #[.slice none 0 0,.int .i64 0,.int .i64 0] 52 (0,0)):=by rw [hwE];exact heap_alloc_new (w5) _
    have k5E:Keeps (λ_=>False) w5 wE:=by rw [hwE];exact(Keeps.nt j0P j1K)
    refine j04 ?_;intro hlnE hbnE hs5
    try simp at hs5
    have holE:∀b,(Value.slice al x.lines.length cl2).ownBlock=some b->w7.heap.size<=b:=λb hb=>by have h1:=hol b hb;have h2:=((Keeps.nt jM j3K)).size;omega
    have hobE:∀b,(Value.slice ab2 q.bal.length cb2).ownBlock=some b->w7.heap.size<=b:=λb hb=>by have h1:=hob b hb;have h2:=((Keeps.nt jM j3K)).size;omega
    rw [<-hwE];obtain⟨b8,hb8e⟩:∃x,x=w7.heap.size:=⟨_,rfl⟩;obtain⟨b9,hb9e⟩:∃x,x=w5.heap.size:=⟨_,rfl⟩;exact j0Q
   ·skip
    refine jc ?_;intro K hK;refine hK.out _ _ (by exact hs7.keep (Keeps.nt j0R (Keeps.alloc _ _))) ?_;clear hK K;refine ja ?_;refine jc ?_;intro K hK
    go_at_call 221
    ((with_reducible refine(Hclo.out _ (Hk7.out.nt j1M)).mono ?_);rintro e w5 hpost)
    obtain⟨al,cl2,ab2,cb2,rfl,hln,hbn2,hk5,hol,hob⟩:=Ff.uni hpost Hcv.out;clear hpost;dsimp only;refine hK.out _ _ (by exact hs7.keep (Keeps.nt j1M hk5)) ?_;clear hK K;refine jh ?_;obtain⟨wE,hwE⟩:∃x,x=w5:=⟨_,rfl⟩;have k7E:Keeps (λ_=>False) w7 wE:=by rw [hwE];exact(Keeps.nt j1M hk5)
    have hb8:wE.heap[w7.heap.size]?=some (.cells #[.int .i64 0,.int .i64 0,.int .i64 0,.int .i64 0,.slice none 0 0,.int .i64 0,.int .i64 0,.int .i64 0,.bool false] 60 (0,0)):=by rw [hwE];exact Ad (Ar (heap_alloc_new (w7) _) _) hk5 (by simp)
    have hb9:wE.heap[w7.heap.size+1]?=some (.cells #[.slice none 0 0,.int .i64 0,.int .i64 0] 52 (0,0)):=by rw [hwE];exact Ad (Av _ _ (by simp)) hk5 (by simp)
    have k5E:Keeps (λ_=>False) w5 wE:=by rw [hwE];exact(Keeps.refl (λ_=>False) w5)
    refine j04 ?_;intro hlnE hbnE hs5
    try simp at hs5
    have holE:∀b,(Value.slice al x.lines.length cl2).ownBlock=some b->w7.heap.size<=b:=λb hb=>by have h1:=hol b hb;have h2:=((Keeps.nt j0R j3L)).size;omega
    have hobE:∀b,(Value.slice ab2 q.bal.length cb2).ownBlock=some b->w7.heap.size<=b:=λb hb=>by have h1:=hob b hb;have h2:=((Keeps.nt j0R j3L)).size;omega
    rw [<-hwE];obtain⟨b8,hb8e⟩:∃x,x=w7.heap.size:=⟨_,rfl⟩;obtain⟨b9,hb9e⟩:∃x,x=w7.heap.size+1:=⟨_,rfl⟩;exact j3G
  ·skip
   refine j3J ?_;refine Dn ?_ ?_ (hs7.keep (Keeps.nt jM (Keeps.alloc _ _)))
   ·skip
    refine jc ?_;intro K hK
    go_at_call 221
    ((with_reducible refine(Hclo.out _ (Hk7.out.nt j0S)).mono ?_);rintro e w5 hpost)
    obtain⟨al,cl2,ab2,cb2,rfl,hln,hbn2,hk5,hol,hob⟩:=Ff.uni hpost Hcv.out;clear hpost;dsimp only;refine hK.out _ _ (by exact hs7.keep j1N) ?_;clear hK K;refine jh ?_;refine jc ?_;intro K hK;refine hK.out _ _ (by exact hs7.keep (Keeps.nt j1N (Keeps.alloc _ _))) ?_;clear hK K;refine ja ?_;obtain⟨wE,hwE⟩:∃x,x=(w5).alloc (.cells #[.int .i64 0,.int .i64 0,.int .i64 0,.int .i64 0,.slice none 0 0,.int .i64 0,.int .i64 0,.int .i64 0,.bool false] 60):=⟨_,rfl⟩;have k7E:Keeps (λ_=>False) w7 wE:=by rw [hwE];exact(Keeps.nt j1N j1J)
    have hb8:wE.heap[w5.heap.size]?=some (.cells #[.int .i64 0,.int .i64 0,.int .i64 0,.int .i64 0,.slice none 0 0,.int .i64 0,.int .i64 0,.int .i64 0,.bool false] 60 (0,0)):=by rw [hwE];exact heap_alloc_new (w5) _
    have hb9:wE.heap[w7.heap.size]?=some (.cells #[.slice none 0 0,.int .i64 0,.int .i64 0] 52 (0,0)):=by rw [hwE];exact Ar (Ad (heap_alloc_new (w7) _) hk5 (by simp)) _
    have k5E:Keeps (λ_=>False) w5 wE:=by rw [hwE];exact(Keeps.nt j0P j1J)
    refine j04 ?_;intro hlnE hbnE hs5
    try simp at hs5
    have holE:∀b,(Value.slice al x.lines.length cl2).ownBlock=some b->w7.heap.size<=b:=λb hb=>by have h1:=hol b hb;have h2:=((Keeps.nt jM j3M)).size;omega
    have hobE:∀b,(Value.slice ab2 q.bal.length cb2).ownBlock=some b->w7.heap.size<=b:=λb hb=>by have h1:=hob b hb;have h2:=((Keeps.nt jM j3M)).size;omega
    rw [<-hwE];obtain⟨b8,hb8e⟩:∃x,x=w5.heap.size:=⟨_,rfl⟩;obtain⟨b9,hb9e⟩:∃x,x=w7.heap.size:=⟨_,rfl⟩;exact j0Q
   ·skip
    refine jc ?_;intro K hK;refine hK.out _ _ (by exact hs7.keep (Keeps.nt j0S (Keeps.alloc _ _))) ?_;clear hK K;refine ja ?_;refine jc ?_;intro K hK
    go_at_call 221
    ((with_reducible refine(Hclo.out _ (Hk7.out.nt j1O)).mono ?_);rintro e w5 hpost)
    obtain⟨al,cl2,ab2,cb2,rfl,hln,hbn2,hk5,hol,hob⟩:=Ff.uni hpost Hcv.out;clear hpost;dsimp only;refine hK.out _ _ (by exact hs7.keep (Keeps.nt j1O hk5)) ?_;clear hK K;refine jh ?_;obtain⟨wE,hwE⟩:∃x,x=w5:=⟨_,rfl⟩;have k7E:Keeps (λ_=>False) w7 wE:=by rw [hwE];exact(Keeps.nt j1O hk5)
    have hb8:wE.heap[w7.heap.size+1]?=some (.cells #[.int .i64 0,.int .i64 0,.int .i64 0,.int .i64 0,.slice none 0 0,.int .i64 0,.int .i64 0,.int .i64 0,.bool false] 60 (0,0)):=by rw [hwE];exact Ad (Av _ _ (by simp)) hk5 (by simp)
    have hb9:wE.heap[w7.heap.size]?=some (.cells #[.slice none 0 0,.int .i64 0,.int .i64 0] 52 (0,0)):=by rw [hwE];exact Ad (Ar (heap_alloc_new (w7) _) _) hk5 (by simp)
    have k5E:Keeps (λ_=>False) w5 wE:=by rw [hwE];exact(Keeps.refl (λ_=>False) w5)
    refine j04 ?_;intro hlnE hbnE hs5
    try simp at hs5
    have holE:∀b,(Value.slice al x.lines.length cl2).ownBlock=some b->w7.heap.size<=b:=λb hb=>by have h1:=hol b hb;have h2:=((Keeps.nt j0S j3N)).size;omega
    have hobE:∀b,(Value.slice ab2 q.bal.length cb2).ownBlock=some b->w7.heap.size<=b:=λb hb=>by have h1:=hob b hb;have h2:=((Keeps.nt j0S j3N)).size;omega
    rw [<-hwE];obtain⟨b8,hb8e⟩:∃x,x=w7.heap.size+1:=⟨_,rfl⟩;obtain⟨b9,hb9e⟩:∃x,x=w7.heap.size:=⟨_,rfl⟩;exact j0Q
structure Qt(fr te:Int):Prop where
 lo: -135140<=fr
 le:fr<=te
 hi:te<=2932896
 sh:te<=fr+31
inductive SpanC (day:Int):Int->List (Int×Int)->Prop
 |last {fr te:Int}:Qt fr te->fr<=day->day<=te->SpanC day fr [(fr,te)]
 |more {fr te:Int} {S:List (Int×Int)}:Qt fr te->te<day->SpanC day (te+1) S->SpanC day fr ((fr,te)::S)
theorem SpanC.head{day fr:Int}{S:List (Int×Int)}(h:SpanC day fr S):∃te S',S=(fr,te)::S'/\Qt fr te/\fr<=day/\(te<day->SpanC day (te+1) S'):=by
 cases h with
 |last h1 h2 h3=>exact⟨_,_,rfl,h1,h2,λh=>by omega⟩
 |more h1 h2 h3=>exact⟨_,_,rfl,h1,by have:=h1.le;omega,λ_=>h3⟩
theorem Kn(cd day:Int):∀(f:Nat) (fr:Int),(findW cd day f fr).2=true->SpanC day fr (findW cd day f fr).1/\(findW cd day f fr).1.length<=f:=by
 intro f
 induction f with
 |zero=>intro fr h;cases h
 |succ f ih=>
  intro fr h;unfold findW at h⊢
  split at h
  ·rename_i hl;rw [if_pos hl];have hl2:=hl;unfold lastE at hl2
   split at hl2
   ·cases hl2
   ·rename_i hc
    split at hl2
    ·cases hl2
    ·rename_i hf
     split at hl2
     ·cases hl2
     ·rename_i ht;have hf': -135140<=fr/\fr<=2932896:=j8;have hge:=Aat (fr:=fr) (cd:=cd) hf'.1 hf'.2 j6 j6;have hok:Qt fr (lastF fr cd):=⟨hf'.1,hge.1,by omega,hge.2⟩
      split at h
      ·rename_i hd;rw [if_pos hd];obtain⟨h1,h2⟩:=ih _ h;exact⟨.more hok hd.1 h1,by simp only [List.length_cons];omega⟩
      ·rename_i hd;rw [if_neg hd];simp only [Bool.and_eq_true,decide_eq_true_eq] at h;exact⟨.last hok h.1 h.2,by simp⟩
  ·cases h
theorem evErr_amt{t:Tm}{e:Ev}(h:evErr t e=0):e.kind=2->0<=e.amount/\e.amount<=1000000000000000:=by
 intro hk;unfold evErr at h
 split at h
 ·cases h
 ·split at h
  ·cases h
  ·split at h
   ·cases h
   ·split at h
    ·cases h
    ·rename_i ha
     constructor<;>omega
structure RepOk(t:Tm)(L:List Ev)(td:Int):Prop where
 tm:t.err=0
 ev:∀x∈L,evErr t x=0
 ln:L.length<=2000
 d0:t.start<=td
 d1:td<=2932896
 fd:(findW t.cyc td 300 t.start).2=true
 lt:∀x∈L,x.day<=td
theorem Ea{t:Tm}{L:List Ev}{td:Int}(h:Dl t L td=0):RepOk t L td:=by
 unfold Dl at h
 split at h
 ·rename_i h1
  split at h
  ·rename_i h2
   split at h
   ·cases h
   ·rename_i h3
    split at h
    ·cases h
    ·rename_i h4
     split at h
     ·cases h
     ·rename_i h5
      split at h
      ·cases h
      ·rename_i h6;have h5':ofE t.start t.cyc td=0:=j8;refine⟨h1,Xc h2,by omega,by omega,by omega, ?_,λx hx=> ?_⟩
       ·unfold ofE at h5'
        split at h5'
        ·split at h5'
         ·assumption
         ·cases h5'
        ·rename_i hh;exact absurd h5' hh
       ·rcases hb:lateQ td x with _|_
        ·simp [lateQ] at hb;exact hb
        ·exact absurd (List.any_eq_true.2 ⟨x,hx,hb⟩) h6
  ·rename_i h2;exact absurd h h2
 ·cases h
structure StOk(n:Nat)(s:St)(len:Nat):Prop where
 pr:s.p.Bg=true
 nb:s.p.bal.length=n
 nr:s.R.length=n
 rt:∀x∈s.R,0<=x/\x<=10000000
 n0:s.e0.length=n
 n1:s.e1.length=n
 m0:∀r∈s.e0,r.length=len/\∀y∈r,0<=y/\y<=1000000000000000
 m1:∀r∈s.e1,r.length=len/\∀y∈r,0<=y/\y<=10000000
theorem evR_ok(day:Int):∀(M:List Ev) (i:Nat) (p:Ps) (R:List Int),p.Bg=true->(∀x∈R,0<=x/\x<=10000000)->(evR day M i p R).2.2.2=0->
  (evR day M i p R).2.1.Bg=true/\(evR day M i p R).2.1.bal.length=p.bal.length/\(evR day M i p R).2.2.1.length=R.length/\(∀x∈(evR day M i p R).2.2.1,0<=x/\x<=10000000)/\i<=(evR day M i p R).1/\(evR day M i p R).1<=i+M.length:=by
 intro M
 induction M with
 |nil=>intro i p R hp hR _;exact⟨hp,rfl,rfl,hR,Nat.le_refl _,Nat.le_refl _⟩
 |cons e M ih=>
  intro i p R hp hR h;unfold evR at h⊢
  split at h
  ·rename_i hd;rw [if_pos hd]
   split at h
   ·rename_i h0;rw [if_pos h0];obtain⟨a1,a2,a3,a4⟩:=Xk h0;obtain⟨b1,b2,b3,b4,b5,b6⟩:=ih _ _ _ a3 a4 h;exact⟨b1,b2.trans a1,b3.trans a2,b4,by omega,by simp only [List.length_cons];omega⟩
   ·rename_i h0;exact absurd h h0
  ·rename_i hd;rw [if_neg hd];exact⟨hp,rfl,rfl,hR,Nat.le_refl _,by omega⟩
theorem StOk.ev{n len:Nat}{s:St}(h:StOk n s len){M:List Ev}(hz:(evR s.day M s.i s.p s.R).2.2.2=0):StOk n (evSt s (evR s.day M s.i s.p s.R)) len:=by
 obtain⟨b1,b2,b3,b4,_,_⟩:=evR_ok s.day M s.i s.p s.R h.pr h.rt hz;exact⟨b1,b2.trans h.nb,b3.trans h.nr,b4,h.n0,h.n1,h.m0,h.m1⟩
theorem ext_mem{E:List (List Int)}{V:List Int}{r:List Int}(h:r∈List.zipWith (λr v=>r++ [v]) E V):∃a∈E,∃v∈V,r=a++ [v]:=by
 obtain⟨k,hk⟩:=List.getElem?_of_mem h;rw [List.getElem?_zipWith] at hk;rcases h1:E[k]? with _|a
 ·rw [h1] at hk;simp at hk
 ·rcases h2:V[k]? with _|v
  ·rw [h1,h2] at hk;simp at hk
  ·rw [h1,h2] at hk;simp only [Option.some.injEq] at hk;exact⟨a,List.mem_of_getElem? h1,v,List.mem_of_getElem? h2,hk.symm⟩
theorem StOk.fin{n len:Nat}{s:St}(h:StOk n s len):StOk n (endSt s n n) (len+1):=by
 have e0:extL s.e0 s.p.bal n=List.zipWith (λr v=>r++ [v]) s.e0 s.p.bal:=Xb h.nb h.n0;have e1:extL s.e1 s.R n=List.zipWith (λr v=>r++ [v]) s.e1 s.R:=Xb h.nr h.n1;obtain⟨hb,_⟩:=Ey h.pr;refine⟨h.pr,h.nb,h.nr,h.rt, ?_, ?_, ?_, ?_⟩
 ·show(extL s.e0 s.p.bal n).length=n;rw [e0,List.length_zipWith,h.n0,h.nb];omega
 ·show(extL s.e1 s.R n).length=n;rw [e1,List.length_zipWith,h.n1,h.nr];omega
 ·intro r hr;have hr':r∈extL s.e0 s.p.bal n:=hr;rw [e0] at hr';obtain⟨a,ha,v,hv,rfl⟩:=ext_mem hr';obtain⟨h1,h2⟩:=h.m0 a ha;refine⟨by rw [List.length_append,h1];rfl,λy hy=> ?_⟩;rcases List.mem_append.1 hy with hy|hy
  ·exact h2 y hy
  ·obtain rfl:y=v:=by simpa using hy
   exact hb _ hv
 ·intro r hr;have hr':r∈extL s.e1 s.R n:=hr;rw [e1] at hr';obtain⟨a,ha,v,hv,rfl⟩:=ext_mem hr';obtain⟨h1,h2⟩:=h.m1 a ha;refine⟨by rw [List.length_append,h1];rfl,λy hy=> ?_⟩;rcases List.mem_append.1 hy with hy|hy
  ·exact h2 y hy
  ·obtain rfl:y=v:=by simpa using hy
   exact h.rt _ hv
theorem StOk.lens{n len:Nat}{s:St}(h:StOk n s len)(hl:len<=40000):∀(k:Nat) (a b:List Int),s.e0[k]?=some a->s.e1[k]?=some b->a.length=b.length/\a.length<=40000:=λk a b ha hb=>by
 have h1:=(h.m0 a (List.mem_of_getElem? ha)).1;have h2:=(h.m1 b (List.mem_of_getElem? hb)).1;omega
theorem Qo{t:Tm}{L:List Ev}{n len:Nat}{s s':St}{fr te:Int}(hz:t.err=0)(hn:t.trs.length=n)(h:StOk n s len)(hc:Fa t L n s fr te=some s'):StOk n s' 0/\s'.out.length=s.out.length+1/\s'.i=s.i/\s'.day=s.day:=by
 unfold Fa at hc
 split at hc
 ·cases hc
 ·rename_i V hV;obtain⟨v1,v2⟩:=Tw hn h.n0 h.n1 (λr hr=>(h.m0 r hr).2) (λr hr=>(h.m1 r hr).2) hV
  split at hc
  ·cases hc
  ·rename_i x q hx;simp only [Option.some.injEq] at hc;subst hc;obtain⟨q1,q2⟩:=Gb hz h.pr (by rw [v1];exact h.nb.symm) (List.all_eq_true.2 λy hy=>(Bi y).2 (v2 y hy)) hx;have hrep:∀r∈List.replicate n ([]:List Int),r= []:=λr hr=>(List.mem_replicate.1 hr).2;refine⟨⟨q2,q1.trans h.nb,h.nr,h.rt,by simp,by simp,λr hr=> ?_,λr hr=> ?_⟩,by simp,rfl,rfl⟩
   ·rw [hrep r hr];simp
   ·rw [hrep r hr];simp
def walkD(t:Tm)(T:List Ev)(n:Nat):Nat->List (Int×Int)->St->St×Int
 |0,_,s=>(evSt s (evR s.day (T.drop s.i) s.i s.p s.R),(evR s.day (T.drop s.i) s.i s.p s.R).2.2.2)
 |d+1,S,s=>if(evR s.day (T.drop s.i) s.i s.p s.R).2.2.2=0 then
   (match S with
    | []=>(s,5)
    |(fr,te)::S'=>if te=s.day then(match Fa t T n (endSt (evSt s (evR s.day (T.drop s.i) s.i s.p s.R)) n n) fr te with
      |none=>(s,5)
      |some s2=>walkD t T n d S' { s2 with day:=s.day+1 })
     else walkD t T n d ((fr,te)::S') { endSt (evSt s (evR s.day (T.drop s.i) s.i s.p s.R)) n n with day:=s.day+1 })
  else(s,(evR s.day (T.drop s.i) s.i s.p s.R).2.2.2)
def st0(t:Tm):St:=⟨0,t.start,⟨List.replicate t.trs.length 0,0,0⟩,t.trs.map Tn.rate,List.replicate t.trs.length [],List.replicate t.trs.length [], []⟩
theorem st0_ok{t:Tm}(h:t.err=0):StOk t.trs.length (st0 t) 0:=by
 obtain⟨⟨l0,l1⟩,hr,_⟩:=Fg h;have hrep:∀r∈List.replicate t.trs.length ([]:List Int),r= []:=λr hr=>(List.mem_replicate.1 hr).2;refine⟨?_,by simp [st0],by simp [st0],λx hx=> ?_,by simp [st0],by simp [st0],λr hr=> ?_,λr hr=> ?_⟩
 ·have h1:∀k:Nat,sumI (List.replicate k (0:Int))=0:=λk=>by
   induction k with
   |zero=>rfl
   |succ k ih=>rw [List.replicate_succ,sumI,ih];rfl
  have h2:(List.replicate t.trs.length (0:Int)).all Br=true:=List.all_eq_true.2 λx hx=>by rw [(List.mem_replicate.1 hx).2];rfl
  show Ps.Bg ⟨List.replicate t.trs.length 0,0,0⟩=true;simp only [Ps.Bg,scanB,h1,h2,List.length_replicate];simp [Br,l0,l1]
 ·simp only [st0,List.mem_map] at hx;obtain⟨y,hy,rfl⟩:=hx;exact hr y hy
 ·rw [hrep r hr];simp
 ·rw [hrep r hr];simp
def walkR(t:Tm)(L:List Ev)(td:Int):St×Int:=if Dl t L td=0 then walkD t (sortL L) t.trs.length (td-t.start).toNat (allL t.start t.cyc td) (st0 t) else(st0 t,Dl t L td)
theorem Yv{t:Tm}{L:List Ev}{n len:Nat}{s s':St}{fr te:Int}(_hz:t.err=0)(hn:t.trs.length=n)(h:StOk n s len)(hc:Fa t L n s fr te=some s'):∃x,s'.out=s.out++ [x]/\x.lines.length=n/\x.cycle=(s.out.length:Int)+1/\x.fr=fr/\x.te=te:=by
 unfold Fa at hc
 split at hc
 ·cases hc
 ·rename_i V hV;obtain⟨v1,v2⟩:=Tw hn h.n0 h.n1 (λr hr=>(h.m0 r hr).2) (λr hr=>(h.m1 r hr).2) hV
  split at hc
  ·cases hc
  ·rename_i x q hx;simp only [Option.some.injEq] at hc;subst hc;refine⟨x,rfl, ?_⟩;unfold Ma at hx
   split at hx
   ·rename_i h0;simp only [Option.some.injEq,Prod.mk.injEq] at hx;obtain⟨rfl,_⟩:=hx;rcases Qp h.pr (by rw [v1];exact h.nb.symm) (List.all_eq_true.2 λy hy=>(Bi y).2 (v2 y hy)) with⟨_,_,h3⟩|⟨h3,_⟩
    ·exact⟨Tv _ _ _ (h3.trans h.nb) v1 h.nr,rfl,rfl,rfl⟩
    ·rw [h0] at h3;cases h3
   ·cases hx
theorem Wl{t:Tm}{T:List Ev}{n:Nat}(hz:t.err=0)(hn:t.trs.length=n):∀(d:Nat) (S:List (Int×Int)) (s:St) (len:Nat) (Z:St×Int),StOk n s len->(∀x∈s.out,x.lines.length=n)->walkD t T n d S s=Z->Z.2=0->(∀x∈Z.1.out,x.lines.length=n)/\Z.1.out.length<=s.out.length+S.length/\∃len',StOk n Z.1 len':=by
 intro d
 induction d with
 |zero=>
  intro S s len Z h hx hw hz2;subst hw;unfold walkD at hz2⊢;exact⟨hx,by show s.out.length<=_;omega,len,h.ev hz2⟩
 |succ d ih=>
  intro S s len Z h hx hw hz2;unfold walkD at hw
  split at hw
  ·rename_i h0;have h1:=(h.ev h0).fin
   split at hw
   ·subst hw;cases hz2
   ·rename_i fr te S'
    split at hw
    ·rename_i hte
     split at hw
     ·subst hw;cases hz2
     ·rename_i s2 hc;obtain⟨x,e1,e2,_⟩:=Yv hz hn h1 hc;obtain⟨k1,k2,k3,k4⟩:=Qo hz hn h1 hc;have e1':s2.out=s.out++ [x]:=e1;have hk:StOk n { s2 with day:=s.day+1 } 0:=⟨k1.pr,k1.nb,k1.nr,k1.rt,k1.n0,k1.n1,k1.m0,k1.m1⟩
      obtain⟨i1,i2,i3⟩:=ih S' _ 0 Z hk (λy hy=>by
       have hy':y∈s2.out:=hy;rw [e1'] at hy';rcases List.mem_append.1 hy' with h2|h2
       ·exact hx y h2
       ·obtain rfl:y=x:=by simpa using h2
        exact e2) hw hz2
      refine⟨i1, ?_,i3⟩;have:({ s2 with day:=s.day+1 }:St).out.length=s.out.length+1:=by show s2.out.length=_;rw [e1',List.length_append];rfl
      rw [this] at i2;simp only [List.length_cons];omega
    ·obtain⟨s3,hs3⟩:∃s3:St,s3={ endSt (evSt s (evR s.day (T.drop s.i) s.i s.p s.R)) n n with day:=s.day+1 }:=⟨_,rfl⟩;have hw':walkD t T n d ((fr,te)::S') s3=Z:=by rw [hs3];exact hw
     have hk:StOk n s3 (len+1):=by rw [hs3];exact⟨h1.pr,h1.nb,h1.nr,h1.rt,h1.n0,h1.n1,h1.m0,h1.m1⟩
     have ho:s3.out=s.out:=by rw [hs3];rfl
     obtain⟨i1,i2,i3⟩:=ih _ _ (len+1) Z hk (by rw [ho];exact hx) hw' hz2;exact⟨i1,by rw [ho] at i2;exact i2,i3⟩
  ·rename_i h0;subst hw;exact absurd hz2 h0
theorem Mh{t:Tm}{L:List Ev}{td:Int}{Z:St×Int}(hw:walkR t L td=Z)(hz2:Z.2=0):(∀x∈Z.1.out,x.lines.length=t.trs.length)/\Z.1.out.length<=300/\t.err=0/\Ps.Bg Z.1.p=true:=by
 unfold walkR at hw
 split at hw
 ·rename_i h0;have hok:=Ea h0;obtain⟨h1,h2,len,h3⟩:=Wl hok.tm rfl _ _ _ _ Z (st0_ok hok.tm) (by simp [st0]) hw hz2;obtain⟨_,h4⟩:=Kn t.cyc td 300 t.start hok.fd;have hall:(allL t.start t.cyc td).length<=300:=by unfold allL;rw [if_pos hok.fd];exact h4
  refine⟨h1, ?_,hok.tm,h3.pr⟩;have:(st0 t).out.length=0:=rfl;omega
 ·rename_i h0;subst hw;exact absurd hz2 h0
theorem insEv_end(w:World)(v:Value)(n:Nat)(xs:List Value)(hown:w.ownsRow 0 96 5 v n xs)(news:Array Value)(hn:news.size=5)(h1n:∀u∈news.toList,u.oneCell'=true)(hnb:n<=1000000000000):
  Calls Tryz.prog 207 #[v,.int .i64 n,.slice (some ⟨w.heap.size,0,none⟩) 1 1] (w.alloc (.cells news 96)) λe w'=>∃v',e= .returned v'/\w'.ownsRow 0 96 5 v' (n+1) (xs++news.toList)/\Keeps (λk=>v.ownBlock=some k) w w'/\
   (v'.ownBlock=v.ownBlock\/∃g,v'.ownBlock=some g/\w.heap.size<=g):=by
 obtain⟨i0,hi,hz0,hz1,hz2⟩:=info_parts Jh;rcases hown.2 with⟨rfl,rfl⟩|⟨g,cap,cur,rfl,_,hgc,hncap,hcm,_,_⟩
 ·obtain⟨Hown,H1n,Hn⟩:=hid3 hown h1n hn;clear hn h1n hown;go_enter Tryz.func207,Tryz.ntmps207
  go_wp2_with (at_builtin;refine Ao rfl (.tmp 23) (.tmp 24) 82 rfl 0 96 i0 _ 5 40 Tryz.underlying82 hi hz0 hz1 hz2 rfl j7 _ 0 xs rfl (Hown.out.alloc _) _ 1 news.toList rfl (Reads.lit _ _ _ _ _ (by simpa using Hn.out)) H1n.out jd j6 j6 ?_)
  exact j3O
 ·have hgl:=lt_of_block hgc;clear hgc;obtain⟨Hown,H1n,Hn⟩:=hid3 hown h1n hn;clear hn h1n hown;by_cases hc:cap=n
  ·subst hc;exact j3P
  ·exact j3P
theorem Acm(w:World)(g i n:Nat)(xs:List Value)(hown:w.ownsRow 0 96 5 (.slice (some ⟨g,0,none⟩) n n) n xs)(hin:i<n)(news:Array Value)(hn:news.size=5)(h1n:∀u∈news.toList,u.oneCell'=true)(h1x:∀u∈xs,u.oneCell'=true)(hnb:n<=1000000000000):
  Calls Tryz.prog 207 #[.slice (some ⟨g,0,none⟩) n n,.int .i64 i,.slice (some ⟨w.heap.size,0,none⟩) 1 1] (w.alloc (.cells news 96)) λe w'=>∃v',e= .returned v'/\w'.ownsRow 0 96 5 v' (n+1) (xs.take (i*5)++news.toList++xs.drop (i*5))/\
   Keeps (λ_=>False) w w'/\∃g,v'.ownBlock=some g/\w.heap.size<=g:=by
 obtain⟨i0,hi,hz0,hz1,hz2⟩:=info_parts Jh;have hsz:(Tryz.prog.info? 96).map (·.size)=some 5:=by rw [hi];simp [hz1]
 have hgl:=(hown.lt g rfl).2;have hxl:xs.length=n*5:=hown.1;have hcells:=hown.cells (g:=g) rfl;obtain⟨X1,hX1⟩:∃X1,X1=xs.take (i*5):=⟨_,rfl⟩;obtain⟨X2,hX2⟩:∃X2,X2=xs.drop (i*5):=⟨_,rfl⟩;have l1:X1.length=i*5:=by rw [hX1];simp;omega
 have l2:X2.length=(n-i)*5:=by rw [hX2];simp [hxl];omega
 have c1:∀j u,X1[j]?=some u->w.cell? ((⟨g,0,none⟩:Addr).add j)=some u:=λj u hj=>hcells j u (by
  rw [hX1,List.getElem?_take] at hj;split at hj;· exact hj
  ·simp at hj)
 have c2:∀j u,X2[j]?=some u->w.cell? ⟨g,i*5+j,none⟩=some u:=λj u hj=>by
  have:=hcells (i*5+j) u (by rw [hX2,List.getElem?_drop] at hj;exact hj)
  rwa [Dx,Nat.zero_add] at this
 have o1:∀u∈X1,u.oneCell'=true:=λu hu=>h1x u (by rw [hX1] at hu;exact List.mem_of_mem_take hu);have o2:∀u∈X2,u.oneCell'=true:=λu hu=>h1x u (by rw [hX2] at hu;exact List.mem_of_mem_drop hu);rw [<-hX1,<-hX2]
 have wz:∀(W:World),Keeps (λ_=>False) w W->∀j u,X1[j]?=some u->W.cell? ((⟨g,0,none⟩:Addr).add j)=some u:=λW hW j u hj=>by
  rw [hW.cell (by rw [add_block];exact hgl) (by simp)];exact c1 j u hj
 obtain⟨k,hk⟩:∃k:Nat,k=n+1-i:=⟨_,rfl⟩;have hk1:(n:Int)+1-i=k:=by omega
 have hne1:¬i=n:=by omega
 have hne2:¬n=i:=by omega
 obtain⟨Hown,H1n,H1x,Hn,Hcells,HX1,HX2,L1,L2⟩:=hid9 hown h1n h1x hn hcells hX1 hX2 l1 l2;clear l2 l1 hX2 hX1 hcells hn h1x h1n hown;obtain⟨C1,C2,O1,O2,Wz,Hk,Hxl⟩:=hid7 c1 c2 o1 o2 wz hk hxl;clear hxl hk wz o2 o1 c2 c1;go_enter Tryz.func207,Tryz.ntmps207;have hk2:2<=k/\i+k=n+1/\k<=1000000000001:=by have:=Hk.out;omega
 obtain⟨k2,k3,k4⟩:=hk2;have K3:=Lib.hid k3;clear k3
 go_wp2_with (first
  |(at_builtin;refine Mt rfl (.tmp 34) (.tmp 39) 82 3 rfl 96 i0 _ 5 40 .i64 Tryz.underlying82 Tryz.underlying3 hi hz0 hz1 hz2 rfl (by decide) ⟨g,0,none⟩ i n X1 k rfl rfl L1.out (Wz.out _ (Keeps.alloc _ _)) (by omega) (by have:=K3.out;omega) (by have:=K3.out;omega) (by decide) ?_;intro G Z w1 hG hGm hZ hrow hkp;have hbox:=Ad (heap_alloc_new w (.cells news 96)) hkp (by simp);have Hbox:=Lib.hid hbox;have Hrow:=Lib.hid hrow;have Hkp:=Lib.hid hkp;have HZ:=Lib.hid hZ;have hGi:¬G=i:=(by omega);have hGi1:¬G=i+1:=(by omega);clear hrow hkp hZ hbox)
  |(with_reducible refine Cu rfl (.tmp 43) (.tmp 44) 82 82 rfl 96 5 Tryz.underlying82 hsz (w.heap.size+1) (i*5) k (G-i) ⟨w.heap.size,0,none⟩ 1 1 rfl rfl (X1++Z) 96 (by simpa using Hrow.out) news.toList 1 (Nat.min_eq_left (by omega)) (by rw [Array.length_toList,Hn.out]) (λj u hj=>by rw [Dx,Nat.zero_add,Aa Hbox.out];simpa using hj) (by simp only [List.length_append,Array.length_toList,L1.out,HZ.out,Hn.out];omega) H1n.out ?_;intro w2 hrow2 hkp2;have Hrow2:=Lib.hid hrow2;have Hkp2:=Lib.hid hkp2;clear hrow2 hkp2))
 go_frame
 have hw1:IntKind.i64.wrap ((i:Int)+1)=(i:Int)+1:=IntWalk.i64_in _ (by omega);have hw2:(0:Int)<=(i:Int)+1:=by omega
 have hw3:((i:Int)+1).toNat=i+1:=by omega
 have hw4:(i:Int)+1<=(i:Int)+k:=by omega
 have hw5:(i:Int)<=n:=by omega
 have hkk:k-1=n-i:=by have:=K3.out;omega
 have Hkk:=Lib.hid hkk;clear hkk;have hk0:Keeps (λk=>w.heap.size<=k) w w2:=((Keeps.alloc _ _).trans (Hkp.out.mono (by simp))).trans (Hkp2.out.mono λk _ h=>by subst h;left;simp)
 have hs2:∀j u,X2[j]?=some u->w2.drew.cell? ((⟨g,i*5,none⟩:Addr).add j)=some u:=λj u hj=>by
  rw [Dx];exact(hk0.cell (p:=⟨g,i*5+j,none⟩) hgl (by simpa using hgl)).trans (C2.out j u hj)
 have hf2:(i+1)*5+X2.length<=(laid (X1++Z) (i*5) news.toList).length:=by
  rw [Fb _ _ _ (by simp only [List.length_append,Array.length_toList,L1.out,HZ.out,Hn.out];omega)];have:=K3.out;simp only [List.length_append,L1.out,HZ.out,L2.out];omega
 have hm2:Nat.min (n-i) (i+k-(i+1))=n-i:=Nat.min_eq_left (by have:=K3.out;omega)
 have hfin:∀w3:World,w3.heap[w.heap.size+1]?=some (.cells (laid (laid (X1++Z) (i*5) news.toList) ((i+1)*5) X2).toArray 96 (0,0))->Keeps (λk=>k=w.heap.size+1) w2.drew w3->
   w3.ownsRow 0 96 5 (.slice (some ⟨w.heap.size+1,0,none⟩) (n+1) G) (n+1) (X1++news.toList++X2)/\Keeps (λ_=>False) w w3:=λw3 hr3 hk3=>by
  have hz2:5+X2.length<=Z.length:=by rw [L2.out,HZ.out];have:=K3.out;omega
  refine⟨⟨?_,.inr ⟨w.heap.size+1,G,_,rfl,Nat.zero_le _,hr3,by have:=K3.out;omega,hGm, ?_, ?_⟩⟩,(hk0.trans ((Keeps.drew _).trans (hk3.mono λk _ h=>by subst h;left;left;omega))).mono ?_⟩
  ·simp only [List.length_append,Array.length_toList,L1.out,L2.out,Hn.out];omega
  ·rw [List.size_toArray,Fb _ _ _ hf2,Fb _ _ _ (by simp only [List.length_append,Array.length_toList,L1.out,HZ.out,Hn.out];omega)];simp only [List.length_append,L1.out,HZ.out];have:=K3.out;omega
  ·have:=ins_grow (X1:=X1) (X2:=X2) (Z:=Z) (N:=news.toList) (a:=i*5) (b:=(n-i)*5) (s:=5) L1.out L2.out (by simpa using Hn.out) (by rw [<-L2.out];exact hz2) (X1++Z) _ rfl rfl;simp only [laid];rw [show(n+1)*5=i*5+5+(n-i)*5 by omega,show(i+1)*5=i*5+5 by omega];exact this
  ·intro k hk h;omega
 obtain⟨Hk0,Hs2,Hf2,Hm2,Hfin⟩:=hid5 hk0 hs2 hf2 hm2 hfin;clear hfin hm2 hf2 hs2 hk0
 go_region_law (refine Dh rfl (.tmp 50) (.tmp 53) 82 82 rfl 96 5 Tryz.underlying82 hsz (w.heap.size+1) ((i+1)*5) (i+k-(i+1)) (G-(i+1)) ⟨g,i*5,none⟩ (n-i) (n-i) (by simp [Act.eval,Act.put]) (by simp [Act.eval,Act.put]) _ 96 Hrow2.out X2 (n-i) Hm2.out L2.out Hs2.out Hf2.out O2.out ?_;intro w3 hr3 hk3;have Hend:=Lib.hid (Hfin.out w3 hr3 hk3);clear hr3 hk3)
 go_wp2;go_ret;exact⟨_,rfl,by show World.ownsRow _ _ _ _ (Value.slice _ (i+k) G) _ _;rw [K3.out];exact Hend.out.1,Hend.out.2,w.heap.size+1,rfl,by omega⟩
theorem Acl(w:World)(g i n cap:Nat)(xs:List Value)(hown:w.ownsRow 0 96 5 (.slice (some ⟨g,0,none⟩) n cap) n xs)(hin:i<n)(hroom:n+1<=cap)(news:Array Value)(hn:news.size=5)(h1n:∀u∈news.toList,u.oneCell'=true)(h1x:∀u∈xs,u.oneCell'=true)(hnb:n<=1000000000000):
  Calls Tryz.prog 207 #[.slice (some ⟨g,0,none⟩) n cap,.int .i64 i,.slice (some ⟨w.heap.size,0,none⟩) 1 1] (w.alloc (.cells news 96)) λe w'=>e= .returned (.slice (some ⟨g,0,none⟩) (n+1) cap)/\w'.ownsRow 0 96 5 (.slice (some ⟨g,0,none⟩) (n+1) cap) (n+1) (xs.take (i*5)++news.toList++xs.drop (i*5))/\
   Keeps (λk=>k=g) w w':=by
 obtain⟨i0,hi,hz0,hz1,hz2⟩:=info_parts Jh;have hsz:(Tryz.prog.info? 96).map (·.size)=some 5:=by rw [hi];simp [hz1]
 have hgl:=(hown.lt g rfl).2
 obtain⟨cur,hgc,hcm,hcs,htk⟩:∃cur:List Value,w.heap[g]?=some (.cells cur.toArray 96 (0,0))/\cap<=maxLen/\cur.length=cap*5/\cur.take (n*5)=xs:=by
  rcases hown.2 with⟨h,_⟩|⟨g',cap',cur,h,_,hh,_,h1,h2,h3⟩
  ·simp at h
  ·simp only [Value.slice.injEq,Option.some.injEq,Addr.mk.injEq,and_true,true_and] at h;obtain⟨rfl,rfl⟩:=h;exact⟨cur.toList,by simpa using hh,h1,by simpa using h2,h3⟩
 have hxl:xs.length=n*5:=hown.1;obtain⟨X1,hX1⟩:∃X1,X1=xs.take (i*5):=⟨_,rfl⟩;obtain⟨X2,hX2⟩:∃X2,X2=xs.drop (i*5):=⟨_,rfl⟩;obtain⟨Z,hZ⟩:∃Z,Z=cur.drop (n*5):=⟨_,rfl⟩;have l1:X1.length=i*5:=by rw [hX1];simp;omega
 have l2:X2.length=(n-i)*5:=by rw [hX2];simp [hxl];omega
 have lz:5<=Z.length:=by rw [hZ];simp;omega
 have hcur:cur=X1++(X2++Z):=by
  rw [hX1,hX2,hZ,<-List.append_assoc,List.take_append_drop,<-htk,List.take_append_drop]
 have o2:∀u∈X2,u.oneCell'=true:=λu hu=>h1x u (by rw [hX2] at hu;exact List.mem_of_mem_drop hu)
 have c2:∀j u,X2[j]?=some u->w.cell? ⟨g,i*5+j,none⟩=some u:=λj u hj=>by
  rw [Aa hgc,List.getElem?_toArray,hcur,List.getElem?_append_right j6,l1,show i*5+j-i*5=j by omega,List.getElem?_append_left (Db hj)];exact hj
 rw [<-hX1,<-hX2];have hbox:(w.alloc (.cells news 96)).heap[w.heap.size]?=some (.cells news 96 (0,0)):=heap_alloc_new w _;have hgc1:(w.alloc (.cells news 96)).heap[g]?=some (.cells cur.toArray 96 (0,0)):=Ar hgc _
 have hov:∀lb cb,(callFunc 244 #[.slice (some ⟨w.heap.size,0,none⟩) 1 1,.slice (some ⟨g,(i+1)*5,none⟩) lb cb]).run Tryz.prog (w.alloc (.cells news 96))= .ok (.value (.bool false)) (w.alloc (.cells news 96)):=λlb cb=>by
  rw [run_callFunc_extern Tryz.func244 j9 j9 j9 (e:=Extern.SlicesOverlaps.overlaps #[82,82] #[4]) j9,
   Lib.run_overlaps_apart (w.alloc (.cells news 96)) 82 4 96 Tryz.underlying82 5 (λw=>by kernel_rfl) ⟨w.heap.size,0,none⟩ ⟨g,(i+1)*5,none⟩ 1 1 lb cb (by show w.heap.size≠g;omega) 96 96 5 (cap*5)
    (by unfold World.shape?;rw [hbox];simp [hn]) (by unfold World.shape?;rw [hgc1];simp [hcs]) (by omega) (by unfold World.frozen?;rw [hbox];simp) (by unfold World.frozen?;rw [hbox];simp)]
  rfl
 have hne1:¬i=n:=j8;have hne2:¬n=i:=j8;have hne3:¬cap=i:=j8;have hne4:¬cap=i+1:=j8;have hrm:(n:Int)+1<=cap:=j8;unfold maxLen at hcm;obtain⟨Hown,H1n,H1x,Hn,HX1,HX2,HZ,L1,L2⟩:=hid9 hown h1n h1x hn hX1 hX2 hZ l1 l2;clear l2 l1 hZ hX2 hX1 hn h1x h1n hown;obtain⟨Lz,O2,C2,Hcur,Htk,Hxl,Hcs,Hbox,Hgc⟩:=hid9 lz o2 c2 hcur htk hxl hcs hbox hgc;clear hgc hbox hcs hxl htk hcur c2 o2 lz;have Hgc1:=Lib.hid hgc1;clear hgc1;go_enter Tryz.func207,Tryz.ntmps207
 go_wp2_with (simp only [hov])
 have hw1:IntKind.i64.wrap ((i:Int)+1)=(i:Int)+1:=IntWalk.i64_in _ j6;have hw2:(0:Int)<=(i:Int)+1:=j8;have hw3:((i:Int)+1).toNat=i+1:=j8;have hw4:(i:Int)+1<=(n:Int)+1:=j8;have hw5:(i:Int)<=(n:Int)+1:=j8;have lcur:cur.length=i*5+((n-i)*5+Z.length):=by rw [Hcur.out];simp only [List.length_append,L1.out,L2.out]
 have hs2:∀j u,X2[j]?=some u->(w.alloc (.cells news 96)).drew.cell? ((⟨g,i*5,none⟩:Addr).add j)=some u:=λj u hj=>by
  rw [Dx];exact((Keeps.alloc (S:=λ_=>False) w (.cells news 96)).cell (p:=⟨g,i*5+j,none⟩) hgl (by simp)).trans (C2.out j u hj)
 have hf2:(i+1)*5+X2.length<=cur.length:=by rw [lcur,L2.out];have:=Lz.out;omega
 have hm2:Nat.min (n+1-i) (n+1-(i+1))=n-i:=(Nat.min_eq_right j6).trans j6
 have hf3:i*5+news.toList.length<=(laid cur ((i+1)*5) X2).length:=by
  rw [Fb _ _ _ hf2,lcur,Array.length_toList,Hn.out];have:=Lz.out;omega
 have hfin:∀w2 w3:World,Keeps (λk=>k=g) (w.alloc (.cells news 96)).drew w2->w3.heap[g]?=some (.cells (laid (laid cur ((i+1)*5) X2) (i*5) news.toList).toArray 96 (0,0))->Keeps (λk=>k=g) w2 w3->
  w3.ownsRow 0 96 5 (.slice (some ⟨g,0,none⟩) (n+1) cap) (n+1) (X1++news.toList++X2)/\Keeps (λk=>k=g) w w3:=λw2 w3 hk2 hr3 hk3=>by
  refine⟨⟨?_,.inr ⟨g,cap,_,rfl,Nat.zero_le _,hr3,hroom,by unfold maxLen;exact hcm, ?_, ?_⟩⟩,(((Keeps.alloc _ _).trans (Keeps.drew _)).trans (hk2.mono λ_ _ h=> .inl h)).trans (hk3.mono λ_ _ h=> .inl h)⟩
  ·simp only [List.length_append,Array.length_toList,L1.out,L2.out,Hn.out];omega
  ·rw [List.size_toArray,Fb _ _ _ hf3,Fb _ _ _ hf2];exact Hcs.out
  ·have:=ins_room (X1:=X1) (X2:=X2) (Z:=Z) (N:=news.toList) (a:=i*5) (b:=(n-i)*5) (s:=5) L1.out L2.out (by simpa using Hn.out) Lz.out cur _ Hcur.out rfl;simp only [laid];rw [show(n+1)*5=i*5+5+(n-i)*5 by omega,show(i+1)*5=i*5+5 by omega];exact this
 have hbx:∀w2:World,Keeps (λk=>k=g) (w.alloc (.cells news 96)).drew w2->w2.heap[w.heap.size]?=some (.cells news 96 (0,0)):=λw2 hk2=>Ad (w:=(w.alloc (.cells news 96)).drew) Hbox.out hk2 j6;obtain⟨Hs2,Hf2,Hm2,Hf3,Hfin,Hbx,Lcur⟩:=hid7 hs2 hf2 hm2 hf3 hfin hbx lcur;clear lcur hbx hfin hf3 hm2 hf2 hs2;clear hov
 go_region_law (refine Dh rfl (.tmp 73) (.tmp 76) 82 82 rfl 96 5 Tryz.underlying82 hsz g ((i+1)*5) (n+1-(i+1)) (cap-(i+1)) ⟨g,i*5,none⟩ (n+1-i) (cap-i) (by simp [Act.eval,Act.put]) (by simp [Act.eval,Act.put]) cur 96 Hgc1.out X2 (n-i) Hm2.out L2.out Hs2.out Hf2.out O2.out ?_;intro w2 hr2 hk2;have Hr2:=Lib.hid hr2;have Hk2:=Lib.hid hk2;have Hb2:=Lib.hid (Hbx.out w2 hk2);clear hr2 hk2)
 go_wp2_with (with_reducible refine Cu rfl (.tmp 80) (.tmp 81) 82 82 rfl 96 5 Tryz.underlying82 hsz g (i*5) (n+1-i) (cap-i) ⟨w.heap.size,0,none⟩ 1 1 rfl rfl _ 96 Hr2.out news.toList 1 (Nat.min_eq_left j6) (by rw [Array.length_toList,Hn.out]) (λj u hj=>by rw [Dx,Nat.zero_add,Aa Hb2.out];simpa using hj) Hf3.out H1n.out ?_;intro w3 hr3 hk3;have Hend:=Lib.hid (Hfin.out w2 w3 Hk2.out hr3 hk3);clear hr3 hk3)
 go_wp2;go_ret;exact⟨rfl,Hend.out⟩
theorem insEv_any(w:World)(v:Value)(i n:Nat)(xs:List Value)(hown:w.ownsRow 0 96 5 v n xs)(hin:i<=n)(news:Array Value)(hn:news.size=5)(h1n:∀u∈news.toList,u.oneCell'=true)(h1x:∀u∈xs,u.oneCell'=true)(hnb:n<=1000000000000):
  Calls Tryz.prog 207 #[v,.int .i64 i,.slice (some ⟨w.heap.size,0,none⟩) 1 1] (w.alloc (.cells news 96)) λe w'=>∃v',e= .returned v'/\w'.ownsRow 0 96 5 v' (n+1) (xs.take (i*5)++news.toList++xs.drop (i*5))/\
   Keeps (λk=>v.ownBlock=some k) w w'/\(v'.ownBlock=v.ownBlock\/∃g,v'.ownBlock=some g/\w.heap.size<=g):=by
 have hxl:=hown.1;by_cases h:i=n
 ·subst h;rw [List.take_of_length_le j6,List.drop_of_length_le j6,List.append_nil];exact insEv_end w v i xs hown news hn h1n hnb
 ·obtain⟨g,cap,rfl,hg⟩:=Ga hown j6
  have hnc:n<=cap:=by
   obtain⟨ad,c,he,h,_⟩:=Ae hown;injection he with _ _ e;omega
  by_cases hr:n+1<=cap
  ·refine(Acl w g i n cap xs hown j6 hr news hn h1n h1x hnb).mono ?_;rintro e w' ⟨rfl,h1,h2⟩;exact⟨_,rfl,h1,h2.mono λk _ hk=>by subst hk;rfl,.inl rfl⟩
  ·obtain rfl:n=cap:=by omega
   refine(Acm w g i n xs hown j6 news hn h1n h1x hnb).mono ?_;rintro e w' ⟨v',rfl,h1,h2,h3⟩;exact⟨v',rfl,h1,h2.mono (by simp),.inr h3⟩
theorem info_tTr:(Tryz.prog.info? 120).map (λi=>(i.zero,i.size,i.bytes))=some (some (.agg #[.int .i64 0,.bool false]),2,16):=by kernel_rfl
theorem Rn(w:World)(v:Value)(n:Nat)(xs:List Value)(hr:Reads w 2 v n xs)(h1:∀u∈xs,u.oneCell'=true)(hn:n<=1000000000000):
  Calls Tryz.prog 105 #[v] w λe w'=>∃v',e= .returned v'/\w'.ownsRow 0 120 2 v' n xs/\Keeps (λ_=>False) w w'/\(∀k,v'.ownBlock=some k->w.heap.size<=k):=by
 obtain⟨i0,hi,hz0,hz1,hz2⟩:=info_parts info_tTr;have hr':=hr;obtain⟨ad,c,rfl,hnc,hl,hnone,hcells⟩:=hr';clear hcells;have heq:=fun(wx:World) (ad:Option Addr) (l c:Nat)=>Lib.run_eql_slice_nil (P:=Tryz.prog) wx 42 _ ad l c 0 0 Tryz.underlying42;rcases ad with _|a
 ·obtain rfl:=hnone rfl;obtain rfl:n=0:=by omega
  obtain rfl:xs= []:=List.eq_nil_of_length_eq_zero jr;have hr0:=Lib.hid hr;clear hr;go_enter Tryz.func105,Tryz.ntmps105;exact jH
 ·have Hr:=Lib.hid hr;clear hr;obtain⟨Hl,Hnone,H1⟩:=hid3 hl hnone h1;clear h1 hnone hl;go_enter Tryz.func105,Tryz.ntmps105
  go_wp2_with (at_builtin;refine Ao rfl (.tmp 5) (.tmp 6) 42 rfl 0 120 i0 _ 2 16 Tryz.underlying42 hi hz0 hz1 hz2 rfl j7 _ 0 [] rfl (World.ownsRow_lit w #[] 0 j6 jd rfl) _ n xs rfl (Hr.out.keeps (Keeps.alloc (S:=λ_=>False) _ _) (by simp)) H1.out jd j6 j6 ?_)
  intro v' w1 hown1 hk1 hfr
  have hend:w1.ownsRow 0 120 2 v' n xs/\Keeps (λ_=>False) w w1/\(∀k,v'.ownBlock=some k->w.heap.size<=k):=by
   exact jI
  exact jJ
structure DL(W:World)(B:Nat)(t:Tm)(vt:Value)(L:List Ev)(v:Value):Prop where
 blk:W.heap[B]?=some (.cells #[.int .i64 t.limit,vt,.int .i64 t.cyc,.int .i64 t.due,.int .i64 t.minFixed,.int .i64 t.minPart,.int .i64 t.start,v] 215 (0,0))
 trs:W.ownsRow 0 120 2 vt t.trs.length (t.trs.flatMap Tn.cells)
 row:W.ownsRow 0 96 5 v L.length (L.flatMap Ev.cells)
theorem halloc_at(w:World)(o:Obj){i:Nat}(h:i=w.heap.size):(w.alloc o).heap[i]?=some o:=by subst h;exact heap_alloc_new w o
def NewPost(t:Tm)(w:World)(e:Ending)(w':World):Prop:=∃B vt,e= .returned (.pointer (some ⟨B,0,none⟩))/\DL w' B t vt [] (.slice none 0 0)/\Keeps (λ_=>False) w w'/\w.heap.size<=B/\(∀g,vt.ownBlock=some g->w.heap.size<=g)
theorem Ad6(t:Tm)(v:Value)(w:World)(hr:Reads w 2 v t.trs.length (t.trs.flatMap Tn.cells))(hl:t.trs.length<=1000000):
  Calls Tryz.prog 106 #[t.val v] w (NewPost t w):=by
 simp only [Tm.val];have Hr:=Lib.hid hr;clear hr;go_enter Tryz.func106,Tryz.ntmps106;go_wp2_with fail;refine(Rn _ v t.trs.length _ (Hr.out.keeps (S:=λ_=>False) jf (by simp)) (λu hu=>Tn.one _ u hu) j6).mono ?_;rintro e w1 ⟨vt,rfl,hrow,hk1,hnew⟩;have hb:=Mr hk1 (by simp);have b0:=Aa hb 0;have b1:=Aa hb 1;have b2:=Aa hb 2;have b3:=Aa hb 3;have b4:=Aa hb 4;have b5:=Aa hb 5;have b6:=Aa hb 6;have f1:=Ab hb 1;have lb:=lt_of_block hb;simp at hnew;have hrow2:=(Keeps.setCell (S:=λi=>i=w.heap.size) w1 ⟨w.heap.size,1,none⟩ vt rfl).row hrow (λg hg e=>by have:=hnew g hg;omega);obtain⟨adt,ct,rfl,_,_⟩:=Ae hrow;obtain⟨Hrow,Hk1,Hnew,Hb,Hrow2⟩:=hid5 hrow hk1 hnew hb hrow2;clear hrow2 hb hnew hk1 hrow;go_wp2_with fail;go_ret;exact⟨_,_,rfl,⟨halloc_at _ _ (by simp),Hrow2.out.alloc _,World.ownsRow_nil _ _ _ _⟩,((Keeps.nt jf Hk1.out).trans (Keeps.setCell _ _ _ (.inr (Nat.le_refl _)))).trans (Keeps.alloc _ _),by omega,λg hg=>by have:=Hnew.out g hg;omega⟩
def plFr(v:Value)(day:Int)(n:Nat)(u:Nat->Value):Act:={ tmps:= #[v,.int .i64 day,u 2,u 3,u 4,.int .i64 n,u 6,u 7,u 8,u 9,u 10,u 11,u 12,u 13,u 14,u 15,u 16,u 17,u 18,u 19,u 20,u 21,u 22],defers:= [] }
def plJ(w:World)(v:Value)(day:Int)(L:List Ev)(a':Act)(W:World):Prop:=∃(n:Nat) (u:Nat->Value),a'=plFr v day n u/\W=w/\n<=L.length/\placeOf day L L.length=placeOf day L n
theorem plJ.mk{w W:World}{v:Value}{day:Int}{L:List Ev}{a':Act}(n:Nat)(h:a'=plFr v day n (λi=>a'.tmps.getD i undef))(hw:W=w)(hn:n<=L.length)(hp:placeOf day L L.length=placeOf day L n):plJ w v day L a' W:=⟨n,_,h,hw,hn,hp⟩
def Zu(i:Nat)(a':Act):Nat:=match a'.tmps.getD i undef with| .int _ n=>n.toNat|_=>0
theorem Yp(day:Int)(L:List Ev)(ad:Option Addr)(cap:Nat)(w:World)(hr:Reads w 5 (.slice ad L.length cap) L.length (L.flatMap Ev.cells))(hl:L.length<=1000000):
  Calls Tryz.prog 208 #[.slice ad L.length cap,.int .i64 day] w λe w'=>e= .returned (.int .i64 (placeOf day L L.length:Nat))/\w=w':=by
 obtain⟨m,hm⟩:∃m,L.length=m:=⟨_,rfl⟩;obtain⟨r,hrr⟩:∃r,placeOf day L L.length=r:=⟨_,rfl⟩;rw [hrr];rw [hm] at hr hl hrr⊢;obtain⟨Hr,Hm,Hrr⟩:=hid3 hr hm hrr;clear hrr hm hr;go_enter Tryz.func208,Tryz.ntmps208;go_wp2;refine De 0 (plJ w (.slice ad m cap) day L) (λa' _=>Zu 5 a') rfl ?_ ?_
 ·rintro a' W ⟨n,u,rfl,rfl,hn,hp⟩;unfold plFr;rw [Hm.out] at hn hp;rw [Hrr.out] at hp;rcases n with _|n
  ·have h0:placeOf day L 0=0:=by cases L<;>rfl
   obtain⟨Hp,H0⟩:=hid2 hp h0;clear h0 hp;go_wp2;refine Bq ?_;go_ret;exact⟨by rw [Hp.out,H0.out];rfl,rfl⟩
  ·obtain⟨x,hx⟩:=Aq (L:=L) (k:=n) jG;obtain⟨xk,xd,xt,xa,xf⟩:=x;obtain⟨g,o,c,he,hc⟩:=Hr.out.elem Ev.Aj hx j7;simp only [Value.slice.injEq,true_and] at he;obtain⟨rfl,rfl⟩:=he;have x1:W.cell? ⟨g,o+n*5+1,none⟩=some (.int .i64 xd):=hc 1 j7;have hp2:placeOf day L (n+1)=if day<xd then placeOf day L n else n+1:=by simp only [placeOf,hx]
   have q1:IntKind.i64.wrap (((n+1:Nat):Int)-1)=(n:Int):=by rw [show((n+1:Nat):Int)-1=(n:Int) by omega];exact IntWalk.i64_in _ ⟨by omega,by omega⟩
   have q2:(0:Int)<((n+1:Nat):Int):=j8;have q3:(n:Int)<(m:Int):=j8;have hgl:=Ah x1;clear hc;by_cases hd:day<xd
   ·rw [hp2,if_pos hd] at hp;have q4:((n:Int)+1)-1=n:=j8;obtain⟨Hp,Hp2,Hx⟩:=hid3 hp hp2 hx;clear hx hp2 hp;go_wp2;go_step3;go_wp2;exact Au ⟨plJ.mk n rfl rfl jG (by rw [Hm.out,Hrr.out];exact Hp.out),by simp [Zu]⟩
   ·rw [hp2,if_neg hd] at hp;obtain⟨Hp,Hp2,Hx⟩:=hid3 hp hp2 hx;clear hx hp2 hp;go_wp2;refine Bq ?_;go_ret;exact⟨by rw [Hp.out];rfl,rfl⟩
 ·refine jy ?_;intro Hfirst;go_wp2;go_step3;rename_i hK;refine jz ?_;exact plJ.mk m rfl rfl (by rw [Hm.out];exact Nat.le_refl _) (by rw [Hm.out])
def Ep(t:Tm)(L:List Ev)(e:Ev):Int:=if¬evErr t e=0 then evErr t e else if 2000<=L.length then 14 else 0
def addL(t:Tm)(L:List Ev)(e:Ev):List Ev:=if Ep t L e=0 then putL L e else L
theorem DL.keep{W W':World}{B:Nat}{t:Tm}{vt v:Value}{L:List Ev}(h:DL W B t vt L v)(hk:Keeps (λ_=>False) W W'):DL W' B t vt L v:=⟨Ad h.blk hk (by simp),hk.row h.trs (by simp),hk.row h.row (by simp)⟩
def Qb(B:Nat)(t:Tm)(vt v:Value)(L:List Ev)(e:Ev)(w:World)(x:Ending)(w':World):Prop:=
 x= .returned (.int .i64 (Ep t L e))/\∃v',DL w' B t vt (addL t L e) v'/\Keeps (λi=>i=B\/v.ownBlock=some i) w w'/\(v'.ownBlock=v.ownBlock\/∃g,v'.ownBlock=some g/\w.heap.size<=g)
def adS(B E:Nat)(li cy du mf mp st:Int)(vt v:Value)(ki da tr am re:Int)(w:World):Prop:=
 w.cell? ⟨B,0,none⟩=some (.int .i64 li)/\w.cell? ⟨B,1,none⟩=some vt/\w.cell? ⟨B,2,none⟩=some (.int .i64 cy)/\w.cell? ⟨B,3,none⟩=some (.int .i64 du)/\w.cell? ⟨B,4,none⟩=some (.int .i64 mf)/\w.cell? ⟨B,5,none⟩=some (.int .i64 mp)/\w.cell? ⟨B,6,none⟩=some (.int .i64 st)/\w.cell? ⟨B,7,none⟩=some v/\
 w.cell? ⟨E,0,none⟩=some (.int .i64 ki)/\w.cell? ⟨E,1,none⟩=some (.int .i64 da)/\w.cell? ⟨E,2,none⟩=some (.int .i64 tr)/\w.cell? ⟨E,3,none⟩=some (.int .i64 am)/\w.cell? ⟨E,4,none⟩=some (.int .i64 re)
theorem adS.of{B E:Nat}{li cy du mf mp st:Int}{vt v:Value}{ki da tr am re:Int}{w:World}(hb:w.heap[B]?=some (.cells #[.int .i64 li,vt,.int .i64 cy,.int .i64 du,.int .i64 mf,.int .i64 mp,.int .i64 st,v] 215 (0,0)))(he:w.heap[E]?=some (.cells #[.int .i64 ki,.int .i64 da,.int .i64 tr,.int .i64 am,.int .i64 re] 96 (0,0))):adS B E li cy du mf mp st vt v ki da tr am re w:=
 ⟨Aa hb 0,Aa hb 1,Aa hb 2,Aa hb 3,Aa hb 4,Aa hb 5,Aa hb 6,Aa hb 7,Aa he 0,Aa he 1,Aa he 2,Aa he 3,Aa he 4⟩
theorem adS.keep{B E:Nat}{li cy du mf mp st:Int}{vt v:Value}{ki da tr am re:Int}{w w':World}(h:adS B E li cy du mf mp st vt v ki da tr am re w){S:Nat->Prop}(hk:Keeps S w w')(hB:¬S B)(hE:¬S E):adS B E li cy du mf mp st vt v ki da tr am re w':=by
 obtain⟨h0,h1,h2,h3,h4,h5,h6,h7,e0,e1,e2,e3,e4⟩:=h
 exact⟨(hk.cell (Ah h0) hB).trans h0,(hk.cell (Ah h1) hB).trans h1,(hk.cell (Ah h2) hB).trans h2,(hk.cell (Ah h3) hB).trans h3,(hk.cell (Ah h4) hB).trans h4,(hk.cell (Ah h5) hB).trans h5,(hk.cell (Ah h6) hB).trans h6,(hk.cell (Ah h7) hB).trans h7,
  (hk.cell (Ah e0) hE).trans e0,(hk.cell (Ah e1) hE).trans e1,(hk.cell (Ah e2) hE).trans e2,(hk.cell (Ah e3) hE).trans e3,(hk.cell (Ah e4) hE).trans e4⟩
theorem Qb.none{B:Nat}{t:Tm}{vt v:Value}{L:List Ev}{e:Ev}{w w':World}(h:DL w B t vt L v){z:Int}(hz:Ep t L e=z)(h0:z≠0)(hk:Keeps (λ_=>False) w w'):Qb B t vt v L e w (.returned (.int .i64 z)) w':=by
 refine⟨by rw [hz],v, ?_,hk.mono (by simp),.inl rfl⟩;unfold addL;rw [if_neg (by rw [hz];exact h0)];exact h.keep hk
end Go.Proofs.YtgbgmadkmabeeaaGreat
