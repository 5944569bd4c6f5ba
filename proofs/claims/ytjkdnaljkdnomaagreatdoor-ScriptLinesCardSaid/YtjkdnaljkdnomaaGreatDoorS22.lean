/- Part 22 of what the laws of this seat share: walks of functions, and plain laws. -/
import Derived.Test.YtjkdnaljkdnomaaGreatDoorS2
import Derived.Test.YtjkdnaljkdnomaaGreatDoorS18
import Derived.Test.YtjkdnaljkdnomaaGreatDoorS20
import Derived.Test.YtjkdnaljkdnomaaGreatDoorS21
set_option maxRecDepth 100000
set_option maxHeartbeats 6400000
namespace Go.Proofs.YtjkdnaljkdnomaaGreatDoor
open Go.RowKit
def freeB(out:List Stm)(fr:Int)(L:List Ev):Bool:=match out.getLast? with
 |none=>true
 |some x=>hasB x.total fr x.due L
def frS1(B:Nat)(vo:Value)(g o:Nat)(cy fr te du:Int)(vl:Value)(tt cr mi:Int)(gr:Bool)(W:World):Prop:=W.cell? ⟨B,16,none⟩=some vo/\W.cell? ⟨g,o,none⟩=some (.int .i64 cy)/\W.cell? ⟨g,o+1,none⟩=some (.int .i64 fr)/\W.cell? ⟨g,o+2,none⟩=some (.int .i64 te)/\W.cell? ⟨g,o+3,none⟩=some (.int .i64 du)/\W.cell? ⟨g,o+4,none⟩=some vl/\W.cell? ⟨g,o+5,none⟩=some (.int .i64 tt)/\W.cell? ⟨g,o+6,none⟩=some (.int .i64 cr)/\W.cell? ⟨g,o+7,none⟩=some (.int .i64 mi)/\W.cell? ⟨g,o+8,none⟩=some (.bool gr)
theorem frS1.keep{B:Nat}{vo:Value}{g o:Nat}{cy fr te du:Int}{vl:Value}{tt cr mi:Int}{gr:Bool}{W W':World}(h:frS1 B vo g o cy fr te du vl tt cr mi gr W)(hk:K0 W W'):frS1 B vo g o cy fr te du vl tt cr mi gr W':=by
 obtain⟨h1,h2,h3,h4,h5,h6,h7,h8,h9,h10⟩:=h;refine j0z ?_;intro k;exact⟨k h1,k h2,k h3,k h4,k h5,k h6,k h7,k h8,k h9,k h10⟩
def frS2(B b3 b6:Nat)(vl:Value)(tt fr du:Int)(W:World):Prop:=W.cell? ⟨B,7,none⟩=some vl/\W.cell? ⟨b3,0,none⟩=some (.int .i64 fr)/\W.cell? ⟨b6,5,none⟩=some (.int .i64 tt)/\W.cell? ⟨b6,3,none⟩=some (.int .i64 du)
theorem frS2.keep{B b3 b6:Nat}{vl:Value}{tt fr du:Int}{W W':World}(h:frS2 B b3 b6 vl tt fr du W)(hk:K0 W W'):frS2 B b3 b6 vl tt fr du W':=by
 obtain⟨h1,h2,h3,h4⟩:=h;refine j0z ?_;intro k;exact⟨k h1,k h2,k h3,k h4⟩
theorem Aai{w0:World}{X:Fx}{B:Nat}{t:Tm}{n:Nat}{vt:Value}{L:List Ev}{f0 f1 f2:Value}{s:St}{vl vb vr:Value}{g0 g1:Nat}{S0 S1:List SI}{vo:Value}{P:List SV}{W:World}(h:RunV w0 X B t n vt L f0 f1 f2 s vl vb vr g0 g1 S0 S1 vo P W)
  (hl:L.length<=1000000) (hm:s.out.length<=1000) (hok:∀x∈L,x.kind=2->0<=x.amount/\x.amount<=1000000000000000) (fr te:Int):
  Calls Tryz.prog 130 #[(.pointer (some ⟨B,0,none⟩)),.agg #[.int .i64 fr,.int .i64 te]] W λe W'=>e= .returned (.tuple #[.bool (freeB s.out fr L),.int .i64 0])/\K0 W W':=by
 obtain⟨N,hN⟩:=eX L.length;obtain⟨adl,cl,rfl⟩:∃a c,vl= .slice a N c:=by obtain⟨a,c,h,_⟩:=Ae h.evs;rw [hN] at h;exact⟨a,c,h⟩
 obtain⟨m,hmm⟩:=eX P.length;obtain⟨av,cv,rfl⟩:∃a c,vo= .slice a m c:=by obtain⟨a,c,h,_⟩:=Ae h.out;rw [hmm] at h;exact⟨a,c,h⟩
 have hpo:s.out.length=m:=by rw [<-h.lp,List.length_map];exact hmm
 have b16:=Aa h.blk 16;have bl:=lt_of_block h.blk;rw [hN] at hl;rw [hpo] at hm;by_cases h0:m=0
 ·subst h0
  have hf:freeB s.out fr L=true:=by
   have:s.out= []:=List.length_eq_zero_iff.1 hpo;rw [this];rfl
  rw [hf];clear h hN hmm hpo hok hf;go_enter Tryz.func130,Tryz.ntmps130;go_wp2;exact bodyPost_ret (v:= .tuple #[.bool true,.int .i64 0]) (by simp [results,Tryz.results130,go_sem]) rfl ⟨rfl,Keeps.alloc _ _⟩
 ·have h0I:((m:Int)==0)=false:=beq_eq_false_iff_ne.2 j6;obtain⟨k,hk⟩:∃k,m=k+1:=⟨m-1,by omega⟩;obtain⟨x,hx⟩:=Ar (L:=P) (k:=k) j6;obtain⟨g,o,c,he,hc⟩:=(Reads.Bg h.out).elem SV.Aj hx j7;rw [hmm] at he;simp only [Value.slice.injEq,true_and] at he;obtain⟨rfl,rfl⟩:=he;obtain⟨⟨cy,xf,xt,xd,tt,xc,xm,xg,ln⟩,ax,cx⟩:=x;have x0:W.cell? ⟨g,o+k*9,none⟩=some (.int .i64 cy):=hc 0 j7;have x1:W.cell? ⟨g,o+k*9+1,none⟩=some (.int .i64 xf):=hc 1 j7;have x2:W.cell? ⟨g,o+k*9+2,none⟩=some (.int .i64 xt):=hc 2 j7;have x3:W.cell? ⟨g,o+k*9+3,none⟩=some (.int .i64 xd):=hc 3 j7;have x4:W.cell? ⟨g,o+k*9+4,none⟩=some (.slice ax ln.length cx):=hc 4 j7;have x5:W.cell? ⟨g,o+k*9+5,none⟩=some (.int .i64 tt):=hc 5 j7;have x6:W.cell? ⟨g,o+k*9+6,none⟩=some (.int .i64 xc):=hc 6 j7;have x7:W.cell? ⟨g,o+k*9+7,none⟩=some (.int .i64 xm):=hc 7 j7;have x8:W.cell? ⟨g,o+k*9+8,none⟩=some (.bool xg):=hc 8 j7;clear hc
  have hgl:s.out.getLast?=some ⟨cy,xf,xt,xd,tt,xc,xm,xg,ln⟩:=by
   rw [List.getLast?_eq_getElem?,hpo,hk,<-h.lp,List.getElem?_map,show k+1-1=k from rfl,hx];rfl
  have hf:freeB s.out fr L=hasB tt fr xd L:=by unfold freeB;rw [hgl]
  rw [hf];have hgr:=λW' (hW:K0 W W')=>Za tt fr xd L adl cl N W' ((Reads.Bg h.evs).keeps hW (by simp)|>λr=>by rw [hN] at r;exact r) hN hl hok
  obtain⟨z,hz⟩:=eX (hasB tt fr xd L);rw [hz] at hgr⊢;have hm1:IntKind.i64.wrap ((k:Nat):Int)=(k:Int):=IntWalk.i64_in _ ⟨by omega,by omega⟩;have hkI:(k:Int)<(m:Int):=j8;have hm2:(m:Int)-1=k:=j8;have ka:K0 W (W.alloc (.cells #[.int .i64 fr,.int .i64 te] 56)):=Keeps.alloc _ _;have hrA:=h.keep0 ka
  have hS1:frS1 B (.slice (some ⟨g,o,none⟩) m cv) g (o+k*9) cy xf xt xd (.slice ax ln.length cx) tt xc xm xg (W.alloc (.cells #[.int .i64 fr,.int .i64 te] 56)).drew:=
   (show frS1 B (.slice (some ⟨g,o,none⟩) m cv) g (o+k*9) cy xf xt xd (.slice ax ln.length cx) tt xc xm xg W from⟨b16,x0,x1,x2,x3,x4,x5,x6,x7,x8⟩).keep (ka.Ao)
  clear x0 x1 x2 x3 x4 x5 x6 x7 x8;obtain⟨q,hq⟩:=eX ln.length;rw [hq] at hS1;clear h hN hmm hpo hok hf hx hgl;have Hgr:=Lib.hid hgr;clear hgr hz;obtain⟨Ka,HrA,HS1⟩:=hid3 ka hrA hS1;clear hS1 hrA ka hk hq;go_enter Tryz.func130,Tryz.ntmps130;go_wp2_with fail;refine Ak (frS1 B (.slice (some ⟨g,o,none⟩) m cv) g (o+k*9) cy xf xt xd (.slice ax q cx) tt xc xm xg) (.take 0 (.take 1 (.take 2 (.take 3 (.take 4 (.take 5 (.take 6 (.take 7 (.take 8 (.take 9 (.take 10 (.take 11 (.move 12 (.move 13 .done)))))))))))))) j9 j9 ?_ ?_
  ·exact HS1.o
  intro w1 hs1 hk1;refine je ?_;intro K hK;refine hK.out _ _ j1S ?_;clear hK K;refine jc ?_;have r6:=heap_alloc_new w1 (.cells #[.int .i64 0,.int .i64 0,.int .i64 0,.int .i64 0,.slice none 0 0,.int .i64 0,.int .i64 0,.int .i64 0,.bool false] 59);have z0:=Aa r6 0;have y0:=Ab r6 0;have h9:=heap_alloc_new w1 (.cells #[.int .i64 cy,.int .i64 xf,.int .i64 xt,.int .i64 xd,.slice ax q cx,.int .i64 tt,.int .i64 xc,.int .i64 xm,.bool xg] 59);have k19:=Keeps.alloc (S:=λ_=>False) w1 (.cells #[.int .i64 cy,.int .i64 xf,.int .i64 xt,.int .i64 xd,.slice ax q cx,.int .i64 tt,.int .i64 xc,.int .i64 xm,.bool xg] 59);have kA:=Ka.o.nt hk1;have kW:=kA.nt k19;have hrW:=HrA.o.keep0 (hk1.nt k19);have hb3:=Ad (heap_alloc_new W (.cells #[.int .i64 fr,.int .i64 te] 56)) (hk1.nt k19) (by simp);have hS2:=(show frS2 B W.heap.size w1.heap.size (.slice adl N cl) tt fr xd _ from⟨Aa hrW.blk 7,Aa hb3 0,Aa h9 5,Aa h9 3⟩).keep (Keeps.drew _);have hs9:=hs1.keep k19;clear r6 h9 k19 kA;have KW:=Lib.hid kW;clear kW hrW hb3;obtain⟨HS2,Hs9⟩:=hid2 hS2 hs9;clear hs9 hS2;refine ja ?_;intro K hK;refine hK.out _ _ (by exact Hs9.o) ?_;clear hK K;refine jq ?_;clear z0 y0 hs1;go_wp2_with fail;refine Ak (frS2 B W.heap.size w1.heap.size (.slice adl N cl) tt fr xd) (.take 0 (.take 1 (.take 2 (.take 3 (.take 4 (.take 5 (.take 6 (.take 7 (.take 8 (.take 9 (.move 10 (.take 11 (.take 12 (.take 13 (.take 14 .done))))))))))))))) j9 j9 ?_ ?_
  ·exact HS2.o
  intro w2 hs2 hk2;refine je ?_;intro K hK
  go_at_call 151
  ((with_reducible refine(Hgr.o _ (KW.o.nt hk2)).mono ?_);rintro e w3 ⟨rfl,hk3⟩;dsimp only)
  refine hK.out _ _ (by exact hs2.keep hk3) ?_;clear hK K;refine jk ?_;have hfin:=(KW.o.nt hk2).nt hk3;clear hs2;have Hfin:=Lib.hid hfin;clear hfin hk2 hk3;go_wp2;exact bodyPost_ret (v:= .tuple #[.bool z,.int .i64 0]) (by simp [results,Tryz.results130,go_sem]) rfl ⟨rfl,Hfin.o⟩
section
variable {w0:World} {X:Fx} {B:Nat} {t:Tm} {n:Nat} {vt:Value} {L:List Ev} {f0 f1 f2:Value} {s:St} {vl vb vr:Value} {g0 g1:Nat} {S0 S1:List SI} {vo:Value} {P:List SV} {W W':World}
theorem RunV.Ri(h:RunV w0 X B t n vt L f0 f1 f2 s vl vb vr g0 g1 S0 S1 vo P W){w4 w5:World}{x:SV}{vo':Value}(hk4:K0 W w4)(hk5:Keeps (λi=>vo.ownBlock=some i) w4 w5)
  (hr:w5.ownsRow 0 59 9 vo' (P.length+1) ((P++ [x]).flatMap SV.cells)) (hx:w4.ownsRow 0 212 3 x.v x.s.lines.length (x.s.lines.flatMap Ln.cells)) (hxo:Own w0 X x.v) (hf:vo'.ownBlock=vo.ownBlock\/∃g,vo'.ownBlock=some g/\w4.heap.size<=g):
  RunV w0 X B t n vt L f0 f1 f2 { s with out:=s.out++ [x.s] } vl vb vr g0 g1 S0 S1 vo' (P++ [x]) (w5.setCell ⟨B,16,none⟩ vo'):=by
 have h4:=h.keep0 hk4;have hs4:=hk4.size;have hs5:=hk5.size;have nb:∀{e:TypeId} {b:Nat} {c:Array Value},w4.heap[b]?=some (.cells c e (0,0))->e≠59->¬vo.ownBlock=some b:=λhb hne=>Ah h4.out hb hne;have nr:∀{e:TypeId} {sz m:Nat} {u:Value} {xs:List Value},w4.ownsRow 0 e sz u m xs->e≠59->∀b,u.ownBlock=some b->¬vo.ownBlock=some b:=λhr' hne b hb e=>Fj hr' h4.out hne hb e;have h5b:=Ad h4.blk hk5 (nb h4.blk j7);have kB:Keeps (λi=>i=B) w5 (w5.setCell ⟨B,16,none⟩ vo'):=Keeps.setCell _ _ _ rfl;have hne:∀{e:TypeId} {sz m:Nat} {v:Value} {xs:List Value},w5.ownsRow 0 e sz v m xs->203≠e->∀i,v.ownBlock=some i->¬i=B:=λhr hne i hi e=>by subst e;exact Ah hr h5b hne hi
 have r5:∀{e:TypeId} {sz m:Nat} {u:Value} {xs:List Value},w4.ownsRow 0 e sz u m xs->e≠59->203≠e->(w5.setCell ⟨B,16,none⟩ vo').ownsRow 0 e sz u m xs:=λhr' h1 h2=>kB.row (hk5.row hr' (nr hr' h1)) (hne (hk5.row hr' (nr hr' h1)) h2)
 have nog:∀{g:Nat} {c:Array Value},w5.heap[g]?=some (.cells c 49 (0,0))->¬g=B:=λhg e=>by
  subst e;rw [hg] at h5b;injection h5b with h1;injection h1 with _ h1 _;exact absurd h1 j7
 have o0:=Ad h4.o0 hk5 (nb h4.o0 j7);have o1:=Ad h4.o1 hk5 (nb h4.o1 j7)
 have hown:Own w0 X vo':=λb hb=>by
  rcases hf with hf|⟨g,hg,hh⟩
  ·exact h.wo b (hf▸hb)
  ·rw [hg] at hb;simp only [Option.some.injEq] at hb;exact h.new j6
 exact { h4 with
  blk:=(heap_setCell_same _ _ 16 _ _ _ h5b).trans rfl
  trs:=(h4.trs.keeps hk5 (λb hb e=>by have:=(h.wt b hb).1;have:=(h.wo b e).1;omega)).keeps kB (λi hi e=>by have e':i=B:=e;have:=(h.wt i hi).1;have:=h.wB.1;omega)
  evs:=r5 h4.evs j7 j7
  bal:=r5 h4.bal j7 j7
  rts:=r5 h4.rts j7 j7
  o0:=Ad o0 kB (nog o0)
  o1:=Ad o1 kB (nog o1)
  i0:=λy hy=>r5 (h4.i0 y hy) j7 j7
  i1:=λy hy=>r5 (h4.i1 y hy) j7 j7
  out:=by rw [List.length_append];exact kB.row hr (hne hr j7)
  ln:=λy hy=>by
   rcases List.mem_append.1 hy with hy|hy
   ·exact r5 (h4.ln y hy) j7 j7
   ·obtain rfl:y=x:=by simpa using hy
    exact r5 hx j7 j7
  lp:=by rw [List.map_append,h.lp];rfl
  wo:=hown
  wln:=λy hy=>by
   rcases List.mem_append.1 hy with hy|hy
   ·exact h.wln y hy
   ·obtain rfl:y=x:=by simpa using hy
    exact hxo
  xl:=λb hb=>Nat.lt_of_lt_of_le (Nat.lt_of_lt_of_le (h4.xl b hb) hs5) kB.size
  fz:=λb hb=>((kB.block b (Nat.lt_of_lt_of_le (h4.xl b (h4.yx b hb)) hs5) (λe=>by have e':b=B:=e;exact h.wB.2 (e'▸h.yx b hb))).trans (hk5.block b (h4.xl b (h4.yx b hb)) (λe=>(h.wo b e).2 (h.yx b hb)))).trans (h4.fz b hb)
  kp:=(h4.kp.trans (hk5.mono λi _ e=> .inr (h.wo i e).1)).trans (kB.mono λi _ e=> .inr (by have e':i=B:=e;rw [e'];exact h.wB.1)) }
end
def stm0:Stm:=⟨0,0,0,0,0,0,0,false, []⟩
def Fe(o:Option (Stm×Ps)):Stm×Ps×Int:=match o with
 |none=>(stm0,ps0,5)
 |some (x,q)=>(x,q,0)
theorem Fy.uni{o:Option (Stm×Ps)}{w w':World}{e:Ending}(h:Fy o w e w'){x:Stm}{q:Ps}{z:Int}(ho:Fe o=(x,q,z)):
  ∃al cl ab cb,e= .returned (.tuple #[.agg #[.int .i64 x.cycle,.int .i64 x.fr,.int .i64 x.te,.int .i64 x.due,.slice al x.lines.length cl,.int .i64 x.total,.int .i64 x.credit,.int .i64 x.min,.bool x.grace],.agg #[.slice ab q.bal.length cb,.int .i64 q.cr,.int .i64 q.du],.int .i64 z])/\
   w'.ownsRow 0 212 3 (.slice al x.lines.length cl) x.lines.length (x.lines.flatMap Ln.cells)/\w'.ownsRow 0 2 1 (.slice ab q.bal.length cb) q.bal.length (q.bal.flatMap i64c)/\K0 w w'/\(∀g,(Value.slice al x.lines.length cl).ownBlock=some g->w.heap.size<=g)/\(∀g,(Value.slice ab q.bal.length cb).ownBlock=some g->w.heap.size<=g):=by
 rcases o with _|⟨x',q'⟩
 ·simp only [Fe,Prod.mk.injEq] at ho;obtain⟨rfl,rfl,rfl⟩:=ho;obtain⟨rfl,hk⟩:=h;exact⟨none,0,none,0,rfl,World.ownsRow_nil _ _ _ _,World.ownsRow_nil _ _ _ _,hk,by simp [Value.ownBlock],by simp [Value.ownBlock]⟩
 ·simp only [Fe,Prod.mk.injEq] at ho;obtain⟨rfl,rfl,rfl⟩:=ho;obtain⟨vl,vb,rfl,h1,h2,h3,h4,h5⟩:=h;obtain⟨al,cl,rfl,_⟩:=Ae h1;obtain⟨ab,cb,rfl,_⟩:=Ae h2;exact⟨al,cl,ab,cb,rfl,h1,h2,h3,h4,h5⟩
theorem Aah{S:List SI}{g n:Nat}{W:World}(h:W.heap[g]?=some (.cells (S.map SI.v).toArray 49 (0,0)))(hn:S.length=n):Reads W 1 (.slice (some ⟨g,0,none⟩) n n) n (S.flatMap SI.cells):=by
 have h1:=Reads.blk (size:=1) (n:=n) h (by simp [hn])
 have h2:∀S:List SI,S.flatMap SI.cells=S.map SI.v:=λS=>by
  induction S with
  |nil=>rfl
  |cons a l ih=>simp [SI.cells,ih]
 rw [h2]
 simpa using h1
theorem Ug{g:Bool}:∀{T:List Tn} {B R:List (List Int)} {V:List Int} {n:Nat},T.length=n->B.length=n->R.length=n->(∀b∈B,∀y∈b,0<=y/\y<=1000000000000000)->(∀r∈R,∀y∈r,0<=y/\y<=10000000)->intrO g T B R=some V->V.length=n/\∀x∈V,0<=x/\x<=1000000000000000:=by
 intro T
 induction T with
 |nil=>intro B R V n h1 h2 h3 _ _ h;simp only [intrO,Option.some.injEq] at h;subst h;simp only [List.length_nil] at h1;subst h1;simp
 |cons x T ih=>
  intro B R V n h1 h2 h3 hB hR h;rcases B with _|⟨b,B⟩
  ·simp only [List.length_cons,List.length_nil] at h1 h2;omega
  rcases R with _|⟨r,R⟩
  ·simp only [List.length_cons,List.length_nil] at h1 h3;omega
  simp only [List.length_cons] at h1 h2 h3;have hB':∀b∈B,∀y∈b,0<=y/\y<=1000000000000000:=λb' hb=>hB b' (List.mem_cons_of_mem _ hb);have hR':∀r∈R,∀y∈r,0<=y/\y<=10000000:=λr' hr=>hR r' (List.mem_cons_of_mem _ hr)
  have hv:0<=(ofR b r).1/\(ofR b r).1<=1000000000000000:=by
   have hd:=Zf b r (hB b (List.mem_cons_self ..)) (hR r (List.mem_cons_self ..));unfold ofR
   split
   ·constructor<;>decide
   ·rename_i hz;refine⟨?_,by simpa using hz⟩;have h1:0<=dotI b r / 1000000000:=Int.ediv_nonneg hd.1 j7;show 0<=evenI _ _;unfold evenI
    split<;>omega
  simp only [intrO] at h
  have key:∀(a:Int),0<=a/\a<=1000000000000000->(intrO g T B R).map (λl=>a::l)=some V->V.length=n/\∀x∈V,0<=x/\x<=1000000000000000:=λa ha he=>by
   rcases ho:intrO g T B R with _|V'
   ·rw [ho] at he;cases he
   ·rw [ho,Option.map_some,Option.some.injEq] at he;subst he;obtain⟨i1,i2⟩:=ih (n:=n-1) j6 j6 j6 hB' hR' ho;refine⟨by rw [List.length_cons,i1];omega,λy hy=> ?_⟩;rcases List.mem_cons.1 hy with rfl|hy
    ·exact ha
    ·exact i2 y hy
  split at h
  ·exact key 0 (by constructor<;>decide) h
  ·split at h
   ·exact key _ hv h
   ·cases h
theorem Gm{t:Tm}{cy fr te:Int}{p:Ps}{R V:List Int}{g:Bool}{x:Stm}{q:Ps}(hz:t.err=0)(hp:p.Bh=true)(hl:V.length=p.bal.length)(hV:V.all Bv=true)(h:Mi t cy fr te p R V g=some (x,q)):q.bal.length=p.bal.length/\q.Bh=true:=by
 unfold Mi at h;have hb:=Rf hp hl hV
 split at h
 ·rename_i h0;rcases hb with⟨_,h1,h2⟩|⟨h1,_⟩
  ·simp only [Option.some.injEq,Prod.mk.injEq] at h;obtain⟨_,rfl⟩:=h;refine⟨h2, ?_⟩;obtain⟨_,_,_,_,⟨f0,_⟩,_⟩:=Fz hz;have h3:=h1;simp only [Ps.Bh,Bool.and_eq_true,scanB] at h3⊢;obtain⟨⟨a1,a2⟩,a3,a4,a5,a6,a7⟩:=h3;have hs:=(Bi _).1 a2;have hle:=Xj (mf:=t.minFixed) (mp:=t.minPart) hs.1 f0;exact⟨⟨a1,a2⟩,a3,a4,a5,(Bi _).2 j6,a7⟩
  ·rw [h0] at h1;cases h1
 ·cases h
def Fs(t:Tm)(L:List Ev)(n:Nat)(s:St)(fr te:Int):Option St:=
 match intrO (freeB s.out fr L) t.trs s.e0 s.e1 with
 |none=>none
 |some V=>match Mi t ((s.out.length:Int)+1) fr te s.p s.R V (freeB s.out fr L) with
  |none=>none
  |some (x,q)=>some { s with p:=q,e0:=List.replicate n [],e1:=List.replicate n [],out:=s.out++ [x] }
def c4S(B:Nat)(li:Int)(vt:Value)(cy du mf mp st:Int)(v0 v1:Value)(W:World):Prop:=W.cell? ⟨B,0,none⟩=some (.int .i64 li)/\W.cell? ⟨B,1,none⟩=some vt/\W.cell? ⟨B,2,none⟩=some (.int .i64 cy)/\W.cell? ⟨B,3,none⟩=some (.int .i64 du)/\W.cell? ⟨B,4,none⟩=some (.int .i64 mf)/\W.cell? ⟨B,5,none⟩=some (.int .i64 mp)/\W.cell? ⟨B,6,none⟩=some (.int .i64 st)/\W.cell? ⟨B,14,none⟩=some v0/\W.cell? ⟨B,15,none⟩=some v1
theorem c4S.keep{B:Nat}{li:Int}{vt:Value}{cy du mf mp st:Int}{v0 v1:Value}{W W':World}(h:c4S B li vt cy du mf mp st v0 v1 W)(hk:K0 W W'):c4S B li vt cy du mf mp st v0 v1 W':=by
 obtain⟨h1,h2,h3,h4,h5,h6,h7,h8,h9⟩:=h;refine j0z ?_;intro k;exact⟨k h1,k h2,k h3,k h4,k h5,k h6,k h7,k h8,k h9⟩
def c7S(B b3:Nat)(li:Int)(vt:Value)(cy du mf mp st:Int)(vo vb:Value)(pc pd:Int)(vr:Value)(fr te:Int)(W:World):Prop:=W.cell? ⟨B,0,none⟩=some (.int .i64 li)/\W.cell? ⟨B,1,none⟩=some vt/\W.cell? ⟨B,2,none⟩=some (.int .i64 cy)/\W.cell? ⟨B,3,none⟩=some (.int .i64 du)/\W.cell? ⟨B,4,none⟩=some (.int .i64 mf)/\W.cell? ⟨B,5,none⟩=some (.int .i64 mp)/\W.cell? ⟨B,6,none⟩=some (.int .i64 st)/\
 W.cell? ⟨B,16,none⟩=some vo/\W.cell? ⟨B,10,none⟩=some vb/\W.cell? ⟨B,11,none⟩=some (.int .i64 pc)/\W.cell? ⟨B,12,none⟩=some (.int .i64 pd)/\W.cell? ⟨B,13,none⟩=some vr/\W.cell? ⟨b3,0,none⟩=some (.int .i64 fr)/\W.cell? ⟨b3,1,none⟩=some (.int .i64 te)
theorem c7S.keep{B b3:Nat}{li:Int}{vt:Value}{cy du mf mp st:Int}{vo vb:Value}{pc pd:Int}{vr:Value}{fr te:Int}{W W':World}(h:c7S B b3 li vt cy du mf mp st vo vb pc pd vr fr te W)(hk:K0 W W'):c7S B b3 li vt cy du mf mp st vo vb pc pd vr fr te W':=by
 obtain⟨h1,h2,h3,h4,h5,h6,h7,h8,h9,h10,h11,h12,h13,h14⟩:=h;refine j0z ?_;intro k;exact⟨k h1,k h2,k h3,k h4,k h5,k h6,k h7,k h8,k h9,k h10,k h11,k h12,k h13,k h14⟩
def r13S(B b8:Nat)(vo:Value)(cy fr te du:Int)(vl:Value)(tt cr mi:Int)(g:Bool)(W:World):Prop:=W.cell? ⟨B,16,none⟩=some vo/\W.cell? ⟨b8,0,none⟩=some (.int .i64 cy)/\W.cell? ⟨b8,1,none⟩=some (.int .i64 fr)/\W.cell? ⟨b8,2,none⟩=some (.int .i64 te)/\W.cell? ⟨b8,3,none⟩=some (.int .i64 du)/\W.cell? ⟨b8,4,none⟩=some vl/\W.cell? ⟨b8,5,none⟩=some (.int .i64 tt)/\W.cell? ⟨b8,6,none⟩=some (.int .i64 cr)/\W.cell? ⟨b8,7,none⟩=some (.int .i64 mi)/\W.cell? ⟨b8,8,none⟩=some (.bool g)
theorem r13S.keep{B b8:Nat}{vo:Value}{cy fr te du:Int}{vl:Value}{tt cr mi:Int}{g:Bool}{W W':World}{S:Nat->Prop}(h:r13S B b8 vo cy fr te du vl tt cr mi g W)(hk:Keeps S W W')(h1:¬S B)(h2:¬S b8):r13S B b8 vo cy fr te du vl tt cr mi g W':=by
 obtain⟨c0,c1,c2,c3,c4,c5,c6,c7,c8,c9⟩:=h;have k:∀{p:Addr} {u:Value},¬S p.block->W.cell? p=some u->W'.cell? p=some u:=λhn hc=>(hk.cell (Ai hc) hn).trans hc;exact⟨k h1 c0,k h2 c1,k h2 c2,k h2 c3,k h2 c4,k h2 c5,k h2 c6,k h2 c7,k h2 c8,k h2 c9⟩
theorem r13S.of{B b8:Nat}{vo:Value}{cy fr te du:Int}{vl:Value}{tt cr mi:Int}{g:Bool}{W:World}{C:Array Value}{e:TypeId}(h:W.heap[B]?=some (.cells C e (0,0)))(hv:C[16]?=some vo)(h8:W.heap[b8]?=some (.cells #[.int .i64 cy,.int .i64 fr,.int .i64 te,.int .i64 du,vl,.int .i64 tt,.int .i64 cr,.int .i64 mi,.bool g] 59 (0,0))):r13S B b8 vo cy fr te du vl tt cr mi g W:=
 ⟨(Aa h 16).trans hv,Aa h8 0,Aa h8 1,Aa h8 2,Aa h8 3,Aa h8 4,Aa h8 5,Aa h8 6,Aa h8 7,Aa h8 8⟩
theorem Yj{w0:World}{X:Fx}{B:Nat}{t:Tm}{n:Nat}{vt:Value}{L:List Ev}{f0 f1:Value}{s:St}{vl vb vr:Value}{g0 g1:Nat}{S0 S1:List SI}{vo:Value}{P:List SV}{W:World}(h:RunV w0 X B t n vt L f0 f1 .nilFunc s vl vb vr g0 g1 S0 S1 vo P W)
  (hz:t.err=0) (hn:t.trs.length=n) (hl:L.length<=1000000) (hok:∀x∈L,x.kind=2->0<=x.amount/\x.amount<=1000000000000000) (hpr:s.p.Bh=true) (hrt:∀x∈s.R,0<=x/\x<=10000000)
  (he0:∀r∈s.e0,∀y∈r,0<=y/\y<=1000000000000000) (he1:∀r∈s.e1,∀y∈r,0<=y/\y<=10000000) (hlen:∀(k:Nat) (a b:List Int),s.e0[k]?=some a->s.e1[k]?=some b->a.length=b.length/\a.length<=40000)
  (hcy:s.out.length+1<=300) (fr te:Int) (hsp: -135140<=fr/\fr<=te/\te<=2932896) (C:Option St) (hC:Fs t L n s fr te=C):
  Calls Tryz.prog 107 #[(.pointer (some ⟨B,0,none⟩)),.agg #[.int .i64 fr,.int .i64 te]] W λe W'=>match C with
   |none=>e= .returned (.int .i64 5)/\RunV w0 X B t n vt L f0 f1 .nilFunc s vl vb vr g0 g1 S0 S1 vo P W'
   |some s'=>e= .returned (.int .i64 0)/\∃vb' g0' g1' vo' P',RunV w0 X B t n vt L f0 f1 .nilFunc s' vl vb' vr g0' g1' (List.replicate n si0) (List.replicate n si0) vo' P' W':=by
 obtain⟨i0,hi,hi0,hi1,hi2⟩:=info_parts Nb;have hnum:=Fz hz;rw [hn] at hnum;obtain⟨⟨l0,l1⟩,_⟩:=hnum;obtain⟨adT,cT,rfl⟩:∃a c,vt= .slice a n c:=by obtain⟨a,c,h,_⟩:=h.trs;exact⟨a,c,h⟩
 obtain⟨ab,cb,rfl⟩:∃a c,vb= .slice a n c:=by obtain⟨a,c,h,_⟩:=Ae h.bal;exact⟨a,c,h⟩
 obtain⟨ar,cr,rfl⟩:∃a c,vr= .slice a n c:=by obtain⟨a,c,h,_⟩:=Ae h.rts;exact⟨a,c,h⟩
 obtain⟨m,hmm⟩:=eX P.length;obtain⟨av,cv,rfl⟩:∃a c,vo= .slice a m c:=by obtain⟨a,c,h,_⟩:=Ae h.out;rw [hmm] at h;exact⟨a,c,h⟩
 have hpo:s.out.length=m:=by rw [<-h.lp,List.length_map];exact hmm
 have hm1:m+1<=300:=by rw [<-hpo];exact hcy
 obtain⟨fb,hfb⟩:=eX (freeB s.out fr L);have hfree:=fun(W':World) (hW:K0 W W')=>Aai (h.keep0 hW) hl j6 hok fr te;rw [hfb] at hfree;obtain⟨O,hO⟩:=eX (intrO fb t.trs s.e0 s.e1)
 have hint:=fun(W':World) (hW:K0 W W')=>Ta t (.slice adT n cT) S0 S1 (some ⟨g0,0,none⟩) (some ⟨g1,0,none⟩) n n n fb W' hz hn (h.keep0 hW).trs (Aah (h.keep0 hW).o0 h.n0) h.n0
  (λx hx=>⟨Reads.Bg ((h.keep0 hW).i0 x hx),by
   obtain⟨k,hk⟩:=List.getElem?_of_mem hx;obtain⟨y,hy⟩:=Ar (L:=S1) (k:=k) (by rw [h.n1,<-h.n0];exact Dr hk);have:=hlen k x.L y.L (by rw [<-h.l0,List.getElem?_map,hk];rfl) (by rw [<-h.l1,List.getElem?_map,hy];rfl)
   unfold maxLen;omega⟩)
  (Aah (h.keep0 hW).o1 h.n1) h.n1
  (λy hy=>⟨Reads.Bg ((h.keep0 hW).i1 y hy),by
   obtain⟨k,hk⟩:=List.getElem?_of_mem hy;obtain⟨x,hx⟩:=Ar (L:=S0) (k:=k) (by rw [h.n0,<-h.n1];exact Dr hk);have:=hlen k x.L y.L (by rw [<-h.l0,List.getElem?_map,hx];rfl) (by rw [<-h.l1,List.getElem?_map,hk];rfl)
   unfold maxLen;omega⟩)
  (λk x y hx hy=>hlen k x.L y.L (by rw [<-h.l0,List.getElem?_map,hx];rfl) (by rw [<-h.l1,List.getElem?_map,hy];rfl))
  (λx hx=>he0 x.L (by rw [<-h.l0];exact List.mem_map_of_mem hx)) (λx hx=>he1 x.L (by rw [<-h.l1];exact List.mem_map_of_mem hx))
 rw [h.l0,h.l1,hO] at hint;unfold Fs at hC;rw [hfb,hO] at hC;have ka:K0 W (W.alloc (.cells #[.int .i64 fr,.int .i64 te] 56)):=Keeps.alloc _ _;have hA:=h.keep0 ka;have hb3:=heap_alloc_new W (.cells #[.int .i64 fr,.int .i64 te] 56);rcases O with _|V
 ·simp only at hC;subst hC;obtain⟨Hi,Hi0,Hi1,Hi2,H,Hz,Hn⟩:=hid7 hi hi0 hi1 hi2 h hz hn;clear hn hz h hi2 hi1 hi0 hi hok;obtain⟨Hpr,Hrt⟩:=hid2 hpr hrt;clear hrt hpr he0 he1 hlen;have Hmm:=Lib.hid hmm;clear hmm hpo hfb;have Hfree:=Lib.hid hfree;clear hfree hO;obtain⟨Hint,Ka,HA,Hb3⟩:=hid4 hint ka hA hb3;clear hb3 hA ka hint;go_enter Tryz.func107,Tryz.ntmps107;go_wp2_with fail;refine(Hfree.o _ Ka.o).mono ?_;rintro e w2 ⟨rfl,hk2⟩;have hk2w:=Ka.o.nt hk2;have hr2:=H.o.keep0 hk2w;refine j3M ?_;intro hS4;clear hk2;obtain⟨Hk2w,Hr2,HS4⟩:=hid3 hk2w hr2 hS4;clear hS4 hr2 hk2w;go_wp2_with fail;refine Ak (c4S B t.limit (.slice adT n cT) t.cyc t.due t.minFixed t.minPart t.start (.slice (some ⟨g0,0,none⟩) n n) (.slice (some ⟨g1,0,none⟩) n n)) (.take 0 (.take 1 (.take 2 (.take 3 (.take 4 (.take 5 (.take 6 (.take 7 (.take 8 (.take 9 (.take 10 (.take 11 (.take 12 (.take 13 (.take 14 (.move 15 (.take 16 (.take 17 (.take 18 (.take 19 (.take 20 .done))))))))))))))))))))) j9 j9 ?_ ?_
  ·exact HS4.o
  intro w3 hs3 hk3;refine je ?_;intro K hK
  go_at_call 131
  ((with_reducible refine(Hint.o _ (Hk2w.o.nt hk3)).mono ?_);rintro e w4 ⟨rfl,hk4⟩;dsimp only)
  refine j0a ?_;clear hK K;refine jk ?_;have hr4:=(Hr2.o.keep0 hk3).keep0 hk4;clear hs3;have Hr4:=Lib.hid hr4;clear hr4 hk3 hk4;go_wp2;go_ret;exact⟨rfl,Hr4.o⟩
 ·simp only at hC;obtain⟨hVl,hVb⟩:=Ug hn (by rw [<-h.l0,List.length_map];exact h.n0) (by rw [<-h.l1,List.length_map];exact h.n1) he0 he1 hO;rw [hpo] at hC;obtain⟨D,hD⟩:=eX (Mi t ((m:Int)+1) fr te s.p s.R V fb);rw [hD] at hC;obtain⟨⟨x,q,z⟩,hcv⟩:=eX (Fe D);obtain⟨Hi,Hi0,Hi1,Hi2,H,Hz,Hn⟩:=hid7 hi hi0 hi1 hi2 h hz hn;clear hn hz h hi2 hi1 hi0 hi hok;obtain⟨Hpr,Hrt⟩:=hid2 hpr hrt;clear hrt hpr he0 he1 hlen;have Hmm:=Lib.hid hmm;clear hmm hpo hfb;have Hfree:=Lib.hid hfree;clear hfree hO;obtain⟨Hint,Ka,HA,Hb3,HVl,HVb,HD,Hcv,HC⟩:=hid9 hint ka hA hb3 hVl hVb hD hcv hC;clear hC hcv hD hVb hVl hb3 hA ka hint;go_enter Tryz.func107,Tryz.ntmps107;go_wp2_with fail;refine(Hfree.o _ Ka.o).mono ?_;rintro e w2 ⟨rfl,hk2⟩;have hk2w:=Ka.o.nt hk2;have hr2:=H.o.keep0 hk2w;have hb32:=Ad Hb3.o hk2 (by simp);refine j3M ?_;intro hS4;clear hk2;obtain⟨Hk2w,Hr2,HS4,Hb32⟩:=hid4 hk2w hr2 hS4 hb32;clear hb32 hS4 hr2 hk2w;go_wp2_with fail;refine Ak (c4S B t.limit (.slice adT n cT) t.cyc t.due t.minFixed t.minPart t.start (.slice (some ⟨g0,0,none⟩) n n) (.slice (some ⟨g1,0,none⟩) n n)) (.take 0 (.take 1 (.take 2 (.take 3 (.take 4 (.take 5 (.take 6 (.take 7 (.take 8 (.take 9 (.take 10 (.take 11 (.take 12 (.take 13 (.take 14 (.move 15 (.take 16 (.take 17 (.take 18 (.take 19 (.take 20 .done))))))))))))))))))))) j9 j9 ?_ ?_
  ·exact HS4.o
  intro w3 hs3 hk3;refine je ?_;intro K hK
  go_at_call 131
  ((with_reducible refine(Hint.o _ (Hk2w.o.nt hk3)).mono ?_);rintro e w4 ⟨gV,rfl,hrV,hk4,hgV⟩;dsimp only)
  refine j0a ?_;clear hK K;refine jk ?_;have hk4w:=(Hk2w.o.nt hk3).nt hk4;have hr4:=H.o.keep0 hk4w;have hb34:=Ad (Ad Hb32.o hk3 (by simp)) hk4 (by simp);have hS7:=(show c7S B W.heap.size t.limit (.slice adT n cT) t.cyc t.due t.minFixed t.minPart t.start (.slice av m cv) (.slice ab n cb) s.p.cr s.p.du (.slice ar n cr) fr te w4 from⟨Aa hr4.blk 0,Aa hr4.blk 1,Aa hr4.blk 2,Aa hr4.blk 3,Aa hr4.blk 4,Aa hr4.blk 5,Aa hr4.blk 6,Aa hr4.blk 16,Aa hr4.blk 10,Aa hr4.blk 11,Aa hr4.blk 12,Aa hr4.blk 13,Aa hb34 0,Aa hb34 1⟩).keep (Keeps.drew _);have hclo:=fun(W':World) (hW:K0 w4 W')=>Zq t (.slice adT n cT) ((m:Int)+1) fr te s.p.bal V s.R s.p.cr s.p.du ab (some ⟨gV,0,none⟩) ar cb n cr n fb W' Hz.o Hn.o (hr4.keep0 hW).trs j6 hsp (Reads.Bg (hr4.keep0 hW).bal) H.o.nb (hrV.keep hW).reads HVl.o (Reads.Bg (hr4.keep0 hW).rts) H.o.nr Hpr.o (List.all_eq_true.2 λy hy=>(Bi y).2 (HVb.o y hy)) Hrt.o;rw [HD.o] at hclo;have hq1:IntKind.i64.wrap ((m:Int)+1)=(m:Int)+1:=IntWalk.i64_in _ ⟨by omega,by omega⟩;clear hs3;clear hk3 hk4;obtain⟨Hk4w,Hr4⟩:=hid2 hk4w hr4;clear hr4 hk4w hb34;obtain⟨HS7,Hclo⟩:=hid2 hS7 hclo;clear hclo hS7 hrV hgV;go_wp2_with fail;refine Ak (c7S B W.heap.size t.limit (.slice adT n cT) t.cyc t.due t.minFixed t.minPart t.start (.slice av m cv) (.slice ab n cb) s.p.cr s.p.du (.slice ar n cr) fr te) (.take 0 (.take 1 (.take 2 (.take 3 (.take 4 (.take 5 (.take 6 (.take 7 (.take 8 (.take 9 (.take 10 (.take 11 (.take 12 (.take 13 (.take 14 (.take 15 (.take 16 (.take 17 (.take 18 (.take 19 (.take 20 (.fork3 21 (.take 22 (.take 23 (.take 24 (.take 25 (.fork 26 (.move 27 (.move 28 (.move 29 (.take 30 .done)))) 27 (.move 26 (.move 28 (.move 29 (.take 30 .done))))))))) 26 (.fork 21 (.take 22 (.take 23 (.take 24 (.take 25 (.move 27 (.move 28 (.move 29 (.take 30 .done)))))))) 27 (.move 21 (.take 22 (.take 23 (.take 24 (.take 25 (.move 28 (.move 29 (.take 30 .done))))))))) 27 (.fork 21 (.take 22 (.take 23 (.take 24 (.take 25 (.move 26 (.move 28 (.move 29 (.take 30 .done)))))))) 26 (.move 21 (.take 22 (.take 23 (.take 24 (.take 25 (.move 28 (.move 29 (.take 30 .done))))))))))))))))))))))))))))))) j9 j9 ?_ ?_
  ·exact HS7.o
  intro w7 hs7 hk7;have Hk7:=Lib.hid hk7;clear hk7;refine jR ?_;refine mix_fork3 ?_ ?_ ?_ hs7
  ·skip
   refine ja ?_;intro K hK
   go_at_call 132
   ((with_reducible refine(Hclo.o _ (Hk7.o.nt j01)).mono ?_);rintro e w5 hpost)
   obtain⟨al,cl2,ab2,cb2,rfl,hln,hbn2,hk5,hol,hob⟩:=Fy.uni hpost Hcv.o;clear hpost;dsimp only;refine hK.out _ _ (by exact hs7.keep j1T) ?_;clear hK K;refine jh ?_;refine Dx ?_ ?_ (hs7.keep j1T)
   ·skip
    refine j3N ?_;refine ja ?_;intro K hK;refine hK.out _ _ (by exact hs7.keep (Keeps.nt j3O (Keeps.alloc _ _))) ?_;clear hK K;refine jc ?_;obtain⟨wE,hwE⟩:=eY (((w5).alloc (.cells #[.int .i64 0,.int .i64 0,.int .i64 0,.int .i64 0,.slice none 0 0,.int .i64 0,.int .i64 0,.int .i64 0,.bool false] 59)).alloc (.cells #[.slice none 0 0,.int .i64 0,.int .i64 0] 51));have k7E:K0 w7 wE:=by rw [hwE];exact(Keeps.nt j3O j3P)
    have hb8:wE.heap[w5.heap.size]?=some (.cells #[.int .i64 0,.int .i64 0,.int .i64 0,.int .i64 0,.slice none 0 0,.int .i64 0,.int .i64 0,.int .i64 0,.bool false] 59 (0,0)):=by rw [hwE];exact Ap (heap_alloc_new (w5) _) _
    have hb9:wE.heap[w5.heap.size+1]?=some (.cells #[.slice none 0 0,.int .i64 0,.int .i64 0] 51 (0,0)):=by rw [hwE];exact Aw _ _ (by simp)
    have k5E:K0 w5 wE:=by rw [hwE];exact(Keeps.nt (Keeps.nt j0Z j1U) j3P)
    refine j0f ?_;intro hlnE hbnE hs5
    try simp at hs5
    have holE:∀b,(Value.slice al x.lines.length cl2).ownBlock=some b->w7.heap.size<=b:=λb hb=>by have h1:=hol b hb;have h2:=((Keeps.refl (λ_=>False) w7)).size;omega
    have hobE:∀b,(Value.slice ab2 q.bal.length cb2).ownBlock=some b->w7.heap.size<=b:=λb hb=>by have h1:=hob b hb;have h2:=((Keeps.refl (λ_=>False) w7)).size;omega
    rw [<-hwE];obtain⟨b8,hb8e⟩:=eY w5.heap.size;obtain⟨b9,hb9e⟩:=eY (w5.heap.size+1);exact j3Q
   ·skip
    refine j3N ?_;refine ja ?_;intro K hK;refine hK.out _ _ (by exact hs7.keep (Keeps.nt j3R (Keeps.alloc _ _))) ?_;clear hK K;refine jc ?_;obtain⟨wE,hwE⟩:=eY (((w5).alloc (.cells #[.slice none 0 0,.int .i64 0,.int .i64 0] 51)).alloc (.cells #[.int .i64 0,.int .i64 0,.int .i64 0,.int .i64 0,.slice none 0 0,.int .i64 0,.int .i64 0,.int .i64 0,.bool false] 59));have k7E:K0 w7 wE:=by rw [hwE];exact(Keeps.nt j3R j3S)
    have hb8:wE.heap[w5.heap.size+1]?=some (.cells #[.int .i64 0,.int .i64 0,.int .i64 0,.int .i64 0,.slice none 0 0,.int .i64 0,.int .i64 0,.int .i64 0,.bool false] 59 (0,0)):=by rw [hwE];exact Aw _ _ (by simp)
    have hb9:wE.heap[w5.heap.size]?=some (.cells #[.slice none 0 0,.int .i64 0,.int .i64 0] 51 (0,0)):=by rw [hwE];exact Ap (heap_alloc_new (w5) _) _
    have k5E:K0 w5 wE:=by rw [hwE];exact(Keeps.nt (Keeps.nt j0Z j1V) j3S)
    refine j0f ?_;intro hlnE hbnE hs5
    try simp at hs5
    have holE:∀b,(Value.slice al x.lines.length cl2).ownBlock=some b->w7.heap.size<=b:=λb hb=>by have h1:=hol b hb;have h2:=((Keeps.refl (λ_=>False) w7)).size;omega
    have hobE:∀b,(Value.slice ab2 q.bal.length cb2).ownBlock=some b->w7.heap.size<=b:=λb hb=>by have h1:=hob b hb;have h2:=((Keeps.refl (λ_=>False) w7)).size;omega
    rw [<-hwE];obtain⟨b8,hb8e⟩:=eY (w5.heap.size+1);obtain⟨b9,hb9e⟩:=eY w5.heap.size;exact j10
  ·skip
   refine j3T ?_;refine Dx ?_ ?_ (hs7.keep (Keeps.nt j01 (Keeps.alloc _ _)))
   ·skip
    refine ja ?_;intro K hK
    go_at_call 132
    ((with_reducible refine(Hclo.o _ (Hk7.o.nt j11)).mono ?_);rintro e w5 hpost)
    obtain⟨al,cl2,ab2,cb2,rfl,hln,hbn2,hk5,hol,hob⟩:=Fy.uni hpost Hcv.o;clear hpost;dsimp only;refine hK.out _ _ (by exact hs7.keep j1W) ?_;clear hK K;refine jh ?_;refine ja ?_;intro K hK;refine hK.out _ _ (by exact hs7.keep (Keeps.nt j1W (Keeps.alloc _ _))) ?_;clear hK K;refine jc ?_;obtain⟨wE,hwE⟩:=eY ((w5).alloc (.cells #[.slice none 0 0,.int .i64 0,.int .i64 0] 51));have k7E:K0 w7 wE:=by rw [hwE];exact(Keeps.nt j1W j1V)
    have hb8:wE.heap[w7.heap.size]?=some (.cells #[.int .i64 0,.int .i64 0,.int .i64 0,.int .i64 0,.slice none 0 0,.int .i64 0,.int .i64 0,.int .i64 0,.bool false] 59 (0,0)):=by rw [hwE];exact Ap (Ad (heap_alloc_new (w7) _) hk5 (by simp)) _
    have hb9:wE.heap[w5.heap.size]?=some (.cells #[.slice none 0 0,.int .i64 0,.int .i64 0] 51 (0,0)):=by rw [hwE];exact heap_alloc_new (w5) _
    have k5E:K0 w5 wE:=by rw [hwE];exact(Keeps.nt j0Z j1V)
    refine j0f ?_;intro hlnE hbnE hs5
    try simp at hs5
    have holE:∀b,(Value.slice al x.lines.length cl2).ownBlock=some b->w7.heap.size<=b:=λb hb=>by have h1:=hol b hb;have h2:=((Keeps.nt j01 j3U)).size;omega
    have hobE:∀b,(Value.slice ab2 q.bal.length cb2).ownBlock=some b->w7.heap.size<=b:=λb hb=>by have h1:=hob b hb;have h2:=((Keeps.nt j01 j3U)).size;omega
    rw [<-hwE];obtain⟨b8,hb8e⟩:=eY w7.heap.size;obtain⟨b9,hb9e⟩:=eY w5.heap.size;exact j10
   ·skip
    refine ja ?_;intro K hK;refine hK.out _ _ (by exact hs7.keep (Keeps.nt j11 (Keeps.alloc _ _))) ?_;clear hK K;refine jc ?_;refine ja ?_;intro K hK
    go_at_call 132
    ((with_reducible refine(Hclo.o _ (Hk7.o.nt j1X)).mono ?_);rintro e w5 hpost)
    obtain⟨al,cl2,ab2,cb2,rfl,hln,hbn2,hk5,hol,hob⟩:=Fy.uni hpost Hcv.o;clear hpost;dsimp only;refine hK.out _ _ (by exact hs7.keep (Keeps.nt j1X hk5)) ?_;clear hK K;refine jh ?_;obtain⟨wE,hwE⟩:=eY w5;have k7E:K0 w7 wE:=by rw [hwE];exact(Keeps.nt j1X hk5)
    have hb8:wE.heap[w7.heap.size]?=some (.cells #[.int .i64 0,.int .i64 0,.int .i64 0,.int .i64 0,.slice none 0 0,.int .i64 0,.int .i64 0,.int .i64 0,.bool false] 59 (0,0)):=by rw [hwE];exact Ad (Ap (heap_alloc_new (w7) _) _) hk5 (by simp)
    have hb9:wE.heap[w7.heap.size+1]?=some (.cells #[.slice none 0 0,.int .i64 0,.int .i64 0] 51 (0,0)):=by rw [hwE];exact Ad (Aw _ _ (by simp)) hk5 (by simp)
    have k5E:K0 w5 wE:=by rw [hwE];exact(Keeps.refl (λ_=>False) w5)
    refine j0f ?_;intro hlnE hbnE hs5
    try simp at hs5
    have holE:∀b,(Value.slice al x.lines.length cl2).ownBlock=some b->w7.heap.size<=b:=λb hb=>by have h1:=hol b hb;have h2:=((Keeps.nt j11 j3V)).size;omega
    have hobE:∀b,(Value.slice ab2 q.bal.length cb2).ownBlock=some b->w7.heap.size<=b:=λb hb=>by have h1:=hob b hb;have h2:=((Keeps.nt j11 j3V)).size;omega
    rw [<-hwE];obtain⟨b8,hb8e⟩:=eY w7.heap.size;obtain⟨b9,hb9e⟩:=eY (w7.heap.size+1);exact j3Q
  ·skip
   refine j3T ?_;refine Dx ?_ ?_ (hs7.keep (Keeps.nt j01 (Keeps.alloc _ _)))
   ·skip
    refine ja ?_;intro K hK
    go_at_call 132
    ((with_reducible refine(Hclo.o _ (Hk7.o.nt j12)).mono ?_);rintro e w5 hpost)
    obtain⟨al,cl2,ab2,cb2,rfl,hln,hbn2,hk5,hol,hob⟩:=Fy.uni hpost Hcv.o;clear hpost;dsimp only;refine hK.out _ _ (by exact hs7.keep j1Y) ?_;clear hK K;refine jh ?_;refine ja ?_;intro K hK;refine hK.out _ _ (by exact hs7.keep (Keeps.nt j1Y (Keeps.alloc _ _))) ?_;clear hK K;refine jc ?_;obtain⟨wE,hwE⟩:=eY ((w5).alloc (.cells #[.int .i64 0,.int .i64 0,.int .i64 0,.int .i64 0,.slice none 0 0,.int .i64 0,.int .i64 0,.int .i64 0,.bool false] 59));have k7E:K0 w7 wE:=by rw [hwE];exact(Keeps.nt j1Y j1U)
    have hb8:wE.heap[w5.heap.size]?=some (.cells #[.int .i64 0,.int .i64 0,.int .i64 0,.int .i64 0,.slice none 0 0,.int .i64 0,.int .i64 0,.int .i64 0,.bool false] 59 (0,0)):=by rw [hwE];exact heap_alloc_new (w5) _
    have hb9:wE.heap[w7.heap.size]?=some (.cells #[.slice none 0 0,.int .i64 0,.int .i64 0] 51 (0,0)):=by rw [hwE];exact Ap (Ad (heap_alloc_new (w7) _) hk5 (by simp)) _
    have k5E:K0 w5 wE:=by rw [hwE];exact(Keeps.nt j0Z j1U)
    refine j0f ?_;intro hlnE hbnE hs5
    try simp at hs5
    have holE:∀b,(Value.slice al x.lines.length cl2).ownBlock=some b->w7.heap.size<=b:=λb hb=>by have h1:=hol b hb;have h2:=((Keeps.nt j01 j3W)).size;omega
    have hobE:∀b,(Value.slice ab2 q.bal.length cb2).ownBlock=some b->w7.heap.size<=b:=λb hb=>by have h1:=hob b hb;have h2:=((Keeps.nt j01 j3W)).size;omega
    rw [<-hwE];obtain⟨b8,hb8e⟩:=eY w5.heap.size;obtain⟨b9,hb9e⟩:=eY w7.heap.size;exact j10
   ·skip
    refine ja ?_;intro K hK;refine hK.out _ _ (by exact hs7.keep (Keeps.nt j12 (Keeps.alloc _ _))) ?_;clear hK K;refine jc ?_;refine ja ?_;intro K hK
    go_at_call 132
    ((with_reducible refine(Hclo.o _ (Hk7.o.nt j1Z)).mono ?_);rintro e w5 hpost)
    obtain⟨al,cl2,ab2,cb2,rfl,hln,hbn2,hk5,hol,hob⟩:=Fy.uni hpost Hcv.o;clear hpost;dsimp only;refine hK.out _ _ (by exact hs7.keep (Keeps.nt j1Z hk5)) ?_;clear hK K;refine jh ?_;obtain⟨wE,hwE⟩:=eY w5;have k7E:K0 w7 wE:=by rw [hwE];exact(Keeps.nt j1Z hk5)
    have hb8:wE.heap[w7.heap.size+1]?=some (.cells #[.int .i64 0,.int .i64 0,.int .i64 0,.int .i64 0,.slice none 0 0,.int .i64 0,.int .i64 0,.int .i64 0,.bool false] 59 (0,0)):=by rw [hwE];exact Ad (Aw _ _ (by simp)) hk5 (by simp)
    have hb9:wE.heap[w7.heap.size]?=some (.cells #[.slice none 0 0,.int .i64 0,.int .i64 0] 51 (0,0)):=by rw [hwE];exact Ad (Ap (heap_alloc_new (w7) _) _) hk5 (by simp)
    have k5E:K0 w5 wE:=by rw [hwE];exact(Keeps.refl (λ_=>False) w5)
    refine j0f ?_;intro hlnE hbnE hs5
    try simp at hs5
    have holE:∀b,(Value.slice al x.lines.length cl2).ownBlock=some b->w7.heap.size<=b:=λb hb=>by have h1:=hol b hb;have h2:=((Keeps.nt j12 j3X)).size;omega
    have hobE:∀b,(Value.slice ab2 q.bal.length cb2).ownBlock=some b->w7.heap.size<=b:=λb hb=>by have h1:=hob b hb;have h2:=((Keeps.nt j12 j3X)).size;omega
    rw [<-hwE];obtain⟨b8,hb8e⟩:=eY (w7.heap.size+1);obtain⟨b9,hb9e⟩:=eY w7.heap.size;exact j10
structure Rj(fr te:Int):Prop where
 lo: -135140<=fr
 le:fr<=te
 hi:te<=2932896
 sh:te<=fr+31
inductive SpanC (day:Int):Int->List (Int×Int)->Prop
 |last {fr te:Int}:Rj fr te->fr<=day->day<=te->SpanC day fr [(fr,te)]
 |more {fr te:Int} {S:List (Int×Int)}:Rj fr te->te<day->SpanC day (te+1) S->SpanC day fr ((fr,te)::S)
theorem SpanC.head{day fr:Int}{S:List (Int×Int)}(h:SpanC day fr S):∃te S',S=(fr,te)::S'/\Rj fr te/\fr<=day/\(te<day->SpanC day (te+1) S'):=by
 cases h with
 |last h1 h2 h3=>exact⟨_,_,rfl,h1,h2,λh=>by omega⟩
 |more h1 h2 h3=>exact⟨_,_,rfl,h1,by have:=h1.le;omega,λ_=>h3⟩
theorem Ku(cd day:Int):∀(f:Nat) (fr:Int),(findW cd day f fr).2=true->SpanC day fr (findW cd day f fr).1/\(findW cd day f fr).1.length<=f:=by
 intro f
 induction f with
 |zero=>intro fr h;cases h
 |succ f ih=>
  intro fr h;unfold findW at h⊢
  split at h
  ·rename_i hl;rw [if_pos hl];have hl2:=hl;unfold lastE at hl2
   split at hl2
   ·cases hl2
   ·rename_i hc
    split at hl2
    ·cases hl2
    ·rename_i hf
     split at hl2
     ·cases hl2
     ·rename_i ht;have hf': -135140<=fr/\fr<=2932896:=j8;have hge:=Abg (fr:=fr) (cd:=cd) hf'.1 hf'.2 j6 j6;have hok:Rj fr (lastF fr cd):=⟨hf'.1,hge.1,by omega,hge.2⟩
      split at h
      ·rename_i hd;rw [if_pos hd];obtain⟨h1,h2⟩:=ih _ h;exact⟨.more hok hd.1 h1,by simp only [List.length_cons];omega⟩
      ·rename_i hd;rw [if_neg hd];simp only [Bool.and_eq_true,decide_eq_true_eq] at h;exact⟨.last hok h.1 h.2,by simp⟩
  ·cases h
theorem evErr_amt{t:Tm}{e:Ev}(h:evErr t e=0):e.kind=2->0<=e.amount/\e.amount<=1000000000000000:=by
 intro hk;unfold evErr at h
 split at h
 ·cases h
 ·split at h
  ·cases h
  ·split at h
   ·cases h
   ·split at h
    ·cases h
    ·rename_i ha
     constructor<;>omega
structure RepOk(t:Tm)(L:List Ev)(td:Int):Prop where
 tm:t.err=0
 ev:∀x∈L,evErr t x=0
 ln:L.length<=2000
 d0:t.start<=td
 d1:td<=2932896
 fd:(findW t.cyc td 300 t.start).2=true
 lt:∀x∈L,x.day<=td
theorem Ei{t:Tm}{L:List Ev}{td:Int}(h:Dj t L td=0):RepOk t L td:=by
 unfold Dj at h
 split at h
 ·rename_i h1
  split at h
  ·rename_i h2
   split at h
   ·cases h
   ·rename_i h3
    split at h
    ·cases h
    ·rename_i h4
     split at h
     ·cases h
     ·rename_i h5
      split at h
      ·cases h
      ·rename_i h6;have h5':ofE t.start t.cyc td=0:=j8;refine⟨h1,Xp h2,by omega,by omega,by omega, ?_,λx hx=> ?_⟩
       ·unfold ofE at h5'
        split at h5'
        ·split at h5'
         ·assumption
         ·cases h5'
        ·rename_i hh;exact absurd h5' hh
       ·rcases hb:lateQ td x with _|_
        ·simp [lateQ] at hb;exact hb
        ·exact absurd (List.any_eq_true.2 ⟨x,hx,hb⟩) h6
  ·rename_i h2;exact absurd h h2
 ·cases h
structure StOk(n:Nat)(s:St)(len:Nat):Prop where
 pr:s.p.Bh=true
 nb:s.p.bal.length=n
 nr:s.R.length=n
 rt:∀x∈s.R,0<=x/\x<=10000000
 n0:s.e0.length=n
 n1:s.e1.length=n
 m0:∀r∈s.e0,r.length=len/\∀y∈r,0<=y/\y<=1000000000000000
 m1:∀r∈s.e1,r.length=len/\∀y∈r,0<=y/\y<=10000000
theorem evR_ok(day:Int):∀(M:List Ev) (i:Nat) (p:Ps) (R:List Int),p.Bh=true->(∀x∈R,0<=x/\x<=10000000)->(evR day M i p R).2.2.2=0->
  (evR day M i p R).2.1.Bh=true/\(evR day M i p R).2.1.bal.length=p.bal.length/\(evR day M i p R).2.2.1.length=R.length/\(∀x∈(evR day M i p R).2.2.1,0<=x/\x<=10000000)/\i<=(evR day M i p R).1/\(evR day M i p R).1<=i+M.length:=by
 intro M
 induction M with
 |nil=>intro i p R hp hR _;exact⟨hp,rfl,rfl,hR,Nat.le_refl _,Nat.le_refl _⟩
 |cons e M ih=>
  intro i p R hp hR h;unfold evR at h⊢
  split at h
  ·rename_i hd;rw [if_pos hd]
   split at h
   ·rename_i h0;rw [if_pos h0];obtain⟨a1,a2,a3,a4⟩:=Xz h0;obtain⟨b1,b2,b3,b4,b5,b6⟩:=ih _ _ _ a3 a4 h;exact⟨b1,b2.trans a1,b3.trans a2,b4,by omega,by simp only [List.length_cons];omega⟩
   ·rename_i h0;exact absurd h h0
  ·rename_i hd;rw [if_neg hd];exact⟨hp,rfl,rfl,hR,Nat.le_refl _,by omega⟩
theorem StOk.ev{n len:Nat}{s:St}(h:StOk n s len){M:List Ev}(hz:(evR s.day M s.i s.p s.R).2.2.2=0):StOk n (evSt s (evR s.day M s.i s.p s.R)) len:=by
 obtain⟨b1,b2,b3,b4,_,_⟩:=evR_ok s.day M s.i s.p s.R h.pr h.rt hz;exact⟨b1,b2.trans h.nb,b3.trans h.nr,b4,h.n0,h.n1,h.m0,h.m1⟩
theorem ext_mem{E:List (List Int)}{V:List Int}{r:List Int}(h:r∈List.zipWith (λr v=>r++ [v]) E V):∃a∈E,∃v∈V,r=a++ [v]:=by
 obtain⟨k,hk⟩:=List.getElem?_of_mem h;rw [List.getElem?_zipWith] at hk;rcases h1:E[k]? with _|a
 ·rw [h1] at hk;simp at hk
 ·rcases h2:V[k]? with _|v
  ·rw [h1,h2] at hk;simp at hk
  ·rw [h1,h2] at hk;simp only [Option.some.injEq] at hk;exact⟨a,List.mem_of_getElem? h1,v,List.mem_of_getElem? h2,hk.symm⟩
theorem StOk.fin{n len:Nat}{s:St}(h:StOk n s len):StOk n (endSt s n n) (len+1):=by
 have e0:extL s.e0 s.p.bal n=List.zipWith (λr v=>r++ [v]) s.e0 s.p.bal:=Xo h.nb h.n0;have e1:extL s.e1 s.R n=List.zipWith (λr v=>r++ [v]) s.e1 s.R:=Xo h.nr h.n1;obtain⟨hb,_⟩:=Eo h.pr;refine⟨h.pr,h.nb,h.nr,h.rt, ?_, ?_, ?_, ?_⟩
 ·show(extL s.e0 s.p.bal n).length=n;rw [e0,List.length_zipWith,h.n0,h.nb];omega
 ·show(extL s.e1 s.R n).length=n;rw [e1,List.length_zipWith,h.n1,h.nr];omega
 ·intro r hr;have hr':r∈extL s.e0 s.p.bal n:=hr;rw [e0] at hr';obtain⟨a,ha,v,hv,rfl⟩:=ext_mem hr';obtain⟨h1,h2⟩:=h.m0 a ha;refine⟨by rw [List.length_append,h1];rfl,λy hy=> ?_⟩;rcases List.mem_append.1 hy with hy|hy
  ·exact h2 y hy
  ·obtain rfl:y=v:=by simpa using hy
   exact hb _ hv
 ·intro r hr;have hr':r∈extL s.e1 s.R n:=hr;rw [e1] at hr';obtain⟨a,ha,v,hv,rfl⟩:=ext_mem hr';obtain⟨h1,h2⟩:=h.m1 a ha;refine⟨by rw [List.length_append,h1];rfl,λy hy=> ?_⟩;rcases List.mem_append.1 hy with hy|hy
  ·exact h2 y hy
  ·obtain rfl:y=v:=by simpa using hy
   exact h.rt _ hv
theorem StOk.lens{n len:Nat}{s:St}(h:StOk n s len)(hl:len<=40000):∀(k:Nat) (a b:List Int),s.e0[k]?=some a->s.e1[k]?=some b->a.length=b.length/\a.length<=40000:=λk a b ha hb=>by
 have h1:=(h.m0 a (List.mem_of_getElem? ha)).1;have h2:=(h.m1 b (List.mem_of_getElem? hb)).1;omega
theorem Re{t:Tm}{L:List Ev}{n len:Nat}{s s':St}{fr te:Int}(hz:t.err=0)(hn:t.trs.length=n)(h:StOk n s len)(hc:Fs t L n s fr te=some s'):StOk n s' 0/\s'.out.length=s.out.length+1/\s'.i=s.i/\s'.day=s.day:=by
 unfold Fs at hc
 split at hc
 ·cases hc
 ·rename_i V hV;obtain⟨v1,v2⟩:=Ug hn h.n0 h.n1 (λr hr=>(h.m0 r hr).2) (λr hr=>(h.m1 r hr).2) hV
  split at hc
  ·cases hc
  ·rename_i x q hx;simp only [Option.some.injEq] at hc;subst hc;obtain⟨q1,q2⟩:=Gm hz h.pr (by rw [v1];exact h.nb.symm) (List.all_eq_true.2 λy hy=>(Bi y).2 (v2 y hy)) hx;have hrep:∀r∈List.replicate n ([]:List Int),r= []:=λr hr=>(List.mem_replicate.1 hr).2;refine⟨⟨q2,q1.trans h.nb,h.nr,h.rt,by simp,by simp,λr hr=> ?_,λr hr=> ?_⟩,by simp,rfl,rfl⟩
   ·rw [hrep r hr];simp
   ·rw [hrep r hr];simp
def walkD(t:Tm)(T:List Ev)(n:Nat):Nat->List (Int×Int)->St->St×Int
 |0,_,s=>(evSt s (evR s.day (T.drop s.i) s.i s.p s.R),(evR s.day (T.drop s.i) s.i s.p s.R).2.2.2)
 |d+1,S,s=>if(evR s.day (T.drop s.i) s.i s.p s.R).2.2.2=0 then
   (match S with
    | []=>(s,5)
    |(fr,te)::S'=>if te=s.day then(match Fs t T n (endSt (evSt s (evR s.day (T.drop s.i) s.i s.p s.R)) n n) fr te with
      |none=>(s,5)
      |some s2=>walkD t T n d S' { s2 with day:=s.day+1 })
     else walkD t T n d ((fr,te)::S') { endSt (evSt s (evR s.day (T.drop s.i) s.i s.p s.R)) n n with day:=s.day+1 })
  else(s,(evR s.day (T.drop s.i) s.i s.p s.R).2.2.2)
def st0(t:Tm):St:=⟨0,t.start,⟨List.replicate t.trs.length 0,0,0⟩,t.trs.map Tn.rate,List.replicate t.trs.length [],List.replicate t.trs.length [], []⟩
theorem st0_ok{t:Tm}(h:t.err=0):StOk t.trs.length (st0 t) 0:=by
 obtain⟨⟨l0,l1⟩,hr,_⟩:=Fz h;have hrep:∀r∈List.replicate t.trs.length ([]:List Int),r= []:=λr hr=>(List.mem_replicate.1 hr).2;refine⟨?_,by simp [st0],by simp [st0],λx hx=> ?_,by simp [st0],by simp [st0],λr hr=> ?_,λr hr=> ?_⟩
 ·have h1:∀k:Nat,sumI (List.replicate k (0:Int))=0:=λk=>by
   induction k with
   |zero=>rfl
   |succ k ih=>rw [List.replicate_succ,sumI,ih];rfl
  have h2:(List.replicate t.trs.length (0:Int)).all Bv=true:=List.all_eq_true.2 λx hx=>by rw [(List.mem_replicate.1 hx).2];rfl
  show Ps.Bh ⟨List.replicate t.trs.length 0,0,0⟩=true;simp only [Ps.Bh,scanB,h1,h2,List.length_replicate];simp [Bv,l0,l1]
 ·simp only [st0,List.mem_map] at hx;obtain⟨y,hy,rfl⟩:=hx;exact hr y hy
 ·rw [hrep r hr];simp
 ·rw [hrep r hr];simp
def walkR(t:Tm)(L:List Ev)(td:Int):St×Int:=if Dj t L td=0 then walkD t (sortL L) t.trs.length (td-t.start).toNat (allL t.start t.cyc td) (st0 t) else(st0 t,Dj t L td)
theorem Zn{t:Tm}{L:List Ev}{n len:Nat}{s s':St}{fr te:Int}(_:t.err=0)(hn:t.trs.length=n)(h:StOk n s len)(hc:Fs t L n s fr te=some s'):∃x,s'.out=s.out++ [x]/\x.lines.length=n/\x.cycle=(s.out.length:Int)+1/\x.fr=fr/\x.te=te:=by
 unfold Fs at hc
 split at hc
 ·cases hc
 ·rename_i V hV;obtain⟨v1,v2⟩:=Ug hn h.n0 h.n1 (λr hr=>(h.m0 r hr).2) (λr hr=>(h.m1 r hr).2) hV
  split at hc
  ·cases hc
  ·rename_i x q hx;simp only [Option.some.injEq] at hc;subst hc;refine⟨x,rfl, ?_⟩;unfold Mi at hx
   split at hx
   ·rename_i h0;simp only [Option.some.injEq,Prod.mk.injEq] at hx;obtain⟨rfl,_⟩:=hx;rcases Rf h.pr (by rw [v1];exact h.nb.symm) (List.all_eq_true.2 λy hy=>(Bi y).2 (v2 y hy)) with⟨_,_,h3⟩|⟨h3,_⟩
    ·exact⟨Uf _ _ _ (h3.trans h.nb) v1 h.nr,rfl,rfl,rfl⟩
    ·rw [h0] at h3;cases h3
   ·cases hx
theorem Wu{t:Tm}{T:List Ev}{n:Nat}(hz:t.err=0)(hn:t.trs.length=n):∀(d:Nat) (S:List (Int×Int)) (s:St) (len:Nat) (Z:St×Int),StOk n s len->(∀x∈s.out,x.lines.length=n)->walkD t T n d S s=Z->Z.2=0->(∀x∈Z.1.out,x.lines.length=n)/\Z.1.out.length<=s.out.length+S.length/\∃len',StOk n Z.1 len':=by
 intro d
 induction d with
 |zero=>
  intro S s len Z h hx hw hz2;subst hw;unfold walkD at hz2⊢;exact⟨hx,by show s.out.length<=_;omega,len,h.ev hz2⟩
 |succ d ih=>
  intro S s len Z h hx hw hz2;unfold walkD at hw
  split at hw
  ·rename_i h0;have h1:=(h.ev h0).fin
   split at hw
   ·subst hw;cases hz2
   ·rename_i fr te S'
    split at hw
    ·rename_i hte
     split at hw
     ·subst hw;cases hz2
     ·rename_i s2 hc;obtain⟨x,e1,e2,_⟩:=Zn hz hn h1 hc;obtain⟨k1,k2,k3,k4⟩:=Re hz hn h1 hc;have e1':s2.out=s.out++ [x]:=e1;have hk:StOk n { s2 with day:=s.day+1 } 0:=⟨k1.pr,k1.nb,k1.nr,k1.rt,k1.n0,k1.n1,k1.m0,k1.m1⟩
      obtain⟨i1,i2,i3⟩:=ih S' _ 0 Z hk (λy hy=>by
       have hy':y∈s2.out:=hy;rw [e1'] at hy';rcases List.mem_append.1 hy' with h2|h2
       ·exact hx y h2
       ·obtain rfl:y=x:=by simpa using h2
        exact e2) hw hz2
      refine⟨i1, ?_,i3⟩;have:({ s2 with day:=s.day+1 }:St).out.length=s.out.length+1:=by show s2.out.length=_;rw [e1',List.length_append];rfl
      rw [this] at i2;simp only [List.length_cons];omega
    ·obtain⟨s3,hs3⟩:∃s3:St,s3={ endSt (evSt s (evR s.day (T.drop s.i) s.i s.p s.R)) n n with day:=s.day+1 }:=⟨_,rfl⟩;have hw':walkD t T n d ((fr,te)::S') s3=Z:=by rw [hs3];exact hw
     have hk:StOk n s3 (len+1):=by rw [hs3];exact⟨h1.pr,h1.nb,h1.nr,h1.rt,h1.n0,h1.n1,h1.m0,h1.m1⟩
     have ho:s3.out=s.out:=by rw [hs3];rfl
     obtain⟨i1,i2,i3⟩:=ih _ _ (len+1) Z hk (by rw [ho];exact hx) hw' hz2;exact⟨i1,by rw [ho] at i2;exact i2,i3⟩
  ·rename_i h0;subst hw;exact absurd hz2 h0
theorem Mr{t:Tm}{L:List Ev}{td:Int}{Z:St×Int}(hw:walkR t L td=Z)(hz2:Z.2=0):(∀x∈Z.1.out,x.lines.length=t.trs.length)/\Z.1.out.length<=300/\t.err=0/\Ps.Bh Z.1.p=true:=by
 unfold walkR at hw
 split at hw
 ·rename_i h0;have hok:=Ei h0;obtain⟨h1,h2,len,h3⟩:=Wu hok.tm rfl _ _ _ _ Z (st0_ok hok.tm) (by simp [st0]) hw hz2;obtain⟨_,h4⟩:=Ku t.cyc td 300 t.start hok.fd;have hall:(allL t.start t.cyc td).length<=300:=by unfold allL;rw [if_pos hok.fd];exact h4
  refine⟨h1, ?_,hok.tm,h3.pr⟩;have:(st0 t).out.length=0:=rfl;omega
 ·rename_i h0;subst hw;exact absurd hz2 h0
structure Cmd where
 kind:Int
 day:Int
 tranche:Int
 amount:Int
 ref:Int
deriving DecidableEq,Inhabited
def Cmd.cells(d:Cmd):List Value:= [.int .i64 d.kind,.int .i64 d.day,.int .i64 d.tranche,.int .i64 d.amount,.int .i64 d.ref]
theorem Cmd.Aj(d:Cmd):d.cells.length=5:=rfl
theorem Cmd.one(L:List Cmd):∀u∈L.flatMap Cmd.cells,u.oneCell'=true:=by
 intro u hu;obtain⟨d,_,hd⟩:=List.mem_flatMap.1 hu;simp only [Cmd.cells,List.mem_cons,List.not_mem_nil,or_false] at hd;rcases hd with rfl|rfl|rfl|rfl|rfl<;>rfl
structure Ac where
 t:Tm
 today:Int
 seq:Int
 L:List Ev
 D:List Disp
 s:St
 iss:List Stm
 adj:List Adj
def betP(seq:Int):List Stm->List Stm->List Adj->Int×List Adj
 |a::A,b::B,acc=>if a.Db&&b.Db then betP seq A B (acc++Er seq a b) else(5, [])
 |_,_,acc=>(0,acc)
def Js:List Stm->List Stm->Bool
 | [], []=>true
 |a::A,b::B=>Gx a b&&Js A B
 |_,_=>false
def betS(seq:Int)(L M:List Stm):Int×List Adj:=if Js L M=true then betP seq L M [] else(1, [])
theorem Ac9(seq:Int):∀(P Q:List SV) (acc:List Adj),Jr seq P Q acc=betP seq (P.map SV.s) (Q.map SV.s) acc
 | [],_,_=>by unfold Jr;cases ‹List SV›<;>rfl
 |_::_, [],_=>rfl
 |a::A,b::B,acc=>by
  simp only [Jr,List.map_cons,betP];rw [Ac9 seq A B]
theorem Pi:∀(P Q:List SV),Js (P.map SV.s) (Q.map SV.s)=true↔P.length=Q.length/\Mo P Q P.length
 | [], []=>by simp [Js,Mo]
 | [],b::B=>by simp [Js]
 |a::A, []=>by simp [Js]
 |a::A,b::B=>by
  simp only [List.map_cons,Js,Bool.and_eq_true,Pi A B,List.length_cons]
  constructor
  ·rintro⟨h1,h2,h3⟩;refine⟨by omega,λi x y hi hx hy=> ?_⟩
   cases i with
   |zero=>simp at hx hy;subst hx;subst hy;exact h1
   |succ i=>simp at hx hy;exact h3 i x y (by omega) hx hy
  ·rintro⟨h1,h2⟩;exact⟨h2 0 a b (by omega) rfl rfl,by omega,λi x y hi hx hy=>h2 (i+1) x y (by omega) (by simpa using hx) (by simpa using hy)⟩
theorem betw_S(seq:Int)(P Q:List SV):Betw seq P Q (betS seq (P.map SV.s) (Q.map SV.s)):=by
 unfold Betw betS;by_cases h:Js (P.map SV.s) (Q.map SV.s)=true
 ·exact .inl ⟨(Pi P Q).1 h,by rw [if_pos h,Ac9]⟩
 ·exact .inr ⟨λh'=>h ((Pi P Q).2 h'),by rw [if_neg h]⟩
theorem Vl:∀(L M:List Stm),Js L M=true->L.length=M.length
 | [], [],_=>rfl
 | [],_::_,h=>by cases h
 |_::_, [],h=>by cases h
 |a::A,b::B,h=>by
  simp only [Js,Bool.and_eq_true] at h;simp [Vl A B h.2]
theorem betS_len{seq:Int}{L M:List Stm}(h:(betS seq L M).1=0):L.length=M.length:=by
 unfold betS at h
 split at h
 ·rename_i h1;exact Vl L M h1
 ·cases h
theorem betP_le(seq:Int):∀(L M:List Stm) (acc:List Adj),(∀x∈L,x.lines.length<=1000)->(betP seq L M acc).2.length<=acc.length+1001*L.length
 | [],M,acc,_=>by cases M<;>simp [betP]
 |a::A, [],acc,_=>by simp [betP]
 |a::A,b::B,acc,h=>by
  unfold betP
  split
  ·have h1:=betP_le seq A B (acc++Er seq a b) λx hx=>h x (List.mem_cons_of_mem _ hx);have h2:=Xf seq a b;have h3:=h a (List.mem_cons_self ..);rw [List.length_append] at h1;rw [List.length_cons];omega
  ·simp
theorem betS_le{seq:Int}{L M:List Stm}(h:∀x∈L,x.lines.length<=1000):(betS seq L M).2.length<=1001*L.length:=by
 unfold betS
 split
 ·have:=betP_le seq L M [] h;simpa using this
 ·simp
def Ac.cz(a:Ac)(e:Ev):St×Int:=walkR a.t (putL a.L e) a.today
def Ac.cb(a:Ac)(e:Ev):Int×List Adj:=betS (a.seq+1) a.s.out (a.cz e).1.out
def Ac.ce(a:Ac)(e:Ev):Int:=if¬Es a.t a.L e=0 then Es a.t a.L e else if¬(a.cz e).2=0 then(a.cz e).2 else(a.cb e).1
def Ac.count(a:Ac)(e:Ev):Ac:=if a.ce e=0 then { a with L:=putL a.L e,s:=(a.cz e).1,adj:=a.adj++(a.cb e).2,seq:=a.seq+1 } else a
def Ac.tz(a:Ac)(d:Int):St×Int:=walkR a.t a.L (a.today+d)
def Ac.te(a:Ac)(d:Int):Int:=if d<1\/400<d then 1 else if¬ofE a.t.start a.t.cyc (a.today+d)=0 then 10 else(a.tz d).2
def Ac.tc(a:Ac)(d:Int):Int:=if a.te d=0/\a.s.out.length<(a.tz d).1.out.length then((a.tz d).1.out.length:Int) else 0
def Ac.tick(a:Ac)(d:Int):Ac:=if a.te d=0 then { a with today:=a.today+d,s:=(a.tz d).1,iss:=a.iss++(a.tz d).1.out.drop a.s.out.length,seq:=a.seq+1 } else a
def Ac.cyc(a:Ac)(d:Int):Int:=ofV a.t.start a.t.cyc d
def Ac.oldB(a:Ac)(d:Int):Bool:=decide (24<a.cyc a.today-a.cyc d)
def Ac.owes(a:Ac):Int:=sumI a.s.p.bal-a.s.p.cr
def Ac.ee(a:Ac)(c:Cmd):Int:=
 if¬c.kind=2/\¬(1<=c.tranche/\c.tranche<=a.t.trs.length) then 7
 else if(c.kind=7/\(c.amount<0\/10000000<c.amount))\/(¬c.kind=7/\(c.amount<1\/1000000000000000<c.amount)) then 8
 else if c.kind=1 then(if a.t.limit<a.owes+c.amount then 9 else 0)
 else if c.kind=3 then(if c.day<a.t.start\/a.today<c.day then 10 else if a.oldB c.day=true then 11 else 0)
 else if c.kind=4 then(if a.s.p.bal.getD (c.tranche-1).toNat 0<c.amount then 9 else Dq a.D c.tranche c.amount)
 else 0
def ev00:Ev:=⟨0,0,0,0,0⟩
def Ac.evt(a:Ac)(c:Cmd):Ev:=if¬a.ee c=0 then ev00 else
 ⟨if c.kind=7 then 6 else c.kind,if c.kind=3 then c.day else a.today,if c.kind=2 then 0 else c.tranche,c.amount,if c.kind=4 then Eh a.D c.tranche c.amount else 0⟩
def Ac.eD(a:Ac)(c:Cmd):List Disp:=if c.kind=4/\a.ee c=0 then dOpen a.D c.tranche a.today c.amount else a.D
def Ac.de(a:Ac)(c:Cmd):Int:=if¬Ct a.D c.ref=0 then Ct a.D c.ref else if c.kind=6 then 0 else if a.oldB (Ea a.D c.ref (c.kind==5)).day=true then 11 else 0
def Ac.dvt(a:Ac)(c:Cmd):Ev:=if¬a.de c=0\/c.kind=6 then ev00 else⟨5,(Ea a.D c.ref (c.kind==5)).day,(Ea a.D c.ref (c.kind==5)).tranche,(Ea a.D c.ref (c.kind==5)).amount,(Ea a.D c.ref (c.kind==5)).ref⟩
theorem Xl{B n cT:Nat}{adT:Option Addr}{c0 c2 c3 c4 c5 c6 c7 c8 c9 c10 c11 c12 c13 c14 c15 c16 c17 c18 c19:Value}{W W2:World}(h:W.heap[B]?=some (.cells #[c0,.slice adT n cT,c2,c3,c4,c5,c6,c7,c8,c9,c10,c11,c12,c13,c14,c15,c16,c17,c18,c19] 203 (0,0)))(hk:K0 W W2)(a b:Nat):
  ((W2.setCell ⟨B,14,none⟩ (.slice (some ⟨a,0,none⟩) n n)).setCell ⟨B,15,none⟩ (.slice (some ⟨b,0,none⟩) n n)).heap[B]?=some (.cells #[c0,.slice adT n cT,c2,c3,c4,c5,c6,c7,c8,c9,c10,c11,c12,c13,.slice (some ⟨a,0,none⟩) n n,.slice (some ⟨b,0,none⟩) n n,c16,c17,c18,c19] 203 (0,0))/\Keeps (λi=>i=B) W ((W2.setCell ⟨B,14,none⟩ (.slice (some ⟨a,0,none⟩) n n)).setCell ⟨B,15,none⟩ (.slice (some ⟨b,0,none⟩) n n)):=by
 have h2:=Ad h hk (by simp);have h3:=(heap_setCell_same _ _ 14 _ _ (.slice (some ⟨a,0,none⟩) n n) h2).trans rfl;have h4:=(heap_setCell_same _ _ 15 _ _ (.slice (some ⟨b,0,none⟩) n n) h3).trans rfl;have k1:Keeps (λi=>i=B) W2 (W2.setCell ⟨B,14,none⟩ (.slice (some ⟨a,0,none⟩) n n)):=Keeps.setCell (S:=λi=>i=B) _ _ _ rfl;have k2:Keeps (λi=>i=B) (W2.setCell ⟨B,14,none⟩ (.slice (some ⟨a,0,none⟩) n n)) ((W2.setCell ⟨B,14,none⟩ (.slice (some ⟨a,0,none⟩) n n)).setCell ⟨B,15,none⟩ (.slice (some ⟨b,0,none⟩) n n)):=Keeps.setCell (S:=λi=>i=B) _ _ _ rfl;have k0:Keeps (λi=>i=B) W W2:=hk.mono (by simp);exact⟨h4,Keeps.trans (Keeps.trans k0 (k1.mono λ_ _ h=> .inl h)) (k2.mono λ_ _ h=> .inl h)⟩
theorem Yi{B n cT:Nat}{adT:Option Addr}{c0 c2 c3 c4 c5 c6 c7 c8 c9 c10 c11 c12 c13 c14 c15 c16 c17 c18 c19:Value}{W:World}(h:W.heap[B]?=some (.cells #[c0,.slice adT n cT,c2,c3,c4,c5,c6,c7,c8,c9,c10,c11,c12,c13,c14,c15,c16,c17,c18,c19] 203 (0,0)))(hn:n<=1000):
  Calls Tryz.prog 104 #[(.pointer (some ⟨B,0,none⟩))] W λe W'=>e= .returned (.tuple #[])/\∃a b,W'.heap[B]?=some (.cells #[c0,.slice adT n cT,c2,c3,c4,c5,c6,c7,c8,c9,c10,c11,c12,c13,.slice (some ⟨a,0,none⟩) n n,.slice (some ⟨b,0,none⟩) n n,c16,c17,c18,c19] 203 (0,0))/\W'.heap[a]?=some (.cells ((List.replicate n si0).map SI.v).toArray 49 (0,0))/\W'.heap[b]?=some (.cells ((List.replicate n si0).map SI.v).toArray 49 (0,0))/\W.heap.size<=a/\W.heap.size<=b/\a≠b/\Keeps (λi=>i=B) W W':=by
 obtain⟨i0,hi,hi0,hi1,hi2⟩:=info_parts Um;refine j3B ?_;intro hmk;simp only [Int.toNat_natCast,hi1,Nat.mul_one] at hmk;obtain⟨Z,hZ⟩:=eY (madeCells (Value.slice none 0 0).cells n);rw [<-hZ] at hmk;rw [Abc] at hZ;have hblk:=h
 have hS:∀W',K0 W W'->(W'.cell? ⟨B,14,none⟩=some c14/\W'.cell? ⟨B,15,none⟩=some c15/\W'.frozen? ⟨B,14,none⟩=false/\W'.frozen? ⟨B,15,none⟩=false/\B<W'.heap.size):=λW' hk=>by
  have hb:=Ad h hk (by simp);exact⟨Aa hb 14,Aa hb 15,Ab hb 14,Ab hb 15,lt_of_block hb⟩
 have q1:=Aa h 1;have bl:=lt_of_block h;clear h;have Hblk:=Lib.hid hblk;clear hblk hi hi0 hi1 hi2;obtain⟨HZ,HS⟩:=hid2 hZ hS;clear hS hZ;go_enter Tryz.func104,Tryz.ntmps104;go_wp2_with fail;refine Ak (λ_=>True) (.take 0 (.take 1 (.take 3 (.fork 2 (.move 4 (.take 5 (.take 6 (.take 7 (.move 8 .done))))) 4 (.move 2 (.take 5 (.take 6 (.take 7 (.move 8 .done))))))))) j9 j9 ?_ ?_
 ·trivial
 intro w1 hs1 hk1;have Hk1:=Lib.hid hk1;clear hk1 hs1;refine jR ?_;refine Dx ?_ ?_ trivial
 ·skip
  refine jO ?_;refine jO ?_;obtain⟨s14,s15,s16,s17,sl⟩:=HS.o _ ((Hk1.o.Af (o:= .cells Z 49)).Af (o:= .cells Z 49));have z0:((w1.alloc (.cells Z 49)).alloc (.cells Z 49)).heap[w1.heap.size]?=some (.cells ((List.replicate n si0).map SI.v).toArray 49 (0,0)):=by rw [show((List.replicate n si0).map SI.v).toArray=Z from HZ.o.symm];exact Ap (heap_alloc_new w1 _) _
  have z1:((w1.alloc (.cells Z 49)).alloc (.cells Z 49)).heap[w1.heap.size+1]?=some (.cells ((List.replicate n si0).map SI.v).toArray 49 (0,0)):=by rw [show((List.replicate n si0).map SI.v).toArray=Z from HZ.o.symm];exact Aw _ _ (by simp)
  have hka:=(Hk1.o.Af (o:= .cells Z 49)).Af (o:= .cells Z 49);obtain⟨hfb,hfk⟩:=Xl Hblk.o hka (w1.heap.size) (w1.heap.size+1);have hs1:=Hk1.o.size;have kBB:Keeps (λi=>i=B) ((w1.alloc (.cells Z 49)).alloc (.cells Z 49)) ((((w1.alloc (.cells Z 49)).alloc (.cells Z 49)).setCell ⟨B,14,none⟩ (.slice (some ⟨w1.heap.size,0,none⟩) n n)).setCell ⟨B,15,none⟩ (.slice (some ⟨w1.heap.size+1,0,none⟩) n n)):=(Keeps.setCell (S:=λi=>i=B) _ _ _ rfl).trans (Keeps.setCell _ _ _ (.inl rfl))
  have hfin:∃a b,((((w1.alloc (.cells Z 49)).alloc (.cells Z 49)).setCell ⟨B,14,none⟩ (.slice (some ⟨w1.heap.size,0,none⟩) n n)).setCell ⟨B,15,none⟩ (.slice (some ⟨w1.heap.size+1,0,none⟩) n n)).heap[B]?=some (.cells #[c0,.slice adT n cT,c2,c3,c4,c5,c6,c7,c8,c9,c10,c11,c12,c13,.slice (some ⟨a,0,none⟩) n n,.slice (some ⟨b,0,none⟩) n n,c16,c17,c18,c19] 203 (0,0))/\((((w1.alloc (.cells Z 49)).alloc (.cells Z 49)).setCell ⟨B,14,none⟩ (.slice (some ⟨w1.heap.size,0,none⟩) n n)).setCell ⟨B,15,none⟩ (.slice (some ⟨w1.heap.size+1,0,none⟩) n n)).heap[a]?=some (.cells ((List.replicate n si0).map SI.v).toArray 49 (0,0))/\
   ((((w1.alloc (.cells Z 49)).alloc (.cells Z 49)).setCell ⟨B,14,none⟩ (.slice (some ⟨w1.heap.size,0,none⟩) n n)).setCell ⟨B,15,none⟩ (.slice (some ⟨w1.heap.size+1,0,none⟩) n n)).heap[b]?=some (.cells ((List.replicate n si0).map SI.v).toArray 49 (0,0))/\W.heap.size<=a/\W.heap.size<=b/\a≠b/\Keeps (λi=>i=B) W ((((w1.alloc (.cells Z 49)).alloc (.cells Z 49)).setCell ⟨B,14,none⟩ (.slice (some ⟨w1.heap.size,0,none⟩) n n)).setCell ⟨B,15,none⟩ (.slice (some ⟨w1.heap.size+1,0,none⟩) n n)):=
   ⟨w1.heap.size,w1.heap.size+1,hfb,Ad z0 kBB j6,Ad z1 kBB j6,by omega,by omega,by omega,hfk⟩
  exact j3Y
 ·skip
  refine jO ?_;refine jO ?_;obtain⟨s14,s15,s16,s17,sl⟩:=HS.o _ ((Hk1.o.Af (o:= .cells Z 49)).Af (o:= .cells Z 49));have z0:((w1.alloc (.cells Z 49)).alloc (.cells Z 49)).heap[w1.heap.size]?=some (.cells ((List.replicate n si0).map SI.v).toArray 49 (0,0)):=by rw [show((List.replicate n si0).map SI.v).toArray=Z from HZ.o.symm];exact Ap (heap_alloc_new w1 _) _
  have z1:((w1.alloc (.cells Z 49)).alloc (.cells Z 49)).heap[w1.heap.size+1]?=some (.cells ((List.replicate n si0).map SI.v).toArray 49 (0,0)):=by rw [show((List.replicate n si0).map SI.v).toArray=Z from HZ.o.symm];exact Aw _ _ (by simp)
  have hka:=(Hk1.o.Af (o:= .cells Z 49)).Af (o:= .cells Z 49);obtain⟨hfb,hfk⟩:=Xl Hblk.o hka (w1.heap.size+1) (w1.heap.size);have hs1:=Hk1.o.size;have kBB:Keeps (λi=>i=B) ((w1.alloc (.cells Z 49)).alloc (.cells Z 49)) ((((w1.alloc (.cells Z 49)).alloc (.cells Z 49)).setCell ⟨B,14,none⟩ (.slice (some ⟨w1.heap.size+1,0,none⟩) n n)).setCell ⟨B,15,none⟩ (.slice (some ⟨w1.heap.size,0,none⟩) n n)):=(Keeps.setCell (S:=λi=>i=B) _ _ _ rfl).trans (Keeps.setCell _ _ _ (.inl rfl))
  have hfin:∃a b,((((w1.alloc (.cells Z 49)).alloc (.cells Z 49)).setCell ⟨B,14,none⟩ (.slice (some ⟨w1.heap.size+1,0,none⟩) n n)).setCell ⟨B,15,none⟩ (.slice (some ⟨w1.heap.size,0,none⟩) n n)).heap[B]?=some (.cells #[c0,.slice adT n cT,c2,c3,c4,c5,c6,c7,c8,c9,c10,c11,c12,c13,.slice (some ⟨a,0,none⟩) n n,.slice (some ⟨b,0,none⟩) n n,c16,c17,c18,c19] 203 (0,0))/\((((w1.alloc (.cells Z 49)).alloc (.cells Z 49)).setCell ⟨B,14,none⟩ (.slice (some ⟨w1.heap.size+1,0,none⟩) n n)).setCell ⟨B,15,none⟩ (.slice (some ⟨w1.heap.size,0,none⟩) n n)).heap[a]?=some (.cells ((List.replicate n si0).map SI.v).toArray 49 (0,0))/\
   ((((w1.alloc (.cells Z 49)).alloc (.cells Z 49)).setCell ⟨B,14,none⟩ (.slice (some ⟨w1.heap.size+1,0,none⟩) n n)).setCell ⟨B,15,none⟩ (.slice (some ⟨w1.heap.size,0,none⟩) n n)).heap[b]?=some (.cells ((List.replicate n si0).map SI.v).toArray 49 (0,0))/\W.heap.size<=a/\W.heap.size<=b/\a≠b/\Keeps (λi=>i=B) W ((((w1.alloc (.cells Z 49)).alloc (.cells Z 49)).setCell ⟨B,14,none⟩ (.slice (some ⟨w1.heap.size+1,0,none⟩) n n)).setCell ⟨B,15,none⟩ (.slice (some ⟨w1.heap.size,0,none⟩) n n)):=
   ⟨w1.heap.size+1,w1.heap.size,hfb,Ad z1 kBB j6,Ad z0 kBB j6,by omega,by omega,by omega,hfk⟩
  exact j3Y
end Go.Proofs.YtjkdnaljkdnomaaGreatDoor
