/- Part 8 of what the laws of this seat share: walks of functions, and plain laws. -/
import Derived.Test.YtgbgmadkmabeeaaGreatB7
set_option maxRecDepth 100000
set_option maxHeartbeats 6400000
namespace Go.Proofs.YtgbgmadkmabeeaaGreat
open Go.RowKit
theorem Eh{w0:World}{X:Fx}{B:Nat}{t:Tm}{n:Nat}{vt:Value}{L:List Ev}{f0 f1 f2:Value}{s:St}{vl vb vr:Value}{g0 g1:Nat}{S0 S1:List SI}{vo:Value}{P:List SV}{W:World}(h:RunV w0 X B t n vt L f0 f1 f2 s vl vb vr g0 g1 S0 S1 vo P W)(hn:n<=1000):
  Calls Tryz.prog 181 #[(.pointer (some ⟨B,0,none⟩))] W λe W'=>e= .returned (.tuple #[])/\∃a b,RunV w0 X B t n vt L f0 f1 f2 { s with e0:=List.replicate n [],e1:=List.replicate n [] } vl vb vr a b (List.replicate n si0) (List.replicate n si0) vo P W':=by
 obtain⟨i0,hi,hi0,hi1,hi2⟩:=info_parts Uc;obtain⟨adT,cT,rfl⟩:∃a c,vt= .slice a n c:=by obtain⟨a,c,h,_⟩:=h.trs;exact⟨a,c,h⟩
 refine j3t ?_;intro hmk;simp only [Int.toNat_natCast,hi1,Nat.mul_one] at hmk;obtain⟨Z,hZ⟩:∃Z,Z=madeCells (Value.slice none 0 0).cells n:=⟨_,rfl⟩;rw [<-hZ] at hmk;rw [Aap] at hZ;have hrv:=h
 have hS:∀W',Keeps (λ_=>False) W W'->(λW'=>W'.cell? ⟨B,14,none⟩=some (.slice (some ⟨g0,0,none⟩) n n)/\W'.cell? ⟨B,15,none⟩=some (.slice (some ⟨g1,0,none⟩) n n)/\W'.frozen? ⟨B,14,none⟩=false/\W'.frozen? ⟨B,15,none⟩=false/\B<W'.heap.size) W':=λW' hk=>by
  have hb:=Ad h.blk hk (by simp);exact⟨Aa hb 14,Aa hb 15,Ab hb 14,Ab hb 15,lt_of_block hb⟩
 have c1:=Aa h.blk 1;have bl:=lt_of_block h.blk;obtain⟨H,Hrv,Hi,Hi0,Hi1,Hi2,HZ,HS⟩:=hid8 h hrv hi hi0 hi1 hi2 hZ hS;clear hS hZ hi2 hi1 hi0 hi hrv h;go_enter Tryz.func181,Tryz.ntmps181;go_wp2_with fail;refine Al (λ_=>True) (.take 0 (.take 1 (.take 3 (.fork 2 (.move 4 (.take 5 (.take 6 (.take 7 (.move 8 .done))))) 4 (.move 2 (.take 5 (.take 6 (.take 7 (.move 8 .done))))))))) j9 j9 ?_ ?_
 ·trivial
 intro w1 hs1 hk1;have Hk1:=Lib.hid hk1;clear hk1 hs1;refine jR ?_;refine Dn ?_ ?_ trivial
 ·skip
  refine jB ?_;refine jB ?_;obtain⟨s14,s15,s16,s17,sl⟩:=HS.out _ ((Hk1.out.Af (o:= .cells Z 50)).Af (o:= .cells Z 50));have z0:((w1.alloc (.cells Z 50)).alloc (.cells Z 50)).heap[w1.heap.size]?=some (.cells ((List.replicate n si0).map SI.v).toArray 50 (0,0)):=by rw [show((List.replicate n si0).map SI.v).toArray=Z from HZ.out.symm];exact Ar (heap_alloc_new w1 _) _
  have z1:((w1.alloc (.cells Z 50)).alloc (.cells Z 50)).heap[w1.heap.size+1]?=some (.cells ((List.replicate n si0).map SI.v).toArray 50 (0,0)):=by rw [show((List.replicate n si0).map SI.v).toArray=Z from HZ.out.symm];exact Av _ _ (by simp)
  have hren:=Hrv.out.renew ((Hk1.out.Af (o:= .cells Z 50)).Af (o:= .cells Z 50)) (a:=w1.heap.size) (b:=w1.heap.size+1) jU jU j6 z0 z1;exact j3u
 ·skip
  refine jB ?_;refine jB ?_;obtain⟨s14,s15,s16,s17,sl⟩:=HS.out _ ((Hk1.out.Af (o:= .cells Z 50)).Af (o:= .cells Z 50));have z0:((w1.alloc (.cells Z 50)).alloc (.cells Z 50)).heap[w1.heap.size]?=some (.cells ((List.replicate n si0).map SI.v).toArray 50 (0,0)):=by rw [show((List.replicate n si0).map SI.v).toArray=Z from HZ.out.symm];exact Ar (heap_alloc_new w1 _) _
  have z1:((w1.alloc (.cells Z 50)).alloc (.cells Z 50)).heap[w1.heap.size+1]?=some (.cells ((List.replicate n si0).map SI.v).toArray 50 (0,0)):=by rw [show((List.replicate n si0).map SI.v).toArray=Z from HZ.out.symm];exact Av _ _ (by simp)
  have hren:=Hrv.out.renew ((Hk1.out.Af (o:= .cells Z 50)).Af (o:= .cells Z 50)) (a:=w1.heap.size+1) (b:=w1.heap.size) jU jU j6 z1 z0;exact j3u
section
variable {w0:World} {X:Fx} {B:Nat} {t:Tm} {n:Nat} {vt:Value} {L:List Ev} {f0 f1 f2:Value} {s:St} {vl vb vr:Value} {g0 g1:Nat} {S0 S1:List SI} {vo:Value} {P:List SV} {W W':World}
theorem RunV.ext0(h:RunV w0 X B t n vt L f0 f1 f2 s vl vb vr g0 g1 S0 S1 vo P W){k:Nat}{x x':SI}{v:Int}{w4 w5:World}(hx:S0[k]?=some x)(hk4:Keeps (λ_=>False) W w4)(hk5:Keeps (λi=>x.v.ownBlock=some i) w4 w5)
  (hr:w5.ownsRow 0 2 1 x'.v x'.L.length (x'.L.flatMap i64c)) (hL:x'.L=x.L++ [v]) (hf:x'.v.ownBlock=x.v.ownBlock\/∃g,x'.v.ownBlock=some g/\w4.heap.size<=g):
  RunV w0 X B t n vt L f0 f1 f2 { s with e0:=s.e0.set k (x.L++ [v]) } vl vb vr g0 g1 (S0.set k x') S1 vo P (w5.setCell ⟨g0,k,none⟩ x'.v):=by
 have h4:=h.keep0 hk4;have hxm:=List.mem_of_getElem? hx;have hrx:=h4.i0 x hxm;have hkl:=Db hx;have hs4:=hk4.size;have hs5:=hk5.size
 have hnewb:∀b,x'.v.ownBlock=some b->x.v.ownBlock=some b\/W.heap.size<=b:=λb hb=>by
  exact j3v
 refine j3w ?_;intro nx nr h5o0 h5o1 h5b;have kg:Keeps (λi=>i=g0) w5 (w5.setCell ⟨g0,k,none⟩ x'.v):=Keeps.setCell _ _ _ rfl;have gb:∀{e:TypeId} {sz m:Nat} {u:Value} {xs:List Value},w5.ownsRow 0 e sz u m xs->50≠e->∀b,u.ownBlock=some b->¬b=g0:=λhr' hne b hb e=>by subst e;exact Ai hr' h5o0 hne hb
 have hBg:¬B=g0:=λe=>by
  have h1:=h5b;rw [e,h5o0] at h1;exact j0o
 have r5:∀{e:TypeId} {sz m:Nat} {u:Value} {xs:List Value},w4.ownsRow 0 e sz u m xs->(∀b,u.ownBlock=some b->¬x.v.ownBlock=some b)->50≠e->(w5.setCell ⟨g0,k,none⟩ x'.v).ownsRow 0 e sz u m xs:=λhr' hd hne=>kg.row (hk5.row hr' hd) (gb (hk5.row hr' hd) hne)
 have hmem:∀(j:Nat) (y:SI),(S0.set k x')[j]?=some y->(j=k/\y=x')\/(j≠k/\S0[j]?=some y):=λj y hy=>by
  exact j3x
 have hmem2:∀y∈S0.set k x',y=x'\/∃j,j≠k/\S0[j]?=some y:=λy hy=>by
  exact j3y
 have hx2:∀y∈S1,∀b,x'.v.ownBlock=some b->y.v.ownBlock≠some b:=λy hy b hb e=>by
  rcases hnewb b hb with h1|h1
  ·exact h.d01 x y hxm hy b h1 e
  ·have:=Cj (h.i1 y hy) e;omega
 exact { h4 with
  blk:=Ad h5b kg hBg
  trs:=(h4.trs.keeps hk5 (λb hb e=>by have:=(h.wt b hb).1;have:=(h.wi0 x hxm b e).1;omega)).keeps kg (λb hb e=>by have e':b=g0:=e;have:=(h.wt b hb).1;have:=h.w0'.1;omega)
  evs:=r5 h4.evs (nr h4.evs j7) j7
  bal:=r5 h4.bal (λb hb e=>(h.db0 x hxm b e).1 hb) j7
  rts:=r5 h4.rts (λb hb e=>(h.db0 x hxm b e).2 hb) j7
  o0:=si_set x' h5o0
  o1:=Ad h5o1 kg (λe=>h.g01 e.symm)
  i0:=λy hy=>by
   rcases hmem2 y hy with rfl|⟨j,hj,hjy⟩
   ·exact kg.row hr (gb hr j7)
   ·exact r5 (h4.i0 y (List.mem_of_getElem? hjy)) (λb hb e=>h.d00 j k y x hjy hx hj b hb e) j7
  i1:=λy hy=>r5 (h4.i1 y hy) (λb hb e=>h.d01 x y hxm hy b e hb) j7
  out:=r5 h4.out (nr h4.out j7) j7
  ln:=λy hy=>r5 (h4.ln y hy) (nr (h4.ln y hy) j7) j7
  l0:=by rw [List.map_set,h.l0,hL]
  n0:=by rw [List.length_set];exact h.n0
  d00:=λi j y z hy hz hne b hb=>by
   rcases hmem i y hy with⟨rfl,rfl⟩|⟨h1,h2⟩
   ·rcases hmem j z hz with⟨rfl,rfl⟩|⟨h3,h4'⟩
    ·exact absurd rfl hne
    ·rcases hnewb b hb with h5|h5
     ·exact h.d00 i j x z hx h4' hne b h5
     ·intro e;have:=Cj (h.i0 z (List.mem_of_getElem? h4')) e;omega
   ·rcases hmem j z hz with⟨rfl,rfl⟩|⟨h3,h4'⟩
    ·intro e;rcases hnewb b e with h5|h5
     ·exact h.d00 i j y x h2 hx hne b hb h5
     ·have:=Cj (h.i0 y (List.mem_of_getElem? h2)) hb;omega
    ·exact h.d00 i j y z h2 h4' hne b hb
  d01:=λy z hy hz b hb=>by
   rcases hmem2 y hy with rfl|⟨j,hj,hjy⟩
   ·exact hx2 z hz b hb
   ·exact h.d01 y z (List.mem_of_getElem? hjy) hz b hb
  db0:=λy hy b hb=>by
   rcases hmem2 y hy with rfl|⟨j,hj,hjy⟩
   ·rcases hnewb b hb with h5|h5
    ·exact h.db0 x hxm b h5
    ·exact⟨λe=>by have:=Cj h.bal e;omega,λe=>by have:=Cj h.rts e;omega⟩
   ·exact h.db0 y (List.mem_of_getElem? hjy) b hb
  wi0:=λy hy b hb=>by
   rcases hmem2 y hy with rfl|⟨j,hj,hjy⟩
   ·rcases hnewb b hb with h5|h5
    ·exact h.wi0 x hxm b h5
    ·exact h.new h5
   ·exact h.wi0 y (List.mem_of_getElem? hjy) b hb
  xl:=λb hb=>Nat.lt_of_lt_of_le (Nat.lt_of_lt_of_le (h4.xl b hb) hs5) kg.size
  fz:=λb hb=>((kg.block b (Nat.lt_of_lt_of_le (h4.xl b (h4.yx b hb)) hs5) (λe=>by have e':b=g0:=e;exact h.w0'.2 (e'▸h.yx b hb))).trans (hk5.block b (h4.xl b (h4.yx b hb)) (λe=>(h.wi0 x hxm b e).2 (h.yx b hb)))).trans (h4.fz b hb)
  kp:=(h4.kp.trans (hk5.mono λi _ e=> .inr (h.wi0 x hxm i e).1)).trans (kg.mono λi _ e=> .inr (by have e':i=g0:=e;rw [e'];exact h.w0'.1)) }
theorem RunV.ext1(h:RunV w0 X B t n vt L f0 f1 f2 s vl vb vr g0 g1 S0 S1 vo P W){k:Nat}{x x':SI}{v:Int}{w4 w5:World}(hx:S1[k]?=some x)(hk4:Keeps (λ_=>False) W w4)(hk5:Keeps (λi=>x.v.ownBlock=some i) w4 w5)
  (hr:w5.ownsRow 0 2 1 x'.v x'.L.length (x'.L.flatMap i64c)) (hL:x'.L=x.L++ [v]) (hf:x'.v.ownBlock=x.v.ownBlock\/∃g,x'.v.ownBlock=some g/\w4.heap.size<=g):
  RunV w0 X B t n vt L f0 f1 f2 { s with e1:=s.e1.set k (x.L++ [v]) } vl vb vr g0 g1 S0 (S1.set k x') vo P (w5.setCell ⟨g1,k,none⟩ x'.v):=by
 have h4:=h.keep0 hk4;have hxm:=List.mem_of_getElem? hx;have hrx:=h4.i1 x hxm;have hkl:=Db hx;have hs4:=hk4.size;have hs5:=hk5.size
 have hnewb:∀b,x'.v.ownBlock=some b->x.v.ownBlock=some b\/W.heap.size<=b:=λb hb=>by
  exact j3v
 refine j3w ?_;intro nx nr h5o0 h5o1 h5b;have kg:Keeps (λi=>i=g1) w5 (w5.setCell ⟨g1,k,none⟩ x'.v):=Keeps.setCell _ _ _ rfl;have gb:∀{e:TypeId} {sz m:Nat} {u:Value} {xs:List Value},w5.ownsRow 0 e sz u m xs->50≠e->∀b,u.ownBlock=some b->¬b=g1:=λhr' hne b hb e=>by subst e;exact Ai hr' h5o1 hne hb
 have hBg:¬B=g1:=λe=>by
  have h1:=h5b;rw [e,h5o1] at h1;exact j0o
 have r5:∀{e:TypeId} {sz m:Nat} {u:Value} {xs:List Value},w4.ownsRow 0 e sz u m xs->(∀b,u.ownBlock=some b->¬x.v.ownBlock=some b)->50≠e->(w5.setCell ⟨g1,k,none⟩ x'.v).ownsRow 0 e sz u m xs:=λhr' hd hne=>kg.row (hk5.row hr' hd) (gb (hk5.row hr' hd) hne)
 have hmem:∀(j:Nat) (y:SI),(S1.set k x')[j]?=some y->(j=k/\y=x')\/(j≠k/\S1[j]?=some y):=λj y hy=>by
  exact j3x
 have hmem2:∀y∈S1.set k x',y=x'\/∃j,j≠k/\S1[j]?=some y:=λy hy=>by
  exact j3y
 have hx2:∀y∈S0,∀b,x'.v.ownBlock=some b->y.v.ownBlock≠some b:=λy hy b hb e=>by
  rcases hnewb b hb with h1|h1
  ·exact h.d01 y x hy hxm b e h1
  ·have:=Cj (h.i0 y hy) e;omega
 exact { h4 with
  blk:=Ad h5b kg hBg
  trs:=(h4.trs.keeps hk5 (λb hb e=>by have:=(h.wt b hb).1;have:=(h.wi1 x hxm b e).1;omega)).keeps kg (λb hb e=>by have e':b=g1:=e;have:=(h.wt b hb).1;have:=h.w1'.1;omega)
  evs:=r5 h4.evs (nr h4.evs j7) j7
  bal:=r5 h4.bal (λb hb e=>(h.db1 x hxm b e).1 hb) j7
  rts:=r5 h4.rts (λb hb e=>(h.db1 x hxm b e).2 hb) j7
  o1:=si_set x' h5o1
  o0:=Ad h5o0 kg (λe=>h.g01 e)
  i1:=λy hy=>by
   rcases hmem2 y hy with rfl|⟨j,hj,hjy⟩
   ·exact kg.row hr (gb hr j7)
   ·exact r5 (h4.i1 y (List.mem_of_getElem? hjy)) (λb hb e=>h.d11 j k y x hjy hx hj b hb e) j7
  i0:=λy hy=>r5 (h4.i0 y hy) (λb hb e=>h.d01 y x hy hxm b hb e) j7
  out:=r5 h4.out (nr h4.out j7) j7
  ln:=λy hy=>r5 (h4.ln y hy) (nr (h4.ln y hy) j7) j7
  l1:=by rw [List.map_set,h.l1,hL]
  n1:=by rw [List.length_set];exact h.n1
  d11:=λi j y z hy hz hne b hb=>by
   rcases hmem i y hy with⟨rfl,rfl⟩|⟨h1,h2⟩
   ·rcases hmem j z hz with⟨rfl,rfl⟩|⟨h3,h4'⟩
    ·exact absurd rfl hne
    ·rcases hnewb b hb with h5|h5
     ·exact h.d11 i j x z hx h4' hne b h5
     ·intro e;have:=Cj (h.i1 z (List.mem_of_getElem? h4')) e;omega
   ·rcases hmem j z hz with⟨rfl,rfl⟩|⟨h3,h4'⟩
    ·intro e;rcases hnewb b e with h5|h5
     ·exact h.d11 i j y x h2 hx hne b hb h5
     ·have:=Cj (h.i1 y (List.mem_of_getElem? h2)) hb;omega
    ·exact h.d11 i j y z h2 h4' hne b hb
  d01:=λy z hy hz b hb=>by
   rcases hmem2 z hz with rfl|⟨j,hj,hjz⟩
   ·intro e;exact hx2 y hy b e hb
   ·exact h.d01 y z hy (List.mem_of_getElem? hjz) b hb
  db1:=λy hy b hb=>by
   rcases hmem2 y hy with rfl|⟨j,hj,hjy⟩
   ·rcases hnewb b hb with h5|h5
    ·exact h.db1 x hxm b h5
    ·exact⟨λe=>by have:=Cj h.bal e;omega,λe=>by have:=Cj h.rts e;omega⟩
   ·exact h.db1 y (List.mem_of_getElem? hjy) b hb
  wi1:=λy hy b hb=>by
   rcases hmem2 y hy with rfl|⟨j,hj,hjy⟩
   ·rcases hnewb b hb with h5|h5
    ·exact h.wi1 x hxm b h5
    ·exact h.new h5
   ·exact h.wi1 y (List.mem_of_getElem? hjy) b hb
  xl:=λb hb=>Nat.lt_of_lt_of_le (Nat.lt_of_lt_of_le (h4.xl b hb) hs5) kg.size
  fz:=λb hb=>((kg.block b (Nat.lt_of_lt_of_le (h4.xl b (h4.yx b hb)) hs5) (λe=>by have e':b=g1:=e;exact h.w1'.2 (e'▸h.yx b hb))).trans (hk5.block b (h4.xl b (h4.yx b hb)) (λe=>(h.wi1 x hxm b e).2 (h.yx b hb)))).trans (h4.fz b hb)
  kp:=(h4.kp.trans (hk5.mono λi _ e=> .inr (h.wi1 x hxm i e).1)).trans (kg.mono λi _ e=> .inr (by have e':i=g1:=e;rw [e'];exact h.w1'.1)) }
end
def extL(E:List (List Int))(V:List Int)(k:Nat):List (List Int):=(List.zipWith (λr v=>r++ [v]) E V).take k++E.drop k
theorem Xa(E:List (List Int))(V:List Int):extL E V 0=E:=by simp [extL]
theorem Xb{E:List (List Int)}{V:List Int}{n:Nat}(h:V.length=n)(hn:E.length=n):extL E V n=List.zipWith (λr v=>r++ [v]) E V:=by
 unfold extL;rw [List.take_of_length_le (by rw [List.length_zipWith];omega),List.drop_eq_nil_of_le j6,List.append_nil]
theorem Ab7{E:List (List Int)}{V:List Int}(h:V.length=E.length){k:Nat}{r:List Int}(hr:E[k]?=some r):(extL E V k)[k]?=some r:=by
 have hk:=Db hr;unfold extL;rw [List.getElem?_append_right (by rw [List.length_take,List.length_zipWith];omega),List.length_take,List.length_zipWith,List.getElem?_drop,show k+(k-min k (min E.length V.length))=k by omega];exact hr
theorem Ab6{E:List (List Int)}{V:List Int}(h:V.length=E.length){k:Nat}{r:List Int}{v:Int}(hr:E[k]?=some r)(hv:V[k]?=some v):(extL E V k).set k (r++ [v])=extL E V (k+1):=by
 have hk:=Db hr;unfold extL;have hl:((List.zipWith (λr v=>r++ [v]) E V).take k).length=k:=by rw [List.length_take,List.length_zipWith];omega
 rw [List.set_append_right _ _ j6,hl,Nat.sub_self];have hd:E.drop k=r::E.drop (k+1):=Dp hr;have hz:(List.zipWith (λr v=>r++ [v]) E V)[k]?=some (r++ [v]):=by rw [List.getElem?_zipWith,hr,hv]
 rw [hd,List.set_cons_zero,take_snoc' hz,List.append_assoc];rfl
def enS(B j g k:Nat)(vg vx:Value)(jb:Nat)(vb:Value)(gb ob:Nat)(v:Int)(W:World):Prop:=W.cell? ⟨B,j,none⟩=some vg/\W.cell? ⟨g,k,none⟩=some vx/\W.cell? ⟨B,jb,none⟩=some vb/\W.cell? ⟨gb,ob,none⟩=some (.int .i64 v)
theorem enS.keep{B j g k:Nat}{vg vx:Value}{jb:Nat}{vb:Value}{gb ob:Nat}{v:Int}{W W':World}{S:Nat->Prop}(h:enS B j g k vg vx jb vb gb ob v W)(hk:Keeps S W W')(h1:¬S B)(h2:¬S g)(h3:¬S gb):enS B j g k vg vx jb vb gb ob v W':=
 ⟨(hk.cell (Ah h.1) h1).trans h.1,(hk.cell (Ah h.2.1) h2).trans h.2.1,(hk.cell (Ah h.2.2.1) h1).trans h.2.2.1,(hk.cell (Ah h.2.2.2) h3).trans h.2.2.2⟩
def endSt(s:St)(k j:Nat):St:={ s with e0:=extL s.e0 s.p.bal k,e1:=extL s.e1 s.R j }
theorem Ac3{w0:World}{X:Fx}{B:Nat}{t:Tm}{n:Nat}{vt:Value}{L:List Ev}{f0 f2:Value}{s:St}{vl vb vr:Value}{g0 g1:Nat}{S0 S1:List SI}{vo:Value}{P:List SV}{W:World}(h:RunV w0 X B t n vt L f0 .nilFunc f2 s vl vb vr g0 g1 S0 S1 vo P W)(hn:n<=1000)
  (hle0:∀r∈s.e0,r.length<=100000) (hle1:∀r∈s.e1,r.length<=100000):
  Calls Tryz.prog 183 #[(.pointer (some ⟨B,0,none⟩))] W λe W'=>e= .returned (.tuple #[])/\∃S0' S1',RunV w0 X B t n vt L f0 .nilFunc f2 (endSt s n n) vl vb vr g0 g1 S0' S1' vo P W':=by
 obtain⟨i0,hi,hi0,hi1,hi2⟩:=info_parts Gm;obtain⟨ab,cb,rfl⟩:∃a c,vb= .slice a n c:=by obtain⟨a,c,h,_⟩:=Ae h.bal;exact⟨a,c,h⟩
 obtain⟨ar,cr,rfl⟩:∃a c,vr= .slice a n c:=by obtain⟨a,c,h,_⟩:=Ae h.rts;exact⟨a,c,h⟩
 have hl0:s.p.bal.length=s.e0.length:=by rw [h.nb,<-h.l0,List.length_map,h.n0]
 have hl1:s.R.length=s.e1.length:=by rw [h.nr,<-h.l1,List.length_map,h.n1]
 have hst:RunV w0 X B t n vt L f0 .nilFunc f2 (endSt s 0 0) vl (.slice ab n cb) (.slice ar n cr) g0 g1 S0 S1 vo P W:=by
  unfold endSt;rw [Xa,Xa];exact h
 have hbn:=h.nb;have hrn:=h.nr;have he0:s.e0.length=n:=by rw [<-hl0];exact hbn
 have he1:s.e1.length=n:=by rw [<-hl1];exact hrn
 have c13:=Aa h.blk 13;have bl:=lt_of_block h.blk;obtain⟨H,Hi,Hi0,Hi1,Hi2,Hle0,Hle1,Hl0,Hl1⟩:=hid9 h hi hi0 hi1 hi2 hle0 hle1 hl0 hl1;clear hl1 hl0 hle1 hle0 hi2 hi1 hi0 hi h;obtain⟨Hst,Hbn,Hrn,He0,He1⟩:=hid5 hst hbn hrn he0 he1;clear he1 he0 hrn hbn hst;go_enter Tryz.func183,Tryz.ntmps183;go_wp2;clear c13 bl
 go_loopw [8] (λx wx=>∃(k:Nat) (S0' S1':List SI),x= .int .i64 (k:Nat)/\k<=n/\RunV w0 X B t n vt L f0 .nilFunc f2 (endSt s k k) vl (.slice ab n cb) (.slice ar n cr) g0 g1 S0' S1' vo P wx) (λx _=>n-(intOf x).toNat)
 case atStart=>exact⟨0,S0,S1,rfl,Nat.zero_le _,Hst.out⟩
 case round=>
  obtain⟨k,S0',S1',rfl,hkn,hrv⟩:=hrel;obtain⟨wq,hwq⟩:∃x,x=wr:=⟨_,rfl⟩;subst hwq;by_cases hlt:k<n
  ·have hltI:(k:Int)<(n:Int):=j8;obtain⟨r0,hr0⟩:=Aq (L:=s.e0) (k:=k) (by rw [He0.out];exact hlt);obtain⟨r1,hr1⟩:=Aq (L:=s.e1) (k:=k) (by rw [He1.out];exact hlt);obtain⟨v0,hv0⟩:=Aq (L:=s.p.bal) (k:=k) (by rw [Hbn.out];exact hlt);obtain⟨v1,hv1⟩:=Aq (L:=s.R) (k:=k) (by rw [Hrn.out];exact hlt);have hr0:=Lib.hid hr0;have hr1:=Lib.hid hr1;have Hv0:=Lib.hid hv0;have Hv1:=Lib.hid hv1;have hle0:=Hle0;have hle1:=Hle1;clear hv0 hv1;have Hrv:=Lib.hid hrv;clear hrv;obtain⟨⟨ax,cx,Lx⟩,hx⟩:=Aq (L:=S0') (k:=k) (by rw [Hrv.out.n0];exact hlt)
   have hxL:Lx=r0:=by
    have h1:=congrArg (λl=>l[k]?) Hrv.out.l0;simp only [List.getElem?_map,hx,Option.map_some,endSt] at h1;rw [Ab7 Hl0.out hr0.out] at h1
    simpa using h1
   subst hxL;obtain⟨gb,ob,heb,cb0⟩:=(Reads.Az Hrv.out.bal).int (k:= .i64) Hv0.out;subst heb;obtain⟨m,hm⟩:∃m,Lx.length=m:=⟨_,rfl⟩;have hm1:m<=100000:=by rw [<-hm];exact hle0.out _ (List.mem_of_getElem? hr0.out)
   have hxv0:(⟨ax,cx,Lx⟩:SI).v= .slice ax m cx:=by simp only [SI.v,hm]
   have hxm:=List.mem_of_getElem? hx;have hrx:=Hrv.out.i0 _ hxm;rw [hxv0] at hrx;simp only [hm] at hrx;have hS3:enS B 14 g0 k (.slice (some ⟨g0,0,none⟩) n n) (.slice ax m cx) 10 (.slice (some ⟨gb,ob,none⟩) n cb) gb (ob+k) v0 (wq).drew:=(show enS B 14 g0 k (.slice (some ⟨g0,0,none⟩) n n) (.slice ax m cx) 10 (.slice (some ⟨gb,ob,none⟩) n cb) gb (ob+k) v0 (wq) from⟨Aa Hrv.out.blk 14,hxv0▸Sl Hrv.out.o0 hx,Aa Hrv.out.blk 10,cb0⟩).keep (S:=λ_=>False) (Keeps.drew _) (by simp) (by simp) (by simp);have hdb:=Hrv.out.db0 _ hxm;rw [hxv0] at hdb;have cbl:=Ah cb0;clear cb0;obtain⟨Hx,Hm,Hxv0,Hxm,Hrx,HS3,Hdb⟩:=hid7 hx hm hxv0 hxm hrx hS3 hdb;clear hdb hS3 hrx hxm hxv0 hm hx;go_wp2_with fail;refine Ci (enS B 14 g0 k (.slice (some ⟨g0,0,none⟩) n n) (.slice ax m cx) 10 (.slice (some ⟨gb,ob,none⟩) n cb) gb (ob+k) v0) 25 (.take 0 (.take 1 (.take 2 (.take 3 (.take 4 (.take 5 (.take 6 (.take 7 (.take 8 (.take 9 (.take 10 (.take 11 (.take 12 (.take 13 (.take 14 (.take 15 (.take 16 (.take 17 (.take 18 (.take 19 (.take 20 (.take 21 (.move 22 (.move 23 (.take 24 (.move 25 .done)))))))))))))))))))))))))) j9 j9 ?_ ?_
   ·exact HS3.out
   intro w8 hs8 hk8;refine j1x ?_;have hk8a:=hk8.nt (Keeps.alloc w8 (.cells #[.int .i64 v0] 2));have h8a:=Hrv.out.keep0 hk8a;refine Ag rfl (λK hK=> ?_);refine Bv rfl (.tmp 24) (.tmp 33) 50 rfl 0 2 i0 _ 1 8 Tryz.underlying50 Hi.out Hi0.out Hi1.out Hi2.out rfl j7 (.slice ax m cx) m _ rfl (Hrx.out.of_keeps hk8a) _ 1 _ rfl (Reads.litAt _ _ _ 1 1 _ jq rfl) jg jd j6 (Nat.zero_le _) ?_;intro v9 w9 hown9 hk9 hf9;obtain⟨a9,c9,rfl,_,_⟩:=Ae hown9;have hrx8:=Hrx.out.of_keeps hk8a;have o9:=Ad h8a.o0 hk9 (λe=>Ai hrx8 h8a.o0 j7 e);have hsb:¬(Value.slice ax m cx).ownBlock=some B:=λe=>Ai hrx8 h8a.blk j7 e;have hsg:¬(Value.slice ax m cx).ownBlock=some g0:=λe=>Ai hrx8 h8a.o0 j7 e;have hsv:¬(Value.slice ax m cx).ownBlock=some gb:=λe=>(Hdb.out gb e).1 rfl;have hlen:(Lx++ [v0]).length=m+1:=by rw [List.length_append,Hm.out];rfl
   have hxv:(⟨a9,c9,Lx++ [v0]⟩:SI).v= .slice a9 (m+1) c9:=by simp only [SI.v,hlen]
   have hext:=Hrv.out.ext0 (x':=⟨a9,c9,Lx++ [v0]⟩) Hx.out hk8a (by rw [Hxv0.out];exact hk9) (by rw [hxv];show w9.ownsRow 0 _ 1 _ (Lx++ [v0]).length _;rw [hlen];simpa [i64c] using hown9) rfl (by rw [hxv,Hxv0.out];exact hf9);rw [hxv] at hext;simp only [endSt] at hext;rw [Ab6 Hl0.out hr0.out Hv0.out] at hext;replace hext:=(show RunV w0 X B t n vt L f0 .nilFunc f2 (endSt s (k+1) k) vl _ _ g0 g1 _ _ vo P _ from hext);have of9:=Ab o9 k;have oc9:w9.cell? ⟨g0,k,none⟩=some (.slice ax m cx):=by rw [<-Hxv0.out];exact Sl o9 Hx.out
   have ol9:=lt_of_block o9;refine hK.out _ _ j3z ?_;clear hK K;refine ja ?_;obtain⟨O9,Hsb,Hsg,Hsv,Hlen,Hxv,Hext,Hown9,Hk9⟩:=hid9 o9 hsb hsg hsv hlen hxv hext hown9 hk9;clear hk9 hown9 hext hxv hlen hsv hsg hsb o9;obtain⟨Hk8a,Hk8,H8a,Hrx8⟩:=hid4 hk8a hk8 h8a hrx8;clear hrx8 h8a hk8 hk8a;clear hs8 hf9;refine jR ?_;refine jT ?_;clear of9 oc9 ol9 cbl;obtain⟨W0',hW0'⟩:∃x,x=w9.setCell ⟨g0,k,none⟩ (.slice a9 (m+1) c9):=⟨_,rfl⟩;rw [<-hW0'] at Hext⊢;clear hW0';have Hrv2:=Hext;clear Hext Hx Hm Hxv0 Hxm Hrx HS3 Hdb;clear hm1;obtain⟨⟨ax,cx,Lx⟩,hx⟩:=Aq (L:=S1') (k:=k) (by rw [Hrv2.out.n1];exact hlt)
   have hxL:Lx=r1:=by
    have h1:=congrArg (λl=>l[k]?) Hrv2.out.l1;simp only [List.getElem?_map,hx,Option.map_some,endSt] at h1;rw [Ab7 Hl1.out hr1.out] at h1
    simpa using h1
   subst hxL;obtain⟨gb,ob,heb,cb0⟩:=(Reads.Az Hrv2.out.rts).int (k:= .i64) Hv1.out;subst heb;obtain⟨m,hm⟩:∃m,Lx.length=m:=⟨_,rfl⟩;have hm1:m<=100000:=by rw [<-hm];exact hle1.out _ (List.mem_of_getElem? hr1.out)
   have hxv0:(⟨ax,cx,Lx⟩:SI).v= .slice ax m cx:=by simp only [SI.v,hm]
   have hxm:=List.mem_of_getElem? hx;have hrx:=Hrv2.out.i1 _ hxm;rw [hxv0] at hrx;simp only [hm] at hrx;have hS3:enS B 15 g1 k (.slice (some ⟨g1,0,none⟩) n n) (.slice ax m cx) 13 (.slice (some ⟨gb,ob,none⟩) n cr) gb (ob+k) v1 (W0').drew:=(show enS B 15 g1 k (.slice (some ⟨g1,0,none⟩) n n) (.slice ax m cx) 13 (.slice (some ⟨gb,ob,none⟩) n cr) gb (ob+k) v1 (W0') from⟨Aa Hrv2.out.blk 15,hxv0▸Sl Hrv2.out.o1 hx,Aa Hrv2.out.blk 13,cb0⟩).keep (S:=λ_=>False) (Keeps.drew _) (by simp) (by simp) (by simp);have hdb:=Hrv2.out.db1 _ hxm;rw [hxv0] at hdb;have cbl:=Ah cb0;clear cb0;obtain⟨Hx,Hm,Hxv0,Hxm,Hrx,HS3,Hdb⟩:=hid7 hx hm hxv0 hxm hrx hS3 hdb;clear hdb hS3 hrx hxm hxv0 hm hx;go_wp2_with fail;refine Ci (enS B 15 g1 k (.slice (some ⟨g1,0,none⟩) n n) (.slice ax m cx) 13 (.slice (some ⟨gb,ob,none⟩) n cr) gb (ob+k) v1) 24 (.take 0 (.take 1 (.take 2 (.take 3 (.take 4 (.take 5 (.take 6 (.take 7 (.take 8 (.take 9 (.take 10 (.take 11 (.take 12 (.take 13 (.take 14 (.take 15 (.take 16 (.take 17 (.take 18 (.take 19 (.take 20 (.move 21 (.move 22 (.take 23 (.move 24 .done))))))))))))))))))))))))) j9 j9 ?_ ?_
   ·exact HS3.out
   intro w8 hs8 hk8;refine j1x ?_;have hk8a:=hk8.nt (Keeps.alloc w8 (.cells #[.int .i64 v1] 2));have h8a:=Hrv2.out.keep0 hk8a;refine Ag rfl (λK hK=> ?_);refine Bv rfl (.tmp 49) (.tmp 57) 50 rfl 0 2 i0 _ 1 8 Tryz.underlying50 Hi.out Hi0.out Hi1.out Hi2.out rfl j7 (.slice ax m cx) m _ rfl (Hrx.out.of_keeps hk8a) _ 1 _ rfl (Reads.litAt _ _ _ 1 1 _ jq rfl) jg jd j6 (Nat.zero_le _) ?_;intro v9 w9 hown9 hk9 hf9;obtain⟨a9,c9,rfl,_,_⟩:=Ae hown9;have hrx8:=Hrx.out.of_keeps hk8a;have o9:=Ad h8a.o1 hk9 (λe=>Ai hrx8 h8a.o1 j7 e);have hsb:¬(Value.slice ax m cx).ownBlock=some B:=λe=>Ai hrx8 h8a.blk j7 e;have hsg:¬(Value.slice ax m cx).ownBlock=some g1:=λe=>Ai hrx8 h8a.o1 j7 e;have hsv:¬(Value.slice ax m cx).ownBlock=some gb:=λe=>(Hdb.out gb e).2 rfl;have hlen:(Lx++ [v1]).length=m+1:=by rw [List.length_append,Hm.out];rfl
   have hxv:(⟨a9,c9,Lx++ [v1]⟩:SI).v= .slice a9 (m+1) c9:=by simp only [SI.v,hlen]
   have hext:=Hrv2.out.ext1 (x':=⟨a9,c9,Lx++ [v1]⟩) Hx.out hk8a (by rw [Hxv0.out];exact hk9) (by rw [hxv];show w9.ownsRow 0 _ 1 _ (Lx++ [v1]).length _;rw [hlen];simpa [i64c] using hown9) rfl (by rw [hxv,Hxv0.out];exact hf9);rw [hxv] at hext;simp only [endSt] at hext;rw [Ab6 Hl1.out hr1.out Hv1.out] at hext;replace hext:=(show RunV w0 X B t n vt L f0 .nilFunc f2 (endSt s (k+1) (k+1)) vl _ _ g0 g1 _ _ vo P _ from hext);have of9:=Ab o9 k;have oc9:w9.cell? ⟨g1,k,none⟩=some (.slice ax m cx):=by rw [<-Hxv0.out];exact Sl o9 Hx.out
   have ol9:=lt_of_block o9;refine hK.out _ _ j3z ?_;clear hK K;refine ja ?_;obtain⟨O9,Hsb,Hsg,Hsv,Hlen,Hxv,Hext,Hown9,Hk9⟩:=hid9 o9 hsb hsg hsv hlen hxv hext hown9 hk9;clear hk9 hown9 hext hxv hlen hsv hsg hsb o9;obtain⟨Hk8a,Hk8,H8a,Hrx8⟩:=hid4 hk8a hk8 h8a hrx8;clear hrx8 h8a hk8 hk8a;clear hs8 hf9;refine jR ?_;refine jT ?_;clear of9 oc9 ol9 cbl;obtain⟨W1',hW1'⟩:∃x,x=w9.setCell ⟨g1,k,none⟩ (.slice a9 (m+1) c9):=⟨_,rfl⟩;rw [<-hW1'] at Hext⊢;clear hW1';go_wp2_with fail;go_roundw
   case rel=>exact⟨k+1,_,_,by go_num,by omega,Hext.out⟩
   case measure=>simp [intOf];omega
  ·obtain rfl:n=k:=by omega
   have hb18:=Aa hrv.blk 18;have bl:=lt_of_block hrv.blk;have hnil:∀w:World,(binOp .neq 218 .nilFunc .nilFunc).run Tryz.prog w= .ok (.bool false) w:=λ_=>by kernel_rfl
   have Hrv:=Lib.hid hrv;clear hrv;go_wp2;go_end0;exact⟨rfl,_,_,Hrv.out⟩
section
variable {w0:World} {X:Fx} {B:Nat} {t:Tm} {n:Nat} {vt:Value} {L:List Ev} {f0 f1 f2:Value} {s:St} {vl vb vr:Value} {g0 g1:Nat} {S0 S1:List SI} {vo:Value} {P:List SV} {W W':World}
theorem RunV.upd(h:RunV w0 X B t n vt L f0 f1 f2 s vl vb vr g0 g1 S0 S1 vo P W){W2:World}(hk0:Keeps (λ_=>False) W W2)(hk:Keeps (λi=>i=B) W2 W'){i':Nat}{day':Int}{p':Ps}{R':List Int}{vb' vr':Value}
  (hb:W'.heap[B]?=some (.cells #[.int .i64 t.limit,vt,.int .i64 t.cyc,.int .i64 t.due,.int .i64 t.minFixed,.int .i64 t.minPart,.int .i64 t.start,vl,.int .i64 (i':Nat),.int .i64 day',vb',.int .i64 p'.cr,.int .i64 p'.du,vr',.slice (some ⟨g0,0,none⟩) n n,.slice (some ⟨g1,0,none⟩) n n,vo,f0,f1,f2] 250 (0,0)))
  (hvb:W2.ownsRow 0 2 1 vb' n (p'.bal.flatMap i64c)) (hvr:W2.ownsRow 0 2 1 vr' n (R'.flatMap i64c)) (hnb:p'.bal.length=n) (hnr:R'.length=n)
  (qb:vb'=vb\/∀b,vb'.ownBlock=some b->W.heap.size<=b) (qr:vr'=vr\/∀b,vr'.ownBlock=some b->W.heap.size<=b):
  RunV w0 X B t n vt L f0 f1 f2 { s with i:=i',day:=day',p:=p',R:=R' } vl vb' vr' g0 g1 S0 S1 vo P W':=by
 have h2:=h.keep0 hk0;have hne:∀{e:TypeId} {sz m:Nat} {v:Value} {xs:List Value},W2.ownsRow 0 e sz v m xs->250≠e->∀i,v.ownBlock=some i->¬i=B:=λhr hne i hi e=>by subst e;exact Ai hr h2.blk hne hi
 have nog:∀{g:Nat} {c:Array Value},W2.heap[g]?=some (.cells c 50 (0,0))->¬g=B:=λhg e=>by
  subst e;have h1:=h2.blk;rw [hg] at h1;exact j0o
 exact { h2 with
  blk:=hb
  trs:=h2.trs.keeps hk (λi hi e=>by have e':i=B:=e;have:=(h.wt i hi).1;have:=h.wB.1;omega)
  evs:=hk.row h2.evs (hne h2.evs j7)
  bal:=hk.row hvb (hne hvb j7)
  rts:=hk.row hvr (hne hvr j7)
  o0:=Ad h2.o0 hk (nog h2.o0)
  o1:=Ad h2.o1 hk (nog h2.o1)
  i0:=λx hx=>hk.row (h2.i0 x hx) (hne (h2.i0 x hx) j7)
  i1:=λx hx=>hk.row (h2.i1 x hx) (hne (h2.i1 x hx) j7)
  out:=hk.row h2.out (hne h2.out j7)
  ln:=λx hx=>hk.row (h2.ln x hx) (hne (h2.ln x hx) j7)
  nb:=hnb
  nr:=hnr
  db0:=λx hx b hb=>⟨λe=>by
   rcases qb with rfl|qb
   ·exact(h.db0 x hx b hb).1 e
   ·have:=qb b e;have:=Cj (h.i0 x hx) hb;omega,λe=>by
   rcases qr with rfl|qr
   ·exact(h.db0 x hx b hb).2 e
   ·have:=qr b e;have:=Cj (h.i0 x hx) hb;omega⟩
  db1:=λx hx b hb=>⟨λe=>by
   rcases qb with rfl|qb
   ·exact(h.db1 x hx b hb).1 e
   ·have:=qb b e;have:=Cj (h.i1 x hx) hb;omega,λe=>by
   rcases qr with rfl|qr
   ·exact(h.db1 x hx b hb).2 e
   ·have:=qr b e;have:=Cj (h.i1 x hx) hb;omega⟩
  wb:=by
   rcases qb with rfl|qb
   ·exact h.wb
   ·exact h.ownN qb
  wr:=by
   rcases qr with rfl|qr
   ·exact h.wr
   ·exact h.ownN qr
  xl:=λb hb=>Nat.lt_of_lt_of_le (h2.xl b hb) hk.size
  fz:=λb hb=>(hk.block b (h2.xl b (h2.yx b hb)) (λe=>by have e':b=B:=e;exact h.wB.2 (e'▸h.yx b hb))).trans (h2.fz b hb)
  kp:=h2.kp.trans (hk.mono λi _ e=> .inr (by have e':i=B:=e;rw [e'];exact h.wB.1)) }
theorem RunV.setI(h:RunV w0 X B t n vt L f0 f1 f2 s vl vb vr g0 g1 S0 S1 vo P W)(i':Nat):RunV w0 X B t n vt L f0 f1 f2 { s with i:=i' } vl vb vr g0 g1 S0 S1 vo P (W.setCell ⟨B,8,none⟩ (.int .i64 (i':Nat))):=
 h.upd (Keeps.refl _ _) (Keeps.setCell _ _ _ rfl) ((heap_setCell_same _ _ 8 _ _ _ h.blk).trans rfl) h.bal h.rts h.nb h.nr (.inl rfl) (.inl rfl)
theorem RunV.setDay(h:RunV w0 X B t n vt L f0 f1 f2 s vl vb vr g0 g1 S0 S1 vo P W)(d:Int):RunV w0 X B t n vt L f0 f1 f2 { s with day:=d } vl vb vr g0 g1 S0 S1 vo P (W.setCell ⟨B,9,none⟩ (.int .i64 d)):=
 h.upd (Keeps.refl _ _) (Keeps.setCell _ _ _ rfl) ((heap_setCell_same _ _ 9 _ _ _ h.blk).trans rfl) h.bal h.rts h.nb h.nr (.inl rfl) (.inl rfl)
theorem RunV.setP(h:RunV w0 X B t n vt L f0 f1 f2 s vl vb vr g0 g1 S0 S1 vo P W){W2:World}(hk0:Keeps (λ_=>False) W W2){p':Ps}{R':List Int}{vb' vr':Value}
  (hvb:W2.ownsRow 0 2 1 vb' n (p'.bal.flatMap i64c)) (hvr:W2.ownsRow 0 2 1 vr' n (R'.flatMap i64c)) (hnb:p'.bal.length=n) (hnr:R'.length=n)
  (qb:∀b,vb'.ownBlock=some b->W.heap.size<=b) (qr:∀b,vr'.ownBlock=some b->W.heap.size<=b):
  RunV w0 X B t n vt L f0 f1 f2 { s with p:=p',R:=R' } vl vb' vr' g0 g1 S0 S1 vo P ((((W2.setCell ⟨B,10,none⟩ vb').setCell ⟨B,11,none⟩ (.int .i64 p'.cr)).setCell ⟨B,12,none⟩ (.int .i64 p'.du)).setCell ⟨B,13,none⟩ vr'):=by
 have hb2:=(h.keep0 hk0).blk;have h10:=(heap_setCell_same _ _ 10 _ _ vb' hb2).trans rfl;have h11:=(heap_setCell_same _ _ 11 _ _ (.int .i64 p'.cr) h10).trans rfl;have h12:=(heap_setCell_same _ _ 12 _ _ (.int .i64 p'.du) h11).trans rfl;have h13:=(heap_setCell_same _ _ 13 _ _ vr' h12).trans rfl
 have k:Keeps (λi=>i=B) W2 ((((W2.setCell ⟨B,10,none⟩ vb').setCell ⟨B,11,none⟩ (.int .i64 p'.cr)).setCell ⟨B,12,none⟩ (.int .i64 p'.du)).setCell ⟨B,13,none⟩ vr'):=
  (((Keeps.setCell (S:=λi=>i=B) _ _ _ rfl).trans (Keeps.setCell _ _ _ (.inl rfl))).trans (Keeps.setCell _ _ _ (.inl rfl))).trans (Keeps.setCell _ _ _ (.inl rfl))
 exact h.upd hk0 k h13 hvb hvr hnb hnr (.inr qb) (.inr qr)
end
theorem payL_len{B R:List Int}{du a:Int}:(payL B R du a).1.length=B.length:=by
 unfold payL;simp only [List.length_zipWith,Dg];omega
theorem Xk{p:Ps}{R:List Int}{e:Ev}(h:(Dt p R e).2.2=0):(Dt p R e).1.bal.length=p.bal.length/\(Dt p R e).2.1.length=R.length/\(Dt p R e).1.Bg=true/\(∀x∈(Dt p R e).2.1,0<=x/\x<=10000000):=by
 unfold Dt at h⊢;rcases hm:mayA p R e with _|_
 ·rw [hm,if_neg j7] at h;cases h
 rw [hm,if_pos rfl] at h;rw [if_pos rfl];have hmo:=mayA_ok hm;by_cases hq:(Fw p R e).2=0
 ·rw [if_pos hq] at h⊢;refine⟨?_, ?_, ?_, ?_⟩
  ·show(Fw p R e).1.bal.length=_;unfold Fw at hq⊢
   split at hq
   ·rename_i hk;rw [if_pos hk];unfold Ji at hq⊢
    split at hq
    ·rename_i ha;rw [if_pos ha]
     split at hq
     ·rename_i hr;rw [if_pos hr];simp [Gg]
     ·cases hq
    ·rename_i ha;exact absurd hq ha
   ·rename_i hk;rw [if_neg hk]
    split at hq
    ·rename_i hk2;rw [if_pos hk2];unfold payR at hq⊢
     split at hq
     ·rename_i ha;rw [if_pos ha]
      split at hq
      ·rename_i hr;rw [if_pos hr];simp only [payP,List.length_zipWith,payL_len];omega
      ·cases hq
     ·rename_i ha;exact absurd hq ha
    ·rename_i hk2;rw [if_neg hk2]
     split at hq
     ·rename_i hk3;rw [if_pos hk3];unfold giveR at hq⊢
      split at hq
      ·rename_i ha;rw [if_pos ha]
       split at hq
       ·rename_i hr;rw [if_pos hr];simp only [giveP,List.length_zipWith,Dg];omega
       ·cases hq
      ·rename_i ha;exact absurd hq ha
     ·rename_i hk3;rw [if_neg hk3]
  ·show(Fv R e).length=_;unfold Fv;split<;>simp
  ·show(Fw p R e).1.Bg=true;unfold Fw at hq⊢
   split at hq
   ·rename_i hk;rw [if_pos hk];unfold Ji at hq⊢;exact j1G
   ·rename_i hk;rw [if_neg hk]
    split at hq
    ·rename_i hk2;rw [if_pos hk2];unfold payR at hq⊢;exact j1G
    ·rename_i hk2;rw [if_neg hk2]
     split at hq
     ·rename_i hk3;rw [if_pos hk3];unfold giveR at hq⊢;exact j1G
     ·rename_i hk3;rw [if_neg hk3];exact hmo.pr
  ·show∀x∈Fv R e,_;intro x hx;unfold Fv at hx
   split at hx
   ·rename_i hk;rcases List.mem_or_eq_of_mem_set hx with h1|rfl
    ·exact hmo.rt x h1
    ·exact hmo.am hk
   ·exact hmo.rt x hx
 ·rw [if_neg hq] at h;exact absurd h hq
def evR(day:Int):List Ev->Nat->Ps->List Int->Nat×Ps×List Int×Int
 | [],i,p,R=>(i,p,R,0)
 |e::M,i,p,R=>if e.day=day then(if(Dt p R e).2.2=0 then evR day M (i+1) (Dt p R e).1 (Dt p R e).2.1 else(i,p,R,(Dt p R e).2.2)) else(i,p,R,0)
def evS(B:Nat)(vl:Value)(i:Int)(day:Int)(W:World):Prop:=W.cell? ⟨B,7,none⟩=some vl/\W.cell? ⟨B,8,none⟩=some (.int .i64 i)/\W.cell? ⟨B,9,none⟩=some (.int .i64 day)
def evS2(B:Nat)(vl:Value)(i:Int)(day:Int)(g o:Nat)(d:Int)(W:World):Prop:=W.cell? ⟨B,7,none⟩=some vl/\W.cell? ⟨B,8,none⟩=some (.int .i64 i)/\W.cell? ⟨B,9,none⟩=some (.int .i64 day)/\W.cell? ⟨g,o,none⟩=some (.int .i64 d)
def evS3(B:Nat)(vl vb vr:Value)(i cr du:Int)(g o:Nat)(ki da tr am re:Int)(W:World):Prop:=W.cell? ⟨B,7,none⟩=some vl/\W.cell? ⟨B,8,none⟩=some (.int .i64 i)/\W.cell? ⟨B,10,none⟩=some vb/\W.cell? ⟨B,11,none⟩=some (.int .i64 cr)/\W.cell? ⟨B,12,none⟩=some (.int .i64 du)/\W.cell? ⟨B,13,none⟩=some vr/\
 W.cell? ⟨g,o,none⟩=some (.int .i64 ki)/\W.cell? ⟨g,o+1,none⟩=some (.int .i64 da)/\W.cell? ⟨g,o+2,none⟩=some (.int .i64 tr)/\W.cell? ⟨g,o+3,none⟩=some (.int .i64 am)/\W.cell? ⟨g,o+4,none⟩=some (.int .i64 re)
theorem evS3.keep{B:Nat}{vl vb vr:Value}{i cr du:Int}{g o:Nat}{ki da tr am re:Int}{W W':World}(h:evS3 B vl vb vr i cr du g o ki da tr am re W)(hk:Keeps (λ_=>False) W W'):evS3 B vl vb vr i cr du g o ki da tr am re W':=by
 obtain⟨h1,h2,h3,h4,h5,h6,h7,h8,h9,h10,h11⟩:=h;refine j0p ?_;intro k;exact⟨k h1,k h2,k h3,k h4,k h5,k h6,k h7,k h8,k h9,k h10,k h11⟩
def evSt(s:St)(z:Nat×Ps×List Int×Int):St:={ s with i:=z.1,p:=z.2.1,R:=z.2.2.1 }
theorem Vl{w0:World}{X:Fx}{B:Nat}{t:Tm}{n:Nat}{vt:Value}{L:List Ev}{f1 f2:Value}{s:St}{vl vb vr:Value}{g0 g1:Nat}{S0 S1:List SI}{vo:Value}{P:List SV}{W:World}(h:RunV w0 X B t n vt L .nilFunc f1 f2 s vl vb vr g0 g1 S0 S1 vo P W)(hn:n<=1000)
  (hl:L.length<=1000000) (hi:s.i<=L.length) (Z:Nat×Ps×List Int×Int) (hZ:evR s.day (L.drop s.i) s.i s.p s.R=Z):
  Calls Tryz.prog 182 #[(.pointer (some ⟨B,0,none⟩))] W λe W'=>e= .returned (.int .i64 Z.2.2.2)/\∃vb' vr',RunV w0 X B t n vt L .nilFunc f1 f2 (evSt s Z) vl vb' vr' g0 g1 S0 S1 vo P W':=by
 obtain⟨N,hN⟩:∃N,L.length=N:=⟨_,rfl⟩;obtain⟨adl,cl,rfl⟩:∃a c,vl= .slice a N c:=by obtain⟨a,c,h,_⟩:=Ae h.evs;rw [hN] at h;exact⟨a,c,h⟩
 rw [hN] at hl hi;have hnil:∀w:World,(binOp .neq 217 .nilFunc .nilFunc).run Tryz.prog w= .ok (.bool false) w:=λ_=>by kernel_rfl
 obtain⟨H,HN,HZ,Hnil⟩:=hid4 h hN hZ hnil;clear hnil hZ hN h;go_enter Tryz.func182,Tryz.ntmps182;go_wp2
 go_loopw [2] (λx wx=>∃(i:Nat) (p:Ps) (R:List Int) (vb vr:Value),x= .int .i64 0/\i<=N/\evR s.day (L.drop i) i p R=Z/\RunV w0 X B t n vt L .nilFunc f1 f2 { s with i:=i,p:=p,R:=R } (.slice adl N cl) vb vr g0 g1 S0 S1 vo P wx) (λ_ wx=>N-(Cz wx B 8).toNat)
 case atStart=>exact⟨s.i,s.p,s.R,vb,vr,rfl,hi,HZ.out,H.out⟩
 case round=>
  obtain⟨i,p,R,vbi,vri,rfl,hin,hev,hrv⟩:=hrel;obtain⟨wq,hwq⟩:∃x,x=wr:=⟨_,rfl⟩;subst hwq;have hci:Cz wq B 8=(i:Int):=Dc (Aa hrv.blk 8);have b7:=Aa hrv.blk 7;have b8:=Aa hrv.blk 8;have b9:=Aa hrv.blk 9;by_cases hlt:i<N
  ·have hltI:decide ((i:Int)<(N:Int))=true:=by rw [decide_eq_true_iff];omega
   have hltJ:(i:Int)<(N:Int):=j8;obtain⟨⟨ki,da,tr,am,re⟩,hx⟩:=Aq (L:=L) (k:=i) j0l;obtain⟨g,o,c,he,hc⟩:=(Reads.Az hrv.evs).elem Ev.Aj hx j7;rw [HN.out] at he;simp only [Value.slice.injEq,true_and] at he;obtain⟨rfl,rfl⟩:=he;have x0:wq.cell? ⟨g,o+i*5,none⟩=some (.int .i64 ki):=hc 0 j7;have x1:wq.cell? ⟨g,o+i*5+1,none⟩=some (.int .i64 da):=hc 1 j7;have x2:wq.cell? ⟨g,o+i*5+2,none⟩=some (.int .i64 tr):=hc 2 j7;have x3:wq.cell? ⟨g,o+i*5+3,none⟩=some (.int .i64 am):=hc 3 j7;have x4:wq.cell? ⟨g,o+i*5+4,none⟩=some (.int .i64 re):=hc 4 j7;clear hc
   have hdr:evR s.day (L.drop i) i p R=if da=s.day then(if(Dt p R ⟨ki,da,tr,am,re⟩).2.2=0 then evR s.day (L.drop (i+1)) (i+1) (Dt p R ⟨ki,da,tr,am,re⟩).1 (Dt p R ⟨ki,da,tr,am,re⟩).2.1 else(i,p,R,(Dt p R ⟨ki,da,tr,am,re⟩).2.2)) else(i,p,R,0):=by
    rw [Dp hx];rfl
   rw [hdr] at hev;have hS:evS2 B (.slice (some ⟨g,o,none⟩) N cl) i s.day g (o+i*5+1) da wq:=⟨b7,b8,b9,x1⟩;have hS':evS2 B (.slice (some ⟨g,o,none⟩) N cl) i s.day g (o+i*5+1) da wq.drew:=hS;clear b7 b8 b9;by_cases hd:da=s.day
   ·have hdI:(da==s.day)=true:=by simp [hd]
    rw [if_pos hd] at hev;obtain⟨ab,cb,rfl⟩:∃a c,vbi= .slice a n c:=by obtain⟨a,c,h,_⟩:=Ae hrv.bal;exact⟨a,c,h⟩
    obtain⟨ar,cr2,rfl⟩:∃a c,vri= .slice a n c:=by obtain⟨a,c,h,_⟩:=Ae hrv.rts;exact⟨a,c,h⟩
    obtain⟨A,hA⟩:∃A,Dt p R ⟨ki,da,tr,am,re⟩=A:=⟨_,rfl⟩;have hok:=Xk (p:=p) (R:=R) (e:=⟨ki,da,tr,am,re⟩);rw [hA] at hev hok;obtain⟨bal,pc,pd⟩:=p;have hcall:=λW (hW:Keeps (λ_=>False) wq W)=>Xw bal R pc pd ki da tr am re ab ar cb cr2 n n W ((Reads.Az hrv.bal).keeps hW (by simp)) hrv.nb hn ((Reads.Az hrv.rts).keeps hW (by simp)) hrv.nr hn;rw [hA] at hcall;obtain⟨Hrv,Hev,Hx,Hdr,HS,HS',Hd,Hci,HA⟩:=hid9 hrv hev hx hdr hS hS' hd hci hA;clear hA hci hd hS' hS hdr hx hev hrv;obtain⟨Hok,Hcall,X0,X1,X2,X3,X4⟩:=hid7 hok hcall x0 x1 x2 x3 x4;clear x4 x3 x2 x1 x0 hcall hok;go_wp2_with fail;refine Al (evS2 B (.slice (some ⟨g,o,none⟩) N cl) i s.day g (o+i*5+1) da) (.take 0 (.take 1 (.take 2 (.take 3 (.take 4 (.take 5 (.take 6 (.take 7 (.take 8 (.take 9 (.take 10 (.take 11 (.take 12 (.take 13 (.take 14 (.take 15 (.take 16 (.take 17 (.take 18 (.take 19 (.take 20 (.take 21 (.take 22 (.take 23 (.take 24 (.take 25 (.take 26 (.take 27 .done)))))))))))))))))))))))))))) j9 j9 ?_ ?_
    ·exact HS'.out
    intro w1 hs1 hk1;refine jn ?_;have hrv1:=Hrv.out.keep0 hk1;have b10:=Aa hrv1.blk 10;have b11:=Aa hrv1.blk 11;have b12:=Aa hrv1.blk 12;have bl:=lt_of_block hrv1.blk;have hk1x:=hk1.Af (o:= .cells #[.slice ab n cb,.int .i64 pc,.int .i64 pd] 52);have hrv1x:=Hrv.out.keep0 hk1x;have hkk:∀{p:Addr} {u:Value},wq.cell? p=some u->(w1.alloc (.cells #[.slice ab n cb,.int .i64 pc,.int .i64 pd] 52)).cell? p=some u:=λhc=>(hk1x.cell (Ah hc) (by simp)).trans hc
    have hS3:evS3 B (.slice (some ⟨g,o,none⟩) N cl) (.slice ab n cb) (.slice ar n cr2) i pc pd g (o+i*5) ki da tr am re (w1.alloc (.cells #[.slice ab n cb,.int .i64 pc,.int .i64 pd] 52)).drew:=
     (show evS3 B (.slice (some ⟨g,o,none⟩) N cl) (.slice ab n cb) (.slice ar n cr2) i pc pd g (o+i*5) ki da tr am re (w1.alloc (.cells #[.slice ab n cb,.int .i64 pc,.int .i64 pd] 52)) from⟨Aa hrv1x.blk 7,Aa hrv1x.blk 8,Aa hrv1x.blk 10,Aa hrv1x.blk 11,Aa hrv1x.blk 12,Aa hrv1x.blk 13,hkk X0.out,hkk X1.out,hkk X2.out,hkk X3.out,hkk X4.out⟩).keep (Keeps.drew _)
    clear hs1 hkk;obtain⟨Hk1,Hrv1,Hk1x,Hrv1x,HS3⟩:=hid5 hk1 hrv1 hk1x hrv1x hS3;clear hS3 hrv1x hk1x hrv1 hk1;go_wp2_with fail;refine Al (evS3 B (.slice (some ⟨g,o,none⟩) N cl) (.slice ab n cb) (.slice ar n cr2) i pc pd g (o+i*5) ki da tr am re) (.take 0 (.take 1 (.take 2 (.take 3 (.take 4 (.take 5 (.take 6 (.take 7 (.take 8 (.take 9 (.take 10 (.take 11 (.take 12 (.take 13 (.take 14 (.take 15 (.take 16 (.take 17 (.fork 18 (.take 19 (.take 20 (.take 21 (.take 22 (.move 23 (.move 24 (.take 25 (.take 26 .done)))))))) 23 (.move 18 (.take 19 (.take 20 (.take 21 (.take 22 (.move 24 (.take 25 (.take 26 .done))))))))))))))))))))))))))) j9 j9 ?_ ?_
    ·exact HS3.out
    intro w2 hs2 hk2;refine jR ?_;obtain⟨q,R',z⟩:=A;refine Dn ?_ ?_ hs2
    ·skip
     refine jc ?_;intro K hK
     go_at_call 218
     ((with_reducible refine(Hcall.out _ (Hk1x.out.nt hk2)).mono ?_);rintro e w5 ⟨vb',vr',rfl,hrb,hrr,hk5,hgb,hgr⟩;dsimp only)
     obtain⟨a5,c5,rfl⟩:∃a c,vb'= .slice a q.bal.length c:=by obtain⟨a,c,h,_⟩:=Ae hrb;exact⟨a,c,h⟩
     obtain⟨a6,c6,rfl⟩:∃a c,vr'= .slice a R'.length c:=by obtain⟨a,c,h,_⟩:=Ae hrr;exact⟨a,c,h⟩
     refine hK.out _ _ (by exact hs2.keep hk5) ?_;clear hK K;refine jh ?_;refine jc ?_;intro K hK;refine hK.out _ _ (by exact hs2.keep (hk5.Af)) ?_;clear hK K;refine ja ?_;obtain⟨w6,hw6⟩:∃x,x=w5.alloc (.cells #[.slice none 0 0,.int .i64 0,.int .i64 0] 52):=⟨_,rfl⟩;have hbx5:w6.heap[w5.heap.size]?=some (.cells #[.slice none 0 0,.int .i64 0,.int .i64 0] 52 (0,0)):=by rw [hw6];exact heap_alloc_new w5 _
     have k56:Keeps (λ_=>False) w5 w6:=by rw [hw6];exact Keeps.alloc _ _
     rw [<-hw6];clear hw6;have k26:=hk5.nt k56;have hb4n:w2.heap.size<=w5.heap.size:=hk5.size;have hqs:wq.heap.size<=w2.heap.size:=(Hk1x.out.nt hk2).size;have hneb:∀b,(Value.slice a5 q.bal.length c5).ownBlock=some b->¬b=w5.heap.size:=λb hb e=>by have:=Cj hrb hb;omega
     have hner:∀b,(Value.slice a6 R'.length c6).ownBlock=some b->¬b=w5.heap.size:=λb hb e=>by have:=Cj hrr hb;omega
     have hrb5:=hrb.of_keeps k56;have hrr5:=hrr.of_keeps k56;have hgb6:∀b,(Value.slice a5 q.bal.length c5).ownBlock=some b->wq.heap.size<=b:=λb hb=>by have:=hgb b hb;omega
     have hgr6:∀b,(Value.slice a6 R'.length c6).ownBlock=some b->wq.heap.size<=b:=λb hb=>by have:=hgr b hb;omega
     obtain⟨b4,hb4⟩:∃x,x=w5.heap.size:=⟨_,rfl⟩;rw [<-hb4] at hbx5 hb4n hneb hner⊢;clear hb4 hrb hrr hgb hgr k56 hk5;exact j3A
    ·skip
     refine jc ?_;intro K hK;refine hK.out _ _ (by exact hs2.keep (Keeps.alloc _ _)) ?_;clear hK K;refine ja ?_;refine jc ?_;intro K hK
     go_at_call 218
     ((with_reducible refine(Hcall.out _ ((Hk1x.out.nt hk2).Af)).mono ?_);rintro e w5 ⟨vb',vr',rfl,hrb,hrr,hk5,hgb,hgr⟩;dsimp only)
     obtain⟨a5,c5,rfl⟩:∃a c,vb'= .slice a q.bal.length c:=by obtain⟨a,c,h,_⟩:=Ae hrb;exact⟨a,c,h⟩
     obtain⟨a6,c6,rfl⟩:∃a c,vr'= .slice a R'.length c:=by obtain⟨a,c,h,_⟩:=Ae hrr;exact⟨a,c,h⟩
     refine hK.out _ _ (by exact(hs2.keep (Keeps.alloc _ _)).keep hk5) ?_;clear hK K;refine jh ?_;have hbx5:=Ad (heap_alloc_new w2 (.cells #[.slice none 0 0,.int .i64 0,.int .i64 0] 52)) hk5 (by simp);have k26:=(Keeps.alloc (S:=λ_=>False) w2 (.cells #[.slice none 0 0,.int .i64 0,.int .i64 0] 52)).nt hk5;have hb4n:w2.heap.size<=w2.heap.size:=Nat.le_refl _;have hqs:wq.heap.size<=w2.heap.size:=(Hk1x.out.nt hk2).size;have hneb:∀b,(Value.slice a5 q.bal.length c5).ownBlock=some b->¬b=w2.heap.size:=λb hb e=>by have:=hgb b hb;simp at this;omega
     have hner:∀b,(Value.slice a6 R'.length c6).ownBlock=some b->¬b=w2.heap.size:=λb hb e=>by have:=hgr b hb;simp at this;omega
     have hgb6:∀b,(Value.slice a5 q.bal.length c5).ownBlock=some b->wq.heap.size<=b:=λb hb=>by have:=hgb b hb;simp at this;omega
     have hgr6:∀b,(Value.slice a6 R'.length c6).ownBlock=some b->wq.heap.size<=b:=λb hb=>by have:=hgr b hb;simp at this;omega
     have hrb5:=hrb;have hrr5:=hrr;obtain⟨w6,hw6⟩:∃x,x=w5:=⟨_,rfl⟩;obtain⟨b4,hb4⟩:∃x,x=w2.heap.size:=⟨_,rfl⟩;rw [<-hb4] at hbx5 hneb hner⊢;rw [<-hw6] at hbx5 k26 hrb5 hrr5⊢;replace hb4n:w2.heap.size<=b4:=by rw [hb4];exact Nat.le_refl _
     clear hb4 hw6 hrb hrr hgb hgr hk5;exact j3A
   ·have hdI:(da==s.day)=false:=beq_eq_false_iff_ne.2 hd;rw [if_neg hd] at hev;subst hev;obtain⟨Hrv,Hx,Hdr,HS,HS',Hd,Hci,X0,X1⟩:=hid9 hrv hx hdr hS hS' hd hci x0 x1;clear x1 x0 hci hd hS' hS hdr hx hrv;obtain⟨X2,X3,X4⟩:=hid3 x2 x3 x4;clear x4 x3 x2;go_wp2_with fail;refine Al (evS2 B (.slice (some ⟨g,o,none⟩) N cl) i s.day g (o+i*5+1) da) (.take 0 (.take 1 (.take 2 (.take 3 (.take 4 (.take 5 (.take 6 (.take 7 (.take 8 (.take 9 (.take 10 (.take 11 (.take 12 (.take 13 (.take 14 (.take 15 (.take 16 (.take 17 (.take 18 (.take 19 (.take 20 (.take 21 (.take 22 (.take 23 (.take 24 (.take 25 (.take 26 (.take 27 .done)))))))))))))))))))))))))))) j9 j9 ?_ ?_
    ·exact HS'.out
    intro w1 hs1 hk1;exact j3B
  ·obtain rfl:N=i:=by omega
   have hltI:decide ((N:Int)<(N:Int))=false:=by simp
   rw [List.drop_eq_nil_of_le j1h] at hev;simp only [evR] at hev;subst hev;have hS':evS B (.slice adl N cl) N s.day wq.drew:=(show evS B (.slice adl N cl) N s.day wq from⟨b7,b8,b9⟩);clear b7 b8 b9;obtain⟨Hrv,HS',Hci⟩:=hid3 hrv hS' hci;clear hci hS' hrv;go_wp2_with fail;refine Al (evS B (.slice adl N cl) N s.day) (.take 0 (.take 1 (.take 2 (.take 3 (.take 4 (.take 5 (.take 6 (.take 7 (.take 8 (.take 9 (.take 10 (.take 11 (.take 12 (.take 13 (.take 14 (.take 15 (.take 16 (.take 17 (.take 18 (.take 19 (.take 20 (.take 21 (.take 22 (.take 23 (.take 24 (.take 25 (.take 26 (.take 27 .done)))))))))))))))))))))))))))) j9 j9 ?_ ?_
   ·exact HS'.out
   intro w1 hs1 hk1;exact j3B
def freeB(out:List Stm)(fr:Int)(L:List Ev):Bool:=match out.getLast? with
 |none=>true
 |some x=>hasB x.total fr x.due L
def frS1(B:Nat)(vo:Value)(g o:Nat)(cy fr te du:Int)(vl:Value)(tt cr mi:Int)(gr:Bool)(W:World):Prop:=W.cell? ⟨B,16,none⟩=some vo/\W.cell? ⟨g,o,none⟩=some (.int .i64 cy)/\W.cell? ⟨g,o+1,none⟩=some (.int .i64 fr)/\W.cell? ⟨g,o+2,none⟩=some (.int .i64 te)/\W.cell? ⟨g,o+3,none⟩=some (.int .i64 du)/\W.cell? ⟨g,o+4,none⟩=some vl/\W.cell? ⟨g,o+5,none⟩=some (.int .i64 tt)/\W.cell? ⟨g,o+6,none⟩=some (.int .i64 cr)/\W.cell? ⟨g,o+7,none⟩=some (.int .i64 mi)/\W.cell? ⟨g,o+8,none⟩=some (.bool gr)
theorem frS1.keep{B:Nat}{vo:Value}{g o:Nat}{cy fr te du:Int}{vl:Value}{tt cr mi:Int}{gr:Bool}{W W':World}(h:frS1 B vo g o cy fr te du vl tt cr mi gr W)(hk:Keeps (λ_=>False) W W'):frS1 B vo g o cy fr te du vl tt cr mi gr W':=by
 obtain⟨h1,h2,h3,h4,h5,h6,h7,h8,h9,h10⟩:=h;refine j0p ?_;intro k;exact⟨k h1,k h2,k h3,k h4,k h5,k h6,k h7,k h8,k h9,k h10⟩
def frS2(B b3 b6:Nat)(vl:Value)(tt fr du:Int)(W:World):Prop:=W.cell? ⟨B,7,none⟩=some vl/\W.cell? ⟨b3,0,none⟩=some (.int .i64 fr)/\W.cell? ⟨b6,5,none⟩=some (.int .i64 tt)/\W.cell? ⟨b6,3,none⟩=some (.int .i64 du)
theorem frS2.keep{B b3 b6:Nat}{vl:Value}{tt fr du:Int}{W W':World}(h:frS2 B b3 b6 vl tt fr du W)(hk:Keeps (λ_=>False) W W'):frS2 B b3 b6 vl tt fr du W':=by
 obtain⟨h1,h2,h3,h4⟩:=h;refine j0p ?_;intro k;exact⟨k h1,k h2,k h3,k h4⟩
theorem Aa1{w0:World}{X:Fx}{B:Nat}{t:Tm}{n:Nat}{vt:Value}{L:List Ev}{f0 f1 f2:Value}{s:St}{vl vb vr:Value}{g0 g1:Nat}{S0 S1:List SI}{vo:Value}{P:List SV}{W:World}(h:RunV w0 X B t n vt L f0 f1 f2 s vl vb vr g0 g1 S0 S1 vo P W)
  (hl:L.length<=1000000) (hm:s.out.length<=1000) (hok:∀x∈L,x.kind=2->0<=x.amount/\x.amount<=1000000000000000) (fr te:Int):
  Calls Tryz.prog 219 #[(.pointer (some ⟨B,0,none⟩)),.agg #[.int .i64 fr,.int .i64 te]] W λe W'=>e= .returned (.tuple #[.bool (freeB s.out fr L),.int .i64 0])/\Keeps (λ_=>False) W W':=by
 obtain⟨N,hN⟩:∃N,L.length=N:=⟨_,rfl⟩;obtain⟨adl,cl,rfl⟩:∃a c,vl= .slice a N c:=by obtain⟨a,c,h,_⟩:=Ae h.evs;rw [hN] at h;exact⟨a,c,h⟩
 obtain⟨m,hmm⟩:∃m,P.length=m:=⟨_,rfl⟩;obtain⟨av,cv,rfl⟩:∃a c,vo= .slice a m c:=by obtain⟨a,c,h,_⟩:=Ae h.out;rw [hmm] at h;exact⟨a,c,h⟩
 have hpo:s.out.length=m:=by rw [<-h.lp,List.length_map];exact hmm
 have b16:=Aa h.blk 16;have bl:=lt_of_block h.blk;rw [hN] at hl;rw [hpo] at hm;by_cases h0:m=0
 ·subst h0
  have hf:freeB s.out fr L=true:=by
   have:s.out= []:=List.length_eq_zero_iff.1 hpo;rw [this];rfl
  rw [hf];have h00:(((0:Nat):Int)==0)=true:=rfl;obtain⟨H,HN,Hmm,Hpo,Hok,Hf⟩:=hid6 h hN hmm hpo hok hf;clear hf hok hpo hmm hN h;go_enter Tryz.func219,Tryz.ntmps219;go_wp2;exact bodyPost_ret (v:= .tuple #[.bool true,.int .i64 0]) (by simp [results,Tryz.results219,go_sem]) rfl ⟨rfl,Keeps.alloc _ _⟩
 ·have h0I:((m:Int)==0)=false:=beq_eq_false_iff_ne.2 j6;obtain⟨k,hk⟩:∃k,m=k+1:=⟨m-1,by omega⟩;obtain⟨x,hx⟩:=Aq (L:=P) (k:=k) j6;obtain⟨g,o,c,he,hc⟩:=(Reads.Az h.out).elem SV.Aj hx j7;rw [hmm] at he;simp only [Value.slice.injEq,true_and] at he;obtain⟨rfl,rfl⟩:=he;obtain⟨⟨cy,xf,xt,xd,tt,xc,xm,xg,ln⟩,ax,cx⟩:=x;have x0:W.cell? ⟨g,o+k*9,none⟩=some (.int .i64 cy):=hc 0 j7;have x1:W.cell? ⟨g,o+k*9+1,none⟩=some (.int .i64 xf):=hc 1 j7;have x2:W.cell? ⟨g,o+k*9+2,none⟩=some (.int .i64 xt):=hc 2 j7;have x3:W.cell? ⟨g,o+k*9+3,none⟩=some (.int .i64 xd):=hc 3 j7;have x4:W.cell? ⟨g,o+k*9+4,none⟩=some (.slice ax ln.length cx):=hc 4 j7;have x5:W.cell? ⟨g,o+k*9+5,none⟩=some (.int .i64 tt):=hc 5 j7;have x6:W.cell? ⟨g,o+k*9+6,none⟩=some (.int .i64 xc):=hc 6 j7;have x7:W.cell? ⟨g,o+k*9+7,none⟩=some (.int .i64 xm):=hc 7 j7;have x8:W.cell? ⟨g,o+k*9+8,none⟩=some (.bool xg):=hc 8 j7;clear hc
  have hgl:s.out.getLast?=some ⟨cy,xf,xt,xd,tt,xc,xm,xg,ln⟩:=by
   rw [List.getLast?_eq_getElem?,hpo,hk,<-h.lp,List.getElem?_map,show k+1-1=k from rfl,hx];rfl
  have hf:freeB s.out fr L=hasB tt fr xd L:=by unfold freeB;rw [hgl]
  rw [hf];have hgr:=λW' (hW:Keeps (λ_=>False) W W')=>Yh tt fr xd L adl cl N W' ((Reads.Az h.evs).keeps hW (by simp)|>λr=>by rw [hN] at r;exact r) hN hl hok
  obtain⟨z,hz⟩:∃z,hasB tt fr xd L=z:=⟨_,rfl⟩;rw [hz] at hgr⊢;have hm1:IntKind.i64.wrap ((k:Nat):Int)=(k:Int):=IntWalk.i64_in _ ⟨by omega,by omega⟩;have hkI:(k:Int)<(m:Int):=j8;have hm2:(m:Int)-1=k:=j8;have ka:Keeps (λ_=>False) W (W.alloc (.cells #[.int .i64 fr,.int .i64 te] 57)):=Keeps.alloc _ _;have hrA:=h.keep0 ka
  have hS1:frS1 B (.slice (some ⟨g,o,none⟩) m cv) g (o+k*9) cy xf xt xd (.slice ax ln.length cx) tt xc xm xg (W.alloc (.cells #[.int .i64 fr,.int .i64 te] 57)).drew:=
   (show frS1 B (.slice (some ⟨g,o,none⟩) m cv) g (o+k*9) cy xf xt xd (.slice ax ln.length cx) tt xc xm xg W from⟨b16,x0,x1,x2,x3,x4,x5,x6,x7,x8⟩).keep (ka.Am)
  clear x0 x1 x2 x3 x4 x5 x6 x7 x8;obtain⟨q,hq⟩:∃q,ln.length=q:=⟨_,rfl⟩;rw [hq] at hS1;obtain⟨H,HN,Hmm,Hpo,Hok,Hf,Hx,Hgl,Hgr⟩:=hid9 h hN hmm hpo hok hf hx hgl hgr;clear hgr hgl hx hf hok hpo hmm hN h;obtain⟨Hz,Ka,HrA,HS1,Hk,Hq⟩:=hid6 hz ka hrA hS1 hk hq;clear hq hk hS1 hrA ka hz;go_enter Tryz.func219,Tryz.ntmps219;go_wp2_with fail;refine Al (frS1 B (.slice (some ⟨g,o,none⟩) m cv) g (o+k*9) cy xf xt xd (.slice ax q cx) tt xc xm xg) (.take 0 (.take 1 (.take 2 (.take 3 (.take 4 (.take 5 (.take 6 (.take 7 (.take 8 (.take 9 (.take 10 (.take 11 (.move 12 (.move 13 .done)))))))))))))) j9 j9 ?_ ?_
  ·exact HS1.out
  intro w1 hs1 hk1;refine je ?_;intro K hK;refine hK.out _ _ j1H ?_;clear hK K;refine ja ?_;have r6:=heap_alloc_new w1 (.cells #[.int .i64 0,.int .i64 0,.int .i64 0,.int .i64 0,.slice none 0 0,.int .i64 0,.int .i64 0,.int .i64 0,.bool false] 60);have z0:=Aa r6 0;have z1:=Aa r6 1;have z2:=Aa r6 2;have z3:=Aa r6 3;have z4:=Aa r6 4;have z5:=Aa r6 5;have z6:=Aa r6 6;have z7:=Aa r6 7;have z8:=Aa r6 8;have y0:=Ab r6 0;have y1:=Ab r6 1;have y2:=Ab r6 2;have y3:=Ab r6 3;have y4:=Ab r6 4;have y5:=Ab r6 5;have y6:=Ab r6 6;have y7:=Ab r6 7;have y8:=Ab r6 8;have h9:=heap_alloc_new w1 (.cells #[.int .i64 cy,.int .i64 xf,.int .i64 xt,.int .i64 xd,.slice ax q cx,.int .i64 tt,.int .i64 xc,.int .i64 xm,.bool xg] 60);have k19:=Keeps.alloc (S:=λ_=>False) w1 (.cells #[.int .i64 cy,.int .i64 xf,.int .i64 xt,.int .i64 xd,.slice ax q cx,.int .i64 tt,.int .i64 xc,.int .i64 xm,.bool xg] 60);have kA:=Ka.out.nt hk1;have kW:=kA.nt k19;have hrW:=HrA.out.keep0 (hk1.nt k19);have hb3:=Ad (heap_alloc_new W (.cells #[.int .i64 fr,.int .i64 te] 57)) (hk1.nt k19) (by simp);have hS2:=(show frS2 B W.heap.size w1.heap.size (.slice adl N cl) tt fr xd _ from⟨Aa hrW.blk 7,Aa hb3 0,Aa h9 5,Aa h9 3⟩).keep (Keeps.drew _);have hs9:=hs1.keep k19;obtain⟨R6,H9,K19,KA,KW,HrW,Hb3,HS2,Hs9⟩:=hid9 r6 h9 k19 kA kW hrW hb3 hS2 hs9;clear hs9 hS2 hb3 hrW kW kA k19 h9 r6;refine jc ?_;intro K hK;refine hK.out _ _ (by exact Hs9.out) ?_;clear hK K;refine jt ?_;clear z0 z1 z2 z3 z4 z5 z6 z7 z8 y0 y1 y2 y3 y4 y5 y6 y7 y8 hs1;go_wp2_with fail;refine Al (frS2 B W.heap.size w1.heap.size (.slice adl N cl) tt fr xd) (.take 0 (.take 1 (.take 2 (.take 3 (.take 4 (.take 5 (.take 6 (.take 7 (.take 8 (.take 9 (.move 10 (.take 11 (.take 12 (.take 13 (.take 14 .done))))))))))))))) j9 j9 ?_ ?_
  ·exact HS2.out
  intro w2 hs2 hk2;refine je ?_;intro K hK
  go_at_call 253
  ((with_reducible refine(Hgr.out _ (KW.out.nt hk2)).mono ?_);rintro e w3 ⟨rfl,hk3⟩;dsimp only)
  refine hK.out _ _ (by exact hs2.keep hk3) ?_;clear hK K;refine jj ?_;have hfin:=(KW.out.nt hk2).nt hk3;clear hs2;obtain⟨Hfin,Hk2,Hk3⟩:=hid3 hfin hk2 hk3;clear hk3 hk2 hfin;go_wp2;exact bodyPost_ret (v:= .tuple #[.bool z,.int .i64 0]) (by simp [results,Tryz.results219,go_sem]) rfl ⟨rfl,Hfin.out⟩
section
variable {w0:World} {X:Fx} {B:Nat} {t:Tm} {n:Nat} {vt:Value} {L:List Ev} {f0 f1 f2:Value} {s:St} {vl vb vr:Value} {g0 g1:Nat} {S0 S1:List SI} {vo:Value} {P:List SV} {W W':World}
theorem RunV.Qr(h:RunV w0 X B t n vt L f0 f1 f2 s vl vb vr g0 g1 S0 S1 vo P W){w4 w5:World}{x:SV}{vo':Value}(hk4:Keeps (λ_=>False) W w4)(hk5:Keeps (λi=>vo.ownBlock=some i) w4 w5)
  (hr:w5.ownsRow 0 60 9 vo' (P.length+1) ((P++ [x]).flatMap SV.cells)) (hx:w4.ownsRow 0 160 3 x.v x.s.lines.length (x.s.lines.flatMap Ln.cells)) (hxo:Own w0 X x.v) (hf:vo'.ownBlock=vo.ownBlock\/∃g,vo'.ownBlock=some g/\w4.heap.size<=g):
  RunV w0 X B t n vt L f0 f1 f2 { s with out:=s.out++ [x.s] } vl vb vr g0 g1 S0 S1 vo' (P++ [x]) (w5.setCell ⟨B,16,none⟩ vo'):=by
 have h4:=h.keep0 hk4;have hs4:=hk4.size;have hs5:=hk5.size;have nb:∀{e:TypeId} {b:Nat} {c:Array Value},w4.heap[b]?=some (.cells c e (0,0))->e≠60->¬vo.ownBlock=some b:=λhb hne=>Ai h4.out hb hne;have nr:∀{e:TypeId} {sz m:Nat} {u:Value} {xs:List Value},w4.ownsRow 0 e sz u m xs->e≠60->∀b,u.ownBlock=some b->¬vo.ownBlock=some b:=λhr' hne b hb e=>Eu hr' h4.out hne hb e;have h5b:=Ad h4.blk hk5 (nb h4.blk j7);have kB:Keeps (λi=>i=B) w5 (w5.setCell ⟨B,16,none⟩ vo'):=Keeps.setCell _ _ _ rfl;have hne:∀{e:TypeId} {sz m:Nat} {v:Value} {xs:List Value},w5.ownsRow 0 e sz v m xs->250≠e->∀i,v.ownBlock=some i->¬i=B:=λhr hne i hi e=>by subst e;exact Ai hr h5b hne hi
 have r5:∀{e:TypeId} {sz m:Nat} {u:Value} {xs:List Value},w4.ownsRow 0 e sz u m xs->e≠60->250≠e->(w5.setCell ⟨B,16,none⟩ vo').ownsRow 0 e sz u m xs:=λhr' h1 h2=>kB.row (hk5.row hr' (nr hr' h1)) (hne (hk5.row hr' (nr hr' h1)) h2)
 have nog:∀{g:Nat} {c:Array Value},w5.heap[g]?=some (.cells c 50 (0,0))->¬g=B:=λhg e=>by
  subst e;rw [hg] at h5b;injection h5b with h1;injection h1 with _ h1 _;exact absurd h1 j7
 have o0:=Ad h4.o0 hk5 (nb h4.o0 j7);have o1:=Ad h4.o1 hk5 (nb h4.o1 j7)
 have hown:Own w0 X vo':=λb hb=>by
  rcases hf with hf|⟨g,hg,hh⟩
  ·exact h.wo b (hf▸hb)
  ·rw [hg] at hb;simp only [Option.some.injEq] at hb;exact h.new j6
 exact { h4 with
  blk:=(heap_setCell_same _ _ 16 _ _ _ h5b).trans rfl
  trs:=(h4.trs.keeps hk5 (λb hb e=>by have:=(h.wt b hb).1;have:=(h.wo b e).1;omega)).keeps kB (λi hi e=>by have e':i=B:=e;have:=(h.wt i hi).1;have:=h.wB.1;omega)
  evs:=r5 h4.evs j7 j7
  bal:=r5 h4.bal j7 j7
  rts:=r5 h4.rts j7 j7
  o0:=Ad o0 kB (nog o0)
  o1:=Ad o1 kB (nog o1)
  i0:=λy hy=>r5 (h4.i0 y hy) j7 j7
  i1:=λy hy=>r5 (h4.i1 y hy) j7 j7
  out:=by rw [List.length_append];exact kB.row hr (hne hr j7)
  ln:=λy hy=>by
   rcases List.mem_append.1 hy with hy|hy
   ·exact r5 (h4.ln y hy) j7 j7
   ·obtain rfl:y=x:=by simpa using hy
    exact r5 hx j7 j7
  lp:=by rw [List.map_append,h.lp];rfl
  wo:=hown
  wln:=λy hy=>by
   rcases List.mem_append.1 hy with hy|hy
   ·exact h.wln y hy
   ·obtain rfl:y=x:=by simpa using hy
    exact hxo
  xl:=λb hb=>Nat.lt_of_lt_of_le (Nat.lt_of_lt_of_le (h4.xl b hb) hs5) kB.size
  fz:=λb hb=>((kB.block b (Nat.lt_of_lt_of_le (h4.xl b (h4.yx b hb)) hs5) (λe=>by have e':b=B:=e;exact h.wB.2 (e'▸h.yx b hb))).trans (hk5.block b (h4.xl b (h4.yx b hb)) (λe=>(h.wo b e).2 (h.yx b hb)))).trans (h4.fz b hb)
  kp:=(h4.kp.trans (hk5.mono λi _ e=> .inr (h.wo i e).1)).trans (kB.mono λi _ e=> .inr (by have e':i=B:=e;rw [e'];exact h.wB.1)) }
end
def stm0:Stm:=⟨0,0,0,0,0,0,0,false, []⟩
def Eo(o:Option (Stm×Ps)):Stm×Ps×Int:=match o with
 |none=>(stm0,ps0,5)
 |some (x,q)=>(x,q,0)
theorem Ff.uni{o:Option (Stm×Ps)}{w w':World}{e:Ending}(h:Ff o w e w'){x:Stm}{q:Ps}{z:Int}(ho:Eo o=(x,q,z)):
  ∃al cl ab cb,e= .returned (.tuple #[.agg #[.int .i64 x.cycle,.int .i64 x.fr,.int .i64 x.te,.int .i64 x.due,.slice al x.lines.length cl,.int .i64 x.total,.int .i64 x.credit,.int .i64 x.min,.bool x.grace],.agg #[.slice ab q.bal.length cb,.int .i64 q.cr,.int .i64 q.du],.int .i64 z])/\
   w'.ownsRow 0 160 3 (.slice al x.lines.length cl) x.lines.length (x.lines.flatMap Ln.cells)/\w'.ownsRow 0 2 1 (.slice ab q.bal.length cb) q.bal.length (q.bal.flatMap i64c)/\Keeps (λ_=>False) w w'/\(∀g,(Value.slice al x.lines.length cl).ownBlock=some g->w.heap.size<=g)/\(∀g,(Value.slice ab q.bal.length cb).ownBlock=some g->w.heap.size<=g):=by
 rcases o with _|⟨x',q'⟩
 ·simp only [Eo,Prod.mk.injEq] at ho;obtain⟨rfl,rfl,rfl⟩:=ho;obtain⟨rfl,hk⟩:=h;exact⟨none,0,none,0,rfl,World.ownsRow_nil _ _ _ _,World.ownsRow_nil _ _ _ _,hk,by simp [Value.ownBlock],by simp [Value.ownBlock]⟩
 ·simp only [Eo,Prod.mk.injEq] at ho;obtain⟨rfl,rfl,rfl⟩:=ho;obtain⟨vl,vb,rfl,h1,h2,h3,h4,h5⟩:=h;obtain⟨al,cl,rfl,_⟩:=Ae h1;obtain⟨ab,cb,rfl,_⟩:=Ae h2;exact⟨al,cl,ab,cb,rfl,h1,h2,h3,h4,h5⟩
theorem Zx{S:List SI}{g n:Nat}{W:World}(h:W.heap[g]?=some (.cells (S.map SI.v).toArray 50 (0,0)))(hn:S.length=n):Reads W 1 (.slice (some ⟨g,0,none⟩) n n) n (S.flatMap SI.cells):=by
 have h1:=Reads.blk (size:=1) (n:=n) h (by simp [hn])
 have h2:∀S:List SI,S.flatMap SI.cells=S.map SI.v:=λS=>by
  induction S with
  |nil=>rfl
  |cons a l ih=>simp [SI.cells,ih]
 rw [h2]
 simpa using h1
theorem Tw{g:Bool}:∀{T:List Tn} {B R:List (List Int)} {V:List Int} {n:Nat},T.length=n->B.length=n->R.length=n->(∀b∈B,∀y∈b,0<=y/\y<=1000000000000000)->(∀r∈R,∀y∈r,0<=y/\y<=10000000)->intrO g T B R=some V->V.length=n/\∀x∈V,0<=x/\x<=1000000000000000:=by
 intro T
 induction T with
 |nil=>intro B R V n h1 h2 h3 _ _ h;simp only [intrO,Option.some.injEq] at h;subst h;simp only [List.length_nil] at h1;subst h1;simp
 |cons x T ih=>
  intro B R V n h1 h2 h3 hB hR h;rcases B with _|⟨b,B⟩
  ·simp only [List.length_cons,List.length_nil] at h1 h2;omega
  rcases R with _|⟨r,R⟩
  ·simp only [List.length_cons,List.length_nil] at h1 h3;omega
  simp only [List.length_cons] at h1 h2 h3;have hB':∀b∈B,∀y∈b,0<=y/\y<=1000000000000000:=λb' hb=>hB b' (List.mem_cons_of_mem _ hb);have hR':∀r∈R,∀y∈r,0<=y/\y<=10000000:=λr' hr=>hR r' (List.mem_cons_of_mem _ hr)
  have hv:0<=(ofR b r).1/\(ofR b r).1<=1000000000000000:=by
   have hd:=Ym b r (hB b (List.mem_cons_self ..)) (hR r (List.mem_cons_self ..));unfold ofR
   split
   ·constructor<;>decide
   ·rename_i hz;refine⟨?_,by simpa using hz⟩;have h1:0<=dotI b r / 1000000000:=Int.ediv_nonneg hd.1 j7;show 0<=evenI _ _;unfold evenI
    split<;>omega
  simp only [intrO] at h
  have key:∀(a:Int),0<=a/\a<=1000000000000000->(intrO g T B R).map (λl=>a::l)=some V->V.length=n/\∀x∈V,0<=x/\x<=1000000000000000:=λa ha he=>by
   rcases ho:intrO g T B R with _|V'
   ·rw [ho] at he;cases he
   ·rw [ho,Option.map_some,Option.some.injEq] at he;subst he;obtain⟨i1,i2⟩:=ih (n:=n-1) j6 j6 j6 hB' hR' ho;refine⟨by rw [List.length_cons,i1];omega,λy hy=> ?_⟩;rcases List.mem_cons.1 hy with rfl|hy
    ·exact ha
    ·exact i2 y hy
  split at h
  ·exact key 0 (by constructor<;>decide) h
  ·split at h
   ·exact key _ hv h
   ·cases h
theorem Gb{t:Tm}{cy fr te:Int}{p:Ps}{R V:List Int}{g:Bool}{x:Stm}{q:Ps}(hz:t.err=0)(hp:p.Bg=true)(hl:V.length=p.bal.length)(hV:V.all Br=true)(h:Ma t cy fr te p R V g=some (x,q)):q.bal.length=p.bal.length/\q.Bg=true:=by
 unfold Ma at h;have hb:=Qp hp hl hV
 split at h
 ·rename_i h0;rcases hb with⟨_,h1,h2⟩|⟨h1,_⟩
  ·simp only [Option.some.injEq,Prod.mk.injEq] at h;obtain⟨_,rfl⟩:=h;refine⟨h2, ?_⟩;obtain⟨_,_,_,_,⟨f0,_⟩,_⟩:=Fg hz;have h3:=h1;simp only [Ps.Bg,Bool.and_eq_true,scanB] at h3⊢;obtain⟨⟨a1,a2⟩,a3,a4,a5,a6,a7⟩:=h3;have hs:=(Bi _).1 a2;have hle:=Ww (mf:=t.minFixed) (mp:=t.minPart) hs.1 f0;exact⟨⟨a1,a2⟩,a3,a4,a5,(Bi _).2 j6,a7⟩
  ·rw [h0] at h1;cases h1
 ·cases h
def Fa(t:Tm)(L:List Ev)(n:Nat)(s:St)(fr te:Int):Option St:=
 match intrO (freeB s.out fr L) t.trs s.e0 s.e1 with
 |none=>none
 |some V=>match Ma t ((s.out.length:Int)+1) fr te s.p s.R V (freeB s.out fr L) with
  |none=>none
  |some (x,q)=>some { s with p:=q,e0:=List.replicate n [],e1:=List.replicate n [],out:=s.out++ [x] }
def c4S(B:Nat)(li:Int)(vt:Value)(cy du mf mp st:Int)(v0 v1:Value)(W:World):Prop:=W.cell? ⟨B,0,none⟩=some (.int .i64 li)/\W.cell? ⟨B,1,none⟩=some vt/\W.cell? ⟨B,2,none⟩=some (.int .i64 cy)/\W.cell? ⟨B,3,none⟩=some (.int .i64 du)/\W.cell? ⟨B,4,none⟩=some (.int .i64 mf)/\W.cell? ⟨B,5,none⟩=some (.int .i64 mp)/\W.cell? ⟨B,6,none⟩=some (.int .i64 st)/\W.cell? ⟨B,14,none⟩=some v0/\W.cell? ⟨B,15,none⟩=some v1
theorem c4S.keep{B:Nat}{li:Int}{vt:Value}{cy du mf mp st:Int}{v0 v1:Value}{W W':World}(h:c4S B li vt cy du mf mp st v0 v1 W)(hk:Keeps (λ_=>False) W W'):c4S B li vt cy du mf mp st v0 v1 W':=by
 obtain⟨h1,h2,h3,h4,h5,h6,h7,h8,h9⟩:=h;refine j0p ?_;intro k;exact⟨k h1,k h2,k h3,k h4,k h5,k h6,k h7,k h8,k h9⟩
def c7S(B b3:Nat)(li:Int)(vt:Value)(cy du mf mp st:Int)(vo vb:Value)(pc pd:Int)(vr:Value)(fr te:Int)(W:World):Prop:=W.cell? ⟨B,0,none⟩=some (.int .i64 li)/\W.cell? ⟨B,1,none⟩=some vt/\W.cell? ⟨B,2,none⟩=some (.int .i64 cy)/\W.cell? ⟨B,3,none⟩=some (.int .i64 du)/\W.cell? ⟨B,4,none⟩=some (.int .i64 mf)/\W.cell? ⟨B,5,none⟩=some (.int .i64 mp)/\W.cell? ⟨B,6,none⟩=some (.int .i64 st)/\
 W.cell? ⟨B,16,none⟩=some vo/\W.cell? ⟨B,10,none⟩=some vb/\W.cell? ⟨B,11,none⟩=some (.int .i64 pc)/\W.cell? ⟨B,12,none⟩=some (.int .i64 pd)/\W.cell? ⟨B,13,none⟩=some vr/\W.cell? ⟨b3,0,none⟩=some (.int .i64 fr)/\W.cell? ⟨b3,1,none⟩=some (.int .i64 te)
theorem c7S.keep{B b3:Nat}{li:Int}{vt:Value}{cy du mf mp st:Int}{vo vb:Value}{pc pd:Int}{vr:Value}{fr te:Int}{W W':World}(h:c7S B b3 li vt cy du mf mp st vo vb pc pd vr fr te W)(hk:Keeps (λ_=>False) W W'):c7S B b3 li vt cy du mf mp st vo vb pc pd vr fr te W':=by
 obtain⟨h1,h2,h3,h4,h5,h6,h7,h8,h9,h10,h11,h12,h13,h14⟩:=h;refine j0p ?_;intro k;exact⟨k h1,k h2,k h3,k h4,k h5,k h6,k h7,k h8,k h9,k h10,k h11,k h12,k h13,k h14⟩
def r13S(B b8:Nat)(vo:Value)(cy fr te du:Int)(vl:Value)(tt cr mi:Int)(g:Bool)(W:World):Prop:=W.cell? ⟨B,16,none⟩=some vo/\W.cell? ⟨b8,0,none⟩=some (.int .i64 cy)/\W.cell? ⟨b8,1,none⟩=some (.int .i64 fr)/\W.cell? ⟨b8,2,none⟩=some (.int .i64 te)/\W.cell? ⟨b8,3,none⟩=some (.int .i64 du)/\W.cell? ⟨b8,4,none⟩=some vl/\W.cell? ⟨b8,5,none⟩=some (.int .i64 tt)/\W.cell? ⟨b8,6,none⟩=some (.int .i64 cr)/\W.cell? ⟨b8,7,none⟩=some (.int .i64 mi)/\W.cell? ⟨b8,8,none⟩=some (.bool g)
theorem r13S.keep{B b8:Nat}{vo:Value}{cy fr te du:Int}{vl:Value}{tt cr mi:Int}{g:Bool}{W W':World}{S:Nat->Prop}(h:r13S B b8 vo cy fr te du vl tt cr mi g W)(hk:Keeps S W W')(h1:¬S B)(h2:¬S b8):r13S B b8 vo cy fr te du vl tt cr mi g W':=by
 obtain⟨c0,c1,c2,c3,c4,c5,c6,c7,c8,c9⟩:=h;have k:∀{p:Addr} {u:Value},¬S p.block->W.cell? p=some u->W'.cell? p=some u:=λhn hc=>(hk.cell (Ah hc) hn).trans hc;exact⟨k h1 c0,k h2 c1,k h2 c2,k h2 c3,k h2 c4,k h2 c5,k h2 c6,k h2 c7,k h2 c8,k h2 c9⟩
theorem r13S.of{B b8:Nat}{vo:Value}{cy fr te du:Int}{vl:Value}{tt cr mi:Int}{g:Bool}{W:World}{C:Array Value}{e:TypeId}(h:W.heap[B]?=some (.cells C e (0,0)))(hv:C[16]?=some vo)(h8:W.heap[b8]?=some (.cells #[.int .i64 cy,.int .i64 fr,.int .i64 te,.int .i64 du,vl,.int .i64 tt,.int .i64 cr,.int .i64 mi,.bool g] 60 (0,0))):r13S B b8 vo cy fr te du vl tt cr mi g W:=
 ⟨(Aa h 16).trans hv,Aa h8 0,Aa h8 1,Aa h8 2,Aa h8 3,Aa h8 4,Aa h8 5,Aa h8 6,Aa h8 7,Aa h8 8⟩
end Go.Proofs.YtgbgmadkmabeeaaGreat
