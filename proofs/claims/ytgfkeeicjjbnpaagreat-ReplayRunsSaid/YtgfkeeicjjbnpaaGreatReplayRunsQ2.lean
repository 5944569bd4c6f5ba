/- Part 2 of the proof of ReplayRuns: walks and plain laws. -/
import Derived.Test.YtgfkeeicjjbnpaaGreatReplayRunsQ1
set_option maxRecDepth 100000
set_option maxHeartbeats 3200000
namespace Go.Proofs.YtgfkeeicjjbnpaaGreat
open Go.RowKit
theorem RowZ.keep{W W':World}{e:TypeId}{g n cap:Nat}{O:List Int}(h:RowZ W e g n cap O)(hk:Keeps (λ_=>False) W W'):RowZ W' e g n cap O:=⟨h.1.of_keeps hk,h.2⟩
theorem RowZ.lt{W:World}{e:TypeId}{g n cap:Nat}{O:List Int}(h:RowZ W e g n cap O):g<W.heap.size:=Bh h.1 rfl
theorem RowZ.reads{W:World}{e:TypeId}{g n cap:Nat}{O:List Int}(h:RowZ W e g n cap O):Reads W 1 (.slice (some ⟨g,0,none⟩) n cap) n (O.flatMap i64c):=Reads.Ay h.1
theorem made_ints(n:Nat):(madeCells (Value.int .i64 0).cells n).toList=(List.replicate n (0:Int)).flatMap i64c:=by
 have hL:((List.replicate n (0:Int)).flatMap i64c).length=n:=by rw [Cu Bg];simp
 have hM:(madeCells (Value.int .i64 0).cells n).toList.length=n:=by simp [madeCells]
 apply List.ext_getElem?
 intro i;by_cases h:i<n
 ·have h2:((List.replicate n (0:Int)).flatMap i64c)[i]?=some (.int .i64 0):=by
   have:=flat_get Bg (L:=List.replicate n (0:Int)) (k:=i) (j:=0) (x:=0) (by simp [h]) j2;exact j09
  rw [h2];simp [madeCells,Value.cells,h,Nat.mod_one]
 ·exact j1N
theorem RowZ.made(w:World)(e:TypeId)(n:Nat)(hn:n<=maxLen):RowZ (w.alloc (.cells (madeCells (Value.int .i64 0).cells n) e)) e w.heap.size n n (List.replicate n 0):=by
 have hL:((List.replicate n (0:Int)).flatMap i64c).length=n*1:=by rw [Cu Bg];simp
 refine⟨⟨hL,.inr ⟨_,_,_,rfl,Nat.zero_le _,heap_alloc_new w _,Nat.le_refl _,hn,by simp [madeCells], ?_⟩⟩,by simp⟩;rw [made_ints,List.take_of_length_le (by rw [hL];exact Nat.le_refl _)]
def inFr(vB vO:Value)(a:Int)(g n j:Nat)(u:Nat->Value):Act:={ tmps:= #[vB,vO,.int .i64 a,u 3,u 4,u 5,u 6,u 7,.slice (some ⟨g,0,none⟩) n n,.int .i64 ((j:Nat):Int),u 10,u 11,u 12,u 13,u 14,u 15,u 16,u 17,u 18,u 19,u 20,u 21,u 22,u 23,u 24,u 25,u 26,u 27,u 28,u 29,u 30,u 31,u 32,u 33,u 34,u 35,u 36,u 37,u 38,u 39,u 40,u 41],defers:= [] }
structure InAt(B O:List Int)(a00:Int)(w:World)(g j:Nat)(out:List Int)(a:Int)(W:World):Prop where
 jl:j<=O.length
 a0:0<=a
 a1:a<=1000000000000000
 row:RowZ W 2 g B.length B.length out
 eq:intoL B O a00=intoS B (O.drop j) (out,a)
 kp:Keeps (λ_=>False) w W
 gg:w.heap.size<=g
def inJ(B O:List Int)(a0:Int)(w:World)(vB vO:Value)(n:Nat)(a':Act)(W:World):Prop:=∃(g j:Nat) (out:List Int) (a:Int) (u:Nat->Value),a'=inFr vB vO a g n j u/\InAt B O a0 w g j out a W
theorem inJ.mk{B O:List Int}{a0:Int}{w:World}{vB vO:Value}{n:Nat}{a':Act}{W:World}(g j:Nat)(out:List Int)(a:Int)(h:a'=inFr vB vO a g n j (λi=>a'.tmps.getD i undef))(hi:InAt B O a0 w g j out a W):inJ B O a0 w vB vO n a' W:=⟨g,j,out,a,_,h,hi⟩
def Mh(r:List Int×Int)(w:World)(e:Ending)(w':World):Prop:=∃g,e= .returned (.tuple #[.slice (some ⟨g,0,none⟩) r.1.length r.1.length,.int .i64 r.2])/\RowZ w' 2 g r.1.length r.1.length r.1/\Keeps (λ_=>False) w w'/\w.heap.size<=g
theorem Kl(B O:List Int)(a:Int)(adB adO:Option Addr)(cB cO:Nat)(w:World)(hB:Reads w 1 (.slice adB B.length cB) B.length (B.flatMap i64c))(hO:Reads w 1 (.slice adO O.length cO) O.length (O.flatMap i64c))(hm:∀x∈B,0<=x/\x<=1000000000000000)(ha:0<=a/\a<=1000000000000000)
  (hok:∀k∈O,1<=k/\k<=B.length) (hl:B.length<=1000) (hl2:O.length<=1000):Calls Tryz.prog 284 #[.slice adB B.length cB,.slice adO O.length cO,.int .i64 a] w (Mh (intoL B O a) w):=by
 obtain⟨i0,hi,hi0,hi1,hi2⟩:=info_parts Ca;have hrl:=Cb B O a;obtain⟨n,hn⟩:∃n,B.length=n:=⟨_,rfl⟩;obtain⟨m,hmO⟩:∃m,O.length=m:=⟨_,rfl⟩;obtain⟨r,hr⟩:∃r,intoL B O a=r:=⟨_,rfl⟩;rw [hn] at hB hok hl hrl⊢;rw [hmO] at hO hl2⊢;rw [hr] at hrl⊢;refine jU ?_;intro hmk;simp only [Int.toNat_natCast,hi1,Nat.mul_one] at hmk;refine j0a ?_;intro Z hZ;rw [<-hZ] at hmk;obtain⟨ha0,ha1⟩:=ha;obtain⟨HB,HO,Hm,Hok,Hn,HmO,Hr,Hrl,Hi⟩:=hid9 hB hO hm hok hn hmO hr hrl hi;clear hi hrl hr hmO hn hok hm hO hB;obtain⟨Hi0,Hi1,Hi2,HZ⟩:=hid4 hi0 hi1 hi2 hZ;clear hZ hi2 hi1 hi0;go_enter Tryz.func284,Tryz.ntmps284;go_wp2_with fail;refine Db 0 (inJ B O a w (.slice adB n cB) (.slice adO m cO) n) (λa' _=>m-Fg 9 a') rfl ?_ ?_
 ·rintro a' W ⟨g,j,out,b,u,rfl,hat⟩;unfold inFr;have hjl:=hat.jl;have hb0:=hat.a0;have hb1:=hat.a1;have hrow:=hat.row;rw [Hn.out] at hrow;rw [HmO.out] at hjl;by_cases hlt:j<m
  ·have hltI:(j:Int)<(m:Int):=j3;obtain⟨k,hk⟩:=Aj (L:=O) (k:=j) (by rw [HmO.out];exact hlt);obtain⟨k1,k2⟩:=Hok.out k (List.mem_of_getElem? hk);obtain⟨i,hi⟩:∃i:Nat,(i:Int)=k-1:=⟨(k-1).toNat,by omega⟩;obtain⟨x,hx⟩:=Aj (L:=B) (k:=i) jG;obtain⟨x1,x2⟩:=Hm.out x (List.mem_of_getElem? hx);obtain⟨gO,oO,he,hcO⟩:=(HO.out.keeps hat.kp (by simp)).int (k:= .i64) hk;subst he;obtain⟨gB,oB,he,hcB⟩:=(HB.out.keeps hat.kp (by simp)).int (k:= .i64) hx;subst he;refine j3r ?_;intro y hy cy fy lO lB lg q1 q2 q3 q4 hstep
   have hat2:∀v:Int,minI b x=v->0<=v->v<=b->InAt B O a w g (j+1) (out.set i v) (b-v) (W.setCell ⟨g,i,none⟩ (.int .i64 v)):=λv hv h0 h1=>
    ⟨by rw [HmO.out];omega,by omega,by omega,by rw [Hn.out];exact hrow.set j1 v,by rw [hat.eq,hstep,hv],hat.kp.trans (Keeps.setCell _ _ _ (.inr hat.gg)),hat.gg⟩
   by_cases hmin:b<=x
   ·have h2:=hat2 b (by unfold minI;rw [if_pos hmin]) j1 j1;rw [Int.sub_self] at h2;clear hat2;obtain⟨Hat,Hrow,Hk,Hx,Hy,Hstep,Hi,H2⟩:=hid8 hat hrow hk hx hy hstep hi h2;clear h2 hi hstep hy hx hk hrow hat;go_wp2;go_step3;go_wp2;exact Bn ⟨inJ.mk g (j+1) (out.set i b) 0 rfl H2.out,by simp [Fg];omega⟩
   ·have h2:=hat2 x (by unfold minI;rw [if_neg hmin]) j1 j1;clear hat2;obtain⟨Hat,Hrow,Hk,Hx,Hy,Hstep,Hi,H2⟩:=hid8 hat hrow hk hx hy hstep hi h2;clear h2 hi hstep hy hx hk hrow hat;go_wp2;go_step3;go_wp2;exact Bn ⟨inJ.mk g (j+1) (out.set i x) (b-x) rfl H2.out,by simp [Fg];omega⟩
  ·obtain rfl:j=m:=by omega
   have he:=hat.eq;rw [Hr.out,List.drop_eq_nil_of_le (by rw [HmO.out];exact Nat.le_refl _)] at he;have he2:r=(out,b):=he;subst he2;have hkp:=hat.kp;have hgg:=hat.gg;obtain⟨Hat,He,Hrow,Hkp,Hgg⟩:=hid5 hat he hrow hkp hgg;clear hgg hkp hrow he hat;go_wp2;refine Bu ?_;have hpost:Mh (out,b) w (.returned (.tuple #[.slice (some ⟨g,0,none⟩) n n,.int .i64 b])) W:=⟨g,by simp only;rw [Hrl.out],by simp only;rw [Hrl.out];exact Hrow.out,Hkp.out,Hgg.out⟩;exact bodyPost_ret (v:= .tuple #[.slice (some ⟨g,0,none⟩) n n,.int .i64 b]) (by simp [results,Tryz.results284,go_sem]) rfl hpost
 ·intro hfirst;have Hfirst:=Lib.hid hfirst;clear hfirst;go_wp2_with fail;go_step3;rename_i hK;refine jT ?_;have hmd:=RowZ.made w 2 n j6;rw [<-HZ.out] at hmd;exact inJ.mk w.heap.size 0 (List.replicate n 0) a rfl ⟨Nat.zero_le _,ha0,ha1,by rw [Hn.out];exact hmd,by unfold intoL;rw [Hn.out];rfl,by(repeat (first|exact Keeps.refl _ _|exact Keeps.alloc _ _|exact Keeps.drew _|exact Keeps.drewN _ _|refine Keeps.Am ?_|refine Keeps.Al ?_|refine Keeps.Af ?_)),Nat.le_refl _⟩
structure Ps where
 bal:List Int
 cr:Int
 du:Int
def Ps.val(p:Ps)(v:Value):Value:= .agg #[v,.int .i64 p.cr,.int .i64 p.du]
def sumI:List Int->Int
 | []=>0
 |x::L=>x+sumI L
theorem Uy(A B:List Int):sumI (A++B)=sumI A+sumI B:=by
 induction A with
 |nil=>simp [sumI]
 |cons x A ih=>simp only [List.cons_append,sumI,ih];omega
theorem Mk{L:List Int}{k:Nat}{x:Int}(h:L[k]?=some x):sumI (L.take (k+1))=sumI (L.take k)+x:=by rw [take_snoc' h,Uy];simp [sumI]
theorem Ng{L:List Int}(h:L.all Az=true):0<=sumI L:=by
 induction L with
 |nil=>exact Int.le_refl _
 |cons x L ih=>
  simp only [List.all_cons,Bool.and_eq_true] at h;have:=ih h.2;have:=(Aw x).1 h.1;simp only [sumI];omega
def scanB(L:List Int):Bool:=L.all Az&&Az (sumI L)
theorem Rq{L:List Int}{k:Nat}{x:Int}(h:L[k]?=some x)(hx:Az x=false):scanB L=false:=by
 have:L.all Az=false:=by
  rw [Bool.eq_false_iff];intro hh;have:=List.all_eq_true.1 hh x (List.mem_of_getElem? h);rw [hx] at this;cases this
 unfold scanB;rw [this];rfl
theorem scan_bad2{L:List Int}{k:Nat}(hk:1000000000000000<sumI (L.take k)):scanB L=false:=by
 rcases ha:L.all Az with _|_
 ·unfold scanB;rw [ha];rfl
 ·have hd:(L.drop k).all Az=true:=List.all_eq_true.2 λx hx=>List.all_eq_true.1 ha x (List.mem_of_mem_drop hx);have h1:=Ng hd;have h2:sumI L=sumI (L.take k)+sumI (L.drop k):=by rw [<-Uy,List.take_append_drop]
  unfold scanB;rw [show Az (sumI L)=false by simp [Az];omega];simp
def Ps.Ar(p:Ps):Bool:=scanB p.bal&&(decide (1<=p.bal.length)&&(decide (p.bal.length<=8)&&(Az p.cr&&(Az p.du&&(decide (p.cr=0)||decide (sumI p.bal=0))))))
theorem Vw(v:Int)(w:World):Calls Tryz.prog 200 #[.int .i64 v] w λe w'=>e= .returned (.bool (Az v))/\w=w':=by
 by_cases h1:v<0
 ·have hf:Az v=false:=by simp [Az];omega
  have h1':¬0<=v:=j3;exact j1O
 ·by_cases h2:1000000000000000<v
  ·have hf:Az v=false:=by simp [Az];omega
   have hd:decide (v<=1000000000000000)=false:=by rw [decide_eq_false_iff_not];omega
   have h1':0<=v:=j3;exact j1O
  ·have hf:Az v=true:=by simp [Az];omega
   have h1':0<=v:=j3;exact j1O
theorem Bq{v:Int}{b:Bool}(h:Az v=b)(w:World):Calls Tryz.prog 200 #[.int .i64 v] w λe w'=>e= .returned (.bool b)/\w=w':=by subst h;exact Vw v w
theorem Ed(L:List Int)(cr du:Int)(ad:Option Addr)(cap n:Nat)(w:World)(hr:Reads w 1 (.slice ad n cap) n (L.flatMap i64c))(hN:L.length=n)(hl:n<=1000):
  Calls Tryz.prog 152 #[.agg #[.slice ad n cap,.int .i64 cr,.int .i64 du]] w λe w'=>e= .returned (.bool (Ps.Ar ⟨L,cr,du⟩))/\Keeps (λ_=>False) w w':=by
 obtain⟨z,hz⟩:∃z,Ps.Ar ⟨L,cr,du⟩=z:=⟨_,rfl⟩;rw [hz];refine jL ?_;intro hbx;obtain⟨Hr,Hz,Hbx⟩:=hid3 hr hz hbx;clear hbx hz hr;go_enter Tryz.func152,Tryz.ntmps152;go_wp2
 go_loopw [3,9] (λx y wx=>∃(i:Nat) (s:Int),x= .int .i64 s/\y= .int .i64 (i:Nat)/\i<=n/\sumI (L.take i)=s/\(L.take i).all Az=true/\0<=s/\s<=1000000000000000/\Keeps (λ_=>False) (w.alloc (.cells #[.slice ad n cap,.int .i64 cr,.int .i64 du] 35)) wx) (λ_ y _=>n-(intOf y).toNat)
 case atStart=>exact⟨0,0,rfl,rfl,Nat.zero_le _,rfl,rfl,by omega,by omega,Keeps.refl _ _⟩
 case round=>
  obtain⟨i,s,rfl,rfl,hin,hs,hall,hs0,hs1,hk⟩:=hrel;refine jc ?_;intro wq hwq;subst hwq;by_cases hlt:i<n
  ·have hltI:(i:Int)<(n:Int):=j3;obtain⟨x,hx⟩:=Aj (L:=L) (k:=i) j1;obtain⟨g,o,he,hc⟩:=(Hr.out.keeps ((Keeps.alloc w _).nt hk) (by simp)).int (k:= .i64) hx;subst he;have hgl:=Ai hc;have hsn:=Mk hx;rw [hs] at hsn;rcases m3:Az x with _|_
   ·have hf:Ps.Ar ⟨L,cr,du⟩=false:=by unfold Ps.Ar;rw [show scanB L=false from Rq hx m3];rfl
    obtain rfl:z=false:=Hz.out.symm.trans hf;obtain⟨Hall,Hk,Hs,Hsn,Hx,Hf⟩:=hid6 hall hk hs hsn hx hf;clear hf hx hsn hs hk hall
    go_wp2_with (go_at_call 200;(with_reducible refine(Bq m3 _).mono ?_);rintro e w1 ⟨rfl,rfl⟩)
    exact j0O
   ·obtain⟨x0,x1⟩:=(Aw x).1 m3;rcases m4:Az (s+x) with _|_
    ·have hf:Ps.Ar ⟨L,cr,du⟩=false:=by
      unfold Ps.Ar;rw [show scanB L=false from scan_bad2 (k:=i+1) (by rw [hsn];have h4:¬(0<=s+x/\s+x<=1000000000000000):=λh=>(by rw [(Aw _).2 h] at m4;cases m4);omega)];rfl
     obtain rfl:z=false:=Hz.out.symm.trans hf;obtain⟨Hall,Hk,Hs,Hsn,Hx,Hf⟩:=hid6 hall hk hs hsn hx hf;clear hf hx hsn hs hk hall;exact j3s
    ·obtain⟨y0,y1⟩:=(Aw _).1 m4;have hall2:(L.take (i+1)).all Az=true:=by rw [take_snoc' hx,List.all_append,hall];simp [m3]
     obtain⟨Hall,Hk,Hs,Hsn,Hx,Hall2⟩:=hid6 hall hk hs hsn hx hall2;clear hall2 hx hsn hs hk hall
     go_wp2_with (first|(go_at_call 200;(with_reducible refine(Bq m3 _).mono ?_);rintro e w1 ⟨rfl,rfl⟩)|(go_at_call 200;(with_reducible refine(Bq m4 _).mono ?_);rintro e w1 ⟨rfl,rfl⟩))
     exact j3t
  ·obtain rfl:i=n:=by omega
   rw [List.take_of_length_le j1] at hs hall;have hsc:scanB L=true:=by unfold scanB;rw [hall,hs,(Aw s).2 ⟨hs0,hs1⟩];rfl
   have hb:=Hbx.out wq hk;have b0:=Aa hb 0;have b1:=Aa hb 1;have b2:=Aa hb 2;have bl:=lt_of_block hb;have m3:Az cr=Az cr:=rfl;have m4:Az du=Az du:=rfl;clear hb;by_cases h1:1<=i
   ·have h1I:decide ((1:Int)<=(i:Int))=true:=by rw [decide_eq_true_iff];omega
    by_cases h2:i<=8
    ·have h2I:decide ((i:Int)<=8)=true:=by rw [decide_eq_true_iff];omega
     clear m3 m4;rcases m3:Az cr with _|_
     ·have m4:Az du=Az du:=rfl;exact j0b
     ·rcases m4:Az du with _|_
      ·skip
       exact j0b
      ·by_cases h5:cr=0
       ·have h5I:(cr==0)=true:=by simp [h5]
        have h5D:decide (cr=0)=true:=by simp [h5]
        clear h5;exact j3u
       ·have h5I:(cr==0)=false:=beq_eq_false_iff_ne.2 h5;by_cases h6:s=0
        ·subst h6;exact j3u
        ·have h6I:(s==0)=false:=beq_eq_false_iff_ne.2 h6;exact j0b
    ·have h2I:decide ((i:Int)<=8)=false:=by rw [decide_eq_false_iff_not];omega
     exact j0b
   ·have h1I:decide ((1:Int)<=(i:Int))=false:=by rw [decide_eq_false_iff_not];omega
    exact j0b
theorem Ew(w:World)(v:Value)(n:Nat)(xs:List Value)(hr:Reads w 1 v n xs)(h1:∀u∈xs,u.oneCell'=true)(hn:n<=1000000000000):
  Calls Tryz.prog 68 #[v] w λe w'=>∃v',e= .returned v'/\w'.ownsRow 0 2 1 v' n xs/\Keeps (λ_=>False) w w'/\(∀k,v'.ownBlock=some k->w.heap.size<=k):=by
 obtain⟨i0,hi,hz0,hz1,hz2⟩:=info_parts Ca;have hr':=hr;obtain⟨ad,c,rfl,hnc,hl,hnone,hcells⟩:=hr';clear hcells;have heq:=fun(wx:World) (ad:Option Addr) (l c:Nat)=>Lib.run_eql_slice_nil (P:=Tryz.prog) wx 33 _ ad l c 0 0 Tryz.underlying33;rcases ad with _|a
 ·obtain rfl:=hnone rfl;obtain rfl:n=0:=by omega
  obtain rfl:xs= []:=List.eq_nil_of_length_eq_zero (by simpa using hl);have hr0:=Lib.hid hr;clear hr;go_enter Tryz.func68,Tryz.ntmps68;exact j3v
 ·have Hr:=Lib.hid hr;clear hr;obtain⟨Hl,Hnone,H1⟩:=hid3 hl hnone h1;clear h1 hnone hl;go_enter Tryz.func68,Tryz.ntmps68
  go_wp2_with (at_builtin;refine Ba rfl (.tmp 5) (.tmp 6) 33 rfl 0 2 i0 _ 1 8 Tryz.underlying33 hi hz0 hz1 hz2 rfl j2 _ 0 [] rfl (World.ownsRow_lit w #[] 0 j1 j6 rfl) _ n xs rfl (Hr.out.keeps (Keeps.alloc (S:=λ_=>False) _ _) (by simp)) H1.out j6 j1 j1 ?_)
  intro v' w1 hown1 hk1 hfr
  have hend:w1.ownsRow 0 2 1 v' n xs/\Keeps (λ_=>False) w w1/\(∀k,v'.ownBlock=some k->w.heap.size<=k):=by
   exact j3w
  exact j3x
def ps0:Ps:=⟨[],0,0⟩
def Di(p:Ps)(z:Int)(w:World)(e:Ending)(w':World):Prop:=∃v,e= .returned (.tuple #[.agg #[v,.int .i64 p.cr,.int .i64 p.du],.int .i64 z])/\w'.ownsRow 0 2 1 v p.bal.length (p.bal.flatMap i64c)/\Fresh w w' v
theorem Fz(L:List Int)(cr du:Int)(v:Value)(n:Nat)(w:World)(hr:Reads w 1 v n (L.flatMap i64c))(hl:n<=1000):
  Calls Tryz.prog 256 #[.agg #[v,.int .i64 cr,.int .i64 du]] w λe w'=>∃v',e= .returned (.agg #[v',.int .i64 cr,.int .i64 du])/\w'.ownsRow 0 2 1 v' n (L.flatMap i64c)/\Fresh w w' v':=by
 have hcl:=λW (hW:Keeps (λ_=>False) w W)=>Ew W v n (L.flatMap i64c) (hr.keeps hW (by simp)) (Bo _) j1;obtain⟨ad,cap,rfl,_⟩:=id hr;obtain⟨Hr,Hcl⟩:=hid2 hr hcl;clear hcl hr;go_enter Tryz.func256,Tryz.ntmps256;go_wp2_with fail;refine(Hcl.out _ j8).mono ?_;rintro e w1 ⟨v1,rfl,hrow,hk1,hnew⟩;have hkw:=(by(repeat (first|exact Keeps.refl _ _|exact Keeps.alloc _ _|exact Keeps.drew _|exact Keeps.drewN _ _|refine Keeps.Am ?_|refine Keeps.Al ?_|refine Keeps.Af ?_)):Keeps (λ_=>False) w ((w.alloc (.cells #[.slice ad n cap,.int .i64 cr,.int .i64 du] 35)).alloc (.cells #[.slice none 0 0,.int .i64 0,.int .i64 0] 35))).nt hk1;have hb:=j1P;refine j0c ?_;intro hrs;refine j3y ?_;intro k0 hrs2 hb3 k3 k4;have hrow3:=k4.row hrow (λg hg e=>by have:=hnew g hg;simp at this;omega);have hfin:Fresh w ((((w1.setCell ⟨w.heap.size,0,none⟩ v1).setCell ⟨w.heap.size+1,0,none⟩ v1).setCell ⟨w.heap.size+1,1,none⟩ (.int .i64 cr)).setCell ⟨w.heap.size+1,2,none⟩ (.int .i64 du)) v1:=⟨hkw.trans (k3.mono λi _ e=> .inr e),λg hg=>by have:=hnew g hg;simp at this;omega⟩;have b0:=Aa hb 0;have b1:=Aa hb 1;have b2:=Aa hb 2;have bf:=Ab hb 0;have bl:=lt_of_block hb;refine jM ?_;intro r0 r1 r2 rf0 rf1 rf2 rl;have sr0:=Aa hb3 0;have sr1:=Aa hb3 1;have sr2:=Aa hb3 2;obtain⟨ad1,c1,rfl,_,_⟩:=Ad hrow;obtain⟨Hrow,Hk1,Hnew,Hkw,Hb,Hrs,K0,Hrs2,Hb3⟩:=hid9 hrow hk1 hnew hkw hb hrs k0 hrs2 hb3;clear hb3 hrs2 k0 hrs hb hkw hnew hk1 hrow;obtain⟨K3,K4,Hrow3,Hfin,Sr0,Sr1,Sr2⟩:=hid7 k3 k4 hrow3 hfin sr0 sr1 sr2;clear sr2 sr1 sr0 hfin hrow3 k4 k3;go_wp2;refine ja ?_;intro R0' R1' R2';clear r0 r1 r2 b0 b1 b2;exact bodyPost_ret (v:= .agg #[.slice ad1 n c1,.int .i64 cr,.int .i64 du]) (by simp [results,Tryz.results256,go_sem,R0',R1',R2']) rfl ⟨_,rfl,Hrow3.out,Hfin.out⟩
theorem Ee(L:List Int)(cr du:Int)(ad:Option Addr)(cap n:Nat)(w:World)(hr:Reads w 1 (.slice ad n cap) n (L.flatMap i64c))(hN:L.length=n)(hl:n<=1000):
  Calls Tryz.prog 258 #[.agg #[.slice ad n cap,.int .i64 cr,.int .i64 du]] w λe w'=>e= .returned (.tuple #[.agg (if Ps.Ar ⟨L,cr,du⟩=true then #[.slice ad n cap,.int .i64 cr,.int .i64 du] else #[.slice none 0 0,.int .i64 0,.int .i64 0]),.int .i64 (if Ps.Ar ⟨L,cr,du⟩=true then 0 else 5)])/\Keeps (λ_=>False) w w':=by
 refine j0d ?_;intro hri;rcases hb:Ps.Ar ⟨L,cr,du⟩ with _|_
 ·rw [hb] at hri;rw [if_neg j2,if_neg j2];obtain⟨Hr,Hri,Hb⟩:=hid3 hr hri hb;clear hb hri hr;go_enter Tryz.func258,Tryz.ntmps258;go_wp2_with fail;refine(Hri.out _ j8).mono ?_;rintro e w1 ⟨rfl,hk1⟩;refine j3z ?_;intro Hk1 hrs;refine jM ?_;intro r0 r1 r2 rf0 rf1 rf2 rl;have hb3:(((w1.setCell ⟨w.heap.size+1,0,none⟩ (.slice none 0 0)).setCell ⟨w.heap.size+1,1,none⟩ (.int .i64 0)).setCell ⟨w.heap.size+1,2,none⟩ (.int .i64 0)).heap[w.heap.size+1]?=some (.cells #[.slice none 0 0,.int .i64 0,.int .i64 0] 35 (0,0)):=(heap_setCell_same _ _ 2 _ _ _ ((heap_setCell_same _ _ 1 _ _ _ ((heap_setCell_same _ _ 0 _ _ _ hrs).trans rfl)).trans rfl)).trans rfl;have sr0:=Aa hb3 0;have sr1:=Aa hb3 1;have sr2:=Aa hb3 2;have hfin:Keeps (λ_=>False) w (((w1.setCell ⟨w.heap.size+1,0,none⟩ (.slice none 0 0)).setCell ⟨w.heap.size+1,1,none⟩ (.int .i64 0)).setCell ⟨w.heap.size+1,2,none⟩ (.int .i64 0)):=Hk1.out.trans ((((Keeps.setCell (S:=λi=>w.heap.size<=i) _ _ _ (by simp)).trans (Keeps.setCell _ _ _ (.inl (by simp)))).trans (Keeps.setCell _ _ _ (.inl (by simp)))).mono λi _ e=> .inr e);obtain⟨Hk1,Hrs,Hb3,Hfin,Sr0,Sr1,Sr2⟩:=hid7 hk1 hrs hb3 hfin sr0 sr1 sr2;clear sr2 sr1 sr0 hfin hb3 hrs hk1;go_wp2;refine ja ?_;intro R0' R1' R2';clear r0 r1 r2;exact bodyPost_ret (v:= .tuple #[.agg #[.slice none 0 0,.int .i64 0,.int .i64 0],.int .i64 5]) (by simp [results,Tryz.results258,go_sem,R0',R1',R2']) rfl ⟨rfl,Hfin.out⟩
 ·rw [hb] at hri;rw [if_pos rfl,if_pos rfl];obtain⟨Hr,Hri,Hb⟩:=hid3 hr hri hb;clear hb hri hr;go_enter Tryz.func258,Tryz.ntmps258;go_wp2_with fail;refine(Hri.out _ j8).mono ?_;rintro e w1 ⟨rfl,hk1⟩;have hbx:=j1P;have b0:=Aa hbx 0;have b1:=Aa hbx 1;have b2:=Aa hbx 2;have bl:=lt_of_block hbx;refine j3z ?_;intro Hk1 hrs;have Hbx:=Lib.hid hbx;clear hbx;refine jM ?_;intro r0 r1 r2 rf0 rf1 rf2 rl;have hb3:(((w1.setCell ⟨w.heap.size+1,0,none⟩ (.slice ad n cap)).setCell ⟨w.heap.size+1,1,none⟩ (.int .i64 cr)).setCell ⟨w.heap.size+1,2,none⟩ (.int .i64 du)).heap[w.heap.size+1]?=some (.cells #[.slice ad n cap,.int .i64 cr,.int .i64 du] 35 (0,0)):=(heap_setCell_same _ _ 2 _ _ _ ((heap_setCell_same _ _ 1 _ _ _ ((heap_setCell_same _ _ 0 _ _ _ hrs).trans rfl)).trans rfl)).trans rfl;have sr0:=Aa hb3 0;have sr1:=Aa hb3 1;have sr2:=Aa hb3 2;have hfin:Keeps (λ_=>False) w (((w1.setCell ⟨w.heap.size+1,0,none⟩ (.slice ad n cap)).setCell ⟨w.heap.size+1,1,none⟩ (.int .i64 cr)).setCell ⟨w.heap.size+1,2,none⟩ (.int .i64 du)):=Hk1.out.trans ((((Keeps.setCell (S:=λi=>w.heap.size<=i) _ _ _ (by simp)).trans (Keeps.setCell _ _ _ (.inl (by simp)))).trans (Keeps.setCell _ _ _ (.inl (by simp)))).mono λi _ e=> .inr e);obtain⟨Hk1,Hrs,Hb3,Hfin,Sr0,Sr1,Sr2⟩:=hid7 hk1 hrs hb3 hfin sr0 sr1 sr2;clear sr2 sr1 sr0 hfin hb3 hrs hk1;go_wp2;refine ja ?_;intro R0' R1' R2';clear r0 r1 r2;exact bodyPost_ret (v:= .tuple #[.agg #[.slice ad n cap,.int .i64 cr,.int .i64 du],.int .i64 0]) (by simp [results,Tryz.results258,go_sem,R0',R1',R2']) rfl ⟨rfl,Hfin.out⟩
def trB(n:Nat)(k:Int):Bool:=decide (1<=k)&&decide (k<=n)
def askE(p:Ps)(T:List Int)(a:Int):Int:=if p.Ar=true then(if T.all (trB p.bal.length)=true then(if Az a=true then 0 else 8) else 7) else 1
theorem Gg(L:List Int)(cr du a:Int)(T:List Int)(ad adT:Option Addr)(cap capT n m:Nat)(w:World)(hr:Reads w 1 (.slice ad n cap) n (L.flatMap i64c))(hN:L.length=n)(hl:n<=1000)(hT:Reads w 1 (.slice adT m capT) m (T.flatMap i64c))(hM:T.length=m)(hm:m<=1000):
  Calls Tryz.prog 255 #[.agg #[.slice ad n cap,.int .i64 cr,.int .i64 du],.int .i64 a,.slice adT m capT] w λe w'=>e= .returned (.int .i64 (askE ⟨L,cr,du⟩ T a))/\Keeps (λ_=>False) w w':=by
 refine j0d ?_;intro hri;obtain⟨z,hz⟩:∃z,askE ⟨L,cr,du⟩ T a=z:=⟨_,rfl⟩;have hz':=hz;unfold askE at hz';simp only at hz';rw [hN] at hz';rw [hz];refine jL ?_;intro hbx;rcases hb:Ps.Ar ⟨L,cr,du⟩ with _|_
 ·rw [hb] at hri hz';rw [if_neg j2] at hz';subst hz';obtain⟨Hr,HT,Hri,Hb,Hz,Hbx⟩:=hid6 hr hT hri hb hz hbx;clear hbx hz hb hri hT hr;go_enter Tryz.func255,Tryz.ntmps255;exact j1Q
 ·rw [hb] at hri hz';rw [if_pos rfl] at hz';obtain⟨Hr,HT,Hri,Hb,Hz,Hz',Hbx⟩:=hid7 hr hT hri hb hz hz' hbx;clear hbx hz' hz hb hri hT hr;go_enter Tryz.func255,Tryz.ntmps255;go_wp2_with fail;refine(Hri.out _ j8).mono ?_;rintro e w1 ⟨rfl,hk1⟩;have Hk1:=Lib.hid hk1;clear hk1;go_wp2
  go_loopw [14] (λx wx=>∃i:Nat,x= .int .i64 (i:Nat)/\i<=m/\(T.take i).all (trB n)=true/\Keeps (λ_=>False) w1 wx) (λx _=>m-(intOf x).toNat)
  case atStart=>exact⟨0,rfl,Nat.zero_le _,rfl,Keeps.refl _ _⟩
  case round=>
   obtain⟨i,rfl,him,hall,hk⟩:=hrel;refine jc ?_;intro wq hwq;subst hwq;have hkb:=Hk1.out.nt hk;have hkw:=(Keeps.alloc w _).nt hkb;by_cases hlt:i<m
   ·have hltI:(i:Int)<(m:Int):=j3;obtain⟨k,hx⟩:=Aj (L:=T) (k:=i) j1;obtain⟨g,o,he,hc⟩:=(HT.out.keeps hkw (by simp)).int (k:= .i64) hx;subst he;have hgl:=Ai hc;have hb:=Hbx.out wq hkb;have b0:=Aa hb 0;have bl:=lt_of_block hb;clear hb;by_cases hk1:1<=k/\k<=n
    ·obtain⟨k1,k2⟩:=hk1;have hall2:(T.take (i+1)).all (trB n)=true:=by rw [take_snoc' hx,List.all_append,hall];simp [trB,k1,k2]
     have k1':¬k<1:=j3;have k2':¬(n:Int)<k:=j3;obtain⟨Hall,Hk,Hkb,Hkw,Hx,Hall2⟩:=hid6 hall hk hkb hkw hx hall2;clear hall2 hx hkw hkb hk hall;go_wp2;go_roundw
     case rel=>exact⟨i+1,by go_num,by omega,Hall2.out,Hk.out⟩
     case measure=>simp [intOf];omega
    ·have hbad:T.all (trB n)=false:=by
      rw [Bool.eq_false_iff];intro h;have:=List.all_eq_true.1 h k (List.mem_of_getElem? hx);simp [trB] at this;omega
     have h:=Hz'.out;rw [hbad,if_neg j2] at h;subst h;obtain⟨Hall,Hk,Hkb,Hkw,Hx,Hbad⟩:=hid6 hall hk hkb hkw hx hbad;clear hbad hx hkw hkb hk hall;by_cases k1:k<1
     ·clear hk1;go_wp2;exact jV
     ·have k2:(n:Int)<k:=j3;clear hk1;go_wp2;exact jV
   ·obtain rfl:i=m:=by omega
    rw [List.take_of_length_le j1] at hall;have h:=Hz'.out;rw [hall,if_pos rfl] at h;rcases m3:Az a with _|_
    ·rw [m3,if_neg j2] at h;exact j3A
    ·rw [m3,if_pos rfl] at h;exact j3A
def Cg(p:Ps)(k a:Int):Ps:=⟨p.bal.set (k-1).toNat (p.bal.getD (k-1).toNat 0+(a-minI a p.cr)),p.cr-minI a p.cr,p.du⟩
theorem Jg(B g c:Nat)(L:List Int)(cr du k a:Int)(n:Nat)(w:World)(hb:w.heap[B]?=some (.cells #[.slice (some ⟨g,0,none⟩) n c,.int .i64 cr,.int .i64 du] 35 (0,0)))(hrow:RowZ w 2 g n c L)(hm:∀x,L[(k-1).toNat]?=some x->0<=x/\x<=1000000000000000)(hcr:0<=cr/\cr<=1000000000000000)(ha:0<=a/\a<=1000000000000000)(hk:1<=k/\k<=n)(hn:n<=1000):
  Calls Tryz.prog 257 #[(.pointer (some ⟨B,0,none⟩)),.int .i64 k,.int .i64 a] w λe w'=>e= .returned (.tuple #[])/\w'.heap[B]?=some (.cells #[.slice (some ⟨g,0,none⟩) n c,.int .i64 (cr-minI a cr),.int .i64 du] 35 (0,0))/\RowZ w' 2 g n c (L.set (k-1).toNat (L.getD (k-1).toNat 0+(a-minI a cr)))/\Keeps (λi=>i=B\/i=g) w w':=by
 obtain⟨i,hi⟩:∃i:Nat,(i:Int)=k-1:=⟨(k-1).toNat,by omega⟩;have hlen:=hrow.2;obtain⟨x,hx⟩:=Aj (L:=L) (k:=i) j1;have q3:(k-1).toNat=i:=j3;obtain⟨x1,x2⟩:=hm x (by rw [q3];exact hx);have hxD:L.getD (k-1).toNat 0=x:=by rw [q3,List.getD_eq_getElem?_getD,hx];rfl
 rw [hxD,q3];obtain⟨m,hmin⟩:∃m,minI a cr=m:=⟨_,rfl⟩;have hm2:0<=m/\m<=a/\m<=cr:=by rw [<-hmin];unfold minI;split<;>omega
 rw [hmin]
 have hgB:g≠B:=λe=>by
  subst e;exact Ag hrow.1 hb j2 rfl
 have b0:=Aa hb 0;have b1:=Aa hb 1;have b2:=Aa hb 2;have f1:=Ab hb 1;have bl:=lt_of_block hb;have ck:=hrow.cell hx;have fk:=hrow.free i;have lg:=hrow.lt;refine j1R ?_;intro q1 q2 q4;have k1:Keeps (λi=>i=B) w (w.setCell ⟨B,1,none⟩ (.int .i64 (cr-m))):=Keeps.setCell _ _ _ rfl;have k2:Keeps (λi=>i=g) (w.setCell ⟨B,1,none⟩ (.int .i64 (cr-m))) ((w.setCell ⟨B,1,none⟩ (.int .i64 (cr-m))).setCell ⟨g,i,none⟩ (.int .i64 (x+(a-m)))):=Keeps.setCell _ _ _ rfl;have hrow1:RowZ (w.setCell ⟨B,1,none⟩ (.int .i64 (cr-m))) 2 g n c L:=⟨k1.row hrow.1 (λg' hg e=>by simp only [Value.ownBlock,Option.some.injEq] at hg;subst hg;exact hgB e),hrow.2⟩;have hin:i<n:=j3
 have hpost:((w.setCell ⟨B,1,none⟩ (.int .i64 (cr-m))).setCell ⟨g,i,none⟩ (.int .i64 (x+(a-m)))).heap[B]?=some (.cells #[.slice (some ⟨g,0,none⟩) n c,.int .i64 (cr-m),.int .i64 du] 35 (0,0))/\RowZ ((w.setCell ⟨B,1,none⟩ (.int .i64 (cr-m))).setCell ⟨g,i,none⟩ (.int .i64 (x+(a-m)))) 2 g n c (L.set i (x+(a-m)))/\Keeps (λi=>i=B\/i=g) w ((w.setCell ⟨B,1,none⟩ (.int .i64 (cr-m))).setCell ⟨g,i,none⟩ (.int .i64 (x+(a-m)))):=
  ⟨Ac ((heap_setCell_same _ _ 1 _ _ _ hb).trans rfl) k2 (λe=>hgB e.symm),hrow1.set hin _,(k1.mono λi _ e=> .inl e).trans (k2.mono λi _ e=> .inl (.inr e))⟩
 have hgB2:¬B=g:=λe=>hgB e.symm;obtain⟨ha0,ha1⟩:=ha;obtain⟨hc0,hc1⟩:=hcr;obtain⟨m0,m1,m2⟩:=hm2;by_cases hle:a<=cr
 ·obtain rfl:m=a:=by rw [<-hmin];unfold minI;rw [if_pos hle]
  rw [Int.sub_self,Int.add_zero] at hpost⊢;exact j3B
 ·obtain rfl:m=cr:=by rw [<-hmin];unfold minI;rw [if_neg hle]
  rw [Int.sub_self] at hpost⊢;exact j3B
theorem Keeps.te{S T:Nat->Prop}{w w1 w2:World}(h:Keeps S w w1)(h2:Keeps T w1 w2)(hs:∀i,T i->S i):Keeps S w w2:=h.trans (h2.mono λi _ e=> .inl (hs i e))
theorem Bb {W : World} {R : Nat} {t : TypeId} {v0 c0 d0 : Value} (h : W.heap[R]? = some (.cells #[v0, c0, d0] t (0, 0))) (v c d : Value) :
    (((W.setCell ⟨R, 0, none⟩ v).setCell ⟨R, 1, none⟩ c).setCell ⟨R, 2, none⟩ d).heap[R]? = some (.cells #[v, c, d] t (0, 0)) /\ Keeps (λi => i = R) W (((W.setCell ⟨R, 0, none⟩ v).setCell ⟨R, 1, none⟩ c).setCell ⟨R, 2, none⟩ d) :=
  ⟨(heap_setCell_same _ _ 2 _ _ _ ((heap_setCell_same _ _ 1 _ _ _ ((heap_setCell_same _ _ 0 _ _ _ h).trans rfl)).trans rfl)).trans rfl,
   ((Keeps.setCell (S := λi => i = R) _ _ _ rfl).trans (Keeps.setCell _ _ _ (.inl rfl))).trans (Keeps.setCell _ _ _ (.inl rfl))⟩
theorem Co{w:World}{b:Nat}{e:TypeId}{s:Nat}{v:Value}{n:Nat}{xs:List Value}(h:w.ownsRow b e s v n xs)(hn:1<=n):∃g c,v= .slice (some ⟨g,0,none⟩) n c:=by
 rcases h.2 with⟨_,h0⟩|⟨g,c,_,h,_⟩
 ·omega
 ·exact⟨g,c,h⟩
theorem Gq{p:Ps}{T:List Int}{a:Int}(h:askE p T a=0):p.Ar=true/\T.all (trB p.bal.length)=true/\Az a=true:=by
 unfold askE at h;rcases h1:p.Ar with _|_
 ·rw [h1,if_neg j2] at h;omega
 ·rw [h1,if_pos rfl] at h;rcases h2:T.all (trB p.bal.length) with _|_
  ·rw [h2,if_neg j2] at h;omega
  ·rw [h2,if_pos rfl] at h;rcases h3:Az a with _|_
   ·rw [h3,if_neg j2] at h;omega
   ·exact⟨rfl,rfl,rfl⟩
theorem Cc{p:Ps}(h:p.Ar=true):(∀x∈p.bal,0<=x/\x<=1000000000000000)/\(0<=p.cr/\p.cr<=1000000000000000)/\(0<=p.du/\p.du<=1000000000000000)/\1<=p.bal.length/\p.bal.length<=8:=by
 simp only [Ps.Ar,scanB,Bool.and_eq_true,decide_eq_true_eq] at h;obtain⟨⟨h1,_⟩,h2,h3,h4,h5,_⟩:=h;exact⟨λx hx=>(Aw x).1 (List.all_eq_true.1 h1 x hx),(Aw _).1 h4,(Aw _).1 h5,h2,h3⟩
def Dp(p:Ps)(k a:Int):Ps×Int:=if askE p [k] a=0 then(if(Cg p k a).Ar=true then(Cg p k a,0) else(ps0,5)) else(ps0,askE p [k] a)
theorem Jm(L:List Int)(cr du k a:Int)(ad:Option Addr)(cap n:Nat)(w:World)(hr:Reads w 1 (.slice ad n cap) n (L.flatMap i64c))(hN:L.length=n)(hl:n<=1000):
  Calls Tryz.prog 212 #[.agg #[.slice ad n cap,.int .i64 cr,.int .i64 du],.int .i64 k,.int .i64 a] w (Di (Dp ⟨L,cr,du⟩ k a).1 (Dp ⟨L,cr,du⟩ k a).2 w):=by
 refine j3C ?_;intro z hz hask;rw [hz] at hask;unfold Dp;rw [hz];by_cases h0:z=0
 ·subst h0;rw [if_pos rfl];obtain⟨hright,htr,hmon⟩:=Gq hz;obtain⟨hbal,hcr,hdu,hn1,hn8⟩:=Cc hright;simp only at hbal hcr hdu hn1 hn8;rw [hN] at hn1 hn8;have hkk:1<=k/\k<=n:=by simpa [trB,hN] using htr
  have ham:=(Aw a).1 hmon;refine j0P ?_;intro hown;obtain⟨q,hq⟩:∃q,Cg ⟨L,cr,du⟩ k a=q:=⟨_,rfl⟩;rw [hq];obtain⟨R,hR⟩:∃R:Ps×Int,(if q.Ar=true then(q,0) else(ps0,5))=R:=⟨_,rfl⟩;rw [hR];obtain⟨Hr,Hask,Hown,Hz,Hright,Htr,Hmon,Hbal,Hcr⟩:=hid9 hr hask hown hz hright htr hmon hbal hcr;clear hcr hbal hmon htr hright hz hown hask hr;obtain⟨Hdu,Hkk,Ham,Hq,HR⟩:=hid5 hdu hkk ham hq hR;clear hR hq ham hkk hdu;go_enter Tryz.func212,Tryz.ntmps212;go_wp2_with fail
  all_goals
   refine(Hask.out _ _ j8 (Reads.litAt _ _ _ 1 1 _ (by simp) rfl)).mono ?_;rintro e w1 ⟨rfl,hk1⟩;have hkw:Keeps (λ_=>False) w w1:=(by(repeat (first|exact Keeps.refl _ _|exact Keeps.alloc _ _|exact Keeps.drew _|exact Keeps.drewN _ _|refine Keeps.Am ?_|refine Keeps.Al ?_|refine Keeps.Af ?_)):Keeps (λ_=>False) w (((w.alloc (.cells #[.slice ad n cap,.int .i64 cr,.int .i64 du] 35)).alloc (.cells #[.slice none 0 0,.int .i64 0,.int .i64 0] 35)).alloc (.cells #[.int .i64 k] 3))).nt hk1;have hbx:w1.heap[w.heap.size]?=some (.cells #[.slice ad n cap,.int .i64 cr,.int .i64 du] 35 (0,0)):=Ac (Ap (Ap (heap_alloc_new w _) _) _) hk1 (by simp);have hrs:w1.heap[w.heap.size+1]?=some (.cells #[.slice none 0 0,.int .i64 0,.int .i64 0] 35 (0,0)):=Ac (Ap (Av _ _ (by simp)) _) hk1 (by simp);have b0:=Aa hbx 0;have b1:=Aa hbx 1;have b2:=Aa hbx 2;have bl:=lt_of_block hbx;obtain⟨Hk1,Hkw,Hbx,Hrs⟩:=hid4 hk1 hkw hbx hrs;clear hrs hbx hkw hk1;go_wp2_with fail;refine(Hown.out _ Hkw.out).mono ?_;rintro e w2 ⟨v1,rfl,hrow,hk2,hnew⟩;obtain⟨g,c,rfl⟩:=Co hrow hn1;have hgn:w1.heap.size<=g:=hnew g rfl;have hbx2:=Ac Hbx.out hk2 (by simp);clear b0 b1 b2 bl;have hgB:g≠w.heap.size:=by have:=lt_of_block Hbx.out;omega
   have hgR:g≠w.heap.size+1:=by have:=lt_of_block Hrs.out;omega
   have hS:=Bb hbx2 (.slice (some ⟨g,0,none⟩) n c) (.int .i64 cr) (.int .i64 du);obtain⟨hb3,k3⟩:=hS;have hrow3:=k3.row hrow (λg' hg e=>by simp only [Value.ownBlock,Option.some.injEq] at hg;subst hg;exact hgB e);have hc0:=Jg w.heap.size g c L cr du k a n _ hb3 ⟨hrow3,hN⟩ (λx hx=>Hbal.out x (List.mem_of_getElem? hx)) Hcr.out Ham.out Hkk.out hl;have c0:=Aa hbx2 0;have c1:=Aa hbx2 1;have c2:=Aa hbx2 2;have f0:=Ab hbx2 0;have f1:=Ab hbx2 1;have f2:=Ab hbx2 2;have bl2:=lt_of_block hbx2;obtain⟨Hrow,Hk2,Hnew,Hgn,Hbx2,HgB,HgR,Hb3,K3⟩:=hid9 hrow hk2 hnew hgn hbx2 hgB hgR hb3 k3;clear k3 hb3 hgR hgB hbx2 hgn hnew hk2 hrow;obtain⟨Hrow3,Hc0⟩:=hid2 hrow3 hc0;clear hc0 hrow3;go_wp2_with fail;refine Hc0.out.mono ?_;rintro e w4 ⟨rfl,hb4,hrow4,hk4⟩;clear c0 c1 c2 f0 f1 f2 bl2;obtain⟨L2,hL2⟩:∃x,L.set (k-1).toNat (L.getD (k-1).toNat 0+(a-minI a cr))=x:=⟨_,rfl⟩;obtain⟨c2,hc2⟩:∃x,cr-minI a cr=x:=⟨_,rfl⟩;have hq:=Hq.out;unfold Cg at hq;simp only at hq;rw [hL2,hc2] at hq;rw [hL2] at hrow4;rw [hc2] at hb4;clear Hq;subst hq;have hrs4:w4.heap[w.heap.size+1]?=some (.cells #[.slice none 0 0,.int .i64 0,.int .i64 0] 35 (0,0)):=Ac (Ac (Ac Hrs.out Hk2.out (by simp)) K3.out (by simp)) hk4 (by have:=HgR.out;simp;omega);have hjud:=Ee L2 c2 du (some ⟨g,0,none⟩) c n w4 hrow4.reads hrow4.2 hl;have b0:=Aa hb4 0;have b1:=Aa hb4 1;have b2:=Aa hb4 2;have bl:=lt_of_block hb4;rcases hrt:Ps.Ar ⟨L2,c2,du⟩ with _|_
   ·skip
    rw [hrt,if_neg j2,if_neg j2] at hjud;have hR:=HR.out;clear HR;rw [hrt,if_neg j2] at hR;subst hR;obtain⟨HL2,Hc2,Hb4,Hrow4,Hk4,Hrs4,Hjud,Hrt⟩:=hid8 hL2 hc2 hb4 hrow4 hk4 hrs4 hjud hrt;clear hrt hjud hrs4 hk4 hrow4 hb4 hc2 hL2;go_wp2_with fail;refine Hjud.out.mono ?_;rintro e w5 ⟨rfl,hk5⟩;clear b0 b1 b2 bl;have hrs5:=Ac Hrs4.out hk5 (by simp);have hS3:=Bb hrs5 (.slice none 0 0) (.int .i64 0) (.int .i64 0);obtain⟨hb9,k9⟩:=hS3;have r0:=Aa hrs5 0;have r1:=Aa hrs5 1;have r2:=Aa hrs5 2;have rf0:=Ab hrs5 0;have rf1:=Ab hrs5 1;have rf2:=Ab hrs5 2;have rl:=lt_of_block hrs5;refine jo ?_;intro sr0 sr1 sr2;obtain⟨Hrs5,Hb9,K9,Sr0,Sr1,Sr2⟩:=hid6 hrs5 hb9 k9 sr0 sr1 sr2;clear sr2 sr1 sr0 k9 hb9 hrs5;have Hk5:=Lib.hid hk5;clear hk5;go_wp2;refine ja ?_;intro R0' R1' R2';clear r0 r1 r2;exact bodyPost_ret (v:= .tuple #[.agg #[.slice none 0 0,.int .i64 0,.int .i64 0],.int .i64 5]) j1S rfl ⟨_,rfl,⟨by simp [ps0],.inl ⟨rfl,rfl⟩⟩,Hkw.out.trans (((((Hk2.out.mono (λ_ _ e=>e.elim):Keeps (λi=>w.heap.size<=i) _ _).te K3.out (λi e=>by have e':i=w.heap.size:=e;omega)).te Hk4.out (λi e=>by have h1:=Hgn.out;have h2:=Hkw.out.size;rcases e with e'|e'<;>omega)).te Hk5.out (λi e=>e.elim)).te K9.out (λi e=>by have e':i=w.heap.size+1:=e;omega)|>.mono λi _ e=> .inr e),λg hg=>by simp [Value.ownBlock] at hg⟩
   ·skip
    rw [hrt,if_pos rfl,if_pos rfl] at hjud;have hR:=HR.out;clear HR;rw [hrt,if_pos rfl] at hR;subst hR;obtain⟨HL2,Hc2,Hb4,Hrow4,Hk4,Hrs4,Hjud,Hrt⟩:=hid8 hL2 hc2 hb4 hrow4 hk4 hrs4 hjud hrt;clear hrt hjud hrs4 hk4 hrow4 hb4 hc2 hL2;go_wp2_with fail;refine Hjud.out.mono ?_;rintro e w5 ⟨rfl,hk5⟩;clear b0 b1 b2 bl;have hrs5:=Ac Hrs4.out hk5 (by simp);have hS3:=Bb hrs5 (.slice (some ⟨g,0,none⟩) n c) (.int .i64 c2) (.int .i64 du);obtain⟨hb9,k9⟩:=hS3;have r0:=Aa hrs5 0;have r1:=Aa hrs5 1;have r2:=Aa hrs5 2;have rf0:=Ab hrs5 0;have rf1:=Ab hrs5 1;have rf2:=Ab hrs5 2;have rl:=lt_of_block hrs5;refine jo ?_;intro sr0 sr1 sr2;obtain⟨Hrs5,Hb9,K9,Sr0,Sr1,Sr2⟩:=hid6 hrs5 hb9 k9 sr0 sr1 sr2;clear sr2 sr1 sr0 k9 hb9 hrs5;have Hk5:=Lib.hid hk5;clear hk5;go_wp2;refine ja ?_;intro R0' R1' R2';clear r0 r1 r2;have hrow6:=K9.out.row (Hrow4.out.1.of_keeps Hk5.out) (λg' hg e=>by simp only [Value.ownBlock,Option.some.injEq] at hg;subst hg;exact HgR.out e);have hlen2:=Hrow4.out.2;exact bodyPost_ret (v:= .tuple #[.agg #[.slice (some ⟨g,0,none⟩) n c,.int .i64 c2,.int .i64 du],.int .i64 0]) j1S rfl ⟨_,rfl,(by rw [hlen2];exact hrow6),Hkw.out.trans (((((Hk2.out.mono (λ_ _ e=>e.elim):Keeps (λi=>w.heap.size<=i) _ _).te K3.out (λi e=>by have e':i=w.heap.size:=e;omega)).te Hk4.out (λi e=>by have h1:=Hgn.out;have h2:=Hkw.out.size;rcases e with e'|e'<;>omega)).te Hk5.out (λi e=>e.elim)).te K9.out (λi e=>by have e':i=w.heap.size+1:=e;omega)|>.mono λi _ e=> .inr e),λg' hg=>by simp only [Value.ownBlock,Option.some.injEq] at hg;subst hg;have h1:=Hgn.out;have h2:=Hkw.out.size;omega⟩
 ·rw [if_neg h0];obtain⟨Hr,Hask,Hz⟩:=hid3 hr hask hz;clear hz hask hr;go_enter Tryz.func212,Tryz.ntmps212;go_wp2_with fail
  all_goals
   refine(Hask.out _ _ j8 (Reads.litAt _ _ _ 1 1 _ (by simp) rfl)).mono ?_;rintro e w1 ⟨rfl,hk1⟩;have hkw:Keeps (λ_=>False) w w1:=(by(repeat (first|exact Keeps.refl _ _|exact Keeps.alloc _ _|exact Keeps.drew _|exact Keeps.drewN _ _|refine Keeps.Am ?_|refine Keeps.Al ?_|refine Keeps.Af ?_)):Keeps (λ_=>False) w (((w.alloc (.cells #[.slice ad n cap,.int .i64 cr,.int .i64 du] 35)).alloc (.cells #[.slice none 0 0,.int .i64 0,.int .i64 0] 35)).alloc (.cells #[.int .i64 k] 3))).nt hk1;have hrs:w1.heap[w.heap.size+1]?=some (.cells #[.slice none 0 0,.int .i64 0,.int .i64 0] 35 (0,0)):=Ac (Ap (Av _ _ (by simp)) _) hk1 (by simp);have hS3:=j0e;obtain⟨hb9,k9⟩:=hS3;have r0:=Aa hrs 0;have r1:=Aa hrs 1;have r2:=Aa hrs 2;have rf0:=Ab hrs 0;have rf1:=Ab hrs 1;have rf2:=Ab hrs 2;have rl:=lt_of_block hrs;have sr0:=Aa hb9 0;have sr1:=Aa hb9 1;have sr2:=Aa hb9 2;obtain⟨Hrs,Hb9,K9,Sr0,Sr1,Sr2⟩:=hid6 hrs hb9 k9 sr0 sr1 sr2;clear sr2 sr1 sr0 k9 hb9 hrs;obtain⟨Hk1,Hkw⟩:=hid2 hk1 hkw;clear hkw hk1;go_wp2;have R0':=Sr0.out;have R1':=Sr1.out;have R2':=Sr2.out;clear r0 r1 r2;exact bodyPost_ret (v:= .tuple #[.agg #[.slice none 0 0,.int .i64 0,.int .i64 0],.int .i64 z]) j1S rfl ⟨_,rfl,⟨by simp [ps0],.inl ⟨rfl,rfl⟩⟩,Hkw.out.trans (K9.out.mono λi _ e=> .inr jq),λg hg=>by simp [Value.ownBlock] at hg⟩
def mayS(v:Int):Bool:=decide (-1000000000000000<=v)&&decide (v<=1000000000000000)
theorem Gm(v:Int):mayS v=true↔ -1000000000000000<=v/\v<=1000000000000000:=by simp [mayS]
theorem Xa(v:Int)(w:World):Calls Tryz.prog 155 #[.int .i64 v] w λe w'=>e= .returned (.bool (mayS v))/\w=w':=by
 by_cases h1:v< -1000000000000000
 ·have hf:mayS v=false:=by simp [mayS];omega
  have hd:decide (-1000000000000000<=v)=false:=by rw [decide_eq_false_iff_not];omega
  have Hf:=Lib.hid hf;clear hf;go_enter Tryz.func155,Tryz.ntmps155;exact jv
 ·by_cases h2:1000000000000000<v
  ·have hf:mayS v=false:=by simp [mayS];omega
   have hd:decide (v<=1000000000000000)=false:=by rw [decide_eq_false_iff_not];omega
   exact j3D
  ·have hf:mayS v=true:=by simp [mayS];omega
   have hd:decide (v<=1000000000000000)=true:=by rw [decide_eq_true_iff];omega
   exact j3D
theorem En{v:Int}{b:Bool}(h:mayS v=b)(w:World):Calls Tryz.prog 155 #[.int .i64 v] w λe w'=>e= .returned (.bool b)/\w=w':=by subst h;exact Xa v w
def addS:List Int->Int->Int×Int
 | [],s=>(s,0)
 |x::L,s=>if(mayS x&&mayS (s+x))=true then addS L (s+x) else(0,5)
theorem Yo:∀(L:List Int) (s:Int),0<=s->L.all Az=true->s+sumI L<=1000000000000000->addS L s=(s+sumI L,0):=by
 intro L
 induction L with
 |nil=>intro s _ _ _;simp [addS,sumI]
 |cons x L ih=>
  intro s h0 h1 h2;simp only [List.all_cons,Bool.and_eq_true] at h1;obtain⟨x0,x1⟩:=(Aw x).1 h1.1;have h3:=Ng h1.2;simp only [sumI] at h2⊢;have m1:mayS x=true:=(Gm x).2 j1;have m2:mayS (s+x)=true:=(Gm _).2 j1;simp only [addS,m1,m2,Bool.and_self,if_true];rw [ih (s+x) j1 h1.2 j1,Int.add_assoc]
theorem Xb(L:List Int)(ad:Option Addr)(cap n:Nat)(w:World)(hr:Reads w 1 (.slice ad n cap) n (L.flatMap i64c))(hN:L.length=n)(hl:n<=1000000):
  Calls Tryz.prog 235 #[.slice ad n cap] w λe w'=>e= .returned (.tuple #[.int .i64 (addS L 0).1,.int .i64 (addS L 0).2])/\w=w':=by
 obtain⟨z,hz⟩:∃z,addS L 0=z:=⟨_,rfl⟩;rw [hz];obtain⟨Hr,Hz,HN⟩:=hid3 hr hz hN;clear hN hz hr;go_enter Tryz.func235,Tryz.ntmps235;go_wp2_with fail;refine Bi 0 rfl ?_;go_wp2_with fail
 go_loopw [4,9] (λx y wx=>∃(i:Nat) (s:Int),x= .int .i64 s/\y= .int .i64 (i:Nat)/\i<=n/\mayS s=true/\addS (L.drop i) s=z/\w=wx) (λ_ y _=>n-(intOf y).toNat)
 case atStart=>exact⟨0,0,rfl,rfl,Nat.zero_le _,rfl,Hz.out,rfl⟩
 case round=>
  obtain⟨i,s,rfl,rfl,hin,hms,hs,hw⟩:=hrel;subst hw;by_cases hlt:i<n
  ·have hltI:(i:Int)<(n:Int):=j3;obtain⟨x,hx⟩:=Aj (L:=L) (k:=i) jw;obtain⟨g,o,he,hc⟩:=Hr.out.int (k:= .i64) hx;subst he;have hgl:=Ai hc;obtain⟨s0,s1⟩:=(Gm s).1 hms
   have hd:L.drop i=x::L.drop (i+1):=by
    exact j3E
   rw [hd] at hs;simp only [addS] at hs;rcases m3:mayS x with _|_
   ·rw [m3,Bool.false_and,if_neg j2] at hs;subst hs;obtain⟨Hx,Hms,Hd⟩:=hid3 hx hms hd;clear hd hms hx
    go_wp2_with (go_at_call 155;(with_reducible refine(En m3 _).mono ?_);rintro e w1 ⟨rfl,rfl⟩)
    exact j3F
   ·obtain⟨x0,x1⟩:=(Gm x).1 m3;rcases m4:mayS (s+x) with _|_
    ·rw [m4,Bool.and_false,if_neg j2] at hs;subst hs;obtain⟨Hx,Hms,Hd⟩:=hid3 hx hms hd;clear hd hms hx
     go_wp2_with (first|(go_at_call 155;(with_reducible refine(En m3 _).mono ?_);rintro e w1 ⟨rfl,rfl⟩)|(go_at_call 155;(with_reducible refine(En m4 _).mono ?_);rintro e w1 ⟨rfl,rfl⟩))
     exact j3F
    ·obtain⟨y0,y1⟩:=(Gm _).1 m4;rw [m3,m4,Bool.and_self,if_pos rfl] at hs;obtain⟨Hx,Hms,Hd,Hs⟩:=hid4 hx hms hd hs;clear hs hd hms hx
     go_wp2_with (first|(go_at_call 155;(with_reducible refine(En m3 _).mono ?_);rintro e w1 ⟨rfl,rfl⟩)|(go_at_call 155;(with_reducible refine(En m4 _).mono ?_);rintro e w1 ⟨rfl,rfl⟩))
     go_roundw
     case rel=>exact⟨i+1,s+x,rfl,by go_num,by omega,m4,Hs.out,by first|rfl|trivial⟩
     case measure=>simp [intOf];omega
  ·obtain rfl:i=n:=by omega
   rw [List.drop_eq_nil_of_le j0f] at hs;simp only [addS] at hs;subst hs;go_wp2;refine Bu ?_;exact bodyPost_ret (v:= .tuple #[.int .i64 s,.int .i64 0]) (by simp [results,Tryz.results235,go_sem]) rfl ⟨rfl,rfl⟩
theorem Ki(p:Ps)(ad:Option Addr)(cap:Nat)(w:World)(hr:Reads w 1 (.slice ad p.bal.length cap) p.bal.length (p.bal.flatMap i64c))(hl:p.bal.length<=1000):
  Calls Tryz.prog 183 #[p.val (.slice ad p.bal.length cap)] w λe w'=>e= .returned (.int .i64 (if p.Ar=true then sumI p.bal else 0))/\Keeps (λ_=>False) w w':=by
 obtain⟨L,cr,du⟩:=p;simp only [Ps.val] at hr hl⊢;obtain⟨n,hN⟩:∃n,L.length=n:=⟨_,rfl⟩;rw [hN] at hr hl⊢;refine j0d ?_;intro hri;refine jL ?_;intro hbx;rcases hb:Ps.Ar ⟨L,cr,du⟩ with _|_
 ·rw [hb] at hri;rw [if_neg j2];obtain⟨Hr,Hri,Hb,Hbx⟩:=hid4 hr hri hb hbx;clear hbx hb hri hr;go_enter Tryz.func183,Tryz.ntmps183;exact j1Q
 ·rw [hb] at hri;rw [if_pos rfl]
  have had:addS L 0=(sumI L,0):=by
   have h1:=hb;simp only [Ps.Ar,scanB,Bool.and_eq_true] at h1;have h2:=Yo L 0 (Int.le_refl _) h1.1.1 (by have:=(Aw _).1 h1.1.2;omega);rw [h2,Int.zero_add]
  obtain⟨S,hS⟩:∃S,sumI L=S:=⟨_,rfl⟩;rw [hS] at had⊢;have hadd:=λW (hW:Keeps (λ_=>False) w W)=>Xb L ad cap n W (hr.keeps hW (by simp)) hN j1;rw [had] at hadd;obtain⟨Hr,Hri,Hb,Hbx,Had,Hadd,HS⟩:=hid7 hr hri hb hbx had hadd hS;clear hS hadd had hbx hb hri hr;go_enter Tryz.func183,Tryz.ntmps183;go_wp2_with fail;refine(Hri.out _ j8).mono ?_;rintro e w1 ⟨rfl,hk1⟩;have hkw:=(Keeps.alloc w _).nt hk1;have hb1:=Hbx.out w1 hk1;have b0:=Aa hb1 0;have bl:=lt_of_block hb1;obtain⟨Hk1,Hkw,Hb1⟩:=hid3 hk1 hkw hb1;clear hb1 hkw hk1
  go_wp2_with (go_at_call 235;(with_reducible refine(Hadd.out _ Hkw.out).mono ?_);rintro e w2 ⟨rfl,rfl⟩)
  exact jV
theorem or_pow(k:Nat)(a c:Int)(h0:0<=a)(h1:a*((2 ^ k:Nat):Int)<18446744073709551616)(c0:0<=c)(c1:c<((2 ^ k:Nat):Int))(c2:c<18446744073709551616):bits .or .u64 (a*((2 ^ k:Nat):Int)) c=(a*((2 ^ k:Nat):Int)+c) % 18446744073709551616:=by
 obtain⟨m,rfl⟩:=Int.eq_ofNat_of_zero_le h0;obtain⟨d,rfl⟩:=Int.eq_ofNat_of_zero_le c0;have hor:2 ^ k*m|||d=2 ^ k*m+d:=(Nat.two_pow_add_eq_or_of_lt (i:=k) (b:=d) j1 m).symm
 have e1:((m:Int)*((2 ^ k:Nat):Int))=((2 ^ k*m:Nat):Int):=by push_cast;rw [Int.mul_comm]
 rw [e1] at h1⊢;have hm:(((2 ^ k*m:Nat):Int) % 18446744073709551616).toNat=2 ^ k*m:=j3;have hd:((d:Int) % 18446744073709551616).toNat=d:=j3;simp only [bits,show IntKind.u64.bits=64 from rfl,BitVec.toNat_or,BitVec.toNat_ofInt];simp only [show((2 ^ 64:Nat):Int)=18446744073709551616 from rfl];rw [hm,hd,hor];simp [IntKind.wrap,IntKind.signed,IntKind.bits]
theorem Jd(x:Int)(h0:0<=x)(h1:x<18446744073709551616):bits .and .u64 x 4294967295=x % 4294967296:=by
 obtain⟨m,rfl⟩:=Int.eq_ofNat_of_zero_le h0;have hm:((m:Int) % 18446744073709551616).toNat=m:=j3;have hand:m&&&4294967295=m % 4294967296:=Nat.and_two_pow_sub_one_eq_mod m 32;refine j3G ?_;rw [hm,show((4294967295:Int) % 18446744073709551616).toNat=4294967295 by decide,hand];simp [IntKind.wrap,IntKind.signed,IntKind.bits];omega
theorem len64_9(w:World):Calls Tryz.prog 300 #[.int .u64 1000000000] w λe w'=>e= .returned (.int .i64 30)/\w=w':=by
 go_enter Tryz.func300,Tryz.ntmps300;go_wp2;go_ret;exact⟨by kernel_rfl,rfl⟩
theorem len64_3(w:World):Calls Tryz.prog 300 #[.int .u64 1000] w λe w'=>e= .returned (.int .i64 10)/\w=w':=by
 go_enter Tryz.func300,Tryz.ntmps300;go_wp2;go_ret;exact⟨by kernel_rfl,rfl⟩
theorem lz64_9(w:World):Calls Tryz.prog 297 #[.int .u64 1000000000] w λe w'=>e= .returned (.int .i64 34)/\w=w':=by
 go_enter Tryz.func297,Tryz.ntmps297
 go_wp2_with (go_at_call 300;(with_reducible refine(len64_9 _).mono ?_);rintro e w1 ⟨rfl,rfl⟩)
 go_ret;exact⟨rfl,rfl⟩
theorem lz64_3(w:World):Calls Tryz.prog 297 #[.int .u64 1000] w λe w'=>e= .returned (.int .i64 54)/\w=w':=by
 go_enter Tryz.func297,Tryz.ntmps297
 go_wp2_with (go_at_call 300;(with_reducible refine(len64_3 _).mono ?_);rintro e w1 ⟨rfl,rfl⟩)
 go_ret;exact⟨rfl,rfl⟩
theorem div64_9(hi lo:Int)(w:World)(h0:0<=hi)(h1:hi<1000000000)(l0:0<=lo)(l1:lo<18446744073709551616):
  Calls Tryz.prog 289 #[.int .u64 hi,.int .u64 lo,.int .u64 1000000000] w λe w'=>e= .returned (.tuple #[.int .u64 ((hi*18446744073709551616+lo) / 1000000000),.int .u64 ((hi*18446744073709551616+lo) % 1000000000)])/\Keeps (λ_=>False) w w':=by
 by_cases hz:hi=0
 ·subst hz;have e1:(0*18446744073709551616+lo)=lo:=j3;rw [e1];have t1:lo.tdiv 1000000000=lo / 1000000000:=Int.tdiv_eq_ediv_of_nonneg l0;have t2:lo.tmod 1000000000=lo % 1000000000:=Int.tmod_eq_emod_of_nonneg l0;have b1:0<=lo / 1000000000:=j3;have b2:lo / 1000000000<18446744073709551616:=j3;have b3:0<=lo % 1000000000:=j3;have b4:lo % 1000000000<1000000000:=j3;have b5:IntKind.u64.wrap (lo / 1000000000)=lo / 1000000000:=by simp [IntKind.wrap,IntKind.signed,IntKind.bits];omega
  have b6:IntKind.u64.wrap (lo % 1000000000)=lo % 1000000000:=by simp [IntKind.wrap,IntKind.signed,IntKind.bits];omega
  go_enter Tryz.func289,Tryz.ntmps289;go_wp2;refine Ak (λ_=>True) (.take 0 (.take 1 (.take 2 (.take 3 (.take 4 (.take 5 (.take 6 (.take 7 .done)))))))) j4 j4 ?_ ?_
  ·trivial
  intro w1 hs1 hk1;refine jf ?_;go_wp2;exact bodyPost_ret (v:= .tuple #[.int .u64 (lo / 1000000000),.int .u64 (lo % 1000000000)]) j0Q rfl ⟨rfl,hk1⟩
 ·have hzI:(hi==0)=false:=beq_eq_false_iff_ne.2 hz;have hleI:decide ((1000000000:Int)<=hi)=false:=by rw [decide_eq_false_iff_not];omega
  obtain⟨V,hV⟩:∃V,V=IntKind.u64.wrap (lo*17179869184):=⟨_,rfl⟩;have hV2:V=lo*17179869184 % 18446744073709551616:=by rw [hV];simp [IntKind.wrap,IntKind.signed,IntKind.bits]
  have hV':IntKind.u64.wrap (lo*17179869184)=V:=hV.symm;obtain⟨V1,hV1⟩:∃V1,V / 4294967296=V1:=⟨_,rfl⟩;obtain⟨V0,hV0⟩:∃V0,bits .and .u64 V 4294967295=V0:=⟨_,rfl⟩;have hV0':V % 4294967296=V0:=by rw [<-hV0,Jd V j1 j1]
  have hA0:bits .and .u64 17179869184000000000 4294967295=0:=by rw [Jd _ j2 j2];decide
  obtain⟨U,hU⟩:∃U,bits .or .u64 (hi*17179869184) (lo / 1073741824)=U:=⟨_,rfl⟩
  have hU2:U=hi*17179869184+lo / 1073741824:=by
   have h:=or_pow 34 hi (lo / 1073741824) h0 j3H j1 j3H j1;simp only [show((2 ^ 34:Nat):Int)=17179869184 from rfl] at h;rw [<-hU,h];omega
  have u0:0<=U:=j3;have u1:U<4000000000*4294967296:=j3;obtain⟨q1,hq1⟩:∃q1,U.tdiv 4000000000=q1:=⟨_,rfl⟩;have hq1':q1=U / 4000000000:=by rw [<-hq1];exact Int.tdiv_eq_ediv_of_nonneg u0
  have q10:0<=q1:=j3;have q11:q1<4294967296:=j3;obtain⟨r1,hr1⟩:∃r1,U-q1*4000000000=r1:=⟨_,rfl⟩;have r10:0<=r1:=j3;have r11:r1<4000000000:=j3;have v10:0<=V1:=j3;have v11:V1<4294967296:=j3;have qn:decide (4294967296<=q1)=false:=by rw [decide_eq_false_iff_not];omega
  obtain⟨X,hX⟩:∃X,X=r1*4294967296+V1:=⟨_,rfl⟩;have x0:0<=X:=j3;have x1:X<18446744073709551616:=j3;have hxx:4294967296*r1+V1=X:=j3;have xn:decide (X<0)=false:=by rw [decide_eq_false_iff_not];omega
  obtain⟨A1,hA1⟩:∃A1,IntKind.u64.wrap (U*4294967296)=A1:=⟨_,rfl⟩;obtain⟨A2,hA2⟩:∃A2,IntKind.u64.wrap (A1+V1)=A2:=⟨_,rfl⟩;obtain⟨A3,hA3⟩:∃A3,IntKind.u64.wrap (q1*17179869184000000000)=A3:=⟨_,rfl⟩
  have hA4:IntKind.u64.wrap (A2-A3)=X:=by
   simp [IntKind.wrap,IntKind.signed,IntKind.bits] at hA1 hA2 hA3⊢;omega
  obtain⟨q0,hq0⟩:∃q0,X.tdiv 4000000000=q0:=⟨_,rfl⟩;have hq0':q0=X / 4000000000:=by rw [<-hq0];exact Int.tdiv_eq_ediv_of_nonneg x0
  have q00:0<=q0:=j3;have q01:q0<4294967296:=j3;obtain⟨r0,hr0⟩:∃r0,X-q0*4000000000=r0:=⟨_,rfl⟩;have r00:0<=r0:=j3;have r01:r0<4000000000:=j3;have qn0:decide (4294967296<=q0)=false:=by rw [decide_eq_false_iff_not];omega
  have v00:0<=V0:=j3;have v01:V0<4294967296:=j3;obtain⟨Y,hY⟩:∃Y,Y=r0*4294967296+V0:=⟨_,rfl⟩;have y0:0<=Y:=j3;have y1:Y<18446744073709551616:=j3;have hyy:4294967296*r0+V0=Y:=j3;have yn:decide (Y<0)=false:=by rw [decide_eq_false_iff_not];omega
  obtain⟨B1,hB1⟩:∃B1,IntKind.u64.wrap (X*4294967296)=B1:=⟨_,rfl⟩;obtain⟨B2,hB2⟩:∃B2,IntKind.u64.wrap (B1+V0)=B2:=⟨_,rfl⟩;obtain⟨B3,hB3⟩:∃B3,IntKind.u64.wrap (q0*17179869184000000000)=B3:=⟨_,rfl⟩
  have hB4:IntKind.u64.wrap (B2-B3)=Y:=by
   simp [IntKind.wrap,IntKind.signed,IntKind.bits] at hB1 hB2 hB3⊢;omega
  obtain⟨N,hN⟩:∃N,N=hi*18446744073709551616+lo:=⟨_,rfl⟩
  have hfin:q1*4294967296+q0=N / 1000000000/\Y / 17179869184=N % 1000000000:=by
   have k1:N*17179869184=U*18446744073709551616+V:=j3;have k2:N*17179869184=(q1*4294967296+q0)*17179869184000000000+Y:=j3;omega
  rw [<-hN];obtain⟨HV,HV2,HU2,Hq1',HX,Hq0',HY,HN,Hfin⟩:=hid9 hV hV2 hU2 hq1' hX hq0' hY hN hfin;clear hfin hN hY hq0' hX hq1' hU2 hV2 hV;have HV0':=Lib.hid hV0';clear hV0';go_enter Tryz.func289,Tryz.ntmps289
  go_wp2_with (go_at_call 297;(with_reducible refine(lz64_9 _).mono ?_);rintro e w1 ⟨rfl,rfl⟩)
  go_loop [15,16] (λx y=>x= .int .u64 q1/\y= .int .u64 r1) (λ_ _=>0)
  case atStart=>exact⟨rfl,rfl⟩
  case round=>
   obtain⟨rfl,rfl⟩:=hrel;go_wp2
   go_loop [18,16] (λx y=>x= .int .u64 q0/\y= .int .u64 r0) (λ_ _=>0)
   case atStart=>exact⟨rfl,rfl⟩
   case round=>
    obtain⟨rfl,rfl⟩:=hrel;go_wp2;exact bodyPost_ret (v:= .tuple #[.int .u64 (q1*4294967296+q0),.int .u64 (Y / 17179869184)]) j0Q rfl ⟨by rw [Hfin.out.1,Hfin.out.2],Keeps.refl _ _⟩
theorem div64_3(hi lo:Int)(w:World)(h0:0<=hi)(h1:hi<1000)(l0:0<=lo)(l1:lo<18446744073709551616):
  Calls Tryz.prog 289 #[.int .u64 hi,.int .u64 lo,.int .u64 1000] w λe w'=>e= .returned (.tuple #[.int .u64 ((hi*18446744073709551616+lo) / 1000),.int .u64 ((hi*18446744073709551616+lo) % 1000)])/\Keeps (λ_=>False) w w':=by
 by_cases hz:hi=0
 ·subst hz;have e1:(0*18446744073709551616+lo)=lo:=j3;rw [e1];have t1:lo.tdiv 1000=lo / 1000:=Int.tdiv_eq_ediv_of_nonneg l0;have t2:lo.tmod 1000=lo % 1000:=Int.tmod_eq_emod_of_nonneg l0;have b1:0<=lo / 1000:=j3;have b2:lo / 1000<18446744073709551616:=j3;have b3:0<=lo % 1000:=j3;have b4:lo % 1000<1000:=j3;have b5:IntKind.u64.wrap (lo / 1000)=lo / 1000:=by simp [IntKind.wrap,IntKind.signed,IntKind.bits];omega
  have b6:IntKind.u64.wrap (lo % 1000)=lo % 1000:=by simp [IntKind.wrap,IntKind.signed,IntKind.bits];omega
  go_enter Tryz.func289,Tryz.ntmps289;go_wp2;refine Ak (λ_=>True) (.take 0 (.take 1 (.take 2 (.take 3 (.take 4 (.take 5 (.take 6 (.take 7 .done)))))))) j4 j4 ?_ ?_
  ·trivial
  intro w1 hs1 hk1;refine jf ?_;go_wp2;exact bodyPost_ret (v:= .tuple #[.int .u64 (lo / 1000),.int .u64 (lo % 1000)]) j0Q rfl ⟨rfl,hk1⟩
 ·have hzI:(hi==0)=false:=beq_eq_false_iff_ne.2 hz;have hleI:decide ((1000:Int)<=hi)=false:=by rw [decide_eq_false_iff_not];omega
  obtain⟨V,hV⟩:∃V,V=IntKind.u64.wrap (lo*18014398509481984):=⟨_,rfl⟩;have hV2:V=lo*18014398509481984 % 18446744073709551616:=by rw [hV];simp [IntKind.wrap,IntKind.signed,IntKind.bits]
  have hV':IntKind.u64.wrap (lo*18014398509481984)=V:=hV.symm;obtain⟨V1,hV1⟩:∃V1,V / 4294967296=V1:=⟨_,rfl⟩;obtain⟨V0,hV0⟩:∃V0,bits .and .u64 V 4294967295=V0:=⟨_,rfl⟩;have hV0':V % 4294967296=V0:=by rw [<-hV0,Jd V j1 j1]
  have hA0:bits .and .u64 18014398509481984000 4294967295=0:=by rw [Jd _ j2 j2];decide
  obtain⟨U,hU⟩:∃U,bits .or .u64 (hi*18014398509481984) (lo / 1024)=U:=⟨_,rfl⟩
  have hU2:U=hi*18014398509481984+lo / 1024:=by
   have h:=or_pow 54 hi (lo / 1024) h0 j3I j1 j3I j1;simp only [show((2 ^ 54:Nat):Int)=18014398509481984 from rfl] at h;rw [<-hU,h];omega
  have u0:0<=U:=j3;have u1:U<4194304000*4294967296:=j3;obtain⟨q1,hq1⟩:∃q1,U.tdiv 4194304000=q1:=⟨_,rfl⟩;have hq1':q1=U / 4194304000:=by rw [<-hq1];exact Int.tdiv_eq_ediv_of_nonneg u0
  have q10:0<=q1:=j3;have q11:q1<4294967296:=j3;obtain⟨r1,hr1⟩:∃r1,U-q1*4194304000=r1:=⟨_,rfl⟩;have r10:0<=r1:=j3;have r11:r1<4194304000:=j3;have v10:0<=V1:=j3;have v11:V1<4294967296:=j3;have qn:decide (4294967296<=q1)=false:=by rw [decide_eq_false_iff_not];omega
  obtain⟨X,hX⟩:∃X,X=r1*4294967296+V1:=⟨_,rfl⟩;have x0:0<=X:=j3;have x1:X<18446744073709551616:=j3;have hxx:4294967296*r1+V1=X:=j3;have xn:decide (X<0)=false:=by rw [decide_eq_false_iff_not];omega
  obtain⟨A1,hA1⟩:∃A1,IntKind.u64.wrap (U*4294967296)=A1:=⟨_,rfl⟩;obtain⟨A2,hA2⟩:∃A2,IntKind.u64.wrap (A1+V1)=A2:=⟨_,rfl⟩;obtain⟨A3,hA3⟩:∃A3,IntKind.u64.wrap (q1*18014398509481984000)=A3:=⟨_,rfl⟩
  have hA4:IntKind.u64.wrap (A2-A3)=X:=by
   simp [IntKind.wrap,IntKind.signed,IntKind.bits] at hA1 hA2 hA3⊢;omega
  obtain⟨q0,hq0⟩:∃q0,X.tdiv 4194304000=q0:=⟨_,rfl⟩;have hq0':q0=X / 4194304000:=by rw [<-hq0];exact Int.tdiv_eq_ediv_of_nonneg x0
  have q00:0<=q0:=j3;have q01:q0<4294967296:=j3;obtain⟨r0,hr0⟩:∃r0,X-q0*4194304000=r0:=⟨_,rfl⟩;have r00:0<=r0:=j3;have r01:r0<4194304000:=j3;have qn0:decide (4294967296<=q0)=false:=by rw [decide_eq_false_iff_not];omega
  have v00:0<=V0:=j3;have v01:V0<4294967296:=j3;obtain⟨Y,hY⟩:∃Y,Y=r0*4294967296+V0:=⟨_,rfl⟩;have y0:0<=Y:=j3;have y1:Y<18446744073709551616:=j3;have hyy:4294967296*r0+V0=Y:=j3;have yn:decide (Y<0)=false:=by rw [decide_eq_false_iff_not];omega
  obtain⟨B1,hB1⟩:∃B1,IntKind.u64.wrap (X*4294967296)=B1:=⟨_,rfl⟩;obtain⟨B2,hB2⟩:∃B2,IntKind.u64.wrap (B1+V0)=B2:=⟨_,rfl⟩;obtain⟨B3,hB3⟩:∃B3,IntKind.u64.wrap (q0*18014398509481984000)=B3:=⟨_,rfl⟩
  have hB4:IntKind.u64.wrap (B2-B3)=Y:=by
   simp [IntKind.wrap,IntKind.signed,IntKind.bits] at hB1 hB2 hB3⊢;omega
  obtain⟨N,hN⟩:∃N,N=hi*18446744073709551616+lo:=⟨_,rfl⟩
  have hfin:q1*4294967296+q0=N / 1000/\Y / 18014398509481984=N % 1000:=by
   have k1:N*18014398509481984=U*18446744073709551616+V:=j3;have k2:N*18014398509481984=(q1*4294967296+q0)*18014398509481984000+Y:=j3;omega
  rw [<-hN];obtain⟨HV,HV2,HU2,Hq1',HX,Hq0',HY,HN,Hfin⟩:=hid9 hV hV2 hU2 hq1' hX hq0' hY hN hfin;clear hfin hN hY hq0' hX hq1' hU2 hV2 hV;have HV0':=Lib.hid hV0';clear hV0';go_enter Tryz.func289,Tryz.ntmps289
  go_wp2_with (go_at_call 297;(with_reducible refine(lz64_3 _).mono ?_);rintro e w1 ⟨rfl,rfl⟩)
  go_loop [15,16] (λx y=>x= .int .u64 q1/\y= .int .u64 r1) (λ_ _=>0)
  case atStart=>exact⟨rfl,rfl⟩
  case round=>
   obtain⟨rfl,rfl⟩:=hrel;go_wp2
   go_loop [18,16] (λx y=>x= .int .u64 q0/\y= .int .u64 r0) (λ_ _=>0)
   case atStart=>exact⟨rfl,rfl⟩
   case round=>
    obtain⟨rfl,rfl⟩:=hrel;go_wp2;exact bodyPost_ret (v:= .tuple #[.int .u64 (q1*4294967296+q0),.int .u64 (Y / 18014398509481984)]) j0Q rfl ⟨by rw [Hfin.out.1,Hfin.out.2],Keeps.refl _ _⟩
open Go.Shelf Go.RowKit
def We:Go.Shelf.Ren:=⟨fun|264=>95|n=>n,fun|53=>102|46=>28|n=>n,fun|n=>n⟩
theorem lays264:Go.Proofs.Lays.n264 Tryz.prog We:={
 mixed:=by kernel_rfl
 f264:=Tryz.func95.trans (congrArg some (by kernel_rfl))
 t46:=Tryz.underlying28
 a46:=Tryz.isAgg28
 z46:=Tryz.sizeOf28
 v46:=Tryz.zeroValue28
 t53:=Tryz.underlying102
 a53:=Tryz.isAgg102
 z53:=Tryz.sizeOf102
 v53:=Tryz.zeroValue102 }
theorem Rv(x y:Int)(hx:0<=x)(hx':x<18446744073709551616)(hy:0<=y)(hy':y<18446744073709551616)(w:World):
  Calls Tryz.prog 95 #[.int .u64 x,.int .u64 y] w λe w'=>e= .returned (.tuple #[.int .u64 (x*y / 18446744073709551616),.int .u64 (x*y % 18446744073709551616)])/\w=w':=by
 obtain⟨a,rfl⟩:=Int.eq_ofNat_of_zero_le hx;obtain⟨b,rfl⟩:=Int.eq_ofNat_of_zero_le hy;refine(Any.bits_Mul64 lays264 a b j1 j1 w).mono ?_;rintro e w' ⟨rfl,rfl⟩;refine⟨?_,rfl⟩
 congr 4
theorem add64_run(x y:Int)(hx:0<=x)(hx':x<18446744073709551616)(hy:0<=y)(hy':y<18446744073709551616)(w:World):
  (callFunc 158 #[.int .u64 x,.int .u64 y,.int .u64 0]).run Tryz.prog w= .ok (.value (.tuple #[.int .u64 ((x+y) % 18446744073709551616),.int .u64 ((x+y) / 18446744073709551616)])) w:=by
 obtain⟨a,rfl⟩:=Int.eq_ofNat_of_zero_le hx;obtain⟨b,rfl⟩:=Int.eq_ofNat_of_zero_le hy;have h:=run_add64 (P:=Tryz.prog) a b 0 j1 j1 j1 j1 w;rw [run_callFunc_extern Tryz.func158 j4 j4 j4 (e:=add64Entry) j4];rw [h];simp only [Result.andThen,Int.add_zero]
def evenI(N D:Int):Int:=if 2*(N % D)<D\/(2*(N % D)=D/\N / D % 2=0) then N / D else N / D+1
theorem Nt(hi lo D N:Int)(hD:0<D)(hD2:D<4294967296)(hN:hi*18446744073709551616+lo=N)(_:0<=hi)(h1:hi<D)(_:0<=lo)(_:lo<18446744073709551616)(hq:N / D<1000000000000000000)(hr:0<=N % D/\N % D<D)(hq0:0<=N / D)
  (hdiv:∀w,Calls Tryz.prog 289 #[.int .u64 hi,.int .u64 lo,.int .u64 D] w λe w'=>e= .returned (.tuple #[.int .u64 (N / D),.int .u64 (N % D)])/\Keeps (λ_=>False) w w') (w:World):
  Calls Tryz.prog 263 #[.int .u64 hi,.int .u64 lo,.int .u64 D] w λe w'=>e= .returned (.tuple #[.int .u64 (evenI N D),.bool true])/\Keeps (λ_=>False) w w':=by
 obtain⟨Z,hZ⟩:∃Z,evenI N D=Z:=⟨_,rfl⟩;rw [hZ];unfold evenI at hZ;obtain⟨q,hqq⟩:∃q,N / D=q:=⟨_,rfl⟩;obtain⟨r,hrr⟩:∃r,N % D=r:=⟨_,rfl⟩;rw [hqq] at hq hq0 hdiv hZ;rw [hrr] at hr hdiv hZ;obtain⟨r0,r1⟩:=hr;have hdn:¬D<=hi:=j3;by_cases c1:r<D-r
 ·have c1I:decide (r<D-r)=true:=by rw [decide_eq_true_iff];exact c1
  rw [if_pos j1] at hZ;subst hZ;clear c1;exact j3J
 ·have c1I:decide (r<D-r)=false:=by rw [decide_eq_false_iff_not];exact c1
  by_cases c2:r=D-r
  ·have c2I:(r==D-r)=true:=by rw [beq_iff_eq];exact c2
   by_cases c3:q % 2=0
   ·have c3I:(q % 2==0)=true:=by rw [beq_iff_eq];exact c3
    rw [if_pos j1] at hZ;subst hZ;clear c1 c2 c3;exact j3J
   ·have c3I:(q % 2==0)=false:=beq_eq_false_iff_ne.2 c3;rw [if_neg j1] at hZ;subst hZ;clear c1 c2 c3;exact j3K
  ·have c2I:(r==D-r)=false:=beq_eq_false_iff_ne.2 c2;rw [if_neg j1] at hZ;subst hZ;clear c1 c2;exact j3K
theorem even9(N:Int)(n0:0<=N)(n1:N<1000000000000000000000000000)(w:World):
  Calls Tryz.prog 263 #[.int .u64 (N / 18446744073709551616),.int .u64 (N % 18446744073709551616),.int .u64 1000000000] w λe w'=>e= .returned (.tuple #[.int .u64 (evenI N 1000000000),.bool true])/\Keeps (λ_=>False) w w':=by
 have e1:N / 18446744073709551616*18446744073709551616+N % 18446744073709551616=N:=j3;refine Nt _ _ _ N j2 j2 e1 j1 j1 j1 j1 j1 j1 j1 (λw=> ?_) w;have h:=div64_9 (N / 18446744073709551616) (N % 18446744073709551616) w j1 j1 j1 j1;rw [e1] at h;exact h
theorem even3(N:Int)(n0:0<=N)(n1:N<=1000000000000000000)(w:World):
  Calls Tryz.prog 263 #[.int .u64 (N / 18446744073709551616),.int .u64 (N % 18446744073709551616),.int .u64 1000] w λe w'=>e= .returned (.tuple #[.int .u64 (evenI N 1000),.bool true])/\Keeps (λ_=>False) w w':=by
 have e1:N / 18446744073709551616*18446744073709551616+N % 18446744073709551616=N:=j3;refine Nt _ _ _ N j2 j2 e1 j1 j1 j1 j1 j1 j1 j1 (λw=> ?_) w;have h:=div64_3 (N / 18446744073709551616) (N % 18446744073709551616) w j1 j1 j1 j1;rw [e1] at h;exact h
theorem Jq{N D M:Int}(hD:0<D)(h0:0<=N)(h:N<=M*D):0<=evenI N D/\evenI N D<=M:=by
 have h1:0<=N % D:=Int.emod_nonneg _ j1;have h2:N % D<D:=Int.emod_lt_of_pos _ hD;have h3:N / D*D+N % D=N:=Int.ediv_mul_add_emod N D;have h4:0<=N / D:=Int.ediv_nonneg h0 j1;have h5:N / D<=M:=Int.ediv_le_of_le_mul hD h;unfold evenI
 split
 ·exact⟨h4,h5⟩
 ·rename_i hn;refine⟨by omega, ?_⟩;rcases Int.lt_or_eq_of_le h5 with h6|h6
  ·omega
  ·exfalso;rw [h6] at h3;omega
theorem Uo(a num:Int)(h0:0<=a)(h1:a<=1000000000000000)(n0:0<=num)(n1:num<=1000)(w:World):
  Calls Tryz.prog 265 #[.int .i64 a,.int .i64 num,.int .i64 1000] w λe w'=>e= .returned (.tuple #[.int .i64 (evenI (a*num) 1000),.int .i64 0])/\Keeps (λ_=>False) w w':=by
 have hN0:0<=a*num:=Int.mul_nonneg h0 n0;have hN1:a*num<=1000000000000000*1000:=Int.mul_le_mul h1 n1 n0 j2;have hmay:=λW=>En (v:=a) (b:=true) ((Gm a).2 j1) W;have hmul:=λW=>Rv a num h0 j1 n0 j1 W;have hev:=even3 (a*num) hN0 j1;obtain⟨N,hN⟩:∃N,a*num=N:=⟨_,rfl⟩;rw [hN] at hN0 hN1 hmul hev⊢;have hbd:=Jq (N:=N) (D:=1000) (M:=1000000000000000) j2 hN0 hN1;obtain⟨Z,hZ⟩:∃Z,evenI N 1000=Z:=⟨_,rfl⟩;rw [hZ] at hev hbd⊢;obtain⟨z0,z1⟩:=hbd;have zn:decide (1000000000000000<Z)=false:=by rw [decide_eq_false_iff_not];omega
 have an:¬a<0:=j3;obtain⟨A,hA⟩:∃A,N / 18446744073709551616=A:=⟨_,rfl⟩;obtain⟨B,hB⟩:∃B,N % 18446744073709551616=B:=⟨_,rfl⟩;rw [hA,hB] at hmul hev;obtain⟨Hmay,Hmul,Hev,HN,HA,HB,HZ⟩:=hid7 hmay hmul hev hN hA hB hZ;clear hZ hB hA hN hev hmul hmay;go_enter Tryz.func265,Tryz.ntmps265
 go_wp2_with (first|(go_at_call 155;(with_reducible refine(Hmay.out _).mono ?_);rintro e w1 ⟨rfl,rfl⟩)|(go_at_call 95;(with_reducible refine(Hmul.out _).mono ?_);rintro e w1 ⟨rfl,rfl⟩)|(go_at_call 263;(with_reducible refine(Hev.out _).mono ?_);rintro e w1 ⟨rfl,hk1⟩;have Hk1:=Lib.hid hk1;clear hk1))
 exact bodyPost_ret (v:= .tuple #[.int .i64 Z,.int .i64 0]) (by simp [results,Tryz.results265,go_sem]) rfl ⟨rfl,Hk1.out⟩
def outM(m v:Int):Bool:=decide (v<0)||decide (m<v)
theorem Qk(B:Nat)(m x:Int)(w:World)(hB:w.cell? ⟨B,0,none⟩=some (.int .i64 m)):Calls Tryz.prog 205 #[.int .i64 x,(.pointer (some ⟨B,0,none⟩))] w λe w'=>e= .returned (.bool (outM m x))/\w=w':=by
 have hl:=Ai hB;by_cases h1:x<0
 ·have hf:outM m x=true:=by simp [outM];omega
  have h1I:decide (x<0)=true:=by simp [h1]
  exact j1T
 ·have h1I:decide (x<0)=false:=by simp [h1]
  have hf:outM m x=decide (m<x):=by simp [outM,h1I]
  rcases h2:decide (m<x) with _|_
  ·rw [h2] at hf;exact j1T
  ·rw [h2] at hf;exact j1T
theorem Pb(Bm:Nat)(m:Int)(ad:Option Addr)(cap:Nat)(L:List Int)(w:World)(hB:w.cell? ⟨Bm,0,none⟩=some (.int .i64 m))(hr:Reads w 1 (.slice ad L.length cap) L.length (L.flatMap i64c))(hl:L.length<=100000):
  Calls Tryz.prog 251 #[.slice ad L.length cap,.func (.func 205) #[] #[(.pointer (some ⟨Bm,0,none⟩))]] w λe w'=>∃r:Int,e= .returned (.int .i64 r)/\decide (0<=r)=L.any (outM m)/\w=w':=by
 obtain⟨Hr,HB⟩:=hid2 hr hB;clear hB hr;go_enter Tryz.func251,Tryz.ntmps251;go_wp2_with fail
 go_loop [8] (λc=>∃j:Nat,j<=L.length/\c= .int .i64 (j:Nat)/\(L.take j).any (outM m)=false) (λc=>L.length-(intOf c).toNat)
 case atStart=>exact⟨0,Nat.zero_le _,rfl,rfl⟩
 case round=>
  obtain⟨j,hj,rfl,hok⟩:=hrel;by_cases hjl:j<L.length
  ·obtain⟨x,hx⟩:=Aj hjl;obtain⟨g,o,rfl,x0⟩:=Hr.out.int hx;have hsn:=Eo (q:=(outM m)) hx;rw [hok] at hsn;have hcl:=Qk Bm m x w HB.out;rcases m1:outM m x with _|_
   ·have hok':(L.take (j+1)).any (outM m)=false:=by rw [hsn,m1];rfl
    rw [m1] at hcl;obtain⟨Hsn,Hx,Hok,Hok',Hcl⟩:=hid5 hsn hx hok hok' hcl;clear hcl hok' hok hx hsn
    go_wp2_with (go_at_call 205;((with_reducible refine Hcl.out.mono ?_);rintro e w1 ⟨rfl,rfl⟩))
    exact j0K
   ·have hf:=Jc (q:=(outM m)) hx m1;have hj0:decide ((0:Int)<=(j:Int))=true:=by simp
    rw [m1] at hcl;obtain⟨Hf,Hsn,Hx,Hj0,Hcl⟩:=hid5 hf hsn hx hj0 hcl;clear hcl hj0 hx hsn hf
    go_wp2_with (go_at_call 205;((with_reducible refine Hcl.out.mono ?_);rintro e w1 ⟨rfl,rfl⟩))
    exact j0L
  ·exact j0M
theorem Kw(Bm:Nat)(m:Int)(ad:Option Addr)(cap:Nat)(L:List Int)(w:World)(hB:w.cell? ⟨Bm,0,none⟩=some (.int .i64 m))(hr:Reads w 1 (.slice ad L.length cap) L.length (L.flatMap i64c))(hl:L.length<=100000):
  Calls Tryz.prog 204 #[.slice ad L.length cap,.func (.func 205) #[] #[(.pointer (some ⟨Bm,0,none⟩))]] w λe w'=>e= .returned (.bool (L.any (outM m)))/\w=w':=by
 obtain⟨Hr,HB⟩:=hid2 hr hB;clear hB hr;go_enter Tryz.func204,Tryz.ntmps204
 go_wp2_with (go_at_call 251;refine(Pb Bm m _ _ L _ HB.out Hr.out hl).mono ?_;rintro e w1 ⟨r,rfl,hd,rfl⟩;have Hd:=Lib.hid hd;clear hd)
 exact j0N
theorem Kk(m:Int)(ad:Option Addr)(cap n:Nat)(L:List Int)(w:World)(hr:Reads w 1 (.slice ad n cap) n (L.flatMap i64c))(hN:L.length=n)(hl:n<=100000):
  Calls Tryz.prog 157 #[.slice ad n cap,.int .i64 m] w λe w'=>e= .returned (.bool (!(L.any (outM m))))/\Keeps (λ_=>False) w w':=by
 subst hN;have hc:=fun(W:World) (hB:W.cell? ⟨w.heap.size,0,none⟩=some (.int .i64 m)) (hW:Keeps (λ_=>False) w W)=>Kw w.heap.size m ad cap L W hB (hr.keeps hW (by simp)) hl;obtain⟨z,hz⟩:∃z,L.any (outM m)=z:=⟨_,rfl⟩;rw [hz] at hc⊢;obtain⟨Hr,Hc,Hz⟩:=hid3 hr hc hz;clear hz hc hr;go_enter Tryz.func157,Tryz.ntmps157;go_wp2_with fail;refine(Hc.out _ (Aa (heap_alloc_new w _) 0) (Keeps.alloc _ _)).mono ?_;rintro e w1 ⟨rfl,rfl⟩;go_wp2;go_ret;exact⟨rfl,Keeps.alloc _ _⟩
theorem Ru{m:Int}{L:List Int}(h:∀x∈L,0<=x/\x<=m):L.any (outM m)=false:=by
 rw [Bool.eq_false_iff];intro hh;obtain⟨x,hx,h2⟩:=List.any_eq_true.1 hh;have:=h x hx;simp [outM] at h2;omega
def dotI:List Int->List Int->Int
 |x::X,y::Y=>x*y+dotI X Y
 |_,_=>0
theorem dotI_snoc:∀(X Y:List Int) (x y:Int),X.length=Y.length->dotI (X++ [x]) (Y++ [y])=dotI X Y+x*y:=by
 intro X
 induction X with
 |nil=>intro Y x y h;cases Y<;>simp_all [dotI]
 |cons a X ih=>
  intro Y x y h
  cases Y with
  |nil=>simp at h
  |cons b Y=>
   simp only [List.cons_append,dotI];rw [ih Y x y (by simpa using h)];omega
theorem Sc{X Y:List Int}{k:Nat}{x y:Int}(hl:X.length=Y.length)(hx:X[k]?=some x)(hy:Y[k]?=some y):dotI (X.take (k+1)) (Y.take (k+1))=dotI (X.take k) (Y.take k)+x*y:=by
 rw [take_snoc' hx,take_snoc' hy,dotI_snoc _ _ _ _ (by rw [List.length_take,List.length_take,hl])]
theorem Tx{x y:Int}(hx:0<=x/\x<=1000000000000000)(hy:0<=y/\y<=10000000):0<=x*y/\x*y<=10000000000000000000000:=
 ⟨Int.mul_nonneg hx.1 hy.1,Int.le_trans (Int.mul_le_mul hx.2 hy.2 hy.1 (by decide)) (by decide)⟩
theorem Ma:∀(X Y:List Int),(∀x∈X,0<=x/\x<=1000000000000000)->(∀y∈Y,0<=y/\y<=10000000)->0<=dotI X Y/\dotI X Y<=10000000000000000000000*X.length:=by
 intro X
 induction X with
 |nil=>intro Y _ _;cases Y<;>simp [dotI]
 |cons a X ih=>
  intro Y hX hY
  cases Y with
  |nil=>simp only [dotI,List.length_cons];omega
  |cons b Y=>
   have h1:=ih Y (λx hx=>hX x (List.mem_cons_of_mem _ hx)) (λy hy=>hY y (List.mem_cons_of_mem _ hy));have h2:=Tx (hX a (List.mem_cons_self ..)) (hY b (List.mem_cons_self ..));simp only [dotI,List.length_cons]
   push_cast
   omega
theorem Yp(x y c:Int)(hx:0<=x)(hx':x<18446744073709551616)(hy:0<=y)(hy':y<18446744073709551616)(hc:0<=c)(hc':c<=1)(w:World):
  (callFunc 158 #[.int .u64 x,.int .u64 y,.int .u64 c]).run Tryz.prog w= .ok (.value (.tuple #[.int .u64 ((x+y+c) % 18446744073709551616),.int .u64 ((x+y+c) / 18446744073709551616)])) w:=by
 obtain⟨a,rfl⟩:=Int.eq_ofNat_of_zero_le hx;obtain⟨b,rfl⟩:=Int.eq_ofNat_of_zero_le hy;obtain⟨d,rfl⟩:=Int.eq_ofNat_of_zero_le hc;have h:=run_add64 (P:=Tryz.prog) a b d j1 j1 j1 j1 w;rw [run_callFunc_extern Tryz.func158 j4 j4 j4 (e:=add64Entry) j4];rw [h];simp only [Result.andThen]
def ofR(X Y:List Int):Int×Int:=if 1000000000000000<evenI (dotI X Y) 1000000000 then(0,5) else(evenI (dotI X Y) 1000000000,0)
def exS(g1 o1 g2 o2:Nat)(x y:Int)(W:World):Prop:=W.cell? ⟨g1,o1,none⟩=some (.int .i64 x)/\W.cell? ⟨g2,o2,none⟩=some (.int .i64 y)
def exFr(v1 v2:Value)(hi lo:Int)(k:Nat)(u:Nat->Value):Act:={ tmps:= #[v1,v2,u 2,u 3,u 4,u 5,u 6,.int .u64 hi,.int .u64 lo,u 9,u 10,u 11,.int .i64 k,u 13,u 14,u 15,u 16,u 17,u 18,u 19,u 20,u 21,u 22,u 23,u 24,u 25,u 26,u 27,u 28,u 29,u 30,u 31,u 32,u 33,u 34,u 35,u 36,u 37,u 38,u 39,u 40,u 41,u 42,u 43,u 44,u 45,u 46,u 47,u 48,u 49,u 50,u 51,u 52,u 53,u 54,u 55,u 56,u 57,u 58,u 59,u 60,u 61,u 62,u 63,u 64,u 65,u 66,u 67],defers:= [] }
def exJ(w:World)(v1 v2:Value)(X Y:List Int)(n:Nat)(a':Act)(W:World):Prop:=∃(k:Nat) (N:Int) (u:Nat->Value),a'=exFr v1 v2 (N / 18446744073709551616) (N % 18446744073709551616) k u/\Keeps (λ_=>False) w W/\k<=n/\dotI (X.take k) (Y.take k)=N
theorem exJ.mk{w W:World}{v1 v2:Value}{X Y:List Int}{n:Nat}{a':Act}(k:Nat)(N:Int)(h:a'=exFr v1 v2 (N / 18446744073709551616) (N % 18446744073709551616) k (λi=>a'.tmps.getD i undef))(hw:Keeps (λ_=>False) w W)(hn:k<=n)(hp:dotI (X.take k) (Y.take k)=N):exJ w v1 v2 X Y n a' W:=⟨k,N,_,h,hw,hn,hp⟩
def Vb(i:Nat)(a':Act):Nat:=match a'.tmps.getD i undef with| .int _ n=>n.toNat|_=>0
theorem Uc(X Y:List Int)(ad1 ad2:Option Addr)(c1 c2 n:Nat)(w:World)(hr1:Reads w 1 (.slice ad1 n c1) n (X.flatMap i64c))(hX:X.length=n)(hr2:Reads w 1 (.slice ad2 n c2) n (Y.flatMap i64c))(hY:Y.length=n)(hn:n<=40000)
  (hXb:∀x∈X,0<=x/\x<=1000000000000000) (hYb:∀y∈Y,0<=y/\y<=10000000):
  Calls Tryz.prog 94 #[.slice ad1 n c1,.slice ad2 n c2] w λe w'=>e= .returned (.tuple #[.int .u64 (dotI X Y / 18446744073709551616),.int .u64 (dotI X Y % 18446744073709551616),.int .i64 0])/\Keeps (λ_=>False) w w':=by
 have hw1:=λW (hW:Keeps (λ_=>False) w W)=>Kk 1000000000000000 ad1 c1 n X W (hr1.keeps hW (by simp)) hX j1;have hw2:=λW (hW:Keeps (λ_=>False) w W)=>Kk 10000000 ad2 c2 n Y W (hr2.keeps hW (by simp)) hY j1;rw [Ru hXb,Bool.not_false] at hw1;rw [Ru hYb,Bool.not_false] at hw2;obtain⟨R,hR⟩:∃R,dotI X Y=R:=⟨_,rfl⟩;rw [hR];have hnI:decide ((40000:Int)<(n:Int))=false:=by rw [decide_eq_false_iff_not];omega
 have hne:((n:Int) !=(n:Int))=false:=by simp
 obtain⟨Hr1,HX,Hr2,HY,HXb,HYb,Hw1,Hw2,HR⟩:=hid9 hr1 hX hr2 hY hXb hYb hw1 hw2 hR;clear hR hw2 hw1 hYb hXb hY hr2 hX hr1;go_enter Tryz.func94,Tryz.ntmps94;go_wp2;refine Db 0 (exJ w (.slice ad1 n c1) (.slice ad2 n c2) X Y n) (λa' _=>n-Vb 12 a') rfl ?_ ?_
 ·rintro a' W ⟨k,N,u,rfl,hk,hkn,hN⟩;unfold exFr;have hbd:=j3L;rw [hN,List.length_take,HX.out] at hbd;obtain⟨N0,N1⟩:=hbd
  have N2:N<=400000000000000000000000000:=by
   have:min k n<=40000:=j3;omega
  clear N1;by_cases hlt:k<n
  ·have hltI:(k:Int)<(n:Int):=j3;have hneI:((k:Int)==(n:Int))=false:=beq_eq_false_iff_ne.2 j1;refine j1U ?_;intro x hx y hy g1 o1 he1 x0 g2 o2 he2 y0;subst he1;subst he2;have hS:exS g1 (o1+k) g2 (o2+k) x y W.drew:=⟨x0,y0⟩;have xb:=HXb.out x (List.mem_of_getElem? hx);have yb:=HYb.out y (List.mem_of_getElem? hy);have pb:=Tx xb yb;have hsn:=Sc (by rw [HX.out,HY.out]) hx hy;rw [hN] at hsn;have hmul:=λW=>Rv x y xb.1 j1 yb.1 j1 W;obtain⟨p,hp⟩:∃p,x*y=p:=⟨_,rfl⟩;rw [hp] at pb hmul hsn;refine j3M ?_;intro lx ly A hA B hB Hi hHi Lo hLo;rw [hA,hB] at hmul;refine j3N ?_;intro b1 b2 b3 b4;have hadd:=fun(W:World)=>add64_run Lo B b1.1 b1.2 b2.1 b2.2 W;obtain⟨C,hC⟩:∃C,(Lo+B) / 18446744073709551616=C:=⟨_,rfl⟩;obtain⟨E,hE⟩:∃E,(Lo+B) % 18446744073709551616=E:=⟨_,rfl⟩;have b5:0<=C/\C<=1:=j3;rw [hC,hE] at hadd;have hadd2:=fun(W:World)=>Yp Hi A C b3.1 j1 b4.1 j1 b5.1 b5.2 W;rw [show(Hi+A+C) % 18446744073709551616=(N+p) / 18446744073709551616 by omega] at hadd2;rw [show E=(N+p) % 18446744073709551616 by omega] at hadd;obtain⟨xb0,xb1⟩:=xb;obtain⟨yb0,yb1⟩:=yb;have q1:IntKind.u64.wrap x=x:=by simp [IntKind.wrap,IntKind.signed,IntKind.bits];omega
   have q2:IntKind.u64.wrap y=y:=by simp [IntKind.wrap,IntKind.signed,IntKind.bits];omega
   obtain⟨Hk,HN,Hx,Hy,Hsn,Hmul,Hp,HA,HB⟩:=hid9 hk hN hx hy hsn hmul hp hA hB;clear hB hA hp hmul hsn hy hx hN hk;obtain⟨HHi,HLo,HC,HE,HS⟩:=hid5 hHi hLo hC hE hS;clear hS hE hC hLo hHi;clear pb;go_wp2_with fail;refine Ak (exS g1 (o1+k) g2 (o2+k) x y) (.take 0 (.take 1 (.take 2 (.take 3 (.take 4 (.take 5 (.take 6 (.take 7 (.take 8 (.take 9 (.take 10 (.take 11 (.take 12 (.take 13 (.take 14 (.take 15 .done)))))))))))))))) j4 j4 ?_ ?_
   ·exact HS.out
   intro w1 hs1 hk1;refine jR ?_;refine Jn (v:= ?_) rfl (by rfl) ?_ ?_ ?_ ?_ ?_
   rotate_left 3
   ·exact j3O
   ·intro w' hSw;exact(Hmul.out _)
   rotate_right 3
   try simp only [aps]
   refine jf ?_;have Hk1:=jW;clear hk1 hs1;go_wp2_with fail;go_step3;go_wp2;exact Bn ⟨exJ.mk (k+1) (N+p) rfl Hk1.out j1 Hsn.out,by simp [Vb];omega⟩
  ·obtain rfl:k=n:=by omega
   rw [List.take_of_length_le (by rw [HX.out];exact Nat.le_refl _),List.take_of_length_le (by rw [HY.out];exact Nat.le_refl _),HR.out] at hN;subst hN;have Hk:=Lib.hid hk;clear hk;have hkk:((k:Int)==(k:Int))=true:=by simp
   go_wp2;refine Bu ?_;exact bodyPost_ret (v:= .tuple #[.int .u64 (R / 18446744073709551616),.int .u64 (R % 18446744073709551616),.int .i64 0]) (by simp [results,Tryz.results94,go_sem]) rfl ⟨rfl,Hk.out⟩
 ·intro hfirst;have Hfirst:=Lib.hid hfirst;clear hfirst;go_wp2_with fail;refine(Hw1.out _ (Keeps.refl _ _)).mono ?_;rintro e w1 ⟨rfl,hk1⟩;have Hk1:=Lib.hid hk1;clear hk1;go_wp2_with fail;refine(Hw2.out _ Hk1.out).mono ?_;rintro e w2 ⟨rfl,hk2⟩;have Hk2:=Lib.hid (Hk1.out.nt hk2);clear hk2;go_wp2;go_step3;rename_i hK;refine jT ?_;exact exJ.mk 0 0 rfl Hk2.out (Nat.zero_le _) rfl
theorem intOf_any(X Y:List Int)(ad1 ad2:Option Addr)(c1 c2 n:Nat)(w:World)(hr1:Reads w 1 (.slice ad1 n c1) n (X.flatMap i64c))(hX:X.length=n)(hr2:Reads w 1 (.slice ad2 n c2) n (Y.flatMap i64c))(hY:Y.length=n)(hn:n<=40000)
  (hXb:∀x∈X,0<=x/\x<=1000000000000000) (hYb:∀y∈Y,0<=y/\y<=10000000):
  Calls Tryz.prog 216 #[.slice ad1 n c1,.slice ad2 n c2] w λe w'=>e= .returned (.tuple #[.int .i64 (ofR X Y).1,.int .i64 (ofR X Y).2])/\Keeps (λ_=>False) w w':=by
 have hex:=Uc X Y ad1 ad2 c1 c2 n w hr1 hX hr2 hY hn hXb hYb;have hbd:=Ma X Y hXb hYb;unfold ofR;obtain⟨N,hN⟩:∃N,dotI X Y=N:=⟨_,rfl⟩;rw [hN] at hex hbd⊢;have hev:=even9 N hbd.1 j1;have hb2:=Jq (N:=N) (D:=1000000000) (M:=1000000000000000000) j2 hbd.1 j1;obtain⟨Z,hZ⟩:∃Z,evenI N 1000000000=Z:=⟨_,rfl⟩;rw [hZ] at hev hb2⊢;obtain⟨A,hA⟩:∃A,N / 18446744073709551616=A:=⟨_,rfl⟩;obtain⟨B,hB⟩:∃B,N % 18446744073709551616=B:=⟨_,rfl⟩;rw [hA,hB] at hev hex;obtain⟨z0,z1⟩:=hb2;by_cases hz:1000000000000000<Z
 ·rw [if_pos hz];have hzI:decide (1000000000000000<Z)=true:=by simp [hz]
  clear hz;obtain⟨Hr1,HX,Hr2,HY,HXb,HYb,Hex,Hbd,HN⟩:=hid9 hr1 hX hr2 hY hXb hYb hex hbd hN;clear hN hbd hex hYb hXb hY hr2 hX hr1;obtain⟨Hev,HZ,HA,HB⟩:=hid4 hev hZ hA hB;clear hB hA hZ hev;go_enter Tryz.func216,Tryz.ntmps216;go_wp2_with fail;refine Hex.out.mono ?_;rintro e w1 ⟨rfl,hk1⟩;have Hk1:=Lib.hid hk1;clear hk1;go_wp2_with fail;refine(Hev.out _).mono ?_;rintro e w2 ⟨rfl,hk2⟩;have Hk2:=Lib.hid (Hk1.out.nt hk2);clear hk2;go_wp2;exact bodyPost_ret (v:= .tuple #[.int .i64 0,.int .i64 5]) (by simp [results,Tryz.results216,go_sem]) rfl ⟨rfl,Hk2.out⟩
 ·rw [if_neg hz];have hzI:decide (1000000000000000<Z)=false:=by simp [hz]
  have hz2:Z<=1000000000000000:=j3;clear hz;obtain⟨Hr1,HX,Hr2,HY,HXb,HYb,Hex,Hbd,HN⟩:=hid9 hr1 hX hr2 hY hXb hYb hex hbd hN;clear hN hbd hex hYb hXb hY hr2 hX hr1;obtain⟨Hev,HZ,HA,HB⟩:=hid4 hev hZ hA hB;clear hB hA hZ hev;go_enter Tryz.func216,Tryz.ntmps216;go_wp2_with fail;refine Hex.out.mono ?_;rintro e w1 ⟨rfl,hk1⟩;have Hk1:=Lib.hid hk1;clear hk1;go_wp2_with fail;refine(Hev.out _).mono ?_;rintro e w2 ⟨rfl,hk2⟩;have Hk2:=Lib.hid (Hk1.out.nt hk2);clear hk2;go_wp2;exact bodyPost_ret (v:= .tuple #[.int .i64 Z,.int .i64 0]) (by simp [results,Tryz.results216,go_sem]) rfl ⟨rfl,Hk2.out⟩
theorem Ld(t:Tm)(ad:Option Addr)(cap:Nat)(w:World)(hr:Reads w 2 (.slice ad t.trs.length cap) t.trs.length (t.trs.flatMap Tn.cells))(hl:t.trs.length<=1000000):
  Calls Tryz.prog 51 #[t.val (.slice ad t.trs.length cap)] w λe w'=>e= .returned (.int .i64 t.err)/\Keeps (λ_=>False) w w':=by
 exact j3P
def evErr(t:Tm)(e:Ev):Int:=
 if¬t.err=0 then 6
 else if e.kind<1\/6<e.kind then 1
 else if(e.kind=2/\¬e.tranche=0)\/(¬e.kind=2/\(e.tranche<1\/(t.trs.length:Int)<e.tranche)) then 7
 else if(e.kind=6/\(e.amount<0\/10000000<e.amount))\/(¬e.kind=6/\(e.amount<1\/1000000000000000<e.amount)) then 8
 else if e.day<t.start\/2932896<e.day then 10
 else if((e.kind=4\/e.kind=5)/\(e.ref<1\/2000<e.ref))\/(¬(e.kind=4\/e.kind=5)/\¬e.ref=0) then 1
 else 0
theorem Tm.Qr(t:Tm):t.err=0\/t.err=6:=by unfold Tm.err;split<;>simp
theorem Ea(k:Int)(w:World)(r:Bool)(hr:r=(decide (k=4)||decide (k=5))):Calls Tryz.prog 207 #[.int .i64 k] w λe w'=>e= .returned (.bool r)/\w=w':=by
 by_cases h1:k=4
 ·subst h1;exact j3Q
 ·by_cases h2:k=5
  ·subst h2;exact j3Q
  ·have h:r=false:=by rw [hr];simp [h1,h2]
   subst h;clear hr;have h1':(k==4)=false:=beq_eq_false_iff_ne.2 h1;have h2':(k==5)=false:=beq_eq_false_iff_ne.2 h2;go_enter Tryz.func207,Tryz.ntmps207;exact jE
theorem Gs(t:Tm)(v:Value)(w:World){z:Int}(hz:t.err=z)(hr:Reads w 2 v t.trs.length (t.trs.flatMap Tn.cells))(hl:t.trs.length<=1000000):
  Calls Tryz.prog 60 #[.agg #[.int .i64 t.limit,v,.int .i64 t.cyc,.int .i64 t.due,.int .i64 t.minFixed,.int .i64 t.minPart,.int .i64 t.start]] w λe w'=>e= .returned (.int .i64 z)/\Keeps (λ_=>False) w w':=by
 have hr':=hr;obtain⟨ad,c,rfl,_⟩:=hr';subst hz;exact Nf t ad c w hr hl
theorem Fy(t:Tm)(v:Value)(w:World){z:Int}(hz:t.err=z)(hr:Reads w 2 v t.trs.length (t.trs.flatMap Tn.cells))(hl:t.trs.length<=1000000):
  Calls Tryz.prog 51 #[.agg #[.int .i64 t.limit,v,.int .i64 t.cyc,.int .i64 t.due,.int .i64 t.minFixed,.int .i64 t.minPart,.int .i64 t.start]] w λe w'=>e= .returned (.int .i64 z)/\Keeps (λ_=>False) w w':=by
 have hr':=hr;obtain⟨ad,c,rfl,_⟩:=hr';subst hz;exact Ld t ad c w hr hl
theorem haltE{p:Prop}(h:Hid p):p:=h.out
def evCells(B n:Nat)(ad:Option Addr)(cap:Nat)(st ki da tr am re:Int)(W:World):Prop:=
 W.cell? ⟨B,1,none⟩=some (.slice ad n cap)/\W.cell? ⟨B,6,none⟩=some (.int .i64 st)/\W.cell? ⟨B+1,0,none⟩=some (.int .i64 ki)/\W.cell? ⟨B+1,1,none⟩=some (.int .i64 da)/\W.cell? ⟨B+1,2,none⟩=some (.int .i64 tr)/\W.cell? ⟨B+1,3,none⟩=some (.int .i64 am)/\W.cell? ⟨B+1,4,none⟩=some (.int .i64 re)
theorem Qq(w:World)(n:Nat)(ad:Option Addr)(cap:Nat)(li cy du mf mp st ki da tr am re:Int):∀W,Keeps (λ_=>False) ((w.alloc (.cells #[.int .i64 li,.slice ad n cap,.int .i64 cy,.int .i64 du,.int .i64 mf,.int .i64 mp,.int .i64 st] 24)).alloc (.cells #[.int .i64 ki,.int .i64 da,.int .i64 tr,.int .i64 am,.int .i64 re] 32)) W->evCells w.heap.size n ad cap st ki da tr am re W:=by
 intro W hk;have h1:=Ac (Ap (heap_alloc_new w (.cells #[.int .i64 li,.slice ad n cap,.int .i64 cy,.int .i64 du,.int .i64 mf,.int .i64 mp,.int .i64 st] 24)) (.cells #[.int .i64 ki,.int .i64 da,.int .i64 tr,.int .i64 am,.int .i64 re] 32)) hk (by simp);have h2:=Kb hk (by simp);rw [show(w.alloc (.cells #[.int .i64 li,.slice ad n cap,.int .i64 cy,.int .i64 du,.int .i64 mf,.int .i64 mp,.int .i64 st] 24)).heap.size=w.heap.size+1 by simp] at h2;exact⟨Aa h1 1,Aa h1 6,Aa h2 0,Aa h2 1,Aa h2 2,Aa h2 3,Aa h2 4⟩
theorem Yl(li cy du mf mp st ki da tr am re:Int)(L:List Tn)(n:Nat)(ad:Option Addr)(cap:Nat)(w:World)(hr:Reads w 2 (.slice ad n cap) n (L.flatMap Tn.cells))(hl:n<=1000000)(hn:L.length=n):
  Calls Tryz.prog 164 #[.agg #[.int .i64 li,.slice ad n cap,.int .i64 cy,.int .i64 du,.int .i64 mf,.int .i64 mp,.int .i64 st],.agg #[.int .i64 ki,.int .i64 da,.int .i64 tr,.int .i64 am,.int .i64 re]] w λe w'=>e= .returned (.int .i64 (evErr ⟨li,cy,du,mf,mp,st,L⟩ ⟨ki,da,tr,am,re⟩))/\Keeps (λ_=>False) w w':=by
 refine j3R ?_;intro hc z hz y hy hy2;rw [hy] at hy2;unfold evErr at hz;rw [hy,hn] at hz;dsimp only at hz;obtain⟨Hr,Hn,Hc,Hz,Hy⟩:=hid5 hr hn hc hz hy;clear hy hz hc hn hr;go_enter Tryz.func164,Tryz.ntmps164;go_wp2;refine Bi 0 rfl ?_
 go_wp2_with (go_at_call 60;((with_reducible refine(Gs ⟨li,cy,du,mf,mp,st,L⟩ (.slice ad n cap) _ Hy.out j3S jG).mono ?_);rintro e w1 ⟨rfl,hk1⟩;obtain⟨c1,c6,d0,d1,d2,d3,d4⟩:=Hc.out _ hk1;have Hk1:=Lib.hid hk1;clear hk1;refine haltE ?_))
 refine Lib.hid ?_;rcases hy2 with rfl|rfl
 ·have hz:=Hz.out;clear Hz;rw [if_neg j2] at hz
  go_upto_region 4 with fail
  go_cut [17] from 10 to 17 (λc wx=>c= .bool (decide (ki<1\/6<ki))/\w1=wx)
  case first=>
   exact j3T
  case rest=>
   obtain⟨rfl,rfl⟩:=hcut;by_cases c4:ki<1\/6<ki
   ·rw [if_pos c4] at hz;rw [decide_eq_true c4];subst hz;clear c4;exact j0g
   rw [if_neg c4] at hz;rw [decide_eq_false c4];clear c4
   go_upto_region 6 with fail
   go_cut [43] from 18 to 43 (λc wx=>c= .bool (decide ((ki=2/\¬tr=0)\/(¬ki=2/\(tr<1\/(n:Int)<tr))))/\w1=wx)
   case first=>
    exact j3U
   case rest=>
    obtain⟨rfl,rfl⟩:=hcut;by_cases c6:(ki=2/\¬tr=0)\/(¬ki=2/\(tr<1\/(n:Int)<tr))
    ·rw [if_pos c6] at hz;rw [decide_eq_true c6];subst hz;clear c6;exact j0g
    rw [if_neg c6] at hz;rw [decide_eq_false c6];clear c6
    go_upto_region 8 with fail
    go_cut [71] from 44 to 71 (λc wx=>c= .bool (decide ((ki=6/\(am<0\/10000000<am))\/(¬ki=6/\(am<1\/1000000000000000<am))))/\w1=wx)
    case first=>
     have Hz:=Lib.hid hz;clear hz;by_cases q10:ki=6
     ·skip
      have p10:(ki==6)=true:=jH;have p10':(ki !=6)=false:=jH;have Q10:=Lib.hid q10;clear q10;by_cases q12:am<0
      ·exact j0R
      ·skip
       by_cases q14:10000000<am
       ·exact j0R
       ·skip
        go_wp2_with fail;go_meet;have q10:=Q10.out;exact jz
     ·skip
      have p10:(ki==6)=false:=jH;have p10':(ki !=6)=true:=jH;have Q10:=Lib.hid q10;clear q10;by_cases q12:am<1
      ·exact j0R
      ·skip
       by_cases q14:1000000000000000<am
       ·exact j0R
       ·skip
        go_wp2_with fail;go_meet;have q10:=Q10.out;exact jz
    case rest=>
     obtain⟨rfl,rfl⟩:=hcut;by_cases c8:(ki=6/\(am<0\/10000000<am))\/(¬ki=6/\(am<1\/1000000000000000<am))
     ·rw [if_pos c8] at hz;rw [decide_eq_true c8];subst hz;clear c8;exact j0g
     rw [if_neg c8] at hz;rw [decide_eq_false c8];clear c8
     go_upto_region 10 with fail
     go_cut [81] from 72 to 81 (λc wx=>c= .bool (decide (da<st\/2932896<da))/\w1=wx)
     case first=>
      have Hz:=Lib.hid hz;clear hz;by_cases q12:da<st
      ·exact jA
      ·skip
       by_cases q14:2932896<da
       ·exact jA
       ·exact j0h
     case rest=>
      obtain⟨rfl,rfl⟩:=hcut;by_cases c10:da<st\/2932896<da
      ·rw [if_pos c10] at hz;rw [decide_eq_true c10];subst hz;clear c10;exact j0g
      rw [if_neg c10] at hz;rw [decide_eq_false c10];clear c10
      go_upto_region 12 with fail
      go_cut [105] from 82 to 105 (λc wx=>c= .bool (decide (((ki=4\/ki=5)/\(re<1\/2000<re))\/(¬(ki=4\/ki=5)/\¬re=0)))/\w1=wx)
      case first=>
       have Hz:=Lib.hid hz;clear hz;by_cases q14:ki=4
       ·skip
        have p14:(ki==4)=true:=by simp [q14]
        have p14':(ki !=4)=false:=by simp [q14]
        have Q14:=Lib.hid q14;clear q14;by_cases q16:re<1
        ·exact j3V
        ·skip
         by_cases q18:2000<re
         ·exact j3V
         ·skip
          have hr:true=(decide (ki=4)||decide (ki=5)):=by simp [Q14.out]
          have HR:=Lib.hid hr;clear hr
          go_wp2_with (go_at_call 207;((with_reducible refine(Ea ki _ true HR.out).mono ?_);rintro e w2 ⟨rfl,rfl⟩))
          go_meet;have q14:=Q14.out;exact jz
       ·skip
        have p14:(ki==4)=false:=by simp [q14]
        have p14':(ki !=4)=true:=by simp [q14]
        have Q14:=Lib.hid q14;clear q14;by_cases q16:ki=5
        ·skip
         have p16:(ki==5)=true:=jI;have p16':(ki !=5)=false:=jI;have Q16:=Lib.hid q16;clear q16;by_cases q18:re<1
         ·exact j3W
         ·skip
          by_cases q20:2000<re
          ·exact j3W
          ·skip
           have hr:true=(decide (ki=4)||decide (ki=5)):=by simp [Q16.out]
           have HR:=Lib.hid hr;clear hr
           go_wp2_with (go_at_call 207;((with_reducible refine(Ea ki _ true HR.out).mono ?_);rintro e w2 ⟨rfl,rfl⟩))
           go_meet;have q14:=Q14.out;have q16:=Q16.out;exact jz
        ·skip
         have p16:(ki==5)=false:=jI;have p16':(ki !=5)=true:=jI;have Q16:=Lib.hid q16;clear q16;by_cases q18:re=0
         ·skip
          have p18:(re==0)=true:=jJ;have p18':(re !=0)=false:=jJ;have Q18:=Lib.hid q18;clear q18;have hr:false=(decide (ki=4)||decide (ki=5)):=by simp [Q14.out,Q16.out]
          have HR:=Lib.hid hr;clear hr
          go_wp2_with (go_at_call 207;((with_reducible refine(Ea ki _ false HR.out).mono ?_);rintro e w2 ⟨rfl,rfl⟩))
          go_meet;have q14:=Q14.out;have q16:=Q16.out;have q18:=Q18.out;exact jz
         ·skip
          have p18:(re==0)=false:=jJ;have p18':(re !=0)=true:=jJ;have Q18:=Lib.hid q18;clear q18;have hr:false=(decide (ki=4)||decide (ki=5)):=by simp [Q14.out,Q16.out]
          have HR:=Lib.hid hr;clear hr
          go_wp2_with (go_at_call 207;((with_reducible refine(Ea ki _ false HR.out).mono ?_);rintro e w2 ⟨rfl,rfl⟩))
          go_meet;have q14:=Q14.out;have q16:=Q16.out;have q18:=Q18.out;exact jx
      case rest=>
       obtain⟨rfl,rfl⟩:=hcut;by_cases c12:((ki=4\/ki=5)/\(re<1\/2000<re))\/(¬(ki=4\/ki=5)/\¬re=0)
       ·rw [if_pos c12] at hz;rw [decide_eq_true c12];subst hz;clear c12;exact j0g
       rw [if_neg c12] at hz;rw [decide_eq_false c12];clear c12;subst hz;go_wp2_with fail;go_step3;go_wp2;refine Bu ?_;exact j1V
 ·go_wp2_with fail;go_step3;go_wp2;refine Bn ?_;go_wp2;rw [Exit.noGoto_ret];go_ret;exact⟨by rw [<-Hz.out];rfl,Keeps.nt j8 Hk1.out⟩
theorem Wp(t:Tm)(ev:Ev)(ad:Option Addr)(cap:Nat)(w:World)(hr:Reads w 2 (.slice ad t.trs.length cap) t.trs.length (t.trs.flatMap Tn.cells))(hl:t.trs.length<=1000000):
  Calls Tryz.prog 164 #[t.val (.slice ad t.trs.length cap),ev.agg] w λe w'=>e= .returned (.int .i64 (evErr t ev))/\Keeps (λ_=>False) w w':=Yl _ _ _ _ _ _ _ _ _ _ _ _ _ ad cap w hr hl rfl
def maxI(a b:Int):Int:=if a<=b then b else a
def Et(mf mp total:Int):Int:=minI total (maxI mf (evenI (total*mp) 1000))
theorem tm_okB{t:Tm}(h:t.err=0):t.okB=true:=by
 unfold Tm.err at h
 split at h
 ·assumption
 ·cases h
theorem Ck{t:Tm}(h:t.err=0):(1<=t.trs.length/\t.trs.length<=8)/\(∀x∈t.trs,0<=x.rate/\x.rate<=10000000)/\(1<=t.cyc/\t.cyc<=28)/\(1<=t.due/\t.due<=25)/\(0<=t.minFixed/\t.minFixed<=1000000000000000)/\(0<=t.minPart/\t.minPart<=1000)/\(-135140<=t.start/\t.start<=2922896):=by
 have h1:=tm_okB h;simp only [Tm.okB,inB,Bool.and_eq_true,decide_eq_true_eq] at h1;refine⟨⟨by omega,by omega⟩,λx hx=> ?_,by omega,by omega,by omega,by omega,by omega⟩;have:=List.all_eq_true.1 h1.1.2 x hx
 simpa [Tn.okB,inB] using this
theorem Wd(t:Tm)(v:Value)(total:Int)(w:World)(hz:t.err=0)(hr:Reads w 2 v t.trs.length (t.trs.flatMap Tn.cells))(h0:0<=total)(h1:total<=1000000000000000):
  Calls Tryz.prog 219 #[.agg #[.int .i64 t.limit,v,.int .i64 t.cyc,.int .i64 t.due,.int .i64 t.minFixed,.int .i64 t.minPart,.int .i64 t.start],.int .i64 total] w λe w'=>e= .returned (.tuple #[.int .i64 (Et t.minFixed t.minPart total),.int .i64 0])/\Keeps (λ_=>False) w w':=by
 obtain⟨⟨l0,l1⟩,_,_,_,⟨f0,f1⟩,⟨p0,p1⟩,_⟩:=Ck hz;have htm:=λW (hW:Keeps (λ_=>False) w W)=>Gs t v W hz (hr.keeps hW (by simp)) j1;have hsh:=λW=>Uo total t.minPart h0 h1 p0 p1 W;have hbd:=Jq (N:=total*t.minPart) (D:=1000) (M:=1000000000000000) j2 (Int.mul_nonneg h0 p0) (Int.mul_le_mul h1 p1 p0 j2);obtain⟨li,cy,du,mf,mp,st,L⟩:=t;simp only at *;unfold Et;obtain⟨q,hq⟩:∃q,evenI (total*mp) 1000=q:=⟨_,rfl⟩;rw [hq] at hsh hbd⊢;obtain⟨ad,c,rfl,_⟩:=id hr;obtain⟨q0,q1⟩:=hbd;refine j3X ?_;intro b0;have tn:decide (total<0)=false:=by rw [decide_eq_false_iff_not];omega
 have tn2:decide (1000000000000000<total)=false:=by rw [decide_eq_false_iff_not];omega
 obtain⟨n,hn⟩:∃n,L.length=n:=⟨_,rfl⟩;rw [hn] at hr htm b0⊢
 have key:∀z:Int,minI total (maxI mf q)=z->Calls Tryz.prog 219 #[.agg #[.int .i64 li,.slice ad n c,.int .i64 cy,.int .i64 du,.int .i64 mf,.int .i64 mp,.int .i64 st],.int .i64 total] w λe w'=>e= .returned (.tuple #[.int .i64 z,.int .i64 0])/\Keeps (λ_=>False) w w':=by
  intro z hzz;rcases Int.lt_trichotomy mf q with m1|m1|m1
  ·rw [show maxI mf q=q by unfold maxI;rw [if_pos j1]] at hzz;rcases Int.lt_trichotomy total q with m2|m2|m2
   ·rw [show minI total q=total by unfold minI;rw [if_pos j1]] at hzz;exact j1W
   ·exact j3Y
   ·rw [show minI total q=q by unfold minI;rw [if_neg j1]] at hzz;subst hzz;obtain⟨Hr,Hz,Htm,Hsh,Hq,B0,Hn⟩:=hid7 hr hz htm hsh hq b0 hn;clear hn b0 hq hsh htm hz hr;go_enter Tryz.func219,Tryz.ntmps219;go_wp2_with fail;refine Bi 0 rfl ?_;go_wp2_with fail;refine jX ?_;rintro e w1 ⟨rfl,hk1⟩;refine j0S ?_;intro hb c5 cl Hk1;clear hk1 hb;go_wp2_with fail;refine(Hsh.out _).mono ?_;rintro e w2 ⟨rfl,hk2⟩;have Hk2:=Lib.hid (Hk1.out.nt hk2);clear hk2;go_wp2;refine Bu ?_;exact bodyPost_ret (v:= .tuple #[.int .i64 q,.int .i64 0]) j1X rfl ⟨rfl,Hk2.out⟩
  ·subst m1;rw [show maxI mf mf=mf by unfold maxI;rw [if_pos j1]] at hzz;exact j3Z
  ·rw [show maxI mf q=mf by unfold maxI;rw [if_neg j1]] at hzz;exact j3Z
 exact key _ rfl
end Go.Proofs.YtgfkeeicjjbnpaaGreat
