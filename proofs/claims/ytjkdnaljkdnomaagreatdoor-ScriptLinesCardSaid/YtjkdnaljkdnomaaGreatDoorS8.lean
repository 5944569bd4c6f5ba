/- Part 8 of what the laws of this seat share: walks of functions, and plain laws. -/
import Derived.Test.YtjkdnaljkdnomaaGreatDoorS4
import Derived.Test.YtjkdnaljkdnomaaGreatDoorS5
import Derived.Test.YtjkdnaljkdnomaaGreatDoorS6
import Derived.Test.YtjkdnaljkdnomaaGreatDoorS7
set_option maxRecDepth 100000
set_option maxHeartbeats 3200000
namespace Go.Proofs.YtjkdnaljkdnomaaGreatDoor
open Go.RowKit
theorem Gw:(Tryz.prog.info? 2).map (λi=>(i.zero,i.size,i.bytes))=some (some (.int .i64 0),1,8):=by kernel_rfl
def badM(v:Int):Bool:= !Bv v
theorem Zb(v:Int)(w:World):Calls Tryz.prog 192 #[.int .i64 v] w λe w'=>e= .returned (.bool (badM v))/\w=w':=by
 by_cases h1:v<0
 ·have hf:badM v=true:=by simp [badM,Bv,h1]
  exact j1p
 ·by_cases h2:1000000000000000<v
  ·have hf:badM v=true:=by simp [badM,Bv];omega
   exact j1p
  ·have hf:badM v=false:=by simp [badM,Bv];omega
   exact j1p
theorem Gs{q:Int->Bool}{L:List Int}{k:Nat}{x:Int}(h:L[k]?=some x):(L.take (k+1)).any q=((L.take k).any q||q x):=by rw [take_snoc' h,List.any_append];simp
theorem Kw{q:Int->Bool}{L:List Int}{k:Nat}{x:Int}(h:L[k]?=some x)(hx:q x=true):L.any q=true:=List.any_eq_true.2 ⟨x,List.mem_of_getElem? h,hx⟩
theorem indexFall(ad:Option Addr)(cap:Nat)(L:List Int)(w:World)(hr:Reads w 1 (.slice ad L.length cap) L.length (L.flatMap i64c))(hl:L.length<=1000):
  Calls Tryz.prog 179 #[.slice ad L.length cap,.func (.func 192) #[] #[]] w λe w'=>∃r:Int,e= .returned (.int .i64 r)/\decide (0<=r)=L.any badM/\w=w':=by
 have Hr:=Lib.hid hr;clear hr;go_enter Tryz.func179,Tryz.ntmps179;go_wp2_with fail
 go_loop [8] (λc=>∃j:Nat,j<=L.length/\c= .int .i64 (j:Nat)/\(L.take j).any badM=false) (λc=>L.length-(intOf c).toNat)
 case atStart=>exact⟨0,Nat.zero_le _,rfl,rfl⟩
 case round=>
  obtain⟨j,hj,rfl,hok⟩:=hrel;by_cases hjl:j<L.length
  ·obtain⟨x,hx⟩:=Ar hjl;obtain⟨g,o,rfl,x0⟩:=Hr.o.int hx;have hsn:=Gs (q:=badM) hx;rw [hok] at hsn;have hcl:=λW=>Zb x W;rcases m1:badM x with _|_
   ·have hok':(L.take (j+1)).any badM=false:=by rw [hsn,m1];rfl
    rw [m1] at hcl;clear hsn hx;obtain⟨Hok,Hok',Hcl⟩:=hid3 hok hok' hcl;clear hcl hok' hok
    go_wp2_with (go_at_call 192;((with_reducible refine(Hcl.o _).mono ?_);rintro e w1 ⟨rfl,rfl⟩))
    exact j0m
   ·have hf:=Kw (q:=badM) hx m1;have hj0:decide ((0:Int)<=(j:Int))=true:=by simp
    rw [m1] at hcl;have Hf:=Lib.hid hf;clear hf hsn hx;obtain⟨Hj0,Hcl⟩:=hid2 hj0 hcl;clear hcl hj0
    go_wp2_with (go_at_call 192;((with_reducible refine(Hcl.o _).mono ?_);rintro e w1 ⟨rfl,rfl⟩))
    exact j0N
  ·exact j0n
theorem Zl(ad:Option Addr)(cap:Nat)(L:List Int)(w:World)(hr:Reads w 1 (.slice ad L.length cap) L.length (L.flatMap i64c))(hl:L.length<=1000):
  Calls Tryz.prog 162 #[.slice ad L.length cap,.func (.func 192) #[] #[]] w λe w'=>e= .returned (.bool (L.any badM))/\w=w':=by
 have Hr:=Lib.hid hr;clear hr;go_enter Tryz.func162,Tryz.ntmps162
 go_wp2_with (go_at_call 179;refine(indexFall _ _ L _ Hr.o hl).mono ?_;rintro e w1 ⟨r,rfl,hd,rfl⟩;have Hd:=Lib.hid hd;clear hd)
 exact j0o
theorem Abr(ad:Option Addr)(cap:Nat)(L:List Int)(w:World)(hr:Reads w 1 (.slice ad L.length cap) L.length (L.flatMap i64c))(hl:L.length<=1000):
  Calls Tryz.prog 180 #[.slice ad L.length cap] w λe w'=>e= .returned (.bool (L.all Bv))/\w=w':=by
 have hc:=Zl ad cap L w hr hl;have he:L.any badM= !(L.all Bv):=by rw [List.all_eq_not_any_not];simp only [Bool.not_not];rfl
 rw [he] at hc;clear hr;have Hc:=Lib.hid hc;clear hc;go_enter Tryz.func180,Tryz.ntmps180;go_wp2_with fail;refine Hc.o.mono ?_;rintro e w1 ⟨rfl,rfl⟩;go_wp2;go_ret;exact⟨by simp,rfl⟩
def RowZ(W:World)(e:TypeId)(g n cap:Nat)(O:List Int):Prop:=W.ownsRow 0 e 1 (.slice (some ⟨g,0,none⟩) n cap) n (O.flatMap i64c)/\O.length=n
theorem RowZ.cell{W:World}{e:TypeId}{g n cap:Nat}{O:List Int}(h:RowZ W e g n cap O){k:Nat}{x:Int}(hx:O[k]?=some x):W.cell? ⟨g,k,none⟩=some (.int .i64 x):=by
 obtain⟨h,rfl⟩:=h;have:=Bw Ec h hx 0 j7;exact j0p
theorem RowZ.free{W:World}{e:TypeId}{g n cap:Nat}{O:List Int}(h:RowZ W e g n cap O)(j:Nat):W.frozen? ⟨g,j,none⟩=false:=by
 exact j1k
theorem RowZ.set{W:World}{e:TypeId}{g n cap:Nat}{O:List Int}(h:RowZ W e g n cap O){k:Nat}(hk:k<n)(x:Int):RowZ (W.setCell ⟨g,k,none⟩ (.int .i64 x)) e g n cap (O.set k x):=by
 exact j2v
theorem RowZ.keep{W W':World}{e:TypeId}{g n cap:Nat}{O:List Int}(h:RowZ W e g n cap O)(hk:K0 W W'):RowZ W' e g n cap O:=⟨h.1.of_keeps hk,h.2⟩
theorem RowZ.lt{W:World}{e:TypeId}{g n cap:Nat}{O:List Int}(h:RowZ W e g n cap O):g<W.heap.size:=Ch h.1 rfl
theorem RowZ.reads{W:World}{e:TypeId}{g n cap:Nat}{O:List Int}(h:RowZ W e g n cap O):Reads W 1 (.slice (some ⟨g,0,none⟩) n cap) n (O.flatMap i64c):=Reads.Bg h.1
theorem made_ints(n:Nat):(madeCells (Value.int .i64 0).cells n).toList=(List.replicate n (0:Int)).flatMap i64c:=by
 have hL:((List.replicate n (0:Int)).flatMap i64c).length=n:=by rw [Cs Ec];simp
 have hM:(madeCells (Value.int .i64 0).cells n).toList.length=n:=by simp [madeCells]
 apply List.ext_getElem?
 intro i;by_cases h:i<n
 ·have h2:((List.replicate n (0:Int)).flatMap i64c)[i]?=some (.int .i64 0):=by
   have:=flat_get Ec (L:=List.replicate n (0:Int)) (k:=i) (j:=0) (x:=0) (by simp [h]) j7;exact j0p
  rw [h2];simp [madeCells,Value.cells,h,Nat.mod_one]
 ·rw [List.getElem?_eq_none j6,List.getElem?_eq_none j6]
theorem RowZ.made(w:World)(e:TypeId)(n:Nat)(hn:n<=maxLen):RowZ (w.alloc (.cells (madeCells (Value.int .i64 0).cells n) e)) e w.heap.size n n (List.replicate n 0):=by
 have hL:((List.replicate n (0:Int)).flatMap i64c).length=n*1:=by rw [Cs Ec];simp
 refine⟨⟨hL,.inr ⟨_,_,_,rfl,Nat.zero_le _,heap_alloc_new w _,Nat.le_refl _,hn,by simp [madeCells], ?_⟩⟩,by simp⟩;rw [made_ints,List.take_of_length_le (by rw [hL];exact Nat.le_refl _)]
def inFr(vB vO:Value)(a:Int)(g n j:Nat)(u:Nat->Value):Act:={ tmps:= #[vB,vO,.int .i64 a,u 3,u 4,u 5,u 6,u 7,.slice (some ⟨g,0,none⟩) n n,.int .i64 ((j:Nat):Int),u 10,u 11,u 12,u 13,u 14,u 15,u 16,u 17,u 18,u 19,u 20,u 21,u 22,u 23,u 24,u 25,u 26,u 27,u 28,u 29,u 30,u 31,u 32,u 33,u 34,u 35,u 36,u 37,u 38,u 39,u 40,u 41],defers:= [] }
structure InAt(B O:List Int)(a00:Int)(w:World)(g j:Nat)(out:List Int)(a:Int)(W:World):Prop where
 jl:j<=O.length
 a0:0<=a
 a1:a<=1000000000000000
 row:RowZ W 2 g B.length B.length out
 eq:intoL B O a00=intoS B (O.drop j) (out,a)
 kp:K0 w W
 gg:w.heap.size<=g
def inJ(B O:List Int)(a0:Int)(w:World)(vB vO:Value)(n:Nat)(a':Act)(W:World):Prop:=∃(g j:Nat) (out:List Int) (a:Int) (u:Nat->Value),a'=inFr vB vO a g n j u/\InAt B O a0 w g j out a W
theorem inJ.mk{B O:List Int}{a0:Int}{w:World}{vB vO:Value}{n:Nat}{a':Act}{W:World}(g j:Nat)(out:List Int)(a:Int)(h:a'=inFr vB vO a g n j (λi=>a'.tmps.getD i undef))(hi:InAt B O a0 w g j out a W):inJ B O a0 w vB vO n a' W:=⟨g,j,out,a,_,h,hi⟩
def Qj(r:List Int×Int)(w:World)(e:Ending)(w':World):Prop:=∃g,e= .returned (.tuple #[.slice (some ⟨g,0,none⟩) r.1.length r.1.length,.int .i64 r.2])/\RowZ w' 2 g r.1.length r.1.length r.1/\K0 w w'/\w.heap.size<=g
theorem Nt(B O:List Int)(a:Int)(adB adO:Option Addr)(cB cO:Nat)(w:World)(hB:Reads w 1 (.slice adB B.length cB) B.length (B.flatMap i64c))(hO:Reads w 1 (.slice adO O.length cO) O.length (O.flatMap i64c))(hm:∀x∈B,0<=x/\x<=1000000000000000)(ha:0<=a/\a<=1000000000000000)
  (hok:∀k∈O,1<=k/\k<=B.length) (hl:B.length<=1000) (hl2:O.length<=1000):Calls Tryz.prog 181 #[.slice adB B.length cB,.slice adO O.length cO,.int .i64 a] w (Qj (intoL B O a) w):=by
 obtain⟨i0,hi,hi0,hi1,hi2⟩:=info_parts Gw;have hrl:=Dn B O a;obtain⟨n,hn⟩:=eX B.length;obtain⟨m,hmO⟩:=eX O.length;obtain⟨r,hr⟩:=eX (intoL B O a);rw [hn] at hB hok hl hrl⊢;rw [hmO] at hO hl2⊢;rw [hr] at hrl⊢;refine j1q ?_;intro hmk;simp only [Int.toNat_natCast,hi1,Nat.mul_one] at hmk;obtain⟨Z,hZ⟩:=eY (madeCells (Value.int .i64 0).cells n);rw [<-hZ] at hmk;obtain⟨ha0,ha1⟩:=ha;obtain⟨HB,HO,Hm,Hok,Hn,HmO,Hr,Hrl⟩:=hid8 hB hO hm hok hn hmO hr hrl;clear hrl hr hmO hn hok hm hO hB hi hi0 hi1 hi2;have HZ:=Lib.hid hZ;clear hZ;go_enter Tryz.func181,Tryz.ntmps181;go_wp2_with fail;refine Dl 0 (inJ B O a w (.slice adB n cB) (.slice adO m cO) n) (λa' _=>m-Eg 9 a') rfl ?_ ?_
 ·rintro a' W ⟨g,j,out,b,u,rfl,hat⟩;unfold inFr;have hjl:=hat.jl;have hb0:=hat.a0;have hb1:=hat.a1;have hrow:=hat.row;rw [Hn.o] at hrow;rw [HmO.o] at hjl;by_cases hlt:j<m
  ·have hltI:(j:Int)<(m:Int):=j8;obtain⟨k,hk⟩:=Ar (L:=O) (k:=j) (by rw [HmO.o];exact hlt);obtain⟨k1,k2⟩:=Hok.o k (List.mem_of_getElem? hk);obtain⟨i,hi⟩:∃i:Nat,(i:Int)=k-1:=⟨(k-1).toNat,by omega⟩;obtain⟨x,hx⟩:=Ar (L:=B) (k:=i) j05;obtain⟨x1,x2⟩:=Hm.o x (List.mem_of_getElem? hx);obtain⟨gO,oO,he,hcO⟩:=(HO.o.keeps hat.kp (by simp)).int (k:= .i64) hk;subst he;obtain⟨gB,oB,he,hcB⟩:=(HB.o.keeps hat.kp (by simp)).int (k:= .i64) hx;subst he;obtain⟨y,hy⟩:=Ar (L:=out) (k:=i) (by rw [hrow.2];omega);have cy:=hrow.cell hy;have fy:=hrow.free i;have q2:k-1<(n:Int):=j8;have q3:(k-1).toNat=i:=j8;have q4:IntKind.i64.wrap (k-1)=k-1:=IntWalk.i64_in _ ⟨by omega,by omega⟩
   have hstep:intoS B (O.drop j) (out,b)=intoS B (O.drop (j+1)) (out.set i (minI b x),b-minI b x):=by
    obtain⟨h1,h2⟩:=List.getElem?_eq_some_iff.1 hk;rw [List.drop_eq_getElem_cons h1,h2];show intoS B (O.drop (j+1)) _=_;rw [q3,List.getD_eq_getElem?_getD,hx];rfl
   have hat2:∀v:Int,minI b x=v->0<=v->v<=b->InAt B O a w g (j+1) (out.set i v) (b-v) (W.setCell ⟨g,i,none⟩ (.int .i64 v)):=λv hv h0 h1=>
    ⟨by rw [HmO.o];omega,by omega,by omega,by rw [Hn.o];exact hrow.set j6 v,by rw [hat.eq,hstep,hv],hat.kp.trans (Keeps.setCell _ _ _ (.inr hat.gg)),hat.gg⟩
   by_cases hmin:b<=x
   ·have h2:=hat2 b (by unfold minI;rw [if_pos hmin]) j6 j6;rw [Int.sub_self] at h2;clear hat2;clear hat;have Hrow:=Lib.hid hrow;clear hrow hk hx hy hstep hi;have H2:=Lib.hid h2;clear h2;go_wp2;go_step3;go_wp2;exact Av ⟨inJ.mk g (j+1) (out.set i b) 0 rfl H2.o,by simp [Eg];omega⟩
   ·have h2:=hat2 x (by unfold minI;rw [if_neg hmin]) j6 j6;clear hat2;clear hat;have Hrow:=Lib.hid hrow;clear hrow hk hx hy hstep hi;have H2:=Lib.hid h2;clear h2;go_wp2;go_step3;go_wp2;exact Av ⟨inJ.mk g (j+1) (out.set i x) (b-x) rfl H2.o,by simp [Eg];omega⟩
  ·obtain rfl:j=m:=by omega
   have he:=hat.eq;rw [Hr.o,List.drop_eq_nil_of_le (by rw [HmO.o];exact Nat.le_refl _)] at he;have he2:r=(out,b):=he;subst he2;have hkp:=hat.kp;have hgg:=hat.gg;clear hat he;obtain⟨Hrow,Hkp,Hgg⟩:=hid3 hrow hkp hgg;clear hgg hkp hrow;go_wp2;refine Bo ?_;have hpost:Qj (out,b) w (.returned (.tuple #[.slice (some ⟨g,0,none⟩) n n,.int .i64 b])) W:=⟨g,by simp only;rw [Hrl.o],by simp only;rw [Hrl.o];exact Hrow.o,Hkp.o,Hgg.o⟩;exact bodyPost_ret (v:= .tuple #[.slice (some ⟨g,0,none⟩) n n,.int .i64 b]) (by simp [results,Tryz.results181,go_sem]) rfl hpost
 ·refine jM ?_;intro Hfirst;go_wp2_with fail;go_step3;rename_i hK;refine jN ?_;have hmd:=RowZ.made w 2 n jd;rw [<-HZ.o] at hmd;exact inJ.mk w.heap.size 0 (List.replicate n 0) a rfl ⟨Nat.zero_le _,ha0,ha1,by rw [Hn.o];exact hmd,by unfold intoL;rw [Hn.o];rfl,by(repeat (first|exact Keeps.refl _ _|exact Keeps.alloc _ _|exact Keeps.drew _|exact Keeps.drewN _ _|refine Keeps.Ao ?_|refine Keeps.Al ?_|refine Keeps.Af ?_)),Nat.le_refl _⟩
structure Ps where
 bal:List Int
 cr:Int
 du:Int
def Ps.val(p:Ps)(v:Value):Value:= .agg #[v,.int .i64 p.cr,.int .i64 p.du]
def sumI:List Int->Int
 | []=>0
 |x::L=>x+sumI L
theorem Aab(A B:List Int):sumI (A++B)=sumI A+sumI B:=by
 induction A with
 |nil=>simp [sumI]
 |cons x A ih=>simp only [List.cons_append,sumI,ih];omega
theorem sumI_snoc{L:List Int}{k:Nat}{x:Int}(h:L[k]?=some x):sumI (L.take (k+1))=sumI (L.take k)+x:=by rw [take_snoc' h,Aab];simp [sumI]
theorem Rm{L:List Int}(h:L.all Bv=true):0<=sumI L:=by
 induction L with
 |nil=>exact Int.le_refl _
 |cons x L ih=>
  simp only [List.all_cons,Bool.and_eq_true] at h;have:=ih h.2;have:=(Bi x).1 h.1;simp only [sumI];omega
def scanB(L:List Int):Bool:=L.all Bv&&Bv (sumI L)
theorem scan_bad1{L:List Int}{k:Nat}{x:Int}(h:L[k]?=some x)(hx:Bv x=false):scanB L=false:=by
 have:L.all Bv=false:=by
  rw [Bool.eq_false_iff];intro hh;have:=List.all_eq_true.1 hh x (List.mem_of_getElem? h);rw [hx] at this;cases this
 unfold scanB;rw [this];rfl
theorem scan_bad2{L:List Int}{k:Nat}(hk:1000000000000000<sumI (L.take k)):scanB L=false:=by
 rcases ha:L.all Bv with _|_
 ·unfold scanB;rw [ha];rfl
 ·have hd:(L.drop k).all Bv=true:=List.all_eq_true.2 λx hx=>List.all_eq_true.1 ha x (List.mem_of_mem_drop hx);have h1:=Rm hd;have h2:sumI L=sumI (L.take k)+sumI (L.drop k):=by rw [<-Aab,List.take_append_drop]
  unfold scanB;rw [show Bv (sumI L)=false by simp [Bv];omega];simp
def Ps.Bh(p:Ps):Bool:=scanB p.bal&&(decide (1<=p.bal.length)&&(decide (p.bal.length<=8)&&(Bv p.cr&&(Bv p.du&&(decide (p.cr=0)||decide (sumI p.bal=0))))))
theorem Ab2(v:Int)(w:World):Calls Tryz.prog 70 #[.int .i64 v] w λe w'=>e= .returned (.bool (Bv v))/\w=w':=by
 by_cases h1:v<0
 ·have hf:Bv v=false:=by simp [Bv];omega
  have h1':¬0<=v:=j8;exact j1r
 ·by_cases h2:1000000000000000<v
  ·have hf:Bv v=false:=by simp [Bv];omega
   have hd:decide (v<=1000000000000000)=false:=by rw [decide_eq_false_iff_not];omega
   have h1':0<=v:=j8;exact j1r
  ·have hf:Bv v=true:=by simp [Bv];omega
   have h1':0<=v:=j8;exact j1r
theorem Cf{v:Int}{b:Bool}(h:Bv v=b)(w:World):Calls Tryz.prog 70 #[.int .i64 v] w λe w'=>e= .returned (.bool b)/\w=w':=by subst h;exact Ab2 v w
theorem Ga(L:List Int)(cr du:Int)(ad:Option Addr)(cap n:Nat)(w:World)(hr:Reads w 1 (.slice ad n cap) n (L.flatMap i64c))(hN:L.length=n)(hl:n<=1000):
  Calls Tryz.prog 35 #[.agg #[.slice ad n cap,.int .i64 cr,.int .i64 du]] w λe w'=>e= .returned (.bool (Ps.Bh ⟨L,cr,du⟩))/\K0 w w':=by
 obtain⟨z,hz⟩:=eX (Ps.Bh ⟨L,cr,du⟩);rw [hz];refine j0r ?_;intro hbx;obtain⟨Hr,Hz,Hbx⟩:=hid3 hr hz hbx;clear hbx hz hr;go_enter Tryz.func35,Tryz.ntmps35;go_wp2
 go_loopw [3,9] (λx y wx=>∃(i:Nat) (s:Int),x= .int .i64 s/\y= .int .i64 (i:Nat)/\i<=n/\sumI (L.take i)=s/\(L.take i).all Bv=true/\0<=s/\s<=1000000000000000/\K0 (w.alloc (.cells #[.slice ad n cap,.int .i64 cr,.int .i64 du] 51)) wx) (λ_ y _=>n-(intOf y).toNat)
 case atStart=>exact⟨0,0,rfl,rfl,Nat.zero_le _,rfl,rfl,by omega,by omega,Keeps.refl _ _⟩
 case round=>
  obtain⟨i,s,rfl,rfl,hin,hs,hall,hs0,hs1,hk⟩:=hrel;obtain⟨wq,hwq⟩:=eY wr;subst hwq;by_cases hlt:i<n
  ·have hltI:(i:Int)<(n:Int):=j8;obtain⟨x,hx⟩:=Ar (L:=L) (k:=i) j6;obtain⟨g,o,he,hc⟩:=(Hr.o.keeps ((Keeps.alloc w _).nt hk) (by simp)).int (k:= .i64) hx;subst he;have hsn:=sumI_snoc hx;rw [hs] at hsn;rcases m3:Bv x with _|_
   ·have hf:Ps.Bh ⟨L,cr,du⟩=false:=by unfold Ps.Bh;rw [show scanB L=false from scan_bad1 hx m3];rfl
    obtain rfl:z=false:=Hz.o.symm.trans hf;clear hall;have Hk:=Lib.hid hk;clear hk hs;have Hsn:=Lib.hid hsn;clear hsn hx hf
    go_wp2_with (go_at_call 70;(with_reducible refine(Cf m3 _).mono ?_);rintro e w1 ⟨rfl,rfl⟩)
    go_ret;exact⟨rfl,(Keeps.alloc w _).nt Hk.o⟩
   ·obtain⟨x0,x1⟩:=(Bi x).1 m3;rcases m4:Bv (s+x) with _|_
    ·have hf:Ps.Bh ⟨L,cr,du⟩=false:=by
      unfold Ps.Bh;rw [show scanB L=false from scan_bad2 (k:=i+1) (by rw [hsn];have h4:¬(0<=s+x/\s+x<=1000000000000000):=λh=>(by rw [(Bi _).2 h] at m4;cases m4);omega)];rfl
     obtain rfl:z=false:=Hz.o.symm.trans hf;clear hall;have Hk:=Lib.hid hk;clear hk hs;have Hsn:=Lib.hid hsn;clear hsn hx hf;exact j1s
    ·obtain⟨y0,y1⟩:=(Bi _).1 m4;have hall2:(L.take (i+1)).all Bv=true:=by rw [take_snoc' hx,List.all_append,hall];simp [m3]
     clear hall;have Hk:=Lib.hid hk;clear hk hs;have Hsn:=Lib.hid hsn;clear hsn hx;have Hall2:=Lib.hid hall2;clear hall2
     go_wp2_with (first|(go_at_call 70;(with_reducible refine(Cf m3 _).mono ?_);rintro e w1 ⟨rfl,rfl⟩)|(go_at_call 70;(with_reducible refine(Cf m4 _).mono ?_);rintro e w1 ⟨rfl,rfl⟩))
     go_roundw
     case rel=>exact⟨i+1,s+x,rfl,by go_num,by omega,Hsn.o,Hall2.o,by omega,by omega,Hk.o⟩
     case measure=>simp [intOf];omega
  ·obtain rfl:i=n:=by omega
   rw [List.take_of_length_le j6] at hs hall;have hsc:scanB L=true:=by unfold scanB;rw [hall,hs,(Bi s).2 ⟨hs0,hs1⟩];rfl
   have hb:=Hbx.o wq hk;have b0:=Aa hb 0;have b1:=Aa hb 1;have b2:=Aa hb 2;have m3:Bv cr=Bv cr:=rfl;have m4:Bv du=Bv du:=rfl;clear hb;by_cases h1:1<=i
   ·have h1I:decide ((1:Int)<=(i:Int))=true:=by rw [decide_eq_true_iff];omega
    by_cases h2:i<=8
    ·have h2I:decide ((i:Int)<=8)=true:=by rw [decide_eq_true_iff];omega
     clear m3 m4;rcases m3:Bv cr with _|_
     ·have m4:Bv du=Bv du:=rfl;exact j0s
     ·rcases m4:Bv du with _|_
      ·skip
       exact j0s
      ·by_cases h5:cr=0
       ·have h5I:(cr==0)=true:=by simp [h5]
        have h5D:decide (cr=0)=true:=by simp [h5]
        clear h5;exact j2M
       ·have h5I:(cr==0)=false:=beq_eq_false_iff_ne.2 h5;by_cases h6:s=0
        ·subst h6;exact j2M
        ·have h6I:(s==0)=false:=beq_eq_false_iff_ne.2 h6;exact j0s
    ·have h2I:decide ((i:Int)<=8)=false:=by rw [decide_eq_false_iff_not];omega
     exact j0s
   ·have h1I:decide ((1:Int)<=(i:Int))=false:=by rw [decide_eq_false_iff_not];omega
    exact j0s
theorem Fa(w:World)(v:Value)(n:Nat)(xs:List Value)(hr:Reads w 1 v n xs)(h1:∀u∈xs,u.oneCell'=true)(hn:n<=1000000000000):
  Calls Tryz.prog 32 #[v] w λe w'=>∃v',e= .returned v'/\w'.ownsRow 0 2 1 v' n xs/\K0 w w'/\(∀k,v'.ownBlock=some k->w.heap.size<=k):=by
 obtain⟨i0,hi,hz0,hz1,hz2⟩:=info_parts Gw;have hr':=hr;obtain⟨ad,c,rfl,hnc,hl,hnone,hcells⟩:=hr';clear hcells;have heq:=fun(wx:World) (ad:Option Addr) (l c:Nat)=>Lib.run_eql_slice_nil (P:=Tryz.prog) wx 49 _ ad l c 0 0 Tryz.underlying49;rcases ad with _|a
 ·obtain rfl:=hnone rfl;obtain rfl:n=0:=by omega
  obtain rfl:xs= []:=List.eq_nil_of_length_eq_zero jL;clear hr;go_enter Tryz.func32,Tryz.ntmps32;exact jW
 ·have Hr:=Lib.hid hr;clear hr;clear hl hnone;have H1:=Lib.hid h1;clear h1;go_enter Tryz.func32,Tryz.ntmps32
  go_wp2_with (at_builtin;refine Am rfl (.tmp 5) (.tmp 6) 49 rfl 0 2 i0 _ 1 8 Tryz.underlying49 hi hz0 hz1 hz2 rfl j7 _ 0 [] rfl (World.ownsRow_lit w #[] 0 j6 jd rfl) _ n xs rfl (Hr.o.keeps (Keeps.alloc (S:=λ_=>False) _ _) (by simp)) H1.o jd j6 j6 ?_)
  intro v' w1 hown1 hk1 hfr
  have hend:w1.ownsRow 0 2 1 v' n xs/\K0 w w1/\(∀k,v'.ownBlock=some k->w.heap.size<=k):=by
   exact jX
  exact jY
def ps0:Ps:=⟨[],0,0⟩
def Aa3(p:Ps)(z:Int)(w:World)(e:Ending)(w':World):Prop:=∃v,e= .returned (.tuple #[.agg #[v,.int .i64 p.cr,.int .i64 p.du],.int .i64 z])/\w'.ownsRow 0 2 1 v p.bal.length (p.bal.flatMap i64c)/\Fresh w w' v
theorem Jk(L:List Int)(cr du:Int)(v:Value)(n:Nat)(w:World)(hr:Reads w 1 v n (L.flatMap i64c))(hl:n<=1000):
  Calls Tryz.prog 165 #[.agg #[v,.int .i64 cr,.int .i64 du]] w λe w'=>∃v',e= .returned (.agg #[v',.int .i64 cr,.int .i64 du])/\w'.ownsRow 0 2 1 v' n (L.flatMap i64c)/\Fresh w w' v':=by
 have hcl:=λW (hW:K0 w W)=>Fa W v n (L.flatMap i64c) (hr.keeps hW (by simp)) (Jz _) j6;obtain⟨ad,cap,rfl,_⟩:=id hr;clear hr;have Hcl:=Lib.hid hcl;clear hcl;go_enter Tryz.func165,Tryz.ntmps165;go_wp2_with fail;refine(Hcl.o _ jg).mono ?_;rintro e w1 ⟨v1,rfl,hrow,hk1,hnew⟩;have hkw:=(by(repeat (first|exact Keeps.refl _ _|exact Keeps.alloc _ _|exact Keeps.drew _|exact Keeps.drewN _ _|refine Keeps.Ao ?_|refine Keeps.Al ?_|refine Keeps.Af ?_)):K0 w ((w.alloc (.cells #[.slice ad n cap,.int .i64 cr,.int .i64 du] 51)).alloc (.cells #[.slice none 0 0,.int .i64 0,.int .i64 0] 51))).nt hk1;have hb:=j2N;refine j0O ?_;intro hrs;have k0:Keeps (λi=>i=w.heap.size) w1 (w1.setCell ⟨w.heap.size,0,none⟩ v1):=Keeps.setCell _ _ _ rfl;have hrs2:=Ad hrs k0 (by simp);have hb3:((((w1.setCell ⟨w.heap.size,0,none⟩ v1).setCell ⟨w.heap.size+1,0,none⟩ v1).setCell ⟨w.heap.size+1,1,none⟩ (.int .i64 cr)).setCell ⟨w.heap.size+1,2,none⟩ (.int .i64 du)).heap[w.heap.size+1]?=some (.cells #[v1,.int .i64 cr,.int .i64 du] 51 (0,0)):=(heap_setCell_same _ _ 2 _ _ _ ((heap_setCell_same _ _ 1 _ _ _ ((heap_setCell_same _ _ 0 _ _ _ hrs2).trans rfl)).trans rfl)).trans rfl
 have k3:Keeps (λi=>w.heap.size<=i) w1 ((((w1.setCell ⟨w.heap.size,0,none⟩ v1).setCell ⟨w.heap.size+1,0,none⟩ v1).setCell ⟨w.heap.size+1,1,none⟩ (.int .i64 cr)).setCell ⟨w.heap.size+1,2,none⟩ (.int .i64 du)):=
  (((Keeps.setCell (S:=λi=>w.heap.size<=i) _ _ _ (Nat.le_refl _)).trans (Keeps.setCell _ _ _ (.inl (by simp)))).trans (Keeps.setCell _ _ _ (.inl (by simp)))).trans (Keeps.setCell _ _ _ (.inl (by simp)))
 have k4:Keeps (λi=>i=w.heap.size\/i=w.heap.size+1) w1 ((((w1.setCell ⟨w.heap.size,0,none⟩ v1).setCell ⟨w.heap.size+1,0,none⟩ v1).setCell ⟨w.heap.size+1,1,none⟩ (.int .i64 cr)).setCell ⟨w.heap.size+1,2,none⟩ (.int .i64 du)):=
  (((Keeps.setCell (S:=λi=>i=w.heap.size\/i=w.heap.size+1) _ _ _ (.inl rfl)).trans (Keeps.setCell _ _ _ (.inl (.inr rfl)))).trans (Keeps.setCell _ _ _ (.inl (.inr rfl)))).trans (Keeps.setCell _ _ _ (.inl (.inr rfl)))
 have hrow3:=k4.row hrow (λg hg e=>by have:=hnew g hg;simp at this;omega);have hfin:Fresh w ((((w1.setCell ⟨w.heap.size,0,none⟩ v1).setCell ⟨w.heap.size+1,0,none⟩ v1).setCell ⟨w.heap.size+1,1,none⟩ (.int .i64 cr)).setCell ⟨w.heap.size+1,2,none⟩ (.int .i64 du)) v1:=⟨hkw.trans (k3.mono λi _ e=> .inr e),λg hg=>by have:=hnew g hg;simp at this;omega⟩;have b0:=Aa hb 0;have b1:=Aa hb 1;have b2:=Aa hb 2;have bf:=Ab hb 0;refine j0P ?_;intro r0 r1 r2 rf0 rf1 rf2;have sr0:=Aa hb3 0;have sr1:=Aa hb3 1;have sr2:=Aa hb3 2;obtain⟨ad1,c1,rfl,_,_⟩:=Ae hrow;clear hrow hk1 hnew hkw hb hrs k0 hrs2 hb3 k3 k4;obtain⟨Hrow3,Hfin,Sr0,Sr1,Sr2⟩:=hid5 hrow3 hfin sr0 sr1 sr2;clear sr2 sr1 sr0 hfin hrow3;go_wp2;refine jj ?_;intro R0' R1' R2';clear r0 r1 r2 b0 b1 b2;exact bodyPost_ret (v:= .agg #[.slice ad1 n c1,.int .i64 cr,.int .i64 du]) (by simp [results,Tryz.results165,go_sem,R0',R1',R2']) rfl ⟨_,rfl,Hrow3.o,Hfin.o⟩
theorem Gb(L:List Int)(cr du:Int)(ad:Option Addr)(cap n:Nat)(w:World)(hr:Reads w 1 (.slice ad n cap) n (L.flatMap i64c))(hN:L.length=n)(hl:n<=1000):
  Calls Tryz.prog 167 #[.agg #[.slice ad n cap,.int .i64 cr,.int .i64 du]] w λe w'=>e= .returned (.tuple #[.agg (if Ps.Bh ⟨L,cr,du⟩=true then #[.slice ad n cap,.int .i64 cr,.int .i64 du] else #[.slice none 0 0,.int .i64 0,.int .i64 0]),.int .i64 (if Ps.Bh ⟨L,cr,du⟩=true then 0 else 5)])/\K0 w w':=by
 refine j0t ?_;intro hri;rcases hb:Ps.Bh ⟨L,cr,du⟩ with _|_
 ·rw [hb] at hri;rw [if_neg j7,if_neg j7];clear hr;have Hri:=Lib.hid hri;clear hri hb;go_enter Tryz.func167,Tryz.ntmps167;go_wp2_with fail;refine(Hri.o _ jg).mono ?_;rintro e w1 ⟨rfl,hk1⟩;refine j2O ?_;intro Hk1 hrs;refine j0P ?_;intro r0 r1 r2 rf0 rf1 rf2;have hb3:(((w1.setCell ⟨w.heap.size+1,0,none⟩ (.slice none 0 0)).setCell ⟨w.heap.size+1,1,none⟩ (.int .i64 0)).setCell ⟨w.heap.size+1,2,none⟩ (.int .i64 0)).heap[w.heap.size+1]?=some (.cells #[.slice none 0 0,.int .i64 0,.int .i64 0] 51 (0,0)):=(heap_setCell_same _ _ 2 _ _ _ ((heap_setCell_same _ _ 1 _ _ _ ((heap_setCell_same _ _ 0 _ _ _ hrs).trans rfl)).trans rfl)).trans rfl;have sr0:=Aa hb3 0;have sr1:=Aa hb3 1;have sr2:=Aa hb3 2;have hfin:K0 w (((w1.setCell ⟨w.heap.size+1,0,none⟩ (.slice none 0 0)).setCell ⟨w.heap.size+1,1,none⟩ (.int .i64 0)).setCell ⟨w.heap.size+1,2,none⟩ (.int .i64 0)):=Hk1.o.trans ((((Keeps.setCell (S:=λi=>w.heap.size<=i) _ _ _ (by simp)).trans (Keeps.setCell _ _ _ (.inl (by simp)))).trans (Keeps.setCell _ _ _ (.inl (by simp)))).mono λi _ e=> .inr e);have Hk1:=Lib.hid hk1;clear hk1 hrs hb3;obtain⟨Hfin,Sr0,Sr1,Sr2⟩:=hid4 hfin sr0 sr1 sr2;clear sr2 sr1 sr0 hfin;go_wp2;refine jj ?_;intro R0' R1' R2';clear r0 r1 r2;exact bodyPost_ret (v:= .tuple #[.agg #[.slice none 0 0,.int .i64 0,.int .i64 0],.int .i64 5]) (by simp [results,Tryz.results167,go_sem,R0',R1',R2']) rfl ⟨rfl,Hfin.o⟩
 ·rw [hb] at hri;rw [if_pos rfl,if_pos rfl];clear hr;have Hri:=Lib.hid hri;clear hri hb;go_enter Tryz.func167,Tryz.ntmps167;go_wp2_with fail;refine(Hri.o _ jg).mono ?_;rintro e w1 ⟨rfl,hk1⟩;have hbx:=j2N;have b0:=Aa hbx 0;have b1:=Aa hbx 1;have b2:=Aa hbx 2;refine j2O ?_;intro Hk1 hrs;clear hbx;refine j0P ?_;intro r0 r1 r2 rf0 rf1 rf2;have hb3:(((w1.setCell ⟨w.heap.size+1,0,none⟩ (.slice ad n cap)).setCell ⟨w.heap.size+1,1,none⟩ (.int .i64 cr)).setCell ⟨w.heap.size+1,2,none⟩ (.int .i64 du)).heap[w.heap.size+1]?=some (.cells #[.slice ad n cap,.int .i64 cr,.int .i64 du] 51 (0,0)):=(heap_setCell_same _ _ 2 _ _ _ ((heap_setCell_same _ _ 1 _ _ _ ((heap_setCell_same _ _ 0 _ _ _ hrs).trans rfl)).trans rfl)).trans rfl;have sr0:=Aa hb3 0;have sr1:=Aa hb3 1;have sr2:=Aa hb3 2;have hfin:K0 w (((w1.setCell ⟨w.heap.size+1,0,none⟩ (.slice ad n cap)).setCell ⟨w.heap.size+1,1,none⟩ (.int .i64 cr)).setCell ⟨w.heap.size+1,2,none⟩ (.int .i64 du)):=Hk1.o.trans ((((Keeps.setCell (S:=λi=>w.heap.size<=i) _ _ _ (by simp)).trans (Keeps.setCell _ _ _ (.inl (by simp)))).trans (Keeps.setCell _ _ _ (.inl (by simp)))).mono λi _ e=> .inr e);have Hk1:=Lib.hid hk1;clear hk1 hrs hb3;obtain⟨Hfin,Sr0,Sr1,Sr2⟩:=hid4 hfin sr0 sr1 sr2;clear sr2 sr1 sr0 hfin;go_wp2;refine jj ?_;intro R0' R1' R2';clear r0 r1 r2;exact bodyPost_ret (v:= .tuple #[.agg #[.slice ad n cap,.int .i64 cr,.int .i64 du],.int .i64 0]) (by simp [results,Tryz.results167,go_sem,R0',R1',R2']) rfl ⟨rfl,Hfin.o⟩
def trB(n:Nat)(k:Int):Bool:=decide (1<=k)&&decide (k<=n)
def askE(p:Ps)(T:List Int)(a:Int):Int:=if p.Bh=true then(if T.all (trB p.bal.length)=true then(if Bv a=true then 0 else 8) else 7) else 1
theorem Jp(L:List Int)(cr du a:Int)(T:List Int)(ad adT:Option Addr)(cap capT n m:Nat)(w:World)(hr:Reads w 1 (.slice ad n cap) n (L.flatMap i64c))(hN:L.length=n)(hl:n<=1000)(hT:Reads w 1 (.slice adT m capT) m (T.flatMap i64c))(hM:T.length=m)(hm:m<=1000):
  Calls Tryz.prog 164 #[.agg #[.slice ad n cap,.int .i64 cr,.int .i64 du],.int .i64 a,.slice adT m capT] w λe w'=>e= .returned (.int .i64 (askE ⟨L,cr,du⟩ T a))/\K0 w w':=by
 refine j0t ?_;intro hri;obtain⟨z,hz⟩:=eX (askE ⟨L,cr,du⟩ T a);have hz':=hz;unfold askE at hz';simp only at hz';rw [hN] at hz';rw [hz];refine j0r ?_;intro hbx;rcases hb:Ps.Bh ⟨L,cr,du⟩ with _|_
 ·rw [hb] at hri hz';rw [if_neg j7] at hz';subst hz';clear hr;obtain⟨HT,Hri⟩:=hid2 hT hri;clear hri hT hb;obtain⟨Hz,Hbx⟩:=hid2 hz hbx;clear hbx hz;go_enter Tryz.func164,Tryz.ntmps164;exact j2P
 ·rw [hb] at hri hz';rw [if_pos rfl] at hz';clear hr;obtain⟨HT,Hri⟩:=hid2 hT hri;clear hri hT hb;obtain⟨Hz,Hz',Hbx⟩:=hid3 hz hz' hbx;clear hbx hz' hz;go_enter Tryz.func164,Tryz.ntmps164;go_wp2_with fail;refine(Hri.o _ jg).mono ?_;rintro e w1 ⟨rfl,hk1⟩;have Hk1:=Lib.hid hk1;clear hk1;go_wp2
  go_loopw [14] (λx wx=>∃i:Nat,x= .int .i64 (i:Nat)/\i<=m/\(T.take i).all (trB n)=true/\K0 w1 wx) (λx _=>m-(intOf x).toNat)
  case atStart=>exact⟨0,rfl,Nat.zero_le _,rfl,Keeps.refl _ _⟩
  case round=>
   obtain⟨i,rfl,him,hall,hk⟩:=hrel;obtain⟨wq,hwq⟩:=eY wr;subst hwq;have hkb:=Hk1.o.nt hk;have hkw:=(Keeps.alloc w _).nt hkb;by_cases hlt:i<m
   ·have hltI:(i:Int)<(m:Int):=j8;obtain⟨k,hx⟩:=Ar (L:=T) (k:=i) j6;obtain⟨g,o,he,hc⟩:=(HT.o.keeps hkw (by simp)).int (k:= .i64) hx;subst he;have hb:=Hbx.o wq hkb;have b0:=Aa hb 0;clear hb;by_cases hk1:1<=k/\k<=n
    ·obtain⟨k1,k2⟩:=hk1;have hall2:(T.take (i+1)).all (trB n)=true:=by rw [take_snoc' hx,List.all_append,hall];simp [trB,k1,k2]
     have k1':¬k<1:=j8;have k2':¬(n:Int)<k:=j8;clear hall;have Hk:=Lib.hid hk;clear hk hkb;have Hkw:=Lib.hid hkw;clear hkw hx;have Hall2:=Lib.hid hall2;clear hall2;go_wp2;go_roundw
     case rel=>exact⟨i+1,by go_num,by omega,Hall2.o,Hk.o⟩
     case measure=>simp [intOf];omega
    ·have hbad:T.all (trB n)=false:=by
      rw [Bool.eq_false_iff];intro h;have:=List.all_eq_true.1 h k (List.mem_of_getElem? hx);simp [trB] at this;omega
     have h:=Hz'.o;rw [hbad,if_neg j7] at h;subst h;clear hall;have Hk:=Lib.hid hk;clear hk hkb;have Hkw:=Lib.hid hkw;clear hkw hx hbad;by_cases k1:k<1
     ·clear hk1;go_wp2;exact j0u
     ·have k2:(n:Int)<k:=j8;clear hk1;go_wp2;exact j0u
   ·obtain rfl:i=m:=by omega
    rw [List.take_of_length_le j6] at hall;have h:=Hz'.o;rw [hall,if_pos rfl] at h;rcases m3:Bv a with _|_
    ·rw [m3,if_neg j7] at h;exact j2Q
    ·rw [m3,if_pos rfl] at h;exact j2Q
def Gr(p:Ps)(k a:Int):Ps:=⟨p.bal.set (k-1).toNat (p.bal.getD (k-1).toNat 0+(a-minI a p.cr)),p.cr-minI a p.cr,p.du⟩
theorem Li(B g c:Nat)(L:List Int)(cr du k a:Int)(n:Nat)(w:World)(hb:w.heap[B]?=some (.cells #[.slice (some ⟨g,0,none⟩) n c,.int .i64 cr,.int .i64 du] 51 (0,0)))(hrow:RowZ w 2 g n c L)(hm:∀x,L[(k-1).toNat]?=some x->0<=x/\x<=1000000000000000)(hcr:0<=cr/\cr<=1000000000000000)(ha:0<=a/\a<=1000000000000000)(hk:1<=k/\k<=n)(hn:n<=1000):
  Calls Tryz.prog 166 #[(.pointer (some ⟨B,0,none⟩)),.int .i64 k,.int .i64 a] w λe w'=>e= .returned (.tuple #[])/\w'.heap[B]?=some (.cells #[.slice (some ⟨g,0,none⟩) n c,.int .i64 (cr-minI a cr),.int .i64 du] 51 (0,0))/\RowZ w' 2 g n c (L.set (k-1).toNat (L.getD (k-1).toNat 0+(a-minI a cr)))/\Keeps (λi=>i=B\/i=g) w w':=by
 obtain⟨i,hi⟩:∃i:Nat,(i:Int)=k-1:=⟨(k-1).toNat,by omega⟩;have hlen:=hrow.2;obtain⟨x,hx⟩:=Ar (L:=L) (k:=i) j6;have q3:(k-1).toNat=i:=j8;obtain⟨x1,x2⟩:=hm x (by rw [q3];exact hx);have hxD:L.getD (k-1).toNat 0=x:=by rw [q3,List.getD_eq_getElem?_getD,hx];rfl
 rw [hxD,q3];obtain⟨m,hmin⟩:=eX (minI a cr);have hm2:0<=m/\m<=a/\m<=cr:=by rw [<-hmin];unfold minI;split<;>omega
 rw [hmin]
 have hgB:g≠B:=λe=>by
  subst e;exact Ah hrow.1 hb j7 rfl
 have b0:=Aa hb 0;have b1:=Aa hb 1;have f1:=Ab hb 1;have ck:=hrow.cell hx;have fk:=hrow.free i;have q2:k-1<(n:Int):=j8;have q4:IntKind.i64.wrap (k-1)=k-1:=IntWalk.i64_in _ ⟨by omega,by omega⟩;have k1:Keeps (λi=>i=B) w (w.setCell ⟨B,1,none⟩ (.int .i64 (cr-m))):=Keeps.setCell _ _ _ rfl;have k2:Keeps (λi=>i=g) (w.setCell ⟨B,1,none⟩ (.int .i64 (cr-m))) ((w.setCell ⟨B,1,none⟩ (.int .i64 (cr-m))).setCell ⟨g,i,none⟩ (.int .i64 (x+(a-m)))):=Keeps.setCell _ _ _ rfl;have hrow1:RowZ (w.setCell ⟨B,1,none⟩ (.int .i64 (cr-m))) 2 g n c L:=⟨k1.row hrow.1 (λg' hg e=>by simp only [Value.ownBlock,Option.some.injEq] at hg;subst hg;exact hgB e),hrow.2⟩;have hin:i<n:=j8
 have hpost:((w.setCell ⟨B,1,none⟩ (.int .i64 (cr-m))).setCell ⟨g,i,none⟩ (.int .i64 (x+(a-m)))).heap[B]?=some (.cells #[.slice (some ⟨g,0,none⟩) n c,.int .i64 (cr-m),.int .i64 du] 51 (0,0))/\RowZ ((w.setCell ⟨B,1,none⟩ (.int .i64 (cr-m))).setCell ⟨g,i,none⟩ (.int .i64 (x+(a-m)))) 2 g n c (L.set i (x+(a-m)))/\Keeps (λi=>i=B\/i=g) w ((w.setCell ⟨B,1,none⟩ (.int .i64 (cr-m))).setCell ⟨g,i,none⟩ (.int .i64 (x+(a-m)))):=
  ⟨Ad ((heap_setCell_same _ _ 1 _ _ _ hb).trans rfl) k2 (λe=>hgB e.symm),hrow1.set hin _,(k1.mono λi _ e=> .inl e).trans (k2.mono λi _ e=> .inl (.inr e))⟩
 have hgB2:¬B=g:=λe=>hgB e.symm;obtain⟨ha0,ha1⟩:=ha;obtain⟨hc0,hc1⟩:=hcr;obtain⟨m0,m1,m2⟩:=hm2;by_cases hle:a<=cr
 ·obtain rfl:m=a:=by rw [<-hmin];unfold minI;rw [if_pos hle]
  rw [Int.sub_self,Int.add_zero] at hpost⊢;exact j2R
 ·obtain rfl:m=cr:=by rw [<-hmin];unfold minI;rw [if_neg hle]
  rw [Int.sub_self] at hpost⊢;exact j2R
theorem Keeps.te{S T:Nat->Prop}{w w1 w2:World}(h:Keeps S w w1)(h2:Keeps T w1 w2)(hs:∀i,T i->S i):Keeps S w w2:=h.trans (h2.mono λi _ e=> .inl (hs i e))
theorem Cb {W : World} {R : Nat} {t : TypeId} {v0 c0 d0 : Value} (h : W.heap[R]? = some (.cells #[v0, c0, d0] t (0, 0))) (v c d : Value) :
    (((W.setCell ⟨R, 0, none⟩ v).setCell ⟨R, 1, none⟩ c).setCell ⟨R, 2, none⟩ d).heap[R]? = some (.cells #[v, c, d] t (0, 0)) /\ Keeps (λi => i = R) W (((W.setCell ⟨R, 0, none⟩ v).setCell ⟨R, 1, none⟩ c).setCell ⟨R, 2, none⟩ d) :=
  ⟨(heap_setCell_same _ _ 2 _ _ _ ((heap_setCell_same _ _ 1 _ _ _ ((heap_setCell_same _ _ 0 _ _ _ h).trans rfl)).trans rfl)).trans rfl,
   ((Keeps.setCell (S := λi => i = R) _ _ _ rfl).trans (Keeps.setCell _ _ _ (.inl rfl))).trans (Keeps.setCell _ _ _ (.inl rfl))⟩
theorem Ez{w:World}{b:Nat}{e:TypeId}{s:Nat}{v:Value}{n:Nat}{xs:List Value}(h:w.ownsRow b e s v n xs)(hn:1<=n):∃g c,v= .slice (some ⟨g,0,none⟩) n c:=by
 rcases h.2 with⟨_,h0⟩|⟨g,c,_,h,_⟩
 ·omega
 ·exact⟨g,c,h⟩
theorem Rh{p:Ps}{T:List Int}{a:Int}(h:askE p T a=0):p.Bh=true/\T.all (trB p.bal.length)=true/\Bv a=true:=by
 unfold askE at h;rcases h1:p.Bh with _|_
 ·rw [h1,if_neg j7] at h;omega
 ·rw [h1,if_pos rfl] at h;rcases h2:T.all (trB p.bal.length) with _|_
  ·rw [h2,if_neg j7] at h;omega
  ·rw [h2,if_pos rfl] at h;rcases h3:Bv a with _|_
   ·rw [h3,if_neg j7] at h;omega
   ·exact⟨rfl,rfl,rfl⟩
theorem Eo{p:Ps}(h:p.Bh=true):(∀x∈p.bal,0<=x/\x<=1000000000000000)/\(0<=p.cr/\p.cr<=1000000000000000)/\(0<=p.du/\p.du<=1000000000000000)/\1<=p.bal.length/\p.bal.length<=8:=by
 simp only [Ps.Bh,scanB,Bool.and_eq_true,decide_eq_true_eq] at h;obtain⟨⟨h1,_⟩,h2,h3,h4,h5,_⟩:=h;exact⟨λx hx=>(Bi x).1 (List.all_eq_true.1 h1 x hx),(Bi _).1 h4,(Bi _).1 h5,h2,h3⟩
def Ja(p:Ps)(k a:Int):Ps×Int:=if askE p [k] a=0 then(if(Gr p k a).Bh=true then(Gr p k a,0) else(ps0,5)) else(ps0,askE p [k] a)
theorem Lv(L:List Int)(cr du k a:Int)(ad:Option Addr)(cap n:Nat)(w:World)(hr:Reads w 1 (.slice ad n cap) n (L.flatMap i64c))(hN:L.length=n)(hl:n<=1000):
  Calls Tryz.prog 148 #[.agg #[.slice ad n cap,.int .i64 cr,.int .i64 du],.int .i64 k,.int .i64 a] w (Aa3 (Ja ⟨L,cr,du⟩ k a).1 (Ja ⟨L,cr,du⟩ k a).2 w):=by
 refine j2S ?_;intro z hz hask;rw [hz] at hask;unfold Ja;rw [hz];by_cases h0:z=0
 ·subst h0;rw [if_pos rfl];obtain⟨hright,htr,hmon⟩:=Rh hz;obtain⟨hbal,hcr,hdu,hn1,hn8⟩:=Eo hright;simp only at hbal hcr hdu hn1 hn8;rw [hN] at hn1 hn8;have hkk:1<=k/\k<=n:=by simpa [trB,hN] using htr
  have ham:=(Bi a).1 hmon;refine j0Q ?_;intro hown;obtain⟨q,hq⟩:=eX (Gr ⟨L,cr,du⟩ k a);rw [hq];obtain⟨R,hR⟩:∃R:Ps×Int,(if q.Bh=true then(q,0) else(ps0,5))=R:=⟨_,rfl⟩;rw [hR];clear hr;obtain⟨Hask,Hown⟩:=hid2 hask hown;clear hown hask hz hright htr hmon;obtain⟨Hbal,Hcr⟩:=hid2 hbal hcr;clear hcr hbal hdu;obtain⟨Hkk,Ham,Hq,HR⟩:=hid4 hkk ham hq hR;clear hR hq ham hkk;go_enter Tryz.func148,Tryz.ntmps148;go_wp2_with fail
  all_goals
   refine(Hask.o _ _ jg (Reads.litAt _ _ _ 1 1 _ (by simp) rfl)).mono ?_;rintro e w1 ⟨rfl,hk1⟩;have hkw:K0 w w1:=(by(repeat (first|exact Keeps.refl _ _|exact Keeps.alloc _ _|exact Keeps.drew _|exact Keeps.drewN _ _|refine Keeps.Ao ?_|refine Keeps.Al ?_|refine Keeps.Af ?_)):K0 w (((w.alloc (.cells #[.slice ad n cap,.int .i64 cr,.int .i64 du] 51)).alloc (.cells #[.slice none 0 0,.int .i64 0,.int .i64 0] 51)).alloc (.cells #[.int .i64 k] 3))).nt hk1;have hbx:w1.heap[w.heap.size]?=some (.cells #[.slice ad n cap,.int .i64 cr,.int .i64 du] 51 (0,0)):=Ad (Ap (Ap (heap_alloc_new w _) _) _) hk1 (by simp);have hrs:w1.heap[w.heap.size+1]?=some (.cells #[.slice none 0 0,.int .i64 0,.int .i64 0] 51 (0,0)):=Ad (Ap (Aw _ _ (by simp)) _) hk1 (by simp);have b0:=Aa hbx 0;have b1:=Aa hbx 1;have b2:=Aa hbx 2;clear hk1;obtain⟨Hkw,Hbx,Hrs⟩:=hid3 hkw hbx hrs;clear hrs hbx hkw;go_wp2_with fail;refine(Hown.o _ Hkw.o).mono ?_;rintro e w2 ⟨v1,rfl,hrow,hk2,hnew⟩;obtain⟨g,c,rfl⟩:=Ez hrow hn1;have hgn:w1.heap.size<=g:=hnew g rfl;have hbx2:=Ad Hbx.o hk2 (by simp);clear b0 b1 b2;have hgB:g≠w.heap.size:=by have:=lt_of_block Hbx.o;omega
   have hgR:g≠w.heap.size+1:=by have:=lt_of_block Hrs.o;omega
   have hS:=Cb hbx2 (.slice (some ⟨g,0,none⟩) n c) (.int .i64 cr) (.int .i64 du);obtain⟨hb3,k3⟩:=hS;have hrow3:=k3.row hrow (λg' hg e=>by simp only [Value.ownBlock,Option.some.injEq] at hg;subst hg;exact hgB e);have hc0:=Li w.heap.size g c L cr du k a n _ hb3 ⟨hrow3,hN⟩ (λx hx=>Hbal.o x (List.mem_of_getElem? hx)) Hcr.o Ham.o Hkk.o hl;have c0:=Aa hbx2 0;have c1:=Aa hbx2 1;have c2:=Aa hbx2 2;have f0:=Ab hbx2 0;have f1:=Ab hbx2 1;have f2:=Ab hbx2 2;clear hrow;have Hk2:=Lib.hid hk2;clear hk2 hnew;have Hgn:=Lib.hid hgn;clear hgn hbx2 hgB;have HgR:=Lib.hid hgR;clear hgR hb3;have K3:=Lib.hid k3;clear k3 hrow3;have Hc0:=Lib.hid hc0;clear hc0;go_wp2_with fail;refine Hc0.o.mono ?_;rintro e w4 ⟨rfl,hb4,hrow4,hk4⟩;clear c0 c1 c2 f0 f1 f2;obtain⟨L2,hL2⟩:=eX (L.set (k-1).toNat (L.getD (k-1).toNat 0+(a-minI a cr)));obtain⟨c2,hc2⟩:=eX (cr-minI a cr);have hq:=Hq.o;unfold Gr at hq;simp only at hq;rw [hL2,hc2] at hq;rw [hL2] at hrow4;rw [hc2] at hb4;clear Hq;subst hq;have hrs4:w4.heap[w.heap.size+1]?=some (.cells #[.slice none 0 0,.int .i64 0,.int .i64 0] 51 (0,0)):=Ad (Ad (Ad Hrs.o Hk2.o (by simp)) K3.o (by simp)) hk4 (by have:=HgR.o;simp;omega);have hjud:=Gb L2 c2 du (some ⟨g,0,none⟩) c n w4 hrow4.reads hrow4.2 hl;have b0:=Aa hb4 0;have b1:=Aa hb4 1;have b2:=Aa hb4 2;rcases hrt:Ps.Bh ⟨L2,c2,du⟩ with _|_
   ·skip
    rw [hrt,if_neg j7,if_neg j7] at hjud;have hR:=HR.o;clear HR;rw [hrt,if_neg j7] at hR;subst hR;clear hL2 hc2 hb4;obtain⟨Hrow4,Hk4,Hrs4,Hjud⟩:=hid4 hrow4 hk4 hrs4 hjud;clear hjud hrs4 hk4 hrow4 hrt;go_wp2_with fail;refine Hjud.o.mono ?_;rintro e w5 ⟨rfl,hk5⟩;clear b0 b1 b2;have hrs5:=Ad Hrs4.o hk5 (by simp);have hS3:=Cb hrs5 (.slice none 0 0) (.int .i64 0) (.int .i64 0);obtain⟨hb9,k9⟩:=hS3;have r0:=Aa hrs5 0;have r1:=Aa hrs5 1;have r2:=Aa hrs5 2;have rf0:=Ab hrs5 0;have rf1:=Ab hrs5 1;have rf2:=Ab hrs5 2;refine jT ?_;intro sr0 sr1 sr2;clear hrs5 hb9;obtain⟨K9,Sr0,Sr1,Sr2⟩:=hid4 k9 sr0 sr1 sr2;clear sr2 sr1 sr0 k9;have Hk5:=Lib.hid hk5;clear hk5;go_wp2;refine jj ?_;intro R0' R1' R2';clear r0 r1 r2;exact bodyPost_ret (v:= .tuple #[.agg #[.slice none 0 0,.int .i64 0,.int .i64 0],.int .i64 5]) j1t rfl ⟨_,rfl,⟨by simp [ps0],.inl ⟨rfl,rfl⟩⟩,Hkw.o.trans (((((Hk2.o.mono (λ_ _ e=>e.elim):Keeps (λi=>w.heap.size<=i) _ _).te K3.o (λi e=>by have e':i=w.heap.size:=e;omega)).te Hk4.o (λi e=>by have h1:=Hgn.o;have h2:=Hkw.o.size;rcases e with e'|e'<;>omega)).te Hk5.o (λi e=>e.elim)).te K9.o (λi e=>by have e':i=w.heap.size+1:=e;omega)|>.mono λi _ e=> .inr e),λg hg=>by simp [Value.ownBlock] at hg⟩
   ·skip
    rw [hrt,if_pos rfl,if_pos rfl] at hjud;have hR:=HR.o;clear HR;rw [hrt,if_pos rfl] at hR;subst hR;clear hL2 hc2 hb4;obtain⟨Hrow4,Hk4,Hrs4,Hjud⟩:=hid4 hrow4 hk4 hrs4 hjud;clear hjud hrs4 hk4 hrow4 hrt;go_wp2_with fail;refine Hjud.o.mono ?_;rintro e w5 ⟨rfl,hk5⟩;clear b0 b1 b2;have hrs5:=Ad Hrs4.o hk5 (by simp);have hS3:=Cb hrs5 (.slice (some ⟨g,0,none⟩) n c) (.int .i64 c2) (.int .i64 du);obtain⟨hb9,k9⟩:=hS3;have r0:=Aa hrs5 0;have r1:=Aa hrs5 1;have r2:=Aa hrs5 2;have rf0:=Ab hrs5 0;have rf1:=Ab hrs5 1;have rf2:=Ab hrs5 2;refine jT ?_;intro sr0 sr1 sr2;clear hrs5 hb9;obtain⟨K9,Sr0,Sr1,Sr2⟩:=hid4 k9 sr0 sr1 sr2;clear sr2 sr1 sr0 k9;have Hk5:=Lib.hid hk5;clear hk5;go_wp2;refine jj ?_;intro R0' R1' R2';clear r0 r1 r2;have hrow6:=K9.o.row (Hrow4.o.1.of_keeps Hk5.o) (λg' hg e=>by simp only [Value.ownBlock,Option.some.injEq] at hg;subst hg;exact HgR.o e);have hlen2:=Hrow4.o.2;exact bodyPost_ret (v:= .tuple #[.agg #[.slice (some ⟨g,0,none⟩) n c,.int .i64 c2,.int .i64 du],.int .i64 0]) j1t rfl ⟨_,rfl,(by rw [hlen2];exact hrow6),Hkw.o.trans (((((Hk2.o.mono (λ_ _ e=>e.elim):Keeps (λi=>w.heap.size<=i) _ _).te K3.o (λi e=>by have e':i=w.heap.size:=e;omega)).te Hk4.o (λi e=>by have h1:=Hgn.o;have h2:=Hkw.o.size;rcases e with e'|e'<;>omega)).te Hk5.o (λi e=>e.elim)).te K9.o (λi e=>by have e':i=w.heap.size+1:=e;omega)|>.mono λi _ e=> .inr e),λg' hg=>by simp only [Value.ownBlock,Option.some.injEq] at hg;subst hg;have h1:=Hgn.o;have h2:=Hkw.o.size;omega⟩
 ·rw [if_neg h0];clear hr;have Hask:=Lib.hid hask;clear hask hz;go_enter Tryz.func148,Tryz.ntmps148;go_wp2_with fail
  all_goals
   refine(Hask.o _ _ jg (Reads.litAt _ _ _ 1 1 _ (by simp) rfl)).mono ?_;rintro e w1 ⟨rfl,hk1⟩;have hkw:K0 w w1:=(by(repeat (first|exact Keeps.refl _ _|exact Keeps.alloc _ _|exact Keeps.drew _|exact Keeps.drewN _ _|refine Keeps.Ao ?_|refine Keeps.Al ?_|refine Keeps.Af ?_)):K0 w (((w.alloc (.cells #[.slice ad n cap,.int .i64 cr,.int .i64 du] 51)).alloc (.cells #[.slice none 0 0,.int .i64 0,.int .i64 0] 51)).alloc (.cells #[.int .i64 k] 3))).nt hk1;have hrs:w1.heap[w.heap.size+1]?=some (.cells #[.slice none 0 0,.int .i64 0,.int .i64 0] 51 (0,0)):=Ad (Ap (Aw _ _ (by simp)) _) hk1 (by simp);have hS3:=j1u;obtain⟨hb9,k9⟩:=hS3;have r0:=Aa hrs 0;have r1:=Aa hrs 1;have r2:=Aa hrs 2;have rf0:=Ab hrs 0;have rf1:=Ab hrs 1;have rf2:=Ab hrs 2;have sr0:=Aa hb9 0;have sr1:=Aa hb9 1;have sr2:=Aa hb9 2;have Hrs:=Lib.hid hrs;clear hrs hb9;obtain⟨K9,Sr0,Sr1,Sr2⟩:=hid4 k9 sr0 sr1 sr2;clear sr2 sr1 sr0 k9;clear hk1;have Hkw:=Lib.hid hkw;clear hkw;go_wp2;have R0':=Sr0.o;have R1':=Sr1.o;have R2':=Sr2.o;clear r0 r1 r2;exact bodyPost_ret (v:= .tuple #[.agg #[.slice none 0 0,.int .i64 0,.int .i64 0],.int .i64 z]) j1t rfl ⟨_,rfl,⟨by simp [ps0],.inl ⟨rfl,rfl⟩⟩,Hkw.o.trans (K9.o.mono λi _ e=> .inr jo),λg hg=>by simp [Value.ownBlock] at hg⟩
def mayS(v:Int):Bool:=decide (-1000000000000000<=v)&&decide (v<=1000000000000000)
theorem Jw(v:Int):mayS v=true↔ -1000000000000000<=v/\v<=1000000000000000:=by simp [mayS]
theorem Ac6(v:Int)(w:World):Calls Tryz.prog 71 #[.int .i64 v] w λe w'=>e= .returned (.bool (mayS v))/\w=w':=by
 by_cases h1:v< -1000000000000000
 ·have hf:mayS v=false:=by simp [mayS];omega
  have hd:decide (-1000000000000000<=v)=false:=by rw [decide_eq_false_iff_not];omega
  have Hf:=Lib.hid hf;clear hf;go_enter Tryz.func71,Tryz.ntmps71;exact j02
 ·by_cases h2:1000000000000000<v
  ·have hf:mayS v=false:=by simp [mayS];omega
   have hd:decide (v<=1000000000000000)=false:=by rw [decide_eq_false_iff_not];omega
   exact j2T
  ·have hf:mayS v=true:=by simp [mayS];omega
   have hd:decide (v<=1000000000000000)=true:=by rw [decide_eq_true_iff];omega
   exact j2T
theorem Gn{v:Int}{b:Bool}(h:mayS v=b)(w:World):Calls Tryz.prog 71 #[.int .i64 v] w λe w'=>e= .returned (.bool b)/\w=w':=by subst h;exact Ac6 v w
def addS:List Int->Int->Int×Int
 | [],s=>(s,0)
 |x::L,s=>if(mayS x&&mayS (s+x))=true then addS L (s+x) else(0,5)
theorem Adz:∀(L:List Int) (s:Int),0<=s->L.all Bv=true->s+sumI L<=1000000000000000->addS L s=(s+sumI L,0):=by
 intro L
 induction L with
 |nil=>intro s _ _ _;simp [addS,sumI]
 |cons x L ih=>
  intro s h0 h1 h2;simp only [List.all_cons,Bool.and_eq_true] at h1;obtain⟨x0,x1⟩:=(Bi x).1 h1.1;have h3:=Rm h1.2;simp only [sumI] at h2⊢;have m1:mayS x=true:=(Jw x).2 j6;have m2:mayS (s+x)=true:=(Jw _).2 j6;simp only [addS,m1,m2,Bool.and_self,if_true];rw [ih (s+x) j6 h1.2 j6,Int.add_assoc]
theorem Ac7(L:List Int)(ad:Option Addr)(cap n:Nat)(w:World)(hr:Reads w 1 (.slice ad n cap) n (L.flatMap i64c))(hN:L.length=n)(hl:n<=1000000):
  Calls Tryz.prog 36 #[.slice ad n cap] w λe w'=>e= .returned (.tuple #[.int .i64 (addS L 0).1,.int .i64 (addS L 0).2])/\w=w':=by
 obtain⟨z,hz⟩:=eX (addS L 0);rw [hz];obtain⟨Hr,Hz,HN⟩:=hid3 hr hz hN;clear hN hz hr;go_enter Tryz.func36,Tryz.ntmps36;go_wp2_with fail;refine Ay 0 rfl ?_;go_wp2_with fail
 go_loopw [4,9] (λx y wx=>∃(i:Nat) (s:Int),x= .int .i64 s/\y= .int .i64 (i:Nat)/\i<=n/\mayS s=true/\addS (L.drop i) s=z/\w=wx) (λ_ y _=>n-(intOf y).toNat)
 case atStart=>exact⟨0,0,rfl,rfl,Nat.zero_le _,rfl,Hz.o,rfl⟩
 case round=>
  obtain⟨i,s,rfl,rfl,hin,hms,hs,hw⟩:=hrel;subst hw;by_cases hlt:i<n
  ·have hltI:(i:Int)<(n:Int):=j8;obtain⟨x,hx⟩:=Ar (L:=L) (k:=i) j0v;obtain⟨g,o,he,hc⟩:=Hr.o.int (k:= .i64) hx;subst he;obtain⟨s0,s1⟩:=(Jw s).1 hms
   have hd:L.drop i=x::L.drop (i+1):=by
    exact j2U
   rw [hd] at hs;simp only [addS] at hs;rcases m3:mayS x with _|_
   ·rw [m3,Bool.false_and,if_neg j7] at hs;subst hs;clear hx hms hd
    go_wp2_with (go_at_call 71;(with_reducible refine(Gn m3 _).mono ?_);rintro e w1 ⟨rfl,rfl⟩)
    exact j2V
   ·obtain⟨x0,x1⟩:=(Jw x).1 m3;rcases m4:mayS (s+x) with _|_
    ·rw [m4,Bool.and_false,if_neg j7] at hs;subst hs;clear hx hms hd
     go_wp2_with (first|(go_at_call 71;(with_reducible refine(Gn m3 _).mono ?_);rintro e w1 ⟨rfl,rfl⟩)|(go_at_call 71;(with_reducible refine(Gn m4 _).mono ?_);rintro e w1 ⟨rfl,rfl⟩))
     exact j2V
    ·obtain⟨y0,y1⟩:=(Jw _).1 m4;rw [m3,m4,Bool.and_self,if_pos rfl] at hs;clear hx hms hd;have Hs:=Lib.hid hs;clear hs
     go_wp2_with (first|(go_at_call 71;(with_reducible refine(Gn m3 _).mono ?_);rintro e w1 ⟨rfl,rfl⟩)|(go_at_call 71;(with_reducible refine(Gn m4 _).mono ?_);rintro e w1 ⟨rfl,rfl⟩))
     go_roundw
     case rel=>exact⟨i+1,s+x,rfl,by go_num,by omega,m4,Hs.o,by first|rfl|trivial⟩
     case measure=>simp [intOf];omega
  ·obtain rfl:i=n:=by omega
   rw [List.drop_eq_nil_of_le j1v] at hs;simp only [addS] at hs;subst hs;go_wp2;refine Bo ?_;exact bodyPost_ret (v:= .tuple #[.int .i64 s,.int .i64 0]) (by simp [results,Tryz.results36,go_sem]) rfl ⟨rfl,rfl⟩
theorem Gp(p:Ps)(ad:Option Addr)(cap:Nat)(w:World)(hr:Reads w 1 (.slice ad p.bal.length cap) p.bal.length (p.bal.flatMap i64c))(hl:p.bal.length<=1000):
  Calls Tryz.prog 14 #[p.val (.slice ad p.bal.length cap)] w λe w'=>e= .returned (.int .i64 (if p.Bh=true then sumI p.bal else 0))/\K0 w w':=by
 obtain⟨L,cr,du⟩:=p;simp only [Ps.val] at hr hl⊢;obtain⟨n,hN⟩:=eX L.length;rw [hN] at hr hl⊢;refine j0t ?_;intro hri;refine j0r ?_;intro hbx;rcases hb:Ps.Bh ⟨L,cr,du⟩ with _|_
 ·rw [hb] at hri;rw [if_neg j7];clear hr;have Hri:=Lib.hid hri;clear hri hb;have Hbx:=Lib.hid hbx;clear hbx;go_enter Tryz.func14,Tryz.ntmps14;exact j2P
 ·rw [hb] at hri;rw [if_pos rfl]
  have had:addS L 0=(sumI L,0):=by
   have h1:=hb;simp only [Ps.Bh,scanB,Bool.and_eq_true] at h1;have h2:=Adz L 0 (Int.le_refl _) h1.1.1 (by have:=(Bi _).1 h1.1.2;omega);rw [h2,Int.zero_add]
  obtain⟨S,hS⟩:=eX (sumI L);rw [hS] at had⊢;have hadd:=λW (hW:K0 w W)=>Ac7 L ad cap n W (hr.keeps hW (by simp)) hN j6;rw [had] at hadd;clear hr;have Hri:=Lib.hid hri;clear hri hb;have Hbx:=Lib.hid hbx;clear hbx had;have Hadd:=Lib.hid hadd;clear hadd hS;go_enter Tryz.func14,Tryz.ntmps14;go_wp2_with fail;refine(Hri.o _ jg).mono ?_;rintro e w1 ⟨rfl,hk1⟩;have hkw:=(Keeps.alloc w _).nt hk1;have hb1:=Hbx.o w1 hk1;have b0:=Aa hb1 0;obtain⟨Hk1,Hkw⟩:=hid2 hk1 hkw;clear hkw hk1 hb1
  go_wp2_with (go_at_call 36;(with_reducible refine(Hadd.o _ Hkw.o).mono ?_);rintro e w2 ⟨rfl,rfl⟩)
  exact j0u
theorem or_pow(k:Nat)(a c:Int)(h0:0<=a)(h1:a*((2 ^ k:Nat):Int)<18446744073709551616)(c0:0<=c)(c1:c<((2 ^ k:Nat):Int))(c2:c<18446744073709551616):bits .or .u64 (a*((2 ^ k:Nat):Int)) c=(a*((2 ^ k:Nat):Int)+c) % 18446744073709551616:=by
 obtain⟨m,rfl⟩:=Int.eq_ofNat_of_zero_le h0;obtain⟨d,rfl⟩:=Int.eq_ofNat_of_zero_le c0;have hor:2 ^ k*m|||d=2 ^ k*m+d:=(Nat.two_pow_add_eq_or_of_lt (i:=k) (b:=d) j6 m).symm
 have e1:((m:Int)*((2 ^ k:Nat):Int))=((2 ^ k*m:Nat):Int):=by push_cast;rw [Int.mul_comm]
 rw [e1] at h1⊢;have hm:(((2 ^ k*m:Nat):Int) % 18446744073709551616).toNat=2 ^ k*m:=j8;have hd:((d:Int) % 18446744073709551616).toNat=d:=j8;simp only [bits,show IntKind.u64.bits=64 from rfl,BitVec.toNat_or,BitVec.toNat_ofInt];simp only [show((2 ^ 64:Nat):Int)=18446744073709551616 from rfl];rw [hm,hd,hor];simp [IntKind.wrap,IntKind.signed,IntKind.bits]
theorem Ky(x:Int)(h0:0<=x)(h1:x<18446744073709551616):bits .and .u64 x 4294967295=x % 4294967296:=by
 obtain⟨m,rfl⟩:=Int.eq_ofNat_of_zero_le h0;have hm:((m:Int) % 18446744073709551616).toNat=m:=j8;have hand:m&&&4294967295=m % 4294967296:=Nat.and_two_pow_sub_one_eq_mod m 32;simp only [bits,show IntKind.u64.bits=64 from rfl,BitVec.toNat_and,BitVec.toNat_ofInt];simp only [show((2 ^ 64:Nat):Int)=18446744073709551616 from rfl];rw [hm,show((4294967295:Int) % 18446744073709551616).toNat=4294967295 by decide,hand];simp [IntKind.wrap,IntKind.signed,IntKind.bits];omega
theorem len64_9(w:World):Calls Tryz.prog 96 #[.int .u64 1000000000] w λe w'=>e= .returned (.int .i64 30)/\w=w':=by
 go_enter Tryz.func96,Tryz.ntmps96;go_wp2;go_ret;exact⟨by kernel_rfl,rfl⟩
theorem len64_3(w:World):Calls Tryz.prog 96 #[.int .u64 1000] w λe w'=>e= .returned (.int .i64 10)/\w=w':=by
 go_enter Tryz.func96,Tryz.ntmps96;go_wp2;go_ret;exact⟨by kernel_rfl,rfl⟩
theorem lz64_9(w:World):Calls Tryz.prog 195 #[.int .u64 1000000000] w λe w'=>e= .returned (.int .i64 34)/\w=w':=by
 go_enter Tryz.func195,Tryz.ntmps195
 go_wp2_with (go_at_call 96;(with_reducible refine(len64_9 _).mono ?_);rintro e w1 ⟨rfl,rfl⟩)
 go_ret;exact⟨rfl,rfl⟩
theorem lz64_3(w:World):Calls Tryz.prog 195 #[.int .u64 1000] w λe w'=>e= .returned (.int .i64 54)/\w=w':=by
 go_enter Tryz.func195,Tryz.ntmps195
 go_wp2_with (go_at_call 96;(with_reducible refine(len64_3 _).mono ?_);rintro e w1 ⟨rfl,rfl⟩)
 go_ret;exact⟨rfl,rfl⟩
theorem div64_9(hi lo:Int)(w:World)(h0:0<=hi)(h1:hi<1000000000)(l0:0<=lo)(l1:lo<18446744073709551616):
  Calls Tryz.prog 189 #[.int .u64 hi,.int .u64 lo,.int .u64 1000000000] w λe w'=>e= .returned (.tuple #[.int .u64 ((hi*18446744073709551616+lo) / 1000000000),.int .u64 ((hi*18446744073709551616+lo) % 1000000000)])/\K0 w w':=by
 by_cases hz:hi=0
 ·subst hz;have e1:(0*18446744073709551616+lo)=lo:=j8;rw [e1];have t1:lo.tdiv 1000000000=lo / 1000000000:=Int.tdiv_eq_ediv_of_nonneg l0;have t2:lo.tmod 1000000000=lo % 1000000000:=Int.tmod_eq_emod_of_nonneg l0;have b5:IntKind.u64.wrap (lo / 1000000000)=lo / 1000000000:=by simp [IntKind.wrap,IntKind.signed,IntKind.bits];omega
  go_enter Tryz.func189,Tryz.ntmps189;go_wp2;refine Ak (λ_=>True) (.take 0 (.take 1 (.take 2 (.take 3 (.take 4 (.take 5 (.take 6 (.take 7 .done)))))))) j9 j9 ?_ ?_
  ·trivial
  intro w1 hs1 hk1;refine jm ?_;go_wp2;exact bodyPost_ret (v:= .tuple #[.int .u64 (lo / 1000000000),.int .u64 (lo % 1000000000)]) j0R rfl ⟨rfl,hk1⟩
 ·have hzI:(hi==0)=false:=beq_eq_false_iff_ne.2 hz;have hleI:decide ((1000000000:Int)<=hi)=false:=by rw [decide_eq_false_iff_not];omega
  obtain⟨V,hV⟩:=eY (IntKind.u64.wrap (lo*17179869184));have hV2:V=lo*17179869184 % 18446744073709551616:=by rw [hV];simp [IntKind.wrap,IntKind.signed,IntKind.bits]
  have hV':IntKind.u64.wrap (lo*17179869184)=V:=hV.symm;obtain⟨V1,hV1⟩:=eX (V / 4294967296);obtain⟨V0,hV0⟩:=eX (bits .and .u64 V 4294967295);have hV0':V % 4294967296=V0:=by rw [<-hV0,Ky V j6 j6]
  have hA0:bits .and .u64 17179869184000000000 4294967295=0:=by rw [Ky _ j7 j7];decide
  obtain⟨U,hU⟩:=eX (bits .or .u64 (hi*17179869184) (lo / 1073741824))
  have hU2:U=hi*17179869184+lo / 1073741824:=by
   have h:=or_pow 34 hi (lo / 1073741824) h0 j2W j6 j2W j6;simp only [show((2 ^ 34:Nat):Int)=17179869184 from rfl] at h;rw [<-hU,h];omega
  have u0:0<=U:=j8;have u1:U<4000000000*4294967296:=j8;obtain⟨q1,hq1⟩:=eX (U.tdiv 4000000000);have hq1':q1=U / 4000000000:=by rw [<-hq1];exact Int.tdiv_eq_ediv_of_nonneg u0
  have q10:0<=q1:=j8;have q11:q1<4294967296:=j8;obtain⟨r1,hr1⟩:=eX (U-q1*4000000000);have r10:0<=r1:=j8;have r11:r1<4000000000:=j8;have qn:decide (4294967296<=q1)=false:=by rw [decide_eq_false_iff_not];omega
  obtain⟨X,hX⟩:=eY (r1*4294967296+V1);have x0:0<=X:=j8;have x1:X<18446744073709551616:=j8;have hxx:4294967296*r1+V1=X:=j8;have xn:decide (X<0)=false:=by rw [decide_eq_false_iff_not];omega
  obtain⟨A1,hA1⟩:=eX (IntKind.u64.wrap (U*4294967296));obtain⟨A2,hA2⟩:=eX (IntKind.u64.wrap (A1+V1));obtain⟨A3,hA3⟩:=eX (IntKind.u64.wrap (q1*17179869184000000000))
  have hA4:IntKind.u64.wrap (A2-A3)=X:=by
   simp [IntKind.wrap,IntKind.signed,IntKind.bits] at hA1 hA2 hA3⊢;omega
  obtain⟨q0,hq0⟩:=eX (X.tdiv 4000000000);have hq0':q0=X / 4000000000:=by rw [<-hq0];exact Int.tdiv_eq_ediv_of_nonneg x0
  have q00:0<=q0:=j8;have q01:q0<4294967296:=j8;obtain⟨r0,hr0⟩:=eX (X-q0*4000000000);have r00:0<=r0:=j8;have r01:r0<4000000000:=j8;have qn0:decide (4294967296<=q0)=false:=by rw [decide_eq_false_iff_not];omega
  obtain⟨Y,hY⟩:=eY (r0*4294967296+V0);have y0:0<=Y:=j8;have y1:Y<18446744073709551616:=j8;have hyy:4294967296*r0+V0=Y:=j8;have yn:decide (Y<0)=false:=by rw [decide_eq_false_iff_not];omega
  obtain⟨B1,hB1⟩:=eX (IntKind.u64.wrap (X*4294967296));obtain⟨B2,hB2⟩:=eX (IntKind.u64.wrap (B1+V0));obtain⟨B3,hB3⟩:=eX (IntKind.u64.wrap (q0*17179869184000000000))
  have hB4:IntKind.u64.wrap (B2-B3)=Y:=by
   simp [IntKind.wrap,IntKind.signed,IntKind.bits] at hB1 hB2 hB3⊢;omega
  obtain⟨N,hN⟩:=eY (hi*18446744073709551616+lo)
  have hfin:q1*4294967296+q0=N / 1000000000/\Y / 17179869184=N % 1000000000:=by
   have k1:N*17179869184=U*18446744073709551616+V:=j8;omega
  rw [<-hN];clear hV hV2 hU2 hq1' hX hq0' hY hN;have Hfin:=Lib.hid hfin;clear hfin hV0';go_enter Tryz.func189,Tryz.ntmps189
  go_wp2_with (go_at_call 195;(with_reducible refine(lz64_9 _).mono ?_);rintro e w1 ⟨rfl,rfl⟩)
  go_loop [15,16] (λx y=>x= .int .u64 q1/\y= .int .u64 r1) (λ_ _=>0)
  case atStart=>exact⟨rfl,rfl⟩
  case round=>
   obtain⟨rfl,rfl⟩:=hrel;go_wp2
   go_loop [18,16] (λx y=>x= .int .u64 q0/\y= .int .u64 r0) (λ_ _=>0)
   case atStart=>exact⟨rfl,rfl⟩
   case round=>
    obtain⟨rfl,rfl⟩:=hrel;go_wp2;exact bodyPost_ret (v:= .tuple #[.int .u64 (q1*4294967296+q0),.int .u64 (Y / 17179869184)]) j0R rfl ⟨by rw [Hfin.o.1,Hfin.o.2],Keeps.refl _ _⟩
theorem div64_3(hi lo:Int)(w:World)(h0:0<=hi)(h1:hi<1000)(l0:0<=lo)(l1:lo<18446744073709551616):
  Calls Tryz.prog 189 #[.int .u64 hi,.int .u64 lo,.int .u64 1000] w λe w'=>e= .returned (.tuple #[.int .u64 ((hi*18446744073709551616+lo) / 1000),.int .u64 ((hi*18446744073709551616+lo) % 1000)])/\K0 w w':=by
 by_cases hz:hi=0
 ·subst hz;have e1:(0*18446744073709551616+lo)=lo:=j8;rw [e1];have t1:lo.tdiv 1000=lo / 1000:=Int.tdiv_eq_ediv_of_nonneg l0;have t2:lo.tmod 1000=lo % 1000:=Int.tmod_eq_emod_of_nonneg l0;have b5:IntKind.u64.wrap (lo / 1000)=lo / 1000:=by simp [IntKind.wrap,IntKind.signed,IntKind.bits];omega
  go_enter Tryz.func189,Tryz.ntmps189;go_wp2;refine Ak (λ_=>True) (.take 0 (.take 1 (.take 2 (.take 3 (.take 4 (.take 5 (.take 6 (.take 7 .done)))))))) j9 j9 ?_ ?_
  ·trivial
  intro w1 hs1 hk1;refine jm ?_;go_wp2;exact bodyPost_ret (v:= .tuple #[.int .u64 (lo / 1000),.int .u64 (lo % 1000)]) j0R rfl ⟨rfl,hk1⟩
 ·have hzI:(hi==0)=false:=beq_eq_false_iff_ne.2 hz;have hleI:decide ((1000:Int)<=hi)=false:=by rw [decide_eq_false_iff_not];omega
  obtain⟨V,hV⟩:=eY (IntKind.u64.wrap (lo*18014398509481984));have hV2:V=lo*18014398509481984 % 18446744073709551616:=by rw [hV];simp [IntKind.wrap,IntKind.signed,IntKind.bits]
  have hV':IntKind.u64.wrap (lo*18014398509481984)=V:=hV.symm;obtain⟨V1,hV1⟩:=eX (V / 4294967296);obtain⟨V0,hV0⟩:=eX (bits .and .u64 V 4294967295);have hV0':V % 4294967296=V0:=by rw [<-hV0,Ky V j6 j6]
  have hA0:bits .and .u64 18014398509481984000 4294967295=0:=by rw [Ky _ j7 j7];decide
  obtain⟨U,hU⟩:=eX (bits .or .u64 (hi*18014398509481984) (lo / 1024))
  have hU2:U=hi*18014398509481984+lo / 1024:=by
   have h:=or_pow 54 hi (lo / 1024) h0 j2X j6 j2X j6;simp only [show((2 ^ 54:Nat):Int)=18014398509481984 from rfl] at h;rw [<-hU,h];omega
  have u0:0<=U:=j8;have u1:U<4194304000*4294967296:=j8;obtain⟨q1,hq1⟩:=eX (U.tdiv 4194304000);have hq1':q1=U / 4194304000:=by rw [<-hq1];exact Int.tdiv_eq_ediv_of_nonneg u0
  have q10:0<=q1:=j8;have q11:q1<4294967296:=j8;obtain⟨r1,hr1⟩:=eX (U-q1*4194304000);have r10:0<=r1:=j8;have r11:r1<4194304000:=j8;have v10:0<=V1:=j8;have v11:V1<4294967296:=j8;have qn:decide (4294967296<=q1)=false:=by rw [decide_eq_false_iff_not];omega
  obtain⟨X,hX⟩:=eY (r1*4294967296+V1);have x0:0<=X:=j8;have x1:X<18446744073709551616:=j8;have hxx:4294967296*r1+V1=X:=j8;have xn:decide (X<0)=false:=by rw [decide_eq_false_iff_not];omega
  obtain⟨A1,hA1⟩:=eX (IntKind.u64.wrap (U*4294967296));obtain⟨A2,hA2⟩:=eX (IntKind.u64.wrap (A1+V1));obtain⟨A3,hA3⟩:=eX (IntKind.u64.wrap (q1*18014398509481984000))
  have hA4:IntKind.u64.wrap (A2-A3)=X:=by
   simp [IntKind.wrap,IntKind.signed,IntKind.bits] at hA1 hA2 hA3⊢;omega
  obtain⟨q0,hq0⟩:=eX (X.tdiv 4194304000);have hq0':q0=X / 4194304000:=by rw [<-hq0];exact Int.tdiv_eq_ediv_of_nonneg x0
  have q00:0<=q0:=j8;have q01:q0<4294967296:=j8;obtain⟨r0,hr0⟩:=eX (X-q0*4194304000);have r00:0<=r0:=j8;have r01:r0<4194304000:=j8;have qn0:decide (4294967296<=q0)=false:=by rw [decide_eq_false_iff_not];omega
  obtain⟨Y,hY⟩:=eY (r0*4294967296+V0);have y0:0<=Y:=j8;have y1:Y<18446744073709551616:=j8;have hyy:4294967296*r0+V0=Y:=j8;have yn:decide (Y<0)=false:=by rw [decide_eq_false_iff_not];omega
  obtain⟨B1,hB1⟩:=eX (IntKind.u64.wrap (X*4294967296));obtain⟨B2,hB2⟩:=eX (IntKind.u64.wrap (B1+V0));obtain⟨B3,hB3⟩:=eX (IntKind.u64.wrap (q0*18014398509481984000))
  have hB4:IntKind.u64.wrap (B2-B3)=Y:=by
   simp [IntKind.wrap,IntKind.signed,IntKind.bits] at hB1 hB2 hB3⊢;omega
  obtain⟨N,hN⟩:=eY (hi*18446744073709551616+lo)
  have hfin:q1*4294967296+q0=N / 1000/\Y / 18014398509481984=N % 1000:=by
   have k1:N*18014398509481984=U*18446744073709551616+V:=j8;omega
  rw [<-hN];clear hV hV2 hU2 hq1' hX hq0' hY hN;have Hfin:=Lib.hid hfin;clear hfin hV0';go_enter Tryz.func189,Tryz.ntmps189
  go_wp2_with (go_at_call 195;(with_reducible refine(lz64_3 _).mono ?_);rintro e w1 ⟨rfl,rfl⟩)
  go_loop [15,16] (λx y=>x= .int .u64 q1/\y= .int .u64 r1) (λ_ _=>0)
  case atStart=>exact⟨rfl,rfl⟩
  case round=>
   obtain⟨rfl,rfl⟩:=hrel;go_wp2
   go_loop [18,16] (λx y=>x= .int .u64 q0/\y= .int .u64 r0) (λ_ _=>0)
   case atStart=>exact⟨rfl,rfl⟩
   case round=>
    obtain⟨rfl,rfl⟩:=hrel;go_wp2;exact bodyPost_ret (v:= .tuple #[.int .u64 (q1*4294967296+q0),.int .u64 (Y / 18014398509481984)]) j0R rfl ⟨by rw [Hfin.o.1,Hfin.o.2],Keeps.refl _ _⟩
def evenI(N D:Int):Int:=if 2*(N % D)<D\/(2*(N % D)=D/\N / D % 2=0) then N / D else N / D+1
theorem Sg(hi lo D N:Int)(hD:0<D)(hD2:D<4294967296)(_:hi*18446744073709551616+lo=N)(_:0<=hi)(h1:hi<D)(_:0<=lo)(_:lo<18446744073709551616)(hq:N / D<1000000000000000000)(hr:0<=N % D/\N % D<D)(hq0:0<=N / D)
  (hdiv:∀w,Calls Tryz.prog 189 #[.int .u64 hi,.int .u64 lo,.int .u64 D] w λe w'=>e= .returned (.tuple #[.int .u64 (N / D),.int .u64 (N % D)])/\K0 w w') (w:World):
  Calls Tryz.prog 173 #[.int .u64 hi,.int .u64 lo,.int .u64 D] w λe w'=>e= .returned (.tuple #[.int .u64 (evenI N D),.bool true])/\K0 w w':=by
 rename_i hN h0 l0 l1;obtain⟨Z,hZ⟩:=eX (evenI N D);rw [hZ];unfold evenI at hZ;obtain⟨q,hqq⟩:=eX (N / D);obtain⟨r,hrr⟩:=eX (N % D);rw [hqq] at hq hq0 hdiv hZ;rw [hrr] at hr hdiv hZ;obtain⟨r0,r1⟩:=hr;by_cases c1:r<D-r
 ·have c1I:decide (r<D-r)=true:=by rw [decide_eq_true_iff];exact c1
  rw [if_pos j6] at hZ;subst hZ;clear c1;exact j2Y
 ·have c1I:decide (r<D-r)=false:=by rw [decide_eq_false_iff_not];exact c1
  by_cases c2:r=D-r
  ·have c2I:(r==D-r)=true:=by rw [beq_iff_eq];exact c2
   by_cases c3:q % 2=0
   ·have c3I:(q % 2==0)=true:=by rw [beq_iff_eq];exact c3
    rw [if_pos j6] at hZ;subst hZ;clear c1 c2 c3;exact j2Y
   ·have c3I:(q % 2==0)=false:=beq_eq_false_iff_ne.2 c3;rw [if_neg j6] at hZ;subst hZ;clear c1 c2 c3;exact j2Z
  ·have c2I:(r==D-r)=false:=beq_eq_false_iff_ne.2 c2;rw [if_neg j6] at hZ;subst hZ;clear c1 c2;exact j2Z
theorem even9(N:Int)(n0:0<=N)(n1:N<1000000000000000000000000000)(w:World):
  Calls Tryz.prog 173 #[.int .u64 (N / 18446744073709551616),.int .u64 (N % 18446744073709551616),.int .u64 1000000000] w λe w'=>e= .returned (.tuple #[.int .u64 (evenI N 1000000000),.bool true])/\K0 w w':=by
 have e1:N / 18446744073709551616*18446744073709551616+N % 18446744073709551616=N:=j8;refine Sg _ _ _ N j7 j7 e1 j6 j6 j6 j6 j6 j6 j6 (λw=> ?_) w;have h:=div64_9 (N / 18446744073709551616) (N % 18446744073709551616) w j6 j6 j6 j6;rw [e1] at h;exact h
theorem even3(N:Int)(n0:0<=N)(n1:N<=1000000000000000000)(w:World):
  Calls Tryz.prog 173 #[.int .u64 (N / 18446744073709551616),.int .u64 (N % 18446744073709551616),.int .u64 1000] w λe w'=>e= .returned (.tuple #[.int .u64 (evenI N 1000),.bool true])/\K0 w w':=by
 have e1:N / 18446744073709551616*18446744073709551616+N % 18446744073709551616=N:=j8;refine Sg _ _ _ N j7 j7 e1 j6 j6 j6 j6 j6 j6 j6 (λw=> ?_) w;have h:=div64_3 (N / 18446744073709551616) (N % 18446744073709551616) w j6 j6 j6 j6;rw [e1] at h;exact h
theorem Uq{N D M:Int}(hD:0<D)(h0:0<=N)(h:N<=M*D):0<=evenI N D/\evenI N D<=M:=by
 have h1:0<=N % D:=Int.emod_nonneg _ j6;have h2:N % D<D:=Int.emod_lt_of_pos _ hD;have h3:N / D*D+N % D=N:=Int.ediv_mul_add_emod N D;have h4:0<=N / D:=Int.ediv_nonneg h0 j6;have h5:N / D<=M:=Int.ediv_le_of_le_mul hD h;unfold evenI
 split
 ·exact⟨h4,h5⟩
 ·rename_i hn;refine⟨by omega, ?_⟩;rcases Int.lt_or_eq_of_le h5 with h6|h6
  ·omega
  ·exfalso;rw [h6] at h3;omega
theorem Zu(a num:Int)(h0:0<=a)(h1:a<=1000000000000000)(n0:0<=num)(n1:num<=1000)(w:World):
  Calls Tryz.prog 175 #[.int .i64 a,.int .i64 num,.int .i64 1000] w λe w'=>e= .returned (.tuple #[.int .i64 (evenI (a*num) 1000),.int .i64 0])/\K0 w w':=by
 have hN0:0<=a*num:=Int.mul_nonneg h0 n0;have hN1:a*num<=1000000000000000*1000:=Int.mul_le_mul h1 n1 n0 j7;have hmay:=λW=>Gn (v:=a) (b:=true) ((Jw a).2 j6) W;have hmul:=λW=>Xh a num h0 j6 n0 j6 W;have hev:=even3 (a*num) hN0 j6;obtain⟨N,hN⟩:=eX (a*num);rw [hN] at hN0 hN1 hmul hev⊢;have hbd:=Uq (N:=N) (D:=1000) (M:=1000000000000000) j7 hN0 hN1;obtain⟨Z,hZ⟩:=eX (evenI N 1000);rw [hZ] at hev hbd⊢;obtain⟨z0,z1⟩:=hbd;have zn:decide (1000000000000000<Z)=false:=by rw [decide_eq_false_iff_not];omega
 obtain⟨A,hA⟩:=eX (N / 18446744073709551616);obtain⟨B,hB⟩:=eX (N % 18446744073709551616);rw [hA,hB] at hmul hev;obtain⟨Hmay,Hmul,Hev⟩:=hid3 hmay hmul hev;clear hev hmul hmay hN hA hB hZ;go_enter Tryz.func175,Tryz.ntmps175
 go_wp2_with (first|(go_at_call 71;(with_reducible refine(Hmay.o _).mono ?_);rintro e w1 ⟨rfl,rfl⟩)|(go_at_call 187;(with_reducible refine(Hmul.o _).mono ?_);rintro e w1 ⟨rfl,rfl⟩)|(go_at_call 173;(with_reducible refine(Hev.o _).mono ?_);rintro e w1 ⟨rfl,hk1⟩;have Hk1:=Lib.hid hk1;clear hk1))
 exact bodyPost_ret (v:= .tuple #[.int .i64 Z,.int .i64 0]) (by simp [results,Tryz.results175,go_sem]) rfl ⟨rfl,Hk1.o⟩
def outM(m v:Int):Bool:=decide (v<0)||decide (m<v)
theorem Uh(B:Nat)(m x:Int)(w:World)(hB:w.cell? ⟨B,0,none⟩=some (.int .i64 m)):Calls Tryz.prog 194 #[.int .i64 x,(.pointer (some ⟨B,0,none⟩))] w λe w'=>e= .returned (.bool (outM m x))/\w=w':=by
 by_cases h1:x<0
 ·have hf:outM m x=true:=by simp [outM];omega
  have h1I:decide (x<0)=true:=by simp [h1]
  exact j1w
 ·have h1I:decide (x<0)=false:=by simp [h1]
  have hf:outM m x=decide (m<x):=by simp [outM,h1I]
  rcases h2:decide (m<x) with _|_
  ·rw [h2] at hf;exact j1w
  ·rw [h2] at hf;exact j1w
theorem Su(Bm:Nat)(m:Int)(ad:Option Addr)(cap:Nat)(L:List Int)(w:World)(hB:w.cell? ⟨Bm,0,none⟩=some (.int .i64 m))(hr:Reads w 1 (.slice ad L.length cap) L.length (L.flatMap i64c))(hl:L.length<=100000):
  Calls Tryz.prog 179 #[.slice ad L.length cap,.func (.func 194) #[] #[(.pointer (some ⟨Bm,0,none⟩))]] w λe w'=>∃r:Int,e= .returned (.int .i64 r)/\decide (0<=r)=L.any (outM m)/\w=w':=by
 obtain⟨Hr,HB⟩:=hid2 hr hB;clear hB hr;go_enter Tryz.func179,Tryz.ntmps179;go_wp2_with fail
 go_loop [8] (λc=>∃j:Nat,j<=L.length/\c= .int .i64 (j:Nat)/\(L.take j).any (outM m)=false) (λc=>L.length-(intOf c).toNat)
 case atStart=>exact⟨0,Nat.zero_le _,rfl,rfl⟩
 case round=>
  obtain⟨j,hj,rfl,hok⟩:=hrel;by_cases hjl:j<L.length
  ·obtain⟨x,hx⟩:=Ar hjl;obtain⟨g,o,rfl,x0⟩:=Hr.o.int hx;have hsn:=Gs (q:=(outM m)) hx;rw [hok] at hsn;have hcl:=Uh Bm m x w HB.o;rcases m1:outM m x with _|_
   ·have hok':(L.take (j+1)).any (outM m)=false:=by rw [hsn,m1];rfl
    rw [m1] at hcl;clear hsn hx;obtain⟨Hok,Hok',Hcl⟩:=hid3 hok hok' hcl;clear hcl hok' hok
    go_wp2_with (go_at_call 194;((with_reducible refine Hcl.o.mono ?_);rintro e w1 ⟨rfl,rfl⟩))
    exact j0m
   ·have hf:=Kw (q:=(outM m)) hx m1;have hj0:decide ((0:Int)<=(j:Int))=true:=by simp
    rw [m1] at hcl;have Hf:=Lib.hid hf;clear hf hsn hx;obtain⟨Hj0,Hcl⟩:=hid2 hj0 hcl;clear hcl hj0
    go_wp2_with (go_at_call 194;((with_reducible refine Hcl.o.mono ?_);rintro e w1 ⟨rfl,rfl⟩))
    exact j0N
  ·exact j0n
theorem Ph(Bm:Nat)(m:Int)(ad:Option Addr)(cap:Nat)(L:List Int)(w:World)(hB:w.cell? ⟨Bm,0,none⟩=some (.int .i64 m))(hr:Reads w 1 (.slice ad L.length cap) L.length (L.flatMap i64c))(hl:L.length<=100000):
  Calls Tryz.prog 162 #[.slice ad L.length cap,.func (.func 194) #[] #[(.pointer (some ⟨Bm,0,none⟩))]] w λe w'=>e= .returned (.bool (L.any (outM m)))/\w=w':=by
 obtain⟨Hr,HB⟩:=hid2 hr hB;clear hB hr;go_enter Tryz.func162,Tryz.ntmps162
 go_wp2_with (go_at_call 179;refine(Su Bm m _ _ L _ HB.o Hr.o hl).mono ?_;rintro e w1 ⟨r,rfl,hd,rfl⟩;have Hd:=Lib.hid hd;clear hd)
 exact j0o
theorem Nq(m:Int)(ad:Option Addr)(cap n:Nat)(L:List Int)(w:World)(hr:Reads w 1 (.slice ad n cap) n (L.flatMap i64c))(hN:L.length=n)(hl:n<=100000):
  Calls Tryz.prog 186 #[.slice ad n cap,.int .i64 m] w λe w'=>e= .returned (.bool (!(L.any (outM m))))/\K0 w w':=by
 subst hN;have hc:=fun(W:World) (hB:W.cell? ⟨w.heap.size,0,none⟩=some (.int .i64 m)) (hW:K0 w W)=>Ph w.heap.size m ad cap L W hB (hr.keeps hW (by simp)) hl;obtain⟨z,hz⟩:=eX (L.any (outM m));rw [hz] at hc⊢;clear hr;have Hc:=Lib.hid hc;clear hc hz;go_enter Tryz.func186,Tryz.ntmps186;go_wp2_with fail;refine(Hc.o _ (Aa (heap_alloc_new w _) 0) (Keeps.alloc _ _)).mono ?_;rintro e w1 ⟨rfl,rfl⟩;go_wp2;go_ret;exact⟨rfl,Keeps.alloc _ _⟩
theorem Xe{m:Int}{L:List Int}(h:∀x∈L,0<=x/\x<=m):L.any (outM m)=false:=by
 rw [Bool.eq_false_iff];intro hh;obtain⟨x,hx,h2⟩:=List.any_eq_true.1 hh;have:=h x hx;simp [outM] at h2;omega
def dotI:List Int->List Int->Int
 |x::X,y::Y=>x*y+dotI X Y
 |_,_=>0
theorem dotI_snoc:∀(X Y:List Int) (x y:Int),X.length=Y.length->dotI (X++ [x]) (Y++ [y])=dotI X Y+x*y:=by
 intro X
 induction X with
 |nil=>intro Y x y h;cases Y<;>simp_all [dotI]
 |cons a X ih=>
  intro Y x y h
  cases Y with
  |nil=>simp at h
  |cons b Y=>
   simp only [List.cons_append,dotI];rw [ih Y x y (by simpa using h)];omega
theorem dotI_take{X Y:List Int}{k:Nat}{x y:Int}(hl:X.length=Y.length)(hx:X[k]?=some x)(hy:Y[k]?=some y):dotI (X.take (k+1)) (Y.take (k+1))=dotI (X.take k) (Y.take k)+x*y:=by
 rw [take_snoc' hx,take_snoc' hy,dotI_snoc _ _ _ _ (by rw [List.length_take,List.length_take,hl])]
theorem prod_bd{x y:Int}(hx:0<=x/\x<=1000000000000000)(hy:0<=y/\y<=10000000):0<=x*y/\x*y<=10000000000000000000000:=
 ⟨Int.mul_nonneg hx.1 hy.1,Int.le_trans (Int.mul_le_mul hx.2 hy.2 hy.1 (by decide)) (by decide)⟩
theorem Zf:∀(X Y:List Int),(∀x∈X,0<=x/\x<=1000000000000000)->(∀y∈Y,0<=y/\y<=10000000)->0<=dotI X Y/\dotI X Y<=10000000000000000000000*X.length:=by
 intro X
 induction X with
 |nil=>intro Y _ _;cases Y<;>simp [dotI]
 |cons a X ih=>
  intro Y hX hY
  cases Y with
  |nil=>simp only [dotI,List.length_cons];omega
  |cons b Y=>
   have h1:=ih Y (λx hx=>hX x (List.mem_cons_of_mem _ hx)) (λy hy=>hY y (List.mem_cons_of_mem _ hy));have h2:=prod_bd (hX a (List.mem_cons_self ..)) (hY b (List.mem_cons_self ..));simp only [dotI,List.length_cons]
   push_cast
   omega
theorem Ae0(x y c:Int)(hx:0<=x)(hx':x<18446744073709551616)(hy:0<=y)(hy':y<18446744073709551616)(hc:0<=c)(hc':c<=1)(w:World):
  (callFunc 188 #[.int .u64 x,.int .u64 y,.int .u64 c]).run Tryz.prog w= .ok (.value (.tuple #[.int .u64 ((x+y+c) % 18446744073709551616),.int .u64 ((x+y+c) / 18446744073709551616)])) w:=by
 obtain⟨a,rfl⟩:=Int.eq_ofNat_of_zero_le hx;obtain⟨b,rfl⟩:=Int.eq_ofNat_of_zero_le hy;obtain⟨d,rfl⟩:=Int.eq_ofNat_of_zero_le hc;have h:=run_add64 (P:=Tryz.prog) a b d j6 j6 j6 j6 w;rw [run_callFunc_extern Tryz.func188 j9 j9 j9 (e:=add64Entry) j9];rw [h];simp only [Result.andThen]
def ofR(X Y:List Int):Int×Int:=if 1000000000000000<evenI (dotI X Y) 1000000000 then(0,5) else(evenI (dotI X Y) 1000000000,0)
def exS(g1 o1 g2 o2:Nat)(x y:Int)(W:World):Prop:=W.cell? ⟨g1,o1,none⟩=some (.int .i64 x)/\W.cell? ⟨g2,o2,none⟩=some (.int .i64 y)
def exFr(v1 v2:Value)(hi lo:Int)(k:Nat)(u:Nat->Value):Act:={ tmps:= #[v1,v2,u 2,u 3,u 4,u 5,u 6,.int .u64 hi,.int .u64 lo,u 9,u 10,u 11,.int .i64 k,u 13,u 14,u 15,u 16,u 17,u 18,u 19,u 20,u 21,u 22,u 23,u 24,u 25,u 26,u 27,u 28,u 29,u 30,u 31,u 32,u 33,u 34,u 35,u 36,u 37,u 38,u 39,u 40,u 41,u 42,u 43,u 44,u 45,u 46,u 47,u 48,u 49,u 50,u 51,u 52,u 53,u 54,u 55,u 56,u 57,u 58,u 59,u 60,u 61,u 62,u 63,u 64,u 65,u 66,u 67],defers:= [] }
def exJ(w:World)(v1 v2:Value)(X Y:List Int)(n:Nat)(a':Act)(W:World):Prop:=∃(k:Nat) (N:Int) (u:Nat->Value),a'=exFr v1 v2 (N / 18446744073709551616) (N % 18446744073709551616) k u/\K0 w W/\k<=n/\dotI (X.take k) (Y.take k)=N
theorem exJ.mk{w W:World}{v1 v2:Value}{X Y:List Int}{n:Nat}{a':Act}(k:Nat)(N:Int)(h:a'=exFr v1 v2 (N / 18446744073709551616) (N % 18446744073709551616) k (λi=>a'.tmps.getD i undef))(hw:K0 w W)(hn:k<=n)(hp:dotI (X.take k) (Y.take k)=N):exJ w v1 v2 X Y n a' W:=⟨k,N,_,h,hw,hn,hp⟩
def Aae(i:Nat)(a':Act):Nat:=match a'.tmps.getD i undef with| .int _ n=>n.toNat|_=>0
theorem Yx(X Y:List Int)(ad1 ad2:Option Addr)(c1 c2 n:Nat)(w:World)(hr1:Reads w 1 (.slice ad1 n c1) n (X.flatMap i64c))(hX:X.length=n)(hr2:Reads w 1 (.slice ad2 n c2) n (Y.flatMap i64c))(hY:Y.length=n)(hn:n<=40000)
  (hXb:∀x∈X,0<=x/\x<=1000000000000000) (hYb:∀y∈Y,0<=y/\y<=10000000):
  Calls Tryz.prog 172 #[.slice ad1 n c1,.slice ad2 n c2] w λe w'=>e= .returned (.tuple #[.int .u64 (dotI X Y / 18446744073709551616),.int .u64 (dotI X Y % 18446744073709551616),.int .i64 0])/\K0 w w':=by
 have hw1:=λW (hW:K0 w W)=>Nq 1000000000000000 ad1 c1 n X W (hr1.keeps hW (by simp)) hX j6;have hw2:=λW (hW:K0 w W)=>Nq 10000000 ad2 c2 n Y W (hr2.keeps hW (by simp)) hY j6;rw [Xe hXb,Bool.not_false] at hw1;rw [Xe hYb,Bool.not_false] at hw2;obtain⟨R,hR⟩:=eX (dotI X Y);rw [hR];have hnI:decide ((40000:Int)<(n:Int))=false:=by rw [decide_eq_false_iff_not];omega
 obtain⟨Hr1,HX,Hr2,HY,HXb,HYb,Hw1,Hw2,HR⟩:=hid9 hr1 hX hr2 hY hXb hYb hw1 hw2 hR;clear hR hw2 hw1 hYb hXb hY hr2 hX hr1;go_enter Tryz.func172,Tryz.ntmps172;go_wp2;refine Dl 0 (exJ w (.slice ad1 n c1) (.slice ad2 n c2) X Y n) (λa' _=>n-Aae 12 a') rfl ?_ ?_
 ·rintro a' W ⟨k,N,u,rfl,hk,hkn,hN⟩;unfold exFr;have hbd:=Zf (X.take k) (Y.take k) (λx hx=>HXb.o x (List.mem_of_mem_take hx)) (λy hy=>HYb.o y (List.mem_of_mem_take hy));rw [hN,List.length_take,HX.o] at hbd;obtain⟨N0,N1⟩:=hbd
  have N2:N<=400000000000000000000000000:=by
   have:min k n<=40000:=j8;omega
  clear N1;by_cases hlt:k<n
  ·have hltI:(k:Int)<(n:Int):=j8;have hneI:((k:Int)==(n:Int))=false:=beq_eq_false_iff_ne.2 j6;obtain⟨x,hx⟩:=Ar (L:=X) (k:=k) (by rw [HX.o];exact hlt);obtain⟨y,hy⟩:=Ar (L:=Y) (k:=k) (by rw [HY.o];exact hlt);obtain⟨g1,o1,he1,x0⟩:=(Hr1.o.keeps hk (by simp)).int (k:= .i64) hx;obtain⟨g2,o2,he2,y0⟩:=(Hr2.o.keeps hk (by simp)).int (k:= .i64) hy;subst he1;subst he2;have hS:exS g1 (o1+k) g2 (o2+k) x y W.drew:=⟨x0,y0⟩;have xb:=HXb.o x (List.mem_of_getElem? hx);have yb:=HYb.o y (List.mem_of_getElem? hy);have pb:=prod_bd xb yb;have hsn:=dotI_take (by rw [HX.o,HY.o]) hx hy;rw [hN] at hsn;have hmul:=λW=>Xh x y xb.1 j6 yb.1 j6 W;obtain⟨p,hp⟩:=eX (x*y);rw [hp] at pb hmul hsn;obtain⟨A,hA⟩:=eX (p / 18446744073709551616);obtain⟨B,hB⟩:=eX (p % 18446744073709551616);obtain⟨Hi,hHi⟩:=eX (N / 18446744073709551616);obtain⟨Lo,hLo⟩:=eX (N % 18446744073709551616);rw [hA,hB] at hmul;rw [hHi,hLo];have b1:0<=Lo/\Lo<18446744073709551616:=j8;have b2:0<=B/\B<18446744073709551616:=j8;have b3:0<=Hi/\Hi<1000000000:=j8;have b4:0<=A/\A<1000000000:=j8;have hadd:=fun(W:World)=>add64_run Lo B b1.1 b1.2 b2.1 b2.2 W;obtain⟨C,hC⟩:=eX ((Lo+B) / 18446744073709551616);obtain⟨E,hE⟩:=eX ((Lo+B) % 18446744073709551616);have b5:0<=C/\C<=1:=j8;rw [hC,hE] at hadd;have hadd2:=fun(W:World)=>Ae0 Hi A C b3.1 j6 b4.1 j6 b5.1 b5.2 W;rw [show(Hi+A+C) % 18446744073709551616=(N+p) / 18446744073709551616 by omega] at hadd2;rw [show E=(N+p) % 18446744073709551616 by omega] at hadd;obtain⟨xb0,xb1⟩:=xb;obtain⟨yb0,yb1⟩:=yb;have q1:IntKind.u64.wrap x=x:=by simp [IntKind.wrap,IntKind.signed,IntKind.bits];omega
   have q2:IntKind.u64.wrap y=y:=by simp [IntKind.wrap,IntKind.signed,IntKind.bits];omega
   have Hk:=Lib.hid hk;clear hk hN hx hy;obtain⟨Hsn,Hmul⟩:=hid2 hsn hmul;clear hmul hsn hp hA hB hHi hLo hC hE;have HS:=Lib.hid hS;clear hS;clear pb;go_wp2_with fail;refine Ak (exS g1 (o1+k) g2 (o2+k) x y) (.take 0 (.take 1 (.take 2 (.take 3 (.take 4 (.take 5 (.take 6 (.take 7 (.take 8 (.take 9 (.take 10 (.take 11 (.take 12 (.take 13 (.take 14 (.take 15 .done)))))))))))))))) j9 j9 ?_ ?_
   ·exact HS.o
   intro w1 hs1 hk1;refine jR ?_;refine Gc (v:= ?_) rfl (by rfl) ?_ ?_ ?_ ?_ ?_
   rotate_left 3
   ·intro w' hSw;unfold exS at hSw;go_simp;(first|done|(constructor<;>with_reducible rfl)|with_reducible rfl)
   ·intro w' hSw;exact(Hmul.o _)
   rotate_right 3
   try simp only [aps]
   refine jm ?_;have Hk1:=Lib.hid (Hk.o.nt hk1);clear hk1 hs1;go_wp2_with fail;go_step3;go_wp2;exact Av ⟨exJ.mk (k+1) (N+p) rfl Hk1.o j6 Hsn.o,by simp [Aae];omega⟩
  ·obtain rfl:k=n:=by omega
   rw [List.take_of_length_le (by rw [HX.o];exact Nat.le_refl _),List.take_of_length_le (by rw [HY.o];exact Nat.le_refl _),HR.o] at hN;subst hN;have Hk:=Lib.hid hk;clear hk;go_wp2;refine Bo ?_;exact bodyPost_ret (v:= .tuple #[.int .u64 (R / 18446744073709551616),.int .u64 (R % 18446744073709551616),.int .i64 0]) (by simp [results,Tryz.results172,go_sem]) rfl ⟨rfl,Hk.o⟩
 ·refine jM ?_;intro Hfirst;go_wp2_with fail;refine(Hw1.o _ (Keeps.refl _ _)).mono ?_;rintro e w1 ⟨rfl,hk1⟩;have Hk1:=Lib.hid hk1;clear hk1;go_wp2_with fail;refine(Hw2.o _ Hk1.o).mono ?_;rintro e w2 ⟨rfl,hk2⟩;have Hk2:=Lib.hid (Hk1.o.nt hk2);clear hk2;go_wp2;go_step3;rename_i hK;refine jN ?_;exact exJ.mk 0 0 rfl Hk2.o (Nat.zero_le _) rfl
theorem intOf_any(X Y:List Int)(ad1 ad2:Option Addr)(c1 c2 n:Nat)(w:World)(hr1:Reads w 1 (.slice ad1 n c1) n (X.flatMap i64c))(hX:X.length=n)(hr2:Reads w 1 (.slice ad2 n c2) n (Y.flatMap i64c))(hY:Y.length=n)(hn:n<=40000)
  (hXb:∀x∈X,0<=x/\x<=1000000000000000) (hYb:∀y∈Y,0<=y/\y<=10000000):
  Calls Tryz.prog 152 #[.slice ad1 n c1,.slice ad2 n c2] w λe w'=>e= .returned (.tuple #[.int .i64 (ofR X Y).1,.int .i64 (ofR X Y).2])/\K0 w w':=by
 have hex:=Yx X Y ad1 ad2 c1 c2 n w hr1 hX hr2 hY hn hXb hYb;have hbd:=Zf X Y hXb hYb;unfold ofR;obtain⟨N,hN⟩:=eX (dotI X Y);rw [hN] at hex hbd⊢;have hev:=even9 N hbd.1 j6;have hb2:=Uq (N:=N) (D:=1000000000) (M:=1000000000000000000) j7 hbd.1 j6;obtain⟨Z,hZ⟩:=eX (evenI N 1000000000);rw [hZ] at hev hb2⊢;obtain⟨A,hA⟩:=eX (N / 18446744073709551616);obtain⟨B,hB⟩:=eX (N % 18446744073709551616);rw [hA,hB] at hev hex;obtain⟨z0,z1⟩:=hb2;by_cases hz:1000000000000000<Z
 ·rw [if_pos hz];have hzI:decide (1000000000000000<Z)=true:=by simp [hz]
  clear hz;clear hr1 hX hr2 hY hXb hYb;have Hex:=Lib.hid hex;clear hex hbd hN;have Hev:=Lib.hid hev;clear hev hZ hA hB;go_enter Tryz.func152,Tryz.ntmps152;go_wp2_with fail;refine Hex.o.mono ?_;rintro e w1 ⟨rfl,hk1⟩;have Hk1:=Lib.hid hk1;clear hk1;go_wp2_with fail;refine(Hev.o _).mono ?_;rintro e w2 ⟨rfl,hk2⟩;have Hk2:=Lib.hid (Hk1.o.nt hk2);clear hk2;go_wp2;exact bodyPost_ret (v:= .tuple #[.int .i64 0,.int .i64 5]) (by simp [results,Tryz.results152,go_sem]) rfl ⟨rfl,Hk2.o⟩
 ·rw [if_neg hz];have hzI:decide (1000000000000000<Z)=false:=by simp [hz]
  have hz2:Z<=1000000000000000:=j8;clear hz;clear hr1 hX hr2 hY hXb hYb;have Hex:=Lib.hid hex;clear hex hbd hN;have Hev:=Lib.hid hev;clear hev hZ hA hB;go_enter Tryz.func152,Tryz.ntmps152;go_wp2_with fail;refine Hex.o.mono ?_;rintro e w1 ⟨rfl,hk1⟩;have Hk1:=Lib.hid hk1;clear hk1;go_wp2_with fail;refine(Hev.o _).mono ?_;rintro e w2 ⟨rfl,hk2⟩;have Hk2:=Lib.hid (Hk1.o.nt hk2);clear hk2;go_wp2;exact bodyPost_ret (v:= .tuple #[.int .i64 Z,.int .i64 0]) (by simp [results,Tryz.results152,go_sem]) rfl ⟨rfl,Hk2.o⟩
def maxI(a b:Int):Int:=if a<=b then b else a
def Ma(mf mp total:Int):Int:=minI total (maxI mf (evenI (total*mp) 1000))
theorem tm_okB{t:Tm}(h:t.err=0):t.okB=true:=by
 unfold Tm.err at h
 split at h
 ·assumption
 ·cases h
theorem Fz{t:Tm}(h:t.err=0):(1<=t.trs.length/\t.trs.length<=8)/\(∀x∈t.trs,0<=x.rate/\x.rate<=10000000)/\(1<=t.cyc/\t.cyc<=28)/\(1<=t.due/\t.due<=25)/\(0<=t.minFixed/\t.minFixed<=1000000000000000)/\(0<=t.minPart/\t.minPart<=1000)/\(-135140<=t.start/\t.start<=2922896):=by
 have h1:=tm_okB h;simp only [Tm.okB,inB,Bool.and_eq_true,decide_eq_true_eq] at h1;refine⟨⟨by omega,by omega⟩,λx hx=> ?_,by omega,by omega,by omega,by omega,by omega⟩;have:=List.all_eq_true.1 h1.1.2 x hx
 simpa [Tn.okB,inB] using this
theorem Abd(t:Tm)(v:Value)(total:Int)(w:World)(hz:t.err=0)(hr:Reads w 2 v t.trs.length (t.trs.flatMap Tn.cells))(h0:0<=total)(h1:total<=1000000000000000):
  Calls Tryz.prog 155 #[.agg #[.int .i64 t.limit,v,.int .i64 t.cyc,.int .i64 t.due,.int .i64 t.minFixed,.int .i64 t.minPart,.int .i64 t.start],.int .i64 total] w λe w'=>e= .returned (.tuple #[.int .i64 (Ma t.minFixed t.minPart total),.int .i64 0])/\K0 w w':=by
 obtain⟨⟨l0,l1⟩,_,_,_,⟨f0,f1⟩,⟨p0,p1⟩,_⟩:=Fz hz;have htm:=λW (hW:K0 w W)=>Ki t v W hz (hr.keeps hW (by simp)) j6;have hsh:=λW=>Zu total t.minPart h0 h1 p0 p1 W;have hbd:=Uq (N:=total*t.minPart) (D:=1000) (M:=1000000000000000) j7 (Int.mul_nonneg h0 p0) (Int.mul_le_mul h1 p1 p0 j7);obtain⟨li,cy,du,mf,mp,st,L⟩:=t;simp only at *;unfold Ma;obtain⟨q,hq⟩:=eX (evenI (total*mp) 1000);rw [hq] at hsh hbd⊢;obtain⟨ad,c,rfl,_⟩:=id hr;obtain⟨q0,q1⟩:=hbd;have b0:∀W,K0 (w.alloc (.cells #[.int .i64 li,.slice ad L.length c,.int .i64 cy,.int .i64 du,.int .i64 mf,.int .i64 mp,.int .i64 st] 26)) W->W.heap[w.heap.size]?=some (.cells #[.int .i64 li,.slice ad L.length c,.int .i64 cy,.int .i64 du,.int .i64 mf,.int .i64 mp,.int .i64 st] 26 (0,0)):=λW hW=>Ad (heap_alloc_new w _) hW (by simp);have tn:decide (total<0)=false:=by rw [decide_eq_false_iff_not];omega
 have tn2:decide (1000000000000000<total)=false:=by rw [decide_eq_false_iff_not];omega
 obtain⟨n,hn⟩:=eX L.length;rw [hn] at hr htm b0⊢
 have key:∀z:Int,minI total (maxI mf q)=z->Calls Tryz.prog 155 #[.agg #[.int .i64 li,.slice ad n c,.int .i64 cy,.int .i64 du,.int .i64 mf,.int .i64 mp,.int .i64 st],.int .i64 total] w λe w'=>e= .returned (.tuple #[.int .i64 z,.int .i64 0])/\K0 w w':=by
  intro z hzz;rcases Int.lt_trichotomy mf q with m1|m1|m1
  ·rw [show maxI mf q=q by unfold maxI;rw [if_pos j6]] at hzz;rcases Int.lt_trichotomy total q with m2|m2|m2
   ·rw [show minI total q=total by unfold minI;rw [if_pos j6]] at hzz;exact j1x
   ·exact j30
   ·rw [show minI total q=q by unfold minI;rw [if_neg j6]] at hzz;subst hzz;clear hr hz;obtain⟨Htm,Hsh⟩:=hid2 htm hsh;clear hsh htm hq;have B0:=Lib.hid b0;clear b0 hn;go_enter Tryz.func155,Tryz.ntmps155;go_wp2_with fail;refine Ay 0 rfl ?_;go_wp2_with fail;refine(Htm.o _ (Keeps.alloc _ _)).mono ?_;rintro e w1 ⟨rfl,hk1⟩;have hb:=B0.o _ hk1;have c5:=Aa hb 5;have Hk1:=j0S;clear hk1 hb;go_wp2_with fail;refine(Hsh.o _).mono ?_;rintro e w2 ⟨rfl,hk2⟩;have Hk2:=Lib.hid (Hk1.o.nt hk2);clear hk2;go_wp2;refine Bo ?_;exact bodyPost_ret (v:= .tuple #[.int .i64 q,.int .i64 0]) j1y rfl ⟨rfl,Hk2.o⟩
  ·subst m1;rw [show maxI mf mf=mf by unfold maxI;rw [if_pos j6]] at hzz;exact j31
  ·rw [show maxI mf q=mf by unfold maxI;rw [if_neg j6]] at hzz;exact j31
 exact key _ rfl
def payQ(f d:Int)(x:Ev):Bool:=decide (x.kind=2)&&(decide (f<=x.day)&&decide (x.day<=d))
def paidS(f d:Int):List Ev->Int->Int
 | [],s=>s
 |x::L,s=>paidS f d L (if payQ f d x=true then minI (s+x.amount) 1000000000000000 else s)
def gpFr(f d:Int)(v:Value)(s:Int)(k:Nat)(u:Nat->Value):Act:={ tmps:= #[.int .i64 f,.int .i64 d,v,u 3,u 4,u 5,u 6,u 7,.int .i64 s,.int .i64 k,u 10,u 11,u 12,u 13,u 14,u 15,u 16,u 17,u 18,u 19,u 20,u 21,u 22,u 23,u 24,u 25,u 26,u 27,u 28,u 29,u 30,u 31,u 32,u 33,u 34,u 35,u 36,u 37,u 38,u 39,u 40,u 41,u 42,u 43,u 44,u 45,u 46,u 47,u 48,u 49],defers:= [] }
def gpJ(w:World)(f d:Int)(v:Value)(L:List Ev)(n:Nat)(R:Int)(a':Act)(W:World):Prop:=∃(k:Nat) (s:Int) (u:Nat->Value),a'=gpFr f d v s k u/\K0 w W/\k<=n/\0<=s/\s<=1000000000000000/\paidS f d (L.drop k) s=R
theorem gpJ.mk{w W:World}{f d:Int}{v:Value}{L:List Ev}{n:Nat}{R:Int}{a':Act}(k:Nat)(s:Int)(h:a'=gpFr f d v s k (λi=>a'.tmps.getD i undef))(hw:K0 w W)(hn:k<=n)(h0:0<=s)(h1:s<=1000000000000000)(hp:paidS f d (L.drop k) s=R):gpJ w f d v L n R a' W:=⟨k,s,_,h,hw,hn,h0,h1,hp⟩
def Jd(i:Nat)(a':Act):Nat:=match a'.tmps.getD i undef with| .int _ n=>n.toNat|_=>0
theorem Dy{α:Type}{L:List α}{i:Nat}{x:α}(hx:L[i]?=some x):L.drop i=x::L.drop (i+1):=by
 exact j2U
theorem We(f d:Int)(L:List Ev)(ad:Option Addr)(cap n:Nat)(w:World)(hr:Reads w 5 (.slice ad n cap) n (L.flatMap Ev.cells))(hN:L.length=n)(hn:n<=1000000)(hok:∀x∈L,x.kind=2->0<=x.amount/\x.amount<=1000000000000000):
  Calls Tryz.prog 171 #[.int .i64 f,.int .i64 d,.slice ad n cap] w λe w'=>e= .returned (.tuple #[.int .i64 (paidS f d L 0),.int .i64 0])/\K0 w w':=by
 obtain⟨R,hR⟩:=eX (paidS f d L 0);rw [hR];obtain⟨Hr,HN,Hok,HR⟩:=hid4 hr hN hok hR;clear hR hok hN hr;go_enter Tryz.func171,Tryz.ntmps171;go_wp2;refine Dl 0 (gpJ w f d (.slice ad n cap) L n R) (λa' _=>n-Jd 9 a') rfl ?_ ?_
 ·rintro a' W ⟨k,s,u,rfl,hk,hkn,s0,s1,hR2⟩;unfold gpFr;by_cases hlt:k<n
  ·have hltI:(k:Int)<(n:Int):=j8;have hneI:((k:Int)==(n:Int))=false:=beq_eq_false_iff_ne.2 j6;obtain⟨x,hx⟩:=Ar (L:=L) (k:=k) j0v;obtain⟨g,o,c,he,hc⟩:=(Hr.o.keeps hk (by simp)).elem Ev.Aj hx j7;simp only [Value.slice.injEq,true_and] at he;obtain⟨rfl,rfl⟩:=he;have hok1:=Hok.o x (List.mem_of_getElem? hx);obtain⟨ki,da,tr,am,re⟩:=x;have x0:W.cell? ⟨g,o+k*5,none⟩=some (.int .i64 ki):=hc 0 j7;have x1:W.cell? ⟨g,o+k*5+1,none⟩=some (.int .i64 da):=hc 1 j7;have x2:W.cell? ⟨g,o+k*5+2,none⟩=some (.int .i64 tr):=hc 2 j7;have x3:W.cell? ⟨g,o+k*5+3,none⟩=some (.int .i64 am):=hc 3 j7;have x4:W.cell? ⟨g,o+k*5+4,none⟩=some (.int .i64 re):=hc 4 j7;simp only at hok1;clear hc;obtain⟨Hk,Hx,HR2⟩:=hid3 hk hx hR2;clear hR2 hx hk;by_cases e1:ki=2
   ·subst e1;obtain⟨a0,a1⟩:=hok1 rfl;by_cases e2:f<=da
    ·skip
     by_cases e3:da<=d
     ·skip
      have a0I:decide (am<0)=false:=by rw [decide_eq_false_iff_not];omega
      have a1I:decide (1000000000000000<am)=false:=by rw [decide_eq_false_iff_not];omega
      rcases Int.lt_trichotomy (s+am) 1000000000000000 with m2|m2|m2
      ·skip
       have hst:paidS f d (L.drop (k+1)) (s+am)=R:=by rw [<-HR2.o,Dy Hx.o];simp only [paidS];rw [if_pos (by simp [payQ];omega)];congr 1;unfold minI;split<;>omega
       have Hst:=Lib.hid hst;clear hst;go_wp2_with fail;go_step3;go_wp2;exact Av ⟨gpJ.mk (k+1) (s+am) rfl (Hk.o.trans (Keeps.alloc _ _)) j6 j6 j6 Hst.o,by simp [Jd];omega⟩
      ·exact j32
      ·exact j32
     ·skip
      exact j1z
    ·skip
     exact j1z
   ·have e1I:(ki==2)=false:=beq_eq_false_iff_ne.2 e1;exact j1z
  ·obtain rfl:k=n:=by omega
   rw [List.drop_eq_nil_of_le j1v] at hR2;simp only [paidS] at hR2;subst hR2;have Hk:=Lib.hid hk;clear hk;go_wp2;refine Bo ?_;exact bodyPost_ret (v:= .tuple #[.int .i64 s,.int .i64 0]) (by simp [results,Tryz.results171,go_sem]) rfl ⟨rfl,Hk.o⟩
 ·refine jM ?_;intro Hfirst;go_wp2;go_step3;rename_i hK;refine jN ?_;exact gpJ.mk 0 0 rfl (Keeps.refl _ _) (Nat.zero_le _) (Int.le_refl _) j7 HR.o
def hasB(owed f d:Int)(L:List Ev):Bool:=decide (owed<=0)||decide (owed<=paidS f d L 0)
theorem Za(owed f d:Int)(L:List Ev)(ad:Option Addr)(cap n:Nat)(w:World)(hr:Reads w 5 (.slice ad n cap) n (L.flatMap Ev.cells))(hN:L.length=n)(hn:n<=1000000)(hok:∀x∈L,x.kind=2->0<=x.amount/\x.amount<=1000000000000000):
  Calls Tryz.prog 151 #[.int .i64 owed,.int .i64 f,.int .i64 d,.slice ad n cap] w λe w'=>e= .returned (.tuple #[.bool (hasB owed f d L),.int .i64 0])/\K0 w w':=by
 have hp:=We f d L ad cap n w hr hN hn hok;unfold hasB;obtain⟨p,hpp⟩:=eX (paidS f d L 0);rw [hpp] at hp⊢;obtain⟨b1,h1⟩:=eX (decide (owed<=0));obtain⟨b2,h2⟩:=eX (decide (owed<=p));rw [h1,h2];clear hr hN hok;have Hp:=Lib.hid hp;clear hp hpp;rcases b1 with _|_<;>rcases b2 with _|_
 all_goals
  go_enter Tryz.func151,Tryz.ntmps151;go_wp2_with fail;refine Hp.o.mono ?_;rintro e w1 ⟨rfl,hk1⟩;have Hk1:=Lib.hid hk1;clear hk1;go_wp2
  first
   |exact bodyPost_ret (v:= .tuple #[.bool true,.int .i64 0]) (by simp [results,Tryz.results151,go_sem]) rfl ⟨rfl,Hk1.o⟩
   |exact bodyPost_ret (v:= .tuple #[.bool false,.int .i64 0]) (by simp [results,Tryz.results151,go_sem]) rfl ⟨rfl,Hk1.o⟩
theorem Adc:(Tryz.prog.info? 4).map (λi=>(i.zero,i.size,i.bytes))=some (some (.bool false),1,1):=by kernel_rfl
def boolc(b:Bool):List Value:= [.bool b]
theorem Gf(b:Bool):(boolc b).length=1:=rfl
def RowB(W:World)(g n cap:Nat)(O:List Bool):Prop:=W.ownsRow 0 4 1 (.slice (some ⟨g,0,none⟩) n cap) n (O.flatMap boolc)/\O.length=n
theorem RowB.cell{W:World}{g n cap:Nat}{O:List Bool}(h:RowB W g n cap O){k:Nat}{x:Bool}(hx:O[k]?=some x):W.cell? ⟨g,k,none⟩=some (.bool x):=by
 obtain⟨h,rfl⟩:=h;have:=Bw Gf h hx 0 j7;exact j0p
theorem RowB.free{W:World}{g n cap:Nat}{O:List Bool}(h:RowB W g n cap O)(j:Nat):W.frozen? ⟨g,j,none⟩=false:=by
 exact j1k
theorem RowB.set{W:World}{g n cap:Nat}{O:List Bool}(h:RowB W g n cap O){k:Nat}(hk:k<n)(x:Bool):RowB (W.setCell ⟨g,k,none⟩ (.bool x)) g n cap (O.set k x):=by
 obtain⟨h1,h2⟩:=h;obtain⟨y,hy⟩:=Ar (L:=O) (k:=k) j6;subst h2;have:=Je Gf h1 hy 0 j7 (y:=x) (u:= .bool x) rfl;simp only [Nat.mul_one,Nat.add_zero] at this;exact⟨this,by simp⟩
theorem RowB.lt{W:World}{g n cap:Nat}{O:List Bool}(h:RowB W g n cap O):g<W.heap.size:=Ch h.1 rfl
theorem Ad6(n:Nat):(madeCells (Value.bool false).cells n).toList=(List.replicate n false).flatMap boolc:=by
 have hL:((List.replicate n false).flatMap boolc).length=n:=by rw [Cs Gf];simp
 have hM:(madeCells (Value.bool false).cells n).toList.length=n:=by simp [madeCells]
 apply List.ext_getElem?
 intro i;by_cases h:i<n
 ·have h2:((List.replicate n false).flatMap boolc)[i]?=some (.bool false):=by
   have:=flat_get Gf (L:=List.replicate n false) (k:=i) (j:=0) (x:=false) (by simp [h]) j7;exact j0p
  rw [h2];simp [madeCells,Value.cells,h,Nat.mod_one]
 ·rw [List.getElem?_eq_none j6,List.getElem?_eq_none j6]
theorem RowB.made(w:World)(n:Nat)(hn:n<=maxLen):RowB (w.alloc (.cells (madeCells (Value.bool false).cells n) 4)) w.heap.size n n (List.replicate n false):=by
 have hL:((List.replicate n false).flatMap boolc).length=n*1:=by rw [Cs Gf];simp
 refine⟨⟨hL,.inr ⟨_,_,_,rfl,Nat.zero_le _,heap_alloc_new w _,Nat.le_refl _,hn,by simp [madeCells], ?_⟩⟩,by simp⟩;rw [Ad6,List.take_of_length_le (by rw [hL];exact Nat.le_refl _)]
def SeenL(n:Nat)(T:List Int)(O:List Bool):Prop:=∀j:Nat,j<n->O[j]?=some (decide (((j:Int)+1)∈T))
theorem SeenL.snoc{n:Nat}{T:List Int}{O:List Bool}(h:SeenL n T O)(hO:O.length=n){k:Int}{i:Nat}(hi:(i:Int)=k-1)(hin:i<n):SeenL n (T++ [k]) (O.set i true):=by
 intro j hj;by_cases e:i=j
 ·subst e;rw [List.getElem?_set_self j6];have:(i:Int)+1=k:=j8;simp [this]
 ·rw [List.getElem?_set_ne e,h j hj];have:¬(j:Int)+1=k:=j8;simp [this]
theorem Sv(L:List Int)(ad:Option Addr)(cap n m:Nat)(w:World)(hr:Reads w 1 (.slice ad m cap) m (L.flatMap i64c))(hM:L.length=m)(hok:∀k∈L,1<=k/\k<=n)(hnd:L.Nodup)(hn:n<=1000)(hm:m<=1000):
  Calls Tryz.prog 185 #[.slice ad m cap,.int .i64 ((n:Nat):Int)] w λe w'=>e= .returned (.bool true)/\K0 w w':=by
 obtain⟨i0,hi,hi0,hi1,hi2⟩:=info_parts Adc;have hmk:=fun(W:World)=>run_makeSlice (P:=Tryz.prog) W 297 4 i0 (.bool false) Tryz.underlying297 hi hi0 .i64 .i64 (n:Int) (n:Int) j6 j6 (by rw [hi1];omega) (by rw [hi2];omega) j6;simp only [Int.toNat_natCast,hi1,Nat.mul_one] at hmk;obtain⟨Z,hZ⟩:=eY (madeCells (Value.bool false).cells n);rw [<-hZ] at hmk;obtain⟨Hr,HM,Hok,Hnd⟩:=hid4 hr hM hok hnd;clear hnd hok hM hr hi hi0 hi1 hi2;have HZ:=Lib.hid hZ;clear hZ;go_enter Tryz.func185,Tryz.ntmps185;go_wp2;have hmd:=RowB.made w n jd;rw [<-HZ.o] at hmd
 go_loopw [12] (λx wx=>∃(i:Nat) (O:List Bool),x= .int .i64 (i:Nat)/\i<=m/\RowB wx w.heap.size n n O/\SeenL n (L.take i) O/\K0 w wx) (λx _=>m-(intOf x).toNat)
 case atStart=>exact⟨0,_,rfl,Nat.zero_le _,hmd,λj hj=>by simp [hj],by(repeat (first|exact Keeps.refl _ _|exact Keeps.alloc _ _|exact Keeps.drew _|exact Keeps.drewN _ _|refine Keeps.Ao ?_|refine Keeps.Al ?_|refine Keeps.Af ?_))⟩
 case round=>
  obtain⟨i,O,rfl,him,hrow,hseen,hk⟩:=hrel;obtain⟨wq,hwq⟩:=eY wr;subst hwq;clear hmd;by_cases hlt:i<m
  ·have hltI:(i:Int)<(m:Int):=j8;obtain⟨k,hx⟩:=Ar (L:=L) (k:=i) (by rw [HM.o];exact hlt);obtain⟨k1,k2⟩:=Hok.o k (List.mem_of_getElem? hx);obtain⟨p,hp⟩:∃p:Nat,(p:Int)=k-1:=⟨(k-1).toNat,by omega⟩;have hpn:p<n:=j8
   have hnot:¬k∈L.take i:=by
    intro hmem;obtain⟨j,hj,hje⟩:=List.mem_iff_getElem.1 hmem;rw [List.length_take] at hj;rw [List.getElem_take] at hje;obtain⟨h1,h2⟩:=List.getElem?_eq_some_iff.1 hx;exact(List.pairwise_iff_getElem.1 Hnd.o) j i j6 h1 j6 (hje.trans h2.symm)
   have hO:O[p]?=some false:=by
    rw [hseen p hpn,show(p:Int)+1=k by omega,decide_eq_false hnot]
   obtain⟨gO,oO,he,hcO⟩:=(Hr.o.keeps hk (by simp)).int (k:= .i64) hx;subst he;have ck:=hrow.cell hO;have fk:=hrow.free p;have q2:k-1<(n:Int):=j8;have q3:(k-1).toNat=p:=j8;have q4:IntKind.i64.wrap (k-1)=k-1:=IntWalk.i64_in _ ⟨by omega,by omega⟩;have q5:decide (k<1)=false:=by rw [decide_eq_false_iff_not];omega
   have q6:decide ((n:Int)<k)=false:=by rw [decide_eq_false_iff_not];omega
   have hnew:RowB (wq.setCell ⟨w.heap.size,p,none⟩ (.bool true)) w.heap.size n n (O.set p true)/\SeenL n (L.take (i+1)) (O.set p true)/\K0 w (wq.setCell ⟨w.heap.size,p,none⟩ (.bool true)):=
    ⟨hrow.set hpn true,by rw [take_snoc' hx];exact hseen.snoc hrow.2 hp hpn,hk.trans (Keeps.setCell _ _ _ (.inr (Nat.le_refl _)))⟩
   clear hrow hseen;have Hk:=Lib.hid hk;clear hk hx hp hnot hO;have Hnew:=Lib.hid hnew;clear hnew;go_wp2;go_roundw
   case rel=>exact⟨i+1,_,by go_num,by omega,Hnew.o.1,Hnew.o.2.1,Hnew.o.2.2⟩
   case measure=>simp [intOf];omega
  ·obtain rfl:i=m:=by omega
   clear hrow hseen;have Hk:=Lib.hid hk;clear hk;go_wp2;go_ret;exact⟨rfl,Hk.o⟩
theorem Kv{L:List Int}{b:Bool}{n:Nat}(hb:L.all Bv=b)(hN:L.length=n)(hl:n<=1000)(ad:Option Addr)(cap:Nat)(w:World)(hr:Reads w 1 (.slice ad n cap) n (L.flatMap i64c)):
  Calls Tryz.prog 180 #[.slice ad n cap] w λe w'=>e= .returned (.bool b)/\w=w':=by
 subst hN;subst hb;exact Abr ad cap L w hr hl
structure OrdOk(n:Nat)(O:List Int):Prop where
 ok:∀k∈O,1<=k/\k<=n
 nd:O.Nodup
theorem Zc(B O:List Int)(a:Int)(adB adO:Option Addr)(cB cO n m:Nat)(w:World)(hB:Reads w 1 (.slice adB n cB) n (B.flatMap i64c))(hN:B.length=n)(hO:Reads w 1 (.slice adO m cO) m (O.flatMap i64c))(hM:O.length=m)(hm:B.all Bv=true)(ha:Bv a=true)
  (hord:OrdOk n O) (hl:n<=1000) (hl2:m<=1000):Calls Tryz.prog 170 #[.slice adB n cB,.slice adO m cO,.int .i64 a] w λe w'=>∃g,e= .returned (.tuple #[.slice (some ⟨g,0,none⟩) n n,.int .i64 (intoL B O a).2,.int .i64 0])/\RowZ w' 2 g n n (intoL B O a).1/\K0 w w'/\w.heap.size<=g:=by
 have hin:=λW (hW:K0 w W)=>Nt B O a adB adO cB cO W (by rw [hN];exact hB.keeps hW (by simp)) (by rw [hM];exact hO.keeps hW (by simp)) (λx hx=>(Bi x).1 (List.all_eq_true.1 hm x hx)) ((Bi a).1 ha) (by rw [hN];exact hord.ok) j6 j6;have hrl:=Dn B O a;rw [hN] at hrl;obtain⟨r,hr⟩:=eX (intoL B O a);rw [hr] at hin hrl⊢;unfold Qj at hin;rw [hN,hM,hrl] at hin;have hof:=λW (hW:K0 w W)=>Sv O adO cO n m W (hO.keeps hW (by simp)) hM hord.ok hord.nd hl hl2;have hmb:=λW (hW:K0 w W)=>Kv hm hN hl adB cB W (hB.keeps hW (by simp));have hma:=λW g (hT:Reads W 1 (.slice (some ⟨g,0,none⟩) 1 1) 1 ([a].flatMap i64c))=>Kv (L:= [a]) (b:=true) (by simp [ha]) rfl (by simp) (some ⟨g,0,none⟩) 1 W hT;clear hB hO hm ha hord;have Hin:=Lib.hid hin;clear hin hr hrl;obtain⟨Hof,Hmb,Hma⟩:=hid3 hof hmb hma;clear hma hmb hof hN hM;go_enter Tryz.func170,Tryz.ntmps170;go_wp2_with fail;refine(Hof.o _ (Keeps.refl _ _)).mono ?_;rintro e w1 ⟨rfl,hk1⟩;have Hk1:=Lib.hid hk1;clear hk1;go_wp2_with fail;refine(Hmb.o _ Hk1.o).mono ?_;rintro e w2 ⟨rfl,rfl⟩;go_wp2_with fail;refine(Hma.o _ _ (Reads.litAt _ _ _ 1 1 _ (by simp) rfl)).mono ?_;rintro e w3 ⟨rfl,rfl⟩;go_wp2_with fail;refine(Hin.o _ (Hk1.o.trans (Keeps.alloc _ _))).mono ?_;rintro e w4 ⟨g,rfl,hrow,hk4,hg⟩;have hfin:K0 w w4:=(Hk1.o.trans (Keeps.alloc _ _)).nt hk4;have hgg:w.heap.size<=g:=by have h1:=Hk1.o.size;have h2:=hg;simp at h2;omega
 have Hrow:=Lib.hid hrow;clear hrow hk4 hg;obtain⟨Hfin,Hgg⟩:=hid2 hfin hgg;clear hgg hfin;go_wp2;exact bodyPost_ret (v:= .tuple #[.slice (some ⟨g,0,none⟩) n n,.int .i64 r.2,.int .i64 0]) (by simp [results,Tryz.results170,go_sem]) rfl ⟨g,rfl,Hrow.o,Hfin.o,Hgg.o⟩
def stepL(f:Int->Int->Int)(B P:List Int)(i:Nat):List Int:=(List.zipWith f B P).take i++B.drop i
theorem Kk(f:Int->Int->Int)(B P:List Int):stepL f B P 0=B:=by simp [stepL]
theorem Kl{f:Int->Int->Int}{B P:List Int}(h:P.length=B.length){n:Nat}(hn:B.length=n):stepL f B P n=List.zipWith f B P:=by
 subst hn;unfold stepL;rw [List.drop_eq_nil_of_le (Nat.le_refl _),List.append_nil,List.take_of_length_le (by rw [List.length_zipWith];omega)]
theorem Mv{f:Int->Int->Int}{B P:List Int}(h:P.length=B.length){i:Nat}{x:Int}(hx:B[i]?=some x):(stepL f B P i)[i]?=some x:=by
 obtain⟨h1,h2⟩:=List.getElem?_eq_some_iff.1 hx;unfold stepL;rw [List.getElem?_append_right (by simp only [List.length_take,List.length_zipWith];omega)];simp only [List.length_take,List.length_zipWith,List.getElem?_drop];rw [show i+(i-min i (min B.length P.length))=i by omega];exact hx
theorem Mt{f:Int->Int->Int}{B P:List Int}(h:P.length=B.length){i:Nat}{x y:Int}(hx:B[i]?=some x)(hy:P[i]?=some y):(stepL f B P i).set i (f x y)=stepL f B P (i+1):=by
 obtain⟨h1,h2⟩:=List.getElem?_eq_some_iff.1 hx;have hz:(List.zipWith f B P)[i]?=some (f x y):=by rw [List.getElem?_zipWith,hx,hy]
 have hl:((List.zipWith f B P).take i).length=i:=by simp only [List.length_take,List.length_zipWith];omega
 unfold stepL;rw [List.set_append_right _ _ j6,hl,Nat.sub_self,List.drop_eq_getElem_cons h1,List.set_cons_zero,take_snoc' hz,List.append_assoc];rfl
theorem Tj{B P:List Int}(hP:∀j x,P[j]?=some x->0<=x/\x<=B.getD j 0)(hB:∀x∈B,0<=x/\x<=1000000000000000):∀x∈List.zipWith (· - ·) B P,0<=x/\x<=1000000000000000:=by
 intro z hz;obtain⟨j,hj⟩:=List.mem_iff_getElem?.1 hz;rw [List.getElem?_zipWith] at hj;rcases hb:B[j]? with _|b
 ·rw [hb] at hj;simp at hj
 ·rcases hp:P[j]? with _|p
  ·rw [hb,hp] at hj;simp at hj
  ·rw [hb,hp] at hj;simp only [Option.some.injEq] at hj;have h1:=hP j p hp;rw [List.getD_eq_getElem?_getD,hb] at h1;have h2:=hB b (List.mem_of_getElem? hb);simp only [Option.getD_some] at h1;omega
def payL(B R:List Int)(du a:Int):List Int×Int×Int:=
 let m:=minI a du
 let p:=intoL B (rankL false R) m
 let q:=intoL (List.zipWith (· - ·) B p.1) (rankL true R) (a-m+p.2)
 (List.zipWith (·+·) p.1 q.1,m,q.2)
end Go.Proofs.YtjkdnaljkdnomaaGreatDoor
