/- Part 2 of what the laws of this seat share: walks of functions, and plain laws. -/
import Derived.Shelf.Abstract
import Derived.Test.YtgbgmadkmabeeaaGreatG1
set_option maxRecDepth 100000
set_option maxHeartbeats 1600000
namespace Go.Proofs.YtgbgmadkmabeeaaGreat
open Go.RowKit
theorem Gp:(Tryz.prog.info? 2).map (λi=>(i.zero,i.size,i.bytes))=some (some (.int .i64 0),1,8):=by kernel_rfl
def badM(v:Int):Bool:= !Bt v
theorem Zp(v:Int)(w:World):Calls Tryz.prog 300 #[.int .i64 v] w λe w'=>e= .returned (.bool (badM v))/\w=w':=by
 by_cases h1:v<0
 ·have hf:badM v=true:=by simp [badM,Bt,h1]
  exact j16
 ·by_cases h2:1000000000000000<v
  ·have hf:badM v=true:=by simp [badM,Bt];omega
   exact j16
  ·have hf:badM v=false:=by simp [badM,Bt];omega
   exact j16
theorem Gj{q:Int->Bool}{L:List Int}{k:Nat}{x:Int}(h:L[k]?=some x):(L.take (k+1)).any q=((L.take k).any q||q x):=by rw [take_snoc' h,List.any_append];simp
theorem Ky{q:Int->Bool}{L:List Int}{k:Nat}{x:Int}(h:L[k]?=some x)(hx:q x=true):L.any q=true:=List.any_eq_true.2 ⟨x,List.mem_of_getElem? h,hx⟩
theorem indexFall(ad:Option Addr)(cap:Nat)(L:List Int)(w:World)(hr:Reads w 1 (.slice ad L.length cap) L.length (L.flatMap i64c))(hl:L.length<=1000):
  Calls Tryz.prog 287 #[.slice ad L.length cap,.func (.func 300) #[] #[]] w λe w'=>∃r:Int,e= .returned (.int .i64 r)/\decide (0<=r)=L.any badM/\w=w':=by
 have Hr:=Lib.hid hr;clear hr;go_enter Tryz.func287,Tryz.ntmps287;go_wp2_with fail
 go_loop [8] (λc=>∃j:Nat,j<=L.length/\c= .int .i64 (j:Nat)/\(L.take j).any badM=false) (λc=>L.length-(intOf c).toNat)
 case atStart=>exact⟨0,Nat.zero_le _,rfl,rfl⟩
 case round=>
  obtain⟨j,hj,rfl,hok⟩:=hrel;by_cases hjl:j<L.length
  ·obtain⟨x,hx⟩:=Au hjl;obtain⟨g,o,rfl,x0⟩:=Hr.o.int hx;have hsn:=Gj (q:=badM) hx;rw [hok] at hsn;have hcl:=λW=>Zp x W;rcases m1:badM x with _|_
   ·have hok':(L.take (j+1)).any badM=false:=by rw [hsn,m1];rfl
    rw [m1] at hcl;obtain⟨Hsn,Hx,Hok,Hok',Hcl⟩:=hid5 hsn hx hok hok' hcl;clear hcl hok' hok hx hsn
    go_wp2_with (go_at_call 300;((with_reducible refine(Hcl.o _).mono ?_);rintro e w1 ⟨rfl,rfl⟩))
    exact j0c
   ·have hf:=Ky (q:=badM) hx m1;have hj0:decide ((0:Int)<=(j:Int))=true:=by simp
    rw [m1] at hcl;obtain⟨Hf,Hsn,Hx,Hj0,Hcl⟩:=hid5 hf hsn hx hj0 hcl;clear hcl hj0 hx hsn hf
    go_wp2_with (go_at_call 300;((with_reducible refine(Hcl.o _).mono ?_);rintro e w1 ⟨rfl,rfl⟩))
    exact j0x
  ·exact j0d
theorem Aa0(ad:Option Addr)(cap:Nat)(L:List Int)(w:World)(hr:Reads w 1 (.slice ad L.length cap) L.length (L.flatMap i64c))(hl:L.length<=1000):
  Calls Tryz.prog 267 #[.slice ad L.length cap,.func (.func 300) #[] #[]] w λe w'=>e= .returned (.bool (L.any badM))/\w=w':=by
 have Hr:=Lib.hid hr;clear hr;go_enter Tryz.func267,Tryz.ntmps267
 go_wp2_with (go_at_call 287;refine(indexFall _ _ L _ Hr.o hl).mono ?_;rintro e w1 ⟨r,rfl,hd,rfl⟩;have Hd:=Lib.hid hd;clear hd)
 exact j0e
theorem Abx(ad:Option Addr)(cap:Nat)(L:List Int)(w:World)(hr:Reads w 1 (.slice ad L.length cap) L.length (L.flatMap i64c))(hl:L.length<=1000):
  Calls Tryz.prog 289 #[.slice ad L.length cap] w λe w'=>e= .returned (.bool (L.all Bt))/\w=w':=by
 have hc:=Aa0 ad cap L w hr hl;have he:L.any badM= !(L.all Bt):=by rw [List.all_eq_not_any_not];simp only [Bool.not_not];rfl
 rw [he] at hc;obtain⟨Hr,Hc⟩:=hid2 hr hc;clear hc hr;go_enter Tryz.func289,Tryz.ntmps289;go_wp2_with fail;refine Hc.o.mono ?_;rintro e w1 ⟨rfl,rfl⟩;go_wp2;go_ret;exact⟨by simp,rfl⟩
def RowZ(W:World)(e:TypeId)(g n cap:Nat)(O:List Int):Prop:=W.ownsRow 0 e 1 (.slice (some ⟨g,0,none⟩) n cap) n (O.flatMap i64c)/\O.length=n
theorem RowZ.cell{W:World}{e:TypeId}{g n cap:Nat}{O:List Int}(h:RowZ W e g n cap O){k:Nat}{x:Int}(hx:O[k]?=some x):W.cell? ⟨g,k,none⟩=some (.int .i64 x):=by
 obtain⟨h,rfl⟩:=h;have:=Bu Dq h hx 0 j7;exact j0b
theorem RowZ.free{W:World}{e:TypeId}{g n cap:Nat}{O:List Int}(h:RowZ W e g n cap O)(j:Nat):W.frozen? ⟨g,j,none⟩=false:=by
 exact j14
theorem RowZ.set{W:World}{e:TypeId}{g n cap:Nat}{O:List Int}(h:RowZ W e g n cap O){k:Nat}(hk:k<n)(x:Int):RowZ (W.setCell ⟨g,k,none⟩ (.int .i64 x)) e g n cap (O.set k x):=by
 exact j2h
theorem RowZ.keep{W W':World}{e:TypeId}{g n cap:Nat}{O:List Int}(h:RowZ W e g n cap O)(hk:K0 W W'):RowZ W' e g n cap O:=⟨h.1.of_keeps hk,h.2⟩
theorem RowZ.lt{W:World}{e:TypeId}{g n cap:Nat}{O:List Int}(h:RowZ W e g n cap O):g<W.heap.size:=Ci h.1 rfl
theorem RowZ.reads{W:World}{e:TypeId}{g n cap:Nat}{O:List Int}(h:RowZ W e g n cap O):Reads W 1 (.slice (some ⟨g,0,none⟩) n cap) n (O.flatMap i64c):=Reads.Bb h.1
theorem made_ints(n:Nat):(madeCells (Value.int .i64 0).cells n).toList=(List.replicate n (0:Int)).flatMap i64c:=by
 have hL:((List.replicate n (0:Int)).flatMap i64c).length=n:=by rw [Df Dq];simp
 have hM:(madeCells (Value.int .i64 0).cells n).toList.length=n:=by simp [madeCells]
 apply List.ext_getElem?
 intro i;by_cases h:i<n
 ·have h2:((List.replicate n (0:Int)).flatMap i64c)[i]?=some (.int .i64 0):=by
   have:=flat_get Dq (L:=List.replicate n (0:Int)) (k:=i) (j:=0) (x:=0) (by simp [h]) j7;exact j0b
  rw [h2];simp [madeCells,Value.cells,h,Nat.mod_one]
 ·rw [List.getElem?_eq_none j6,List.getElem?_eq_none j6]
theorem RowZ.made(w:World)(e:TypeId)(n:Nat)(hn:n<=maxLen):RowZ (w.alloc (.cells (madeCells (Value.int .i64 0).cells n) e)) e w.heap.size n n (List.replicate n 0):=by
 have hL:((List.replicate n (0:Int)).flatMap i64c).length=n*1:=by rw [Df Dq];simp
 refine⟨⟨hL,.inr ⟨_,_,_,rfl,Nat.zero_le _,heap_alloc_new w _,Nat.le_refl _,hn,by simp [madeCells], ?_⟩⟩,by simp⟩;rw [made_ints,List.take_of_length_le (by rw [hL];exact Nat.le_refl _)]
def inFr(vB vO:Value)(a:Int)(g n j:Nat)(u:Nat->Value):Act:={ tmps:= #[vB,vO,.int .i64 a,u 3,u 4,u 5,u 6,u 7,.slice (some ⟨g,0,none⟩) n n,.int .i64 ((j:Nat):Int),u 10,u 11,u 12,u 13,u 14,u 15,u 16,u 17,u 18,u 19,u 20,u 21,u 22,u 23,u 24,u 25,u 26,u 27,u 28,u 29,u 30,u 31,u 32,u 33,u 34,u 35,u 36,u 37,u 38,u 39,u 40,u 41],defers:= [] }
structure InAt(B O:List Int)(a00:Int)(w:World)(g j:Nat)(out:List Int)(a:Int)(W:World):Prop where
 jl:j<=O.length
 a0:0<=a
 a1:a<=1000000000000000
 row:RowZ W 2 g B.length B.length out
 eq:intoL B O a00=intoS B (O.drop j) (out,a)
 kp:K0 w W
 gg:w.heap.size<=g
def inJ(B O:List Int)(a0:Int)(w:World)(vB vO:Value)(n:Nat)(a':Act)(W:World):Prop:=∃(g j:Nat) (out:List Int) (a:Int) (u:Nat->Value),a'=inFr vB vO a g n j u/\InAt B O a0 w g j out a W
theorem inJ.mk{B O:List Int}{a0:Int}{w:World}{vB vO:Value}{n:Nat}{a':Act}{W:World}(g j:Nat)(out:List Int)(a:Int)(h:a'=inFr vB vO a g n j (λi=>a'.tmps.getD i undef))(hi:InAt B O a0 w g j out a W):inJ B O a0 w vB vO n a' W:=⟨g,j,out,a,_,h,hi⟩
def Qm(r:List Int×Int)(w:World)(e:Ending)(w':World):Prop:=∃g,e= .returned (.tuple #[.slice (some ⟨g,0,none⟩) r.1.length r.1.length,.int .i64 r.2])/\RowZ w' 2 g r.1.length r.1.length r.1/\K0 w w'/\w.heap.size<=g
theorem Nu(B O:List Int)(a:Int)(adB adO:Option Addr)(cB cO:Nat)(w:World)(hB:Reads w 1 (.slice adB B.length cB) B.length (B.flatMap i64c))(hO:Reads w 1 (.slice adO O.length cO) O.length (O.flatMap i64c))(hm:∀x∈B,0<=x/\x<=1000000000000000)(ha:0<=a/\a<=1000000000000000)
  (hok:∀k∈O,1<=k/\k<=B.length) (hl:B.length<=1000) (hl2:O.length<=1000):Calls Tryz.prog 290 #[.slice adB B.length cB,.slice adO O.length cO,.int .i64 a] w (Qm (intoL B O a) w):=by
 obtain⟨i0,hi,hi0,hi1,hi2⟩:=info_parts Gp;have hrl:=Di B O a;obtain⟨n,hn⟩:=eX B.length;obtain⟨m,hmO⟩:=eX O.length;obtain⟨r,hr⟩:=eX (intoL B O a);rw [hn] at hB hok hl hrl⊢;rw [hmO] at hO hl2⊢;rw [hr] at hrl⊢;refine j17 ?_;intro hmk;simp only [Int.toNat_natCast,hi1,Nat.mul_one] at hmk;obtain⟨Z,hZ⟩:=eY (madeCells (Value.int .i64 0).cells n);rw [<-hZ] at hmk;obtain⟨ha0,ha1⟩:=ha;obtain⟨HB,HO,Hm,Hok,Hn,HmO,Hr,Hrl,Hi⟩:=hid9 hB hO hm hok hn hmO hr hrl hi;clear hi hrl hr hmO hn hok hm hO hB;obtain⟨Hi0,Hi1,Hi2,HZ⟩:=hid4 hi0 hi1 hi2 hZ;clear hZ hi2 hi1 hi0;go_enter Tryz.func290,Tryz.ntmps290;go_wp2_with fail;refine Cx 0 (inJ B O a w (.slice adB n cB) (.slice adO m cO) n) (λa' _=>m-Dz 9 a') rfl ?_ ?_
 ·rintro a' W ⟨g,j,out,b,u,rfl,hat⟩;unfold inFr;have hjl:=hat.jl;have hb0:=hat.a0;have hb1:=hat.a1;have hrow:=hat.row;rw [Hn.o] at hrow;rw [HmO.o] at hjl;by_cases hlt:j<m
  ·have hltI:(j:Int)<(m:Int):=j8;obtain⟨k,hk⟩:=Au (L:=O) (k:=j) (by rw [HmO.o];exact hlt);obtain⟨k1,k2⟩:=Hok.o k (List.mem_of_getElem? hk);obtain⟨i,hi⟩:∃i:Nat,(i:Int)=k-1:=⟨(k-1).toNat,by omega⟩;obtain⟨x,hx⟩:=Au (L:=B) (k:=i) jQ;obtain⟨x1,x2⟩:=Hm.o x (List.mem_of_getElem? hx);obtain⟨gO,oO,he,hcO⟩:=(HO.o.keeps hat.kp (by simp)).int (k:= .i64) hk;subst he;obtain⟨gB,oB,he,hcB⟩:=(HB.o.keeps hat.kp (by simp)).int (k:= .i64) hx;subst he;obtain⟨y,hy⟩:=Au (L:=out) (k:=i) (by rw [hrow.2];omega);have cy:=hrow.cell hy;have fy:=hrow.free i;have lO:=Ag hcO;have lB:=Ag hcB;have lg:=hrow.lt;have q1:(0:Int)<=k-1:=j8;have q2:k-1<(n:Int):=j8;have q3:(k-1).toNat=i:=j8;have q4:IntKind.i64.wrap (k-1)=k-1:=IntWalk.i64_in _ ⟨by omega,by omega⟩
   have hstep:intoS B (O.drop j) (out,b)=intoS B (O.drop (j+1)) (out.set i (minI b x),b-minI b x):=by
    obtain⟨h1,h2⟩:=List.getElem?_eq_some_iff.1 hk;rw [List.drop_eq_getElem_cons h1,h2];show intoS B (O.drop (j+1)) _=_;rw [q3,List.getD_eq_getElem?_getD,hx];rfl
   have hat2:∀v:Int,minI b x=v->0<=v->v<=b->InAt B O a w g (j+1) (out.set i v) (b-v) (W.setCell ⟨g,i,none⟩ (.int .i64 v)):=λv hv h0 h1=>
    ⟨by rw [HmO.o];omega,by omega,by omega,by rw [Hn.o];exact hrow.set j6 v,by rw [hat.eq,hstep,hv],hat.kp.trans (Keeps.setCell _ _ _ (.inr hat.gg)),hat.gg⟩
   by_cases hmin:b<=x
   ·have h2:=hat2 b (by unfold minI;rw [if_pos hmin]) j6 j6;rw [Int.sub_self] at h2;clear hat2;obtain⟨Hat,Hrow,Hk,Hx,Hy,Hstep,Hi,H2⟩:=hid8 hat hrow hk hx hy hstep hi h2;clear h2 hi hstep hy hx hk hrow hat;go_wp2;go_step3;go_wp2;exact Aw ⟨inJ.mk g (j+1) (out.set i b) 0 rfl H2.o,by simp [Dz];omega⟩
   ·have h2:=hat2 x (by unfold minI;rw [if_neg hmin]) j6 j6;clear hat2;obtain⟨Hat,Hrow,Hk,Hx,Hy,Hstep,Hi,H2⟩:=hid8 hat hrow hk hx hy hstep hi h2;clear h2 hi hstep hy hx hk hrow hat;go_wp2;go_step3;go_wp2;exact Aw ⟨inJ.mk g (j+1) (out.set i x) (b-x) rfl H2.o,by simp [Dz];omega⟩
  ·obtain rfl:j=m:=by omega
   have he:=hat.eq;rw [Hr.o,List.drop_eq_nil_of_le (by rw [HmO.o];exact Nat.le_refl _)] at he;have he2:r=(out,b):=he;subst he2;have hkp:=hat.kp;have hgg:=hat.gg;obtain⟨Hat,He,Hrow,Hkp,Hgg⟩:=hid5 hat he hrow hkp hgg;clear hgg hkp hrow he hat;go_wp2;refine Bq ?_;have hpost:Qm (out,b) w (.returned (.tuple #[.slice (some ⟨g,0,none⟩) n n,.int .i64 b])) W:=⟨g,by simp only;rw [Hrl.o],by simp only;rw [Hrl.o];exact Hrow.o,Hkp.o,Hgg.o⟩;exact bodyPost_ret (v:= .tuple #[.slice (some ⟨g,0,none⟩) n n,.int .i64 b]) (by simp [results,Tryz.results290,go_sem]) rfl hpost
 ·refine jz ?_;intro Hfirst;go_wp2_with fail;go_step3;rename_i hK;refine jB ?_;have hmd:=RowZ.made w 2 n jd;rw [<-HZ.o] at hmd;exact inJ.mk w.heap.size 0 (List.replicate n 0) a rfl ⟨Nat.zero_le _,ha0,ha1,by rw [Hn.o];exact hmd,by unfold intoL;rw [Hn.o];rfl,by(repeat (first|exact Keeps.refl _ _|exact Keeps.alloc _ _|exact Keeps.drew _|exact Keeps.drewN _ _|refine Keeps.Am ?_|refine Keeps.Al ?_|refine Keeps.Af ?_)),Nat.le_refl _⟩
open Go.RowKit Go.IntWalk
def eachW(T:Nat->Lf->Lf):Nat->List Lf->List Lf
 |_, []=> []
 |i,x::l=>if x.is=1 then T i x::eachW T (i+1) l else x::eachW T i l
def wets(l:List Lf):Nat:=(l.filter λx=>decide (x.is=1)).length
theorem Fu(T:Nat->Lf->Lf)(l:List Lf):∀i,(eachW T i l).length=l.length:=by
 induction l with
 |nil=>intro i;rfl
 |cons x l ih=>intro i;unfold eachW;split<;>simp [ih]
theorem Adi(T:Nat->Lf->Lf)(l:List Lf)(y:Lf):∀i,eachW T i (l++ [y])=eachW T i l++ [if y.is=1 then T (i+wets l) y else y]:=by
 induction l with
 |nil=>intro i;simp [eachW,wets];split<;>rfl
 |cons x l ih=>
  intro i;simp only [List.cons_append,eachW];by_cases hx:x.is=1
  ·rw [if_pos hx,if_pos hx,ih];simp [wets,hx,show i+1+(l.filter λx=>decide (x.is=1)).length=i+((l.filter λx=>decide (x.is=1)).length+1) by omega]
  ·rw [if_neg hx,if_neg hx,ih];simp [wets,hx]
theorem Xj(l:List Lf)(y:Lf):wets (l++ [y])=wets l+(if y.is=1 then 1 else 0):=by
 unfold wets;rw [List.filter_append,List.length_append];congr 1;simp [List.filter];split<;>simp_all
theorem wets_le(l:List Lf):wets l<=l.length:=List.length_filter_le _ _
def midW(T:Nat->Lf->Lf)(l:List Lf)(n:Nat):List Lf:=eachW T 0 (l.take n)++l.drop n
theorem Abg(T:Nat->Lf->Lf)(l:List Lf)(n:Nat):(midW T l n).length=l.length:=by
 unfold midW;rw [List.length_append,Fu,<-List.length_append,List.take_append_drop]
theorem Tj(T:Nat->Lf->Lf){l:List Lf}{n:Nat}{x:Lf}(hx:l[n]?=some x):(midW T l n)[n]?=some x:=by
 have hn:=(List.getElem?_eq_some_iff.1 hx).1;unfold midW;rw [List.getElem?_append_right (by rw [Fu,List.length_take];omega),Fu,List.length_take,List.getElem?_drop,Nat.min_eq_left (Nat.le_of_lt hn),Nat.sub_self,Nat.add_zero];exact hx
theorem Qw(T:Nat->Lf->Lf){l:List Lf}{n:Nat}{x:Lf}(hx:l[n]?=some x):midW T l (n+1)=(midW T l n).set n (if x.is=1 then T (wets (l.take n)) x else x):=by
 have hn:=(List.getElem?_eq_some_iff.1 hx).1;unfold midW;rw [take_snoc' hx,Adi,Nat.zero_add,List.set_append_right _ _ (by rw [Fu,List.length_take];omega),Fu,List.length_take,Nat.min_eq_left (Nat.le_of_lt hn),Nat.sub_self];obtain⟨h1,h2⟩:=List.getElem?_eq_some_iff.1 hx;rw [List.drop_eq_getElem_cons hn,h2,List.set_cons_zero,List.append_assoc];rfl
theorem midW_zero(T:Nat->Lf->Lf)(l:List Lf):midW T l 0=l:=by simp [midW,eachW]
theorem midW_all(T:Nat->Lf->Lf)(l:List Lf):midW T l l.length=eachW T 0 l:=by simp [midW]
def eaFr(P:Nat)(F:Value)(n i:Nat)(u:Nat->Value):Act:={ tmps:= #[(.pointer (some ⟨P,0,none⟩)),F,u 2,u 3,.int .i64 ((n:Nat):Int),.int .i64 ((i:Nat):Int),u 6,u 7,u 8,u 9,u 10,u 11,u 12,u 13,u 14,u 15,u 16,u 17,u 18,u 19,u 20,u 21,u 22,u 23,u 24,u 25,u 26,u 27,u 28,u 29,u 30,u 31,u 32,u 33,u 34],defers:= [] }
structure EaAt(P:Nat)(v:Value)(p:Pd)(T:Nat->Lf->Lf)(I:Nat->World->Prop)(S:Nat->Prop)(w:World)(n i:Nat)(W:World):Prop where
 nl:n<=p.l.length
 ie:i=wets (p.l.take n)
 pd:PadAt W P v { p with l:=midW T p.l n }
 inv:I i W
 kp:Keeps S w W
def eaJ(P:Nat)(v F:Value)(p:Pd)(T:Nat->Lf->Lf)(I:Nat->World->Prop)(S:Nat->Prop)(w:World)(a':Act)(W:World):Prop:=∃(n i:Nat) (u:Nat->Value),a'=eaFr P F n i u/\EaAt P v p T I S w n i W
theorem eaJ.mk{P:Nat}{v F:Value}{p:Pd}{T:Nat->Lf->Lf}{I:Nat->World->Prop}{S:Nat->Prop}{w:World}{a':Act}{W:World}(n i:Nat)(h:a'=eaFr P F n i (λi=>a'.tmps.getD i undef))(hi:EaAt P v p T I S w n i W):eaJ P v F p T I S w a' W:=⟨n,i,_,h,hi⟩
theorem Rq(P:Nat)(v:Value)(p:Pd)(fid:FuncId)(caps:Array Value)(T:Nat->Lf->Lf)(I:Nat->World->Prop)(S:Nat->Prop)(w:World)(hE:Enters Tryz.prog fid)
  (hcl:∀(g n:Nat) (x:Lf) (W:World),v.ownBlock=some g->p.l[n]?=some x->x.is=1->PadAt W P v { p with l:=midW T p.l n }->I (wets (p.l.take n)) W->Calls Tryz.prog fid (#[.int .i64 (wets (p.l.take n)),.pointer (some ⟨g,n*49,none⟩)]++caps) W λe W'=>
   e= .returned (.tuple #[])/\PadAt W' P v { p with l:=midW T p.l (n+1) }/\I (wets (p.l.take n)+1) W'/\Keeps S W W')
  (h:PadAt w P v p) (hI:I 0 w) (hIk:∀i W W',I i W->K0 W W'->I i W'):
  Calls Tryz.prog 83 #[(.pointer (some ⟨P,0,none⟩)),.func (.func fid) #[] caps] w λe w'=>e= .returned (.tuple #[])/\PadAt w' P v { p with l:=eachW T 0 p.l }/\I (wets p.l) w'/\Keeps S w w':=by
 obtain⟨m,hm⟩:=eX p.l.length;obtain⟨ad,cap,rfl,hcap⟩:=h.shape;have hm2:=h.n;rw [hm] at hm2 hcap;unfold Enters at hE;obtain⟨H,HI,Hcl,HIk,Hm⟩:=hid5 h hI hcl hIk hm;clear hm hIk hcl hI h;go_enter Tryz.func83,Tryz.ntmps83;go_wp2_with fail;refine Cx 0 (eaJ P (.slice ad p.l.length cap) (.func (.func fid) #[] caps) p T I S w) (λa' _=>m-Dz 4 a') rfl ?_ ?_
 ·rintro a' W ⟨n,i,u,rfl,hat⟩;unfold eaFr;have hn:=hat.nl;have hpd:=hat.pd;have hie:=hat.ie;have c0:W.cell? ⟨P,0,none⟩=some (.slice ad m cap):=by have:=Aa hpd.blk 0;rw [Hm.o] at this;exact this
  have lt:=lt_of_block hpd.blk;rw [Hm.o] at hn;by_cases hnm:n<m
  ·have hnI:(n:Int)<(m:Int):=j8;obtain⟨x,hx⟩:=Au (show n<p.l.length by rw [Hm.o];exact hnm)
   have hown:∃g,ad=some ⟨g,0,none⟩:=by
    rcases hpd.row.2 with⟨e,e2⟩|⟨g',cap',cur,hv,_⟩
    ·have:=(Value.slice.inj e).2.1;rw [Hm.o] at this;omega
    ·exact⟨g',(Value.slice.inj hv).1⟩
   obtain⟨g,rfl⟩:=hown;have hpd2:PadAt W P (.slice (some ⟨g,0,none⟩) ({ p with l:=midW T p.l n }:Pd).l.length cap) { p with l:=midW T p.l n }:=by simp only [Abg];exact hpd
   have cx:W.cell? ⟨g,n*49+0,none⟩=some (.int .i64 x.is):=PadAt.Md hpd2 (Tj T hx) 0 _ rfl;rw [Nat.add_zero] at cx;have lg:=Ag cx;obtain⟨xi,hxi⟩:=eX x.is;rw [hxi] at cx;by_cases h1:xi=1
   ·have h1b:(xi==1)=true:=by rw [h1];rfl
    have hc:=Hcl.o g n x W rfl hx (by rw [hxi];exact h1) hpd (by rw [<-hie];exact hat.inv);rw [<-hie] at hc;have hie1:i+1=wets (p.l.take (n+1)):=by rw [hie,take_snoc' hx,Xj,if_pos (by rw [hxi];exact h1)]
    have hkp:=hat.kp;have hin:i<=n:=by rw [hie];exact Nat.le_trans (wets_le _) (by rw [List.length_take];omega)
    clear hie;obtain⟨Hat,Hpd,Hpd2,Hx,Hxi,Hc,Hie1,Hkp⟩:=hid8 hat hpd hpd2 hx hxi hc hie1 hkp;clear hkp hie1 hc hxi hx hpd2 hpd hat;go_wp2_with fail
    go_at_fn fid
    refine Hc.o.mono ?_;rintro e w2 ⟨rfl,hp2,hi2,hk2⟩;have hstep:EaAt P (.slice (some ⟨g,0,none⟩) p.l.length cap) p T I S w (n+1) (i+1) w2:=⟨by rw [Hm.o];omega,Hie1.o,hp2,hi2,Hkp.o.trans (hk2.mono λ_ _ h=> .inl h)⟩;obtain⟨Hp2,Hi2,Hk2,Hstep⟩:=hid4 hp2 hi2 hk2 hstep;clear hstep hk2 hi2 hp2;go_wp2;go_step3;go_wp2;exact Aw ⟨eaJ.mk (n+1) (i+1) rfl Hstep.o,by simp [Dz];omega⟩
   ·have h1b:(xi==1)=false:=beq_eq_false_iff_ne.2 h1
    have hstep:EaAt P (.slice (some ⟨g,0,none⟩) p.l.length cap) p T I S w (n+1) i W:=by
     refine⟨by rw [Hm.o];omega, ?_, ?_,hat.inv,hat.kp⟩
     ·rw [hie,take_snoc' hx,Xj,if_neg (by rw [hxi];exact h1)];rfl
     ·rw [Qw T hx,if_neg (by rw [hxi];exact h1)]
      have:(midW T p.l n).set n x=midW T p.l n:=by
       have:=Tj T hx;obtain⟨q1,q2⟩:=List.getElem?_eq_some_iff.1 this;rw [<-q2];exact List.set_getElem_self q1
      rw [this];exact hpd
    clear hie;obtain⟨Hat,Hpd,Hpd2,Hx,Hxi,Hstep⟩:=hid6 hat hpd hpd2 hx hxi hstep;clear hstep hxi hx hpd2 hpd hat;go_wp2;go_step3;go_wp2;exact Aw ⟨eaJ.mk (n+1) i rfl Hstep.o,by simp [Dz];omega⟩
  ·obtain rfl:n=m:=by omega
   have hend:=hat.pd;have hin:=hat.inv;have hk:=hat.kp;rw [hie] at hin;rw [<-Hm.o,midW_all] at hend;rw [<-Hm.o,List.take_length] at hin;clear hie;obtain⟨Hat,Hpd,Hend,Hin,Hk⟩:=hid5 hat hpd hend hin hk;clear hk hin hend hpd hat;go_wp2;refine Gn ?_;go_end0;exact⟨rfl,Hend.o,Hin.o,Hk.o⟩
 ·refine jz ?_;intro Hfirst;go_wp2_with fail;go_step3;rename_i hK;refine jB ?_;exact eaJ.mk 0 0 rfl ⟨Nat.zero_le _,rfl,by rw [midW_zero];exact H.o,HI.o,Keeps.refl _ _⟩
def dryL(x:Lf):Lf:=if x.is=1 then⟨2,x.b⟩ else x
theorem eachW_dry(l:List Lf):∀i,eachW (λ_ x=>⟨2,x.b⟩) i l=l.map dryL:=by
 induction l with
 |nil=>intro i;rfl
 |cons x l ih=>intro i;unfold eachW;simp only [List.map_cons,dryL];split<;>simp [ih]
theorem PadAt.setIs{w:World}{P g cap k:Nat}{p:Pd}(h:PadAt w P (.slice (some ⟨g,0,none⟩) p.l.length cap) p){x:Lf}(hx:p.l[k]?=some x)(z:Int):
  PadAt (w.setCell ⟨g,k*49,none⟩ (.int .i64 z)) P (.slice (some ⟨g,0,none⟩) p.l.length cap) { p with l:=p.l.set k ⟨z,x.b⟩ }/\w.frozen? ⟨g,k*49,none⟩=false:=by
 have hk:=(List.getElem?_eq_some_iff.1 hx).1;obtain⟨cur,h1,h2,h3,h4⟩:=h.Yu hk ⟨z,x.b⟩
 have hw:w.setCell ⟨g,k*49,none⟩ (.int .i64 z)=w.setRow g (putAt cur.toList (k*49) (Lf.cells ⟨z,x.b⟩)).toArray:=by
  rw [setCell_eq_setRow w g (k*49) cur _ _ _ h1]
  congr 1
  apply Array.toList_inj.1
  rw [Array.toList_setIfInBounds,List.toList_toArray]
  have hcs:∀j u,(b48 x.b)[j]?=some u->cur.toList[k*49+1+j]?=some u:=λj u hj=>by
   have:=h.Md hx (1+j) u (by rw [Nat.add_comm];exact hj);rw [Aa h1] at this;rw [<-Nat.add_assoc] at this
   simpa using this
  rw [Lf.Aj] at h2
  apply List.ext_getElem?
  intro i;unfold putAt;rw [Lf.Aj];by_cases hi:i<k*49
  ·rw [List.getElem?_set_ne j6,List.append_assoc,List.getElem?_append_left ji,List.getElem?_take_of_lt hi]
  ·by_cases hi2:i=k*49
   ·subst hi2;rw [List.getElem?_set_self ji,List.append_assoc,List.getElem?_append_right ji,List.length_take,Nat.min_eq_left ji,Nat.sub_self];rfl
   ·rw [List.getElem?_set_ne j6];by_cases hi3:i<k*49+49
    ·obtain⟨j,rfl⟩:∃j,i=k*49+1+j:=⟨i-(k*49+1),by omega⟩;rw [List.append_assoc,List.getElem?_append_right ji,List.length_take,Nat.min_eq_left ji,show k*49+1+j-k*49=j+1 by omega,List.getElem?_append_left (by rw [Lf.Aj];omega)];show _=(b48 x.b)[j]?;obtain⟨u,hu⟩:∃u,(b48 x.b)[j]?=some u:=⟨_,List.getElem?_eq_getElem (by rw [Cs];omega)⟩;rw [hu,hcs j u hu]
    ·rw [List.getElem?_append_right (by simp [Lf.Aj];omega),List.length_append,List.length_take,Nat.min_eq_left ji,Lf.Aj,List.getElem?_drop]
     congr 1
     omega
 rw [hw];exact⟨h3,Ab h1 _⟩
theorem Abc(P:Nat)(v:Value)(p:Pd)(g n:Nat)(i:Int)(x:Lf)(w:World)(hv:v.ownBlock=some g)(hx:p.l[n]?=some x)(h:PadAt w P v p):
  Calls Tryz.prog 147 (#[.int .i64 i,.pointer (some ⟨g,n*49,none⟩)]++ #[]) w λe w'=>e= .returned (.tuple #[])/\PadAt w' P v { p with l:=p.l.set n ⟨2,x.b⟩ }/\Keeps (λk=>k=g) w w':=by
 obtain⟨ad,cap,rfl,_⟩:=h.shape
 have hown:ad=some ⟨g,0,none⟩:=by
  exact j2r
 subst hown;obtain⟨hset,f0⟩:=h.setIs hx 2;have c0:w.cell? ⟨g,n*49+0,none⟩=some (.int .i64 x.is):=h.Md hx 0 _ rfl;rw [Nat.add_zero] at c0;have lt:=Ag c0;have hk:Keeps (λk=>k=g) w (w.setCell ⟨g,n*49,none⟩ (.int .i64 2)):=Keeps.setCell _ _ _ rfl;show Calls Tryz.prog 147 #[.int .i64 i,.pointer (some ⟨g,n*49,none⟩)] w _;obtain⟨H,Hset,Hk,Hx⟩:=hid4 h hset hk hx;clear hx hk hset h;go_enter Tryz.func147,Tryz.ntmps147;go_wp2;go_end0;exact⟨rfl,Hset.o,Hk.o⟩
theorem Pg(P:Nat)(v:Value)(p:Pd)(w:World)(h:PadAt w P v p)(hf:p.fl+1<=1000000)(hd:p.dn=false)(hs:¬p.sn=1):
  Calls Tryz.prog 102 #[(.pointer (some ⟨P,0,none⟩))] w λe w'=>e= .returned (.int .i64 0)/\Tt P v { Cm p with l:=p.l.map dryL } w w':=by
 have hr0:Uj p=0:=by unfold Uj;rw [hd];rfl
 have hr:=Py P v p w h;rw [hr0] at hr;have hst:=Nn P v p w h hf;rw [decide_eq_false hs] at hst;have hl:(Cm p).l=p.l:=by unfold Cm sinkR;split<;>rfl
 have he:=fun(w1:World) (h1:PadAt w1 P v (Cm p))=>Rq P v (Cm p) 147 #[] (λ_ x=>⟨2,x.b⟩) (λ_ _=>True) (λk=>v.ownBlock=some k) w1 (enters_of Tryz.func147 j9 rfl)
  (λg n x W hv hx hx1 hp _=>by
   have:=Abc P v _ g n (wets ((Cm p).l.take n)) x W hv (Tj (λ_ x=>⟨2,x.b⟩) hx) hp;refine this.mono ?_;rintro e W' ⟨rfl,h2,h3⟩;refine⟨rfl, ?_,trivial,h3.mono λk _ e=>by rw [e];exact hv⟩
   rw [Qw _ hx,if_pos hx1];exact h2) h1 trivial (λ_ _ _ _ _=>trivial)
 simp only [eachW_dry,hl] at he;obtain⟨H,Hr,Hst,He⟩:=hid4 h hr hst he;clear he hst hr h;go_enter Tryz.func102,Tryz.ntmps102
 go_wp2_with (first|(go_at_call 145;(with_reducible refine Hr.o.mono ?_);rintro e w1 ⟨rfl,hw1⟩;subst w1)|(go_at_call 146;(with_reducible refine Hst.o.mono ?_);rintro e w2 ⟨rfl,hp2,hk2⟩;have Hp2:=Lib.hid hp2;have Hk2:=Lib.hid hk2;clear hp2 hk2)|(go_at_call 83;(with_reducible refine(He.o _ Hp2.o).mono ?_);rintro e w3 ⟨rfl,hp3,_,hk3⟩;have Hp3:=Lib.hid hp3;have Hk3:=Lib.hid hk3;clear hp3 hk3))
 go_ret;exact⟨rfl,Hp3.o,(Hk2.o.mono λk _ e=> .inl e).trans (Hk3.o.mono λk _ e=> .inl (.inr e))⟩
theorem Ada:(Tryz.prog.info? 149).map (λi=>(i.zero,i.size,i.bytes))=some (some (.agg (Lf.cells lf0).toArray),49,56):=by kernel_rfl
theorem made_flat{α:Type}{f:α->List Value}(x:α)(n:Nat)(hs:0<(f x).length):(madeCells (f x).toArray (n*(f x).length)).toList=(List.replicate n x).flatMap f:=by
 obtain⟨s,hs'⟩:=eX ((f x).length)
 have hl:((List.replicate n x).flatMap f).length=n*s:=by
  induction n with
  |zero=>simp
  |succ n ih=>rw [List.replicate_succ,List.flatMap_cons,List.length_append,ih,hs',Nat.succ_mul];omega
 rw [hs'] at hs⊢
 apply List.ext_getElem?
 intro i;by_cases hi:i<n*s
 ·have h1:((List.replicate n x).flatMap f)[i]?=(f x)[i % s]?:=by
   clear hl
   induction n generalizing i with
   |zero=>simp at hi
   |succ n ih=>
    rw [List.replicate_succ,List.flatMap_cons];by_cases hi2:i<s
    ·rw [List.getElem?_append_left (by rw [hs'];exact hi2),Nat.mod_eq_of_lt hi2]
    ·rw [List.getElem?_append_right (by rw [hs'];omega),hs',ih _ (by rw [Nat.succ_mul] at hi;omega)];rw [Nat.mod_eq_sub_mod (show i>=s by omega)]
  have hm:i % s<(f x).length:=by rw [hs'];exact Nat.mod_lt _ hs
  rw [h1,List.getElem?_eq_getElem hm];simp [madeCells,hi,hs',List.getElem?_eq_getElem hm]
 ·rw [List.getElem?_eq_none (by simp [madeCells];omega),List.getElem?_eq_none j6]
theorem Ru(n:Nat)(w:World)(h0:0<n)(h1:n<20000):Calls Tryz.prog 19 #[.int .i64 n] w λe w'=>∃g,e= .returned (.pointer (some ⟨w.heap.size+1,0,none⟩))/\PadAt w' (w.heap.size+1) (.slice (some ⟨g,0,none⟩) n n) ⟨List.replicate n lf0,0,0,false⟩/\K0 w w'/\g=w.heap.size:=by
 obtain⟨i0,hi,hi0,hi1,hi2⟩:=info_parts Ada;have hmk:=fun(W:World)=>run_makeSlice (P:=Tryz.prog) W 104 149 i0 (.agg (Lf.cells lf0).toArray) Tryz.underlying104 hi hi0 .i64 .i64 (n:Int) (n:Int) j6 j6 (by rw [hi1];omega) (by rw [hi2];omega) j6;simp only [Int.toNat_natCast,hi1] at hmk;have hmf:=made_flat (f:=Lf.cells) lf0 n (by rw [Lf.Aj];decide);rw [Lf.Aj] at hmf;obtain⟨Z,hZ⟩:=eY (madeCells (Value.agg (Lf.cells lf0).toArray).cells (n*49));rw [<-hZ] at hmk;have hZl:Z.toList=(List.replicate n lf0).flatMap Lf.cells:=by rw [hZ];exact hmf
 have l0:(0:Int)<(n:Int):=j8;have l1:(n:Int)<20000:=j8;obtain⟨Hmf,HZ,HZl,Hi,Hi0,Hi1,Hi2⟩:=hid7 hmf hZ hZl hi hi0 hi1 hi2;clear hi2 hi1 hi0 hi hZl hZ hmf;go_enter Tryz.func19,Tryz.ntmps19;go_wp2;go_ret;have hll:=Df Lf.Aj (List.replicate n lf0)
 have hb1:((w.alloc (.cells Z 149)).alloc (.cells #[.slice (some ⟨w.heap.size,0,none⟩) n n,.int .i64 0,.int .i64 0,.bool false] 106)).heap[w.heap.size+1]?=some (.cells #[.slice (some ⟨w.heap.size,0,none⟩) n n,.int .i64 0,.int .i64 0,.bool false] 106 (0,0)):=by
  have:=heap_alloc_new (w.alloc (.cells Z 149)) (.cells #[.slice (some ⟨w.heap.size,0,none⟩) n n,.int .i64 0,.int .i64 0,.bool false] 106)
  simpa using this
 have hk1:K0 (w.alloc (.cells Z 149)) ((w.alloc (.cells Z 149)).alloc (.cells #[.slice (some ⟨w.heap.size,0,none⟩) n n,.int .i64 0,.int .i64 0,.bool false] 106)):=Keeps.alloc _ _;refine⟨w.heap.size,rfl,⟨hb1, ?_,by simp;omega,by simp,by simp⟩,Keeps.nt (Keeps.alloc _ _) (Keeps.alloc _ _),rfl⟩;simp only [List.length_replicate];refine hk1.row ⟨by rw [hll,List.length_replicate],.inr ⟨_,n,Z,rfl,Nat.zero_le _,heap_alloc_new w _,Nat.le_refl _,by unfold maxLen;omega, ?_, ?_⟩⟩ (by simp)
 ·rw [<-Array.length_toList,HZl.o,hll,List.length_replicate]
 ·rw [HZl.o,List.take_of_length_le (by rw [hll,List.length_replicate];exact Nat.le_refl _)]
theorem Ab9(P:Nat)(v:Value)(p:Pd)(n:Int)(w:World)(h:PadAt w P v p)(h0:0<n)(h1:n<=1000000):Calls Tryz.prog 40 #[(.pointer (some ⟨P,0,none⟩)),.int .i64 n] w λe w'=>e= .returned (.tuple #[])/\Gr P v { p with sn:=n } w w':=by
 have f1:=Ab h.blk 1;have c1:w.cell? ⟨P,1,none⟩=some (.int .i64 p.sn):=Aa h.blk 1;have lt:=lt_of_block h.blk;have hn0:¬n=0:=j8
 have hend:Gr P v { p with sn:=n } w (w.setCell ⟨P,1,none⟩ (.int .i64 n)):=
  have hk:Keeps (λk=>k=P) w (w.setCell ⟨P,1,none⟩ (.int .i64 n)):=Keeps.setCell _ _ _ rfl
  ⟨h.put (q:={ p with sn:=n }) rfl (by simp only;omega) h.fl0 hk (heap_setCell_same _ _ 1 _ _ _ h.blk),hk⟩
 obtain⟨H,Hend⟩:=hid2 h hend;clear hend h;go_enter Tryz.func40,Tryz.ntmps40;go_wp2;go_end0;exact⟨rfl,Hend.o⟩
def adlW:List Int->Int->Int->Int×Int
 | [],lo,hi=>(lo,hi)
 |b::l,lo,hi=>adlW l ((lo+b) % 65521) ((hi+(lo+b) % 65521) % 65521)
theorem adlW_snoc(L:List Int)(b:Int):∀lo hi,adlW (L++ [b]) lo hi=(((adlW L lo hi).1+b) % 65521,((adlW L lo hi).2+((adlW L lo hi).1+b) % 65521) % 65521):=by
 induction L with
 |nil=>intro lo hi;simp [adlW]
 |cons x l ih=>intro lo hi;simp only [List.cons_append,adlW];exact ih _ _
theorem adlW_bd{L:List Int}(hL:∀z∈L,0<=z/\z<=255):∀lo hi,0<=lo/\lo<65521->0<=hi/\hi<65521->(0<=(adlW L lo hi).1/\(adlW L lo hi).1<65521)/\0<=(adlW L lo hi).2/\(adlW L lo hi).2<65521:=by
 induction L with
 |nil=>intro lo hi h1 h2;exact⟨h1,h2⟩
 |cons x l ih=>
  intro lo hi h1 h2;have hx:=hL x (by simp);exact ih (λz hz=>hL z (by simp [hz])) _ _ j6 j6
def adFr(v:Value)(lo hi:Int)(k:Nat)(u:Nat->Value):Act:={ tmps:= #[u 0,v,u 2,u 3,u 4,.int .u32 lo,.int .u32 hi,.int .i64 ((k:Nat):Int),u 8,u 9,u 10,u 11,u 12,u 13,u 14,u 15,u 16,u 17,u 18,u 19,u 20,u 21,u 22,u 23,u 24,u 25,u 26,u 27,u 28,u 29,u 30,u 31,u 32,u 33,u 34,u 35],defers:= [] }
def adJ(L:List Int)(v:Value)(w:World)(a':Act)(W:World):Prop:=∃(k:Nat) (lo hi:Int) (u:Nat->Value),a'=adFr v lo hi k u/\(k<=L.length/\adlW (L.take k) 1 0=(lo,hi))/\W=w
theorem adJ.mk{L:List Int}{v:Value}{w:World}{a':Act}{W:World}(k:Nat)(lo hi:Int)(h:a'=adFr v lo hi k (λi=>a'.tmps.getD i undef))(hi:k<=L.length/\adlW (L.take k) 1 0=(lo,hi))(hW:W=w):adJ L v w a' W:=⟨k,lo,_,_,h,hi,hW⟩
def sumR(L:List Int):Int:=bits .or .u32 ((adlW L 1 0).2*65536) (adlW L 1 0).1
theorem Ach(ad:Option Addr)(cap:Nat)(L:List Int)(w:World)(hr:Reads w 1 (.slice ad L.length cap) L.length (L.flatMap u8c))(hL:∀z∈L,0<=z/\z<=255)(hn:L.length<=1000000):
  Calls Tryz.prog 222 #[.int .u32 1,.slice ad L.length cap] w λe w'=>e= .returned (.int .u32 (sumR L))/\w'=w:=by
 obtain⟨n,hnn⟩:=eX L.length;rw [hnn] at hr hn⊢;obtain⟨Hr,Hnn⟩:=hid2 hr hnn;clear hnn hr;go_enter Tryz.func222,Tryz.ntmps222;go_wp2_with fail;refine Cx 0 (adJ L (.slice ad n cap) w) (λa' _=>n-Dz 7 a') rfl ?_ ?_
 ·rintro a' W ⟨k,lo,hi,u,rfl,⟨hk,hs⟩,rfl⟩;unfold adFr;rw [Hnn.o] at hk;have hbd:=adlW_bd (L:=L.take k) (λz hz=>hL z (List.mem_of_mem_take hz)) 1 0 j6 j6;rw [hs] at hbd;obtain⟨⟨b1,b2⟩,b3,b4⟩:=hbd;by_cases hkn:k<n
  ·have hknI:(k:Int)<(n:Int):=j8;obtain⟨x,hx⟩:=Au (show k<L.length by rw [Hnn.o];omega);obtain⟨x1,x2⟩:=hL x (List.mem_of_getElem? hx);have hsn:=adlW_snoc (L.take k) x 1 0;rw [<-take_snoc' hx,hs] at hsn;have q1:IntKind.u32.wrap (lo+x)=lo+x:=u32_in _ ⟨by omega,by omega⟩;obtain⟨lo2,hlo2⟩:=eX ((lo+x) % 65521);simp only [hlo2] at hsn;have b5:0<=lo2:=j8;have b6:lo2<65521:=j8;have q2:IntKind.u32.wrap (hi+lo2)=hi+lo2:=u32_in _ ⟨by omega,by omega⟩;have q3:IntKind.u32.wrap x=x:=u32_in _ ⟨by omega,by omega⟩;obtain⟨g,o,rfl,x0⟩:=Reads.int (k:= .u8) Hr.o hx;have lg:=Ag x0;obtain⟨Hx,Hs,Hsn⟩:=hid3 hx hs hsn;clear hsn hs hx;go_wp2;go_step3;go_wp2;exact Aw ⟨adJ.mk (k+1) lo2 ((hi+lo2) % 65521) rfl ⟨by rw [Hnn.o];omega,Hsn.o⟩ rfl,by simp [Dz];omega⟩
  ·obtain rfl:k=n:=by omega
   have hsum:sumR L=bits .or .u32 (hi*65536) lo:=by
    rw [List.take_of_length_le (by rw [Hnn.o];exact Nat.le_refl _)] at hs;unfold sumR;rw [hs]
   have q4:IntKind.u32.wrap (hi*65536)=hi*65536:=u32_in _ ⟨by omega,by omega⟩;obtain⟨Hs,Hsum⟩:=hid2 hs hsum;clear hsum hs;go_wp2;refine Bq ?_;exact bodyPost_ret (v:= .int .u32 (bits .or .u32 (hi*65536) lo)) (by simp [results,Tryz.results222,go_sem]) rfl ⟨by rw [Hsum.o],rfl⟩
 ·refine jz ?_;intro Hfirst;go_wp2_with fail;go_step3;rename_i hK;refine jB ?_;exact adJ.mk 0 1 0 rfl ⟨Nat.zero_le _,rfl⟩ rfl
theorem Adx(ad:Option Addr)(cap:Nat)(L:List Int)(w:World)(hr:Reads w 1 (.slice ad L.length cap) L.length (L.flatMap u8c))(hL:∀z∈L,0<=z/\z<=255)(hn:L.length<=1000000):
  Calls Tryz.prog 185 #[.slice ad L.length cap] w λe w'=>e= .returned (.int .u32 (sumR L))/\w'=w:=by
 have hc:=λW (hW:W=w)=>Ach ad cap L W (by rw [hW];exact hr) hL hn;obtain⟨Hr,Hc⟩:=hid2 hr hc;clear hc hr;go_enter Tryz.func185,Tryz.ntmps185
 go_wp2_with (go_at_call 222;(with_reducible refine(Hc.o _ rfl).mono ?_);rintro e w1 ⟨rfl,rfl⟩)
 go_ret;exact⟨rfl,rfl⟩
end Go.Proofs.YtgbgmadkmabeeaaGreat
