/- Part 2 of what the laws of this seat share: walks of functions, and plain laws. -/
import Derived.Test.YtgbgmadkmabeeaaGreatB1
set_option maxRecDepth 100000
set_option maxHeartbeats 3200000
namespace Go.Proofs.YtgbgmadkmabeeaaGreat
open Go.RowKit
section
theorem haltD{p:Prop}(h:Hid p):p:=h.out
theorem Gm:(Tryz.prog.info? 2).map (λi=>(i.zero,i.size,i.bytes))=some (some (.int .i64 0),1,8):=by kernel_rfl
def badM(v:Int):Bool:= !Br v
theorem Yi(v:Int)(w:World):Calls Tryz.prog 300 #[.int .i64 v] w λe w'=>e= .returned (.bool (badM v))/\w=w':=by
 by_cases h1:v<0
 ·have hf:badM v=true:=by simp [badM,Br,h1]
  exact j15
 ·by_cases h2:1000000000000000<v
  ·have hf:badM v=true:=by simp [badM,Br];omega
   exact j15
  ·have hf:badM v=false:=by simp [badM,Br];omega
   exact j15
theorem Gi{q:Int->Bool}{L:List Int}{k:Nat}{x:Int}(h:L[k]?=some x):(L.take (k+1)).any q=((L.take k).any q||q x):=by rw [take_snoc' h,List.any_append];simp
theorem Kq{q:Int->Bool}{L:List Int}{k:Nat}{x:Int}(h:L[k]?=some x)(hx:q x=true):L.any q=true:=List.any_eq_true.2 ⟨x,List.mem_of_getElem? h,hx⟩
theorem indexFall(ad:Option Addr)(cap:Nat)(L:List Int)(w:World)(hr:Reads w 1 (.slice ad L.length cap) L.length (L.flatMap i64c))(hl:L.length<=1000):
  Calls Tryz.prog 287 #[.slice ad L.length cap,.func (.func 300) #[] #[]] w λe w'=>∃r:Int,e= .returned (.int .i64 r)/\decide (0<=r)=L.any badM/\w=w':=by
 have Hr:=Lib.hid hr;clear hr;go_enter Tryz.func287,Tryz.ntmps287;go_wp2_with fail
 go_loop [8] (λc=>∃j:Nat,j<=L.length/\c= .int .i64 (j:Nat)/\(L.take j).any badM=false) (λc=>L.length-(intOf c).toNat)
 case atStart=>exact⟨0,Nat.zero_le _,rfl,rfl⟩
 case round=>
  obtain⟨j,hj,rfl,hok⟩:=hrel;by_cases hjl:j<L.length
  ·obtain⟨x,hx⟩:=Aq hjl;obtain⟨g,o,rfl,x0⟩:=Hr.out.int hx;have hsn:=Gi (q:=badM) hx;rw [hok] at hsn;have hcl:=λW=>Yi x W;rcases m1:badM x with _|_
   ·have hok':(L.take (j+1)).any badM=false:=by rw [hsn,m1];rfl
    rw [m1] at hcl;obtain⟨Hsn,Hx,Hok,Hok',Hcl⟩:=hid5 hsn hx hok hok' hcl;clear hcl hok' hok hx hsn
    go_wp2_with (go_at_call 300;((with_reducible refine(Hcl.out _).mono ?_);rintro e w1 ⟨rfl,rfl⟩))
    exact j0d
   ·have hf:=Kq (q:=badM) hx m1;have hj0:decide ((0:Int)<=(j:Int))=true:=by simp
    rw [m1] at hcl;obtain⟨Hf,Hsn,Hx,Hj0,Hcl⟩:=hid5 hf hsn hx hj0 hcl;clear hcl hj0 hx hsn hf
    go_wp2_with (go_at_call 300;((with_reducible refine(Hcl.out _).mono ?_);rintro e w1 ⟨rfl,rfl⟩))
    exact j0y
  ·exact j0e
theorem Yt(ad:Option Addr)(cap:Nat)(L:List Int)(w:World)(hr:Reads w 1 (.slice ad L.length cap) L.length (L.flatMap i64c))(hl:L.length<=1000):
  Calls Tryz.prog 267 #[.slice ad L.length cap,.func (.func 300) #[] #[]] w λe w'=>e= .returned (.bool (L.any badM))/\w=w':=by
 have Hr:=Lib.hid hr;clear hr;go_enter Tryz.func267,Tryz.ntmps267
 go_wp2_with (go_at_call 287;refine(indexFall _ _ L _ Hr.out hl).mono ?_;rintro e w1 ⟨r,rfl,hd,rfl⟩;have Hd:=Lib.hid hd;clear hd)
 exact j0f
theorem Ab5(ad:Option Addr)(cap:Nat)(L:List Int)(w:World)(hr:Reads w 1 (.slice ad L.length cap) L.length (L.flatMap i64c))(hl:L.length<=1000):
  Calls Tryz.prog 289 #[.slice ad L.length cap] w λe w'=>e= .returned (.bool (L.all Br))/\w=w':=by
 have hc:=Yt ad cap L w hr hl;have he:L.any badM= !(L.all Br):=by rw [List.all_eq_not_any_not];simp only [Bool.not_not];rfl
 rw [he] at hc;obtain⟨Hr,Hc⟩:=hid2 hr hc;clear hc hr;go_enter Tryz.func289,Tryz.ntmps289;go_wp2_with fail;refine Hc.out.mono ?_;rintro e w1 ⟨rfl,rfl⟩;go_wp2;go_ret;exact⟨by simp,rfl⟩
def RowZ(W:World)(e:TypeId)(g n cap:Nat)(O:List Int):Prop:=W.ownsRow 0 e 1 (.slice (some ⟨g,0,none⟩) n cap) n (O.flatMap i64c)/\O.length=n
theorem RowZ.cell{W:World}{e:TypeId}{g n cap:Nat}{O:List Int}(h:RowZ W e g n cap O){k:Nat}{x:Int}(hx:O[k]?=some x):W.cell? ⟨g,k,none⟩=some (.int .i64 x):=by
 obtain⟨h,rfl⟩:=h;have:=Cc Dk h hx 0 j7;exact j0c
theorem RowZ.free{W:World}{e:TypeId}{g n cap:Nat}{O:List Int}(h:RowZ W e g n cap O)(j:Nat):W.frozen? ⟨g,j,none⟩=false:=by
 exact j13
theorem RowZ.set{W:World}{e:TypeId}{g n cap:Nat}{O:List Int}(h:RowZ W e g n cap O){k:Nat}(hk:k<n)(x:Int):RowZ (W.setCell ⟨g,k,none⟩ (.int .i64 x)) e g n cap (O.set k x):=by
 exact j2c
theorem RowZ.keep{W W':World}{e:TypeId}{g n cap:Nat}{O:List Int}(h:RowZ W e g n cap O)(hk:Keeps (λ_=>False) W W'):RowZ W' e g n cap O:=⟨h.1.of_keeps hk,h.2⟩
theorem RowZ.lt{W:World}{e:TypeId}{g n cap:Nat}{O:List Int}(h:RowZ W e g n cap O):g<W.heap.size:=Cj h.1 rfl
theorem RowZ.reads{W:World}{e:TypeId}{g n cap:Nat}{O:List Int}(h:RowZ W e g n cap O):Reads W 1 (.slice (some ⟨g,0,none⟩) n cap) n (O.flatMap i64c):=Reads.Az h.1
theorem made_ints(n:Nat):(madeCells (Value.int .i64 0).cells n).toList=(List.replicate n (0:Int)).flatMap i64c:=by
 have hL:((List.replicate n (0:Int)).flatMap i64c).length=n:=by rw [Cm Dk];simp
 have hM:(madeCells (Value.int .i64 0).cells n).toList.length=n:=by simp [madeCells]
 apply List.ext_getElem?
 intro i;by_cases h:i<n
 ·have h2:((List.replicate n (0:Int)).flatMap i64c)[i]?=some (.int .i64 0):=by
   have:=flat_get Dk (L:=List.replicate n (0:Int)) (k:=i) (j:=0) (x:=0) (by simp [h]) j7;exact j0c
  exact j0Z
 ·exact j10
theorem RowZ.made(w:World)(e:TypeId)(n:Nat)(hn:n<=maxLen):RowZ (w.alloc (.cells (madeCells (Value.int .i64 0).cells n) e)) e w.heap.size n n (List.replicate n 0):=by
 have hL:((List.replicate n (0:Int)).flatMap i64c).length=n*1:=by rw [Cm Dk];simp
 refine⟨⟨hL,.inr ⟨_,_,_,rfl,Nat.zero_le _,heap_alloc_new w _,Nat.le_refl _,hn,by simp [madeCells], ?_⟩⟩,by simp⟩;rw [made_ints,List.take_of_length_le (by rw [hL];exact Nat.le_refl _)]
def inFr(vB vO:Value)(a:Int)(g n j:Nat)(u:Nat->Value):Act:={ tmps:= #[vB,vO,.int .i64 a,u 3,u 4,u 5,u 6,u 7,.slice (some ⟨g,0,none⟩) n n,.int .i64 ((j:Nat):Int),u 10,u 11,u 12,u 13,u 14,u 15,u 16,u 17,u 18,u 19,u 20,u 21,u 22,u 23,u 24,u 25,u 26,u 27,u 28,u 29,u 30,u 31,u 32,u 33,u 34,u 35,u 36,u 37,u 38,u 39,u 40,u 41],defers:= [] }
structure InAt(B O:List Int)(a00:Int)(w:World)(g j:Nat)(out:List Int)(a:Int)(W:World):Prop where
 jl:j<=O.length
 a0:0<=a
 a1:a<=1000000000000000
 row:RowZ W 2 g B.length B.length out
 eq:intoL B O a00=intoS B (O.drop j) (out,a)
 kp:Keeps (λ_=>False) w W
 gg:w.heap.size<=g
def inJ(B O:List Int)(a0:Int)(w:World)(vB vO:Value)(n:Nat)(a':Act)(W:World):Prop:=∃(g j:Nat) (out:List Int) (a:Int) (u:Nat->Value),a'=inFr vB vO a g n j u/\InAt B O a0 w g j out a W
theorem inJ.mk{B O:List Int}{a0:Int}{w:World}{vB vO:Value}{n:Nat}{a':Act}{W:World}(g j:Nat)(out:List Int)(a:Int)(h:a'=inFr vB vO a g n j (λi=>a'.tmps.getD i undef))(hi:InAt B O a0 w g j out a W):inJ B O a0 w vB vO n a' W:=⟨g,j,out,a,_,h,hi⟩
def Py(r:List Int×Int)(w:World)(e:Ending)(w':World):Prop:=∃g,e= .returned (.tuple #[.slice (some ⟨g,0,none⟩) r.1.length r.1.length,.int .i64 r.2])/\RowZ w' 2 g r.1.length r.1.length r.1/\Keeps (λ_=>False) w w'/\w.heap.size<=g
theorem Nj(B O:List Int)(a:Int)(adB adO:Option Addr)(cB cO:Nat)(w:World)(hB:Reads w 1 (.slice adB B.length cB) B.length (B.flatMap i64c))(hO:Reads w 1 (.slice adO O.length cO) O.length (O.flatMap i64c))(hm:∀x∈B,0<=x/\x<=1000000000000000)(ha:0<=a/\a<=1000000000000000)
  (hok:∀k∈O,1<=k/\k<=B.length) (hl:B.length<=1000) (hl2:O.length<=1000):Calls Tryz.prog 290 #[.slice adB B.length cB,.slice adO O.length cO,.int .i64 a] w (Py (intoL B O a) w):=by
 obtain⟨i0,hi,hi0,hi1,hi2⟩:=info_parts Gm;have hrl:=Dg B O a;obtain⟨n,hn⟩:∃n,B.length=n:=⟨_,rfl⟩;obtain⟨m,hmO⟩:∃m,O.length=m:=⟨_,rfl⟩;obtain⟨r,hr⟩:∃r,intoL B O a=r:=⟨_,rfl⟩;rw [hn] at hB hok hl hrl⊢;rw [hmO] at hO hl2⊢;rw [hr] at hrl⊢;refine j16 ?_;intro hmk;simp only [Int.toNat_natCast,hi1,Nat.mul_one] at hmk;obtain⟨Z,hZ⟩:∃Z,Z=madeCells (Value.int .i64 0).cells n:=⟨_,rfl⟩;rw [<-hZ] at hmk;obtain⟨ha0,ha1⟩:=ha;obtain⟨HB,HO,Hm,Hok,Hn,HmO,Hr,Hrl,Hi⟩:=hid9 hB hO hm hok hn hmO hr hrl hi;clear hi hrl hr hmO hn hok hm hO hB;obtain⟨Hi0,Hi1,Hi2,HZ⟩:=hid4 hi0 hi1 hi2 hZ;clear hZ hi2 hi1 hi0;go_enter Tryz.func290,Tryz.ntmps290;go_wp2_with fail;refine De 0 (inJ B O a w (.slice adB n cB) (.slice adO m cO) n) (λa' _=>m-Dz 9 a') rfl ?_ ?_
 ·rintro a' W ⟨g,j,out,b,u,rfl,hat⟩;unfold inFr;have hjl:=hat.jl;have hb0:=hat.a0;have hb1:=hat.a1;have hrow:=hat.row;rw [Hn.out] at hrow;rw [HmO.out] at hjl;by_cases hlt:j<m
  ·have hltI:(j:Int)<(m:Int):=j8;obtain⟨k,hk⟩:=Aq (L:=O) (k:=j) (by rw [HmO.out];exact hlt);obtain⟨k1,k2⟩:=Hok.out k (List.mem_of_getElem? hk);obtain⟨i,hi⟩:∃i:Nat,(i:Int)=k-1:=⟨(k-1).toNat,by omega⟩;obtain⟨x,hx⟩:=Aq (L:=B) (k:=i) jE;obtain⟨x1,x2⟩:=Hm.out x (List.mem_of_getElem? hx);obtain⟨gO,oO,he,hcO⟩:=(HO.out.keeps hat.kp (by simp)).int (k:= .i64) hk;subst he;obtain⟨gB,oB,he,hcB⟩:=(HB.out.keeps hat.kp (by simp)).int (k:= .i64) hx;subst he;obtain⟨y,hy⟩:=Aq (L:=out) (k:=i) (by rw [hrow.2];omega);have cy:=hrow.cell hy;have fy:=hrow.free i;have lO:=Ah hcO;have lB:=Ah hcB;have lg:=hrow.lt;have q1:(0:Int)<=k-1:=j8;have q2:k-1<(n:Int):=j8;have q3:(k-1).toNat=i:=j8;have q4:IntKind.i64.wrap (k-1)=k-1:=IntWalk.i64_in _ ⟨by omega,by omega⟩
   have hstep:intoS B (O.drop j) (out,b)=intoS B (O.drop (j+1)) (out.set i (minI b x),b-minI b x):=by
    obtain⟨h1,h2⟩:=List.getElem?_eq_some_iff.1 hk;rw [List.drop_eq_getElem_cons h1,h2];show intoS B (O.drop (j+1)) _=_;rw [q3,List.getD_eq_getElem?_getD,hx];rfl
   have hat2:∀v:Int,minI b x=v->0<=v->v<=b->InAt B O a w g (j+1) (out.set i v) (b-v) (W.setCell ⟨g,i,none⟩ (.int .i64 v)):=λv hv h0 h1=>
    ⟨by rw [HmO.out];omega,by omega,by omega,by rw [Hn.out];exact hrow.set j6 v,by rw [hat.eq,hstep,hv],hat.kp.trans (Keeps.setCell _ _ _ (.inr hat.gg)),hat.gg⟩
   by_cases hmin:b<=x
   ·have h2:=hat2 b (by unfold minI;rw [if_pos hmin]) j6 j6;rw [Int.sub_self] at h2;clear hat2;obtain⟨Hat,Hrow,Hk,Hx,Hy,Hstep,Hi,H2⟩:=hid8 hat hrow hk hx hy hstep hi h2;clear h2 hi hstep hy hx hk hrow hat;go_wp2;go_step3;go_wp2;exact Au ⟨inJ.mk g (j+1) (out.set i b) 0 rfl H2.out,by simp [Dz];omega⟩
   ·have h2:=hat2 x (by unfold minI;rw [if_neg hmin]) j6 j6;clear hat2;obtain⟨Hat,Hrow,Hk,Hx,Hy,Hstep,Hi,H2⟩:=hid8 hat hrow hk hx hy hstep hi h2;clear h2 hi hstep hy hx hk hrow hat;go_wp2;go_step3;go_wp2;exact Au ⟨inJ.mk g (j+1) (out.set i x) (b-x) rfl H2.out,by simp [Dz];omega⟩
  ·obtain rfl:j=m:=by omega
   have he:=hat.eq;rw [Hr.out,List.drop_eq_nil_of_le (by rw [HmO.out];exact Nat.le_refl _)] at he;have he2:r=(out,b):=he;subst he2;have hkp:=hat.kp;have hgg:=hat.gg;obtain⟨Hat,He,Hrow,Hkp,Hgg⟩:=hid5 hat he hrow hkp hgg;clear hgg hkp hrow he hat;go_wp2;refine Bq ?_;have hpost:Py (out,b) w (.returned (.tuple #[.slice (some ⟨g,0,none⟩) n n,.int .i64 b])) W:=⟨g,by simp only;rw [Hrl.out],by simp only;rw [Hrl.out];exact Hrow.out,Hkp.out,Hgg.out⟩;exact bodyPost_ret (v:= .tuple #[.slice (some ⟨g,0,none⟩) n n,.int .i64 b]) (by simp [results,Tryz.results290,go_sem]) rfl hpost
 ·refine jy ?_;intro Hfirst;go_wp2_with fail;go_step3;rename_i hK;refine jz ?_;have hmd:=RowZ.made w 2 n jd;rw [<-HZ.out] at hmd;exact inJ.mk w.heap.size 0 (List.replicate n 0) a rfl ⟨Nat.zero_le _,ha0,ha1,by rw [Hn.out];exact hmd,by unfold intoL;rw [Hn.out];rfl,by(repeat (first|exact Keeps.refl _ _|exact Keeps.alloc _ _|exact Keeps.drew _|exact Keeps.drewN _ _|refine Keeps.Am ?_|refine Keeps.Ak ?_|refine Keeps.Af ?_)),Nat.le_refl _⟩
open Go.RowKit Go.IntWalk
def eachW(T:Nat->Lf->Lf):Nat->List Lf->List Lf
 |_, []=> []
 |i,x::l=>if x.is=1 then T i x::eachW T (i+1) l else x::eachW T i l
def wets(l:List Lf):Nat:=(l.filter λx=>decide (x.is=1)).length
theorem Fq(T:Nat->Lf->Lf)(l:List Lf):∀i,(eachW T i l).length=l.length:=by
 induction l with
 |nil=>intro i;rfl
 |cons x l ih=>intro i;unfold eachW;split<;>simp [ih]
theorem Acy(T:Nat->Lf->Lf)(l:List Lf)(y:Lf):∀i,eachW T i (l++ [y])=eachW T i l++ [if y.is=1 then T (i+wets l) y else y]:=by
 induction l with
 |nil=>intro i;simp [eachW,wets];split<;>rfl
 |cons x l ih=>
  intro i;simp only [List.cons_append,eachW];by_cases hx:x.is=1
  ·rw [if_pos hx,if_pos hx,ih];simp [wets,hx,show i+1+(l.filter λx=>decide (x.is=1)).length=i+((l.filter λx=>decide (x.is=1)).length+1) by omega]
  ·rw [if_neg hx,if_neg hx,ih];simp [wets,hx]
theorem Wi(l:List Lf)(y:Lf):wets (l++ [y])=wets l+(if y.is=1 then 1 else 0):=by
 unfold wets;rw [List.filter_append,List.length_append];congr 1;simp [List.filter];split<;>simp_all
theorem wets_le(l:List Lf):wets l<=l.length:=List.length_filter_le _ _
def midW(T:Nat->Lf->Lf)(l:List Lf)(n:Nat):List Lf:=eachW T 0 (l.take n)++l.drop n
theorem Aan(T:Nat->Lf->Lf)(l:List Lf)(n:Nat):(midW T l n).length=l.length:=by
 unfold midW;rw [List.length_append,Fq,<-List.length_append,List.take_append_drop]
theorem Ya(T:Nat->Lf->Lf){l:List Lf}{n:Nat}{x:Lf}(hx:l[n]?=some x):(midW T l n)[n]?=some x:=by
 have hn:=(List.getElem?_eq_some_iff.1 hx).1;unfold midW;rw [List.getElem?_append_right (by rw [Fq,List.length_take];omega),Fq,List.length_take,List.getElem?_drop,Nat.min_eq_left (Nat.le_of_lt hn),Nat.sub_self,Nat.add_zero];exact hx
theorem Wv(T:Nat->Lf->Lf){l:List Lf}{n:Nat}{x:Lf}(hx:l[n]?=some x):midW T l (n+1)=(midW T l n).set n (if x.is=1 then T (wets (l.take n)) x else x):=by
 have hn:=(List.getElem?_eq_some_iff.1 hx).1;unfold midW;rw [take_snoc' hx,Acy,Nat.zero_add,List.set_append_right _ _ (by rw [Fq,List.length_take];omega),Fq,List.length_take,Nat.min_eq_left (Nat.le_of_lt hn),Nat.sub_self];obtain⟨h1,h2⟩:=List.getElem?_eq_some_iff.1 hx;rw [List.drop_eq_getElem_cons hn,h2,List.set_cons_zero,List.append_assoc];rfl
theorem midW_zero(T:Nat->Lf->Lf)(l:List Lf):midW T l 0=l:=by simp [midW,eachW]
theorem midW_all(T:Nat->Lf->Lf)(l:List Lf):midW T l l.length=eachW T 0 l:=by simp [midW]
def eaFr(P:Nat)(F:Value)(n i:Nat)(u:Nat->Value):Act:={ tmps:= #[(.pointer (some ⟨P,0,none⟩)),F,u 2,u 3,.int .i64 ((n:Nat):Int),.int .i64 ((i:Nat):Int),u 6,u 7,u 8,u 9,u 10,u 11,u 12,u 13,u 14,u 15,u 16,u 17,u 18,u 19,u 20,u 21,u 22,u 23,u 24,u 25,u 26,u 27,u 28,u 29,u 30,u 31,u 32,u 33,u 34],defers:= [] }
structure EaAt(P:Nat)(v:Value)(p:Pd)(T:Nat->Lf->Lf)(I:Nat->World->Prop)(S:Nat->Prop)(w:World)(n i:Nat)(W:World):Prop where
 nl:n<=p.l.length
 ie:i=wets (p.l.take n)
 pd:PadAt W P v { p with l:=midW T p.l n }
 inv:I i W
 kp:Keeps S w W
def eaJ(P:Nat)(v F:Value)(p:Pd)(T:Nat->Lf->Lf)(I:Nat->World->Prop)(S:Nat->Prop)(w:World)(a':Act)(W:World):Prop:=∃(n i:Nat) (u:Nat->Value),a'=eaFr P F n i u/\EaAt P v p T I S w n i W
theorem eaJ.mk{P:Nat}{v F:Value}{p:Pd}{T:Nat->Lf->Lf}{I:Nat->World->Prop}{S:Nat->Prop}{w:World}{a':Act}{W:World}(n i:Nat)(h:a'=eaFr P F n i (λi=>a'.tmps.getD i undef))(hi:EaAt P v p T I S w n i W):eaJ P v F p T I S w a' W:=⟨n,i,_,h,hi⟩
theorem Aac(P:Nat)(v:Value)(p:Pd)(fid:FuncId)(caps:Array Value)(T:Nat->Lf->Lf)(I:Nat->World->Prop)(S:Nat->Prop)(w:World)(hE:Enters Tryz.prog fid)
  (hcl:∀(g n:Nat) (x:Lf) (W:World),v.ownBlock=some g->p.l[n]?=some x->x.is=1->PadAt W P v { p with l:=midW T p.l n }->I (wets (p.l.take n)) W->Calls Tryz.prog fid (#[.int .i64 (wets (p.l.take n)),.pointer (some ⟨g,n*49,none⟩)]++caps) W λe W'=>
   e= .returned (.tuple #[])/\PadAt W' P v { p with l:=midW T p.l (n+1) }/\I (wets (p.l.take n)+1) W'/\Keeps S W W')
  (h:PadAt w P v p) (hI:I 0 w) (hIk:∀i W W',I i W->Keeps (λ_=>False) W W'->I i W'):
  Calls Tryz.prog 83 #[(.pointer (some ⟨P,0,none⟩)),.func (.func fid) #[] caps] w λe w'=>e= .returned (.tuple #[])/\PadAt w' P v { p with l:=eachW T 0 p.l }/\I (wets p.l) w'/\Keeps S w w':=by
 obtain⟨m,hm⟩:∃m,p.l.length=m:=⟨_,rfl⟩;obtain⟨ad,cap,rfl,hcap⟩:=h.shape;have hm2:=h.n;rw [hm] at hm2 hcap;unfold Enters at hE;obtain⟨H,HI,Hcl,HIk,Hm⟩:=hid5 h hI hcl hIk hm;clear hm hIk hcl hI h;go_enter Tryz.func83,Tryz.ntmps83;go_wp2_with fail;refine De 0 (eaJ P (.slice ad p.l.length cap) (.func (.func fid) #[] caps) p T I S w) (λa' _=>m-Dz 4 a') rfl ?_ ?_
 ·rintro a' W ⟨n,i,u,rfl,hat⟩;unfold eaFr;have hn:=hat.nl;have hpd:=hat.pd;have hie:=hat.ie;have c0:W.cell? ⟨P,0,none⟩=some (.slice ad m cap):=by have:=Aa hpd.blk 0;rw [Hm.out] at this;exact this
  have lt:=lt_of_block hpd.blk;rw [Hm.out] at hn;by_cases hnm:n<m
  ·have hnI:(n:Int)<(m:Int):=j8;obtain⟨x,hx⟩:=Aq (show n<p.l.length by rw [Hm.out];exact hnm)
   have hown:∃g,ad=some ⟨g,0,none⟩:=by
    rcases hpd.row.2 with⟨e,e2⟩|⟨g',cap',cur,hv,_⟩
    ·have:=(Value.slice.inj e).2.1;rw [Hm.out] at this;omega
    ·exact⟨g',(Value.slice.inj hv).1⟩
   obtain⟨g,rfl⟩:=hown;have hpd2:PadAt W P (.slice (some ⟨g,0,none⟩) ({ p with l:=midW T p.l n }:Pd).l.length cap) { p with l:=midW T p.l n }:=by simp only [Aan];exact hpd
   have cx:W.cell? ⟨g,n*49+0,none⟩=some (.int .i64 x.is):=PadAt.Lm hpd2 (Ya T hx) 0 _ rfl;rw [Nat.add_zero] at cx;have lg:=Ah cx;obtain⟨xi,hxi⟩:∃z,x.is=z:=⟨_,rfl⟩;rw [hxi] at cx;by_cases h1:xi=1
   ·have h1b:(xi==1)=true:=by rw [h1];rfl
    have hc:=Hcl.out g n x W rfl hx (by rw [hxi];exact h1) hpd (by rw [<-hie];exact hat.inv);rw [<-hie] at hc;have hie1:i+1=wets (p.l.take (n+1)):=by rw [hie,take_snoc' hx,Wi,if_pos (by rw [hxi];exact h1)]
    have hkp:=hat.kp;have hin:i<=n:=by rw [hie];exact Nat.le_trans (wets_le _) (by rw [List.length_take];omega)
    clear hie;obtain⟨Hat,Hpd,Hpd2,Hx,Hxi,Hc,Hie1,Hkp⟩:=hid8 hat hpd hpd2 hx hxi hc hie1 hkp;clear hkp hie1 hc hxi hx hpd2 hpd hat;go_wp2_with fail
    go_at_fn fid
    refine Hc.out.mono ?_;rintro e w2 ⟨rfl,hp2,hi2,hk2⟩;have hstep:EaAt P (.slice (some ⟨g,0,none⟩) p.l.length cap) p T I S w (n+1) (i+1) w2:=⟨by rw [Hm.out];omega,Hie1.out,hp2,hi2,Hkp.out.trans (hk2.mono λ_ _ h=> .inl h)⟩;obtain⟨Hp2,Hi2,Hk2,Hstep⟩:=hid4 hp2 hi2 hk2 hstep;clear hstep hk2 hi2 hp2;go_wp2;go_step3;go_wp2;exact Au ⟨eaJ.mk (n+1) (i+1) rfl Hstep.out,by simp [Dz];omega⟩
   ·have h1b:(xi==1)=false:=beq_eq_false_iff_ne.2 h1
    have hstep:EaAt P (.slice (some ⟨g,0,none⟩) p.l.length cap) p T I S w (n+1) i W:=by
     refine⟨by rw [Hm.out];omega, ?_, ?_,hat.inv,hat.kp⟩
     ·rw [hie,take_snoc' hx,Wi,if_neg (by rw [hxi];exact h1)];rfl
     ·rw [Wv T hx,if_neg (by rw [hxi];exact h1)]
      have:(midW T p.l n).set n x=midW T p.l n:=by
       have:=Ya T hx;obtain⟨q1,q2⟩:=List.getElem?_eq_some_iff.1 this;rw [<-q2];exact List.set_getElem_self q1
      rw [this];exact hpd
    clear hie;obtain⟨Hat,Hpd,Hpd2,Hx,Hxi,Hstep⟩:=hid6 hat hpd hpd2 hx hxi hstep;clear hstep hxi hx hpd2 hpd hat;go_wp2;go_step3;go_wp2;exact Au ⟨eaJ.mk (n+1) i rfl Hstep.out,by simp [Dz];omega⟩
  ·obtain rfl:n=m:=by omega
   have hend:=hat.pd;have hin:=hat.inv;have hk:=hat.kp;rw [hie] at hin;rw [<-Hm.out,midW_all] at hend;rw [<-Hm.out,List.take_length] at hin;clear hie;obtain⟨Hat,Hpd,Hend,Hin,Hk⟩:=hid5 hat hpd hend hin hk;clear hk hin hend hpd hat;go_wp2;refine Gl ?_;go_end0;exact⟨rfl,Hend.out,Hin.out,Hk.out⟩
 ·refine jy ?_;intro Hfirst;go_wp2_with fail;go_step3;rename_i hK;refine jz ?_;exact eaJ.mk 0 0 rfl ⟨Nat.zero_le _,rfl,by rw [midW_zero];exact H.out,HI.out,Keeps.refl _ _⟩
def dryL(x:Lf):Lf:=if x.is=1 then⟨2,x.b⟩ else x
theorem eachW_dry(l:List Lf):∀i,eachW (λ_ x=>⟨2,x.b⟩) i l=l.map dryL:=by
 induction l with
 |nil=>intro i;rfl
 |cons x l ih=>intro i;unfold eachW;simp only [List.map_cons,dryL];split<;>simp [ih]
theorem PadAt.setIs{w:World}{P g cap k:Nat}{p:Pd}(h:PadAt w P (.slice (some ⟨g,0,none⟩) p.l.length cap) p){x:Lf}(hx:p.l[k]?=some x)(z:Int):
  PadAt (w.setCell ⟨g,k*49,none⟩ (.int .i64 z)) P (.slice (some ⟨g,0,none⟩) p.l.length cap) { p with l:=p.l.set k ⟨z,x.b⟩ }/\w.frozen? ⟨g,k*49,none⟩=false:=by
 have hk:=(List.getElem?_eq_some_iff.1 hx).1;obtain⟨cur,h1,h2,h3,h4⟩:=h.setLeaf hk ⟨z,x.b⟩
 have hw:w.setCell ⟨g,k*49,none⟩ (.int .i64 z)=w.setRow g (putAt cur.toList (k*49) (Lf.cells ⟨z,x.b⟩)).toArray:=by
  rw [setCell_eq_setRow w g (k*49) cur _ _ _ h1]
  congr 1
  apply Array.toList_inj.1
  rw [Array.toList_setIfInBounds,List.toList_toArray]
  have hcs:∀j u,(b48 x.b)[j]?=some u->cur.toList[k*49+1+j]?=some u:=λj u hj=>by
   have:=h.Lm hx (1+j) u (by rw [Nat.add_comm];exact hj);rw [Aa h1] at this;rw [<-Nat.add_assoc] at this
   simpa using this
  rw [Lf.Aj] at h2
  apply List.ext_getElem?
  intro i;unfold putAt;rw [Lf.Aj];by_cases hi:i<k*49
  ·rw [List.getElem?_set_ne j6,List.append_assoc,List.getElem?_append_left jm,List.getElem?_take_of_lt hi]
  ·by_cases hi2:i=k*49
   ·subst hi2;rw [List.getElem?_set_self jm,List.append_assoc,List.getElem?_append_right jm,List.length_take,Nat.min_eq_left jm,Nat.sub_self];rfl
   ·rw [List.getElem?_set_ne j6];by_cases hi3:i<k*49+49
    ·obtain⟨j,rfl⟩:∃j,i=k*49+1+j:=⟨i-(k*49+1),by omega⟩;rw [List.append_assoc,List.getElem?_append_right jm,List.length_take,Nat.min_eq_left jm,show k*49+1+j-k*49=j+1 by omega,List.getElem?_append_left (by rw [Lf.Aj];omega)];show _=(b48 x.b)[j]?;obtain⟨u,hu⟩:∃u,(b48 x.b)[j]?=some u:=⟨_,List.getElem?_eq_getElem (by rw [Ct];omega)⟩;rw [hu,hcs j u hu]
    ·rw [List.getElem?_append_right (by simp [Lf.Aj];omega),List.length_append,List.length_take,Nat.min_eq_left jm,Lf.Aj,List.getElem?_drop]
     congr 1
     omega
 rw [hw];exact⟨h3,Ab h1 _⟩
theorem Aad(P:Nat)(v:Value)(p:Pd)(g n:Nat)(i:Int)(x:Lf)(w:World)(hv:v.ownBlock=some g)(hx:p.l[n]?=some x)(h:PadAt w P v p):
  Calls Tryz.prog 147 (#[.int .i64 i,.pointer (some ⟨g,n*49,none⟩)]++ #[]) w λe w'=>e= .returned (.tuple #[])/\PadAt w' P v { p with l:=p.l.set n ⟨2,x.b⟩ }/\Keeps (λk=>k=g) w w':=by
 obtain⟨ad,cap,rfl,_⟩:=h.shape
 have hown:ad=some ⟨g,0,none⟩:=by
  rcases h.row.2 with⟨e,e2⟩|⟨g',cap',cur,hv',_⟩
  ·rw [e] at hv;simp [Value.ownBlock] at hv
  ·have:=(Value.slice.inj hv').1;subst this;simp only [Value.ownBlock,Option.some.injEq] at hv;rw [hv]
 subst hown;obtain⟨hset,f0⟩:=h.setIs hx 2;have c0:w.cell? ⟨g,n*49+0,none⟩=some (.int .i64 x.is):=h.Lm hx 0 _ rfl;rw [Nat.add_zero] at c0;have lt:=Ah c0;have hk:Keeps (λk=>k=g) w (w.setCell ⟨g,n*49,none⟩ (.int .i64 2)):=Keeps.setCell _ _ _ rfl;show Calls Tryz.prog 147 #[.int .i64 i,.pointer (some ⟨g,n*49,none⟩)] w _;obtain⟨H,Hset,Hk,Hx⟩:=hid4 h hset hk hx;clear hx hk hset h;go_enter Tryz.func147,Tryz.ntmps147;go_wp2;go_end0;exact⟨rfl,Hset.out,Hk.out⟩
theorem Tt(P:Nat)(v:Value)(p:Pd)(w:World)(h:PadAt w P v p)(hf:p.fl+1<=1000000)(hd:p.dn=false)(hs:¬p.sn=1):
  Calls Tryz.prog 102 #[(.pointer (some ⟨P,0,none⟩))] w λe w'=>e= .returned (.int .i64 0)/\Zj P v { Df p with l:=p.l.map dryL } w w':=by
 have hr0:Tf p=0:=by unfold Tf;rw [hd];rfl
 have hr:=Ph P v p w h;rw [hr0] at hr;have hst:=Nc P v p w h hf;rw [decide_eq_false hs] at hst;have hl:(Df p).l=p.l:=by unfold Df sinkR;split<;>rfl
 have he:=fun(w1:World) (h1:PadAt w1 P v (Df p))=>Aac P v (Df p) 147 #[] (λ_ x=>⟨2,x.b⟩) (λ_ _=>True) (λk=>v.ownBlock=some k) w1 (enters_of Tryz.func147 j9 rfl)
  (λg n x W hv hx hx1 hp _=>by
   have:=Aad P v _ g n (wets ((Df p).l.take n)) x W hv (Ya (λ_ x=>⟨2,x.b⟩) hx) hp;refine this.mono ?_;rintro e W' ⟨rfl,h2,h3⟩;refine⟨rfl, ?_,trivial,h3.mono λk _ e=>by rw [e];exact hv⟩
   rw [Wv _ hx,if_pos hx1];exact h2) h1 trivial (λ_ _ _ _ _=>trivial)
 simp only [eachW_dry,hl] at he;obtain⟨H,Hr,Hst,He⟩:=hid4 h hr hst he;clear he hst hr h;go_enter Tryz.func102,Tryz.ntmps102
 go_wp2_with (first|(go_at_call 145;(with_reducible refine Hr.out.mono ?_);rintro e w1 ⟨rfl,hw1⟩;subst w1)|(go_at_call 146;(with_reducible refine Hst.out.mono ?_);rintro e w2 ⟨rfl,hp2,hk2⟩;have Hp2:=Lib.hid hp2;have Hk2:=Lib.hid hk2;clear hp2 hk2)|(go_at_call 83;(with_reducible refine(He.out _ Hp2.out).mono ?_);rintro e w3 ⟨rfl,hp3,_,hk3⟩;have Hp3:=Lib.hid hp3;have Hk3:=Lib.hid hk3;clear hp3 hk3))
 go_ret;exact⟨rfl,Hp3.out,(Hk2.out.mono λk _ e=> .inl e).trans (Hk3.out.mono λk _ e=> .inl (.inr e))⟩
theorem Aco:(Tryz.prog.info? 149).map (λi=>(i.zero,i.size,i.bytes))=some (some (.agg (Lf.cells lf0).toArray),49,56):=by kernel_rfl
theorem made_flat{α:Type}{f:α->List Value}(x:α)(n:Nat)(hs:0<(f x).length):(madeCells (f x).toArray (n*(f x).length)).toList=(List.replicate n x).flatMap f:=by
 obtain⟨s,hs'⟩:∃s,(f x).length=s:=⟨_,rfl⟩
 have hl:((List.replicate n x).flatMap f).length=n*s:=by
  induction n with
  |zero=>simp
  |succ n ih=>rw [List.replicate_succ,List.flatMap_cons,List.length_append,ih,hs',Nat.succ_mul];omega
 rw [hs'] at hs⊢
 apply List.ext_getElem?
 intro i;by_cases hi:i<n*s
 ·have h1:((List.replicate n x).flatMap f)[i]?=(f x)[i % s]?:=by
   clear hl
   induction n generalizing i with
   |zero=>simp at hi
   |succ n ih=>
    rw [List.replicate_succ,List.flatMap_cons];by_cases hi2:i<s
    ·rw [List.getElem?_append_left (by rw [hs'];exact hi2),Nat.mod_eq_of_lt hi2]
    ·rw [List.getElem?_append_right (by rw [hs'];omega),hs',ih _ (by rw [Nat.succ_mul] at hi;omega)];rw [Nat.mod_eq_sub_mod (show i>=s by omega)]
  have hm:i % s<(f x).length:=by rw [hs'];exact Nat.mod_lt _ hs
  rw [h1,List.getElem?_eq_getElem hm];simp [madeCells,hi,hs',List.getElem?_eq_getElem hm]
 ·rw [List.getElem?_eq_none (by simp [madeCells];omega),List.getElem?_eq_none j6]
theorem Aar(n:Nat)(w:World)(h0:0<n)(h1:n<20000):Calls Tryz.prog 19 #[.int .i64 n] w λe w'=>∃g,e= .returned (.pointer (some ⟨w.heap.size+1,0,none⟩))/\PadAt w' (w.heap.size+1) (.slice (some ⟨g,0,none⟩) n n) ⟨List.replicate n lf0,0,0,false⟩/\Keeps (λ_=>False) w w'/\g=w.heap.size:=by
 obtain⟨i0,hi,hi0,hi1,hi2⟩:=info_parts Aco;have hmk:=fun(W:World)=>run_makeSlice (P:=Tryz.prog) W 104 149 i0 (.agg (Lf.cells lf0).toArray) Tryz.underlying104 hi hi0 .i64 .i64 (n:Int) (n:Int) j6 j6 j0a j0b j6;simp only [Int.toNat_natCast,hi1] at hmk;have hmf:=made_flat (f:=Lf.cells) lf0 n (by rw [Lf.Aj];decide);rw [Lf.Aj] at hmf;obtain⟨Z,hZ⟩:∃Z,Z=madeCells (Value.agg (Lf.cells lf0).toArray).cells (n*49):=⟨_,rfl⟩;rw [<-hZ] at hmk;have hZl:Z.toList=(List.replicate n lf0).flatMap Lf.cells:=by rw [hZ];exact hmf
 have l0:(0:Int)<(n:Int):=j8;have l1:(n:Int)<20000:=j8;obtain⟨Hmf,HZ,HZl,Hi,Hi0,Hi1,Hi2⟩:=hid7 hmf hZ hZl hi hi0 hi1 hi2;clear hi2 hi1 hi0 hi hZl hZ hmf;go_enter Tryz.func19,Tryz.ntmps19;go_wp2;go_ret;have hll:=Cm Lf.Aj (List.replicate n lf0)
 have hb1:((w.alloc (.cells Z 149)).alloc (.cells #[.slice (some ⟨w.heap.size,0,none⟩) n n,.int .i64 0,.int .i64 0,.bool false] 106)).heap[w.heap.size+1]?=some (.cells #[.slice (some ⟨w.heap.size,0,none⟩) n n,.int .i64 0,.int .i64 0,.bool false] 106 (0,0)):=by
  have:=heap_alloc_new (w.alloc (.cells Z 149)) (.cells #[.slice (some ⟨w.heap.size,0,none⟩) n n,.int .i64 0,.int .i64 0,.bool false] 106)
  simpa using this
 have hk1:Keeps (λ_=>False) (w.alloc (.cells Z 149)) ((w.alloc (.cells Z 149)).alloc (.cells #[.slice (some ⟨w.heap.size,0,none⟩) n n,.int .i64 0,.int .i64 0,.bool false] 106)):=Keeps.alloc _ _;refine⟨w.heap.size,rfl,⟨hb1, ?_,by simp;omega,by simp,by simp⟩,Keeps.nt (Keeps.alloc _ _) (Keeps.alloc _ _),rfl⟩;simp only [List.length_replicate];refine hk1.row ⟨by rw [hll,List.length_replicate],.inr ⟨_,n,Z,rfl,Nat.zero_le _,heap_alloc_new w _,Nat.le_refl _,by unfold maxLen;omega, ?_, ?_⟩⟩ (by simp)
 ·rw [<-Array.length_toList,HZl.out,hll,List.length_replicate]
 ·rw [HZl.out,List.take_of_length_le (by rw [hll,List.length_replicate];exact Nat.le_refl _)]
def adlW:List Int->Int->Int->Int×Int
 | [],lo,hi=>(lo,hi)
 |b::l,lo,hi=>adlW l ((lo+b) % 65521) ((hi+(lo+b) % 65521) % 65521)
theorem adlW_snoc(L:List Int)(b:Int):∀lo hi,adlW (L++ [b]) lo hi=(((adlW L lo hi).1+b) % 65521,((adlW L lo hi).2+((adlW L lo hi).1+b) % 65521) % 65521):=by
 induction L with
 |nil=>intro lo hi;simp [adlW]
 |cons x l ih=>intro lo hi;simp only [List.cons_append,adlW];exact ih _ _
theorem adlW_bd{L:List Int}(hL:∀z∈L,0<=z/\z<=255):∀lo hi,0<=lo/\lo<65521->0<=hi/\hi<65521->(0<=(adlW L lo hi).1/\(adlW L lo hi).1<65521)/\0<=(adlW L lo hi).2/\(adlW L lo hi).2<65521:=by
 induction L with
 |nil=>intro lo hi h1 h2;exact⟨h1,h2⟩
 |cons x l ih=>
  intro lo hi h1 h2;have hx:=hL x (by simp);exact ih (λz hz=>hL z (by simp [hz])) _ _ j6 j6
def adFr(v:Value)(lo hi:Int)(k:Nat)(u:Nat->Value):Act:={ tmps:= #[u 0,v,u 2,u 3,u 4,.int .u32 lo,.int .u32 hi,.int .i64 ((k:Nat):Int),u 8,u 9,u 10,u 11,u 12,u 13,u 14,u 15,u 16,u 17,u 18,u 19,u 20,u 21,u 22,u 23,u 24,u 25,u 26,u 27,u 28,u 29,u 30,u 31,u 32,u 33,u 34,u 35],defers:= [] }
def adJ(L:List Int)(v:Value)(w:World)(a':Act)(W:World):Prop:=∃(k:Nat) (lo hi:Int) (u:Nat->Value),a'=adFr v lo hi k u/\(k<=L.length/\adlW (L.take k) 1 0=(lo,hi))/\W=w
theorem adJ.mk{L:List Int}{v:Value}{w:World}{a':Act}{W:World}(k:Nat)(lo hi:Int)(h:a'=adFr v lo hi k (λi=>a'.tmps.getD i undef))(hi:k<=L.length/\adlW (L.take k) 1 0=(lo,hi))(hW:W=w):adJ L v w a' W:=⟨k,lo,_,_,h,hi,hW⟩
def sumR(L:List Int):Int:=bits .or .u32 ((adlW L 1 0).2*65536) (adlW L 1 0).1
theorem Abq(ad:Option Addr)(cap:Nat)(L:List Int)(w:World)(hr:Reads w 1 (.slice ad L.length cap) L.length (L.flatMap u8c))(hL:∀z∈L,0<=z/\z<=255)(hn:L.length<=1000000):
  Calls Tryz.prog 222 #[.int .u32 1,.slice ad L.length cap] w λe w'=>e= .returned (.int .u32 (sumR L))/\w'=w:=by
 obtain⟨n,hnn⟩:∃n,L.length=n:=⟨_,rfl⟩;rw [hnn] at hr hn⊢;obtain⟨Hr,Hnn⟩:=hid2 hr hnn;clear hnn hr;go_enter Tryz.func222,Tryz.ntmps222;go_wp2_with fail;refine De 0 (adJ L (.slice ad n cap) w) (λa' _=>n-Dz 7 a') rfl ?_ ?_
 ·rintro a' W ⟨k,lo,hi,u,rfl,⟨hk,hs⟩,rfl⟩;unfold adFr;rw [Hnn.out] at hk;have hbd:=adlW_bd (L:=L.take k) (λz hz=>hL z (List.mem_of_mem_take hz)) 1 0 j6 j6;rw [hs] at hbd;obtain⟨⟨b1,b2⟩,b3,b4⟩:=hbd;by_cases hkn:k<n
  ·have hknI:(k:Int)<(n:Int):=j8;obtain⟨x,hx⟩:=Aq (show k<L.length by rw [Hnn.out];omega);obtain⟨x1,x2⟩:=hL x (List.mem_of_getElem? hx);have hsn:=adlW_snoc (L.take k) x 1 0;rw [<-take_snoc' hx,hs] at hsn;have q1:IntKind.u32.wrap (lo+x)=lo+x:=u32_in _ ⟨by omega,by omega⟩;obtain⟨lo2,hlo2⟩:∃z,(lo+x) % 65521=z:=⟨_,rfl⟩;simp only [hlo2] at hsn;have b5:0<=lo2:=j8;have b6:lo2<65521:=j8;have q2:IntKind.u32.wrap (hi+lo2)=hi+lo2:=u32_in _ ⟨by omega,by omega⟩;have q3:IntKind.u32.wrap x=x:=u32_in _ ⟨by omega,by omega⟩;obtain⟨g,o,rfl,x0⟩:=Reads.int (k:= .u8) Hr.out hx;have lg:=Ah x0;obtain⟨Hx,Hs,Hsn⟩:=hid3 hx hs hsn;clear hsn hs hx;go_wp2;go_step3;go_wp2;exact Au ⟨adJ.mk (k+1) lo2 ((hi+lo2) % 65521) rfl ⟨by rw [Hnn.out];omega,Hsn.out⟩ rfl,by simp [Dz];omega⟩
  ·obtain rfl:k=n:=by omega
   have hsum:sumR L=bits .or .u32 (hi*65536) lo:=by
    rw [List.take_of_length_le (by rw [Hnn.out];exact Nat.le_refl _)] at hs;unfold sumR;rw [hs]
   have q4:IntKind.u32.wrap (hi*65536)=hi*65536:=u32_in _ ⟨by omega,by omega⟩;obtain⟨Hs,Hsum⟩:=hid2 hs hsum;clear hsum hs;go_wp2;refine Bq ?_;exact bodyPost_ret (v:= .int .u32 (bits .or .u32 (hi*65536) lo)) (by simp [results,Tryz.results222,go_sem]) rfl ⟨by rw [Hsum.out],rfl⟩
 ·refine jy ?_;intro Hfirst;go_wp2_with fail;go_step3;rename_i hK;refine jz ?_;exact adJ.mk 0 1 0 rfl ⟨Nat.zero_le _,rfl⟩ rfl
theorem Ada(ad:Option Addr)(cap:Nat)(L:List Int)(w:World)(hr:Reads w 1 (.slice ad L.length cap) L.length (L.flatMap u8c))(hL:∀z∈L,0<=z/\z<=255)(hn:L.length<=1000000):
  Calls Tryz.prog 185 #[.slice ad L.length cap] w λe w'=>e= .returned (.int .u32 (sumR L))/\w'=w:=by
 have hc:=λW (hW:W=w)=>Abq ad cap L W (by rw [hW];exact hr) hL hn;obtain⟨Hr,Hc⟩:=hid2 hr hc;clear hc hr;go_enter Tryz.func185,Tryz.ntmps185
 go_wp2_with (go_at_call 222;(with_reducible refine(Hc.out _ rfl).mono ?_);rintro e w1 ⟨rfl,rfl⟩)
 go_ret;exact⟨rfl,rfl⟩
structure Ln where
 balance:Int
 interest:Int
 rate:Int
deriving DecidableEq,Inhabited
def Ln.cells(d:Ln):List Value:= [.int .i64 d.balance,.int .i64 d.interest,.int .i64 d.rate]
theorem Ln.Aj(d:Ln):d.cells.length=3:=rfl
theorem Ln.one(L:List Ln):∀u∈L.flatMap Ln.cells,u.oneCell'=true:=by
 intro u hu;obtain⟨d,_,hd⟩:=List.mem_flatMap.1 hu;simp only [Ln.cells,List.mem_cons,List.not_mem_nil,or_false] at hd;rcases hd with rfl|rfl|rfl<;>rfl
structure Stm where
 cycle:Int
 fr:Int
 te:Int
 due:Int
 total:Int
 credit:Int
 min:Int
 grace:Bool
 lines:List Ln
def Stm.val(s:Stm)(v:Value):Value:= .agg #[.int .i64 s.cycle,.int .i64 s.fr,.int .i64 s.te,.int .i64 s.due,v,.int .i64 s.total,.int .i64 s.credit,.int .i64 s.min,.bool s.grace]
theorem Ub:(Tryz.prog.info? 160).map (λi=>(i.zero,i.size,i.bytes))=some (some (.agg #[.int .i64 0,.int .i64 0,.int .i64 0]),3,24):=by kernel_rfl
theorem Mq:(Tryz.prog.info? 60).map (λi=>(i.zero,i.size,i.bytes))=some (some (.agg #[.int .i64 0,.int .i64 0,.int .i64 0,.int .i64 0,.slice none 0 0,.int .i64 0,.int .i64 0,.int .i64 0,.bool false]),9,88):=by kernel_rfl
structure SV where
 s:Stm
 ad:Option Addr
 cap:Nat
def SV.v(x:SV):Value:= .slice x.ad x.s.lines.length x.cap
def SV.cells(x:SV):List Value:= [.int .i64 x.s.cycle,.int .i64 x.s.fr,.int .i64 x.s.te,.int .i64 x.s.due,x.v,.int .i64 x.s.total,.int .i64 x.s.credit,.int .i64 x.s.min,.bool x.s.grace]
theorem SV.Aj(x:SV):x.cells.length=9:=rfl
def poly(L:List Int):Int:=L.foldl (λv c=>v*256+c) 0
theorem poly_snoc(L:List Int)(c:Int):poly (L++ [c])=poly L*256+c:=by unfold poly;rw [List.foldl_append];rfl
def numOf(L:List Int):Int:=IntKind.i64.wrap (poly L)
def numAt(B:List Int)(i:Nat):Int:=numOf ((B.drop (8*i)).take 8)
def eight(v:Int):List Int:=
 [v / 72057594037927936 % 256,v / 281474976710656 % 256,v / 1099511627776 % 256,v / 4294967296 % 256,v / 16777216 % 256,v / 65536 % 256,v / 256 % 256,v % 256]
theorem Bu(v:Int):(eight v).length=8:=rfl
theorem Ri(v:Int):∀z∈eight v,0<=z/\z<=255:=by
 intro z hz;simp only [eight,List.mem_cons,List.not_mem_nil,or_false] at hz;rcases hz with rfl|rfl|rfl|rfl|rfl|rfl|rfl|rfl<;>omega
theorem Ac9(v:Int):poly (eight v)=v % 18446744073709551616:=by
 have h1:v / 72057594037927936=v / 281474976710656 / 256:=j8;have h2:v / 281474976710656=v / 1099511627776 / 256:=j8;have h3:v / 1099511627776=v / 4294967296 / 256:=j8;have h4:v / 4294967296=v / 16777216 / 256:=j8;have h5:v / 16777216=v / 65536 / 256:=j8;have h6:v / 65536=v / 256 / 256:=j8;unfold poly eight;simp only [List.foldl];omega
theorem Aak{v:Int}(h: -9223372036854775808<=v/\v<=9223372036854775807):numOf (eight v)=v:=by
 unfold numOf;rw [Ac9];simp [IntKind.wrap,IntKind.signed,IntKind.bits];omega
theorem list8{L:List Int}(h:L.length=8):∃a b c d e f g i,L= [a,b,c,d,e,f,g,i]:=by
 match L,h with
 | [a,b,c,d,e,f,g,i],_=>exact⟨a,b,c,d,e,f,g,i,rfl⟩
theorem Ab8{L:List Int}(hl:L.length=8)(hb:∀z∈L,0<=z/\z<=255):eight (numOf L)=L:=by
 obtain⟨a,b,c,d,e,f,g,i,rfl⟩:=list8 hl;have ha:=hb a (by simp);have hb':=hb b (by simp);have hc:=hb c (by simp);have hd:=hb d (by simp);have he:=hb e (by simp);have hf:=hb f (by simp);have hg:=hb g (by simp);have hi:=hb i (by simp);clear hb hl;obtain⟨m,hm⟩:∃m,numOf [a,b,c,d,e,f,g,i]=m:=⟨_,rfl⟩;rw [hm]
 have hm':∃k:Int,m=(((((((a*256+b)*256+c)*256+d)*256+e)*256+f)*256+g)*256+i)+k*18446744073709551616:=by
  rw [<-hm];simp only [numOf,poly,List.foldl,IntKind.wrap,IntKind.signed,IntKind.bits];simp only [Int.zero_mul,Int.zero_add];generalize (((((((a*256+b)*256+c)*256+d)*256+e)*256+f)*256+g)*256+i)=z;simp;exact⟨((z+9223372036854775808) % 18446744073709551616-(z+9223372036854775808)) / 18446744073709551616,by omega⟩
 obtain⟨k,hk⟩:=hm';clear hm;have e7:m % 256=i:=j8;have q7:m / 256=((((((a*256+b)*256+c)*256+d)*256+e)*256+f)*256+g)+k*72057594037927936:=j8;have e6:m / 256 % 256=g:=j8;have q6:m / 65536=(((((a*256+b)*256+c)*256+d)*256+e)*256+f)+k*281474976710656:=j8;have e5:m / 65536 % 256=f:=j8;have q5:m / 16777216=((((a*256+b)*256+c)*256+d)*256+e)+k*1099511627776:=j8;have e4:m / 16777216 % 256=e:=j8;have q4:m / 4294967296=(((a*256+b)*256+c)*256+d)+k*4294967296:=j8;have e3:m / 4294967296 % 256=d:=j8;have q3:m / 1099511627776=((a*256+b)*256+c)+k*16777216:=j8;have e2:m / 1099511627776 % 256=c:=j8;have q2:m / 281474976710656=(a*256+b)+k*65536:=j8;have e1:m / 281474976710656 % 256=b:=j8;have q1:m / 72057594037927936=a+k*256:=j8;have e0:m / 72057594037927936 % 256=a:=j8;simp only [eight,e0,e1,e2,e3,e4,e5,e6,e7]
theorem or_i64(v c:Int)(h0:0<=c)(h1:c<256):bits .or .i64 (IntKind.i64.wrap (v*256)) c=IntKind.i64.wrap (v*256+c):=by
 obtain⟨m,hm⟩:∃m:Nat,(IntKind.i64.wrap (v*256) % 18446744073709551616).toNat=256*m:=by
  refine⟨(IntKind.i64.wrap (v*256) % 18446744073709551616).toNat / 256, ?_⟩;simp [IntKind.wrap,IntKind.signed,IntKind.bits];omega
 have hc:(c % 18446744073709551616).toNat=c.toNat:=j8;have hor:256*m|||c.toNat=256*m+c.toNat:=(Nat.two_pow_add_eq_or_of_lt (i:=8) (b:=c.toNat) j6 m).symm
 simp only [bits,show IntKind.i64.bits=64 from rfl,BitVec.toNat_or,BitVec.toNat_ofInt];simp only [show((2 ^ 64:Nat):Int)=18446744073709551616 from rfl];rw [hm,hc,hor];simp [IntKind.wrap,IntKind.signed,IntKind.bits] at hm⊢;omega
theorem Vt(p c:Int):IntKind.i64.wrap (IntKind.i64.wrap p*256+c)=IntKind.i64.wrap (p*256+c):=by
 simp [IntKind.wrap,IntKind.signed,IntKind.bits];omega
theorem Aaj(L:List Int)(c:Int)(h0:0<=c)(h1:c<256):bits .or .i64 (IntKind.i64.wrap (IntKind.i64.wrap (poly L)*256)) c=IntKind.i64.wrap (poly (L++ [c])):=by
 rw [or_i64 _ _ h0 h1,Vt,poly_snoc]
def mayB(most:Int)(L:List Int):Bool:=L.all λv=>decide (0<=v/\v<=most)
def dayB(n:Int):Bool:=decide (-135140<=n/\n<=2932896)
def Ln.okB(x:Ln):Bool:=mayB 1000000000000000 [x.balance,x.interest]&&mayB 10000000 [x.rate]
def sumLn(L:List Ln):Int:=(L.map Ln.balance).sum
def Stm.Bg(s:Stm):Bool:=
 decide (1<=s.cycle/\s.cycle<=300)&&(dayB s.fr&&dayB s.te&&dayB s.due)&&decide (s.fr<=s.te)&&decide (s.te<=s.due)&&decide (1<=s.lines.length/\s.lines.length<=8)&&
  mayB 1000000000000000 [s.total,s.credit,s.min]&&decide (s.min<=s.total)&&s.lines.all Ln.okB&&decide (sumLn s.lines=s.total)
def Stm.head(s:Stm):List Int:= [s.cycle,s.fr,s.te,s.due,s.total,s.credit,s.min,if s.grace then 1 else 0,s.lines.length]
def Ln.nums(x:Ln):List Int:= [x.balance,x.interest,x.rate]
def Stm.nums(s:Stm):List Int:=s.head++s.lines.flatMap Ln.nums
def packN(L:List Int):List Int:=L.flatMap eight
theorem Kk(L:List Int):(packN L).length=8*L.length:=by
 induction L with
 |nil=>rfl
 |cons a l ih=>rw [packN,List.flatMap_cons,List.length_append,Bu];rw [packN] at ih;rw [ih];simp;omega
theorem Aal{L:List Int}(hL:∀z∈L, -9223372036854775808<=z/\z<=9223372036854775807){i:Nat}{v:Int}(h:L[i]?=some v)(T:List Int):numAt (packN L++T) i=v:=by
 induction L generalizing i with
 |nil=>simp at h
 |cons a l ih=>
  cases i with
  |zero=>
   simp at h;subst h;have:(packN (a::l)++T).take 8=eight a:=by rw [packN,List.flatMap_cons,List.append_assoc,List.take_append_of_le_length (by rw [Bu];omega),List.take_of_length_le (by rw [Bu];omega)]
   simp only [numAt,Nat.mul_zero,List.drop_zero];rw [this];exact Aak (hL a (by simp))
  |succ i=>
   have h':l[i]?=some v:=by simpa using h
   have hd:(packN (a::l)++T).drop (8*(i+1))=(packN l++T).drop (8*i):=by
    rw [packN,List.flatMap_cons,List.append_assoc,List.drop_append,Bu,List.drop_of_length_le (by rw [Bu];omega)];simp only [List.nil_append,packN];congr 1
   simp only [numAt];rw [hd];exact ih (λz hz=>hL z (by simp [hz])) h'
theorem Kl(L M:List Int):packN (L++M)=packN L++packN M:=List.flatMap_append
theorem Sc{B:List Int}(hB:∀z∈B,0<=z/\z<=255)(i n:Nat):∀z∈(B.drop i).take n,0<=z/\z<=255:=
 λz hz=>hB z (List.mem_of_mem_drop (List.mem_of_mem_take hz))
theorem Aae{B:List Int}(hB:∀z∈B,0<=z/\z<=255)(m:Nat)(h:8*m<=B.length):packN ((List.range m).map (numAt B))=B.take (8*m):=by
 induction m with
 |zero=>simp [packN]
 |succ m ih=>
  rw [List.range_succ,List.map_append,Kl,ih j6]
  have e:packN ([m].map (numAt B))=(B.drop (8*m)).take 8:=by
   simp only [packN,List.map_cons,List.map_nil,List.flatMap_cons,List.flatMap_nil,List.append_nil];exact Ab8 (by rw [List.length_take,List.length_drop];omega) (Sc hB _ _)
  rw [e,<-List.take_add];congr 1
structure Grown(w w':World)(v v':Value)(B:List Int):Prop where
 row:w'.ownsRow 0 5 1 v' B.length (B.flatMap u8c)
 kp:Keeps (λk=>v.ownBlock=some k) w w'
 nw:v'.ownBlock=v.ownBlock\/∃g,v'.ownBlock=some g/\w.heap.size<=g
theorem Grown.refl{w:World}{v:Value}{B:List Int}(h:w.ownsRow 0 5 1 v B.length (B.flatMap u8c)):Grown w w v v B:=⟨h,Keeps.refl _ _,.inl rfl⟩
theorem Grown.app{w wr w4:World}{v v' v4:Value}{B:List Int}{z:Int}{o:Obj}{xs:List Value}{n:Nat}(h:Grown w wr v v' B)(hx:xs=B.flatMap u8c++ [.int .u8 z])(hn:n=B.length+1)(ho:w4.ownsRow 0 5 1 v4 n xs)(hk:Keeps (λk=>v'.ownBlock=some k) (wr.alloc o) w4)(hf:v4.ownBlock=v'.ownBlock\/∃g,v4.ownBlock=some g/\wr.heap.size+1<=g):Grown w w4 v v4 (B++ [z]):=by
 subst hx hn;have hs:=h.kp.size;have hk':Keeps (λk=>v'.ownBlock=some k) wr w4:=(Keeps.alloc _ _).trans (hk.mono λ_ _ h=> .inl h);refine⟨by simpa [List.flatMap_append,u8c] using ho,h.kp.trans (hk'.mono λk _ hk=> ?_), ?_⟩
 ·rcases h.nw with e|⟨g,hg,hh⟩
  ·left;rw [<-e];exact hk
  ·right;rw [hg] at hk;simp only [Option.some.injEq] at hk;omega
 ·rcases hf with e|⟨g,hg,hh⟩
  ·rcases h.nw with e'|⟨g,hg,hh⟩
   ·left;rw [e,e']
   ·right;exact⟨g,by rw [e,hg],hh⟩
  ·right;exact⟨g,hg,by omega⟩
theorem Grown.reads{w w':World}{v v' x:Value}{B:List Int}{size m:Nat}{news:List Value}(h:Grown w w' v v' B)(hr:Reads w size x m news)(hap:∀g,x.ownBlock=some g->v.ownBlock≠some g):Reads w' size x m news:=
 hr.keeps h.kp λg hg hv=>hap g hg hv
theorem Ld(v:Value)(B:List Int)(ad:Option Addr)(cap:Nat)(L:List Int)(w:World)(ho:w.ownsRow 0 5 1 v B.length (B.flatMap u8c))(hr:Reads w 1 (.slice ad L.length cap) L.length (L.flatMap i64c))
  (hap:∀g,(Value.slice ad L.length cap).ownBlock=some g->v.ownBlock≠some g) (hl:B.length+8*L.length<=1000000):
  Calls Tryz.prog 53 #[v,.slice ad L.length cap] w λe w'=>∃v',e= .returned v'/\Grown w w' v v' (B++packN L):=by
 obtain⟨i0,hi,hi0,hi1,hi2⟩:=info_parts Ez;obtain⟨av,capv,rfl,hcv,_⟩:=Ae ho;have hgr:=Grown.refl ho;obtain⟨Ho,Hr,Hap,Hgr⟩:=hid4 ho hr hap hgr;clear hgr hap hr ho;go_enter Tryz.func53,Tryz.ntmps53;go_wp2
 go_loopw [0,10] (λa c wr=>∃(j:Nat) (va:Value),j<=L.length/\c= .int .i64 (j:Nat)/\a=va/\Grown w wr (.slice av B.length capv) va (B++packN (L.take j))) (λ_ c _=>L.length-(intOf c).toNat)
 case atStart=>exact⟨0,_,Nat.zero_le _,rfl,rfl,by simpa [packN] using Hgr.out⟩
 case round=>
  obtain⟨j,va,hj,rfl,rfl,hg⟩:=hrel;by_cases hjl:j<L.length
  ·obtain⟨x,hx⟩:=Aq hjl;obtain⟨g,o,rfl,x0⟩:=(hg.reads Hr.out Hap.out).int hx;obtain⟨C,hC⟩:∃C,B++packN (L.take j)=C:=⟨_,rfl⟩;have hCl:C.length<=999992:=by rw [<-hC,List.length_append,Kk,List.length_take];omega
   have hnx:B++packN (L.take (j+1))=C++eight x:=by rw [take_snoc' hx,Kl,<-List.append_assoc,hC];simp [packN]
   rw [hC] at hg;obtain⟨Hx,Hg,HC,Hnx⟩:=hid4 hx hg hC hnx;clear hnx hC hg hx;go_wp2
   go_loopw [0,7] (λa c wr=>∃(i:Nat) (va:Value),i<=8/\c= .int .i64 (56-8*(i:Int))/\a=va/\Grown w wr (.slice av B.length capv) va (C++(eight x).take i)) (λ_ c _=>(intOf c+8).toNat)
   case atStart=>exact⟨0,_,Nat.zero_le _,rfl,rfl,by simpa using Hg.out⟩
   case round=>
    obtain⟨i,va,hi8,rfl,rfl,hg⟩:=hrel;obtain⟨K,hK⟩:∃K:Int,56-8*(i:Int)=K:=⟨_,rfl⟩;rw [hK];have hrow:=hg.row;have hEl:(C++(eight x).take i).length<=1000000:=by rw [List.length_append,List.length_take,Bu];omega
    obtain⟨av',capv',rfl,hcv',_⟩:=Ae hrow;obtain⟨E,hE⟩:∃E,C++(eight x).take i=E:=⟨_,rfl⟩;rw [hE] at hg hrow hEl hcv'⊢;by_cases hi7:i<8
    ·rcases(show i=0\/i=1\/i=2\/i=3\/i=4\/i=5\/i=6\/i=7 by omega) with rfl|rfl|rfl|rfl|rfl|rfl|rfl|rfl
     ·
      obtain rfl:K=56:=by omega
      obtain⟨Hg,Hrow,HE⟩:=hid3 hg hrow hE;clear hE hrow hg
      go_wp2_with (at_builtin;refine Ao rfl (.tmp 18) (.tmp 23) 24 rfl 0 5 i0 _ 1 1 Tryz.underlying24 hi hi0 hi1 hi2 rfl j7 (.slice av' E.length capv') E.length _ rfl (Hrow.out.alloc _) _ 1 _ rfl (Reads.lit _ _ _ _ _ rfl) jg jd j6 j6 ?_)
      refine jF ?_;intro v4 w4 Hg4;go_wp2;go_roundw
      case rel=>exact⟨0+1,_,by omega,by go_num,rfl,by have:=Hg4.out;rw [<-HE.out,List.append_assoc] at this;first|exact this|(simp at this⊢;exact this)⟩
      case measure=>simp [intOf]
     ·
      obtain rfl:K=48:=by omega
      obtain⟨Hg,Hrow,HE⟩:=hid3 hg hrow hE;clear hE hrow hg
      go_wp2_with (at_builtin;refine Ao rfl (.tmp 18) (.tmp 23) 24 rfl 0 5 i0 _ 1 1 Tryz.underlying24 hi hi0 hi1 hi2 rfl j7 (.slice av' E.length capv') E.length _ rfl (Hrow.out.alloc _) _ 1 _ rfl (Reads.lit _ _ _ _ _ rfl) jg jd j6 j6 ?_)
      refine jF ?_;intro v4 w4 Hg4;go_wp2;go_roundw
      case rel=>exact⟨1+1,_,by omega,by go_num,rfl,by have:=Hg4.out;rw [<-HE.out,List.append_assoc] at this;first|exact this|(simp at this⊢;exact this)⟩
      case measure=>simp [intOf]
     ·
      obtain rfl:K=40:=by omega
      obtain⟨Hg,Hrow,HE⟩:=hid3 hg hrow hE;clear hE hrow hg
      go_wp2_with (at_builtin;refine Ao rfl (.tmp 18) (.tmp 23) 24 rfl 0 5 i0 _ 1 1 Tryz.underlying24 hi hi0 hi1 hi2 rfl j7 (.slice av' E.length capv') E.length _ rfl (Hrow.out.alloc _) _ 1 _ rfl (Reads.lit _ _ _ _ _ rfl) jg jd j6 j6 ?_)
      refine jF ?_;intro v4 w4 Hg4;go_wp2;go_roundw
      case rel=>exact⟨2+1,_,by omega,by go_num,rfl,by have:=Hg4.out;rw [<-HE.out,List.append_assoc] at this;first|exact this|(simp at this⊢;exact this)⟩
      case measure=>simp [intOf]
     ·
      obtain rfl:K=32:=by omega
      obtain⟨Hg,Hrow,HE⟩:=hid3 hg hrow hE;clear hE hrow hg
      go_wp2_with (at_builtin;refine Ao rfl (.tmp 18) (.tmp 23) 24 rfl 0 5 i0 _ 1 1 Tryz.underlying24 hi hi0 hi1 hi2 rfl j7 (.slice av' E.length capv') E.length _ rfl (Hrow.out.alloc _) _ 1 _ rfl (Reads.lit _ _ _ _ _ rfl) jg jd j6 j6 ?_)
      refine jF ?_;intro v4 w4 Hg4;go_wp2;go_roundw
      case rel=>exact⟨3+1,_,by omega,by go_num,rfl,by have:=Hg4.out;rw [<-HE.out,List.append_assoc] at this;first|exact this|(simp at this⊢;exact this)⟩
      case measure=>simp [intOf]
     ·
      obtain rfl:K=24:=by omega
      obtain⟨Hg,Hrow,HE⟩:=hid3 hg hrow hE;clear hE hrow hg
      go_wp2_with (at_builtin;refine Ao rfl (.tmp 18) (.tmp 23) 24 rfl 0 5 i0 _ 1 1 Tryz.underlying24 hi hi0 hi1 hi2 rfl j7 (.slice av' E.length capv') E.length _ rfl (Hrow.out.alloc _) _ 1 _ rfl (Reads.lit _ _ _ _ _ rfl) jg jd j6 j6 ?_)
      refine jF ?_;intro v4 w4 Hg4;go_wp2;go_roundw
      case rel=>exact⟨4+1,_,by omega,by go_num,rfl,by have:=Hg4.out;rw [<-HE.out,List.append_assoc] at this;first|exact this|(simp at this⊢;exact this)⟩
      case measure=>simp [intOf]
     ·
      obtain rfl:K=16:=by omega
      obtain⟨Hg,Hrow,HE⟩:=hid3 hg hrow hE;clear hE hrow hg
      go_wp2_with (at_builtin;refine Ao rfl (.tmp 18) (.tmp 23) 24 rfl 0 5 i0 _ 1 1 Tryz.underlying24 hi hi0 hi1 hi2 rfl j7 (.slice av' E.length capv') E.length _ rfl (Hrow.out.alloc _) _ 1 _ rfl (Reads.lit _ _ _ _ _ rfl) jg jd j6 j6 ?_)
      refine jF ?_;intro v4 w4 Hg4;go_wp2;go_roundw
      case rel=>exact⟨5+1,_,by omega,by go_num,rfl,by have:=Hg4.out;rw [<-HE.out,List.append_assoc] at this;first|exact this|(simp at this⊢;exact this)⟩
      case measure=>simp [intOf]
     ·
      obtain rfl:K=8:=by omega
      obtain⟨Hg,Hrow,HE⟩:=hid3 hg hrow hE;clear hE hrow hg
      go_wp2_with (at_builtin;refine Ao rfl (.tmp 18) (.tmp 23) 24 rfl 0 5 i0 _ 1 1 Tryz.underlying24 hi hi0 hi1 hi2 rfl j7 (.slice av' E.length capv') E.length _ rfl (Hrow.out.alloc _) _ 1 _ rfl (Reads.lit _ _ _ _ _ rfl) jg jd j6 j6 ?_)
      refine jF ?_;intro v4 w4 Hg4;go_wp2;go_roundw
      case rel=>exact⟨6+1,_,by omega,by go_num,rfl,by have:=Hg4.out;rw [<-HE.out,List.append_assoc] at this;first|exact this|(simp at this⊢;exact this)⟩
      case measure=>simp [intOf]
     ·
      obtain rfl:K=0:=by omega
      obtain⟨Hg,Hrow,HE⟩:=hid3 hg hrow hE;clear hE hrow hg
      go_wp2_with (at_builtin;refine Ao rfl (.tmp 18) (.tmp 23) 24 rfl 0 5 i0 _ 1 1 Tryz.underlying24 hi hi0 hi1 hi2 rfl j7 (.slice av' E.length capv') E.length _ rfl (Hrow.out.alloc _) _ 1 _ rfl (Reads.lit _ _ _ _ _ rfl) jg jd j6 j6 ?_)
      refine jF ?_;intro v4 w4 Hg4;go_wp2;go_roundw
      case rel=>exact⟨7+1,_,by omega,by go_num,rfl,by have:=Hg4.out;rw [<-HE.out,List.append_assoc] at this;first|exact this|(simp at this⊢;exact this)⟩
      case measure=>simp [intOf]
    ·obtain rfl:i=8:=by omega
     have hK':K= -8:=j8;subst hK';rw [List.take_of_length_le (by rw [Bu];omega)] at hE;obtain⟨Hg,Hrow,HE⟩:=hid3 hg hrow hE;clear hE hrow hg;go_wp2;go_roundw
     case rel=>exact⟨j+1,_,by omega,by go_num,rfl,by rw [Hnx.out,HE.out];exact Hg.out⟩
     case measure=>simp [intOf];omega
  ·obtain rfl:j=L.length:=by omega
   rw [List.take_length] at hg;have Hg:=Lib.hid hg;clear hg;go_wp2;go_ret;exact⟨_,rfl,Hg.out⟩
def strOf(L:List Int):ByteArray:=L.foldl (λr n=>r.push (UInt8.ofNat n.toNat)) ByteArray.empty
theorem Gn(L:List Int):L.flatMap u8c=L.map (Value.int .u8):=by
 induction L with
 |nil=>rfl
 |cons a l ih=>rw [List.flatMap_cons,ih];rfl
theorem Uj{w:World}{src dst e:TypeId}(hs:Tryz.prog.underlying src=some (.slice e))(he:Tryz.prog.underlying e=some (.int .u8))(hd:Tryz.prog.underlying dst=some .string){ad:Option Addr}{cap:Nat}{L:List Int}(hr:Reads w 1 (.slice ad L.length cap) L.length (L.flatMap u8c)):
  (convert src dst (.slice ad L.length cap)).run Tryz.prog w= .ok (.string (strOf L)) w:=by
 rw [run_convert_bytes_string w src dst e ad L.length cap hs he hd];obtain⟨ad',c',he',hm,hl,hnone,hnews⟩:=hr;simp only [Value.slice.injEq,true_and] at he';obtain⟨rfl,rfl⟩:=he';rcases ad with _|ad
 ·have:=hnone rfl;obtain rfl:L= []:=List.eq_nil_of_length_eq_zero j6;simp [Conv.bytesToString,strOf]
 ·have hc:L.flatMap u8c=L.map (Value.int .u8):=Gn L
  have h:=run_loadCells_list (P:=Tryz.prog) w ad (L.map (Value.int .u8)) (λj v hj=>by
   rw [<-hc] at hj;obtain⟨g,o,ha,hh⟩:=hnews j v hj
   cases ha
   rw [Dx];exact hh)
  simp only [List.length_map] at h;exact run_bytesToString w ad L.length cap L h
def bs(b:List Int):List Int:=(List.range 48).map λi=>b.getD i 0
theorem Zc(b:List Int):(bs b).flatMap u8c=b48 b:=by
 unfold bs b48 u8c;rw [<-List.map_eq_flatMap,List.map_map];rfl
def ob(n:Nat):List Int:= [(n:Int) / 16777216,(n:Int) / 65536,(n:Int) / 256,(n:Int) % 256]
def sumL(n:Nat)(b:List Int):List Int:=ob n++((bs b).drop 4).take 43
theorem bs_length(b:List Int):(bs b).length=48:=by simp [bs]
theorem Le(n:Nat)(b:List Int):(sumL n b).length=47:=by simp [sumL,ob,bs_length]
theorem bs_ok{b:List Int}(hb:∀z∈b,0<=z/\z<=255):∀z∈bs b,0<=z/\z<=255:=by
 intro z hz;obtain⟨i,_,rfl⟩:=List.mem_map.1 hz;rw [List.getD_eq_getElem?_getD];rcases h:b[i]? with _|y
 ·simp
 ·exact hb y (List.mem_of_getElem? h)
theorem sumL_ok{n:Nat}(hn:n<=20000){b:List Int}(hb:∀z∈b,0<=z/\z<=255):∀z∈sumL n b,0<=z/\z<=255:=by
 intro z hz;rcases List.mem_append.1 hz with h|h
 ·simp only [ob,List.mem_cons,List.not_mem_nil,or_false] at h;rcases h with rfl|rfl|rfl|rfl<;>omega
 ·exact bs_ok hb z (List.mem_of_mem_drop (List.mem_of_mem_take h))
theorem Qj(L:List Int)(k:Nat):(L.drop k).flatMap u8c=(L.flatMap u8c).drop k:=by
 rw [Gn,Gn,List.map_drop]
theorem Qc(L:List Int)(k:Nat):(L.take k).flatMap u8c=(L.flatMap u8c).take k:=by
 rw [Gn,Gn,List.map_take]
theorem Zw:(Tryz.prog.info? 223).map (·.size)=some 4:=by kernel_rfl
def sum4(n:Nat)(b:List Int):List Int:= [sumR (sumL n b) / 16777216 % 256,sumR (sumL n b) / 65536 % 256,sumR (sumL n b) / 256 % 256,sumR (sumL n b) % 256]
def sumZ(s:Int):Array Value:= #[.int .u8 (s / 16777216 % 256),.int .u8 (s / 65536 % 256),.int .u8 (s / 256 % 256),.int .u8 (s % 256)]
def sumC(n:Nat)(b:List Int):Array Value:=sumZ (sumR (sumL n b))
theorem one_sumZ(s:Int):(sumZ s).all (·.oneCell')=true:=by simp [sumZ,Value.oneCell']
theorem jSum_any(n:Nat)(b:List Int)(w:World)(hn:n<=20000)(hb:∀z∈b,0<=z/\z<=255):Calls Tryz.prog 151 #[.int .i64 n,.agg (b48 b).toArray] w λe w'=>e= .returned (.agg (sumC n b))/\Keeps (λ_=>False) w w':=by
 obtain⟨i0,hi,hi0,hi1,hi2⟩:=info_parts Ez;obtain⟨wb,hwb⟩:∃W,W=(w.alloc (.cells (b48 b).toArray 75)).alloc (.cells #[.int .u8 0,.int .u8 0,.int .u8 0,.int .u8 0] 223):=⟨_,rfl⟩;have hkb:Keeps (λ_=>False) w wb:=by rw [hwb];exact Keeps.nt (Keeps.alloc _ _) (Keeps.alloc _ _)
 have n0:(0:Int)<=(n:Int):=j8;have n1:(n:Int)<=20000:=j8;obtain⟨Hi,Hi0,Hi1,Hi2,Hwb,Hkb⟩:=hid6 hi hi0 hi1 hi2 hwb hkb;clear hkb hwb hi2 hi1 hi0 hi;go_enter Tryz.func151,Tryz.ntmps151
 go_upto_region 2 with fail
 obtain⟨W3,hW3⟩:∃W,W=wb.alloc (.cells #[.int .u8 ((n:Int) / 16777216),.int .u8 ((n:Int) / 65536),.int .u8 ((n:Int) / 256),.int .u8 ((n:Int) % 256)] 5):=⟨_,rfl⟩;have hs2:wb.heap.size=w.heap.size+1+1:=by rw [Hwb.out];simp
 have hb3:W3.heap[w.heap.size+1+1]?=some (.cells #[.int .u8 ((n:Int) / 16777216),.int .u8 ((n:Int) / 65536),.int .u8 ((n:Int) / 256),.int .u8 ((n:Int) % 256)] 5 (0,0)):=by rw [hW3,<-hs2];exact heap_alloc_new _ _
 have hk3:Keeps (λ_=>False) w W3:=by rw [hW3];exact Keeps.nt Hkb.out (Keeps.alloc _ _)
 have hbw:W3.heap[w.heap.size]?=some (.cells (b48 b).toArray 75 (0,0)):=by
  have h1:wb.heap[w.heap.size]?=some (.cells (b48 b).toArray 75 (0,0)):=by rw [Hwb.out];exact Ad (heap_alloc_new w _) (Keeps.alloc (S:=λ_=>False) _ _) (by simp)
  rw [hW3];exact Ad h1 (Keeps.alloc (S:=λ_=>False) _ _) (by simp)
 have hb4:W3.heap[w.heap.size+1]?=some (.cells #[.int .u8 0,.int .u8 0,.int .u8 0,.int .u8 0] 223 (0,0)):=by
  have h1:wb.heap[w.heap.size+1]?=some (.cells #[.int .u8 0,.int .u8 0,.int .u8 0,.int .u8 0] 223 (0,0)):=by
   rw [Hwb.out];have:=heap_alloc_new (w.alloc (.cells (b48 b).toArray 75)) (.cells #[.int .u8 0,.int .u8 0,.int .u8 0,.int .u8 0] 223);simpa using this
  rw [hW3];exact Ad h1 (Keeps.alloc (S:=λ_=>False) _ _) (by simp)
 have hown:W3.ownsRow 0 5 1 (.slice (some ⟨w.heap.size+1+1,0,none⟩) 4 4) 4 ((ob n).flatMap u8c):=
  ⟨rfl,.inr ⟨_,4,_,rfl,Nat.zero_le _,hb3,Nat.le_refl _,by unfold maxLen;omega,rfl,rfl⟩⟩
 have hrd:Reads W3 1 (.slice (some ⟨w.heap.size,4,none⟩) 43 44) 43 ((((bs b).drop 4).take 43).flatMap u8c):=by
  refine⟨_,44,rfl,by decide,by rw [Qc,Qj,Zc];simp [Ct],by simp,λj u hj=>⟨_,_,rfl, ?_⟩⟩;rw [Aa hbw];rw [Qc,Qj,Zc,List.getElem?_take] at hj
  split at hj
  ·rw [List.getElem?_drop] at hj;simpa using hj
  ·exact absurd hj (by simp)
 rw [<-Hwb.out,<-hW3];clear hW3;obtain⟨Hb3,Hk3,Hbw,Hb4,Hown,Hrd,Hs2⟩:=hid7 hb3 hk3 hbw hb4 hown hrd hs2;clear hs2 hrd hown hb4 hbw hk3 hb3
 go_wp2_with (at_builtin;refine Ao rfl (.tmp 19) (.tmp 20) 24 rfl 0 5 i0 _ 1 1 Tryz.underlying24 Hi.out Hi0.out Hi1.out Hi2.out rfl j7 (.slice (some ⟨w.heap.size+1+1,0,none⟩) 4 4) 4 _ rfl Hown.out _ 43 _ rfl Hrd.out (by rw [Qc,Qj,Zc];intro u hu;exact b48_one _ u (List.mem_of_mem_drop (List.mem_of_mem_take hu))) jd j6 j6 ?_)
 intro v4 w4 hown4 hk4 hf4;obtain⟨a4,c4,rfl,_⟩:=Ae hown4;have hown4':w4.ownsRow 0 5 1 (.slice a4 47 c4) 47 ((sumL n b).flatMap u8c):=by unfold sumL;rw [List.flatMap_append];exact hown4
 have hkw4:Keeps (λ_=>False) w w4:=Hk3.out.trans (hk4.mono λk _ e=> .inr (by have e':w.heap.size+1+1=k:=Option.some.inj e;omega))
 have hbw4:w4.heap[w.heap.size+1]?=some (.cells #[.int .u8 0,.int .u8 0,.int .u8 0,.int .u8 0] 223 (0,0)):=by
  rw [hk4.block _ (lt_of_block Hb4.out) (λe=>by have e':w.heap.size+1+1=w.heap.size+1:=Option.some.inj e;omega)];exact Hb4.out
 have hsum:=Ada a4 c4 (sumL n b) w4 (by rw [Le];exact Reads.Az hown4') (sumL_ok hn hb) (by rw [Le];decide);rw [Le] at hsum;obtain⟨s,hs⟩:∃s,sumR (sumL n b)=s:=⟨_,rfl⟩;rw [hs] at hsum;clear hown4 hk4 hf4;obtain⟨Hown4',Hkw4,Hsum,Hs,Hbw4⟩:=hid5 hown4' hkw4 hsum hs hbw4;clear hbw4 hs hsum hkw4 hown4'
 go_wp2_with (first|(go_at_call 185;(with_reducible refine Hsum.out.mono ?_);rintro e w5 ⟨rfl,hw5⟩;subst w5)|(refine wpList_store_row (o:=⟨none,_,_,_,_,_⟩) rfl 223 (.tmp 4) (.tmp 34) rfl (w.heap.size+1) (sumZ s) rfl rfl 223 #[.int .u8 0,.int .u8 0,.int .u8 0,.int .u8 0] Hbw4.out Zw rfl (one_sumZ s) ?_))
 exact bodyPost_ret (results_cell_row rfl _ _ (w.heap.size+1) 223 (sumZ s) _ _ rfl (setRow_heap _ _ _ _ _ _ Hbw4.out) Tryz.underlying223 rfl Zw) rfl ⟨by unfold sumC;rw [Hs.out],Hkw4.out.trans ((Keeps.setRow _ _ _).mono λk _ e=> .inr j6)⟩
theorem Ul{L:List Int}(h:L.length=48):b48 L=L.map (Value.int .u8):=by
 rw [<-Zc,Gn]
 congr 1
 apply List.ext_getElem?
 intro i;unfold bs;by_cases hi:i<48
 ·rw [List.getElem?_map,List.getElem?_range hi];simp [List.getD_eq_getElem?_getD,List.getElem?_eq_getElem (show i<L.length by omega)]
 ·rw [List.getElem?_eq_none jm,List.getElem?_eq_none j6]
theorem b48_set{L:List Int}(h:L.length=48)(i:Nat)(v:Int):(b48 L).toArray.setIfInBounds i (.int .u8 v)=(b48 (L.set i v)).toArray:=by
 rw [Ul h,Ul (by rw [List.length_set];exact h),List.setIfInBounds_toArray,List.map_set]
theorem Ja{L B:List Int}(h:L.length=48){o:Nat}(ho:o+B.length<=48):laid (b48 L) o (B.flatMap u8c)=b48 (L.take o++B++L.drop (o+B.length)):=by
 rw [Ul h,Ul jm,Gn];unfold laid;simp [List.map_take,List.map_drop]
def flagI(first last:Bool):Int:=(if first then 1 else 0)+(if last then 2 else 0)
def pageL(first last:Bool)(B:List Int):List Int:= [0,0,0,0,flagI first last,B.length]++B++List.replicate (41-B.length) 0++ [90]
def pageR(n:Nat)(first last:Bool)(B:List Int):List Int:=sum4 n (pageL first last B)++ [flagI first last,B.length]++B++List.replicate (41-B.length) 0++ [90]
theorem set48{w:World}{X:Nat}{L:List Int}{t:TypeId}(h:w.heap[X]?=some (.cells (b48 L).toArray t (0,0)))(hl:L.length=48)(i:Nat)(v:Int):
  (w.setCell ⟨X,i,none⟩ (.int .u8 v)).heap[X]?=some (.cells (b48 (L.set i v)).toArray t (0,0)):=by
 rw [<-b48_set hl];exact heap_setCell_same _ _ i _ _ _ h
structure At48(w:World)(X:Nat)(L:List Int):Prop where
 blk:w.heap[X]?=some (.cells (b48 L).toArray 75 (0,0))
 len:L.length=48
theorem At48.set{w:World}{X:Nat}{L:List Int}(h:At48 w X L)(i:Nat)(v:Int):At48 (w.setCell ⟨X,i,none⟩ (.int .u8 v)) X (L.set i v):=⟨set48 h.blk h.len i v,by rw [List.length_set];exact h.len⟩
theorem Da{P:Program}{c:Code}{Q:Exit->Act->World->Prop}{a:Act}{w:World}(h:∀W,W=w->c.wp P Q a W):c.wp P Q a w:=h w rfl
theorem Dj:(Tryz.prog.info? 5).map (·.size)=some 1:=by kernel_rfl
theorem Jb(w:World)(a b:Obj):((w.alloc a).alloc b).heap[w.heap.size+1]?=some b:=by have:=heap_alloc_new (w.alloc a) b;simpa using this
theorem pageL_eq{l6 B:List Int}{m:Nat}(h6:l6.length=6)(hm:B.length=m)(h:m<=41):
  ((l6++List.replicate 42 0).take 6++B++(l6++List.replicate 42 0).drop (6+m)).set 47 90=l6++B++List.replicate (41-m) 0++ [90]:=by
 rw [List.take_left' h6,List.drop_append,h6,List.drop_of_length_le j6,show 6+m-6=m by omega,List.drop_replicate,List.nil_append,show 42-m=(41-m)+1 by omega,List.replicate_succ',<-List.append_assoc,
  List.set_append_right _ _ (by simp;omega)]
 simp [h6,hm,show 6+(m+(41-m))=47 by omega]
theorem pageL_ok{first last:Bool}{B:List Int}(h:B.length<=41)(hB:∀z∈B,0<=z/\z<=255):∀z∈pageL first last B,0<=z/\z<=255:=by
 intro z hz;unfold pageL at hz;simp only [List.mem_append,List.mem_cons,List.not_mem_nil,or_false,List.mem_replicate] at hz;rcases hz with(((rfl|rfl|rfl|rfl|rfl|rfl)|hz)|⟨_,rfl⟩)|rfl
 all_goals first|omega|exact hB z hz|(unfold flagI;cases first<;>cases last<;>decide)
theorem Jo(n:Nat)(first last:Bool)(B:List Int):(pageL first last B).take 0++sum4 n (pageL first last B)++(pageL first last B).drop (0+(sum4 n (pageL first last B)).length)=pageR n first last B:=by
 unfold pageR;have h4:(sum4 n (pageL first last B)).length=4:=rfl;rw [h4];have h5:(pageL first last B).drop (0+4)= [flagI first last,(B.length:Int)]++B++List.replicate (41-B.length) 0++ [90]:=rfl;rw [h5];simp
theorem page3{first last:Bool}{B L2:List Int}{m mI:Nat}{fl:Int}{W2 w3:World}{X:Nat}(hm:B.length=m)(h2:At48 W2 X L2)(he:L2= [0,0,0,0,fl,(mI:Int)]++List.replicate 42 0)(h3:w3.heap[X]?=some (.cells (laid (b48 L2) 6 (B.flatMap u8c)).toArray 75 (0,0)))
  (hm2:m<=41) (hfl:flagI first last=fl) (hmI:mI=m):
  At48 (w3.setCell ⟨X,47,none⟩ (.int .u8 90)) X (pageL first last B)/\∃z,w3.cell? ⟨X,47,none⟩=some (.int .u8 z)/\w3.frozen? ⟨X,47,none⟩=false/\X<w3.heap.size:=by
 rw [Ja h2.len j6] at h3;have h48:(L2.take 6++B++L2.drop (6+B.length)).length=48:=by have:=h2.len;simp;omega
 have hA:At48 w3 X (L2.take 6++B++L2.drop (6+B.length)):=⟨h3,h48⟩;refine⟨?_, ?_⟩
 ·have:=hA.set 47 90;rw [he,hm,pageL_eq rfl hm hm2] at this;unfold pageL;rw [hfl,hm,<-hmI];rw [hmI] at this⊢;exact this
 ·obtain⟨z,hz⟩:=Aq (show 47<(L2.take 6++B++L2.drop (6+B.length)).length by omega);refine⟨z, ?_,Ab h3 _,lt_of_block h3⟩;rw [Aa h3,Ul h48,List.getElem?_toArray,List.getElem?_map,hz];rfl
theorem jPage_ok(n:Nat)(first last:Bool)(ad:Option Addr)(cap:Nat)(B:List Int)(w:World)(hr:Reads w 1 (.slice ad B.length cap) B.length (B.flatMap u8c))(hB:∀z∈B,0<=z/\z<=255)
  (hn:n<=20000) (h1:1<=B.length) (h2:B.length<=41) (h3:B.length=41\/last=true):
  Calls Tryz.prog 111 #[.int .i64 n,.bool first,.bool last,.slice ad B.length cap] w λe w'=>e= .returned (.tuple #[.agg (b48 (pageR n first last B)).toArray,.int .i64 0])/\Keeps (λ_=>False) w w':=by
 obtain⟨m,hm⟩:∃m,B.length=m:=⟨_,rfl⟩;rw [hm] at hr h1 h2 h3⊢;have n0:(0:Int)<=(n:Int):=j8;have n1:(n:Int)<=20000:=j8;have m1:(1:Int)<=(m:Int):=j8;have m2:(m:Int)<=41:=j8
 have hcase:(m=41/\last=false)\/(m=41/\last=true)\/((m:Int)<41/\last=true):=by
  rcases h3 with h3|h3
  ·cases last
   ·exact .inl ⟨h3,rfl⟩
   ·exact .inr (.inl ⟨h3,rfl⟩)
  ·by_cases h4:m=41
   ·exact .inr (.inl ⟨h4,h3⟩)
   ·exact .inr (.inr ⟨by omega,h3⟩)
 clear h3;obtain⟨x0,hx0⟩:=Aq (show 0<B.length by omega);obtain⟨gs,os,hads,_⟩:=Reads.int (k:= .u8) hr hx0;subst hads
 have hsrc:∀W,Keeps (λ_=>False) w W->∀j v,(B.flatMap u8c)[j]?=some v->W.cell? ((⟨gs,os,none⟩:Addr).add j)=some v:=by
  intro W hW j v hj;obtain⟨ad',c',he,_,_,_,hcell⟩:=hr.keeps hW (λ_ _ h=>h);obtain⟨g',o',he',hc⟩:=hcell j v hj;have e1:=(Value.slice.inj he).1;rw [he'] at e1
  cases e1
  rw [Dx];exact hc
 have hBl:(B.flatMap u8c).length=m*1:=by rw [Cm (f:=u8c) (λ_=>rfl),hm]
 have hBo:∀v∈B.flatMap u8c,v.oneCell'=true:=by rw [Gn];intro v hv;obtain⟨z,_,rfl⟩:=List.mem_map.1 hv;rfl
 obtain⟨Hr,Hm,Hsrc,HBl,HBo⟩:=hid5 hr hm hsrc hBl hBo;clear hBo hBl hsrc hm hr;obtain⟨fl,hfl⟩:∃fl,flagI first last=fl:=⟨_,rfl⟩;have qa:decide ((n:Int)<0)=false:=by rw [decide_eq_false_iff_not];omega
 have qb:decide ((20000:Int)<(n:Int))=false:=by rw [decide_eq_false_iff_not];omega
 obtain⟨mI,hmI⟩:∃x:Nat,x=m:=⟨_,rfl⟩;have hmin:Nat.min m 42=m:=Nat.min_eq_left j6;obtain⟨Hfl,HmI,Hmin⟩:=hid3 hfl hmI hmin;clear hmin hmI hfl;obtain⟨LP,hLP⟩:∃L,pageL first last B=L:=⟨_,rfl⟩
 have hjs:∀W,Calls Tryz.prog 151 #[.int .i64 n,.agg (b48 LP).toArray] W λe w'=>(∃s0 s1 s2 s3,e= .returned (.agg #[.int .u8 s0,.int .u8 s1,.int .u8 s2,.int .u8 s3])/\sum4 n LP= [s0,s1,s2,s3])/\Keeps (λ_=>False) W w':=λW=>
  (jSum_any n LP W hn (by rw [<-hLP];exact pageL_ok jG hB)).mono (by rintro e w' ⟨rfl,hk⟩;exact⟨⟨_,_,_,_,rfl,rfl⟩,hk⟩)
 obtain⟨HLP,Hjs⟩:=hid2 hLP hjs;clear hjs hLP;obtain⟨R,hR⟩:∃R,pageR n first last B=R:=⟨_,rfl⟩;rw [hR];go_enter Tryz.func111,Tryz.ntmps111
 go_upto_region 2 with fail
 refine Da λW1 hW1=> ?_;have hk1:Keeps (λ_=>False) w W1:=by rw [hW1];exact Keeps.nt (Keeps.alloc _ _) (Keeps.alloc _ _)
 have hb1:W1.heap[w.heap.size+1]?=some (.cells (b48 (List.replicate 48 0)).toArray 75 (0,0)):=by rw [hW1];exact Jb w _ _
 refine j2m ?_;intro hb0;have c4:W1.cell? ⟨w.heap.size+1,4,none⟩=some (.int .u8 0):=Aa hb1 4;have c5:W1.cell? ⟨w.heap.size+1,5,none⟩=some (.int .u8 0):=Aa hb1 5;have f4:=Ab hb1 4;have f5:=Ab hb1 5;have hat1:At48 W1 (w.heap.size+1) (List.replicate 48 0):=⟨hb1,List.length_replicate⟩;have lt:=lt_of_block hb1;clear hW1;obtain⟨Hk1,Hb1,Hb0,HR,Hat1⟩:=hid5 hk1 hb1 hb0 hR hat1;clear hat1 hR hb0 hb1 hk1
 cases first
 ·rcases hcase with⟨rfl,rfl⟩|⟨rfl,rfl⟩|⟨hlt,rfl⟩
  ·
   go_upto_region 9 with fail
   refine Da λW2 hW2=> ?_
   obtain⟨L2,hL2,hL2e⟩:∃L,At48 W2 (w.heap.size+1) L/\L= [0,0,0,0,fl,(mI:Int)]++List.replicate 42 0:=by
    rw [hW2];exact⟨_,Hat1.out.set 5 _,by rw [<-Hfl.out,HmI.out];rfl⟩
   exact j17
  ·exact j18
  ·exact j18
 ·rcases hcase with⟨rfl,rfl⟩|⟨rfl,rfl⟩|⟨hlt,rfl⟩
  ·exact j18
  ·exact j2n
  ·exact j2n
theorem Vr(P:Nat)(v:Value)(p:Pd)(k:Nat)(w:World)(h:PadAt w P v p)(hb:∀x,p.l[k]?=some x->x.is=0):Calls Tryz.prog 38 #[(.pointer (some ⟨P,0,none⟩)),.int .i64 k] w (Me w [] false):=by
 rcases hx:p.l[k]? with _|x
 ·exact Aca P v p k w h (by have:=List.getElem?_eq_none_iff.1 hx;omega)
 ·have:=Acb P v p k x w h hx;rw [if_pos (hb x hx),decide_eq_true (hb x hx)] at this;exact this
theorem Ack(P:Nat)(k:Nat)(w:World)(hl:∀W,Keeps (λ_=>False) w W->Calls Tryz.prog 38 #[(.pointer (some ⟨P,0,none⟩)),.int .i64 k] W (Me W [] false)):
  Calls Tryz.prog 103 #[(.pointer (some ⟨P,0,none⟩)),.int .i64 k] w λe w'=>e= .returned (.tuple #[.slice none 0 0,.int .i64 0,.bool false])/\Keeps (λ_=>False) w w':=by
 have Hl:=Lib.hid hl;clear hl;go_enter Tryz.func103,Tryz.ntmps103;go_wp2_with fail
 go_loopw [1] (λa wr=>a= .int .i64 k/\wr=w) (λ_ _=>0)
 case atStart=>exact⟨rfl,rfl⟩
 case round=>
  obtain⟨rfl,rfl⟩:=hrel
  go_wp2_with (first|(go_at_call 38;(with_reducible refine(Hl.out _ (Keeps.refl _ _)).mono ?_);rintro e w1 ⟨rfl,hk1⟩;have Hk1:=Lib.hid hk1;clear hk1)|(refine wpList_store_row rfl 75 (.tmp 9) (.tmp 22) rfl w1.heap.size (b48 []).toArray rfl rfl 75 (b48 (List.replicate 48 0)).toArray (heap_alloc_new w1 _) Bh rfl (Ec _) ?_))
  exact bodyPost_ret (v:= .tuple #[.slice none 0 0,.int .i64 0,.bool false]) (by simp [results,Tryz.results103,go_sem]) rfl ⟨rfl,(Keeps.nt Hk1.out (Keeps.alloc _ _)).trans ((Keeps.setRow _ _ _).mono λk _ e=> .inr jU)⟩
structure JrnAt(w:World)(J P:Nat)(fl:Int)(vl:Value)(used:Int):Prop where
 blk:w.heap[J]?=some (.cells #[(.pointer (some ⟨P,0,none⟩)),.int .i64 fl,vl,.int .i64 used] 168 (0,0))
theorem jUp_any(J P:Nat)(v:Value)(p:Pd)(fl:Int)(vl:Value)(used:Int)(w:World)(h:JrnAt w J P fl vl used)(hp:PadAt w P v p):
  Calls Tryz.prog 67 #[(.pointer (some ⟨J,0,none⟩))] w λe w'=>e= .returned (.int .i64 (if p.dn=true\/p.fl≠fl then 15 else 0))/\Keeps (λ_=>False) w w':=by
 have c0:w.cell? ⟨J,0,none⟩=some (.pointer (some ⟨P,0,none⟩)):=Aa h.blk 0;have c1:w.cell? ⟨J,1,none⟩=some (.int .i64 fl):=Aa h.blk 1;have lt:=lt_of_block h.blk;have hd:∀W,Keeps (λ_=>False) w W->Calls Tryz.prog 100 #[(.pointer (some ⟨P,0,none⟩))] W λe w'=>e= .returned (.bool p.dn)/\W=w':=λW hW=>(Rb P v p W (hp.keeps hW (by simp))).mono λe w' h=>⟨h.1,h.2.symm⟩;have hf:∀W,Keeps (λ_=>False) w W->Calls Tryz.prog 101 #[(.pointer (some ⟨P,0,none⟩))] W λe w'=>e= .returned (.int .i64 p.fl)/\W=w':=λW hW=>(Pi P v p W (hp.keeps hW (by simp))).mono λe w' h=>⟨h.1,h.2.symm⟩;obtain⟨l,sn,pf,dn⟩:=p;simp only at hd hf⊢;obtain⟨H,Hp,Hd,Hf⟩:=hid4 h hp hd hf;clear hf hd hp h
 cases dn
 ·by_cases e1:pf=fl
  ·have e1b:(pf !=fl)=false:=by simp [e1]
   rw [if_neg (by simp [e1])];exact j2o
  ·have e1b:(pf !=fl)=true:=by simp [e1]
   rw [if_pos (.inr e1)];exact j2o
 ·rw [if_pos (.inl rfl)];go_enter Tryz.func67,Tryz.ntmps67;go_wp2_with fail;refine Al (λW=>(W.cell? ⟨J,0,none⟩=some (.pointer (some ⟨P,0,none⟩))/\W.cell? ⟨J,1,none⟩=some (.int .i64 fl)/\J<W.heap.size)/\Keeps (λ_=>False) w W) (.take 0 (.take 1 (.take 2 (.take 3 (.take 4 (.take 5 (.take 6 (.take 7 (.take 8 (.take 9 (.take 10 (.take 11 (.take 12 (.take 13 (.take 14 (.take 15 (.take 16 (.take 17 .done)))))))))))))))))) j9 j9 ?_ ?_
  ·exact⟨⟨c0,c1,lt⟩,Keeps.drew _⟩
  intro w1 hs1 hk1;have Hk1:=Lib.hid hs1.2;clear hs1 hk1;refine jR ?_;refine Fp (v:= ?_) rfl (by rfl) ?_ ?_ ?_ ?_ ?_
  rotate_left 3
  ·exact j0z
  ·intro w' hSw;exact(Hd.out w' hSw.2)
  rotate_right 3
  try simp only [aps]
  refine jn ?_;exact jV
theorem Yd(J P:Nat)(fl used:Int)(w:World)(h:JrnAt w J P fl (.slice none 0 0) used):Calls Tryz.prog 59 #[(.pointer (some ⟨J,0,none⟩))] w λe w'=>e= .returned (.slice none 0 0)/\w'=w:=by
 have c2:w.cell? ⟨J,2,none⟩=some (.slice none 0 0):=Aa h.blk 2;have lt:=lt_of_block h.blk;have H:=Lib.hid h;clear h;go_enter Tryz.func59,Tryz.ntmps59;go_wp2_with fail
 go_loopw [3,13] (λb c wr=>b= .slice none 0 0/\c= .int .i64 0/\wr=w) (λ_ _ _=>0)
 case atStart=>exact⟨rfl,rfl,rfl⟩
 case round=>
  obtain⟨rfl,rfl,rfl⟩:=hrel;exact ji
theorem map_dry{l:List Lf}(hb:∀x∈l,x.is=0):l.map dryL=l:=by
 rw [List.map_congr_left (g:=id) (λx hx=>by unfold dryL;rw [if_neg (by rw [hb x hx];decide)];rfl),List.map_id]
theorem Qd(p:Pd):(Df p).l=p.l:=by unfold Df sinkR;split<;>rfl
theorem Aau(P:Nat)(v:Value)(p:Pd)(w:World)(h:PadAt w P v p)(hf:p.fl+1<=1000000)(hd:p.dn=false)(hs:¬p.sn=1)(hb:∀x∈p.l,x.is=0):
  Calls Tryz.prog 57 #[(.pointer (some ⟨P,0,none⟩))] w λe w'=>∃J,e= .returned (.tuple #[(.pointer (some ⟨J,0,none⟩)),.int .i64 0])/\w.heap.size<=J/\JrnAt w' J P p.fl (.slice none 0 0) 0/\PadAt w' P v (Df p)/\Keeps (PFoot P v) w w':=by
 have h1:=Rb P v p w h;rw [hd] at h1;have h2:=Pi P v p w h;obtain⟨w1,hw1⟩:∃W,W=w.alloc (.cells #[(.pointer (some ⟨P,0,none⟩)),.int .i64 p.fl,.slice none 0 0,.int .i64 0] 168):=⟨_,rfl⟩;have hk1:Keeps (λ_=>False) w w1:=by rw [hw1];exact Keeps.alloc _ _
 have hJ1:w1.heap[w.heap.size]?=some (.cells #[(.pointer (some ⟨P,0,none⟩)),.int .i64 p.fl,.slice none 0 0,.int .i64 0] 168 (0,0)):=by rw [hw1];exact heap_alloc_new w _
 have hp1:=h.keeps hk1 (by simp);have hdry:=Tt P v p w1 hp1 hf hd hs;rw [map_dry hb,show({ Df p with l:=p.l }:Pd)=Df p by rw [<-Qd p]] at hdry;have hlt:=h.row.lt;have hPw:=lt_of_block h.blk;have hlb:∀(W:World) (k:Nat),PadAt W P v (Df p)->Calls Tryz.prog 38 #[(.pointer (some ⟨P,0,none⟩)),.int .i64 k] W (Me W [] false):=λW k hW=>Vr P v _ k W hW (λx hx=>hb x (by rw [Qd] at hx;exact List.mem_of_getElem? hx));have hln:∀(W:World),PadAt W P v (Df p)->Calls Tryz.prog 26 #[(.pointer (some ⟨P,0,none⟩))] W λe w'=>e= .returned (.int .i64 p.l.length)/\w'=W:=λW hW=>by have:=Tq P v _ W hW;rw [Qd] at this;exact this
 obtain⟨m,hm⟩:∃m,p.l.length=m:=⟨_,rfl⟩;have hm2:=h.n;rw [hm] at hln hm2;obtain⟨H,H1,H2,Hw1,Hk1,HJ1,Hp1,Hdry,Hlt⟩:=hid9 h h1 h2 hw1 hk1 hJ1 hp1 hdry hlt;clear hlt hdry hp1 hJ1 hk1 hw1 h2 h1 h;obtain⟨Hlb,Hln,Hm,Hb⟩:=hid4 hlb hln hm hb;clear hb hm hln hlb;go_enter Tryz.func57,Tryz.ntmps57
 go_wp2_with (first|(go_at_call 100;(with_reducible refine H1.out.mono ?_);rintro e w2 ⟨rfl,hw2⟩;subst w2)|(go_at_call 101;(with_reducible refine H2.out.mono ?_);rintro e w2 ⟨rfl,hw2⟩;subst w2)|(go_at_call 102;rw [<-Hw1.out];(with_reducible refine Hdry.out.mono ?_);rintro e w3 ⟨rfl,hp3,hk3⟩;have Hp3:=Lib.hid hp3;have Hk3:=Lib.hid hk3;clear hp3 hk3))
 have hk03:Keeps (PFoot P v) w w3:=(Hk1.out.mono λ_ _ h=>h.elim).trans (Hk3.out.mono λ_ _ e=> .inl e)
 have hJ3:w3.heap[w.heap.size]?=some (.cells #[(.pointer (some ⟨P,0,none⟩)),.int .i64 p.fl,.slice none 0 0,.int .i64 0] 168 (0,0)):=by
  rw [Hk3.out.block _ (lt_of_block HJ1.out) ?_];exact HJ1.out;rintro(e|e)
  ·omega
  ·exact absurd (Hlt.out _ e).2 j6
 have c3:w3.cell? ⟨w.heap.size,3,none⟩=some (.int .i64 0):=Aa hJ3 3;have l3:=lt_of_block hJ3;have hrec:Calls Tryz.prog 103 #[(.pointer (some ⟨P,0,none⟩)),.int .i64 0] w3 λe w'=>e= .returned (.tuple #[.slice none 0 0,.int .i64 0,.bool false])/\Keeps (λ_=>False) w3 w':=Ack P 0 w3 (λW hW=>Hlb.out W 0 (Hp3.out.keeps hW (by simp)));obtain⟨Hk03,HJ3,Hrec⟩:=hid3 hk03 hJ3 hrec;clear hrec hJ3 hk03
 go_loopw [8] (λ_ wr=>wr=w3) (λ_ _=>0)
 case atStart=>exact rfl
 case round=>
  have hwr:wr=w3:=hrel;clear hrel;subst wr
  go_wp2_with (go_at_call 103;(with_reducible refine Hrec.out.mono ?_);rintro e w4 ⟨rfl,hk4⟩;have c4:w4.cell? ⟨w.heap.size,3,none⟩=some (.int .i64 0):=(hk4.cell l3 (by simp)).trans c3;have l4:=Nat.lt_of_lt_of_le l3 hk4.size;have Hk4:=Lib.hid hk4;clear hk4)
  go_loopw [9] (λa wr=>∃k:Nat,k<=m/\a= .int .i64 k/\Keeps (λ_=>False) w3 wr) (λa _=>m-(intOf a).toNat)
  case atStart=>exact⟨0,Nat.zero_le _,rfl,Hk4.out⟩
  case round=>
   obtain⟨k,hk,rfl,hkr⟩:=hrel;have hpr:=Hp3.out.keeps hkr (by simp);have hl1:=Hln.out wr hpr;have hl2:=Hlb.out wr k hpr;by_cases hkm:k<m
   ·have hkI:(k:Int)<(m:Int):=j8;obtain⟨Hkr,Hpr,Hl1,Hl2⟩:=hid4 hkr hpr hl1 hl2;clear hl2 hl1 hpr hkr
    go_wp2_with (first|(go_at_call 26;(with_reducible refine Hl1.out.mono ?_);rintro e w5 ⟨rfl,hw5⟩;subst w5)|(go_at_call 38;(with_reducible refine Hl2.out.mono ?_);rintro e w6 ⟨rfl,hk6⟩;have Hk6:=Lib.hid hk6;clear hk6)|(refine wpList_store_row rfl 75 (.tmp 10) (.tmp 69) rfl w6.heap.size (b48 []).toArray rfl rfl 75 (b48 (List.replicate 48 0)).toArray (heap_alloc_new w6 _) Bh rfl (Ec _) ?_))
    refine⟨⟨k+1,by omega,by go_num,(Keeps.nt (Keeps.nt Hkr.out Hk6.out) (Keeps.alloc _ _)).trans ((Keeps.setRow _ _ _).mono λi _ e=> .inr (by have:=Hkr.out.size;have:=Hk6.out.size;omega))⟩,by simp [intOf];omega⟩
   ·obtain rfl:k=m:=by omega
    obtain⟨Hkr,Hpr,Hl1,Hl2⟩:=hid4 hkr hpr hl1 hl2;clear hl2 hl1 hpr hkr
    go_wp2_with (first|(go_at_call 26;(with_reducible refine Hl1.out.mono ?_);rintro e w5 ⟨rfl,hw5⟩;subst w5))
    exact bodyPost_ret (v:= .tuple #[(.pointer (some ⟨w.heap.size,0,none⟩)),.int .i64 0]) (by simp [results,Tryz.results57,go_sem]) rfl ⟨w.heap.size,rfl,Nat.le_refl _,⟨Ad HJ3.out Hkr.out (by simp)⟩,Hpr.out,Hk03.out.trans (Hkr.out.mono λ_ _ h=>h.elim)⟩
open Go.RowKit Go.Shelf
attribute [local go_sem] Oper.semAt_some
def Za(b off len:Nat)(k:Nat):Value:= .slice (some ⟨b,off+k*41,none⟩) (min 41 (len-k*41)) (min 41 (len-k*41))
def chunks(len:Nat):Nat:=(len+40) / 41
def Di(a b:Nat)(W W':World):Prop:=W'.heap[a]?=W.heap[a]?/\W'.heap[b]?=W.heap[b]?
theorem Di.refl(a b:Nat)(W:World):Di a b W W:=⟨rfl,rfl⟩
theorem Di.trans{a b:Nat}{A B C:World}(h:Di a b A B)(k:Di a b B C):Di a b A C:=⟨k.1.trans h.1,k.2.trans h.2⟩
theorem Di.drew(a b:Nat)(W:World):Di a b W W.drew:=⟨rfl,rfl⟩
theorem Di.cell1{a b:Nat}{W W':World}(h:Di a b W W'){i:Nat}:W'.cell? ⟨a,i,none⟩=W.cell? ⟨a,i,none⟩:=by simp [World.cell?,h.1]
theorem Di.cell2{a b:Nat}{W W':World}(h:Di a b W W'){i:Nat}:W'.cell? ⟨b,i,none⟩=W.cell? ⟨b,i,none⟩:=by simp [World.cell?,h.2]
theorem chunkF_in(F:Fence)(n:Nat)(hF:F.fn 150)(hro:F.round=none)(hn:1<=n)(l Bs Bn b off len cap:Nat)(hreach:len<=1000000)(hcap:len<=cap)(J Jx:List Nat->World->Prop)
  (hY:∀pre x W,J pre W->pre.length<chunks len->x<chunks len->YieldAt F (n-1) Tryz.prog l #[Za b off len x] W λe W'=>
   (e= .returned (.bool true)/\J (pre++ [x]) W'/\Di Bs Bn W W')\/(e= .returned (.bool false)/\Jx (pre++ [x]) W'))
  (W:World) (hBs:W.cell? ⟨Bs,0,none⟩=some (.slice (some ⟨b,off,none⟩) len cap)) (hBn:W.cell? ⟨Bn,0,none⟩=some (.int .i64 41)) (h0:J [] W) (hJd:∀xs A,J xs A->J xs A.drew):
  CallsIn F n Tryz.prog 150 #[.func (.yield l) #[] #[],.pointer (some ⟨Bs,0,none⟩),.pointer (some ⟨Bn,0,none⟩)] W λe W'=>(∃v,e= .returned v)/\
   ((∃ys,ys=List.range (chunks len)/\J ys W')\/(∃pre,(∃k,k<=chunks len/\pre=List.range k)/\Jx pre W')):=by
 refine callsIn_of_wp Tryz.func150 rfl hF ?_ hro;simp only [Tryz.ntmps150,List.size_toArray,List.length_cons,List.length_nil,Nat.reduceAdd,Nat.reduceSub,Array.replicate_succ,Array.replicate_zero,List.push_toArray,List.append_toArray,List.nil_append,List.cons_append]
 gi_wp2
 gi_loopw [4] (λi wr=>∃k:Nat,k<=chunks len/\i= .int .i64 ((k*41:Nat):Int)/\J (List.range k) wr/\Di Bs Bn W wr) (λi _=>len+41-(intOf i).toNat)
 case atStart=>exact⟨0,Nat.zero_le _,rfl,h0,Di.refl _ _ _⟩
 case round=>
  obtain⟨k,hk,rfl,hJs,hnx⟩:=hrel;have c1:wr.cell? ⟨Bs,0,none⟩=some (.slice (some ⟨b,off,none⟩) len cap):=hnx.cell1.trans hBs;have c2:wr.cell? ⟨Bn,0,none⟩=some (.int .i64 41):=hnx.cell2.trans hBn;obtain⟨q,hq⟩:∃q,k*41=q:=⟨_,rfl⟩;rw [hq];by_cases hlt:q<len
  ·have hkl:k<chunks len:=by unfold chunks;omega
   obtain⟨fn,tmps,assign,body,hy,hR⟩:=hY _ k wr.drew (hJd _ _ hJs) (by rw [List.length_range];exact hkl) hkl;unfold Za at hy;rw [hq] at hy;have hltI:(q:Int)<(len:Int):=j8;have hq0:(0:Int)<=(q:Int):=j8;have hqc:(q:Int)<=(len:Int):=j8;have hqcap:(len:Int)<=(cap:Int):=j8;obtain⟨d,hd⟩:∃d,len-q=d:=⟨_,rfl⟩;rw [hd] at hy;have hdI:((len:Int)-(q:Int))=(d:Int):=j8;rcases Nat.lt_trichotomy d 41 with h|h|h
   ·have hI:(d:Int)<41:=j8;rw [Nat.min_eq_right j6] at hy;exact j19
   ·have hI:(d:Int)=41:=j8;subst h;rw [Nat.min_self] at hy;exact j19
   ·have hI:(41:Int)<(d:Int):=j8;rw [Nat.min_eq_left j6] at hy;exact j19
  ·have hke:k=chunks len:=by unfold chunks at hk⊢;omega
   have hltI:¬(q:Int)<(len:Int):=j8
   gi_wp2
   go_end0;exact⟨⟨_,rfl⟩,.inl (by rw [<-hke];exact hJs)⟩
theorem chunk_any(ad:Option Addr)(len cap:Nat)(w:World):Calls Tryz.prog 110 #[.slice ad len cap,.int .i64 41] w λe w'=>e= .returned (.func (.func 150) #[] #[(.pointer (some ⟨w.heap.size,0,none⟩)),(.pointer (some ⟨w.heap.size+1,0,none⟩))])/\w'=(w.alloc (.cells #[.slice ad len cap] 24)).alloc (.cells #[.int .i64 41] 3):=by
 go_enter Tryz.func110,Tryz.ntmps110;exact ji
abbrev Ck(m:Nat):Type:={ x:Nat // x<chunks m }
theorem ck_snoc{m:Nat}(ys:List (Ck m))(x:Ck m):(ys++ [x]).map Subtype.val=ys.map Subtype.val++ [x.1]:=by simp
theorem Abi(n:Nat)(hn:1<=n)(Bs Bn b off len cap:Nat)(hreach:len<=1000000)(hcap:len<=cap)(w:World)(lBs:Bs<w.heap.size)(lBn:Bn<w.heap.size)
  (hBs:w.cell? ⟨Bs,0,none⟩=some (.slice (some ⟨b,off,none⟩) len cap)) (hBn:w.cell? ⟨Bn,0,none⟩=some (.int .i64 41)):
  SeqStopsK Fence.wide n Tryz.prog 150 #[(.pointer (some ⟨Bs,0,none⟩)),(.pointer (some ⟨Bn,0,none⟩))] (λx:Ck len=> #[Za b off len x.1]) (Di Bs Bn) (λys=>ys.map Subtype.val=List.range (chunks len)) (λys=>∃k,k<=chunks len/\ys.map Subtype.val=List.range k) (chunks len) w:=by
 intro l J Jx W hW hJ hJx hY h0
 refine(chunkF_in Fence.wide n trivial rfl hn l Bs Bn b off len cap hreach hcap (λxs W=>∃ys:List (Ck len),ys.map Subtype.val=xs/\J ys W) (λxs W=>∃ys:List (Ck len),ys.map Subtype.val=xs/\Jx ys W) ?_ W
  ((hW.cell (p:=⟨Bs,0,none⟩) lBs).trans hBs) ((hW.cell (p:=⟨Bn,0,none⟩) lBn).trans hBn) ⟨[],rfl,h0⟩ ?_).mono ?_
 ·rintro pre x W1 ⟨ys,rfl,hj⟩ hl hx;refine(hY ys ⟨x,hx⟩ W1 hj jr).mono ?_;rintro e W' (⟨he,hj',hk⟩|⟨he,hj'⟩)
  ·exact .inl ⟨he,⟨_,ck_snoc _ _,hj'⟩,hk⟩
  ·exact .inr ⟨he,_,ck_snoc _ _,hj'⟩
 ·rintro xs A ⟨ys,h,hj⟩;exact⟨ys,h,hJ ys A A.drew none hj ((Keeps.drew A).grownBy) (λr e=>by cases e)⟩
 ·rintro e W' ⟨hv,⟨ys,rfl,zs,hz,hj⟩|⟨pre,⟨k,hk,rfl⟩,zs,hz,hj⟩⟩
  ·exact⟨hv,.inl ⟨zs,hz,hj⟩⟩
  ·exact⟨hv,.inr ⟨zs,⟨k,hk,hz⟩,hj⟩⟩
theorem alloc2(w:World)(a b:Obj):((w.alloc a).alloc b).heap[w.heap.size+1]?=some b:=Jb w a b
theorem jPage_no(n:Nat)(first:Bool)(ad:Option Addr)(cap m:Nat)(w:World)(hn:n<=20000)(h1:1<=m)(h2:m<41):
  Calls Tryz.prog 111 #[.int .i64 n,.bool first,.bool false,.slice ad m cap] w λe w'=>e= .returned (.tuple #[.agg (b48 (List.replicate 48 0)).toArray,.int .i64 1])/\Keeps (λ_=>False) w w':=by
 have n0:(0:Int)<=(n:Int):=j8;have n1:(n:Int)<=20000:=j8;have m1:(1:Int)<=(m:Int):=j8;have m2:(m:Int)<41:=j8;have qa:decide ((n:Int)<0)=false:=by rw [decide_eq_false_iff_not];omega
 have qb:decide ((20000:Int)<(n:Int))=false:=by rw [decide_eq_false_iff_not];omega
 obtain⟨R,hR⟩:∃R,List.replicate 48 (0:Int)=R:=⟨_,rfl⟩;go_enter Tryz.func111,Tryz.ntmps111
 go_upto_region 2 with fail
 refine Da λW1 hW1=> ?_;have hk1:Keeps (λ_=>False) w W1:=by rw [hW1];exact Keeps.nt (Keeps.alloc _ _) (Keeps.alloc _ _)
 have hb1:W1.heap[w.heap.size+1]?=some (.cells (b48 (List.replicate 48 0)).toArray 75 (0,0)):=by rw [hW1];exact Jb w _ _
 refine j2m ?_;intro hb0;clear hW1;rw [hR] at hb0 hb1;obtain⟨Hk1,Hb1,Hb0,HR⟩:=hid4 hk1 hb1 hb0 hR;clear hR hb0 hb1 hk1
 go_wp2_with (first|(refine wpList_store_row rfl 75 (.tmp 8) (.tmp 37) rfl w.heap.size (b48 R).toArray rfl rfl 75 (b48 R).toArray Hb0.out Bh rfl (Ec _) ?_)|(refine wpList_load_row rfl 75 (.tmp 10) rfl (w.heap.size+1) rfl 75 (b48 R).toArray _ _ Hb1.out Tryz.underlying75 rfl Bh ?_))
 all_goals
  exact bodyPost_ret (Cb rfl _ _ w.heap.size 75 (b48 R).toArray _ _ _ rfl rfl (setRow_heap _ _ _ _ _ _ Hb0.out) Tryz.underlying75 rfl Bh) rfl ⟨by rw [<-HR.out];rfl,Hk1.out.trans ((Keeps.setRow _ _ _).mono λi _ e=> .inr (Nat.le_of_eq e.symm))⟩
end
section
variable {P:Program} {md:Region.Mode} {ops:Array Oper} {Q:Exit->Act->World->Prop} {S:World->Prop}
def lastI(md:Region.Mode)(ops:Array Oper)(z i:Nat):Bool:=match ops[z]? with
 |none=>true
 |some o=>o.after.any λe=>Region.binds md e&&e.on==i
theorem Nw{z i:Nat}{oi:Oper}{v:Value}(hi:ops[i]?=some oi)(hz:lastI md ops z i=true)(hiz:i≠z)(hsel:∀(j:Nat) (o:Oper) cs b,ops[j]?=some o->o.op≠ .select cs b)(hQ:∀c a w,Q (.panic c) (a.put oi.dst v) w->Q (.panic c) a w):
  ∀(fuel:Nat) (listed:Array Bool) (a:Act) (w:World),i∈Region.ready md ops listed->Ew P ops S oi v a->S w->
   (∀j oj,ops[j]?=some oj->j≠i->listed.getD j true=false->(∀e∈oj.after,Region.binds md e=true->e.on≠i)->oi.apart ops oj=true)->
   Jw P md ops Q S z fuel (listed.setIfInBounds i true) (a.put oi.dst v) w->Jw P md ops Q S z (fuel+1) listed a w
 |0,listed,a,w,hr,hy,hS,hfree,H=>by
  refine⟨λh=>absurd hr (by rw [h];simp),λj hj=> ?_⟩;by_cases hji:j=i
  ·subst hji;exact hy.wpOp hi hS ⟨.inr hS,H⟩
  ·have hc:=ready_mono hj hji;rw [H.1] at hc;simp at hc
 |fuel+1,listed,a,w,hr,hy,hS,hfree,H=>by
  refine⟨λh=>absurd hr (by rw [h];simp),λj hj=> ?_⟩;by_cases hji:j=i
  ·subst hji;exact hy.wpOp hi hS ⟨.inr hS,H⟩
  obtain⟨hun,oj,hoj,hall⟩:=mem_ready.1 hj;have hi0:=(mem_ready.1 hr).1
  have hno:∀e∈oj.after,Region.binds md e=true->e.on≠i:=by
   intro e he hb heq;have ht:=hall e he hb;rw [heq] at ht;rcases Nat.lt_or_ge i listed.size with hlt|hge
   ·have e1:listed.getD i true=listed[i]:=by simp [hlt]
    have e2:listed.getD i false=listed[i]:=by simp [hlt]
    rw [e1] at hi0;rw [e2,hi0] at ht;simp at ht
   ·have e2:listed.getD i false=false:=by simp [Array.getElem?_eq_none hge]
    rw [e2] at ht;simp at ht
  have hjz:j≠z:=by
   intro e;subst e;unfold lastI at hz;rw [hoj] at hz;simp only [Array.any_eq_true',Bool.and_eq_true,beq_iff_eq] at hz;obtain⟨e,he,hb,ho⟩:=hz;exact hno e he hb ho
  obtain⟨p1,p2,p3⟩:=Oper.apart_spec (hfree j oj hoj hji hun hno);have hstep:=Wh hoj p1 p2 (hsel j oj · · hoj) hQ (Y:=Ew P ops S oi v) (λa u hy=>hy.same (execOp_put oi (hsel i oi · · hi) a oj.dst u p3) (wanted_put oi a oj.dst u p3)) (λa x hy=>hy.same rfl rfl) hy (H.2 j (ready_mono hj hji));refine wpOp_mono (λa' w' h3=>⟨h3.2.1, ?_⟩) hstep;have hS':S w':=h3.2.1.resolve_left hjz
  have hfree':∀k ok,ops[k]?=some ok->k≠i->(listed.setIfInBounds j true).getD k true=false->(∀e∈ok.after,Region.binds md e=true->e.on≠i)->oi.apart ops ok=true:=by
   intro k ok hk hki hku hkn;by_cases hjk:j=k
   ·subst hjk;exact hfree j ok hk hki hun hkn
   ·rw [getD_set_ne true hjk] at hku;exact hfree k ok hk hki hku hkn
  refine Nw hi hz hiz hsel hQ fuel _ a' w' (ready_mono hr (Ne.symm hji)) h3.1 hS' hfree' ?_;rw [Array.setIfInBounds_comm _ _ hji];exact h3.2.2
def mixB2(md:Region.Mode)(ops:Array Oper)(z:Nat):MO->Array Bool->Bool
 | .done,listed=>(Region.ready md ops listed).isEmpty
 | .take i r,listed=>(((Region.ready md ops listed).contains i&&Region.free md ops listed i)&&i !=z&&lastI md ops z i)&&mixB2 md ops z r (listed.setIfInBounds i true)
 | .move i r,listed=>(Region.ready md ops listed== [i]&&(i !=z||r.Ls))&&mixB2 md ops z r (listed.setIfInBounds i true)
 | .fork i r j s,listed=>((Region.ready md ops listed== [i,j]&&i !=z)&&j !=z)&&(mixB2 md ops z r (listed.setIfInBounds i true)&&mixB2 md ops z s (listed.setIfInBounds j true))
 | .fork3 ..,_=>false
theorem Mix.Qe{z:Nat}(hs:Region.noSelect ops=true)(hQ:∀(d:Option Tmp) (v:Value) c a w,Q (.panic c) (a.put d v) w->Q (.panic c) a w):
  ∀(ord:MO) (fuel:Nat) (listed:Array Bool) (a:Act) (w:World),ord.depth<=fuel->mixB2 md ops z ord listed=true->(ord.Ls=true\/S w)->Mix P ops Q S z ord a w->Jw P md ops Q S z fuel listed a w
 | .done,fuel,listed,a,w,_,hB,_,h=>Qv (by simpa [mixB2] using hB) h _
 | .take i r,fuel,listed,a,w,hd,hB,hS,h=>by
  simp only [mixB2,Bool.and_eq_true,bne_iff_ne] at hB;obtain⟨⟨⟨⟨h1,h2⟩,hiz⟩,hz⟩,h3⟩:=hB;obtain⟨o,v,hi,hy,h⟩:=h;have hS':S w:=hS.resolve_left (by simp [MO.Ls])
  cases fuel with
  |zero=>simp [MO.depth] at hd
  |succ fuel=>
   refine Nw hi hz hiz (Region.noSelect_spec hs) (hQ o.dst v) fuel listed a w (by simpa using h1) hy hS' (Region.free_spec hi h2) ?_;exact Mix.Qe hs hQ r fuel _ _ _ (by simp only [MO.depth] at hd;omega) h3 (.inr hS') h
 | .move i r,fuel,listed,a,w,hd,hB,hS,h=>by
  simp only [mixB2,Bool.and_eq_true,beq_iff_eq,Bool.or_eq_true,bne_iff_ne] at hB;obtain⟨⟨h1,h2⟩,h3⟩:=hB;have hS':S w:=hS.resolve_left (by simp [MO.Ls])
  cases fuel with
  |zero=>simp [MO.depth] at hd
  |succ fuel=>
   have hd':r.depth<=fuel:=by simp only [MO.depth] at hd;omega
   refine⟨λe=>by rw [h1] at e;simp at e,λj hj=> ?_⟩;obtain rfl:j=i:=by rw [h1] at hj;simpa using hj
   rcases h with⟨o,v,hi,hy,h⟩|h
   ·exact hy.wpOp hi hS' ⟨.inr hS',Mix.Qe hs hQ r fuel _ _ _ hd' h3 (.inr hS') h⟩
   ·refine wpOp_mono (λa' w' hh=>⟨hh.1,Mix.Qe hs hQ r fuel _ _ _ hd' h3 ?_ hh.2⟩) h;rcases hh.1 with e|e
    ·exact .inl (h2.resolve_left λhn=>hn e)
    ·exact .inr e
 | .fork i r j s,fuel,listed,a,w,hd,hB,hS,h=>by
  simp only [mixB2,Bool.and_eq_true,beq_iff_eq,bne_iff_ne] at hB;obtain⟨⟨⟨h1,hiz⟩,hjz⟩,h3,h4⟩:=hB
  cases fuel with
  |zero=>simp [MO.depth] at hd
  |succ fuel=>
   have hd1:r.depth<=fuel:=by simp only [MO.depth] at hd;omega
   have hd2:s.depth<=fuel:=by simp only [MO.depth] at hd;omega
   refine⟨λe=>by rw [h1] at e;simp at e,λk hk=> ?_⟩;rw [h1] at hk;rcases(by simpa using hk:k=i\/k=j) with rfl|rfl
   ·exact wpOp_mono (λa' w' hh=>⟨hh.1,Mix.Qe hs hQ r fuel _ _ _ hd1 h3 (.inr (hh.1.resolve_left hiz)) hh.2⟩) h.1
   ·exact wpOp_mono (λa' w' hh=>⟨hh.1,Mix.Qe hs hQ s fuel _ _ _ hd2 h4 (.inr (hh.1.resolve_left hjz)) hh.2⟩) h.2
 | .fork3 ..,fuel,listed,a,w,_,hB,_,_=>by simp [mixB2] at hB
theorem Cw{id:Nat}{a:Act}{w:World}{l:List Oper}(S:World->Prop)(z:Nat)(ord:MO)(hm:P.follows .mixedOrders=true)(hB:(mixB2 .any l.toArray z ord (Array.replicate l.toArray.size false)&&(Region.noSelect l.toArray&&Nat.ble ord.depth l.toArray.size))=true)
  (hS:S w.drew) (h:∀w1,S w1->Keeps (λ_=>False) w w1->Mix P l.toArray (NoPanic Q) S z ord a w1):(Code.region id l.toArray true).wp P Q a w:=by
 simp only [Bool.and_eq_true,Nat.ble_eq] at hB;obtain⟨h1,h2,h3⟩:=hB;exact wp_region_noPanic (wp_region_any hm (Jv _ _ _ _ (Mix.Qe h2 (λ_ _ _ _ _ hh=>(show False from hh).elim) ord _ _ _ _ h3 h1 (.inr hS) (h _ hS (Keeps.drew _)))))
theorem Eb{z:Nat}{dst:Option Tmp}{op:Op}{ty:TypeId}{pos:String}{af:Array Edge}{gd:Option (Nat×Bool)}{i:Nat}{r:MO}{v:Value}{a:Act}{w:World}(hi:ops[i]?=some ⟨dst,op,ty,pos,af,gd⟩)(hw:Region.wanted ⟨dst,op,ty,pos,af,gd⟩ (yielded ops a.tmps)=true)
  (hy:∀w,S w->(execOp a.eval ⟨dst,op,ty,pos,af,gd⟩).run P w= .ok (.value v) w) (h:Mix P ops Q S z r (a.put dst v) w):Mix P ops Q S z (.move i r) a w:= .inl ⟨_,v,hi,.inl ⟨hw,λw hS=> .inl (hy w hS)⟩,h⟩
end
def NoOut(Q:Exit->Act->World->Prop):Exit->Act->World->Prop
 | .outgrown,_,_=>False
 |e,a,w=>Q e a w
theorem NoOut.imp{Q:Exit->Act->World->Prop}:∀(e:Exit) (a:Act) (w:World),NoOut Q e a w->Q e a w:=λe a w h=>by
 cases e<;>first|exact h|exact(h:False).elim
def Sm(ops:Array Oper):Bool:=(List.range ops.size).all λi=>match ops[i]? with
 |some ⟨_,.defer _,_,_,_,_⟩=>false
 |_=>true
theorem Ace{ops:Array Oper}(h:Sm ops=true){i:Nat}{o:Oper}(hi:ops[i]?=some o):∀c,o.op≠ .defer c:=by
 intro c hc;have hlt:=(Array.getElem?_eq_some_iff.1 hi).1;have:=List.all_eq_true.1 h i (by simpa using hlt);rw [hi] at this;obtain⟨d,op,ty,pos,af,gd⟩:=o;simp only at hc;subst hc;simp at this
section
variable {P:Program} {ops:Array Oper} {Q:Exit->Act->World->Prop} {l n:Nat}
theorem Rz{o:Oper}{a:Act}{w:World}{K:Act->World->Prop}(hd:∀c,o.op≠ .defer c)(h:o.wp P a w K Q):o.wpIn (Fence.wide.inRound l) n P a w K Q:=by
 refine⟨λ_ _=>trivial, ?_⟩;rw [show o.semAt (Fence.wide.inRound l).round a.eval=execOp a.eval o from Oper.semAt_some l _ o hd];unfold Oper.wp at h;generalize (execOp a.eval o).run P w=r at h⊢
 cases r with
 |ok x w'=>
  cases x with
  |value v=>exact h
  |skip=>exact h
  |defer d=>exact h
  |enter f args=>exact⟨λhh=>by simp [Fence.wide] at hh,CallsIn.inRound l (callsIn_wide.2 h)⟩
  |row row args=>exact⟨λhh=>by simp [Fence.wide] at hh,λc cs _=>let ⟨v,w',r,s⟩:=h c cs;⟨v,w',r,stepsIn_wide.2 s⟩⟩
  |_=>exact(h:False).elim
 |halt x w'=>
  cases x with
  |panic v=>exact h
  |_=>exact(h:False).elim
theorem Xm(hd:Sm ops=true){i:Nat}{K K':Act->World->Prop}{a:Act}{w:World}(hK:∀a w,K a w->K' a w)(h:wpOp P ops (NoPanic (NoOut Q)) i K a w):wpOpIn (Fence.wide.inRound l) n P ops (NoPanic (NoOut Q)) i K' a w:=by
 unfold wpOp at h;unfold wpOpIn
 cases hi:ops[i]? with
 |none=>rw [hi] at h;exact hK _ _ h
 |some o=>
  simp only [hi] at h⊢;by_cases hw:Region.wanted o (yielded ops a.tmps)=true
  ·rw [if_pos hw] at h⊢;rcases h with h|⟨_,a',w',h⟩
   ·exact Oper.wpIn_mono hK (Rz (Ace hd hi) h)
   ·exact(h:False).elim
  ·rw [if_neg hw] at h⊢;exact⟨λ_ _=>trivial,hK _ _ h⟩
theorem Mw{md:Region.Mode}(hd:Sm ops=true):∀(fuel:Nat) (listed:Array Bool) (a:Act) (w:World),wpAny P md ops (NoPanic (NoOut Q)) fuel listed a w->wpAnyIn (Fence.wide.inRound l) n P md ops (NoPanic (NoOut Q)) fuel listed a w
 |0,_,_,_,h=>h
 |fuel+1,_,_,_,h=>⟨h.1,λi hi=>Xm hd (λa' w' h'=>Mw hd fuel _ a' w' h') (h.2 i hi)⟩
theorem Fy{id:Nat}{a:Act}{w:World}{os:List Oper}(S:World->Prop)(ord:MO)(hm:P.follows .mixedOrders=true)(hB:((mixB .any os.toArray os.toArray.size ord (Array.replicate os.toArray.size false)&&lastB .any os.toArray os.toArray.size)&&((Region.noSelect os.toArray&&Sm os.toArray)&&Nat.ble ord.depth os.toArray.size))=true)
  (hS:S w.drew) (h:∀w1,S w1->Keeps (λ_=>False) w w1->Mix P os.toArray (NoPanic (NoOut Q)) S os.toArray.size ord a w1):(Code.region id os.toArray true).wpIn (Fence.wide.inRound l) n P Q a w:=by
 simp only [Bool.and_eq_true,Nat.ble_eq] at hB;obtain⟨⟨h1,h0⟩,⟨h2,h4⟩,h3⟩:=hB;exact Go.wpIn_mono (wpIn_region_any hm (Mw h4 _ _ _ _ (Jv _ _ _ _ (Mix.sound h2 h0 (λ_ _ _ _ _ hh=>(show False from hh).elim) ord _ _ _ _ h3 h1 (.inr hS) (h _ hS (Keeps.drew _)))))) λe a w hh=>NoOut.imp _ _ _ (NoPanic.imp _ _ _ hh)
end
open Go.RowKit Go.IntWalk Go.Shelf
attribute [local go_sem] Oper.semAt_some
def ja12(W:World)(a b c d:Nat)(x y z t:Value)(V:World):Prop:=((V.cell? ⟨a,0,none⟩=some x/\a<V.heap.size)/\(V.cell? ⟨b,0,none⟩=some y/\b<V.heap.size)/\(V.cell? ⟨c,3,none⟩=some z/\c<V.heap.size)/\(V.cell? ⟨d,0,none⟩=some t/\d<V.heap.size))/\Keeps (λ_=>False) W V
theorem ja12.keep{W:World}{a b c d:Nat}{x y z t:Value}{V V':World}(h:ja12 W a b c d x y z t V)(k:Keeps (λ_=>False) V V'):ja12 W a b c d x y z t V':=by
 obtain⟨⟨⟨h1,l1⟩,⟨h2,l2⟩,⟨h3,l3⟩,h4,l4⟩,hk⟩:=h;have:=k.size;exact⟨⟨⟨(k.cell l1 (by simp)).trans h1,by omega⟩,⟨(k.cell l2 (by simp)).trans h2,by omega⟩,⟨(k.cell l3 (by simp)).trans h3,by omega⟩,(k.cell l4 (by simp)).trans h4,by omega⟩,hk.nt k⟩
theorem ja12.kept{W:World}{a b c d:Nat}{x y z t:Value}{V:World}(h:ja12 W a b c d x y z t V):Keeps (λ_=>False) W V:=h.2
theorem NoOut.normal{Q:Exit->Act->World->Prop}{a:Act}{w:World}(h:Q .normal a w):NoOut Q .normal a w:=h
theorem Lh{Q:Exit->Act->World->Prop}{a:Act}{w:World}(h:∀V,V=w->Q .normal a V):Q .normal a w:=h w rfl
theorem Wo{P:Nat}{v:Value}{W0 W w10:World}{nb:Nat}{q z:Int}{p1:Pd}(hsz:W0.heap.size=nb+3)(hkk:Keeps (λk=>PFoot P v k\/k=nb) W0 W)(hk:Keeps (PFoot P v) W w10)(hb:w10.heap[nb]?=some (.cells #[.int .i64 q] 3 (0,0)))
  (hpad:PadAt w10 P v p1) (hcl:∀i,(PFoot P v i\/i=nb)->∀o,W.heap[i]?=some o->o.isCells=true) (hfoot:∀k,PFoot P v k->k<nb):
  KeepsOthers W (w10.setCell ⟨nb,0,none⟩ (.int .i64 z))/\Di (nb+1) (nb+2) W (w10.setCell ⟨nb,0,none⟩ (.int .i64 z))/\(w10.setCell ⟨nb,0,none⟩ (.int .i64 z)).heap[nb]?=some (.cells #[.int .i64 z] 3 (0,0))/\PadAt (w10.setCell ⟨nb,0,none⟩ (.int .i64 z)) P v p1/\Keeps (λk=>PFoot P v k\/k=nb) W0 (w10.setCell ⟨nb,0,none⟩ (.int .i64 z)):=by
 have hk11:Keeps (λk=>PFoot P v k\/k=nb) W (w10.setCell ⟨nb,0,none⟩ (.int .i64 z)):=(hk.mono λi _ e=> .inl e).trans ((Keeps.setCell (S:=λk=>PFoot P v k\/k=nb) _ _ _ (.inr rfl)).mono λi _ e=> .inl e);have hsW:=hkk.size;have no:∀i,nb<i->¬(PFoot P v i\/i=nb):=λi hi e=>by rcases e with e|e;have:=hfoot _ e;omega;omega
 refine⟨⟨hk11.size,λi o hi ho=>(hk11.block i (lt_of_block hi) λe=>by rw [hcl i e o hi] at ho;cases ho).trans hi⟩,⟨hk11.block _ j6 (no _ j6),hk11.block _ j6 (no _ j6)⟩, ?_,hpad.keeps (Keeps.setCell (S:=λi=>i=nb) _ _ _ rfl) (λi hi e=>by have:=hfoot _ hi;omega),hkk.trans (hk11.mono λi _ e=> .inl e)⟩;rw [heap_setCell_same _ _ 0 _ _ (.int .i64 z) hb];rfl
def ja13(S:Nat->Prop)(W:World)(a b c:Nat)(x y z:Value)(E:Nat)(G:List Int)(V:World):Prop:=((V.cell? ⟨a,0,none⟩=some x/\a<V.heap.size)/\(V.cell? ⟨b,0,none⟩=some y/\b<V.heap.size)/\(V.cell? ⟨c,0,none⟩=some z/\c<V.heap.size)/\V.heap[E]?=some (.cells (b48 G).toArray 75 (0,0)))/\Keeps S W V
theorem ja13.keep{S:Nat->Prop}{W:World}{a b c:Nat}{x y z:Value}{E:Nat}{G:List Int}{V V':World}(h:ja13 S W a b c x y z E G V)(k:Keeps S V V')(na:¬S a)(nb:¬S b)(nc:¬S c)(ne:¬S E):ja13 S W a b c x y z E G V':=by
 obtain⟨⟨⟨h1,l1⟩,⟨h2,l2⟩,⟨h3,l3⟩,h4⟩,hk⟩:=h;have:=k.size;exact⟨⟨⟨(k.cell l1 na).trans h1,by omega⟩,⟨(k.cell l2 nb).trans h2,by omega⟩,⟨(k.cell l3 nc).trans h3,by omega⟩,(k.block _ (lt_of_block h4) ne).trans h4⟩,hk.trans (k.mono λi _ e=> .inl e)⟩
theorem Reads.keepB{S:Nat->Prop}{w w':World}{size:Nat}{x:Value}{m:Nat}{news:List Value}(h:Reads w size x m news)(hk:Keeps S w w')(hS:∀k,x.ownBlock=some k->k<w.heap.size->¬S k):Reads w' size x m news:=by
 obtain⟨ad,c,rfl,h1,h2,h3,h4⟩:=h;refine⟨ad,c,rfl,h1,h2,h3,λj u hj=> ?_⟩;obtain⟨g,o,rfl,ha⟩:=h4 j u hj;exact⟨g,o,rfl,by rw [hk.cell (Ah ha) (hS g rfl (Ah ha))];exact ha⟩
theorem Reads.capOf{w:World}{size m c c':Nat}{g o:Nat}{xs:List Value}(h:Reads w size (.slice (some ⟨g,o,none⟩) m c) m xs)(hc:m<=c'):Reads w size (.slice (some ⟨g,o,none⟩) m c') m xs:=by
 obtain⟨ad,c1,he,h1,h2,h3,h4⟩:=h;simp only [Value.slice.injEq,true_and] at he;obtain⟨rfl,rfl⟩:=he;exact⟨_,_,rfl,hc,h2,by simp,h4⟩
theorem page_part{V:World}{gs os m cap x nl:Nat}{B:List Int}(hr:Reads V 1 (.slice (some ⟨gs,os,none⟩) m cap) m (B.flatMap u8c))(hm:B.length=m)(hx:x<chunks m)(hnl:min 41 (m-x*41)=nl):
  Reads V 1 (.slice (some ⟨gs,os+x*41,none⟩) nl nl) nl (((B.drop (x*41)).take 41).flatMap u8c):=by
 have hx1:x*41<m:=by unfold chunks at hx;omega
 have h1:=hr.sufL Cn (x*41) j6;have h2:=(h1.preL Cn nl j6).capOf (Nat.le_refl nl);rw [Nat.mul_one] at h2;rw [show(B.drop (x*41)).take 41=(B.drop (x*41)).take nl from List.take_eq_take_iff.2 (by rw [List.length_drop,hm];omega)];exact h2
def PgPost(w:World)(G:List Int)(e:Ending)(w':World):Prop:=(∃er,e= .returned (.tuple #[.agg (b48 G).toArray,.int .i64 er]))/\Keeps (λ_=>False) w w'
def pgR(n:Nat)(first last:Bool)(B:List Int):List Int:=if B.length=41\/last=true then pageR n first last B else List.replicate 48 0
def inkL(u c:Nat)(B:List Int):Nat->List Nat->List Lf->List Lf
 |_, [],l=>l
 |k,x::xs,l=>inkL u c B (k+1) xs (l.set (u+k) ⟨1,pgR (u+k) (k==0) (k+1==c) ((B.drop (x*41)).take 41)⟩)
theorem Mo(u c:Nat)(B:List Int)(x:Nat):∀(xs:List Nat) (k:Nat) (l:List Lf),inkL u c B k (xs++ [x]) l=(inkL u c B k xs l).set (u+(k+xs.length)) ⟨1,pgR (u+(k+xs.length)) (k+xs.length==0) (k+xs.length+1==c) ((B.drop (x*41)).take 41)⟩
 | [],k,l=>rfl
 |y::xs,k,l=>by
  rw [List.cons_append,inkL,Mo u c B x xs (k+1)];simp only [inkL,List.length_cons,show k+1+xs.length=k+(xs.length+1) by omega]
theorem Lu(u c:Nat)(B:List Int):∀(xs:List Nat) (k:Nat) (l:List Lf),(inkL u c B k xs l).length=l.length
 | [],_,_=>rfl
 |_::xs,k,l=>by rw [inkL,Lu u c B xs];simp
theorem Ab0(u c:Nat)(B:List Int)(i:Nat):∀(xs:List Nat) (k:Nat) (l:List Lf),u+k+xs.length<=i->(inkL u c B k xs l)[i]?=l[i]?
 | [],_,_,_=>rfl
 |_::xs,k,l,h=>by
  simp only [List.length_cons] at h;rw [inkL,Ab0 u c B i xs _ _ (by omega),List.getElem?_set_ne (by omega)]
def JAddPost(w:World)(J P:Nat)(v:Value)(p:Pd)(fl:Int)(vl:Value)(u nr m:Nat)(B:List Int)(e:Ending)(w':World):Prop:=
 e= .returned (.int .i64 0)/\∃vl' R',JrnAt w' J P fl vl' ((u+chunks m:Nat):Int)/\w'.ownsRow 0 24 1 vl' (nr+1) R'/\PadAt w' P v { p with l:=(inkL u (chunks m) B 0 (List.range (chunks m)) p.l).map dryL }/\
  Keeps (λk=>k=J\/PFoot P v k\/vl.ownBlock=some k) w w'/\(∀g,vl'.ownBlock=some g->vl.ownBlock=some g\/w.heap.size<=g)
def ja20(a b:Nat)(x y:Value)(V:World):Prop:=(V.cell? ⟨a,0,none⟩=some x/\a<V.heap.size)/\(V.cell? ⟨b,0,none⟩=some y/\b<V.heap.size)
theorem ja20.keep{S:Nat->Prop}{a b:Nat}{x y:Value}{V V':World}(h:ja20 a b x y V)(k:Keeps S V V')(na:¬S a)(nb:¬S b):ja20 a b x y V':=by
 obtain⟨⟨h1,l1⟩,h2,l2⟩:=h;have:=k.size;exact⟨⟨(k.cell l1 na).trans h1,by omega⟩,(k.cell l2 nb).trans h2,by omega⟩
theorem Ab1:(Tryz.prog.info? 24).map (λi=>(i.zero,i.size,i.bytes))=some (some (.slice none 0 0),1,24):=by kernel_rfl
theorem Vx(w:World)(v:Value)(n:Nat)(xs:List Value)(hr:Reads w 1 v n xs)(h1:∀u∈xs,u.oneCell'=true)(hn:n<=1000000000000):
  Calls Tryz.prog 109 #[v] w λe w'=>∃v',e= .returned v'/\w'.ownsRow 0 5 1 v' n xs/\Keeps (λ_=>False) w w'/\(∀k,v'.ownBlock=some k->w.heap.size<=k):=by
 obtain⟨i0,hi,hz0,hz1,hz2⟩:=info_parts Ez;have hr':=hr;obtain⟨ad,c,rfl,hnc,hl,hnone,hcells⟩:=hr';clear hcells;have heq:=fun(wx:World) (ad:Option Addr) (l c:Nat)=>Lib.run_eql_slice_nil (P:=Tryz.prog) wx 24 _ ad l c 0 0 Tryz.underlying24;rcases ad with _|a
 ·obtain rfl:=hnone rfl;obtain rfl:n=0:=by omega
  obtain rfl:xs= []:=List.eq_nil_of_length_eq_zero jr;have hr0:=Lib.hid hr;clear hr;go_enter Tryz.func109,Tryz.ntmps109;exact jH
 ·have Hr:=Lib.hid hr;clear hr;obtain⟨Hl,Hnone,H1⟩:=hid3 hl hnone h1;clear h1 hnone hl;go_enter Tryz.func109,Tryz.ntmps109
  go_wp2_with (at_builtin;refine Ao rfl (.tmp 5) (.tmp 6) 24 rfl 0 5 i0 _ 1 1 Tryz.underlying24 hi hz0 hz1 hz2 rfl j7 _ 0 [] rfl (World.ownsRow_lit w #[] 0 j6 jd rfl) _ n xs rfl (Hr.out.keeps (Keeps.alloc (S:=λ_=>False) _ _) (by simp)) H1.out jd j6 j6 ?_)
  intro v' w1 hown1 hk1 hfr
  have hend:w1.ownsRow 0 5 1 v' n xs/\Keeps (λ_=>False) w w1/\(∀k,v'.ownBlock=some k->w.heap.size<=k):=by
   exact jI
  exact jJ
end Go.Proofs.YtgbgmadkmabeeaaGreat
