/- Part 38 of what the laws of this seat share: walks of functions, and plain laws. -/
import Derived.Laws.BytesString
import Derived.Deep.DeepCutAuto
import Derived.Test.YtjkdnaljkdnomaaGreatDoorS33
import Derived.Test.YtjkdnaljkdnomaaGreatDoorS34
import Derived.Test.YtjkdnaljkdnomaaGreatDoorS36
import Derived.Test.YtjkdnaljkdnomaaGreatDoorS37
set_option maxRecDepth 100000
set_option maxHeartbeats 3200000
namespace Go.Proofs.YtjkdnaljkdnomaaGreatDoor
open Go.RowKit
theorem Jg(L:List Int):L.flatMap u8c=L.map (Value.int .u8):=by
 induction L with
 |nil=>rfl
 |cons a l ih=>rw [List.flatMap_cons,ih];rfl
open Go.RowKit Go.IntWalk
def bs(b:List Int):List Int:=(List.range 48).map λi=>b.getD i 0
theorem Zv(b:List Int):(bs b).flatMap u8c=b48 b:=by
 unfold bs b48 u8c;rw [<-List.map_eq_flatMap,List.map_map];rfl
def ob(n:Nat):List Int:= [(n:Int) / 16777216,(n:Int) / 65536,(n:Int) / 256,(n:Int) % 256]
def sumL(n:Nat)(b:List Int):List Int:=ob n++((bs b).drop 4).take 43
theorem bs_length(b:List Int):(bs b).length=48:=by simp [bs]
theorem Lp(n:Nat)(b:List Int):(sumL n b).length=47:=by simp [sumL,ob,bs_length]
theorem bs_ok{b:List Int}(hb:∀z∈b,0<=z/\z<=255):∀z∈bs b,0<=z/\z<=255:=by
 intro z hz;obtain⟨i,_,rfl⟩:=List.mem_map.1 hz;rw [List.getD_eq_getElem?_getD];rcases h:b[i]? with _|y
 ·simp
 ·exact hb y (List.mem_of_getElem? h)
theorem sumL_ok{n:Nat}(hn:n<=20000){b:List Int}(hb:∀z∈b,0<=z/\z<=255):∀z∈sumL n b,0<=z/\z<=255:=by
 intro z hz;rcases List.mem_append.1 hz with h|h
 ·simp only [ob,List.mem_cons,List.not_mem_nil,or_false] at h;rcases h with rfl|rfl|rfl|rfl<;>omega
 ·exact bs_ok hb z (List.mem_of_mem_drop (List.mem_of_mem_take h))
theorem Qx(L:List Int)(k:Nat):(L.drop k).flatMap u8c=(L.flatMap u8c).drop k:=by
 rw [Jg,Jg,List.map_drop]
theorem Qq(L:List Int)(k:Nat):(L.take k).flatMap u8c=(L.flatMap u8c).take k:=by
 rw [Jg,Jg,List.map_take]
theorem Aag:(Tryz.prog.info? 179).map (·.size)=some 4:=by kernel_rfl
def sum4(n:Nat)(b:List Int):List Int:= [sumR (sumL n b) / 16777216 % 256,sumR (sumL n b) / 65536 % 256,sumR (sumL n b) / 256 % 256,sumR (sumL n b) % 256]
def sumZ(s:Int):Array Value:= #[.int .u8 (s / 16777216 % 256),.int .u8 (s / 65536 % 256),.int .u8 (s / 256 % 256),.int .u8 (s % 256)]
def sumC(n:Nat)(b:List Int):Array Value:=sumZ (sumR (sumL n b))
theorem one_sumZ(s:Int):(sumZ s).all (·.oneCell')=true:=by simp [sumZ,Value.oneCell']
theorem jSum_any(n:Nat)(b:List Int)(w:World)(hn:n<=20000)(hb:∀z∈b,0<=z/\z<=255):Calls Tryz.prog 86 #[.int .i64 n,.agg (b48 b).toArray] w λe w'=>e= .returned (.agg (sumC n b))/\K0 w w':=by
 obtain⟨i0,hi,hi0,hi1,hi2⟩:=info_parts Kr;obtain⟨wb,hwb⟩:=eY ((w.alloc (.cells (b48 b).toArray 118)).alloc (.cells #[.int .u8 0,.int .u8 0,.int .u8 0,.int .u8 0] 179));have hkb:K0 w wb:=by rw [hwb];exact Keeps.nt (Keeps.alloc _ _) (Keeps.alloc _ _)
 obtain⟨Hi,Hi0,Hi1,Hi2,Hwb,Hkb⟩:=hid6 hi hi0 hi1 hi2 hwb hkb;clear hkb hwb hi2 hi1 hi0 hi;go_enter Tryz.func86,Tryz.ntmps86
 go_upto_region 2 with fail
 obtain⟨W3,hW3⟩:=eY (wb.alloc (.cells #[.int .u8 ((n:Int) / 16777216),.int .u8 ((n:Int) / 65536),.int .u8 ((n:Int) / 256),.int .u8 ((n:Int) % 256)] 5));have hs2:wb.heap.size=w.heap.size+1+1:=by rw [Hwb.o];simp
 have hb3:W3.heap[w.heap.size+1+1]?=some (.cells #[.int .u8 ((n:Int) / 16777216),.int .u8 ((n:Int) / 65536),.int .u8 ((n:Int) / 256),.int .u8 ((n:Int) % 256)] 5 (0,0)):=by rw [hW3,<-hs2];exact heap_alloc_new _ _
 have hk3:K0 w W3:=by rw [hW3];exact Keeps.nt Hkb.o (Keeps.alloc _ _)
 have hbw:W3.heap[w.heap.size]?=some (.cells (b48 b).toArray 118 (0,0)):=by
  have h1:wb.heap[w.heap.size]?=some (.cells (b48 b).toArray 118 (0,0)):=by rw [Hwb.o];exact Ad (heap_alloc_new w _) (Keeps.alloc (S:=λ_=>False) _ _) (by simp)
  rw [hW3];exact Ad h1 (Keeps.alloc (S:=λ_=>False) _ _) (by simp)
 have hb4:W3.heap[w.heap.size+1]?=some (.cells #[.int .u8 0,.int .u8 0,.int .u8 0,.int .u8 0] 179 (0,0)):=by
  have h1:wb.heap[w.heap.size+1]?=some (.cells #[.int .u8 0,.int .u8 0,.int .u8 0,.int .u8 0] 179 (0,0)):=by
   rw [Hwb.o];have:=heap_alloc_new (w.alloc (.cells (b48 b).toArray 118)) (.cells #[.int .u8 0,.int .u8 0,.int .u8 0,.int .u8 0] 179);simpa using this
  rw [hW3];exact Ad h1 (Keeps.alloc (S:=λ_=>False) _ _) (by simp)
 have hown:W3.ownsRow 0 5 1 (.slice (some ⟨w.heap.size+1+1,0,none⟩) 4 4) 4 ((ob n).flatMap u8c):=
  ⟨rfl,.inr ⟨_,4,_,rfl,Nat.zero_le _,hb3,Nat.le_refl _,by unfold maxLen;omega,rfl,rfl⟩⟩
 have hrd:Reads W3 1 (.slice (some ⟨w.heap.size,4,none⟩) 43 44) 43 ((((bs b).drop 4).take 43).flatMap u8c):=by
  refine⟨_,44,rfl,by decide,by rw [Qq,Qx,Zv];simp [Cw],by simp,λj u hj=>⟨_,_,rfl, ?_⟩⟩;rw [Aa hbw];rw [Qq,Qx,Zv,List.getElem?_take] at hj
  split at hj
  ·rw [List.getElem?_drop] at hj;simpa using hj
  ·exact absurd hj (by simp)
 rw [<-Hwb.o,<-hW3];clear hW3;clear hb3;have Hk3:=Lib.hid hk3;clear hk3 hbw;obtain⟨Hb4,Hown,Hrd⟩:=hid3 hb4 hown hrd;clear hrd hown hb4 hs2
 go_wp2_with (at_builtin;refine Am rfl (.tmp 19) (.tmp 20) 22 rfl 0 5 i0 _ 1 1 Tryz.underlying22 Hi.o Hi0.o Hi1.o Hi2.o rfl j7 (.slice (some ⟨w.heap.size+1+1,0,none⟩) 4 4) 4 _ rfl Hown.o _ 43 _ rfl Hrd.o (by rw [Qq,Qx,Zv];intro u hu;exact b48_one _ u (List.mem_of_mem_drop (List.mem_of_mem_take hu))) jd j6 j6 ?_)
 intro v4 w4 hown4 hk4 hf4;obtain⟨a4,c4,rfl,_⟩:=Ae hown4;have hown4':w4.ownsRow 0 5 1 (.slice a4 47 c4) 47 ((sumL n b).flatMap u8c):=by unfold sumL;rw [List.flatMap_append];exact hown4
 have hkw4:K0 w w4:=Hk3.o.trans (hk4.mono λk _ e=> .inr (by have e':w.heap.size+1+1=k:=Option.some.inj e;omega))
 have hbw4:w4.heap[w.heap.size+1]?=some (.cells #[.int .u8 0,.int .u8 0,.int .u8 0,.int .u8 0] 179 (0,0)):=by
  rw [hk4.block _ (lt_of_block Hb4.o) (λe=>by have e':w.heap.size+1+1=w.heap.size+1:=Option.some.inj e;omega)];exact Hb4.o
 have hsum:=Adx a4 c4 (sumL n b) w4 (by rw [Lp];exact Reads.Bg hown4') (sumL_ok hn hb) (by rw [Lp];decide);rw [Lp] at hsum;obtain⟨s,hs⟩:=eX (sumR (sumL n b));rw [hs] at hsum;clear hown4 hk4 hf4;clear hown4';obtain⟨Hkw4,Hsum,Hs,Hbw4⟩:=hid4 hkw4 hsum hs hbw4;clear hbw4 hs hsum hkw4
 go_wp2_with (first|(go_at_call 108;(with_reducible refine Hsum.o.mono ?_);rintro e w5 ⟨rfl,hw5⟩;subst w5)|(refine wpList_store_row (o:=⟨none,_,_,_,_,_⟩) rfl 179 (.tmp 4) (.tmp 34) rfl (w.heap.size+1) (sumZ s) rfl rfl 179 #[.int .u8 0,.int .u8 0,.int .u8 0,.int .u8 0] Hbw4.o Aag rfl (one_sumZ s) ?_))
 exact bodyPost_ret (results_cell_row rfl _ _ (w.heap.size+1) 179 (sumZ s) _ _ rfl (setRow_heap _ _ _ _ _ _ Hbw4.o) Tryz.underlying179 rfl Aag) rfl ⟨by unfold sumC;rw [Hs.o],Hkw4.o.trans ((Keeps.setRow _ _ _).mono λk _ e=> .inr j6)⟩
theorem Uu{L:List Int}(h:L.length=48):b48 L=L.map (Value.int .u8):=by
 rw [<-Zv,Jg]
 congr 1
 apply List.ext_getElem?
 intro i;unfold bs;by_cases hi:i<48
 ·rw [List.getElem?_map,List.getElem?_range hi];simp [List.getD_eq_getElem?_getD,List.getElem?_eq_getElem (show i<L.length by omega)]
 ·rw [List.getElem?_eq_none ji,List.getElem?_eq_none j6]
theorem b48_set{L:List Int}(h:L.length=48)(i:Nat)(v:Int):(b48 L).toArray.setIfInBounds i (.int .u8 v)=(b48 (L.set i v)).toArray:=by
 rw [Uu h,Uu (by rw [List.length_set];exact h),List.setIfInBounds_toArray,List.map_set]
theorem Jh{L B:List Int}(h:L.length=48){o:Nat}(ho:o+B.length<=48):laid (b48 L) o (B.flatMap u8c)=b48 (L.take o++B++L.drop (o+B.length)):=by
 rw [Uu h,Uu ji,Jg];unfold laid;simp [List.map_take,List.map_drop]
def flagI(first last:Bool):Int:=(if first then 1 else 0)+(if last then 2 else 0)
def pageL(first last:Bool)(B:List Int):List Int:= [0,0,0,0,flagI first last,B.length]++B++List.replicate (41-B.length) 0++ [90]
def pageR(n:Nat)(first last:Bool)(B:List Int):List Int:=sum4 n (pageL first last B)++ [flagI first last,B.length]++B++List.replicate (41-B.length) 0++ [90]
theorem set48{w:World}{X:Nat}{L:List Int}{t:TypeId}(h:w.heap[X]?=some (.cells (b48 L).toArray t (0,0)))(hl:L.length=48)(i:Nat)(v:Int):
  (w.setCell ⟨X,i,none⟩ (.int .u8 v)).heap[X]?=some (.cells (b48 (L.set i v)).toArray t (0,0)):=by
 rw [<-b48_set hl];exact heap_setCell_same _ _ i _ _ _ h
structure At48(w:World)(X:Nat)(L:List Int):Prop where
 blk:w.heap[X]?=some (.cells (b48 L).toArray 118 (0,0))
 len:L.length=48
theorem At48.set{w:World}{X:Nat}{L:List Int}(h:At48 w X L)(i:Nat)(v:Int):At48 (w.setCell ⟨X,i,none⟩ (.int .u8 v)) X (L.set i v):=⟨set48 h.blk h.len i v,by rw [List.length_set];exact h.len⟩
theorem Di{P:Program}{c:Code}{Q:Exit->Act->World->Prop}{a:Act}{w:World}(h:∀W,W=w->c.wp P Q a W):c.wp P Q a w:=h w rfl
theorem Du:(Tryz.prog.info? 5).map (·.size)=some 1:=by kernel_rfl
theorem Kz(w:World)(a b:Obj):((w.alloc a).alloc b).heap[w.heap.size+1]?=some b:=by have:=heap_alloc_new (w.alloc a) b;simpa using this
theorem pageL_eq{l6 B:List Int}{m:Nat}(h6:l6.length=6)(hm:B.length=m)(h:m<=41):
  ((l6++List.replicate 42 0).take 6++B++(l6++List.replicate 42 0).drop (6+m)).set 47 90=l6++B++List.replicate (41-m) 0++ [90]:=by
 rw [List.take_left' h6,List.drop_append,h6,List.drop_of_length_le j6,show 6+m-6=m by omega,List.drop_replicate,List.nil_append,show 42-m=(41-m)+1 by omega,List.replicate_succ',<-List.append_assoc,
  List.set_append_right _ _ (by simp;omega)]
 simp [h6,hm,show 6+(m+(41-m))=47 by omega]
theorem pageL_ok{first last:Bool}{B:List Int}(h:B.length<=41)(hB:∀z∈B,0<=z/\z<=255):∀z∈pageL first last B,0<=z/\z<=255:=by
 intro z hz;unfold pageL at hz;simp only [List.mem_append,List.mem_cons,List.not_mem_nil,or_false,List.mem_replicate] at hz;rcases hz with(((rfl|rfl|rfl|rfl|rfl|rfl)|hz)|⟨_,rfl⟩)|rfl
 all_goals first|omega|exact hB z hz|(unfold flagI;cases first<;>cases last<;>decide)
theorem Ju(n:Nat)(first last:Bool)(B:List Int):(pageL first last B).take 0++sum4 n (pageL first last B)++(pageL first last B).drop (0+(sum4 n (pageL first last B)).length)=pageR n first last B:=by
 unfold pageR;have h4:(sum4 n (pageL first last B)).length=4:=rfl;rw [h4];have h5:(pageL first last B).drop (0+4)= [flagI first last,(B.length:Int)]++B++List.replicate (41-B.length) 0++ [90]:=rfl;rw [h5];simp
theorem page3{first last:Bool}{B L2:List Int}{m mI:Nat}{fl:Int}{W2 w3:World}{X:Nat}(hm:B.length=m)(h2:At48 W2 X L2)(he:L2= [0,0,0,0,fl,(mI:Int)]++List.replicate 42 0)(h3:w3.heap[X]?=some (.cells (laid (b48 L2) 6 (B.flatMap u8c)).toArray 118 (0,0)))
  (hm2:m<=41) (hfl:flagI first last=fl) (hmI:mI=m):
  At48 (w3.setCell ⟨X,47,none⟩ (.int .u8 90)) X (pageL first last B)/\∃z,w3.cell? ⟨X,47,none⟩=some (.int .u8 z)/\w3.frozen? ⟨X,47,none⟩=false/\X<w3.heap.size:=by
 rw [Jh h2.len j6] at h3;have h48:(L2.take 6++B++L2.drop (6+B.length)).length=48:=by have:=h2.len;simp;omega
 have hA:At48 w3 X (L2.take 6++B++L2.drop (6+B.length)):=⟨h3,h48⟩;refine⟨?_, ?_⟩
 ·have:=hA.set 47 90;rw [he,hm,pageL_eq rfl hm hm2] at this;unfold pageL;rw [hfl,hm,<-hmI];rw [hmI] at this⊢;exact this
 ·obtain⟨z,hz⟩:=Ar (show 47<(L2.take 6++B++L2.drop (6+B.length)).length by omega);refine⟨z, ?_,Ab h3 _,lt_of_block h3⟩;rw [Aa h3,Uu h48,List.getElem?_toArray,List.getElem?_map,hz];rfl
theorem jPage_ok(n:Nat)(first last:Bool)(ad:Option Addr)(cap:Nat)(B:List Int)(w:World)(hr:Reads w 1 (.slice ad B.length cap) B.length (B.flatMap u8c))(hB:∀z∈B,0<=z/\z<=255)
  (hn:n<=20000) (h1:1<=B.length) (h2:B.length<=41) (h3:B.length=41\/last=true):
  Calls Tryz.prog 55 #[.int .i64 n,.bool first,.bool last,.slice ad B.length cap] w λe w'=>e= .returned (.tuple #[.agg (b48 (pageR n first last B)).toArray,.int .i64 0])/\K0 w w':=by
 obtain⟨m,hm⟩:=eX B.length;rw [hm] at hr h1 h2 h3⊢;have m1:(1:Int)<=(m:Int):=j8;have m2:(m:Int)<=41:=j8
 have hcase:(m=41/\last=false)\/(m=41/\last=true)\/((m:Int)<41/\last=true):=by
  rcases h3 with h3|h3
  ·cases last
   ·exact .inl ⟨h3,rfl⟩
   ·exact .inr (.inl ⟨h3,rfl⟩)
  ·by_cases h4:m=41
   ·exact .inr (.inl ⟨h4,h3⟩)
   ·exact .inr (.inr ⟨by omega,h3⟩)
 clear h3;obtain⟨x0,hx0⟩:=Ar (show 0<B.length by omega);obtain⟨gs,os,hads,_⟩:=Reads.int (k:= .u8) hr hx0;subst hads
 have hsrc:∀W,K0 w W->∀j v,(B.flatMap u8c)[j]?=some v->W.cell? ((⟨gs,os,none⟩:Addr).add j)=some v:=by
  intro W hW j v hj;obtain⟨ad',c',he,_,_,_,hcell⟩:=hr.keeps hW (λ_ _ h=>h);obtain⟨g',o',he',hc⟩:=hcell j v hj;have e1:=(Value.slice.inj he).1;rw [he'] at e1
  cases e1
  rw [Ef];exact hc
 have hBl:(B.flatMap u8c).length=m*1:=by rw [Cs (f:=u8c) (λ_=>rfl),hm]
 have hBo:∀v∈B.flatMap u8c,v.oneCell'=true:=by rw [Jg];intro v hv;obtain⟨z,_,rfl⟩:=List.mem_map.1 hv;rfl
 clear hr;obtain⟨Hm,Hsrc,HBl,HBo⟩:=hid4 hm hsrc hBl hBo;clear hBo hBl hsrc hm;obtain⟨fl,hfl⟩:=eX (flagI first last);have qa:decide ((n:Int)<0)=false:=by rw [decide_eq_false_iff_not];omega
 have qb:decide ((20000:Int)<(n:Int))=false:=by rw [decide_eq_false_iff_not];omega
 obtain⟨mI,hmI⟩:∃x:Nat,x=m:=⟨_,rfl⟩;have hmin:Nat.min m 42=m:=Nat.min_eq_left j6;obtain⟨Hfl,HmI,Hmin⟩:=hid3 hfl hmI hmin;clear hmin hmI hfl;obtain⟨LP,hLP⟩:=eX (pageL first last B)
 have hjs:∀W,Calls Tryz.prog 86 #[.int .i64 n,.agg (b48 LP).toArray] W λe w'=>(∃s0 s1 s2 s3,e= .returned (.agg #[.int .u8 s0,.int .u8 s1,.int .u8 s2,.int .u8 s3])/\sum4 n LP= [s0,s1,s2,s3])/\K0 W w':=λW=>
  (jSum_any n LP W hn (by rw [<-hLP];exact pageL_ok (by rw [Hm.o];omega) hB)).mono (by rintro e w' ⟨rfl,hk⟩;exact⟨⟨_,_,_,_,rfl,rfl⟩,hk⟩)
 obtain⟨HLP,Hjs⟩:=hid2 hLP hjs;clear hjs hLP;obtain⟨R,hR⟩:=eX (pageR n first last B);rw [hR];go_enter Tryz.func55,Tryz.ntmps55
 go_upto_region 2 with fail
 refine Di λW1 hW1=> ?_;have hk1:K0 w W1:=by rw [hW1];exact Keeps.nt (Keeps.alloc _ _) (Keeps.alloc _ _)
 have hb1:W1.heap[w.heap.size+1]?=some (.cells (b48 (List.replicate 48 0)).toArray 118 (0,0)):=by rw [hW1];exact Kz w _ _
 refine j4F ?_;intro hb0;have c4:W1.cell? ⟨w.heap.size+1,4,none⟩=some (.int .u8 0):=Aa hb1 4;have c5:W1.cell? ⟨w.heap.size+1,5,none⟩=some (.int .u8 0):=Aa hb1 5;have f4:=Ab hb1 4;have f5:=Ab hb1 5;have hat1:At48 W1 (w.heap.size+1) (List.replicate 48 0):=⟨hb1,List.length_replicate⟩;have lt:=lt_of_block hb1;clear hW1;have Hk1:=Lib.hid hk1;clear hk1 hb1;obtain⟨Hb0,HR,Hat1⟩:=hid3 hb0 hR hat1;clear hat1 hR hb0
 cases first
 ·rcases hcase with⟨rfl,rfl⟩|⟨rfl,rfl⟩|⟨hlt,rfl⟩
  ·
   go_upto_region 9 with fail
   refine Di λW2 hW2=> ?_
   obtain⟨L2,hL2,hL2e⟩:∃L,At48 W2 (w.heap.size+1) L/\L= [0,0,0,0,fl,(mI:Int)]++List.replicate 42 0:=by
    rw [hW2];exact⟨_,Hat1.o.set 5 _,by rw [<-Hfl.o,HmI.o];rfl⟩
   exact j2e
  ·exact j2f
  ·exact j2f
 ·rcases hcase with⟨rfl,rfl⟩|⟨rfl,rfl⟩|⟨hlt,rfl⟩
  ·exact j2f
  ·exact j4G
  ·exact j4G
theorem Vz(P:Nat)(v:Value)(p:Pd)(k:Nat)(w:World)(h:PadAt w P v p)(hb:∀x,p.l[k]?=some x->x.is=0):Calls Tryz.prog 47 #[(.pointer (some ⟨P,0,none⟩)),.int .i64 k] w (Mm w [] false):=by
 rcases hx:p.l[k]? with _|x
 ·exact Acz P v p k w h (by have:=List.getElem?_eq_none_iff.1 hx;omega)
 ·have:=Ad0 P v p k x w h hx;rw [if_pos (hb x hx),decide_eq_true (hb x hx)] at this;exact this
theorem Ad7(P:Nat)(k:Nat)(w:World)(hl:∀W,K0 w W->Calls Tryz.prog 47 #[(.pointer (some ⟨P,0,none⟩)),.int .i64 k] W (Mm W [] false)):
  Calls Tryz.prog 45 #[(.pointer (some ⟨P,0,none⟩)),.int .i64 k] w λe w'=>e= .returned (.tuple #[.slice none 0 0,.int .i64 0,.bool false])/\K0 w w':=by
 have Hl:=Lib.hid hl;clear hl;go_enter Tryz.func45,Tryz.ntmps45;go_wp2_with fail
 go_loopw [1] (λa wr=>a= .int .i64 k/\wr=w) (λ_ _=>0)
 case atStart=>exact⟨rfl,rfl⟩
 case round=>
  obtain⟨rfl,rfl⟩:=hrel
  go_wp2_with (first|(go_at_call 47;(with_reducible refine(Hl.o _ (Keeps.refl _ _)).mono ?_);rintro e w1 ⟨rfl,hk1⟩;have Hk1:=Lib.hid hk1;clear hk1)|(refine wpList_store_row rfl 118 (.tmp 9) (.tmp 22) rfl w1.heap.size (b48 []).toArray rfl rfl 118 (b48 (List.replicate 48 0)).toArray (heap_alloc_new w1 _) Bj rfl (Em _) ?_))
  exact bodyPost_ret (v:= .tuple #[.slice none 0 0,.int .i64 0,.bool false]) (by simp [results,Tryz.results45,go_sem]) rfl ⟨rfl,(Keeps.nt Hk1.o (Keeps.alloc _ _)).trans ((Keeps.setRow _ _ _).mono λk _ e=> .inr j0x)⟩
structure JrnAt(w:World)(J P:Nat)(fl:Int)(vl:Value)(used:Int):Prop where
 blk:w.heap[J]?=some (.cells #[(.pointer (some ⟨P,0,none⟩)),.int .i64 fl,vl,.int .i64 used] 115 (0,0))
theorem Yv(J P:Nat)(v:Value)(p:Pd)(fl:Int)(vl:Value)(used:Int)(w:World)(h:JrnAt w J P fl vl used)(hp:PadAt w P v p):
  Calls Tryz.prog 29 #[(.pointer (some ⟨J,0,none⟩))] w λe w'=>e= .returned (.int .i64 (if p.dn=true\/p.fl≠fl then 15 else 0))/\K0 w w':=by
 have c0:w.cell? ⟨J,0,none⟩=some (.pointer (some ⟨P,0,none⟩)):=Aa h.blk 0;have c1:w.cell? ⟨J,1,none⟩=some (.int .i64 fl):=Aa h.blk 1;have lt:=lt_of_block h.blk;have hd:∀W,K0 w W->Calls Tryz.prog 42 #[(.pointer (some ⟨P,0,none⟩))] W λe w'=>e= .returned (.bool p.dn)/\W=w':=λW hW=>(Rp P v p W (hp.keeps hW (by simp))).mono λe w' h=>⟨h.1,h.2.symm⟩;have hf:∀W,K0 w W->Calls Tryz.prog 43 #[(.pointer (some ⟨P,0,none⟩))] W λe w'=>e= .returned (.int .i64 p.fl)/\W=w':=λW hW=>(Pv P v p W (hp.keeps hW (by simp))).mono λe w' h=>⟨h.1,h.2.symm⟩;obtain⟨l,sn,pf,dn⟩:=p;simp only at hd hf⊢;clear h hp;obtain⟨Hd,Hf⟩:=hid2 hd hf;clear hf hd
 cases dn
 ·by_cases e1:pf=fl
  ·have e1b:(pf !=fl)=false:=by simp [e1]
   rw [if_neg (by simp [e1])];exact j4H
  ·have e1b:(pf !=fl)=true:=by simp [e1]
   rw [if_pos (.inr e1)];exact j4H
 ·rw [if_pos (.inl rfl)];go_enter Tryz.func29,Tryz.ntmps29;go_wp2_with fail;refine Ak (λW=>(W.cell? ⟨J,0,none⟩=some (.pointer (some ⟨P,0,none⟩))/\W.cell? ⟨J,1,none⟩=some (.int .i64 fl)/\J<W.heap.size)/\K0 w W) (.take 0 (.take 1 (.take 2 (.take 3 (.take 4 (.take 5 (.take 6 (.take 7 (.take 8 (.take 9 (.take 10 (.take 11 (.take 12 (.take 13 (.take 14 (.take 15 (.take 16 (.take 17 .done)))))))))))))))))) j9 j9 ?_ ?_
  ·exact⟨⟨c0,c1,lt⟩,Keeps.drew _⟩
  intro w1 hs1 hk1;have Hk1:=Lib.hid hs1.2;clear hs1 hk1;refine jR ?_;refine Gc (v:= ?_) rfl (by rfl) ?_ ?_ ?_ ?_ ?_
  rotate_left 3
  ·exact j1d
  ·intro w' hSw;exact(Hd.o w' hSw.2)
  rotate_right 3
  try simp only [aps]
  refine jm ?_;exact j0w
theorem Yw(J P:Nat)(fl used:Int)(w:World)(h:JrnAt w J P fl (.slice none 0 0) used):Calls Tryz.prog 23 #[(.pointer (some ⟨J,0,none⟩))] w λe w'=>e= .returned (.slice none 0 0)/\w'=w:=by
 have c2:w.cell? ⟨J,2,none⟩=some (.slice none 0 0):=Aa h.blk 2;have lt:=lt_of_block h.blk;have H:=Lib.hid h;clear h;go_enter Tryz.func23,Tryz.ntmps23;go_wp2_with fail
 go_loopw [3,13] (λb c wr=>b= .slice none 0 0/\c= .int .i64 0/\wr=w) (λ_ _ _=>0)
 case atStart=>exact⟨rfl,rfl,rfl⟩
 case round=>
  obtain⟨rfl,rfl,rfl⟩:=hrel;exact jn
theorem map_dry{l:List Lf}(hb:∀x∈l,x.is=0):l.map dryL=l:=by
 rw [List.map_congr_left (g:=id) (λx hx=>by unfold dryL;rw [if_neg (by rw [hb x hx];decide)];rfl),List.map_id]
theorem Qr(p:Pd):(Dm p).l=p.l:=by unfold Dm sinkR;split<;>rfl
theorem Abh(P:Nat)(v:Value)(p:Pd)(w:World)(h:PadAt w P v p)(hf:p.fl+1<=1000000)(hd:p.dn=false)(hs:¬p.sn=1)(hb:∀x∈p.l,x.is=0):
  Calls Tryz.prog 21 #[(.pointer (some ⟨P,0,none⟩))] w λe w'=>∃J,e= .returned (.tuple #[(.pointer (some ⟨J,0,none⟩)),.int .i64 0])/\w.heap.size<=J/\JrnAt w' J P p.fl (.slice none 0 0) 0/\PadAt w' P v (Dm p)/\Keeps (PFoot P v) w w':=by
 have h1:=Rp P v p w h;rw [hd] at h1;have h2:=Pv P v p w h;obtain⟨w1,hw1⟩:=eY (w.alloc (.cells #[(.pointer (some ⟨P,0,none⟩)),.int .i64 p.fl,.slice none 0 0,.int .i64 0] 115));have hk1:K0 w w1:=by rw [hw1];exact Keeps.alloc _ _
 have hJ1:w1.heap[w.heap.size]?=some (.cells #[(.pointer (some ⟨P,0,none⟩)),.int .i64 p.fl,.slice none 0 0,.int .i64 0] 115 (0,0)):=by rw [hw1];exact heap_alloc_new w _
 have hp1:=h.keeps hk1 (by simp);have hdry:=Ud P v p w1 hp1 hf hd hs;rw [map_dry hb,show({ Dm p with l:=p.l }:Pd)=Dm p by rw [<-Qr p]] at hdry;have hlt:=h.row.lt;have hPw:=lt_of_block h.blk;have hlb:∀(W:World) (k:Nat),PadAt W P v (Dm p)->Calls Tryz.prog 47 #[(.pointer (some ⟨P,0,none⟩)),.int .i64 k] W (Mm W [] false):=λW k hW=>Vz P v _ k W hW (λx hx=>hb x (by rw [Qr] at hx;exact List.mem_of_getElem? hx));have hln:∀(W:World),PadAt W P v (Dm p)->Calls Tryz.prog 46 #[(.pointer (some ⟨P,0,none⟩))] W λe w'=>e= .returned (.int .i64 p.l.length)/\w'=W:=λW hW=>by have:=Uc P v _ W hW;rw [Qr] at this;exact this
 obtain⟨m,hm⟩:=eX p.l.length;have hm2:=h.n;rw [hm] at hln hm2;clear h;obtain⟨H1,H2,Hw1,Hk1,HJ1⟩:=hid5 h1 h2 hw1 hk1 hJ1;clear hJ1 hk1 hw1 h2 h1 hp1;obtain⟨Hdry,Hlt,Hlb,Hln⟩:=hid4 hdry hlt hlb hln;clear hln hlb hlt hdry hm hb;go_enter Tryz.func21,Tryz.ntmps21
 go_wp2_with (first|(go_at_call 42;(with_reducible refine H1.o.mono ?_);rintro e w2 ⟨rfl,hw2⟩;subst w2)|(go_at_call 43;(with_reducible refine H2.o.mono ?_);rintro e w2 ⟨rfl,hw2⟩;subst w2)|(go_at_call 44;rw [<-Hw1.o];(with_reducible refine Hdry.o.mono ?_);rintro e w3 ⟨rfl,hp3,hk3⟩;have Hp3:=Lib.hid hp3;have Hk3:=Lib.hid hk3;clear hp3 hk3))
 have hk03:Keeps (PFoot P v) w w3:=(Hk1.o.mono λ_ _ h=>h.elim).trans (Hk3.o.mono λ_ _ e=> .inl e)
 have hJ3:w3.heap[w.heap.size]?=some (.cells #[(.pointer (some ⟨P,0,none⟩)),.int .i64 p.fl,.slice none 0 0,.int .i64 0] 115 (0,0)):=by
  rw [Hk3.o.block _ (lt_of_block HJ1.o) ?_];exact HJ1.o;rintro(e|e)
  ·omega
  ·exact absurd (Hlt.o _ e).2 j6
 have c3:w3.cell? ⟨w.heap.size,3,none⟩=some (.int .i64 0):=Aa hJ3 3;have l3:=lt_of_block hJ3;have hrec:Calls Tryz.prog 45 #[(.pointer (some ⟨P,0,none⟩)),.int .i64 0] w3 λe w'=>e= .returned (.tuple #[.slice none 0 0,.int .i64 0,.bool false])/\K0 w3 w':=Ad7 P 0 w3 (λW hW=>Hlb.o W 0 (Hp3.o.keeps hW (by simp)));obtain⟨Hk03,HJ3,Hrec⟩:=hid3 hk03 hJ3 hrec;clear hrec hJ3 hk03
 go_loopw [8] (λ_ wr=>wr=w3) (λ_ _=>0)
 case atStart=>exact rfl
 case round=>
  have hwr:wr=w3:=hrel;clear hrel;subst wr
  go_wp2_with (go_at_call 45;(with_reducible refine Hrec.o.mono ?_);rintro e w4 ⟨rfl,hk4⟩;have c4:w4.cell? ⟨w.heap.size,3,none⟩=some (.int .i64 0):=(hk4.cell l3 (by simp)).trans c3;have Hk4:=Lib.hid hk4;clear hk4)
  go_loopw [9] (λa wr=>∃k:Nat,k<=m/\a= .int .i64 k/\K0 w3 wr) (λa _=>m-(intOf a).toNat)
  case atStart=>exact⟨0,Nat.zero_le _,rfl,Hk4.o⟩
  case round=>
   obtain⟨k,hk,rfl,hkr⟩:=hrel;have hpr:=Hp3.o.keeps hkr (by simp);have hl1:=Hln.o wr hpr;have hl2:=Hlb.o wr k hpr;by_cases hkm:k<m
   ·have hkI:(k:Int)<(m:Int):=j8;obtain⟨Hkr,Hpr,Hl1,Hl2⟩:=hid4 hkr hpr hl1 hl2;clear hl2 hl1 hpr hkr
    go_wp2_with (first|(go_at_call 46;(with_reducible refine Hl1.o.mono ?_);rintro e w5 ⟨rfl,hw5⟩;subst w5)|(go_at_call 47;(with_reducible refine Hl2.o.mono ?_);rintro e w6 ⟨rfl,hk6⟩;have Hk6:=Lib.hid hk6;clear hk6)|(refine wpList_store_row rfl 118 (.tmp 10) (.tmp 69) rfl w6.heap.size (b48 []).toArray rfl rfl 118 (b48 (List.replicate 48 0)).toArray (heap_alloc_new w6 _) Bj rfl (Em _) ?_))
    refine⟨⟨k+1,by omega,by go_num,(Keeps.nt (Keeps.nt Hkr.o Hk6.o) (Keeps.alloc _ _)).trans ((Keeps.setRow _ _ _).mono λi _ e=> .inr (by have:=Hkr.o.size;have:=Hk6.o.size;omega))⟩,by simp [intOf];omega⟩
   ·obtain rfl:k=m:=by omega
    obtain⟨Hkr,Hpr,Hl1,Hl2⟩:=hid4 hkr hpr hl1 hl2;clear hl2 hl1 hpr hkr
    go_wp2_with (first|(go_at_call 46;(with_reducible refine Hl1.o.mono ?_);rintro e w5 ⟨rfl,hw5⟩;subst w5))
    exact bodyPost_ret (v:= .tuple #[(.pointer (some ⟨w.heap.size,0,none⟩)),.int .i64 0]) (by simp [results,Tryz.results21,go_sem]) rfl ⟨w.heap.size,rfl,Nat.le_refl _,⟨Ad HJ3.o Hkr.o (by simp)⟩,Hpr.o,Hk03.o.trans (Hkr.o.mono λ_ _ h=>h.elim)⟩
theorem alloc2(w:World)(a b:Obj):((w.alloc a).alloc b).heap[w.heap.size+1]?=some b:=Kz w a b
theorem jPage_no(n:Nat)(first:Bool)(ad:Option Addr)(cap m:Nat)(w:World)(hn:n<=20000)(h1:1<=m)(h2:m<41):
  Calls Tryz.prog 55 #[.int .i64 n,.bool first,.bool false,.slice ad m cap] w λe w'=>e= .returned (.tuple #[.agg (b48 (List.replicate 48 0)).toArray,.int .i64 1])/\K0 w w':=by
 have m1:(1:Int)<=(m:Int):=j8;have m2:(m:Int)<41:=j8;have qa:decide ((n:Int)<0)=false:=by rw [decide_eq_false_iff_not];omega
 have qb:decide ((20000:Int)<(n:Int))=false:=by rw [decide_eq_false_iff_not];omega
 obtain⟨R,hR⟩:=eX (List.replicate 48 (0:Int));go_enter Tryz.func55,Tryz.ntmps55
 go_upto_region 2 with fail
 refine Di λW1 hW1=> ?_;have hk1:K0 w W1:=by rw [hW1];exact Keeps.nt (Keeps.alloc _ _) (Keeps.alloc _ _)
 have hb1:W1.heap[w.heap.size+1]?=some (.cells (b48 (List.replicate 48 0)).toArray 118 (0,0)):=by rw [hW1];exact Kz w _ _
 refine j4F ?_;intro hb0;clear hW1;rw [hR] at hb0 hb1;obtain⟨Hk1,Hb1,Hb0,HR⟩:=hid4 hk1 hb1 hb0 hR;clear hR hb0 hb1 hk1
 go_wp2_with (first|(refine wpList_store_row rfl 118 (.tmp 8) (.tmp 37) rfl w.heap.size (b48 R).toArray rfl rfl 118 (b48 R).toArray Hb0.o Bj rfl (Em _) ?_)|(refine wpList_load_row rfl 118 (.tmp 10) rfl (w.heap.size+1) rfl 118 (b48 R).toArray _ _ Hb1.o Tryz.underlying118 rfl Bj ?_))
 all_goals
  exact bodyPost_ret (Cq rfl _ _ w.heap.size 118 (b48 R).toArray _ _ _ rfl rfl (setRow_heap _ _ _ _ _ _ Hb0.o) Tryz.underlying118 rfl Bj) rfl ⟨by rw [<-HR.o];rfl,Hk1.o.trans ((Keeps.setRow _ _ _).mono λi _ e=> .inr (Nat.le_of_eq e.symm))⟩
open Go.RowKit Go.IntWalk Go.Shelf
attribute [local go_sem] Oper.semAt_some
def ja12(W:World)(a b c d:Nat)(x y z t:Value)(V:World):Prop:=((V.cell? ⟨a,0,none⟩=some x/\a<V.heap.size)/\(V.cell? ⟨b,0,none⟩=some y/\b<V.heap.size)/\(V.cell? ⟨c,3,none⟩=some z/\c<V.heap.size)/\(V.cell? ⟨d,0,none⟩=some t/\d<V.heap.size))/\K0 W V
theorem ja12.keep{W:World}{a b c d:Nat}{x y z t:Value}{V V':World}(h:ja12 W a b c d x y z t V)(k:K0 V V'):ja12 W a b c d x y z t V':=by
 obtain⟨⟨⟨h1,l1⟩,⟨h2,l2⟩,⟨h3,l3⟩,h4,l4⟩,hk⟩:=h;have:=k.size;exact⟨⟨⟨(k.cell l1 (by simp)).trans h1,by omega⟩,⟨(k.cell l2 (by simp)).trans h2,by omega⟩,⟨(k.cell l3 (by simp)).trans h3,by omega⟩,(k.cell l4 (by simp)).trans h4,by omega⟩,hk.nt k⟩
theorem ja12.kept{W:World}{a b c d:Nat}{x y z t:Value}{V:World}(h:ja12 W a b c d x y z t V):K0 W V:=h.2
theorem NoOut.normal{Q:Exit->Act->World->Prop}{a:Act}{w:World}(h:Q .normal a w):NoOut Q .normal a w:=h
theorem Lt{Q:Exit->Act->World->Prop}{a:Act}{w:World}(h:∀V,V=w->Q .normal a V):Q .normal a w:=h w rfl
theorem Xc{P:Nat}{v:Value}{W0 W w10:World}{nb:Nat}{q z:Int}{p1:Pd}(hsz:W0.heap.size=nb+3)(hkk:Keeps (λk=>PFoot P v k\/k=nb) W0 W)(hk:Keeps (PFoot P v) W w10)(hb:w10.heap[nb]?=some (.cells #[.int .i64 q] 3 (0,0)))
  (hpad:PadAt w10 P v p1) (hcl:∀i,(PFoot P v i\/i=nb)->∀o,W.heap[i]?=some o->o.isCells=true) (hfoot:∀k,PFoot P v k->k<nb):
  KeepsOthers W (w10.setCell ⟨nb,0,none⟩ (.int .i64 z))/\Dt (nb+1) (nb+2) W (w10.setCell ⟨nb,0,none⟩ (.int .i64 z))/\(w10.setCell ⟨nb,0,none⟩ (.int .i64 z)).heap[nb]?=some (.cells #[.int .i64 z] 3 (0,0))/\PadAt (w10.setCell ⟨nb,0,none⟩ (.int .i64 z)) P v p1/\Keeps (λk=>PFoot P v k\/k=nb) W0 (w10.setCell ⟨nb,0,none⟩ (.int .i64 z)):=by
 have hk11:Keeps (λk=>PFoot P v k\/k=nb) W (w10.setCell ⟨nb,0,none⟩ (.int .i64 z)):=(hk.mono λi _ e=> .inl e).trans ((Keeps.setCell (S:=λk=>PFoot P v k\/k=nb) _ _ _ (.inr rfl)).mono λi _ e=> .inl e);have hsW:=hkk.size;have no:∀i,nb<i->¬(PFoot P v i\/i=nb):=λi hi e=>by rcases e with e|e;have:=hfoot _ e;omega;omega
 refine⟨⟨hk11.size,λi o hi ho=>(hk11.block i (lt_of_block hi) λe=>by rw [hcl i e o hi] at ho;cases ho).trans hi⟩,⟨hk11.block _ j6 (no _ j6),hk11.block _ j6 (no _ j6)⟩, ?_,hpad.keeps (Keeps.setCell (S:=λi=>i=nb) _ _ _ rfl) (λi hi e=>by have:=hfoot _ hi;omega),hkk.trans (hk11.mono λi _ e=> .inl e)⟩;rw [heap_setCell_same _ _ 0 _ _ (.int .i64 z) hb];rfl
def ja13(S:Nat->Prop)(W:World)(a b c:Nat)(x y z:Value)(E:Nat)(G:List Int)(V:World):Prop:=((V.cell? ⟨a,0,none⟩=some x/\a<V.heap.size)/\(V.cell? ⟨b,0,none⟩=some y/\b<V.heap.size)/\(V.cell? ⟨c,0,none⟩=some z/\c<V.heap.size)/\V.heap[E]?=some (.cells (b48 G).toArray 118 (0,0)))/\Keeps S W V
theorem ja13.keep{S:Nat->Prop}{W:World}{a b c:Nat}{x y z:Value}{E:Nat}{G:List Int}{V V':World}(h:ja13 S W a b c x y z E G V)(k:Keeps S V V')(na:¬S a)(nb:¬S b)(nc:¬S c)(ne:¬S E):ja13 S W a b c x y z E G V':=by
 obtain⟨⟨⟨h1,l1⟩,⟨h2,l2⟩,⟨h3,l3⟩,h4⟩,hk⟩:=h;have:=k.size;exact⟨⟨⟨(k.cell l1 na).trans h1,by omega⟩,⟨(k.cell l2 nb).trans h2,by omega⟩,⟨(k.cell l3 nc).trans h3,by omega⟩,(k.block _ (lt_of_block h4) ne).trans h4⟩,hk.trans (k.mono λi _ e=> .inl e)⟩
theorem Reads.keepB{S:Nat->Prop}{w w':World}{size:Nat}{x:Value}{m:Nat}{news:List Value}(h:Reads w size x m news)(hk:Keeps S w w')(hS:∀k,x.ownBlock=some k->k<w.heap.size->¬S k):Reads w' size x m news:=by
 obtain⟨ad,c,rfl,h1,h2,h3,h4⟩:=h;refine⟨ad,c,rfl,h1,h2,h3,λj u hj=> ?_⟩;obtain⟨g,o,rfl,ha⟩:=h4 j u hj;exact⟨g,o,rfl,by rw [hk.cell (Ai ha) (hS g rfl (Ai ha))];exact ha⟩
theorem Reads.capOf{w:World}{size m c c':Nat}{g o:Nat}{xs:List Value}(h:Reads w size (.slice (some ⟨g,o,none⟩) m c) m xs)(hc:m<=c'):Reads w size (.slice (some ⟨g,o,none⟩) m c') m xs:=by
 obtain⟨ad,c1,he,h1,h2,h3,h4⟩:=h;simp only [Value.slice.injEq,true_and] at he;obtain⟨rfl,rfl⟩:=he;exact⟨_,_,rfl,hc,h2,by simp,h4⟩
theorem page_part{V:World}{gs os m cap x nl:Nat}{B:List Int}(hr:Reads V 1 (.slice (some ⟨gs,os,none⟩) m cap) m (B.flatMap u8c))(hm:B.length=m)(hx:x<chunks m)(hnl:min 41 (m-x*41)=nl):
  Reads V 1 (.slice (some ⟨gs,os+x*41,none⟩) nl nl) nl (((B.drop (x*41)).take 41).flatMap u8c):=by
 have hx1:x*41<m:=by unfold chunks at hx;omega
 have h1:=hr.sufL Fq (x*41) j6;have h2:=(h1.preL Fq nl j6).capOf (Nat.le_refl nl);rw [Nat.mul_one] at h2;rw [show(B.drop (x*41)).take 41=(B.drop (x*41)).take nl from List.take_eq_take_iff.2 (by rw [List.length_drop,hm];omega)];exact h2
def PgPost(w:World)(G:List Int)(e:Ending)(w':World):Prop:=(∃er,e= .returned (.tuple #[.agg (b48 G).toArray,.int .i64 er]))/\K0 w w'
def pgR(n:Nat)(first last:Bool)(B:List Int):List Int:=if B.length=41\/last=true then pageR n first last B else List.replicate 48 0
def inkL(u c:Nat)(B:List Int):Nat->List Nat->List Lf->List Lf
 |_, [],l=>l
 |k,x::xs,l=>inkL u c B (k+1) xs (l.set (u+k) ⟨1,pgR (u+k) (k==0) (k+1==c) ((B.drop (x*41)).take 41)⟩)
theorem Na(u c:Nat)(B:List Int)(x:Nat):∀(xs:List Nat) (k:Nat) (l:List Lf),inkL u c B k (xs++ [x]) l=(inkL u c B k xs l).set (u+(k+xs.length)) ⟨1,pgR (u+(k+xs.length)) (k+xs.length==0) (k+xs.length+1==c) ((B.drop (x*41)).take 41)⟩
 | [],k,l=>rfl
 |y::xs,k,l=>by
  rw [List.cons_append,inkL,Na u c B x xs (k+1)];simp only [inkL,List.length_cons,show k+1+xs.length=k+(xs.length+1) by omega]
theorem Mg(u c:Nat)(B:List Int):∀(xs:List Nat) (k:Nat) (l:List Lf),(inkL u c B k xs l).length=l.length
 | [],_,_=>rfl
 |_::xs,k,l=>by rw [inkL,Mg u c B xs];simp
theorem Abn(u c:Nat)(B:List Int)(i:Nat):∀(xs:List Nat) (k:Nat) (l:List Lf),u+k+xs.length<=i->(inkL u c B k xs l)[i]?=l[i]?
 | [],_,_,_=>rfl
 |_::xs,k,l,h=>by
  simp only [List.length_cons] at h;rw [inkL,Abn u c B i xs _ _ (by omega),List.getElem?_set_ne (by omega)]
def JAddPost(w:World)(J P:Nat)(v:Value)(p:Pd)(fl:Int)(vl:Value)(u nr m:Nat)(B:List Int)(e:Ending)(w':World):Prop:=
 e= .returned (.int .i64 0)/\∃vl' R',JrnAt w' J P fl vl' ((u+chunks m:Nat):Int)/\w'.ownsRow 0 22 1 vl' (nr+1) R'/\PadAt w' P v { p with l:=(inkL u (chunks m) B 0 (List.range (chunks m)) p.l).map dryL }/\
  Keeps (λk=>k=J\/PFoot P v k\/vl.ownBlock=some k) w w'/\(∀g,vl'.ownBlock=some g->vl.ownBlock=some g\/w.heap.size<=g)
def ja20(a b:Nat)(x y:Value)(V:World):Prop:=(V.cell? ⟨a,0,none⟩=some x/\a<V.heap.size)/\(V.cell? ⟨b,0,none⟩=some y/\b<V.heap.size)
theorem ja20.keep{S:Nat->Prop}{a b:Nat}{x y:Value}{V V':World}(h:ja20 a b x y V)(k:Keeps S V V')(na:¬S a)(nb:¬S b):ja20 a b x y V':=by
 obtain⟨⟨h1,l1⟩,h2,l2⟩:=h;have:=k.size;exact⟨⟨(k.cell l1 na).trans h1,by omega⟩,(k.cell l2 nb).trans h2,by omega⟩
theorem Abo:(Tryz.prog.info? 22).map (λi=>(i.zero,i.size,i.bytes))=some (some (.slice none 0 0),1,24):=by kernel_rfl
theorem Wi(w:World)(v:Value)(n:Nat)(xs:List Value)(hr:Reads w 1 v n xs)(h1:∀u∈xs,u.oneCell'=true)(hn:n<=1000000000000):
  Calls Tryz.prog 53 #[v] w λe w'=>∃v',e= .returned v'/\w'.ownsRow 0 5 1 v' n xs/\K0 w w'/\(∀k,v'.ownBlock=some k->w.heap.size<=k):=by
 obtain⟨i0,hi,hz0,hz1,hz2⟩:=info_parts Kr;have hr':=hr;obtain⟨ad,c,rfl,hnc,hl,hnone,hcells⟩:=hr';clear hcells;have heq:=fun(wx:World) (ad:Option Addr) (l c:Nat)=>Lib.run_eql_slice_nil (P:=Tryz.prog) wx 22 _ ad l c 0 0 Tryz.underlying22;rcases ad with _|a
 ·obtain rfl:=hnone rfl;obtain rfl:n=0:=by omega
  obtain rfl:xs= []:=List.eq_nil_of_length_eq_zero jL;clear hr;go_enter Tryz.func53,Tryz.ntmps53;exact jW
 ·have Hr:=Lib.hid hr;clear hr;clear hl hnone;have H1:=Lib.hid h1;clear h1;go_enter Tryz.func53,Tryz.ntmps53
  go_wp2_with (at_builtin;refine Am rfl (.tmp 5) (.tmp 6) 22 rfl 0 5 i0 _ 1 1 Tryz.underlying22 hi hz0 hz1 hz2 rfl j7 _ 0 [] rfl (World.ownsRow_lit w #[] 0 j6 jd rfl) _ n xs rfl (Hr.o.keeps (Keeps.alloc (S:=λ_=>False) _ _) (by simp)) H1.o jd j6 j6 ?_)
  intro v' w1 hown1 hk1 hfr
  have hend:w1.ownsRow 0 5 1 v' n xs/\K0 w w1/\(∀k,v'.ownBlock=some k->w.heap.size<=k):=by
   exact jX
  exact jY
theorem Zx{w W w6 W10:World}{J P R D nr nn:Nat}{v vl vl':Value}{R':List Value}{p':Pd}{fl:Int}(hp0:∀k,PFoot P v k->k<w.heap.size)(hJw:J<w.heap.size)(hvw:∀k,vl.ownBlock=some k->k<w.heap.size)(hJP:¬PFoot P v J)(hvP:∀k,vl.ownBlock=some k->¬PFoot P v k)
  (hW:Keeps (PFoot P v) w W) (hk6:Keeps (PFoot P v) W w6) (hp6:PadAt w6 P v p') (hk:Keeps (λi=>i=J\/vl.ownBlock=some i) w6 W10) (hJ:W10.heap[J]?=some (.cells #[(.pointer (some ⟨P,0,none⟩)),.int .i64 fl,vl',.int .i64 (nn:Int)] 115 (0,0))) (hrow:W10.ownsRow 0 22 1 vl' nr R')
  (hv:∀g,vl'.ownBlock=some g->vl.ownBlock=some g\/w6.heap.size<=g) (hR:w6.heap[R]?=some (.cells #[.int .i64 0] 41 (0,0))) (hRw:w.heap.size<=R) (hD:w.heap.size<=D) (hDv:w6.heap[D]?=some (.deferred (some []))):
  (W10.setCell ⟨R,0,none⟩ (.int .i64 0)).heap[D]?=some (.deferred (some []))/\((W10.setCell ⟨R,0,none⟩ (.int .i64 0)).putObj D (.deferred none)).cell? ⟨R,0,none⟩=some (.int .i64 0)/\
  JrnAt ((W10.setCell ⟨R,0,none⟩ (.int .i64 0)).putObj D (.deferred none)) J P fl vl' nn/\((W10.setCell ⟨R,0,none⟩ (.int .i64 0)).putObj D (.deferred none)).ownsRow 0 22 1 vl' nr R'/\PadAt ((W10.setCell ⟨R,0,none⟩ (.int .i64 0)).putObj D (.deferred none)) P v p'/\
  Keeps (λk=>k=J\/PFoot P v k\/vl.ownBlock=some k) w ((W10.setCell ⟨R,0,none⟩ (.int .i64 0)).putObj D (.deferred none))/\(∀g,vl'.ownBlock=some g->vl.ownBlock=some g\/w.heap.size<=g):=by
 have hs6:w.heap.size<=w6.heap.size:=Nat.le_trans hW.size hk6.size
 have hne:∀k,w.heap.size<=k->¬(k=J\/vl.ownBlock=some k):=λk hk e=>by
  rcases e with e|e
  ·omega
  ·have:=hvw k e;omega
 have hR10:=Ad hR hk (hne R hRw);have hD10:=Ad hDv hk (hne D hD);have hRD:R≠D:=λe=>by rw [e,hDv] at hR;cases hR
 have hk1:Keeps (λk=>k=R) W10 (W10.setCell ⟨R,0,none⟩ (.int .i64 0)):=Keeps.setCell _ _ _ rfl;have hD11:=Ad hD10 hk1 (λe=>hRD e.symm);have hk2:Keeps (λk=>some D=some k) (W10.setCell ⟨R,0,none⟩ (.int .i64 0)) ((W10.setCell ⟨R,0,none⟩ (.int .i64 0)).putObj D (.deferred none)):=Keeps.grown (grownBy_putObj' _ D (.deferred none));have hR11:(W10.setCell ⟨R,0,none⟩ (.int .i64 0)).heap[R]?=some (.cells #[.int .i64 0] 41 (0,0)):=(heap_setCell_same _ _ 0 _ _ (.int .i64 0) hR10).trans rfl;have hR12:=Ad hR11 hk2 (λe=>hRD (Option.some.inj e).symm);have hk12:Keeps (λk=>k=R\/k=D) W10 ((W10.setCell ⟨R,0,none⟩ (.int .i64 0)).putObj D (.deferred none)):=(hk1.mono λi _ e=> .inl e).trans (hk2.mono λi _ e=> .inl (.inr (Option.some.inj e).symm))
 have hv10:∀g,vl'.ownBlock=some g->¬(g=R\/g=D):=λg hg e=>by
  rcases e with rfl|rfl
  ·exact Ah hrow hR10 j7 hg
  ·rcases hrow.2 with⟨hn,_⟩|⟨g',c',cur,hn,_,hgg,_⟩
   ·rw [hn] at hg;simp [Value.ownBlock] at hg
   ·rw [hn] at hg;have e':g'=g:=Option.some.inj hg;rw [e',hD10] at hgg;cases hgg
 have hp10:=hp6.keeps hk λk hk e=>e.elim (λe=>hJP (e▸hk)) λe=>hvP k e hk;refine⟨hD11,Aa hR12 0,⟨Ad hJ hk12 λe=>by omega⟩,hk12.row hrow hv10,hp10.keeps hk12 λk hk e=>by have:=hp0 k hk;omega, ?_,λg hg=>(hv g hg).imp id λh=>by omega⟩;refine(hW.mono λi _ e=> .inr (.inl e)).trans ((hk6.mono λi _ e=> .inl (.inr (.inl e))).trans ((hk.mono λi _ e=> .inl (.inl ?_)).trans (hk12.mono λi _ e=> .inl (.inl (.inr ?_)))))
 ·omega
 ·exact e.imp id .inr
theorem jAdd_ok(J P u m nr:Nat)(v:Value)(p:Pd)(fl:Int)(vl:Value)(RL:List Value)(ad:Option Addr)(cap:Nat)(B:List Int)(w:World)(hj:JrnAt w J P fl vl u)(hrl:w.ownsRow 0 22 1 vl nr RL)(hnr:nr<=1000000)(hp:PadAt w P v p)(hd:p.dn=false)(hf:p.fl=fl)(hs:p.sn=0)
  (hm:B.length=m) (hr:Reads w 1 (.slice ad m cap) m (B.flatMap u8c)) (hsep:∀k,(Value.slice ad m cap).ownBlock=some k->¬PFoot P v k) (hB:∀z∈B,0<=z/\z<=255) (h1:1<=m) (h2:m<=1000000) (hroom:u+chunks m<=p.l.length) (hfl1:p.fl+1<=1000000) (hfr:∀i,u<=i->i<u+chunks m->∃x,p.l[i]?=some x/\x.is=0):
  Calls Tryz.prog 24 #[(.pointer (some ⟨J,0,none⟩)),.slice ad m cap] w (JAddPost w J P v p fl vl u nr m B):=by
 have hup:=λW (hW:K0 w W)=>Yv J P v p fl vl u W ⟨Ad hj.blk hW (by simp)⟩ (hp.keeps hW (by simp));simp only [hd,hf,Bool.false_eq_true,ne_eq,not_true,or_self,if_false] at hup;have hlen:∀W,K0 w W->Calls Tryz.prog 46 #[(.pointer (some ⟨P,0,none⟩))] W λe w'=>e= .returned (.int .i64 p.l.length)/\W=w':=λW hW=>(Uc P v p W (hp.keeps hW (by simp))).mono λe w' h=>⟨h.1,h.2.symm⟩;have m3:((m:Int)==0)=false:=by simp;omega
 obtain⟨i0,hi,hi0,hi1,hi2⟩:=info_parts Abo;obtain⟨Hj,Hp,Hr,Hup,Hlen,Hrl,Hi,Hi0,Hi1⟩:=hid9 hj hp hr hup hlen hrl hi hi0 hi1;clear hi1 hi0 hi hrl hlen hup hr hp hj;have Hi2:=Lib.hid hi2;clear hi2;refine callsIn_wide.1 (callsIn_of_wp_marks (F:=Fence.wide) (n:=3) Tryz.func24 rfl trivial ?_ rfl);simp only [Tryz.ntmps24,List.size_toArray,List.length_cons,List.length_nil,Nat.reduceAdd,Nat.reduceSub,Array.replicate_succ,Array.replicate_zero,List.push_toArray,List.append_toArray,List.nil_append,List.cons_append];refine wpIn_wide.2 ?_
 go_wp2_with (go_at_call 29;(with_reducible refine(Hup.o _ (Keeps.nt (Keeps.alloc _ _) (Keeps.alloc _ _))).mono ?_);rintro e w1 ⟨rfl,hk1⟩;have hkw1:=Keeps.nt (Keeps.nt (Keeps.alloc (S:=λ_=>False) w _) (Keeps.alloc _ _)) hk1;have hbJ:=Ad (Ad (heap_alloc_new w (.cells #[(.pointer (some ⟨J,0,none⟩))] 81)) (Keeps.alloc (S:=λ_=>False) _ (.cells #[.int .i64 0] 41)) (by simp)) hk1 (by simp);have hbR:=Ad (alloc2 w (.cells #[(.pointer (some ⟨J,0,none⟩))] 81) (.cells #[.int .i64 0] 41)) hk1 (by simp);have hj1:=Ad Hj.o.blk hkw1 (by simp);have a0:=Aa hbJ 0;have a2:=Aa hj1 0;have a3:=Aa hj1 3;have lJ:=lt_of_block hbJ;have lR:=lt_of_block hbR;have lj:=lt_of_block hj1;have Hkw1:=Lib.hid hkw1;have HbR:=Lib.hid hbR;have Hj1:=Lib.hid hj1;clear hk1 hkw1 hbJ hbR hj1)
 have hu:wrap64 ((u:Int)+((m:Int)-1) / 41)=(u:Int)+((m:Int)-1) / 41:=wrap64_in _ ⟨by omega,by have:=Hp.o.n;unfold chunks at hroom;omega⟩;rw [hu];obtain⟨la,hla⟩:=eX ((u:Int)+((m:Int)-1) / 41);have hla2:la<(p.l.length:Int):=by unfold chunks at hroom;omega
 have hla3:decide ((p.l.length:Int)<=la)=false:=by rw [decide_eq_false_iff_not];omega
 rw [hla];refine Di λW2 hW2=> ?_;have hk12:K0 w1 W2:=by rw [hW2];exact Keeps.alloc _ _
 have hs6:W2.heap[w1.heap.size]?=some (.cells #[.int .i64 la] 3 (0,0)):=by rw [hW2];exact heap_alloc_new w1 _
 clear hW2;have k0:W2.cell? ⟨w1.heap.size,0,none⟩=some (.int .i64 la):=Aa hs6 0;have k1:W2.cell? ⟨w.heap.size,0,none⟩=some (.pointer (some ⟨J,0,none⟩)):=(hk12.cell lJ (by simp)).trans a0;have k2:W2.cell? ⟨J,0,none⟩=some (.pointer (some ⟨P,0,none⟩)):=(hk12.cell lj (by simp)).trans a2;have kl:=lt_of_block hs6;have hkw2:K0 w W2:=Keeps.nt Hkw1.o hk12;obtain⟨Hk12,Hs6,Hkw2⟩:=hid3 hk12 hs6 hkw2;clear hkw2 hs6 hk12 hu;have Hla:=Lib.hid hla;clear hla;refine Ak (λW=>((W.cell? ⟨w1.heap.size,0,none⟩=some (.int .i64 la)/\w1.heap.size<W.heap.size)/\(W.cell? ⟨w.heap.size,0,none⟩=some (.pointer (some ⟨J,0,none⟩))/\w.heap.size<W.heap.size)/\W.cell? ⟨J,0,none⟩=some (.pointer (some ⟨P,0,none⟩))/\J<W.heap.size)/\K0 W2 W) (.take 0 (.take 1 (.take 2 (.take 3 (.take 4 (.take 5 (.take 6 .done))))))) j9 j9 ?_ ?_
 ·exact⟨⟨⟨k0,kl⟩,⟨k1,by have:=Hk12.o.size;simp;omega⟩,k2,by have:=Hk12.o.size;simp;omega⟩,Keeps.drew _⟩
 intro w3 hs3 hk3;have Hk3:=Lib.hid hs3.2;clear hs3 hk3;refine jR ?_;refine Gc (v:= ?_) rfl (by rfl) ?_ ?_ ?_ ?_ ?_
 rotate_left 3
 ·exact j1d
 ·intro w' hSw;exact(Hlen.o w' (Keeps.nt Hkw2.o hSw.2))
 rotate_right 3
 try simp only [aps]
 refine jm ?_;have hk23:K0 W2 w3:=Hk3.o;have b0:w3.cell? ⟨w1.heap.size,0,none⟩=some (.int .i64 la):=(hk23.cell kl (by simp)).trans k0;have b1:w3.cell? ⟨w.heap.size,0,none⟩=some (.pointer (some ⟨J,0,none⟩)):=(hk23.cell (by have:=Hk12.o.size;simp;omega) (by simp)).trans k1;have b2:w3.cell? ⟨J,0,none⟩=some (.pointer (some ⟨P,0,none⟩)):=(hk23.cell (by have:=Hk12.o.size;simp;omega) (by simp)).trans k2;have b3:w3.cell? ⟨J,3,none⟩=some (.int .i64 (u:Int)):=((Keeps.nt Hk12.o hk23).cell lj (by simp)).trans a3;have Hk23:=Lib.hid hk23;clear hk23;clear k0 k1 k2 a0 a2 a3
 go_wp2_with (go_at_call 54;(with_reducible refine(chunk_any ad m cap _).mono ?_);rintro e w5 ⟨rfl,rfl⟩)
 obtain⟨gs,os,hads⟩:∃gs os,ad=some ⟨gs,os,none⟩:=by
  obtain⟨x0,hx0⟩:=Ar (show 0<B.length by omega);obtain⟨gs,os,hads,_⟩:=Reads.int (k:= .u8) Hr.o hx0;exact⟨gs,os,hads⟩
 subst hads;refine Di λW0 hW0=> ?_;have hk30:K0 w3 W0:=by rw [hW0];exact Keeps.nt (Keeps.nt (Keeps.alloc _ _) (Keeps.alloc _ _)) (Keeps.alloc _ _)
 have hsz:W0.heap.size=w3.heap.size+3:=by rw [hW0];simp
 have e0b:W0.heap[w3.heap.size]?=some (.cells #[.int .i64 (u:Int)] 3 (0,0)):=by rw [hW0];exact Ad (heap_alloc_new w3 _) (Keeps.nt (Keeps.alloc (S:=λ_=>False) _ _) (Keeps.alloc _ _)) (by simp)
 have e0:W0.cell? ⟨w3.heap.size,0,none⟩=some (.int .i64 (u:Int)):=Aa e0b 0;have e1:W0.cell? ⟨w3.heap.size+1,0,none⟩=some (.slice (some ⟨gs,os,none⟩) m cap):=by rw [hW0];exact Aa (Ad (Kz w3 _ _) (Keeps.alloc (S:=λ_=>False) _ _) (by simp)) 0
 have e2:W0.cell? ⟨w3.heap.size+2,0,none⟩=some (.int .i64 41):=by rw [hW0];have:=heap_alloc_new ((w3.alloc (.cells #[.int .i64 (u:Int)] 3)).alloc (.cells #[.slice (some ⟨gs,os,none⟩) m cap] 22)) (.cells #[.int .i64 41] 3);rw [World.size_alloc,World.size_alloc] at this;exact Aa this 0
 clear hW0;refine(wpIn_wide (n:=3)).1 ?_
 have hfw:∀k,PFoot P v k->k<w.heap.size:=by
  rintro k (rfl|hk)
  ·exact lt_of_block Hp.o.blk
  ·exact(Hp.o.row.lt k hk).2
 have hfoot:∀k,PFoot P v k->k<w3.heap.size:=λk hk=>by have:=hfw k hk;have:=Hk12.o.size;have:=Hk23.o.size;omega
 have hJw:J<w.heap.size:=lt_of_block Hj.o.blk
 have hnJ0:¬PFoot P v J:=by
  rintro(e|e)
  ·have h1:=Hj.o.blk;rw [e,Hp.o.blk] at h1;simp at h1
  ·exact Ah Hp.o.row Hj.o.blk j7 e
 obtain⟨nb,hnb⟩:=eX w3.heap.size;rw [hnb] at e0 e0b e1 e2 hsz hfoot⊢;have hp0:PadAt W0 P v p:=Hp.o.keeps ((Hkw2.o.nt Hk23.o).nt hk30) (by simp)
 refine' wpIn_rangeFunc_ownF (F:=Fence.wide) rfl j6 (gf:=85) (lb:= #[(.pointer (some ⟨nb+1,0,none⟩)),(.pointer (some ⟨nb+2,0,none⟩))]) (by rfl) trivial (enters_of Tryz.func85 j9 rfl)
  (Ac5 2 j6 (nb+1) (nb+2) gs os m cap j6 (by obtain⟨ad',c',he,h1,h2,h3,_⟩:=Hr.o;cases he;omega) W0 j6 j6 e1 e2)
  (λh k=>h.trans k) (λW l o o' hl _ _ _=>⟨World.putObj_heap_other j6,World.putObj_heap_other j6⟩) (Below.refl _ _) (λ_=>rfl)
  (fun(pre:List (Ck m)) W=>W.heap[nb]?=some (.cells #[.int .i64 ((u+pre.length:Nat):Int)] 3 (0,0))/\PadAt W P v { p with l:=inkL u (chunks m) B 0 (pre.map Subtype.val) p.l }/\Keeps (λk=>PFoot P v k\/k=nb) W0 W)
  (λ_ _ _=>False) ?own (λc s A C row hs _ _=>hs) ⟨e0b,hp0,Keeps.refl _ _⟩ _ ?assign ?body ?done ?stop
 case own=>
  intro s A C row ⟨hb,hpad,hkk⟩ hg hr;have hK:=Keeps.grown hg;have hno:∀k,k<W0.heap.size->¬row=some k:=λk hk e=>by have:=(hr k e).1;omega
  exact⟨by rw [hK.block _ (lt_of_block hb) (hno _ j6)];exact hb,hpad.keeps hK (λk hf=>hno k (by have:=hfoot k hf;omega)),hkk.trans (hK.mono λi _ e=> .inr (hr i e).1)⟩
 case assign=>
  intro l x W K hK
  gi_wp2
  exact hK
 case body=>
  rintro l pre x W ⟨hb,hpad,hkk⟩ hlen;obtain⟨x,hx⟩:=x;obtain⟨k,hk⟩:=eX pre.length;have hk20:u+k<20000:=by rw [<-hk];have:=Hp.o.n;omega
  obtain⟨nl,hnl⟩:=eX (min 41 (m-x*41));unfold Zt;dsimp only;rw [hnl];have hkW:Keeps (λk=>PFoot P v k\/k=nb) w3 W:=(hk30.mono (by simp)).trans (hkk.mono λi _ e=> .inl e);have hnJ:¬(PFoot P v J\/J=nb):=λe=>e.elim hnJ0 λe=>by have:=Hk12.o.size;have:=Hk23.o.size;omega
  have hnj:∀i,i<w3.heap.size->(i=w.heap.size\/i=w1.heap.size)->¬(PFoot P v i\/i=nb):=λi hi e ff=>by
   rcases ff with ff|ff
   ·have:=hfw i ff;omega
   ·omega
  have lw3:w.heap.size<w3.heap.size/\w1.heap.size<w3.heap.size/\J<w3.heap.size:=by have:=Hk12.o.size;have:=Hk23.o.size;omega
  have f0:W.cell? ⟨nb,0,none⟩=some (.int .i64 ((u+k:Nat):Int)):=by rw [<-hk];exact Aa hb 0
  have f1:W.cell? ⟨w.heap.size,0,none⟩=some (.pointer (some ⟨J,0,none⟩)):=(hkW.cell lw3.1 (hnj _ lw3.1 (.inl rfl))).trans b1;have f2:W.cell? ⟨J,3,none⟩=some (.int .i64 (u:Int)):=(hkW.cell lw3.2.2 hnJ).trans b3;have f3:W.cell? ⟨w1.heap.size,0,none⟩=some (.int .i64 la):=(hkW.cell lw3.2.1 (hnj _ lw3.2.1 (.inr rfl))).trans b0;have f4:W.cell? ⟨J,0,none⟩=some (.pointer (some ⟨P,0,none⟩)):=(hkW.cell lw3.2.2 hnJ).trans b2;have l0:=lt_of_block hb;have l1:w.heap.size<W.heap.size/\w1.heap.size<W.heap.size/\J<W.heap.size:=by have:=hkW.size;omega
  obtain⟨l1,l2,l3⟩:=l1;clear b0 b1 b2 b3;obtain⟨Hb,Hpad,Hkk,HkW⟩:=hid4 hb hpad hkk hkW;clear hkW hkk hpad hb
  gi_wp2_with fail
  obtain⟨q,hq⟩:∃z:Int,((u+k:Nat):Int)=z:=⟨_,rfl⟩;have hbq:=Hb.o;rw [hk,hq] at hbq
  have hcl:∀i,(PFoot P v i\/i=nb)->∀o,W.heap[i]?=some o->o.isCells=true:=by
   intro i hi o ho;rcases hi with(rfl|hi)|rfl
   ·rw [Hpad.o.blk] at ho;cases ho;rfl
   ·rcases Hpad.o.row.2 with⟨hv,_⟩|⟨g,c,cur,hv,_,hg,_⟩
    ·rw [hv] at hi;simp [Value.ownBlock] at hi
    ·rw [hv] at hi;simp only [Value.ownBlock,Option.some.injEq] at hi;subst hi;rw [hg] at ho;cases ho;rfl
   ·rw [Hb.o] at ho;cases ho;rfl
  obtain⟨Hbq,Hcl⟩:=hid2 hbq hcl;clear hcl hbq;obtain⟨ui,hui⟩:∃z:Int,(u:Int)=z:=⟨_,rfl⟩;rw [hq] at f0;rw [hui] at f2;obtain⟨fi,hfi⟩:∃z,(q==ui)=z:=⟨_,rfl⟩;obtain⟨li,hli⟩:∃z,(q==la)=z:=⟨_,rfl⟩;obtain⟨G,hG⟩:∃z,pgR (u+k) (k==0) (k+1==chunks m) ((B.drop (x*41)).take 41)=z:=⟨_,rfl⟩
  have hpg:∀V,K0 W V->Calls Tryz.prog 55 #[.int .i64 q,.bool fi,.bool li,.slice (some ⟨gs,os+x*41,none⟩) nl nl] V (PgPost V G):=by
   intro V hV;have hkV:Keeps (λk=>PFoot P v k\/k=nb) w V:=((((Hkw2.o.nt Hk23.o).mono (T:=λk=>PFoot P v k\/k=nb) (by simp)).trans (HkW.o.mono λi _ e=> .inl e))).trans (hV.mono (by simp));have hrV:Reads V 1 (.slice (some ⟨gs,os,none⟩) m cap) m (B.flatMap u8c):=Hr.o.keepB hkV λg hg hl e=>e.elim (hsep g hg) λe=>by have:=Hkw2.o.size;have:=Hk23.o.size;omega
   have hrd:=page_part hrV hm hx hnl;have hCl:((B.drop (x*41)).take 41).length=nl:=by rw [List.length_take,List.length_drop,hm];exact hnl
   have hfk:fi=(k==0):=by rw [<-hfi,Bool.eq_iff_iff];simp only [beq_iff_eq];omega
   have hlk:li=(k+1==chunks m):=by rw [<-hli,Bool.eq_iff_iff];simp only [beq_iff_eq];have:=Hla.o;unfold chunks;omega
   have hx1:x*41<m:=by unfold chunks at hx;omega
   rw [hfk,hlk,<-hq];by_cases hc:nl=41\/(k+1==chunks m)=true
   ·have hok:=jPage_ok (u+k) (k==0) (k+1==chunks m) (some ⟨gs,os+x*41,none⟩) nl _ V (by rw [hCl];exact hrd) (λz hz=>hB z (List.mem_of_mem_drop (List.mem_of_mem_take hz))) j6 (by rw [hCl];omega) (by rw [hCl];omega) (by rw [hCl];exact hc);rw [hCl] at hok;refine hok.mono ?_;rintro e w' ⟨rfl,hk'⟩;exact⟨⟨_,by rw [<-hG];unfold pgR;rw [hCl,if_pos hc]⟩,hk'⟩
   ·have hlf:(k+1==chunks m)=false:=by rcases h:(k+1==chunks m) with _|_;rfl;exact absurd (.inr h) hc
    have hne:¬nl=41:=λh=>hc (.inl h);rw [hlf];refine(jPage_no (u+k) (k==0) (some ⟨gs,os+x*41,none⟩) nl nl V j6 j6 j6).mono ?_;rintro e w' ⟨rfl,hk'⟩;exact⟨⟨_,by rw [<-hG];unfold pgR;rw [hCl,if_neg hc]⟩,hk'⟩
  obtain⟨xl,hxl,hxl0⟩:∃xl,(inkL u (chunks m) B 0 (pre.map Subtype.val) p.l)[u+k]?=some xl/\xl.is=0:=by
   rw [Abn u (chunks m) B (u+k) _ _ _ (by simp [hk])];exact hfr (u+k) j6 (by rw [<-hk];omega)
  have hink:∀V,K0 W V->Calls Tryz.prog 56 #[(.pointer (some ⟨P,0,none⟩)),.int .i64 q,.agg (b48 G).toArray] V λe w'=>e= .returned (.int .i64 0)/\Aa1 P v { p with l:=(inkL u (chunks m) B 0 (pre.map Subtype.val) p.l).set (u+k) ⟨1,G⟩ } V w':=by
   intro V hV;have:=padInk_ok P v _ (u+k) xl G V (Hpad.o.keeps hV (by simp)) hfl1 hd hxl hxl0;simp only [hs,Dm,if_neg (show¬(0:Int)=1 by decide),if_true] at this;rw [hq] at this;rw [hs];exact this
  have np0:¬PFoot P v nb:=λe=>by have:=hfoot _ e;omega
  have np1:¬PFoot P v w.heap.size:=λe=>hnj _ lw3.1 (.inl rfl) (.inl e);have np2:¬PFoot P v J:=λe=>hnJ (.inl e);have Hink:=Lib.hid hink;clear hink;obtain⟨Hpg,Hfi,Hli,HG,Hq⟩:=hid5 hpg hfi hli hG hq;clear hq hG hli hfi hpg hui;refine Gi (ja12 W nb w.heap.size J w1.heap.size (.int .i64 q) (.pointer (some ⟨J,0,none⟩)) (.int .i64 ui) (.int .i64 la)) (.take 0 (.take 1 (.take 2 (.take 3 (.take 4 (.take 5 (.take 6 (.take 7 (.take 8 (.take 9 (.take 10 (.fork 11 (.take 12 (.take 13 (.take 14 (.move 15 (.move 16 (.take 17 .done)))))) 15 (.move 11 (.take 12 (.take 13 (.take 14 (.move 16 (.take 17 .done)))))))))))))))))) j9 j9 ?_ ?_
  ·exact⟨⟨⟨f0,l0⟩,⟨f1,l1⟩,⟨f2,l3⟩,⟨f3,l2⟩⟩,Keeps.drew _⟩
  intro w6 hs6 hk6;have Hs6:=Lib.hid hs6;clear hs6 hk6;refine jR ?_;rw [Hfi.o,Hli.o];refine Dx ?_ ?_ Hs6.o
  ·skip
   refine ja ?_;intro K hK
   go_at_call 55
   ((with_reducible refine(Hpg.o _ Hs6.o.kept).mono ?_);rintro e w7 ⟨⟨er,rfl⟩,hk7⟩)
   have hs7:=Hs6.o.keep hk7;refine hK.out _ _ (by exact hs7) ?_;clear hK K;refine jc ?_;have Hs7:=Lib.hid hs7;clear hs7 hk7;refine je ?_;intro K hK;refine hK.out _ _ (by exact Hs7.o.keep (Keeps.alloc _ _)) ?_;clear hK K;refine jc ?_;refine Ag rfl (λK hK=> ?_);rw [if_pos (by rfl)];refine wp_store_row 118 (.tmp 9) (.tmp 57) rfl w7.heap.size (b48 G).toArray rfl rfl 118 (b48 (List.replicate 48 0)).toArray (heap_alloc_new w7 _) Bj rfl (Em _) ?_;refine hK.out _ _ (by exact Hs7.o.keep ((Keeps.alloc _ _).trans ((Keeps.setRow _ _ _).mono λi _ e=> .inr (Nat.le_of_eq e.symm)))) ?_;clear hK K;refine jh ?_;refine Aq (NoOut.normal (Lt λW8 hW8=> ?_));obtain⟨E,hE⟩:=eX w7.heap.size;have hs8:ja12 W nb w.heap.size J w1.heap.size (.int .i64 q) (.pointer (some ⟨J,0,none⟩)) (.int .i64 ui) (.int .i64 la) W8:=by rw [hW8];exact Hs7.o.keep ((Keeps.alloc _ _).trans ((Keeps.setRow _ _ _).mono λi _ e=> .inr (Nat.le_of_eq e.symm)))
   have hb8:W8.heap[E]?=some (.cells (b48 G).toArray 118 (0,0)):=by rw [hW8,<-hE];exact setRow_heap _ _ _ _ _ _ (heap_alloc_new w7 _)
   have hEn:nb<E:=by rw [<-hE];exact Hs7.o.1.1.2
   rw [hE];clear hW8;exact j4I
  ·skip
   refine ja ?_;intro K hK;refine hK.out _ _ (by exact Hs6.o.keep (Keeps.alloc _ _)) ?_;clear hK K;refine jc ?_;refine ja ?_;intro K hK
   go_at_call 55
   ((with_reducible refine(Hpg.o _ (Hs6.o.keep (Keeps.alloc _ _)).kept).mono ?_);rintro e w7 ⟨⟨er,rfl⟩,hk7⟩)
   have hs7:=(Hs6.o.keep (Keeps.alloc _ _)).keep hk7;have hb7:w7.heap[w6.heap.size]?=some (.cells (b48 (List.replicate 48 0)).toArray 118 (0,0)):=Ad (heap_alloc_new w6 _) hk7 (by simp);refine hK.out _ _ (by exact hs7) ?_;clear hK K;refine jc ?_;have Hs7:=Lib.hid hs7;have Hb7:=Lib.hid hb7;have Hk7:=Lib.hid hk7;clear hs7 hk7 hb7;refine jR ?_;refine Ag rfl (λK hK=> ?_);rw [if_pos (by rfl)];refine wp_store_row 118 (.tmp 9) (.tmp 57) rfl w6.heap.size (b48 G).toArray rfl rfl 118 (b48 (List.replicate 48 0)).toArray Hb7.o Bj rfl (Em _) ?_;have hs8:=Hs6.o.keep (Keeps.trans ((Keeps.alloc (S:=λ_=>False) w6 _).nt Hk7.o) ((Keeps.setRow w7 w6.heap.size (b48 G).toArray).mono λi _ e=> .inr (Nat.le_of_eq e.symm)));have hb8':=setRow_heap _ _ _ (b48 G).toArray _ _ Hb7.o;refine hK.out _ _ (by exact hs8) ?_;clear hK K;refine jh ?_;refine Aq (NoOut.normal (Lt λW8 hW8=> ?_));obtain⟨E,hE⟩:=eX w6.heap.size;rw [<-hW8] at hs8 hb8';rw [hE] at hb8'⊢;have hEn:nb<E:=by rw [<-hE];exact Hs6.o.1.1.2
   have hb8:=hb8';clear hW8 hb8';exact j4I
 case done=>
  rintro D ys W hD hS ⟨hb,hpad,hkk⟩ hK;have hys:ys.length=chunks m:=by have:=congrArg List.length hS;simpa using this
  rw [hS] at hpad;rw [hys] at hb;obtain⟨L1,hL1⟩:=eX (inkL u (chunks m) B 0 (List.range (chunks m)) p.l);rw [hL1] at hpad;have hkW:Keeps (λk=>PFoot P v k\/k=nb) w3 W:=(hk30.mono (by simp)).trans (hkk.mono λi _ e=> .inl e);have lw3:w.heap.size<w3.heap.size/\w.heap.size+1<w3.heap.size/\J<w3.heap.size:=by have:=Hk12.o.size;have:=Hk23.o.size;omega
  have nf1:¬PFoot P v w.heap.size:=λe=>by have:=hfw _ e;omega
  have nf2:¬PFoot P v (w.heap.size+1):=λe=>by have:=hfw _ e;omega
  have nf3:¬PFoot P v nb:=λe=>by have:=hfoot _ e;omega
  have f1:W.cell? ⟨w.heap.size,0,none⟩=some (.pointer (some ⟨J,0,none⟩)):=(hkW.cell lw3.1 (λe=>e.elim nf1 fun(e:w.heap.size=nb)=>by omega)).trans b1;have hJW:W.heap[J]?=some (.cells #[(.pointer (some ⟨P,0,none⟩)),.int .i64 fl,vl,.int .i64 (u:Int)] 115 (0,0)):=Ad (Ad (Ad Hj1.o Hk12.o (by simp)) Hk23.o (by simp)) hkW (λe=>e.elim hnJ0 λe=>by omega);have hRW:W.heap[w.heap.size+1]?=some (.cells #[.int .i64 0] 41 (0,0)):=Ad (Ad (Ad HbR.o Hk12.o (by simp)) Hk23.o (by simp)) hkW (λe=>e.elim nf2 λe=>by omega);have hk0W:Keeps (λk=>PFoot P v k\/k=nb) w W:=((Hkw2.o.nt Hk23.o).mono (T:=λk=>PFoot P v k\/k=nb) (by simp)).trans (hkW.mono λi _ e=> .inl e)
  have hkB:Keeps (PFoot P v) w W:=by
   refine⟨hk0W.os,hk0W.tape,hk0W.output,hk0W.size,λk hk hn=>hk0W.block k hk λe=>e.elim hn λe=>by omega⟩
  have hrdW:Reads W 1 (.slice (some ⟨gs,os,none⟩) m cap) m (B.flatMap u8c):=Hr.o.keepB hkB λg hg hl=>hsep g hg;have hdry:=Ud P v { p with l:=L1 } W hpad hfl1 hd (by show¬p.sn=1;rw [hs];decide)
  have hst:({ Dm { p with l:=L1 } with l:=L1.map dryL }:Pd)={ p with l:=L1.map dryL }:=by
   obtain⟨l0,sn0,fl0,dn0⟩:=p;simp only at hs;subst hs;rfl
  rw [hst] at hdry;have e0:=Aa hJW 0;have lt1:w.heap.size<W.heap.size:=by have:=hkW.size;omega
  have hnvJ:¬vl.ownBlock=some J:=Ah Hrl.o Hj.o.blk j7;have hvlt:∀k,vl.ownBlock=some k->k<w.heap.size:=λk hk=>Ch Hrl.o hk
  have hvP:∀k,vl.ownBlock=some k->¬PFoot P v k:=by
   rintro k hk (rfl|e)
   ·exact Ah Hrl.o Hp.o.blk j7 hk
   ·exact Fj Hrl.o Hp.o.row j7 hk e
  have hrlW:W.ownsRow 0 22 1 vl nr RL:=hkB.row Hrl.o hvP;have hbW:=hb;clear hb hkk;obtain⟨HL1,HkW,HJW,HRW⟩:=hid4 hL1 hkW hJW hRW;clear hRW hJW hkW hL1 hk0W;obtain⟨HkB,HrdW,Hdry⟩:=hid3 hkB hrdW hdry;clear hdry hrdW hkB hst;obtain⟨HrlW,Hpad,HK⟩:=hid3 hrlW hpad hK;clear hK hpad hrlW hS
  go_wp2_with (go_at_call 44;(with_reducible refine Hdry.o.mono ?_);rintro e w6 ⟨rfl,hp6,hk6⟩;have Hp6:=Lib.hid hp6;have Hk6:=Lib.hid hk6;clear hp6 hk6)
  have hJ6:=Ad HJW.o Hk6.o hnJ0;have hR6:=Ad HRW.o Hk6.o nf2;have hK6:=Ad HK.o Hk6.o (λe=>by have:=hfw _ e;omega);have hrl6:=Hk6.o.row HrlW.o hvP;have hrd6:=HrdW.o.keepB Hk6.o λg hg _=>hsep g hg;have hn6:w6.cell? ⟨nb,0,none⟩=some (.int .i64 ((u+chunks m:Nat):Int)):=(Hk6.o.cell (lt_of_block hbW) nf3).trans (Aa hbW 0);have hf6:w6.cell? ⟨w.heap.size,0,none⟩=some (.pointer (some ⟨J,0,none⟩)):=(Hk6.o.cell lt1 nf1).trans f1;have hcl:=λV (hV:K0 w6 V)=>Wi V (.slice (some ⟨gs,os,none⟩) m cap) m (B.flatMap u8c) (hrd6.keeps hV (by simp)) (u8c_one B) j6;have nj1:¬w.heap.size=J:=j8;have nj2:¬nb=J:=j8;have nv1:¬vl.ownBlock=some w.heap.size:=λe=>by have:=hvlt _ e;omega
  have nv2:¬vl.ownBlock=some nb:=λe=>by have:=hvlt _ e;omega
  have l6a:w.heap.size<w6.heap.size/\nb<w6.heap.size:=by have:=Hk6.o.size;have:=lt_of_block hbW;omega
  obtain⟨nI,hnI⟩:∃z:Int,((u+chunks m:Nat):Int)=z:=⟨_,rfl⟩;rw [hnI] at hn6;clear e0 f1 hbW;obtain⟨HJ6,HR6,HK6,Hrl6⟩:=hid4 hJ6 hR6 hK6 hrl6;clear hrl6 hK6 hR6 hJ6 hrd6;obtain⟨Hcl,HnI⟩:=hid2 hcl hnI;clear hnI hcl;refine Ak (ja20 w.heap.size nb (.pointer (some ⟨J,0,none⟩)) (.int .i64 nI)) (.take 0 (.take 1 (.take 2 (.take 3 (.take 4 (.take 6 (.take 10 (.fork 5 (.move 7 (.move 8 (.move 9 (.take 11 (.take 12 (.move 13 (.take 14 (.take 15 (.move 16 .done))))))))) 7 (.fork 5 (.move 8 (.move 9 (.take 11 (.take 12 (.move 13 (.take 14 (.take 15 (.move 16 .done)))))))) 8 (.move 5 (.move 9 (.take 11 (.take 12 (.move 13 (.take 14 (.take 15 (.move 16 .done))))))))))))))))) j9 j9 ?_ ?_
  ·exact⟨⟨hf6,l6a.1⟩,hn6,l6a.2⟩
  intro w7 hs7 hk7;clear hf6 hn6 l6a;refine jR ?_;have hJ7:=Ad HJ6.o hk7 (by simp);have c2:=Aa hJ7 2;have Hs7:=Lib.hid hs7;have Hk7:=Lib.hid hk7;clear hs7 hk7 hJ7;refine Dx ?_ ?_ Hs7.o
  ·skip
   refine ja ?_;intro K hK;refine hK.out _ _ (by exact Hs7.o) ?_;clear hK K;refine jc ?_;refine ja ?_;intro K hK
   go_at_call 53
   ((with_reducible refine(Hcl.o _ Hk7.o).mono ?_);rintro e w8 ⟨v8,rfl,hrow8,hk8,_⟩)
   obtain⟨a8,c8,rfl,_,_⟩:=Ae hrow8;dsimp only;have hs8:=Hs7.o.keep hk8 (by simp) (by simp);refine hK.out _ _ (by exact hs8) ?_;clear hK K;refine jc ?_;have hk68:=(Hk7.o).nt hk8;have hJ8:=Ad HJ6.o hk68 (by simp);have c2':=Aa hJ8 2;have l8:=lt_of_block hJ8;have Hs8:=Lib.hid hs8;have Hk68:=Lib.hid hk68;clear hs8 hk8 hk68 hJ8 hrow8;exact j2g
  ·skip
   refine ja ?_;intro K hK
   go_at_call 53
   ((with_reducible refine(Hcl.o _ Hk7.o).mono ?_);rintro e w8 ⟨v8,rfl,hrow8,hk8,_⟩)
   obtain⟨a8,c8,rfl,_,_⟩:=Ae hrow8;dsimp only;have hs8:=Hs7.o.keep hk8 (by simp) (by simp);refine hK.out _ _ (by exact hs8) ?_;clear hK K;refine jc ?_;have hk68:=(Hk7.o).nt hk8;have hJ8:=Ad HJ6.o hk68 (by simp);have c2':=Aa hJ8 2;have l8:=lt_of_block hJ8;have Hs8:=Lib.hid hs8;have Hk68:=Lib.hid hk68;clear hs8 hk8 hk68 hJ8 hrow8;refine Dx ?_ ?_ Hs8.o
   ·skip
    refine ja ?_;intro K hK;refine hK.out _ _ (by exact Hs8.o) ?_;clear hK K;refine jc ?_;exact j2g
   ·skip
    refine j4J ?_;exact j2g
 case stop=>
  rintro D c pre W hD _ h;exact h.elim
end Go.Proofs.YtjkdnaljkdnomaaGreatDoor
