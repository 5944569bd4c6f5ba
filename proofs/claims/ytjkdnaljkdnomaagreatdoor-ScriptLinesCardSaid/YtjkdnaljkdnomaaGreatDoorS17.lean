/- Part 17 of what the laws of this seat share: walks of functions, and plain laws. -/
import Derived.Shelf.Abstract
import Derived.Test.YtjkdnaljkdnomaaGreatDoorS13
import Derived.Test.YtjkdnaljkdnomaaGreatDoorS15
import Derived.Test.YtjkdnaljkdnomaaGreatDoorS16
set_option maxRecDepth 100000
set_option maxHeartbeats 3200000
namespace Go.Proofs.YtjkdnaljkdnomaaGreatDoor
open Go.RowKit
structure Ff(q:Ev->Bool)(L X:List Ev)(n i j:Nat):Prop where
 len:X.length=n
 lt:i<j
 le:j<=n
 pre:X.take i=(L.take j).filter (λx=> !q x)
 suf:X.drop j=L.drop j
theorem Ff.start{q:Ev->Bool}{L:List Ev}{n k:Nat}(hn:L.length=n)(h:L.findIdx? q=some k):Ff q L L n k (k+1):=by
 rw [List.findIdx?_eq_some_iff_getElem] at h;obtain⟨hk,hq,hno⟩:=h;refine⟨hn,Nat.lt_succ_self _,by omega, ?_,rfl⟩
 have hall:(L.take k).filter (λx=> !q x)=L.take k:=by
  rw [List.filter_eq_self];intro x hx;obtain⟨i,hi,he⟩:=List.mem_iff_getElem.1 hx;have hi':i<k:=by simp at hi;omega
  have:=hno i hi';rw [List.getElem_take] at he;rw [he] at this
  simpa using this
 rw [take_snoc' (List.getElem?_eq_getElem hk),List.filter_append,hall];simp [hq]
theorem Ff.at{q:Ev->Bool}{L X:List Ev}{n i j:Nat}(h:Ff q L X n i j){x:Ev}(hx:X[j]?=some x):L[j]?=some x:=by
 have e:=congrArg (λl:List Ev=>l[0]?) h.suf
 simpa [hx] using e.symm
theorem Ff.keep{q:Ev->Bool}{L X:List Ev}{n i j:Nat}(h:Ff q L X n i j){x:Ev}(hx:X[j]?=some x)(hq:q x=false):Ff q L (X.set i x) n (i+1) (j+1):=by
 have hj:=Dr hx;have hl:=h.len;have hlt:=h.lt;refine⟨by rw [List.length_set];exact hl,by omega,by omega, ?_, ?_⟩
 ·rw [take_snoc' (h.at hx),List.filter_append,<-h.pre];have e:(X.set i x)[i]?=some x:=by rw [List.getElem?_set_self j6]
  rw [take_snoc' e,List.take_set_of_le (Nat.le_refl _)];simp [hq]
 ·rw [List.drop_set,if_pos j6,<-List.drop_drop,h.suf,List.drop_drop]
theorem Ff.skip{q:Ev->Bool}{L X:List Ev}{n i j:Nat}(h:Ff q L X n i j){x:Ev}(hx:X[j]?=some x)(hq:q x=true):Ff q L X n i (j+1):=by
 have hj:=Dr hx;have hl:=h.len;have hlt:=h.lt;refine⟨hl,by omega,by omega, ?_, ?_⟩
 ·rw [take_snoc' (h.at hx),List.filter_append,<-h.pre];simp [hq]
 ·rw [<-List.drop_drop,h.suf,List.drop_drop]
theorem Ff.done{q:Ev->Bool}{L X:List Ev}{n i:Nat}(hn:L.length=n)(h:Ff q L X n i n):X.take i=L.filter (λx=> !q x):=by
 rw [h.pre,List.take_of_length_le j6]
theorem Ff.cnt{q:Ev->Bool}{L X:List Ev}{n i j:Nat}(h:Ff q L X n i j):i<=n:=by have:=h.lt;have:=h.le;omega
theorem Pn(g:Nat)(e:TypeId):∀(vs:List Value) (o:Nat) (w:World) (cur:Array Value),w.heap[g]?=some (.cells cur e (0,0))->∃cur':Array Value,(w.setCells g o vs).heap[g]?=some (.cells cur' e (0,0))/\cur'.size=cur.size/\∀j,j<o->cur'[j]?=cur[j]?
 | [],_,_,cur,h=>⟨cur,h,rfl,λ_ _=>rfl⟩
 |v::r,o,w,cur,h=>by
  obtain⟨cur',h1,h2,h3⟩:=Pn g e r (o+1) (w.setCell ⟨g,o,none⟩ v) _ (heap_setCell_same _ _ o _ _ v h);refine⟨cur',h1,by rw [h2];simp,λj hj=> ?_⟩;rw [h3 j (by omega),Array.getElem?_setIfInBounds_ne (by omega)]
theorem Zr{w:World}{g n cap i:Nat}{X:List Ev}(h:w.ownsRow 0 186 5 (.slice (some ⟨g,0,none⟩) n cap) n (X.flatMap Ev.cells))(_:X.length=n)(hi:i<=n)(vs:List Value):(w.setCells g (i*5) vs).ownsRow 0 186 5 (.slice (some ⟨g,0,none⟩) i cap) i ((X.take i).flatMap Ev.cells):=by
 rcases h.2 with⟨h0,_⟩|⟨g1,cap1,cur,h0,_,hh,h1,h2,h3,h4⟩
 ·simp at h0
 simp only [Value.slice.injEq,Option.some.injEq,Addr.mk.injEq,and_true,true_and] at h0;obtain⟨rfl,rfl⟩:=h0;obtain⟨cur',c1,c2,c3⟩:=Pn g 186 vs (i*5) w cur hh;have hlx:=h.1;refine⟨?_,.inr ⟨g,cap,cur',rfl,Nat.zero_le _,c1,by omega,h2,by rw [c2,h3], ?_⟩⟩
 ·rw [<-Kt Ev.Aj,List.length_take,hlx];omega
 ·rw [<-Kt Ev.Aj,<-h4,List.take_take];rw [show min (i*5) (n*5)=i*5 by omega]
  apply List.ext_getElem?
  intro j;by_cases hj:j<i*5
  ·rw [List.getElem?_take,if_pos hj,List.getElem?_take,if_pos hj,Array.getElem?_toList,Array.getElem?_toList];exact c3 j hj
  ·rw [List.getElem?_take,if_neg hj,List.getElem?_take,if_neg hj]
theorem Np(w:World)(g o0 o1 o2 o3 o4:Nat)(a b c d e:Value):Keeps (λi=>g=i) w (((((w.setCell ⟨g,o0,none⟩ a).setCell ⟨g,o1,none⟩ b).setCell ⟨g,o2,none⟩ c).setCell ⟨g,o3,none⟩ d).setCell ⟨g,o4,none⟩ e):=
 ((((Keeps.setCell (S:=λi=>g=i) w _ _ rfl).trans (Keeps.setCell _ _ _ (.inl rfl))).trans (Keeps.setCell _ _ _ (.inl rfl))).trans (Keeps.setCell _ _ _ (.inl rfl))).trans (Keeps.setCell _ _ _ (.inl rfl))
theorem Keeps.same{S:Nat->Prop}{a b c:World}(h:Keeps S a b)(h':Keeps S b c):Keeps S a c:=h.trans (h'.mono λ_ _ e=> .inl e)
def RowE(w:World)(g n cap:Nat)(X:List Ev):Prop:=w.ownsRow 0 186 5 (.slice (some ⟨g,0,none⟩) n cap) n (X.flatMap Ev.cells)/\X.length=n
theorem RowE.keep{w w':World}{g n cap:Nat}{X:List Ev}(h:RowE w g n cap X)(hk:K0 w w'):RowE w' g n cap X:=⟨hk.row h.1 (by simp),h.2⟩
theorem RowE.lt{w:World}{g n cap:Nat}{X:List Ev}(h:RowE w g n cap X):g<w.heap.size:=Ch h.1 rfl
theorem RowE.cells{w:World}{g n cap:Nat}{X:List Ev}(h:RowE w g n cap X){k:Nat}{x:Ev}(hx:X[k]?=some x):
  w.cell? ⟨g,k*5,none⟩=some (.int .i64 x.kind)/\w.cell? ⟨g,k*5+1,none⟩=some (.int .i64 x.day)/\w.cell? ⟨g,k*5+2,none⟩=some (.int .i64 x.tranche)/\w.cell? ⟨g,k*5+3,none⟩=some (.int .i64 x.amount)/\w.cell? ⟨g,k*5+4,none⟩=some (.int .i64 x.ref):=by
 obtain⟨h,rfl⟩:=h;exact⟨Bw Ev.Aj h hx 0 j7,Bw Ev.Aj h hx 1 j7,Bw Ev.Aj h hx 2 j7,Bw Ev.Aj h hx 3 j7,Bw Ev.Aj h hx 4 j7⟩
theorem RowE.free{w:World}{g n cap:Nat}{X:List Ev}(h:RowE w g n cap X)(o:Nat):w.frozen? ⟨g,o,none⟩=false:=by
 rcases h.1.2 with⟨h0,_⟩|⟨g1,cap1,cur,h0,_,hh,_⟩
 ·simp at h0
 ·exact j3l
def putE(w:World)(g k:Nat)(a b c d e:Int):World:=((((w.setCell ⟨g,k*5,none⟩ (.int .i64 a)).setCell ⟨g,k*5+1,none⟩ (.int .i64 b)).setCell ⟨g,k*5+2,none⟩ (.int .i64 c)).setCell ⟨g,k*5+3,none⟩ (.int .i64 d)).setCell ⟨g,k*5+4,none⟩ (.int .i64 e)
theorem RowE.put{w:World}{g n cap:Nat}{X:List Ev}(h:RowE w g n cap X){k:Nat}(hk:k<n)(a b c d e:Int):RowE (putE w g k a b c d e) g n cap (X.set k ⟨a,b,c,d,e⟩):=
 ⟨Px h.1 h.2 hk a b c d e,by simp [h.2]⟩
theorem Ep(w:World)(g k:Nat)(a b c d e:Int):Keeps (λi=>i=g) w (putE w g k a b c d e):=(Np w g _ _ _ _ _ _ _ _ _ _).mono λ_ _ h=>h.symm
theorem RowE.swp{w:World}{g n cap:Nat}{X:List Ev}(h:RowE w g n cap X){i j:Nat}{a b c d e a' b' c' d' e':Int}(hi:X[i]?=some ⟨a,b,c,d,e⟩)(hj:X[j]?=some ⟨a',b',c',d',e'⟩):
  RowE (putE (putE w g i a' b' c' d' e') g j a b c d e) g n cap (swp X i j):=by
 rw [swp_of hi hj];have:=Dr hi;have:=Dr hj;have:=h.2;exact(h.put j6 _ _ _ _ _).put j6 _ _ _ _ _
structure Sw(L X:List Ev)(a b i:Nat):Prop where
 len:X.length=L.length
 at':∀t,X[t]?=if a<=t/\t<a+i then L[t+(b-a)]? else if b<=t/\t<b+i then L[t-(b-a)]? else L[t]?
theorem Sw.start(L:List Ev)(a b:Nat):Sw L L a b 0:=⟨rfl,λt=>by rw [if_neg (by omega),if_neg (by omega)]⟩
theorem Sw.next{L X:List Ev}{a b i:Nat}(h:Sw L X a b i)(hab:a+i<b)(hb:b+i<L.length):Sw L (swp X (a+i) (b+i)) a b (i+1):=by
 refine⟨by rw [Tv];exact h.len,λt=> ?_⟩;have hl:=h.len;rw [swp_get j6 j6,h.at',h.at',h.at'];exact j0V
theorem Sw.done{P U M V S:List Ev}{X:List Ev}{n:Nat}(hU:U.length=n)(hV:V.length=n)(h:Sw (P++U++M++V++S) X P.length (P.length+n+M.length) n):X=P++V++M++U++S:=by
 refine List.ext_getElem? λt=> ?_;rw [h.at'];simp only [List.getElem?_append,List.length_append,hU,hV];exact j0V
theorem swapEv_go(g n cap a b m:Nat)(L:List Ev)(fv:Value)(w:World)(h:RowE w g n cap L)(hab:a+m<=b)(hb:b+m<=n)(hn:n<=1000000):
  Calls Tryz.prog 191 #[.slice (some ⟨g,0,none⟩) n cap,.int .i64 a,.int .i64 b,.int .i64 m,fv] w λe w'=>e= .returned (.tuple #[])/\∃X,Sw L X a b m/\RowE w' g n cap X/\Keeps (λi=>i=g) w w':=by
 have H:=Lib.hid h;clear h;go_enter Tryz.func191,Tryz.ntmps191;go_wp2
 go_loopw [10] (λx wx=>∃(i:Nat) (X:List Ev),x= .int .i64 (i:Nat)/\i<=m/\Sw L X a b i/\RowE wx g n cap X/\Keeps (λi=>i=g) w wx) (λx _=>m-(intOf x).toNat)
 case atStart=>exact⟨0,L,rfl,Nat.zero_le _,Sw.start _ _ _,H.o,Keeps.refl _ _⟩
 case round=>
  obtain⟨i,X,rfl,him,hsw,hrow,hk⟩:=hrel;by_cases hlt:i<m
  ·have hltI:(i:Int)<(m:Int):=j8;have hXn:=hrow.2;have hLn:=H.o.2;obtain⟨⟨x0,x1,x2,x3,x4⟩,hx⟩:=Ar (L:=X) (k:=a+i) j6;obtain⟨⟨y0,y1,y2,y3,y4⟩,hy⟩:=Ar (L:=X) (k:=b+i) j6;obtain⟨c0,c1,c2,c3,c4⟩:=hrow.cells hx;obtain⟨d0,d1,d2,d3,d4⟩:=hrow.cells hy;have hnext:=hsw.next j6 j6;have hrow':=(hrow.swp hx hy).keep (Keeps.drew _);have hk2:=hk.same (((Ep wr g (a+i) y0 y1 y2 y3 y4).same (Ep _ g (b+i) x0 x1 x2 x3 x4)).same (Keeps.drew _));have fa0:wr.frozen? ⟨g,(a+i)*5,none⟩=false:=hrow.free _;have fa1:wr.frozen? ⟨g,(a+i)*5+1,none⟩=false:=hrow.free _;have fa2:wr.frozen? ⟨g,(a+i)*5+2,none⟩=false:=hrow.free _;have fa3:wr.frozen? ⟨g,(a+i)*5+3,none⟩=false:=hrow.free _;have fa4:wr.frozen? ⟨g,(a+i)*5+4,none⟩=false:=hrow.free _;have fb0:wr.frozen? ⟨g,(b+i)*5,none⟩=false:=hrow.free _;have fb1:wr.frozen? ⟨g,(b+i)*5+1,none⟩=false:=hrow.free _;have fb2:wr.frozen? ⟨g,(b+i)*5+2,none⟩=false:=hrow.free _;have fb3:wr.frozen? ⟨g,(b+i)*5+3,none⟩=false:=hrow.free _;have fb4:wr.frozen? ⟨g,(b+i)*5+4,none⟩=false:=hrow.free _;have hp0:(0:Int)<=(a:Int)+i:=j8;have hp1:(a:Int)+i<n:=j8;have hq0:(0:Int)<=(b:Int)+i:=j8;have hq1:(b:Int)+i<n:=j8;have e1:((a:Int)+i).toNat=a+i:=j8;have e2:((b:Int)+i).toNat=b+i:=j8;unfold putE at hrow' hk2;clear hsw hrow hx hy;obtain⟨Hnext,Hrow'⟩:=hid2 hnext hrow';clear hrow' hnext hk;have Hk2:=Lib.hid hk2;clear hk2;go_wp2_with fail
   go_region
   all_goals go_wp2_with fail
   all_goals go_roundw
   case rel=>exact⟨i+1,_,by go_num,by omega,Hnext.o,Hrow'.o,Hk2.o⟩
   case measure=>simp [intOf];omega
  ·go_wp2;go_end0;obtain rfl:i=m:=by omega
   exact⟨rfl,X,hsw,hrow,hk⟩
theorem Nz(P U M V S:List Ev)(g n cap:Nat)(fv:Value)(x y z:Int)(w:World)(h:RowE w g n cap (P++U++M++V++S))(hUV:V.length=U.length)(hn:n<=1000000)(hx:x=P.length)(hy:y=((P.length+U.length+M.length:Nat):Int))(hz:z=U.length):
  Calls Tryz.prog 191 #[.slice (some ⟨g,0,none⟩) n cap,.int .i64 x,.int .i64 y,.int .i64 z,fv] w λe w'=>e= .returned (.tuple #[])/\RowE w' g n cap (P++V++M++U++S)/\Keeps (λi=>i=g) w w':=by
 have hl:=h.2;simp only [List.length_append,hUV] at hl;subst hx hy hz;refine(swapEv_go g n cap _ _ _ _ fv w h j6 j6 hn).mono ?_;rintro e w' ⟨he,X,hX,hr,hk⟩;rw [Sw.done rfl hUV hX] at hr;exact⟨he,hr,hk⟩
theorem rotEv_any(P U V S:List Ev)(g n cap a m b:Nat)(fv:Value)(w:World)(h:RowE w g n cap (P++U++V++S))(hU:U≠ [])(hV:V≠ [])(hn:n<=1000000)(ha:a=P.length)(hm:m=P.length+U.length)(hb:b=P.length+U.length+V.length):
  Calls Tryz.prog 178 #[.slice (some ⟨g,0,none⟩) n cap,.int .i64 a,.int .i64 m,.int .i64 b,fv] w λe w'=>e= .returned (.tuple #[])/\RowE w' g n cap (P++V++U++S)/\Keeps (λi=>i=g) w w':=by
 have hU0:0<U.length:=List.length_pos_iff.2 hU;have hV0:0<V.length:=List.length_pos_iff.2 hV;have hl:=h.2;simp only [List.length_append] at hl;have hma:(m:Int)-a=(U.length:Nat):=j8;have hbm:(b:Int)-m=(V.length:Nat):=j8;have hbn:b<=n:=j8;obtain⟨G,hG⟩:=eX (P++V++U++S);rw [hG];obtain⟨H,HG⟩:=hid2 h hG;clear hG h ha;obtain⟨Hm,Hb⟩:=hid2 hm hb;clear hb hm hl hU hV;go_enter Tryz.func178,Tryz.ntmps178;go_wp2
 go_loopw [10,11] (λx y wx=>∃(i j:Nat) (P' U' V' S':List Ev),x= .int .i64 (i:Nat)/\y= .int .i64 (j:Nat)/\U'.length=i/\V'.length=j/\P'.length+i=m/\0<i/\0<j/\m+j<=b/\P'++V'++U'++S'=G/\RowE wx g n cap (P'++U'++V'++S')/\Keeps (λi=>i=g) w wx) (λx y _=>(intOf x).toNat+(intOf y).toNat)
 case atStart=>exact⟨U.length,V.length,P,U,V,S,by go_num,by go_num,rfl,rfl,Hm.o.symm,hU0,hV0,by have:=Hb.o;have:=Hm.o;omega,HG.o,H.o,Keeps.refl _ _⟩
 case round=>
  obtain⟨i,j,P',U',V',S',rfl,rfl,hu,hv,hp,hi,hj,hmj,hg,hrow,hk⟩:=hrel;have him:i<=m:=j8;by_cases hij:i=j
  ·subst hij;have hrow1:RowE wr g n cap (P'++U'++ []++V'++S'):=by simpa using hrow
   have hc:=Nz P' U' [] V' S' g n cap fv ((m:Int)-i) m i wr hrow1 j6 hn j6 (by simp only [List.length_nil];omega) j6;simp only [List.append_nil,hg] at hc;clear hrow hrow1;have Hc:=Lib.hid hc;clear hc hg;obtain⟨Hk,Hu,Hv,Hp⟩:=hid4 hk hu hv hp;clear hp hv hu hk
   go_wp2_with (go_at_call 191;(with_reducible refine Hc.o.mono ?_);rintro e w1 ⟨rfl,hr1,hk1⟩;have Hr1:=Lib.hid hr1;have Hk1:=Lib.hid hk1;clear hr1 hk1)
   go_end0;exact⟨rfl,Hr1.o,Hk.o.same Hk1.o⟩
  ·by_cases hlt:j<i
   ·obtain⟨U1,U2,rfl,hu1⟩:∃U1 U2,U'=U1++U2/\U1.length=j:=⟨U'.take j,U'.drop j,(List.take_append_drop _ _).symm,by rw [List.length_take];omega⟩;rw [List.length_append] at hu;have hrow1:RowE wr g n cap (P'++U1++U2++V'++S'):=by simpa using hrow
    have hc:=Nz P' U1 U2 V' S' g n cap fv ((m:Int)-i) m j wr hrow1 j6 hn j6 j6 j6;have hg':(P'++V')++U1++U2++S'=G:=by rw [<-hg];simp
    have hltI:(j:Int)<i:=j8;clear hrow hrow1;have Hc:=Lib.hid hc;clear hc hg;obtain⟨Hg',Hk,Hu,Hv,Hp,Hu1⟩:=hid6 hg' hk hu hv hp hu1;clear hu1 hp hv hu hk hg'
    go_wp2_with (go_at_call 191;(with_reducible refine Hc.o.mono ?_);rintro e w1 ⟨rfl,hr1,hk1⟩;have Hr1:=Lib.hid hr1;have Hk1:=Lib.hid hk1;clear hr1 hk1)
    go_roundw
    case rel=>exact⟨i-j,j,P'++V',U2,U1,S',by go_num,rfl,by have:=Hu.o;have:=Hu1.o;omega,Hu1.o,by rw [List.length_append,Hv.o];have:=Hp.o;omega,by omega,hj,hmj,Hg'.o,Hr1.o,Hk.o.same Hk1.o⟩
    case measure=>simp [intOf];omega
   ·obtain⟨V1,V2,rfl,hv1⟩:∃V1 V2,V'=V1++V2/\V2.length=i:=⟨V'.take (j-i),V'.drop (j-i),(List.take_append_drop _ _).symm,by rw [List.length_drop];omega⟩;rw [List.length_append] at hv;have hrow1:RowE wr g n cap (P'++U'++V1++V2++S'):=by simpa using hrow
    have hc:=Nz P' U' V1 V2 S' g n cap fv ((m:Int)-i) ((m:Int)+j-i) i wr hrow1 j6 hn j6 j6 j6;have hg':P'++V1++V2++(U'++S')=G:=by rw [<-hg];simp
    have hr':∀w1,RowE w1 g n cap (P'++V2++V1++U'++S')->RowE w1 g n cap (P'++V2++V1++(U'++S')):=λw1 h=>by simpa using h
    have hltI:(i:Int)<j:=j8;clear hrow hrow1;have Hc:=Lib.hid hc;clear hc hg;obtain⟨Hg',Hk,Hu,Hv,Hp,Hv1,Hr'⟩:=hid7 hg' hk hu hv hp hv1 hr';clear hr' hv1 hp hv hu hk hg'
    go_wp2_with (go_at_call 191;(with_reducible refine Hc.o.mono ?_);rintro e w1 ⟨rfl,hr1,hk1⟩;have Hr1:=Lib.hid hr1;have Hk1:=Lib.hid hk1;clear hr1 hk1)
    go_roundw
    case rel=>exact⟨i,j-i,P',V2,V1,U'++S',rfl,by go_num,Hv1.o,by have:=Hv.o;have:=Hv1.o;omega,Hp.o,hi,by omega,by omega,Hg'.o,Hr'.o _ Hr1.o,Hk.o.same Hk1.o⟩
    case measure=>simp [intOf];omega
structure CmpBy(f:Nat)(ok:Ev->Prop):Prop where
 eg:∀args w,(callFunc f args).run Tryz.prog w= .ok (.enter f args) w
 call:∀x y W,ok x->ok y->Calls Tryz.prog f #[x.agg,y.agg] W λe w'=>∃z,e= .returned (.int .i64 z)/\(z<0↔x.day<y.day)/\K0 W w'
def twoS(g p q:Nat)(a0 a1 a2 a3 a4 b0 b1 b2 b3 b4:Int)(w:World):Prop:=
 (w.cell? ⟨g,p*5,none⟩=some (.int .i64 a0)/\w.cell? ⟨g,p*5+1,none⟩=some (.int .i64 a1)/\w.cell? ⟨g,p*5+2,none⟩=some (.int .i64 a2)/\w.cell? ⟨g,p*5+3,none⟩=some (.int .i64 a3)/\w.cell? ⟨g,p*5+4,none⟩=some (.int .i64 a4))/\
 (w.cell? ⟨g,q*5,none⟩=some (.int .i64 b0)/\w.cell? ⟨g,q*5+1,none⟩=some (.int .i64 b1)/\w.cell? ⟨g,q*5+2,none⟩=some (.int .i64 b2)/\w.cell? ⟨g,q*5+3,none⟩=some (.int .i64 b3)/\w.cell? ⟨g,q*5+4,none⟩=some (.int .i64 b4))
theorem twoS.of{w:World}{g n cap p q:Nat}{X:List Ev}(h:RowE w g n cap X){a0 a1 a2 a3 a4 b0 b1 b2 b3 b4:Int}(hp:X[p]?=some ⟨a0,a1,a2,a3,a4⟩)(hq:X[q]?=some ⟨b0,b1,b2,b3,b4⟩):twoS g p q a0 a1 a2 a3 a4 b0 b1 b2 b3 b4 w:=⟨h.cells hp,h.cells hq⟩
theorem twoS.keep{w w':World}{S:Nat->Prop}{g p q:Nat}{a0 a1 a2 a3 a4 b0 b1 b2 b3 b4:Int}(h:twoS g p q a0 a1 a2 a3 a4 b0 b1 b2 b3 b4 w)(hk:Keeps S w w')(hS:¬S g):twoS g p q a0 a1 a2 a3 a4 b0 b1 b2 b3 b4 w':=by
 obtain⟨⟨h0,h1,h2,h3,h4⟩,k0,k1,k2,k3,k4⟩:=h;have hl:g<w.heap.size:=Ai h0;have c:=λo=>hk.cell (p:=⟨g,o,none⟩) hl hS;unfold twoS;exact⟨⟨(c _).trans h0,(c _).trans h1,(c _).trans h2,(c _).trans h3,(c _).trans h4⟩,(c _).trans k0,(c _).trans k1,(c _).trans k2,(c _).trans k3,(c _).trans k4⟩
theorem Abj{X:List Ev}{a i j:Nat}(h:∀s t,a<=s->s<t->t<=i->t≠j+1->dy X s<=dy X t)(haj:a<=j)(hl:j+1<X.length)(hji:j+1<=i)(hd:dy X (j+1)<dy X j):
  ∀s t,a<=s->s<t->t<=i->t≠j->dy (swp X j (j+1)) s<=dy (swp X j (j+1)) t:=by
 have hg:=λt=>swp_get (X:=X) (i:=j) (j:=j+1) j6 hl t;have e1:dy (swp X j (j+1)) (j+1)=dy X j:=Ci (by rw [hg,if_pos rfl]);have e2:dy (swp X j (j+1)) j=dy X (j+1):=Ci (by rw [hg,if_neg j6,if_pos rfl]);have e3:∀t,t≠j->t≠j+1->dy (swp X j (j+1)) t=dy X t:=λt h1 h2=>Ci (by rw [hg,if_neg h2,if_neg h1]);intro s t h1 h2 h3 h4;by_cases ht:t=j+1
 ·subst ht;rw [e1];by_cases hs:s=j
  ·subst hs;rw [e2];omega
  ·rw [e3 s hs j6];exact h s j h1 j6 j6 j6
 ·rw [e3 t h4 ht];by_cases hs:s=j
  ·subst hs;rw [e2];exact h _ t j6 j6 h3 ht
  ·by_cases hs2:s=j+1
   ·subst hs2;rw [e1];exact h j t j6 j6 h3 ht
   ·rw [e3 s hs hs2];exact h s t h1 h2 h3 ht
theorem Ui(f:Nat)(ok:Ev->Prop)(hc:CmpBy f ok)(a b n cap g:Nat)(L:List Ev)(w:World)(h:RowE w g n cap L)(hab:a<=b)(hbn:b<=n)(hok:∀x∈L,ok x)(hn:n<=1000000):
  Calls Tryz.prog 160 #[.slice (some ⟨g,0,none⟩) n cap,.int .i64 a,.int .i64 b,.func (.func f) #[] #[]] w λe w'=>e= .returned (.tuple #[])/\∃X,Turned L X a b/\Upto X a b/\RowE w' g n cap X/\Keeps (λi=>i=g) w w':=by
 have eg:=hc.eg;have hcall:=hc.call;simp only [Ev.agg] at hcall;obtain⟨H,Hok⟩:=hid2 h hok;clear hok h hc;have Hcall:=Lib.hid hcall;clear hcall;go_enter Tryz.func160,Tryz.ntmps160;go_wp2
 go_loopw [8] (λx wx=>∃(i:Nat) (X:List Ev),x= .int .i64 (i:Nat)/\a<i/\i<=b+1/\Turned L X a b/\Upto X a i/\RowE wx g n cap X/\Keeps (λi=>i=g) w wx) (λx _=>b+1-(intOf x).toNat)
 case atStart=>exact⟨a+1,L,by go_num,by omega,by omega,Turned.refl _ _ _,Upto.one j6,H.o,Keeps.refl _ _⟩
 case round=>
  obtain⟨i,X,rfl,hai,hib,ht,hu,hrow,hk⟩:=hrel;by_cases hlt:i<b
  ·have hltI:(i:Int)<(b:Int):=j8;obtain⟨W1,hW1⟩:=eY wr;subst hW1;have hin:∀s t,a<=s->s<t->t<=i->t≠i->dy X s<=dy X t:=λs t h1 h2 h3 h4=>hu s t h1 h2 j6;obtain⟨Ht,Hu,Hrow,Hk,Hin⟩:=hid5 ht hu hrow hk hin;clear hin hk hrow hu ht;go_wp2
   go_loopw [9] (λx wx=>∃(j:Nat) (Y:List Ev),x= .int .i64 (j:Nat)/\a<=j/\j<=i/\Turned L Y a b/\(∀s t,a<=s->s<t->t<=i->t≠j->dy Y s<=dy Y t)/\RowE wx g n cap Y/\Keeps (λi=>i=g) w wx) (λx _=>(intOf x).toNat)
   case atStart=>exact⟨i,X,rfl,by omega,Nat.le_refl _,Ht.o,Hin.o,Hrow.o,Hk.o⟩
   case round=>
    obtain⟨j,Y,rfl,haj,hji,ht,hin,hrow,hk⟩:=hrel;have hYn:=hrow.2;by_cases hja:a<j
    ·obtain⟨p,rfl⟩:∃p,j=p+1:=⟨j-1,by omega⟩;obtain⟨⟨x0,x1,x2,x3,x4⟩,hx⟩:=Ar (L:=Y) (k:=p+1) j6;obtain⟨⟨y0,y1,y2,y3,y4⟩,hy⟩:=Ar (L:=Y) (k:=p) j6;have okx:ok _:=Hok.o _ (ht.alike.mem (List.mem_of_getElem? hx));have oky:ok _:=Hok.o _ (ht.alike.mem (List.mem_of_getElem? hy));have hS:=twoS.of (hrow.keep (Keeps.drew _)) hx hy;have hxd:=Fb hx;have hyd:=Fb hy;simp only at hxd hyd;have q1:IntKind.i64.wrap (((p+1:Nat):Int)-1)=(p:Int):=by rw [show((p+1:Nat):Int)-1=(p:Int) by omega];exact IntWalk.i64_in _ ⟨by omega,by omega⟩
     have q2:(a:Int)<((p+1:Nat):Int):=j8;have q3:(p:Int)<(n:Int):=j8;have p0:(0:Int)<=(p:Int)+1:=j8;have e0:((p:Int)+1).toNat=p+1:=j8;have q9:IntKind.i64.wrap (p:Int)=(p:Int):=IntWalk.i64_in _ ⟨by omega,by omega⟩;have q6:(a:Int)<(p:Int)+1:=j8;have q7:(p:Int)+1<(n:Int):=j8;have q8:IntKind.i64.wrap ((p:Int)+1-1)=(p:Int):=by rw [show(p:Int)+1-1=(p:Int) by omega];exact IntWalk.i64_in _ ⟨by omega,by omega⟩
     have q5:((p+1:Nat):Int)<(n:Int):=j8;obtain⟨Ht,Hin,Hrow,Hk,Hx,Hy,Okx,Oky,HS⟩:=hid9 ht hin hrow hk hx hy okx oky hS;clear hS oky okx hy hx hk hrow hin ht;obtain⟨Hxd,Hyd⟩:=hid2 hxd hyd;clear hyd hxd;have hcl:=λW=>Hcall.o ⟨x0,x1,x2,x3,x4⟩ ⟨y0,y1,y2,y3,y4⟩ W Okx.o Oky.o;simp only at hcl;have Hcl:=Lib.hid hcl;clear hcl;by_cases hd:x1<y1
     ·go_wp2_with fail;refine Ak (twoS g (p+1) p x0 x1 x2 x3 x4 y0 y1 y2 y3 y4) (.take 0 (.take 1 (.take 2 (.take 3 (.take 4 (.take 5 (.take 6 (.take 7 (.take 8 (.take 9 (.take 10 (.take 11 (.take 12 (.take 13 (.move 14 (.take 15 (.take 16 .done))))))))))))))))) j9 j9 ?_ ?_
      ·exact HS.o
      intro w1 hs1 hk1;refine je ?_;intro K hK
      go_at_fn f
      ((with_reducible refine(Hcl.o w1).mono ?_);rintro e w2 ⟨z,rfl,hz,hk2⟩;dsimp only)
      refine j0c ?_;clear hK K;refine j0d ?_;intro hrow2 hkw;clear hs1 hz;have hstep:=Abj Hin.o j6 j6 j6 (by rw [Hxd.o,Hyd.o];exact hd);have htn:=Ht.o.trans (Nw (X:=Y) (i:=p) (a:=a) (b:=b) j6 j6 j6 (by rw [Hxd.o,Hyd.o];exact hd));obtain⟨c0,c1,c2,c3,c4⟩:=(hrow2).cells Hx.o;obtain⟨d0,d1,d2,d3,d4⟩:=(hrow2).cells Hy.o;have fa0:(w2).frozen? ⟨g,(p+1)*5,none⟩=false:=(hrow2).free _;have fa1:(w2).frozen? ⟨g,(p+1)*5+1,none⟩=false:=(hrow2).free _;have fa2:(w2).frozen? ⟨g,(p+1)*5+2,none⟩=false:=(hrow2).free _;have fa3:(w2).frozen? ⟨g,(p+1)*5+3,none⟩=false:=(hrow2).free _;have fa4:(w2).frozen? ⟨g,(p+1)*5+4,none⟩=false:=(hrow2).free _;have fb0:(w2).frozen? ⟨g,(p)*5,none⟩=false:=(hrow2).free _;have fb1:(w2).frozen? ⟨g,(p)*5+1,none⟩=false:=(hrow2).free _;have fb2:(w2).frozen? ⟨g,(p)*5+2,none⟩=false:=(hrow2).free _;have fb3:(w2).frozen? ⟨g,(p)*5+3,none⟩=false:=(hrow2).free _;have fb4:(w2).frozen? ⟨g,(p)*5+4,none⟩=false:=(hrow2).free _;have hrow3:=(hrow2.swp Hx.o Hy.o).keep (Keeps.drew _);rw [Aaa Y p j6] at hrow3;have hk3:=hkw.same (((Ep w2 g (p+1) y0 y1 y2 y3 y4).same (Ep _ g p x0 x1 x2 x3 x4)).same (Keeps.drew _));unfold putE at hrow3 hk3;clear hk1 hk2;obtain⟨Hrow2,Hkw,Hrow3,Hk3,Hstep,Htn⟩:=hid6 hrow2 hkw hrow3 hk3 hstep htn;clear htn hstep hk3 hrow3 hkw hrow2;go_wp2_with fail
      go_region
      all_goals go_wp2_with fail
      all_goals go_roundw
      case rel=>exact⟨p,_,by go_num,by omega,by omega,Htn.o,Hstep.o,Hrow3.o,Hk3.o⟩
      case measure=>simp [intOf]
     ·go_wp2_with fail;refine Ak (twoS g (p+1) p x0 x1 x2 x3 x4 y0 y1 y2 y3 y4) (.take 0 (.take 1 (.take 2 (.take 3 (.take 4 (.take 5 (.take 6 (.take 7 (.take 8 (.take 9 (.take 10 (.take 11 (.take 12 (.take 13 (.move 14 (.take 15 (.take 16 .done))))))))))))))))) j9 j9 ?_ ?_
      ·exact HS.o
      intro w1 hs1 hk1;refine je ?_;intro K hK
      go_at_fn f
      ((with_reducible refine(Hcl.o w1).mono ?_);rintro e w2 ⟨z,rfl,hz,hk2⟩;dsimp only)
      refine j0c ?_;clear hK K;refine j0d ?_;intro hrow2 hkw
      have hup:Upto Y a (i+1):=λs t h1 h2 h3=>by
       by_cases hte:t=p+1
       ·subst hte;rcases Nat.lt_or_ge s p with h4|h4
        ·have e1:=Hin.o s p h1 h4 j6 j6;rw [Hxd.o];rw [Hyd.o] at e1;omega
        ·obtain rfl:s=p:=by omega
         rw [Hxd.o,Hyd.o];omega
       ·exact Hin.o s t h1 h2 j6 hte
      clear hs1 hz;clear hk1 hk2;obtain⟨Hrow2,Hkw,Hup⟩:=hid3 hrow2 hkw hup;clear hup hkw hrow2;go_wp2;go_roundw
      case rel=>exact⟨i+1,Y,by go_num,by omega,by omega,Ht.o,Hup.o,Hrow2.o,Hkw.o⟩
      case measure=>simp [intOf];omega
    ·obtain rfl:j=a:=by omega
     have hup:Upto Y j (i+1):=λs t h1 h2 h3=>hin s t h1 h2 j6 j6;have hrow2:=hrow.keep (Keeps.drew wr);have hkw:=hk.same (Keeps.drew wr);obtain⟨Ht,Hin,Hrow,Hk,Hup,Hrow2,Hkw⟩:=hid7 ht hin hrow hk hup hrow2 hkw;clear hkw hrow2 hup hk hrow hin ht;go_wp2_with fail
     go_region
     all_goals go_wp2
     all_goals go_roundw
     case rel=>exact⟨i+1,Y,by go_num,by omega,by omega,Ht.o,Hup.o,Hrow2.o,Hkw.o⟩
     case measure=>simp [intOf];omega
  ·go_wp2;go_end0;exact⟨rfl,X,ht,hu.sub (Nat.le_refl _) j6,hrow,hk⟩
def Jc(L:List Ev)(g n cap a b:Nat)(w:World)(e:Ending)(w':World):Prop:=e= .returned (.tuple #[])/\∃X,Turned L X a b/\Upto X a b/\RowE w' g n cap X/\Keeps (λi=>i=g) w w'
def Aa2(f:Nat)(ok:Ev->Prop)(d:Nat):Prop:=∀(a m b n cap g:Nat) (L:List Ev) (w:World),b-a<=d->RowE w g n cap L->a<m->m<b->b<=n->(∀x∈L,ok x)->n<=1000000->Upto L a m->Upto L m b->
  Calls Tryz.prog 161 #[.slice (some ⟨g,0,none⟩) n cap,.int .i64 a,.int .i64 m,.int .i64 b,.func (.func f) #[] #[]] w (Jc L g n cap a b w)
theorem left_step{L Y:List Ev}{a k:Nat}(h1:dy Y k=dy L a)(h2:∀t,a<=t->t<k->dy Y t=dy L (t+1))(h3:∀t,k<t->Y[t]?=L[t]?)(hk:a<=k)(hl:k+1<Y.length):
  dy (swp Y k (k+1)) (k+1)=dy L a/\(∀t,a<=t->t<k+1->dy (swp Y k (k+1)) t=dy L (t+1))/\(∀t,k+1<t->(swp Y k (k+1))[t]?=L[t]?):=by
 have hg:=λt=>swp_get (X:=Y) (i:=k) (j:=k+1) j6 hl t;refine⟨(Ci (by rw [hg,if_pos rfl])).trans h1,λt h4 h5=> ?_,λt h4=> ?_⟩
 ·by_cases ht:t=k
  ·subst ht;exact Ci (by rw [hg,if_neg j6,if_pos rfl];exact h3 _ j6)
  ·exact(Ci (by rw [hg,if_neg j6,if_neg ht])).trans (h2 t h4 j6)
 ·rw [hg,if_neg j6,if_neg j6];exact h3 t j6
theorem left_done{L Y:List Ev}{a b i:Nat}(h1:dy Y (i-1)=dy L a)(h2:∀t,a<=t->t<i-1->dy Y t=dy L (t+1))(h3:∀t,i-1<t->Y[t]?=L[t]?)(hs:Upto L (a+1) b)(hbs:Bs (λt=>dy L a<=dy L t) (a+1) b i i):Upto Y a b:=by
 have hlo:=hbs.lo';have hhi:=hbs.hi';have e3:∀t,i-1<t->dy Y t=dy L t:=λt ht=>Ci (h3 t ht);intro s t h4 h5 h6;rcases Nat.lt_trichotomy t (i-1) with h|h|h
 ·rw [h2 s h4 j6,h2 t j6 h];exact hs _ _ j6 j6 j6
 ·subst h;have:=hbs.below (s+1) j6 j6;rw [h2 s h4 h5,h1];omega
 ·rw [e3 t h];have:=hbs.above t j6 h6;rcases Nat.lt_trichotomy s (i-1) with h'|h'|h'
  ·rw [h2 s h4 h'];exact hs _ _ j6 j6 h6
  ·subst h';rw [h1];exact this
  ·rw [e3 s h'];exact hs _ _ j6 h5 h6
theorem Ad5(f:Nat)(ok:Ev->Prop)(hc:CmpBy f ok)(a b n cap g:Nat)(L:List Ev)(w:World)(h:RowE w g n cap L)(hmb:a+1<b)(hbn:b<=n)(hok:∀x∈L,ok x)(hn:n<=1000000)(h1:Upto L (a+1) b):
  Calls Tryz.prog 161 #[.slice (some ⟨g,0,none⟩) n cap,.int .i64 a,.int .i64 (a+1:Nat),.int .i64 b,.func (.func f) #[] #[]] w (Jc L g n cap a b w):=by
 have eg:=hc.eg;have hcall:=hc.call;simp only [Ev.agg] at hcall;have q0:((a+1:Nat):Int)-(a:Int)=1:=j8;obtain⟨m,hm⟩:=eX (a+1);rw [hm] at h1 q0 hmb⊢;have hln:=h.2;obtain⟨H,Hok⟩:=hid2 h hok;clear hok h hc;obtain⟨Hcall,H1,Hm⟩:=hid3 hcall h1 hm;clear hm h1 hcall;go_enter Tryz.func161,Tryz.ntmps161;go_wp2
 go_loopw [10,11] (λx y wx=>∃(i j:Nat),x= .int .i64 (i:Nat)/\y= .int .i64 (j:Nat)/\Bs (λt=>dy L a<=dy L t) m b i j/\RowE wx g n cap L/\Keeps (λi=>i=g) w wx) (λx y _=>(intOf y).toNat-(intOf x).toNat)
 case atStart=>exact⟨m,b,rfl,rfl,Bs.start j6,H.o,Keeps.refl _ _⟩
 case round=>
  obtain⟨i,j,rfl,rfl,hbs,hrow,hk⟩:=hrel;by_cases hlt:i<j
  ·refine j0W ?_;intro hltI hbhi hblo h hh hih hhj;obtain⟨⟨x0,x1,x2,x3,x4⟩,hx⟩:=Ar (L:=L) (k:=h) j6;obtain⟨⟨y0,y1,y2,y3,y4⟩,hy⟩:=Ar (L:=L) (k:=a) j6;refine j0X ?_;intro okx oky hS hxd hyd;simp only at hxd hyd;have q2:(h:Int)<(n:Int):=j8;have q3:(a:Int)<(n:Int):=j8;have hmono:∀s t,m<=s->s<=t->t<b->dy L a<=dy L s->dy L a<=dy L t:=λs t h1 h2 h3 h4=>by have:=H1.o.le h1 h2 h3;omega
   have hcl:=j1M;simp only at hcl;obtain⟨Hbs,Hrow,Hk⟩:=hid3 hbs hrow hk;clear hk hrow hbs hx hy okx oky;obtain⟨HS,Hxd,Hyd,Hmono,Hcl⟩:=hid5 hS hxd hyd hmono hcl;clear hcl hmono hyd hxd hS;go_wp2_with fail
   try rw [hh]
   clear hh;by_cases hd:x1<y1
   ·skip
    refine Ak (twoS g h a x0 x1 x2 x3 x4 y0 y1 y2 y3 y4) (.take 0 (.take 1 (.take 2 (.take 3 (.take 4 (.take 5 (.take 6 (.take 7 (.take 8 (.move 9 (.take 10 .done))))))))))) j9 j9 ?_ ?_
    ·exact HS.o
    intro w1 hs1 hk1;exact j3m
   ·skip
    refine Ak (twoS g h a x0 x1 x2 x3 x4 y0 y1 y2 y3 y4) (.take 0 (.take 1 (.take 2 (.take 3 (.take 4 (.take 5 (.take 6 (.take 7 (.take 8 (.move 9 (.take 10 .done))))))))))) j9 j9 ?_ ?_
    ·exact HS.o
    intro w1 hs1 hk1;exact j3n
  ·obtain rfl:j=i:=by have:=hbs.le;omega
   have hbhi:=hbs.hi';have hblo:=hbs.lo';obtain⟨W1,hW1⟩:=eY wr;subst hW1;obtain⟨Hbs,Hrow,Hk⟩:=hid3 hbs hrow hk;clear hk hrow hbs;go_wp2
   go_loopw [13] (λx wx=>∃(k:Nat) (Y:List Ev),x= .int .i64 (k:Nat)/\a<=k/\k<=j-1/\Turned L Y a b/\dy Y k=dy L a/\(∀t,a<=t->t<k->dy Y t=dy L (t+1))/\(∀t,k<t->Y[t]?=L[t]?)/\RowE wx g n cap Y/\Keeps (λi=>i=g) w wx) (λx _=>j-(intOf x).toNat)
   case atStart=>exact⟨a,L,rfl,Nat.le_refl _,by omega,Turned.refl _ _ _,rfl,λt h1 h2=>by omega,λ_ _=>rfl,Hrow.o,Hk.o⟩
   case round=>
    obtain⟨k,Y,rfl,hak,hkj,ht,e1,e2,e3,hrow,hk⟩:=hrel;have hYn:=hrow.2;by_cases hlt:k<j-1
    ·have hltI:(k:Int)<(j:Int)-1:=j8;obtain⟨⟨x0,x1,x2,x3,x4⟩,hx⟩:=Ar (L:=Y) (k:=k) j6;obtain⟨⟨y0,y1,y2,y3,y4⟩,hy⟩:=Ar (L:=Y) (k:=k+1) j6;have hbel:=Hbs.o.below (k+1) j6 j6;have hd:dy Y (k+1)<dy Y k:=by rw [e1,Ci (e3 (k+1) j6)];omega
     have hstep:=left_step e1 e2 e3 hak j6;have htn:=ht.trans (Nw (X:=Y) (i:=k) (a:=a) (b:=b) j6 j6 j6 hd);obtain⟨c0,c1,c2,c3,c4⟩:=(hrow).cells hx;obtain⟨d0,d1,d2,d3,d4⟩:=(hrow).cells hy;have fa0:(wr).frozen? ⟨g,(k)*5,none⟩=false:=(hrow).free _;have fa1:(wr).frozen? ⟨g,(k)*5+1,none⟩=false:=(hrow).free _;have fa2:(wr).frozen? ⟨g,(k)*5+2,none⟩=false:=(hrow).free _;have fa3:(wr).frozen? ⟨g,(k)*5+3,none⟩=false:=(hrow).free _;have fa4:(wr).frozen? ⟨g,(k)*5+4,none⟩=false:=(hrow).free _;have fb0:(wr).frozen? ⟨g,(k+1)*5,none⟩=false:=(hrow).free _;have fb1:(wr).frozen? ⟨g,(k+1)*5+1,none⟩=false:=(hrow).free _;have fb2:(wr).frozen? ⟨g,(k+1)*5+2,none⟩=false:=(hrow).free _;have fb3:(wr).frozen? ⟨g,(k+1)*5+3,none⟩=false:=(hrow).free _;have fb4:(wr).frozen? ⟨g,(k+1)*5+4,none⟩=false:=(hrow).free _;have hrow3:=(hrow.swp hx hy).keep (Keeps.drew _);have hk3:=hk.same (((Ep wr g k y0 y1 y2 y3 y4).same (Ep _ g (k+1) x0 x1 x2 x3 x4)).same (Keeps.drew _));unfold putE at hrow3 hk3;have p0:(0:Int)<=(k:Int)+1:=j8;have p1:(k:Int)+1<(n:Int):=j8;have p2:(k:Int)<(n:Int):=j8;have p3:((k:Int)+1).toNat=k+1:=j8;obtain⟨Hrow,Hk⟩:=hid2 hrow hk;clear hk hrow hx hy hbel hd;obtain⟨Hstep,Htn,Ht⟩:=hid3 hstep htn ht;clear ht htn hstep e1 e2 e3;obtain⟨Hrow3,Hk3⟩:=hid2 hrow3 hk3;clear hk3 hrow3;go_wp2_with fail
     go_region
     all_goals go_wp2_with fail
     all_goals go_roundw
     case rel=>exact⟨k+1,_,by go_num,by omega,by omega,Htn.o,Hstep.o.1,Hstep.o.2.1,Hstep.o.2.2,Hrow3.o,Hk3.o⟩
     case measure=>simp [intOf];omega
    ·obtain rfl:k=j-1:=by omega
     have hup:Upto Y a b:=left_done e1 e2 e3 (by have:=H1.o;rwa [<-Hm.o] at this) (by have:=Hbs.o;rwa [<-Hm.o] at this);have hltI:¬((j-1:Nat):Int)<(j:Int)-1:=j8;obtain⟨k,hkk⟩:=eX (j-1);rw [hkk] at hltI⊢;exact j3o
theorem right_step{L Y:List Ev}{m k:Nat}(h1:dy Y (k+1)=dy L m)(h2:∀t,k+1<t->t<=m->dy Y t=dy L (t-1))(h3:∀t,t<k+1->Y[t]?=L[t]?)(hl:k+1<Y.length):
  dy (swp Y k (k+1)) k=dy L m/\(∀t,k<t->t<=m->dy (swp Y k (k+1)) t=dy L (t-1))/\(∀t,t<k->(swp Y k (k+1))[t]?=L[t]?):=by
 have hg:=λt=>swp_get (X:=Y) (i:=k) (j:=k+1) j6 hl t;refine⟨(Ci (by rw [hg,if_neg j6,if_pos rfl])).trans h1,λt h4 h5=> ?_,λt h4=> ?_⟩
 ·by_cases ht:t=k+1
  ·subst ht;exact Ci (by rw [hg,if_pos rfl];exact h3 _ j6)
  ·exact(Ci (by rw [hg,if_neg ht,if_neg j6])).trans (h2 t j6 h5)
 ·rw [hg,if_neg j6,if_neg j6];exact h3 t j6
theorem Acs{L Y:List Ev}{a m i:Nat}(h1:dy Y i=dy L m)(h2:∀t,i<t->t<=m->dy Y t=dy L (t-1))(h3:∀t,t<i->Y[t]?=L[t]?)(hs:Upto L a m)(hbs:Bs (λt=>dy L m<dy L t) a m i i):Upto Y a (m+1):=by
 have hlo:=hbs.lo';have hhi:=hbs.hi';have e3:∀t,t<i->dy Y t=dy L t:=λt ht=>Ci (h3 t ht);intro s t h4 h5 h6;rcases Nat.lt_trichotomy t i with h|h|h
 ·rw [e3 s j6,e3 t h];exact hs _ _ h4 h5 j6
 ·subst h;have:=hbs.below s h4 h5;rw [e3 s h5,h1];omega
 ·rw [h2 t h j6];have:=hbs.above (t-1) j6 j6;rcases Nat.lt_trichotomy s i with h'|h'|h'
  ·rw [e3 s h'];exact hs.le h4 j6 j6
  ·subst h';rw [h1];omega
  ·rw [h2 s h' j6];exact hs.le j6 j6 j6
theorem Abb(f:Nat)(ok:Ev->Prop)(hc:CmpBy f ok)(a m n cap g:Nat)(L:List Ev)(w:World)(h:RowE w g n cap L)(ham:a+1<m)(hbn:m+1<=n)(hok:∀x∈L,ok x)(hn:n<=1000000)(h1:Upto L a m):
  Calls Tryz.prog 161 #[.slice (some ⟨g,0,none⟩) n cap,.int .i64 a,.int .i64 m,.int .i64 (m+1:Nat),.func (.func f) #[] #[]] w (Jc L g n cap a (m+1) w):=by
 have eg:=hc.eg;have hcall:=hc.call;simp only [Ev.agg] at hcall;have q0:(((m:Int)-(a:Int))==1)=false:=by simp;omega
 have q1:((m+1:Nat):Int)-(m:Int)=1:=j8;obtain⟨b,hm⟩:=eX (m+1);rw [hm] at q1 hbn⊢;have hln:=h.2;obtain⟨H,Hok⟩:=hid2 h hok;clear hok h hc;obtain⟨Hcall,H1,Hm⟩:=hid3 hcall h1 hm;clear hm h1 hcall;go_enter Tryz.func161,Tryz.ntmps161;go_wp2
 go_loopw [14,15] (λx y wx=>∃(i j:Nat),x= .int .i64 (i:Nat)/\y= .int .i64 (j:Nat)/\Bs (λt=>dy L m<dy L t) a m i j/\RowE wx g n cap L/\Keeps (λi=>i=g) w wx) (λx y _=>(intOf y).toNat-(intOf x).toNat)
 case atStart=>exact⟨a,m,rfl,rfl,Bs.start j6,H.o,Keeps.refl _ _⟩
 case round=>
  obtain⟨i,j,rfl,rfl,hbs,hrow,hk⟩:=hrel;by_cases hlt:i<j
  ·refine j0W ?_;intro hltI hbhi hblo h hh hih hhj;obtain⟨⟨x0,x1,x2,x3,x4⟩,hx⟩:=Ar (L:=L) (k:=m) j6;obtain⟨⟨y0,y1,y2,y3,y4⟩,hy⟩:=Ar (L:=L) (k:=h) j6;refine j0X ?_;intro okx oky hS hxd hyd;simp only at hxd hyd;have q2:(h:Int)<(n:Int):=j8;have q3:(m:Int)<(n:Int):=j8;have hmono:∀s t,a<=s->s<=t->t<m->dy L m<dy L s->dy L m<dy L t:=λs t h1 h2 h3 h4=>by have:=H1.o.le h1 h2 h3;omega
   have hcl:=j1M;simp only at hcl;obtain⟨Hbs,Hrow,Hk⟩:=hid3 hbs hrow hk;clear hk hrow hbs hx hy okx oky;obtain⟨HS,Hxd,Hyd,Hmono,Hcl⟩:=hid5 hS hxd hyd hmono hcl;clear hcl hmono hyd hxd hS;go_wp2_with fail
   try rw [hh]
   clear hh;by_cases hd:x1<y1
   ·skip
    refine Ak (twoS g m h x0 x1 x2 x3 x4 y0 y1 y2 y3 y4) (.take 0 (.take 1 (.take 2 (.take 3 (.take 4 (.take 5 (.take 6 (.take 7 (.take 8 (.move 9 (.take 10 (.take 11 .done)))))))))))) j9 j9 ?_ ?_
    ·exact HS.o
    intro w1 hs1 hk1;exact j3n
   ·skip
    refine Ak (twoS g m h x0 x1 x2 x3 x4 y0 y1 y2 y3 y4) (.take 0 (.take 1 (.take 2 (.take 3 (.take 4 (.take 5 (.take 6 (.take 7 (.take 8 (.move 9 (.take 10 (.take 11 .done)))))))))))) j9 j9 ?_ ?_
    ·exact HS.o
    intro w1 hs1 hk1;exact j3m
  ·obtain rfl:j=i:=by have:=hbs.le;omega
   have hbhi:=hbs.hi';have hblo:=hbs.lo';obtain⟨W1,hW1⟩:=eY wr;subst hW1;obtain⟨Hbs,Hrow,Hk⟩:=hid3 hbs hrow hk;clear hk hrow hbs;go_wp2
   go_loopw [17] (λx wx=>∃(k:Nat) (Y:List Ev),x= .int .i64 (k:Nat)/\j<=k/\k<=m/\Turned L Y a b/\dy Y k=dy L m/\(∀t,k<t->t<=m->dy Y t=dy L (t-1))/\(∀t,t<k->Y[t]?=L[t]?)/\RowE wx g n cap Y/\Keeps (λi=>i=g) w wx) (λx _=>(intOf x).toNat)
   case atStart=>exact⟨m,L,rfl,by omega,Nat.le_refl _,Turned.refl _ _ _,rfl,λt h1 h2=>by omega,λ_ _=>rfl,Hrow.o,Hk.o⟩
   case round=>
    obtain⟨k,Y,rfl,hak,hkj,ht,e1,e2,e3,hrow,hk⟩:=hrel;have hYn:=hrow.2;by_cases hlt:j<k
    ·obtain⟨p,rfl⟩:∃p,k=p+1:=⟨k-1,by omega⟩;have hltI:(j:Int)<(p:Int)+1:=j8;obtain⟨⟨x0,x1,x2,x3,x4⟩,hx⟩:=Ar (L:=Y) (k:=p+1) j6;obtain⟨⟨y0,y1,y2,y3,y4⟩,hy⟩:=Ar (L:=Y) (k:=p) j6;have habv:=Hbs.o.above p j6 j6;have hd:dy Y (p+1)<dy Y p:=by rw [e1,Ci (e3 p j6)];omega
     have hstep:=right_step e1 e2 e3 j6;have htn:=ht.trans (Nw (X:=Y) (i:=p) (a:=a) (b:=b) j6 j6 j6 hd);obtain⟨c0,c1,c2,c3,c4⟩:=(hrow).cells hx;obtain⟨d0,d1,d2,d3,d4⟩:=(hrow).cells hy;have fa0:(wr).frozen? ⟨g,(p+1)*5,none⟩=false:=(hrow).free _;have fa1:(wr).frozen? ⟨g,(p+1)*5+1,none⟩=false:=(hrow).free _;have fa2:(wr).frozen? ⟨g,(p+1)*5+2,none⟩=false:=(hrow).free _;have fa3:(wr).frozen? ⟨g,(p+1)*5+3,none⟩=false:=(hrow).free _;have fa4:(wr).frozen? ⟨g,(p+1)*5+4,none⟩=false:=(hrow).free _;have fb0:(wr).frozen? ⟨g,(p)*5,none⟩=false:=(hrow).free _;have fb1:(wr).frozen? ⟨g,(p)*5+1,none⟩=false:=(hrow).free _;have fb2:(wr).frozen? ⟨g,(p)*5+2,none⟩=false:=(hrow).free _;have fb3:(wr).frozen? ⟨g,(p)*5+3,none⟩=false:=(hrow).free _;have fb4:(wr).frozen? ⟨g,(p)*5+4,none⟩=false:=(hrow).free _;have hrow3:=(hrow.swp hx hy).keep (Keeps.drew _);rw [Aaa Y p j6] at hrow3;have hk3:=hk.same (((Ep wr g (p+1) y0 y1 y2 y3 y4).same (Ep _ g p x0 x1 x2 x3 x4)).same (Keeps.drew _));unfold putE at hrow3 hk3;have p0:(0:Int)<=(p:Int)+1:=j8;have p1:(p:Int)+1<(n:Int):=j8;have p2:(p:Int)<(n:Int):=j8;have p3:((p:Int)+1).toNat=p+1:=j8;have p4:IntKind.i64.wrap (p:Int)=(p:Int):=IntWalk.i64_in _ ⟨by omega,by omega⟩;obtain⟨Hrow,Hk⟩:=hid2 hrow hk;clear hk hrow hx hy habv hd;obtain⟨Hstep,Htn,Ht⟩:=hid3 hstep htn ht;clear ht htn hstep e1 e2 e3;obtain⟨Hrow3,Hk3⟩:=hid2 hrow3 hk3;clear hk3 hrow3;go_wp2_with fail
     go_region
     all_goals go_wp2_with fail
     all_goals go_roundw
     case rel=>exact⟨p,_,by go_num,by omega,by omega,Htn.o,Hstep.o.1,Hstep.o.2.1,Hstep.o.2.2,Hrow3.o,Hk3.o⟩
     case measure=>simp [intOf]
    ·obtain rfl:k=j:=by omega
     have hup:Upto Y a b:=by rw [<-Hm.o];exact Acs e1 e2 e3 H1.o Hbs.o
     exact j3o
theorem halt{p:Prop}(h:Hid p):p:=h.out
def Half(a m b mid lo hi:Nat):Prop:=(mid<m/\lo+b=mid+m/\hi=mid)\/(m<=mid/\lo=a/\hi=m)
theorem Aak{L:List Ev}{g n cap a m b mid s0 fin:Nat}{w:World}(fv:Value)(hrow:RowE w g n cap L)(hs:Sym L a m b mid s0 fin)(h1:s0<m)(h2:m<fin)(hn:n<=1000000)(hb:b<=n):
  ∃X,Rot L X a m b mid s0 fin/\Calls Tryz.prog 178 #[.slice (some ⟨g,0,none⟩) n cap,.int .i64 s0,.int .i64 m,.int .i64 fin,fv] w λe w'=>e= .returned (.tuple #[])/\RowE w' g n cap X/\Keeps (λi=>i=g) w w':=by
 have hl:=hrow.2;have hf:=hs.fb;obtain⟨P,U,V,S,rfl,hP,hU,hV⟩:=split4 L (s0:=s0) (m:=m) (fin:=fin) j6 j6 j6;refine⟨P++V++U++S,rot_of hs hP hU hV, ?_⟩;exact rotEv_any P U V S g n cap s0 m fin fv w hrow (λe=>by subst e;simp at hU;omega) (λe=>by subst e;simp at hV;omega) hn hP.symm j6 j6
theorem Ad4(f:Nat)(ok:Ev->Prop)(hc:CmpBy f ok)(d:Nat)(ih:Aa2 f ok d)(a m b n cap g:Nat)(L:List Ev)(w:World)(hd:b-a<=d+1)(h:RowE w g n cap L)(ham:a<m)(hmb:m<b)(ha1:¬m=a+1)(hb1:¬b=m+1)(hbn:b<=n)(hok:∀x∈L,ok x)(hn:n<=1000000)(h1:Upto L a m)(h2:Upto L m b)(mid:Nat)(hmid:mid=(a+b) / 2)(hmm:mid<m):
  Calls Tryz.prog 161 #[.slice (some ⟨g,0,none⟩) n cap,.int .i64 a,.int .i64 m,.int .i64 b,.func (.func f) #[] #[]] w (Jc L g n cap a b w):=by
 have eg:=hc.eg;have hcall:=hc.call;simp only [Ev.agg] at hcall;have q0:(((m:Int)-(a:Int))==1)=false:=by simp;omega
 have q1:(((b:Int)-(m:Int))==1)=false:=by simp;omega
 have hln:=h.2;have hmI:((a:Int)+b) / 2=mid:=j8;have hamid:a<mid:=j8;have hmidb:mid<b:=j8;obtain⟨p,hp⟩:=eX (mid+m-1);have hpI:(mid:Int)+m-1=p:=j8;obtain⟨lo,hlo⟩:=eX (mid+m-b);have hloI:(mid:Int)+m-b=lo:=j8;have hlh:Half a m b mid lo mid:= .inl ⟨hmm,by omega,rfl⟩;obtain⟨H,Hok⟩:=hid2 h hok;clear hok h hc;obtain⟨Hcall,H1,H2,Hmid,Hp,Ih,Hlh⟩:=hid7 hcall h1 h2 hmid hp ih hlh;clear hlh ih hp hmid h2 h1 hcall;go_enter Tryz.func161,Tryz.ntmps161;go_wp2
 go_loopw [20,21] (λx y wx=>∃(i j:Nat),x= .int .i64 (i:Nat)/\y= .int .i64 (j:Nat)/\Bs (λc=>dy L (p-c)<dy L c) lo mid i j/\RowE wx g n cap L/\Keeps (λi=>i=g) w wx) (λx y _=>(intOf y).toNat-(intOf x).toNat)
 case atStart=>exact⟨lo,mid,by go_num,by go_num,Bs.start j6,H.o,Keeps.refl _ _⟩
 case round=>
  obtain⟨i,j,rfl,rfl,hbs,hrow,hk⟩:=hrel;by_cases hlt:i<j
  ·refine j0W ?_;intro hltI hbhi hblo h hh hih hhj;obtain⟨q,hq⟩:=eX (p-h);have hqI:(p:Int)-(h:Int)=q:=j8;have hqn:q<n:=j8;obtain⟨⟨x0,x1,x2,x3,x4⟩,hx⟩:=Ar (L:=L) (k:=q) j6;obtain⟨⟨y0,y1,y2,y3,y4⟩,hy⟩:=Ar (L:=L) (k:=h) j6;refine j0X ?_;intro okx oky hS hxd hyd;simp only at hxd hyd;have q2:(h:Int)<(n:Int):=j8;have q3:(q:Int)<(n:Int):=j8;have q5:IntKind.i64.wrap (q:Int)=(q:Int):=IntWalk.i64_in _ ⟨by omega,by omega⟩;have hmono:=Aa9 (lo:=lo) (hi:=mid) H1.o H2.o ham hmb Hmid.o Hlh.o;exact j3p
  ·obtain rfl:j=i:=by have:=hbs.le;omega
   rw [<-Hp.o] at hbs;have hsym:=sym_of (lo:=lo) (hi:=mid) H1.o H2.o ham hmb Hmid.o Hlh.o hbs;exact j3q
theorem Ad3(f:Nat)(ok:Ev->Prop)(hc:CmpBy f ok)(d:Nat)(ih:Aa2 f ok d)(a m b n cap g:Nat)(L:List Ev)(w:World)(hd:b-a<=d+1)(h:RowE w g n cap L)(ham:a<m)(hmb:m<b)(ha1:¬m=a+1)(hb1:¬b=m+1)(hbn:b<=n)(hok:∀x∈L,ok x)(hn:n<=1000000)(h1:Upto L a m)(h2:Upto L m b)(mid:Nat)(hmid:mid=(a+b) / 2)(hmm:m<=mid):
  Calls Tryz.prog 161 #[.slice (some ⟨g,0,none⟩) n cap,.int .i64 a,.int .i64 m,.int .i64 b,.func (.func f) #[] #[]] w (Jc L g n cap a b w):=by
 have eg:=hc.eg;have hcall:=hc.call;simp only [Ev.agg] at hcall;have q0:(((m:Int)-(a:Int))==1)=false:=by simp;omega
 have q1:(((b:Int)-(m:Int))==1)=false:=by simp;omega
 have hln:=h.2;have hmI:((a:Int)+b) / 2=mid:=j8;have hamid:a<mid:=j8;have hmidb:mid<b:=j8;obtain⟨p,hp⟩:=eX (mid+m-1);have hpI:(mid:Int)+m-1=p:=j8;have hlh:Half a m b mid a m:= .inr ⟨hmm,rfl,rfl⟩;have hmmI:¬(m:Int)>(mid:Int):=j8;obtain⟨H,Hok⟩:=hid2 h hok;clear hok h hc;obtain⟨Hcall,H1,H2,Hmid,Hp,Ih,Hlh⟩:=hid7 hcall h1 h2 hmid hp ih hlh;clear hlh ih hp hmid h2 h1 hcall;go_enter Tryz.func161,Tryz.ntmps161;go_wp2
 go_loopw [20,21] (λx y wx=>∃(i j:Nat),x= .int .i64 (i:Nat)/\y= .int .i64 (j:Nat)/\Bs (λc=>dy L (p-c)<dy L c) a m i j/\RowE wx g n cap L/\Keeps (λi=>i=g) w wx) (λx y _=>(intOf y).toNat-(intOf x).toNat)
 case atStart=>exact⟨a,m,by go_num,by go_num,Bs.start j6,H.o,Keeps.refl _ _⟩
 case round=>
  obtain⟨i,j,rfl,rfl,hbs,hrow,hk⟩:=hrel;by_cases hlt:i<j
  ·refine j0W ?_;intro hltI hbhi hblo h hh hih hhj;obtain⟨q,hq⟩:=eX (p-h);have hqI:(p:Int)-(h:Int)=q:=j8;have hqn:q<n:=j8;obtain⟨⟨x0,x1,x2,x3,x4⟩,hx⟩:=Ar (L:=L) (k:=q) j6;obtain⟨⟨y0,y1,y2,y3,y4⟩,hy⟩:=Ar (L:=L) (k:=h) j6;refine j0X ?_;intro okx oky hS hxd hyd;simp only at hxd hyd;have q2:(h:Int)<(n:Int):=j8;have q3:(q:Int)<(n:Int):=j8;have q5:IntKind.i64.wrap (q:Int)=(q:Int):=IntWalk.i64_in _ ⟨by omega,by omega⟩;have hmono:=Aa9 (lo:=a) (hi:=m) H1.o H2.o ham hmb Hmid.o Hlh.o;exact j3p
  ·obtain rfl:j=i:=by have:=hbs.le;omega
   rw [<-Hp.o] at hbs;have hsym:=sym_of (lo:=a) (hi:=m) H1.o H2.o ham hmb Hmid.o Hlh.o hbs;exact j3q
theorem Jl(f:Nat)(ok:Ev->Prop)(hc:CmpBy f ok):∀d,Aa2 f ok d
 |0=>λa m b n cap g L w hd _ h1 h2 _ _ _ _ _=>by omega
 |d+1=>λa m b n cap g L w hd hrow ham hmb hbn hok hn h1 h2=>by
  by_cases e1:m=a+1
  ·subst e1;exact Ad5 f ok hc a b n cap g L w hrow hmb hbn hok hn h2
  ·by_cases e2:b=m+1
   ·subst e2;exact Abb f ok hc a m n cap g L w hrow (by omega) hbn hok hn h1
   ·rcases Nat.lt_or_ge ((a+b) / 2) m with h|h
    ·exact Ad4 f ok hc d (Jl f ok hc d) a m b n cap g L w hd hrow ham hmb e1 e2 hbn hok hn h1 h2 _ rfl h
    ·exact Ad3 f ok hc d (Jl f ok hc d) a m b n cap g L w hd hrow ham hmb e1 e2 hbn hok hn h1 h2 _ rfl h
def Blk(s n:Nat)(X:List Ev):Prop:=∀t,Upto X (t*s) (min (t*s+s) n)
structure BlkTo(s n k:Nat)(X:List Ev):Prop where
 lo:∀t,t<k->Upto X (2*(t*s)) (2*(t*s)+2*s)
 hi:∀t,2*k<=t->Upto X (t*s) (min (t*s+s) n)
theorem Blk.te{s n:Nat}{X:List Ev}(h:Blk s n X):BlkTo s n 0 X:=⟨λt ht=>by omega,λt _=>h t⟩
theorem Pz{t k s:Nat}(h:t<k):t*s+s<=k*s:=by
 have:=Nat.mul_le_mul_right s (show t+1<=k from h)
 rwa [Nat.succ_mul] at this
theorem Tu(k s:Nat):2*k*s=2*(k*s):=Nat.mul_assoc 2 k s
theorem BlkTo.halves{s n k:Nat}{X:List Ev}(h:BlkTo s n k X):Upto X (2*(k*s)) (min (2*(k*s)+s) n)/\Upto X (2*(k*s)+s) (min (2*(k*s)+s+s) n):=by
 have h1:=h.hi (2*k) (Nat.le_refl _);have h2:=h.hi (2*k+1) j6;rw [Tu] at h1;rw [Nat.succ_mul,Tu] at h2;exact⟨h1,h2⟩
theorem BlkTo.next{s n k:Nat}{X Y:List Ev}(h:BlkTo s n k X)(ht:Turned X Y (2*(k*s)) (2*(k*s)+2*s))(hu:Upto Y (2*(k*s)) (2*(k*s)+2*s)):BlkTo s n (k+1) Y:=by
 refine⟨λt hlt=> ?_,λt hge=> ?_⟩
 ·by_cases he:t=k
  ·subst he;exact hu
  ·have:=Pz (s:=s) (show t<k by omega);exact(h.lo t j6).eq λi h1 h2=>ht.out i (.inl j6)
 ·have:=Pz (s:=s) (show 2*k+1<t by omega);rw [Nat.succ_mul,Tu] at this;exact(h.hi t j6).eq λi h1 h2=>ht.out i (.inr j6)
theorem BlkTo.done{s n k:Nat}{X Y:List Ev}(h:BlkTo s n k X)(h1:2*(k*s)<=n)(h2:n<2*(k*s)+2*s)(ht:Turned X Y (2*(k*s)) n)(hu:Upto Y (2*(k*s)) n):Blk (2*s) n Y:=by
 intro t;rw [show t*(2*s)=2*(t*s) from Nat.mul_left_comm _ _ _];rcases Nat.lt_trichotomy t k with hk|hk|hk
 ·have:=Pz (s:=s) hk;exact((h.lo t hk).sub (Nat.le_refl _) (Nat.min_le_left _ _)).eq λi h3 h4=>ht.out i (.inl j6)
 ·subst hk;exact hu.sub (Nat.le_refl _) (Nat.min_le_right _ _)
 ·have:=Pz (s:=s) hk;exact Upto.one (by have:=Nat.min_le_right (2*(t*s)+2*s) n;omega)
theorem Blk.all{s n:Nat}{X:List Ev}(h:Blk s n X)(hs:n<=s):Upto X 0 n:=by
 have:=h 0;rw [Nat.zero_mul,Nat.zero_add,Nat.min_eq_right hs] at this;exact this
theorem Yg(f:Nat)(ok:Ev->Prop)(hc:CmpBy f ok)(n cap g:Nat)(L:List Ev)(w:World)(h:RowE w g n cap L)(hok:∀x∈L,ok x)(hn:n<=1000000):
  Calls Tryz.prog 144 #[.slice (some ⟨g,0,none⟩) n cap,.int .i64 n,.func (.func f) #[] #[]] w (Jc L g n cap 0 n w):=by
 have hln:=h.2;obtain⟨H,Hok,Hc⟩:=hid3 h hok hc;clear hc hok h;go_enter Tryz.func144,Tryz.ntmps144;go_wp2
 go_loopw [7,8] (λx y wx=>∃(k:Nat) (X:List Ev),x= .int .i64 (20*k:Nat)/\y= .int .i64 (20*k+20:Nat)/\20*k<=n/\Turned L X 0 n/\(∀t,t<k->Upto X (20*t) (20*t+20))/\RowE wx g n cap X/\Keeps (λi=>i=g) w wx) (λx y _=>n+20-(intOf y).toNat)
 case atStart=>exact⟨0,L,rfl,rfl,by omega,Turned.refl _ _ _,λt ht=>by omega,H.o,Keeps.refl _ _⟩
 case round=>
  obtain⟨k,X,rfl,rfl,hkn,ht,hb,hrow,hk⟩:=hrel;obtain⟨a,ha⟩:=eX (20*k);obtain⟨b,hb'⟩:=eX (a+20);rw [ha,hb'];rw [ha] at hkn;by_cases hlt:b<=n
  ·have hltI:(b:Int)<=(n:Int):=j8;have hins:=Ui f ok Hc.o a b n cap g X wr hrow j6 hlt (λx hx=>Hok.o x (ht.alike.mem hx)) hn;obtain⟨Ht,Hb,Hrow,Hk,Hins⟩:=hid5 ht hb hrow hk hins;clear hins hk hrow hb ht
   go_wp2_with (go_at_call 160;(with_reducible refine Hins.o.mono ?_);rintro e w1 ⟨rfl,Y,htY,huY,hrow1,hk1⟩;have HtY:=Lib.hid htY;have HuY:=Lib.hid huY;have Hrow1:=Lib.hid hrow1;have Hk1:=Lib.hid (Hk.o.same hk1);clear htY huY hrow1 hk1)
   go_roundw
   case rel=>
    refine⟨k+1,Y,by go_num,by go_num,by omega,Ht.o.trans (HtY.o.wide (Nat.zero_le _) hlt),λt hk=> ?_,Hrow1.o,Hk1.o⟩;by_cases he:t=k
    ·subst he;rw [show 20*t+20=b by omega,ha];exact HuY.o
    ·exact(Hb.o t j6).eq λi h1 h2=>HtY.o.out i (.inl j6)
   case measure=>simp [intOf];omega
  ·have hltI:¬(b:Int)<=(n:Int):=j8;have hins:=Ui f ok Hc.o a n n cap g X wr hrow hkn (Nat.le_refl _) (λx hx=>Hok.o x (ht.alike.mem hx)) hn
   have hblk:∀Y,Turned X Y a n->Upto Y a n->Blk 20 n Y:=λY htY huY t=>by
    rw [Nat.mul_comm t 20];rcases Nat.lt_trichotomy t k with h|h|h
    ·exact((hb t h).sub (Nat.le_refl _) (Nat.min_le_left _ _)).eq λi h1 h2=>htY.out i (.inl j6)
    ·subst h;rw [ha];exact huY.sub (Nat.le_refl _) (Nat.min_le_right _ _)
    ·exact Upto.one j6
   obtain⟨Ht,Hb,Hrow,Hk,Hins,Hblk⟩:=hid6 ht hb hrow hk hins hblk;clear hblk hins hk hrow hb ht
   go_wp2_with (go_at_call 160;(with_reducible refine Hins.o.mono ?_);rintro e w1 ⟨rfl,Y,htY,huY,hrow1,hk1⟩;have HtY:=Lib.hid (Ht.o.trans (htY.wide (Nat.zero_le _) (Nat.le_refl _)));have HbY:=Lib.hid (Hblk.o Y htY huY);have Hrow1:=Lib.hid hrow1;have Hk1:=Lib.hid (Hk.o.same hk1);clear htY huY hrow1 hk1)
   clear Hblk Hins Hrow Hk Hb
   go_loopw [6] (λx wx=>∃(s:Nat) (X:List Ev),x= .int .i64 (s:Nat)/\0<s/\s<=2*n+20/\Turned L X 0 n/\Blk s n X/\RowE wx g n cap X/\Keeps (λi=>i=g) w wx) (λx _=>2*n+21-(intOf x).toNat)
   case atStart=>exact⟨20,Y,rfl,by omega,by omega,HtY.o,HbY.o,Hrow1.o,Hk1.o⟩
   case round=>
    obtain⟨s,X,rfl,hs0,hsn,ht,hb,hrow,hk⟩:=hrel;obtain⟨W1,hW1⟩:=eY wr;subst hW1;by_cases hlt:s<n
    ·have hltI:(s:Int)<(n:Int):=j8;have hb0:=hb.te;obtain⟨Ht,Hb,Hrow,Hk,Hb0⟩:=hid5 ht hb hrow hk hb0;clear hb0 hk hrow hb ht;go_wp2
     go_loopw [7,8] (λx y wx=>∃(k a b:Nat) (X:List Ev),x= .int .i64 (a:Nat)/\y= .int .i64 (b:Nat)/\a=2*(k*s)/\b=a+2*s/\a<=n/\Turned L X 0 n/\BlkTo s n k X/\RowE wx g n cap X/\Keeps (λi=>i=g) w wx) (λx y _=>n+2*s-(intOf y).toNat)
     case atStart=>exact⟨0,0,2*s,X,by go_num,by go_num,by simp,by simp,by omega,Ht.o,Hb0.o,Hrow.o,Hk.o⟩
     case round=>
      obtain⟨k,a,b,X,rfl,rfl,ha,hb',han,ht,hb,hrow,hk⟩:=hrel;have hh:=hb.halves;rw [<-ha] at hh;by_cases hlt2:b<=n
      ·have hlt2I:(b:Int)<=(n:Int):=j8;obtain⟨m,hm⟩:=eX (a+s);have hmI:(a:Int)+s=m:=j8;rw [Nat.min_eq_left j6,Nat.min_eq_left j6,hm] at hh;have hmg:=Jl f ok Hc.o (b-a) a m b n cap g X wr (Nat.le_refl _) hrow j6 j6 hlt2 (λx hx=>Hok.o x (ht.alike.mem hx)) hn hh.1 (by rw [show b=m+s by omega];exact hh.2);have hne:∀Y,Turned X Y a b->Upto Y a b->BlkTo s n (k+1) Y:=λY h1 h2=>hb.next (by rw [<-ha,<-hb'];exact h1) (by rw [<-ha,<-hb'];exact h2);have hb2:b=2*((k+1)*s):=by rw [Nat.succ_mul k s];omega
       obtain⟨Ht,Hb,Hrow,Hk,Hmg,Hne,Hb2⟩:=hid7 ht hb hrow hk hmg hne hb2;clear hb2 hne hmg hk hrow hb ht hh ha hm hb'
       go_wp2_with (go_at_call 161;(with_reducible refine Hmg.o.mono ?_);rintro e w2 ⟨rfl,Y,htY,huY,hrow2,hk2⟩;have HtY:=Lib.hid htY;have HbY:=Lib.hid (Hne.o Y htY huY);have Hrow2:=Lib.hid hrow2;have Hk2:=Lib.hid (Hk.o.same hk2);clear htY huY hrow2 hk2)
       go_roundw
       case rel=>exact⟨k+1,b,b+2*s,Y,by go_num,by go_num,Hb2.o,rfl,hlt2,Ht.o.trans (HtY.o.wide (Nat.zero_le _) hlt2),HbY.o,Hrow2.o,Hk2.o⟩
       case measure=>simp [intOf];omega
      ·have hlt2I:¬(b:Int)<=(n:Int):=j8;have hdn:∀Y,Turned X Y a n->Upto Y a n->Blk (2*s) n Y:=λY h1 h2=>hb.done j6 j6 (by rw [<-ha];exact h1) (by rw [<-ha];exact h2);by_cases hlt3:a+s<n
       ·obtain⟨m,hm⟩:=eX (a+s);have hmI:(a:Int)+s=m:=j8;have hmnI:(m:Int)<n:=j8;rw [Nat.min_eq_left j6,Nat.min_eq_right j6,hm] at hh;have hmg:=Jl f ok Hc.o (n-a) a m n n cap g X wr (Nat.le_refl _) hrow j6 j6 (Nat.le_refl _) (λx hx=>Hok.o x (ht.alike.mem hx)) hn hh.1 hh.2;obtain⟨Ht,Hb,Hrow,Hk,Hmg,Hdn⟩:=hid6 ht hb hrow hk hmg hdn;clear hdn hmg hk hrow hb ht hh ha hm hb'
        go_wp2_with (go_at_call 161;(with_reducible refine Hmg.o.mono ?_);rintro e w2 ⟨rfl,Y,htY,huY,hrow2,hk2⟩;have HtY:=Lib.hid htY;have HbY:=Lib.hid (Hdn.o Y htY huY);have Hrow2:=Lib.hid hrow2;have Hk2:=Lib.hid (Hk.o.same hk2);clear htY huY hrow2 hk2)
        go_roundw
        case rel=>exact⟨2*s,Y,by go_num,by omega,by omega,Ht.o.trans (HtY.o.wide (Nat.zero_le _) (Nat.le_refl _)),HbY.o,Hrow2.o,Hk2.o⟩
        case measure=>simp [intOf];omega
       ·have hlt3I:¬(a:Int)+s<n:=j8;have hfin:=hdn X (Turned.refl _ _ _) (by have:=hh.1;rwa [Nat.min_eq_right j6] at this);obtain⟨Ht,Hb,Hrow,Hk,Hdn⟩:=hid5 ht hb hrow hk hdn;clear hdn hk hrow hb ht hh ha;have Hfin:=Lib.hid hfin;clear hfin hb';go_wp2;go_roundw
        case rel=>exact⟨2*s,X,by go_num,by omega,by omega,Ht.o,Hfin.o,Hrow.o,Hk.o⟩
        case measure=>simp [intOf];omega
    ·have hltI:¬(s:Int)<(n:Int):=j8;have hup:=hb.all j6;obtain⟨Ht,Hb,Hrow,Hk,Hup⟩:=hid5 ht hb hrow hk hup;clear hup hk hrow hb ht;go_wp2;go_end0;exact⟨rfl,X,Ht.o,Hup.o,Hrow.o,Hk.o⟩
theorem Abk(fv v:Value)(w:World):Calls Tryz.prog 160 #[v,.int .i64 0,.int .i64 0,fv] w λe w'=>e= .returned (.tuple #[])/\K0 w w':=by
 go_enter Tryz.func160,Tryz.ntmps160;go_wp2;refine wp_loop_rounds 1 ?_;rw [rounds_succ];go_wp2;go_end0;exact⟨rfl,Keeps.refl _ _⟩
theorem Vq(fv v:Value)(w:World):Calls Tryz.prog 144 #[v,.int .i64 0,fv] w λe w'=>e= .returned (.tuple #[])/\K0 w w':=by
 go_enter Tryz.func144,Tryz.ntmps144;go_wp2;refine wp_loop_rounds 1 ?_;rw [rounds_succ]
 go_wp2_with (go_at_call 160;(with_reducible refine(Abk _ _ _).mono ?_);rintro e w1 ⟨rfl,hk1⟩;have Hk1:=Lib.hid hk1;clear hk1)
 refine wp_loop_rounds 1 ?_;rw [rounds_succ];go_wp2;go_end0;exact⟨rfl,Hk1.o⟩
theorem Acn(f:Nat)(ok:Ev->Prop)(hc:CmpBy f ok)(v:Value)(L:List Ev)(w:World)(h:w.ownsRow 0 186 5 v L.length (L.flatMap Ev.cells))(hok:∀x∈L,ok x)(hn:L.length<=1000000):
  Calls Tryz.prog 124 #[v,.func (.func f) #[] #[]] w λe w'=>e= .returned (.tuple #[])/\w'.ownsRow 0 186 5 v L.length ((sortL L).flatMap Ev.cells)/\Keeps (λi=>v.ownBlock=some i) w w':=by
 obtain⟨ad,cap,rfl,_,hnone⟩:=Ae h;rcases Nat.eq_zero_or_pos L.length with h0|h0
 ·obtain rfl:L= []:=List.length_eq_zero_iff.1 h0;simp only [List.length_nil] at h⊢;have H:=Lib.hid h;clear h hc hok hnone;go_enter Tryz.func124,Tryz.ntmps124
  go_wp2_with (go_at_call 144;(with_reducible refine(Vq _ _ _).mono ?_);rintro e w1 ⟨rfl,hk1⟩;have Hk1:=Lib.hid hk1;clear hk1)
  go_end0;exact⟨rfl,H.o.of_keeps Hk1.o,Hk1.o.mono (by simp)⟩
 ·obtain⟨g,c2,he,hg⟩:=Ey h h0;simp only [Value.slice.injEq,true_and] at he;obtain⟨rfl,rfl⟩:=he;have hst:=Yg f ok hc L.length cap g L w ⟨h,rfl⟩ hok hn;obtain⟨n,hln⟩:=eX L.length;rw [hln] at hst hn⊢;have H:=Lib.hid h;clear h hc hok hnone;obtain⟨Hst,Hln⟩:=hid2 hst hln;clear hln hst;go_enter Tryz.func124,Tryz.ntmps124
  go_wp2_with (go_at_call 144;(with_reducible refine Hst.o.mono ?_);rintro e w1 ⟨rfl,X,ht,hu,hrow,hk1⟩;have HT:=Lib.hid ht;have HU:=Lib.hid hu;have Hrow:=Lib.hid hrow;have Hk1:=Lib.hid hk1;clear hk1 ht hu hrow)
  go_end0;have he:=sortL_one (X:=X) (L:=L) (Upto.pair (by rw [HT.o.len,Hln.o];exact HU.o)) HT.o.alike;rw [<-he];exact⟨rfl,Hrow.o.1,Hk1.o.mono λi _ e=>by rw [e];rfl⟩
theorem Zh(x y:Ev)(w:World):Calls Tryz.prog 125 #[x.agg,y.agg] w λe w'=>∃z,e= .returned (.int .i64 z)/\(z<0↔x.day<y.day)/\K0 w w':=by
 obtain⟨x0,x1,x2,x3,x4⟩:=x;obtain⟨y0,y1,y2,y3,y4⟩:=y;simp only [Ev.agg];by_cases h:x1<y1
 ·go_enter Tryz.func125,Tryz.ntmps125;go_wp2;go_ret;exact⟨_,rfl,by simp;exact h,by(repeat (first|exact Keeps.refl _ _|exact Keeps.alloc _ _|exact Keeps.drew _|exact Keeps.drewN _ _|refine Keeps.Ao ?_|refine Keeps.Al ?_|refine Keeps.Af ?_))⟩
 ·by_cases h2:x1>y1
  ·exact j3r
  ·exact j3r
theorem Ac2:CmpBy 125 (λ_=>True):=⟨enters_of Tryz.func125 (by kernel_rfl) rfl,λx y W _ _=>Zh x y W⟩
theorem Ac1(v:Value)(L:List Ev)(w:World)(hr:Reads w 5 v L.length (L.flatMap Ev.cells))(hl:L.length<=1000000):
  Calls Tryz.prog 101 #[v] w λe w'=>∃v',e= .returned v'/\w'.ownsRow 0 186 5 v' L.length ((sortL L).flatMap Ev.cells)/\K0 w w'/\(∀g,v'.ownBlock=some g->w.heap.size<=g):=by
 have hcl:=Mj w v L.length (L.flatMap Ev.cells) hr (λu hu=>Ev.one _ u hu) j6;obtain⟨ad,cap,rfl,_⟩:=id hr;clear hr;have Hcl:=Lib.hid hcl;clear hcl;go_enter Tryz.func101,Tryz.ntmps101
 go_wp2_with (go_at_call 92;(with_reducible refine Hcl.o.mono ?_);rintro e w1 ⟨v1,rfl,hrow1,hk1,hnew1⟩;obtain⟨ad1,c1,rfl,_,_⟩:=Ae hrow1;have Hs:=Lib.hid (Acn 125 _ Ac2 _ L w1 hrow1 (λ_ _=>trivial) hl);have Hk1:=Lib.hid hk1;have Hnew1:=Lib.hid hnew1;clear hk1 hnew1 hrow1)
 go_wp2_with (go_at_call 124;(with_reducible refine Hs.o.mono ?_);rintro e w2 ⟨rfl,hrow2,hk2⟩;have Hrow2:=Lib.hid hrow2;have Hk2:=Lib.hid hk2;clear hk2 hrow2)
 go_ret;exact⟨_,rfl,Hrow2.o,Hk1.o.trans (Hk2.o.mono λi _ e=> .inr (Hnew1.o i e)),Hnew1.o⟩
end Go.Proofs.YtjkdnaljkdnomaaGreatDoor
