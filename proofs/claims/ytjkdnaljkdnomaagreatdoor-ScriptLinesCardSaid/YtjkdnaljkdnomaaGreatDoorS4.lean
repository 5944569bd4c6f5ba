/- Part 4 of what the laws of this seat share: walks of functions, and plain laws. -/
import Derived.Test.YtjkdnaljkdnomaaGreatDoorS3
set_option maxRecDepth 100000
set_option maxHeartbeats 3200000
namespace Go.Proofs.YtjkdnaljkdnomaaGreatDoor
open Go.RowKit
def Lc(hi:Bool)(a b:Int):Bool:=if hi=true then decide (b<a) else decide (a<b)
def rt(R:List Int)(k:Int):Int:=R.getD (k-1).toNat 0
def plR(hi:Bool)(R:List Int)(r:Int)(O:List Int):Nat->Nat
 |0=>0
 |k+1=>if Lc hi r (rt R (O.getD k 0))=true then plR hi R r O k else k+1
def insR(hi:Bool)(R:List Int)(n:Nat)(O:List Int):List Int:=O.take (plR hi R (R.getD n 0) O O.length)++ [(n:Int)+1]++O.drop (plR hi R (R.getD n 0) O O.length)
def rankN(hi:Bool)(R:List Int):Nat->List Int
 |0=> []
 |n+1=>insR hi R n (rankN hi R n)
def rankL(hi:Bool)(R:List Int):List Int:=rankN hi R R.length
theorem plR_le(hi:Bool)(R:List Int)(r:Int)(O:List Int):∀k,plR hi R r O k<=k
 |0=>Nat.le_refl _
 |k+1=>by
  unfold plR
  split
  ·exact Nat.le_succ_of_le (plR_le hi R r O k)
  ·exact Nat.le_refl _
theorem Abl(hi:Bool)(R:List Int)(n:Nat)(O:List Int):(insR hi R n O).length=O.length+1:=by
 have:=plR_le hi R (R.getD n 0) O O.length;simp only [insR,List.length_append,List.length_take,List.length_drop,List.length_cons,List.length_nil];omega
theorem Ex(hi:Bool)(R:List Int):∀n,(rankN hi R n).length=n
 |0=>rfl
 |n+1=>by unfold rankN;rw [Abl,Ex hi R n]
theorem Kn(hi:Bool)(R:List Int):(rankL hi R).length=R.length:=Ex hi R _
theorem mem_insR{hi:Bool}{R:List Int}{n:Nat}{O:List Int}{x:Int}(h:x∈insR hi R n O):x∈O\/x=(n:Int)+1:=by
 unfold insR at h;rcases List.mem_append.1 h with h|h
 ·rcases List.mem_append.1 h with h|h
  ·exact .inl (List.mem_of_mem_take h)
  ·exact .inr (List.mem_singleton.1 h)
 ·exact .inl (List.mem_of_mem_drop h)
theorem Ew{hi:Bool}{R:List Int}:∀{n:Nat} {x:Int},x∈rankN hi R n->1<=x/\x<=n
 |0,x,h=>by simp [rankN] at h
 |n+1,x,h=>by
  rcases mem_insR h with h|h
  ·have:=Ew h;omega
  ·omega
theorem Ro(hi:Bool)(R:List Int):∀n,(rankN hi R n).Nodup
 |0=>List.nodup_nil
 |n+1=>by
  have ih:=Ro hi R n;have hm:=λx=>Ew (hi:=hi) (R:=R) (n:=n) (x:=x);unfold rankN insR;obtain⟨O,hO⟩:=eX (rankN hi R n);rw [hO] at ih hm⊢;obtain⟨p,hp⟩:=eX (plR hi R (R.getD n 0) O O.length);rw [hp];rw [<-List.take_append_drop p O,List.nodup_append] at ih;obtain⟨h1,h2,h3⟩:=ih;rw [List.append_assoc,List.nodup_append];refine⟨h1, ?_,λa ha b hb=> ?_⟩
  ·show List.Nodup (_::_);rw [List.nodup_cons];exact⟨λh=>by have:=(hm _ (List.mem_of_mem_drop h)).2;omega,h2⟩
  ·rcases List.mem_cons.1 (show b∈_::_ from hb) with rfl|hb
   ·intro e;have:=(hm _ (List.mem_of_mem_take ha)).2;omega
   ·exact h3 a ha b hb
def minI(a b:Int):Int:=if a<=b then a else b
def intoS(B:List Int):List Int->List Int×Int->List Int×Int
 | [],s=>s
 |k::O,s=>intoS B O (s.1.set (k-1).toNat (minI s.2 (B.getD (k-1).toNat 0)),s.2-minI s.2 (B.getD (k-1).toNat 0))
def intoL(B O:List Int)(a:Int):List Int×Int:=intoS B O (List.replicate B.length 0,a)
theorem Qa(B:List Int):∀(O:List Int) (s:List Int×Int),(intoS B O s).1.length=s.1.length
 | [],s=>rfl
 |k::O,s=>by unfold intoS;rw [Qa B O];simp
theorem Dn(B O:List Int)(a:Int):(intoL B O a).1.length=B.length:=by unfold intoL;rw [Qa];simp
def Bv(v:Int):Bool:=decide (0<=v)&&decide (v<=1000000000000000)
theorem Bi(v:Int):Bv v=true↔0<=v/\v<=1000000000000000:=by simp [Bv]
theorem Abi{B:List Int}(hB:∀x∈B,0<=x):∀(O:List Int) (s:List Int×Int),0<=s.2->(∀j x,s.1[j]?=some x->0<=x/\x<=B.getD j 0)->(∀k∈O,1<=k/\k<=s.1.length)->s.1.length=B.length->
  0<=(intoS B O s).2/\(intoS B O s).2<=s.2/\∀j x,(intoS B O s).1[j]?=some x->0<=x/\x<=B.getD j 0
 | [],s,h0,h1,_,_=>⟨h0,Int.le_refl _,h1⟩
 |k::O,s,h0,h1,hk,hl=>by
  have hkk:=hk k (List.mem_cons_self ..)
  have hb:0<=B.getD (k-1).toNat 0:=by
   rw [List.getD_eq_getElem?_getD,List.getElem?_eq_getElem (by omega)];exact hB _ (List.getElem_mem _)
  have hm:0<=minI s.2 (B.getD (k-1).toNat 0)/\minI s.2 (B.getD (k-1).toNat 0)<=s.2/\minI s.2 (B.getD (k-1).toNat 0)<=B.getD (k-1).toNat 0:=by unfold minI;split<;>omega
  unfold intoS
  obtain⟨e1,e2,e3⟩:=Abi hB O (s.1.set (k-1).toNat (minI s.2 (B.getD (k-1).toNat 0)),s.2-minI s.2 (B.getD (k-1).toNat 0)) (by show 0<=_-_;omega) (λj x hj=>by
   simp only [List.getElem?_set] at hj
   split at hj
   ·rename_i he
    split at hj
    ·simp only [Option.some.injEq] at hj;subst hj;subst he;exact⟨hm.1,hm.2.2⟩
    ·cases hj
   ·exact h1 j x hj) (λz hz=>by have:=hk z (List.mem_cons_of_mem _ hz);simpa using this) (by simpa using hl)
  exact⟨e1,by have:(intoS B O (s.1.set (k-1).toNat (minI s.2 (B.getD (k-1).toNat 0)),s.2-minI s.2 (B.getD (k-1).toNat 0))).2<=s.2-minI s.2 (B.getD (k-1).toNat 0):=e2;omega,e3⟩
theorem Mf{B O:List Int}{a:Int}(hB:∀x∈B,0<=x)(ha:0<=a)(hO:∀k∈O,1<=k/\k<=B.length):0<=(intoL B O a).2/\(intoL B O a).2<=a/\∀j x,(intoL B O a).1[j]?=some x->0<=x/\x<=B.getD j 0:=by
 unfold intoL;refine Abi hB O _ ha (λj x hj=> ?_) (λk hk=>by have:=hO k hk;simpa using this) (by simp);rw [List.getElem?_replicate] at hj
 split at hj
 ·rename_i hlt;simp only [Option.some.injEq] at hj;subst hj;refine⟨Int.le_refl _, ?_⟩;rw [List.getD_eq_getElem?_getD,List.getElem?_eq_getElem hlt];exact hB _ (List.getElem_mem _)
 ·cases hj
theorem Qw:(Tryz.prog.info? 3).map (λi=>(i.zero,i.size,i.bytes))=some (some (.int .i64 0),1,8):=by kernel_rfl
theorem Vx(a b:Int)(w:World):Calls Tryz.prog 184 #[.int .i64 a,.int .i64 b] w λe w'=>e= .returned (.bool (Lc true a b))/\w=w':=by
 go_enter Tryz.func184,Tryz.ntmps184;exact jn
theorem Yo(a b:Int)(w:World):Calls Tryz.prog 193 #[.int .i64 a,.int .i64 b] w λe w'=>e= .returned (.bool (Lc false a b))/\w=w':=by
 go_enter Tryz.func193,Tryz.ntmps193;exact jn
def RowI(W:World)(g n cap:Nat)(O:List Int):Prop:=W.ownsRow 0 3 1 (.slice (some ⟨g,0,none⟩) n cap) n (O.flatMap i64c)/\O.length=n
theorem RowI.cell{W:World}{g n cap:Nat}{O:List Int}(h:RowI W g n cap O){k:Nat}{x:Int}(hx:O[k]?=some x):W.cell? ⟨g,k,none⟩=some (.int .i64 x):=by
 obtain⟨h,rfl⟩:=h;have:=Bw Ec h hx 0 j7;exact j0p
theorem RowI.free{W:World}{g n cap:Nat}{O:List Int}(h:RowI W g n cap O)(j:Nat):W.frozen? ⟨g,j,none⟩=false:=by
 exact j1k
theorem RowI.set{W:World}{g n cap:Nat}{O:List Int}(h:RowI W g n cap O){k:Nat}(hk:k<n)(x:Int):RowI (W.setCell ⟨g,k,none⟩ (.int .i64 x)) g n cap (O.set k x):=by
 exact j2v
theorem RowI.keep{W W':World}{g n cap:Nat}{O:List Int}(h:RowI W g n cap O)(hk:K0 W W'):RowI W' g n cap O:=⟨h.1.of_keeps hk,h.2⟩
theorem RowI.lt{W:World}{g n cap:Nat}{O:List Int}(h:RowI W g n cap O):g<W.heap.size:=Ch h.1 rfl
theorem Gu{l:Nat}{J:Act->World->Prop}{Q:Exit->Act->World->Prop}{a:Act}{w:World}(h:Q .normal a w):Exit.jump l J Q .normal a w:=h
def Eg(i:Nat)(a':Act):Nat:=match a'.tmps.getD i undef with| .int _ n=>n.toNat|_=>0
def rkFr(vR clo vO:Value)(i n k:Nat)(r:Int)(u:Nat->Value):Act:={ tmps:= #[vR,clo,undef,undef,.slice none 0 0,vO,.int .i64 ((i:Nat):Int),.int .i64 r,.int .i64 ((k:Nat):Int),vR,.int .i64 ((n:Nat):Int),.int .i64 ((i:Nat):Int),u 12,u 13,u 14,u 15,u 16,u 17,u 18,u 19,u 20,u 21,u 22,u 23,u 24,u 25,u 26,u 27,u 28,u 29,u 30,u 31,u 32,u 33,u 34,u 35,u 36,u 37,u 38,u 39,u 40,u 41,u 42,u 43,u 44,u 45,u 46,u 47,u 48,u 49,u 50,u 51,u 52,u 53,u 54,u 55,u 56,undef],defers:= [] }
structure RkAt(hi:Bool)(R:List Int)(i:Nat)(w:World)(g c k:Nat)(W:World):Prop where
 ki:k<=i
 row:RowI W g (i+1) c ((rankN hi R i).take k++ [(i:Int)+1]++(rankN hi R i).drop k)
 pl:plR hi R (R.getD i 0) (rankN hi R i) i=plR hi R (R.getD i 0) (rankN hi R i) k
 fr:Fresh w W (.slice (some ⟨g,0,none⟩) (i+1) c)
def rkJ(hi:Bool)(R:List Int)(i:Nat)(w:World)(vR clo:Value)(n:Nat)(a':Act)(W:World):Prop:=∃(k g c:Nat) (u:Nat->Value),a'=rkFr vR clo (.slice (some ⟨g,0,none⟩) (i+1) c) i n k (R.getD i 0) u/\RkAt hi R i w g c k W
theorem rkJ.mk{hi:Bool}{R:List Int}{i:Nat}{w:World}{vR clo:Value}{n:Nat}{a':Act}{W:World}(k g c:Nat)(h:a'=rkFr vR clo (.slice (some ⟨g,0,none⟩) (i+1) c) i n k (R.getD i 0) (λj=>a'.tmps.getD j undef))(hr:RkAt hi R i w g c k W):rkJ hi R i w vR clo n a' W:=⟨k,g,c,_,h,hr⟩
theorem Wx{O:List Int}{k:Nat}{x y:Int}(hk:O[k]?=some y):((O.take (k+1)++ [x]++O.drop (k+1)).set k x).set (k+1) y=O.take k++ [x]++O.drop k:=by
 have hl:k<O.length:=(List.getElem?_eq_some_iff.1 hk).1;have h1:O.take (k+1)=O.take k++ [y]:=by rw [List.take_add_one,hk];rfl
 have h2:O.drop k=y::O.drop (k+1):=by rw [List.drop_eq_getElem_cons hl];congr 1;exact(List.getElem?_eq_some_iff.1 hk).2
 have hlen:(O.take k).length=k:=by rw [List.length_take];omega
 rw [h1,h2];simp only [List.append_assoc,List.cons_append,List.nil_append];rw [List.set_append_right _ _ j6,hlen,Nat.sub_self,List.set_cons_zero,List.set_append_right _ _ j6,hlen,show k+1-k=1 by omega];rfl
theorem mid_get{O:List Int}{k:Nat}{x:Int}(hk:k<=O.length):(O.take k++ [x]++O.drop k)[k]?=some x:=by
 rw [List.append_assoc,List.getElem?_append_right j0H,List.length_take,show k-min k O.length=0 by omega];rfl
theorem Ab9{O:List Int}{k:Nat}{x y:Int}(hk:O[k]?=some y):(O.take (k+1)++ [x]++O.drop (k+1))[k]?=some y:=by
 have hl:k<O.length:=(List.getElem?_eq_some_iff.1 hk).1;rw [List.append_assoc,List.getElem?_append_left j0H,List.getElem?_take,if_pos j6,hk]
theorem Vw(R:List Int)(ad:Option Addr)(cap:Nat)(w:World)(hr:Reads w 1 (.slice ad R.length cap) R.length (R.flatMap i64c))(hl:R.length<=1000):
  Calls Tryz.prog 183 #[.slice ad R.length cap,.func (.func 184) #[] #[]] w λe w'=>∃v',e= .returned v'/\w'.ownsRow 0 3 1 v' R.length ((rankL true R).flatMap i64c)/\Fresh w w' v':=by
 obtain⟨i0,hi,hi0,hi1,hi2⟩:=info_parts Qw;unfold rankL;obtain⟨n,hn⟩:=eX R.length;rw [hn] at hr hl⊢;obtain⟨Hr,Hn,Hi,Hi0,Hi1,Hi2⟩:=hid6 hr hn hi hi0 hi1 hi2;clear hi2 hi1 hi0 hi hn hr;go_enter Tryz.func183,Tryz.ntmps183;go_wp2
 go_loopw [5,11] (λx y wx=>∃i:Nat,y= .int .i64 (i:Nat)/\i<=n/\wx.ownsRow 0 3 1 x i ((rankN true R i).flatMap i64c)/\Fresh w wx x) (λ_ y _=>n-(intOf y).toNat)
 case atStart=>exact⟨0,rfl,Nat.zero_le _,World.ownsRow_nil _ _ _ _,Fresh.nil w⟩
 case round=>
  obtain⟨i,rfl,hin,hrow,hfr⟩:=hrel;obtain⟨W1,hW1⟩:=eY wr;subst hW1;obtain⟨adv,cv,hv,_,_⟩:=Ae hrow;subst hv;by_cases hlt:i<n
  ·have hltI:(i:Int)<(n:Int):=j8;obtain⟨r,hx⟩:=Ar (L:=R) (k:=i) j06;have hri:R.getD i 0=r:=by rw [List.getD_eq_getElem?_getD,hx];rfl
   obtain⟨gR,oR,he,hc⟩:=(Hr.o.keeps hfr.1 (by simp)).int (k:= .i64) hx;subst he;obtain⟨Hrow,Hfr⟩:=hid2 hrow hfr;clear hfr hrow hx;have Hri:=Lib.hid hri;clear hri;go_wp2_with fail;refine Dl 0 (rkJ true R i w (.slice (some ⟨gR,oR,none⟩) n cap) (.func (.func 184) #[] #[]) n) (λa' _=>Eg 8 a') rfl ?_ ?_
   ·rintro a' W ⟨k,g,c,u,rfl,hat⟩;unfold rkFr;rw [Hri.o];have hki:=hat.ki;have hlen:=Ex true R i;rcases k with _|k
    ·have hp0:plR true R r (rankN true R i) 0=0:=rfl;have hpl:=hat.pl;rw [Hri.o,hp0] at hpl
     have hend:rankN true R (i+1)=(rankN true R i).take 0++ [(i:Int)+1]++(rankN true R i).drop 0:=by
      show insR true R i (rankN true R i)=_;exact j0I
     exact j2w
    ·obtain⟨y,hy⟩:=Ar (L:=rankN true R i) (k:=k) j6;obtain⟨y1,y2⟩:=Ew (List.mem_of_getElem? hy);have hyD:(rankN true R i).getD k 0=y:=by rw [List.getD_eq_getElem?_getD,hy];rfl
     obtain⟨m,hm⟩:∃m:Nat,(m:Int)=y-1:=⟨(y-1).toNat,by omega⟩;obtain⟨v,hv⟩:=Ar (L:=R) (k:=m) j05;have hrt:rt R y=v:=by unfold rt;rw [show(y-1).toNat=m by omega,List.getD_eq_getElem?_getD,hv];rfl
     have hpl:=hat.pl;rw [Hri.o] at hpl;have hps:plR true R r (rankN true R i) (k+1)=if Lc true r v=true then plR true R r (rankN true R i) k else k+1:=by show(if _ then _ else _)=_;rw [hyD,hrt]
     rw [hps] at hpl;obtain⟨g3,o3,he3,hc3⟩:=(Hr.o.keeps hat.fr.1 (by simp)).int (k:= .i64) hv;simp only [Option.some.injEq,Addr.mk.injEq,and_true] at he3;obtain⟨rfl,rfl⟩:=he3;have ck:=hat.row.cell (Ab9 (x:=(i:Int)+1) hy);have ck1:=hat.row.cell (mid_get (O:=rankN true R i) (x:=(i:Int)+1) (k:=k+1) j6);have fk:=hat.row.free k;have fk1:=hat.row.free (k+1);have hset:=((hat.row.set (k:=k) j6 ((i:Int)+1)).set (k:=k+1) j6 y).keep (Keeps.drew _);rw [Wx hy] at hset;refine j2x ?_;intro hfr2 q2 q3 q4 q5 q6 q7 q8 q9;have hcl:=λW=>Vx r v W;by_cases hah:Lc true r v=true
     ·rw [if_pos hah] at hpl;rw [hah] at hcl;have Hat:=Lib.hid hat;clear hat hy hyD hm hv hrt;have Hpl:=Lib.hid hpl;clear hpl hps;obtain⟨Hset,Hfr2,Hcl⟩:=hid3 hset hfr2 hcl;clear hcl hfr2 hset hlen hah
      go_wp2_with (go_at_call 184;(refine(Hcl.o _).mono ?_);rintro e w1 ⟨rfl,rfl⟩)
      exact j2y
     ·rw [if_neg hah] at hpl;have hah2:Lc true r v=false:=by simpa using hah
      rw [hah2] at hcl
      have hend:rankN true R (i+1)=(rankN true R i).take (k+1)++ [(i:Int)+1]++(rankN true R i).drop (k+1):=by
       show insR true R i (rankN true R i)=_;exact j0I
      have hrow2:=hat.row.1;rw [<-hend] at hrow2;have Hat:=Lib.hid hat;clear hat hy hyD hm hv hrt;have Hpl:=Lib.hid hpl;clear hpl hps;obtain⟨Hset,Hfr2,Hcl⟩:=hid3 hset hfr2 hcl;clear hcl hfr2 hset hlen hah hah2 hend;have Hrow2:=Lib.hid hrow2;clear hrow2
      go_wp2_with (go_at_call 184;(refine(Hcl.o _).mono ?_);rintro e w1 ⟨rfl,rfl⟩)
      exact j1l
   ·refine jM ?_;intro Hfirst
    go_wp2_with (at_builtin;refine Am rfl (.tmp 16) (.tmp 19) 276 rfl 0 3 i0 _ 1 8 Tryz.underlying276 Hi.o Hi0.o Hi1.o Hi2.o rfl j7 _ i _ rfl (Hrow.o.alloc _) _ 1 _ rfl (Reads.litAt _ _ _ 1 1 _ jr rfl) jf jd j6 (Nat.zero_le _) ?_;intro v4 w4 hown4 hk4 hf4;have hfr4:=(Hfr.o.keep (Keeps.alloc _ _)).app hk4 hf4;obtain⟨g,c,hv4,hc4⟩:=Ey hown4 j6;subst hv4;have Hown4:=Lib.hid hown4;have Hfr4:=Lib.hid hfr4;clear hown4 hk4 hf4 hfr4)
    go_step3;rename_i hK;refine jN ?_;have hlen:=Ex true R i;exact j2z
  ·exact j2A
theorem Vv(R:List Int)(ad:Option Addr)(cap:Nat)(w:World)(hr:Reads w 1 (.slice ad R.length cap) R.length (R.flatMap i64c))(hl:R.length<=1000):
  Calls Tryz.prog 183 #[.slice ad R.length cap,.func (.func 193) #[] #[]] w λe w'=>∃v',e= .returned v'/\w'.ownsRow 0 3 1 v' R.length ((rankL false R).flatMap i64c)/\Fresh w w' v':=by
 obtain⟨i0,hi,hi0,hi1,hi2⟩:=info_parts Qw;unfold rankL;obtain⟨n,hn⟩:=eX R.length;rw [hn] at hr hl⊢;obtain⟨Hr,Hn,Hi,Hi0,Hi1,Hi2⟩:=hid6 hr hn hi hi0 hi1 hi2;clear hi2 hi1 hi0 hi hn hr;go_enter Tryz.func183,Tryz.ntmps183;go_wp2
 go_loopw [5,11] (λx y wx=>∃i:Nat,y= .int .i64 (i:Nat)/\i<=n/\wx.ownsRow 0 3 1 x i ((rankN false R i).flatMap i64c)/\Fresh w wx x) (λ_ y _=>n-(intOf y).toNat)
 case atStart=>exact⟨0,rfl,Nat.zero_le _,World.ownsRow_nil _ _ _ _,Fresh.nil w⟩
 case round=>
  obtain⟨i,rfl,hin,hrow,hfr⟩:=hrel;obtain⟨W1,hW1⟩:=eY wr;subst hW1;obtain⟨adv,cv,hv,_,_⟩:=Ae hrow;subst hv;by_cases hlt:i<n
  ·have hltI:(i:Int)<(n:Int):=j8;obtain⟨r,hx⟩:=Ar (L:=R) (k:=i) j06;have hri:R.getD i 0=r:=by rw [List.getD_eq_getElem?_getD,hx];rfl
   obtain⟨gR,oR,he,hc⟩:=(Hr.o.keeps hfr.1 (by simp)).int (k:= .i64) hx;subst he;obtain⟨Hrow,Hfr⟩:=hid2 hrow hfr;clear hfr hrow hx;have Hri:=Lib.hid hri;clear hri;go_wp2_with fail;refine Dl 0 (rkJ false R i w (.slice (some ⟨gR,oR,none⟩) n cap) (.func (.func 193) #[] #[]) n) (λa' _=>Eg 8 a') rfl ?_ ?_
   ·rintro a' W ⟨k,g,c,u,rfl,hat⟩;unfold rkFr;rw [Hri.o];have hki:=hat.ki;have hlen:=Ex false R i;rcases k with _|k
    ·have hp0:plR false R r (rankN false R i) 0=0:=rfl;have hpl:=hat.pl;rw [Hri.o,hp0] at hpl
     have hend:rankN false R (i+1)=(rankN false R i).take 0++ [(i:Int)+1]++(rankN false R i).drop 0:=by
      show insR false R i (rankN false R i)=_;exact j0I
     exact j2w
    ·obtain⟨y,hy⟩:=Ar (L:=rankN false R i) (k:=k) j6;obtain⟨y1,y2⟩:=Ew (List.mem_of_getElem? hy);have hyD:(rankN false R i).getD k 0=y:=by rw [List.getD_eq_getElem?_getD,hy];rfl
     obtain⟨m,hm⟩:∃m:Nat,(m:Int)=y-1:=⟨(y-1).toNat,by omega⟩;obtain⟨v,hv⟩:=Ar (L:=R) (k:=m) j05;have hrt:rt R y=v:=by unfold rt;rw [show(y-1).toNat=m by omega,List.getD_eq_getElem?_getD,hv];rfl
     have hpl:=hat.pl;rw [Hri.o] at hpl;have hps:plR false R r (rankN false R i) (k+1)=if Lc false r v=true then plR false R r (rankN false R i) k else k+1:=by show(if _ then _ else _)=_;rw [hyD,hrt]
     rw [hps] at hpl;obtain⟨g3,o3,he3,hc3⟩:=(Hr.o.keeps hat.fr.1 (by simp)).int (k:= .i64) hv;simp only [Option.some.injEq,Addr.mk.injEq,and_true] at he3;obtain⟨rfl,rfl⟩:=he3;have ck:=hat.row.cell (Ab9 (x:=(i:Int)+1) hy);have ck1:=hat.row.cell (mid_get (O:=rankN false R i) (x:=(i:Int)+1) (k:=k+1) j6);have fk:=hat.row.free k;have fk1:=hat.row.free (k+1);have hset:=((hat.row.set (k:=k) j6 ((i:Int)+1)).set (k:=k+1) j6 y).keep (Keeps.drew _);rw [Wx hy] at hset;refine j2x ?_;intro hfr2 q2 q3 q4 q5 q6 q7 q8 q9;have hcl:=λW=>Yo r v W;by_cases hah:Lc false r v=true
     ·rw [if_pos hah] at hpl;rw [hah] at hcl;have Hat:=Lib.hid hat;clear hat hy hyD hm hv hrt;have Hpl:=Lib.hid hpl;clear hpl hps;obtain⟨Hset,Hfr2,Hcl⟩:=hid3 hset hfr2 hcl;clear hcl hfr2 hset hlen hah
      go_wp2_with (go_at_call 193;(refine(Hcl.o _).mono ?_);rintro e w1 ⟨rfl,rfl⟩)
      exact j2y
     ·rw [if_neg hah] at hpl;have hah2:Lc false r v=false:=by simpa using hah
      rw [hah2] at hcl
      have hend:rankN false R (i+1)=(rankN false R i).take (k+1)++ [(i:Int)+1]++(rankN false R i).drop (k+1):=by
       show insR false R i (rankN false R i)=_;exact j0I
      have hrow2:=hat.row.1;rw [<-hend] at hrow2;have Hat:=Lib.hid hat;clear hat hy hyD hm hv hrt;have Hpl:=Lib.hid hpl;clear hpl hps;obtain⟨Hset,Hfr2,Hcl⟩:=hid3 hset hfr2 hcl;clear hcl hfr2 hset hlen hah hah2 hend;have Hrow2:=Lib.hid hrow2;clear hrow2
      go_wp2_with (go_at_call 193;(refine(Hcl.o _).mono ?_);rintro e w1 ⟨rfl,rfl⟩)
      exact j1l
   ·refine jM ?_;intro Hfirst
    go_wp2_with (at_builtin;refine Am rfl (.tmp 16) (.tmp 19) 276 rfl 0 3 i0 _ 1 8 Tryz.underlying276 Hi.o Hi0.o Hi1.o Hi2.o rfl j7 _ i _ rfl (Hrow.o.alloc _) _ 1 _ rfl (Reads.litAt _ _ _ 1 1 _ jr rfl) jf jd j6 (Nat.zero_le _) ?_;intro v4 w4 hown4 hk4 hf4;have hfr4:=(Hfr.o.keep (Keeps.alloc _ _)).app hk4 hf4;obtain⟨g,c,hv4,hc4⟩:=Ey hown4 j6;subst hv4;have Hown4:=Lib.hid hown4;have Hfr4:=Lib.hid hfr4;clear hown4 hk4 hf4 hfr4)
    go_step3;rename_i hK;refine jN ?_;have hlen:=Ex false R i;exact j2z
  ·exact j2A
theorem Po(R:List Int)(ad:Option Addr)(cap:Nat)(w:World)(hr:Reads w 1 (.slice ad R.length cap) R.length (R.flatMap i64c))(hl:R.length<=1000):
  Calls Tryz.prog 169 #[.slice ad R.length cap] w λe w'=>∃v',e= .returned v'/\w'.ownsRow 0 3 1 v' R.length ((rankL true R).flatMap i64c)/\Fresh w w' v':=by
 have hc:=Vw R ad cap w hr hl;have Hc:=Lib.hid hc;clear hc hr;go_enter Tryz.func169,Tryz.ntmps169;exact j2B
theorem Aaz(R:List Int)(ad:Option Addr)(cap:Nat)(w:World)(hr:Reads w 1 (.slice ad R.length cap) R.length (R.flatMap i64c))(hl:R.length<=1000):
  Calls Tryz.prog 182 #[.slice ad R.length cap] w λe w'=>∃v',e= .returned v'/\w'.ownsRow 0 3 1 v' R.length ((rankL false R).flatMap i64c)/\Fresh w w' v':=by
 have hc:=Vv R ad cap w hr hl;have Hc:=Lib.hid hc;clear hc hr;go_enter Tryz.func182,Tryz.ntmps182;exact j2B
end Go.Proofs.YtjkdnaljkdnomaaGreatDoor
