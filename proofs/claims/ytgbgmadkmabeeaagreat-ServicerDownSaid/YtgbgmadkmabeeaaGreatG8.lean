/- Part 8 of what the laws of this seat share: walks of functions, and plain laws. -/
import Derived.BigQuiet
import Derived.Deep.DeepCutAuto
import Derived.Test.YtgbgmadkmabeeaaGreatG3
set_option maxRecDepth 100000
set_option maxHeartbeats 3200000
namespace Go.Proofs.YtgbgmadkmabeeaaGreat
open Go.RowKit
theorem lit3{w:World}{B:Nat}(hB:B=w.heap.size)(t:TypeId)(a b c:Int):Reads (w.alloc (.cells #[.int .i64 a,.int .i64 b,.int .i64 c] t)) 1 (.slice (some ⟨B,0,none⟩) 3 3) 3 ([a,b,c].flatMap i64c):=Reads.litAt _ #[.int .i64 a,.int .i64 b,.int .i64 c] _ _ _ _ hB rfl
theorem lit2{w:World}{B:Nat}(hB:B=w.heap.size)(t:TypeId)(a b:Int):Reads (w.alloc (.cells #[.int .i64 a,.int .i64 b] t)) 1 (.slice (some ⟨B,0,none⟩) 2 2) 2 ([a,b].flatMap i64c):=Reads.litAt _ #[.int .i64 a,.int .i64 b] _ _ _ _ hB rfl
def Jb(v:Int):Bool:=decide (0<=v/\v<=1000000000000000)
theorem Sj(v:Int)(w:World):Calls Tryz.prog 268 #[.int .i64 v] w λe w'=>e= .returned (.bool (!Jb v))/\w=w':=by
 have hd:Jb v=decide (0<=v/\v<=1000000000000000):=rfl;by_cases h1:v<0
 ·have:Jb v=false:=by rw [hd];simp;omega
  exact j1d
 ·by_cases h2:1000000000000000<v
  ·have:Jb v=false:=by rw [hd];simp;omega
   exact j1d
  ·have:Jb v=true:=by rw [hd];simp;omega
   exact j1d
def Cn(L:List Int):Bool:=L.all Jb
theorem Xd(L:List Int)(x:Int):Cn (L++ [x])=(Cn L&&Jb x):=by simp [Cn]
theorem Vm{L:List Int}{k:Nat}{x:Int}(h:L[k]?=some x)(hx:Jb x=false):Cn L=false:=by
 exact j2K
theorem Zl(ad:Option Addr)(cap:Nat)(L:List Int)(w:World)(hr:Reads w 1 (.slice ad L.length cap) L.length (L.flatMap i64c))(hl:L.length<=1000):
  Calls Tryz.prog 287 #[.slice ad L.length cap,.func (.func 268) #[] #[]] w λe w'=>∃r:Int,e= .returned (.int .i64 r)/\decide (0<=r)= !Cn L/\w=w':=by
 have Hr:=Lib.hid hr;clear hr;go_enter Tryz.func287,Tryz.ntmps287;go_wp2_with fail
 go_loop [8] (λc=>∃j:Nat,j<=L.length/\c= .int .i64 (j:Nat)/\Cn (L.take j)=true) (λc=>L.length-(intOf c).toNat)
 case atStart=>exact⟨0,Nat.zero_le _,rfl,rfl⟩
 case round=>
  obtain⟨j,hj,rfl,hok⟩:=hrel;by_cases hjl:j<L.length
  ·obtain⟨x,hx⟩:=Au hjl;obtain⟨g,o,rfl,x0⟩:=Hr.o.int hx;have hsn:=Xd (L.take j) x;rw [<-take_snoc' hx,hok] at hsn;rcases m1:Jb x with _|_
   ·have hf:=Vm hx m1;have hj0:decide ((0:Int)<=(j:Int))=true:=by simp
    obtain⟨Hf,Hsn,Hx,Hj0⟩:=hid4 hf hsn hx hj0;clear hj0 hx hsn hf
    go_wp2_with (go_at_call 268;((with_reducible refine(Sj _ _).mono ?_);rintro e w1 ⟨rfl,rfl⟩))
    go_ret;exact⟨_,rfl,by rw [Hf.o,Hj0.o];rfl,rfl⟩
   ·have hok':Cn (L.take (j+1))=true:=by rw [hsn,m1];rfl
    obtain⟨Hsn,Hx,Hok,Hok'⟩:=hid4 hsn hx hok hok';clear hok' hok hx hsn
    go_wp2_with (go_at_call 268;((with_reducible refine(Sj _ _).mono ?_);rintro e w1 ⟨rfl,rfl⟩))
    exact j0c
  ·exact j0d
theorem Tc(ad:Option Addr)(cap:Nat)(L:List Int)(w:World)(hr:Reads w 1 (.slice ad L.length cap) L.length (L.flatMap i64c))(hl:L.length<=1000):
  Calls Tryz.prog 267 #[.slice ad L.length cap,.func (.func 268) #[] #[]] w λe w'=>e= .returned (.bool (!Cn L))/\w=w':=by
 have Hr:=Lib.hid hr;clear hr;go_enter Tryz.func267,Tryz.ntmps267
 go_wp2_with (go_at_call 287;refine(Zl _ _ L _ Hr.o hl).mono ?_;rintro e w1 ⟨r,rfl,hd,rfl⟩;have Hd:=Lib.hid hd;clear hd)
 exact j0e
theorem Vo(ad:Option Addr)(cap:Nat)(L:List Int)(w:World)(hr:Reads w 1 (.slice ad L.length cap) L.length (L.flatMap i64c))(hl:L.length<=1000):
  Calls Tryz.prog 246 #[.slice ad L.length cap] w λe w'=>e= .returned (.bool (Cn L))/\w=w':=by
 have Hr:=Lib.hid hr;clear hr;go_enter Tryz.func246,Tryz.ntmps246
 go_wp2_with (go_at_call 267;refine(Tc _ _ L _ Hr.o hl).mono ?_;rintro e w1 ⟨rfl,rfl⟩)
 go_ret;exact⟨by simp,rfl⟩
theorem adjMay3{w:World}{B:Nat}(hB:B=w.heap.size)(t:TypeId)(a b c:Int):Calls Tryz.prog 246 #[.slice (some ⟨B,0,none⟩) 3 3] (w.alloc (.cells #[.int .i64 a,.int .i64 b,.int .i64 c] t)) λe w'=>e= .returned (.bool (Cn [a,b,c]))/\(w.alloc (.cells #[.int .i64 a,.int .i64 b,.int .i64 c] t))=w':=
 Vo _ _ [a,b,c] _ (lit3 hB _ a b c) (by simp)
theorem adjMay2{w:World}{B:Nat}(hB:B=w.heap.size)(t:TypeId)(a b:Int):Calls Tryz.prog 246 #[.slice (some ⟨B,0,none⟩) 2 2] (w.alloc (.cells #[.int .i64 a,.int .i64 b] t)) λe w'=>e= .returned (.bool (Cn [a,b]))/\(w.alloc (.cells #[.int .i64 a,.int .i64 b] t))=w':=
 Vo _ _ [a,b] _ (lit2 hB _ a b) (by simp)
def Kg(a b:Bool):Int:=if b&& !a then 1 else if a&& !b then -1 else 0
theorem Xe(a b:Bool)(w:World):Calls Tryz.prog 247 #[.bool a,.bool b] w λe w'=>e= .returned (.int .i64 (Kg a b))/\w=w':=by
 cases a<;>cases b<;>
 ·go_enter Tryz.func247,Tryz.ntmps247;exact jk
def Gt(a b:Stm):Bool:=decide (a.cycle=b.cycle)&&(decide (a.fr=b.fr)&&decide (a.te=b.te))&&decide (a.lines.length=b.lines.length)
theorem Aa9(a b:Stm)(ad1 ad2:Option Addr)(c1 c2:Nat)(w:World):
  Calls Tryz.prog 210 #[a.val (.slice ad1 a.lines.length c1),b.val (.slice ad2 b.lines.length c2)] w λe w'=>e= .returned (.bool (Gt a b))/\K0 w w':=by
 obtain⟨cy,fr,tQ,du,tot,cr,mi,gr,L⟩:=a;obtain⟨cy',fr',to',du',tot',cr',mi',gr',L'⟩:=b;simp only [Stm.val];obtain⟨n,hn⟩:=eX L.length;obtain⟨n',hn'⟩:=eX L'.length;have hd:Gt ⟨cy,fr,tQ,du,tot,cr,mi,gr,L⟩ ⟨cy',fr',to',du',tot',cr',mi',gr',L'⟩=(decide (cy=cy')&&(decide (fr=fr')&&decide (tQ=to'))&&decide (n=n')):=by unfold Gt;simp only [hn,hn']
 rw [hn,hn'];by_cases h1:cy=cy'
 ·subst h1;by_cases h2:fr=fr'/\tQ=to'
  ·obtain⟨rfl,rfl⟩:=h2;by_cases h3:n=n'
   ·subst h3;have hf:Gt ⟨cy,fr,tQ,du,tot,cr,mi,gr,L⟩ ⟨cy,fr,tQ,du',tot',cr',mi',gr',L'⟩=true:=by rw [hd];simp
    obtain⟨Hd,Hn,Hn',Hf⟩:=hid4 hd hn hn' hf;clear hf hn' hn hd;go_enter Tryz.func210,Tryz.ntmps210;go_wp2;go_ret;exact⟨by rw [Hf.o];simp,(Keeps.alloc _ _).trans (Keeps.alloc _ _)⟩
   ·have hf:Gt ⟨cy,fr,tQ,du,tot,cr,mi,gr,L⟩ ⟨cy,fr,tQ,du',tot',cr',mi',gr',L'⟩=false:=by rw [hd];simp [h3]
    have h3':¬(n:Int)=(n':Int):=j8;obtain⟨Hd,Hn,Hn',Hf⟩:=hid4 hd hn hn' hf;clear hf hn' hn hd;go_enter Tryz.func210,Tryz.ntmps210;go_wp2;go_ret;exact⟨by rw [Hf.o];simp [h3'];try omega,(Keeps.alloc _ _).trans (Keeps.alloc _ _)⟩
  ·have hf:Gt ⟨cy,fr,tQ,du,tot,cr,mi,gr,L⟩ ⟨cy,fr',to',du',tot',cr',mi',gr',L'⟩=false:=by rw [hd];simp;intro a b;exact absurd ⟨a,b⟩ h2
   have h2':(decide (fr=fr')&&decide (tQ=to'))=false:=by simp;intro a b;exact absurd ⟨a,b⟩ h2
   obtain⟨Hd,Hn,Hn',Hf⟩:=hid4 hd hn hn' hf;clear hf hn' hn hd;rcases(show¬fr=fr'\/(fr=fr'/\¬tQ=to') by omega) with h4|⟨h4,h5⟩
   ·clear h2 h2';go_enter Tryz.func210,Tryz.ntmps210;go_wp2;go_ret;exact⟨by rw [Hf.o];simp,(Keeps.alloc _ _).trans (Keeps.alloc _ _)⟩
   ·clear h2 h2';subst h4;go_enter Tryz.func210,Tryz.ntmps210;go_wp2;go_ret;exact⟨by rw [Hf.o];simp,(Keeps.alloc _ _).trans (Keeps.alloc _ _)⟩
 ·have hf:Gt ⟨cy,fr,tQ,du,tot,cr,mi,gr,L⟩ ⟨cy',fr',to',du',tot',cr',mi',gr',L'⟩=false:=by rw [hd];simp [h1]
  obtain⟨Hd,Hn,Hn',Hf⟩:=hid4 hd hn hn' hf;clear hf hn' hn hd;go_enter Tryz.func210,Tryz.ntmps210;go_wp2;go_ret;exact⟨by rw [Hf.o];simp,(Keeps.alloc _ _).trans (Keeps.alloc _ _)⟩
def Ln.numsB(x:Ln):Bool:=Cn [x.balance,x.interest]
def Stm.Cz(s:Stm):Bool:=s.lines.all Ln.numsB&&Cn [s.total,s.credit,s.min]
theorem Abe{L:List Ln}{k:Nat}{x:Ln}(h:L[k]?=some x)(hx:x.numsB=false):L.all Ln.numsB=false:=by
 exact j2K
theorem Vn(s:Stm)(ad:Option Addr)(cap:Nat)(w:World)(hr:Reads w 3 (.slice ad s.lines.length cap) s.lines.length (s.lines.flatMap Ln.cells))(hl:s.lines.length<=1000000):
  Calls Tryz.prog 211 #[s.val (.slice ad s.lines.length cap)] w λe w'=>e= .returned (.bool s.Cz)/\K0 w w':=by
 obtain⟨cy,fr,tQ,du,tot,cr,mi,gr,L⟩:=s;simp only [Stm.val] at hr hl⊢;have hd:Stm.Cz ⟨cy,fr,tQ,du,tot,cr,mi,gr,L⟩=(L.all Ln.numsB&&Cn [tot,cr,mi]):=rfl;rw [hd];clear hd;have hbox:=heap_alloc_new w (.cells #[.int .i64 cy,.int .i64 fr,.int .i64 tQ,.int .i64 du,.slice ad L.length cap,.int .i64 tot,.int .i64 cr,.int .i64 mi,.bool gr] 60);obtain⟨Hr,Hbox⟩:=hid2 hr hbox;clear hbox hr;go_enter Tryz.func211,Tryz.ntmps211;go_wp2_with fail
 go_loopw [8] (λc wr=>∃j:Nat,j<=L.length/\c= .int .i64 (j:Nat)/\(L.take j).all Ln.numsB=true/\K0 w wr/\wr.heap[w.heap.size]?=some (.cells #[.int .i64 cy,.int .i64 fr,.int .i64 tQ,.int .i64 du,.slice ad L.length cap,.int .i64 tot,.int .i64 cr,.int .i64 mi,.bool gr] 60 (0,0))) (λc _=>L.length-(intOf c).toNat)
 case atStart=>exact⟨0,Nat.zero_le _,rfl,rfl,Keeps.alloc _ _,Hbox.o⟩
 case round=>
  obtain⟨j,hj,rfl,hok,hk,hb⟩:=hrel;have b5:=Aa hb 5;have b6:=Aa hb 6;have b7:=Aa hb 7;have hbl:=lt_of_block hb;by_cases hjl:j<L.length
  ·obtain⟨⟨xb,xi,xr⟩,hx⟩:=Au hjl;obtain⟨g,o,c,he,hc⟩:=(Hr.o.keeps hk (by simp)).elem Ln.Aj hx j7;simp only [Value.slice.injEq,true_and] at he;obtain⟨rfl,rfl⟩:=he;have x0:wr.cell? ⟨g,o+j*3,none⟩=some (.int .i64 xb):=hc 0 j7;have x1:wr.cell? ⟨g,o+j*3+1,none⟩=some (.int .i64 xi):=hc 1 j7;have x2:wr.cell? ⟨g,o+j*3+2,none⟩=some (.int .i64 xr):=hc 2 j7;have han:(L.take (j+1)).all Ln.numsB=Cn [xb,xi]:=by rw [take_snoc' hx,List.all_append,hok];simp [Ln.numsB]
   have hno:Cn [xb,xi]=false->(L.all Ln.numsB&&Cn [tot,cr,mi])=false:=λh=>by rw [Abe hx (by simpa [Ln.numsB] using h)];rfl
   clear hc;rcases m1:Cn [xb,xi] with _|_
   ·have hf:=hno m1;obtain⟨Hx,Han,Hno,Hk,Hb,Hok,Hf⟩:=hid7 hx han hno hk hb hok hf;clear hf hok hb hk hno han hx
    go_wp2_with (go_at_call 246;((with_reducible refine(adjMay2 (by simp) _ xb xi).mono ?_);rintro e w1 ⟨rfl,rfl⟩))
    go_ret;exact⟨by rw [Hf.o];rfl,Hk.o.trans ((Keeps.alloc _ _).trans (Keeps.alloc _ _))⟩
   ·have hok':(L.take (j+1)).all Ln.numsB=true:=by rw [han,m1]
    obtain⟨Hx,Han,Hno,Hk,Hb,Hok,Hok'⟩:=hid7 hx han hno hk hb hok hok';clear hok' hok hb hk hno han hx
    go_wp2_with (go_at_call 246;((with_reducible refine(adjMay2 (by simp) _ xb xi).mono ?_);rintro e w1 ⟨rfl,rfl⟩))
    go_roundw
    case rel=>exact⟨j+1,by omega,by go_num,Hok'.o,Hk.o.trans ((Keeps.alloc _ _).trans (Keeps.alloc _ _)),Aq (Aq Hb.o _) _⟩
    case measure=>simp [intOf];omega
  ·obtain rfl:j=L.length:=by omega
   rw [List.take_length] at hok;have hfin:(L.all Ln.numsB&&Cn [tot,cr,mi])=Cn [tot,cr,mi]:=by rw [hok];rfl
   obtain⟨Hk,Hb,Hok,Hfin⟩:=hid4 hk hb hok hfin;clear hfin hok hb hk
   go_wp2_with (go_at_call 246;((with_reducible refine(adjMay3 rfl _ tot cr mi).mono ?_);rintro e w1 ⟨rfl,rfl⟩))
   go_ret;exact⟨by rw [Hfin.o];rfl,Hk.o.trans (Keeps.alloc _ _)⟩
theorem Keeps.Cb{a b c:World}(h:K0 a b)(k:K0 b c):K0 a c:=h.trans (k.mono (by simp))
theorem Xc(w:World)(v:Value)(n:Nat)(xs:List Value)(hr:Reads w 3 v n xs)(h1:∀u∈xs,u.oneCell'=true)(hn:n<=1000000000000):
  Calls Tryz.prog 139 #[v] w λe w'=>∃v',e= .returned v'/\w'.ownsRow 0 160 3 v' n xs/\K0 w w'/\(∀k,v'.ownBlock=some k->w.heap.size<=k):=by
 obtain⟨i0,hi,hz0,hz1,hz2⟩:=info_parts Uz;have hr':=hr;obtain⟨ad,c,rfl,hnc,hl,hnone,hcells⟩:=hr';clear hcells;have heq:=fun(wx:World) (ad:Option Addr) (l c:Nat)=>Lib.run_eql_slice_nil (P:=Tryz.prog) wx 58 _ ad l c 0 0 Tryz.underlying58;rcases ad with _|a
 ·obtain rfl:=hnone rfl;obtain rfl:n=0:=by omega
  obtain rfl:xs= []:=List.eq_nil_of_length_eq_zero jy;have hr0:=Lib.hid hr;clear hr;go_enter Tryz.func139,Tryz.ntmps139;exact jH
 ·have Hr:=Lib.hid hr;clear hr;obtain⟨Hl,Hnone,H1⟩:=hid3 hl hnone h1;clear h1 hnone hl;go_enter Tryz.func139,Tryz.ntmps139
  go_wp2_with (at_builtin;refine Ap rfl (.tmp 5) (.tmp 6) 58 rfl 0 160 i0 _ 3 24 Tryz.underlying58 hi hz0 hz1 hz2 rfl j7 _ 0 [] rfl (World.ownsRow_lit w #[] 0 j6 jd rfl) _ n xs rfl (Hr.o.keeps (Keeps.alloc (S:=λ_=>False) _ _) (by simp)) H1.o jd j6 j6 ?_)
  intro v' w1 hown1 hk1 hfr
  have hend:w1.ownsRow 0 160 3 v' n xs/\K0 w w1/\(∀k,v'.ownBlock=some k->w.heap.size<=k):=by
   exact jI
  exact jJ
def Mm(L M:List SV)(n:Nat):Prop:=∀i a b,i<n->L[i]?=some a->M[i]?=some b->Gt a.s b.s=true
theorem Sk(a b:Stm)(ad1 ad2:Option Addr)(c1 c2:Nat)(w:World){r:Bool}(hr:Gt a b=r):
  Calls Tryz.prog 210 #[.agg #[.int .i64 a.cycle,.int .i64 a.fr,.int .i64 a.te,.int .i64 a.due,.slice ad1 a.lines.length c1,.int .i64 a.total,.int .i64 a.credit,.int .i64 a.min,.bool a.grace],.agg #[.int .i64 b.cycle,.int .i64 b.fr,.int .i64 b.te,.int .i64 b.due,.slice ad2 b.lines.length c2,.int .i64 b.total,.int .i64 b.credit,.int .i64 b.min,.bool b.grace]] w λe w'=>e= .returned (.bool r)/\K0 w w':=by
 subst hr;exact Aa9 a b ad1 ad2 c1 c2 w
theorem Zt(ad1 ad2:Option Addr)(c1 c2:Nat)(L M:List SV)(w:World)(h1:Reads w 9 (.slice ad1 L.length c1) L.length (L.flatMap SV.cells))(h2:Reads w 9 (.slice ad2 M.length c2) M.length (M.flatMap SV.cells))(hl:L.length<=1000000)(hm:M.length<=1000000):
  Calls Tryz.prog 209 #[.slice ad1 L.length c1,.slice ad2 M.length c2,.func (.func 210) #[] #[]] w λe w'=>∃r:Bool,e= .returned (.bool r)/\(r=true↔L.length=M.length/\Mm L M L.length)/\K0 w w':=by
 obtain⟨n,hn⟩:=eX L.length;obtain⟨m,hm'⟩:=eX M.length;rw [hn] at h1 hl⊢;rw [hm'] at h2 hm⊢;by_cases hnm:n=m
 ·subst hnm;obtain⟨H1,H2,Hn,Hm'⟩:=hid4 h1 h2 hn hm';clear hm' hn h2 h1;go_enter Tryz.func209,Tryz.ntmps209;go_wp2_with fail
  go_loopw [17] (λc wr=>∃j:Nat,j<=n/\c= .int .i64 (j:Nat)/\Mm L M j/\K0 w wr) (λc _=>n-(intOf c).toNat)
  case atStart=>exact⟨0,Nat.zero_le _,rfl,λi a b h=>by omega,Keeps.refl _ _⟩
  case round=>
   obtain⟨j,hj,rfl,hal,hk⟩:=hrel;by_cases hjn:j<n
   ·obtain⟨a,ha⟩:=Au (L:=L) (k:=j) (by rw [Hn.o];exact hjn);obtain⟨b,hb⟩:=Au (L:=M) (k:=j) (by rw [Hm'.o];exact hjn);obtain⟨g,o,c,he,hc⟩:=(H1.o.keeps hk (by simp)).elem SV.Aj ha j7;obtain⟨g',o',c',he',hc'⟩:=(H2.o.keeps hk (by simp)).elem SV.Aj hb j7;simp only [Value.slice.injEq,true_and] at he he';obtain⟨rfl,rfl⟩:=he;obtain⟨rfl,rfl⟩:=he';have x0:wr.cell? ⟨g,o+j*9,none⟩=some (.int .i64 a.s.cycle):=hc 0 j7;have x1:wr.cell? ⟨g,o+j*9+1,none⟩=some (.int .i64 a.s.fr):=hc 1 j7;have x2:wr.cell? ⟨g,o+j*9+2,none⟩=some (.int .i64 a.s.te):=hc 2 j7;have x3:wr.cell? ⟨g,o+j*9+3,none⟩=some (.int .i64 a.s.due):=hc 3 j7;have x4:wr.cell? ⟨g,o+j*9+4,none⟩=some (.slice a.ad a.s.lines.length a.cap):=hc 4 j7;have x5:wr.cell? ⟨g,o+j*9+5,none⟩=some (.int .i64 a.s.total):=hc 5 j7;have x6:wr.cell? ⟨g,o+j*9+6,none⟩=some (.int .i64 a.s.credit):=hc 6 j7;have x7:wr.cell? ⟨g,o+j*9+7,none⟩=some (.int .i64 a.s.min):=hc 7 j7;have x8:wr.cell? ⟨g,o+j*9+8,none⟩=some (.bool a.s.grace):=hc 8 j7;have y0:wr.cell? ⟨g',o'+j*9,none⟩=some (.int .i64 b.s.cycle):=hc' 0 j7;have y1:wr.cell? ⟨g',o'+j*9+1,none⟩=some (.int .i64 b.s.fr):=hc' 1 j7;have y2:wr.cell? ⟨g',o'+j*9+2,none⟩=some (.int .i64 b.s.te):=hc' 2 j7;have y3:wr.cell? ⟨g',o'+j*9+3,none⟩=some (.int .i64 b.s.due):=hc' 3 j7;have y4:wr.cell? ⟨g',o'+j*9+4,none⟩=some (.slice b.ad b.s.lines.length b.cap):=hc' 4 j7;have y5:wr.cell? ⟨g',o'+j*9+5,none⟩=some (.int .i64 b.s.total):=hc' 5 j7;have y6:wr.cell? ⟨g',o'+j*9+6,none⟩=some (.int .i64 b.s.credit):=hc' 6 j7;have y7:wr.cell? ⟨g',o'+j*9+7,none⟩=some (.int .i64 b.s.min):=hc' 7 j7;have y8:wr.cell? ⟨g',o'+j*9+8,none⟩=some (.bool b.s.grace):=hc' 8 j7;have hgl:=Ag x0;have hgl':=Ag y0;clear hc hc';rcases hab:Gt a.s b.s with _|_
    ·have hno:¬Mm L M n:=λh=>by have:=h j a b hjn ha hb;rw [hab] at this;simp at this
     obtain⟨Ha,Hb,Hal,Hk,Hab,Hno⟩:=hid6 ha hb hal hk hab hno;clear hno hab hk hal hb ha
     go_wp2_with (go_at_call 210;refine(Sk _ _ _ _ _ _ _ Hab.o).mono ?_;rintro e w3 ⟨rfl,hk3⟩;have Hk3:=Lib.hid hk3;clear hk3)
     go_ret;exact⟨false,rfl,by simp;exact Hno.o,(Hk.o.Cb ((Keeps.alloc _ _).Cb (Keeps.alloc _ _))).Cb Hk3.o⟩
    ·have hal':Mm L M (j+1):=λi a' b' hi ha' hb'=>by
      by_cases hij:i<j
      ·exact hal i a' b' hij ha' hb'
      ·obtain rfl:i=j:=by omega
       rw [ha] at ha';rw [hb] at hb'
       cases ha';cases hb';exact hab
     obtain⟨Ha,Hb,Hal,Hk,Hab,Hal'⟩:=hid6 ha hb hal hk hab hal';clear hal' hab hk hal hb ha
     go_wp2_with (go_at_call 210;refine(Sk _ _ _ _ _ _ _ Hab.o).mono ?_;rintro e w3 ⟨rfl,hk3⟩;have Hk3:=Lib.hid hk3;clear hk3)
     go_roundw
     case rel=>exact⟨j+1,by omega,by go_num,Hal'.o,(Hk.o.Cb ((Keeps.alloc _ _).Cb (Keeps.alloc _ _))).Cb Hk3.o⟩
     case measure=>simp [intOf];omega
   ·obtain rfl:j=n:=by omega
    obtain⟨Hal,Hk⟩:=hid2 hal hk;clear hk hal;go_wp2_with fail;go_ret;exact⟨true,rfl,by simp;exact Hal.o,Hk.o⟩
 ·have hnm':¬(n:Int)=(m:Int):=j8;obtain⟨H1,H2,Hn,Hm'⟩:=hid4 h1 h2 hn hm';clear hm' hn h2 h1;go_enter Tryz.func209,Tryz.ntmps209;go_wp2_with fail;go_ret;exact⟨false,rfl,by simp [hnm],Keeps.refl _ _⟩
structure Adj where
 seq:Int
 cycle:Int
 tranche:Int
 balance:Int
 interest:Int
 total:Int
 credit:Int
 min:Int
 grace:Int
deriving DecidableEq,Inhabited
def Adj.cells(d:Adj):List Value:= [.int .i64 d.seq,.int .i64 d.cycle,.int .i64 d.tranche,.int .i64 d.balance,.int .i64 d.interest,.int .i64 d.total,.int .i64 d.credit,.int .i64 d.min,.int .i64 d.grace]
theorem Adj.Aj(d:Adj):d.cells.length=9:=rfl
theorem Adj.one(L:List Adj):∀u∈L.flatMap Adj.cells,u.oneCell'=true:=by
 intro u hu;obtain⟨d,_,hd⟩:=List.mem_flatMap.1 hu;simp only [Adj.cells,List.mem_cons,List.not_mem_nil,or_false] at hd;rcases hd with rfl|rfl|rfl|rfl|rfl|rfl|rfl|rfl|rfl<;>rfl
def Adj.agg(a:Adj):Value:= .agg #[.int .i64 a.seq,.int .i64 a.cycle,.int .i64 a.tranche,.int .i64 a.balance,.int .i64 a.interest,.int .i64 a.total,.int .i64 a.credit,.int .i64 a.min,.int .i64 a.grace]
theorem Gu:(Tryz.prog.info? 90).map (λi=>(i.zero,i.size,i.bytes))=some (some (.agg #[.int .i64 0,.int .i64 0,.int .i64 0,.int .i64 0,.int .i64 0,.int .i64 0,.int .i64 0,.int .i64 0,.int .i64 0]),9,72):=by kernel_rfl
def Gf(seq cy:Int)(k:Nat)(x y:Ln):List Adj:=
 if x.balance=y.balance/\x.interest=y.interest then [] else [⟨seq,cy,(k:Int)+1,y.balance-x.balance,y.interest-x.interest,0,0,0,0⟩]
def Da(seq cy:Int)(X Y:List Ln):Nat->List Adj
 |0=> []
 |k+1=>Da seq cy X Y k++(match X[k]?,Y[k]? with|some x,some y=>Gf seq cy k x y|_,_=> [])
def Po(seq:Int)(a b:Stm):Adj:=⟨seq,a.cycle,0,0,0,b.total-a.total,b.credit-a.credit,b.min-a.min,Kg a.grace b.grace⟩
def Mo(a b:Stm):Bool:=decide (a.total=b.total)&&decide (a.credit=b.credit)&&decide (a.min=b.min)&&(a.grace==b.grace)
def Ei(seq:Int)(a b:Stm):List Adj:=Da seq a.cycle a.lines b.lines a.lines.length++if Mo a b then [] else [Po seq a b]
def Stm.blk(s:Stm)(v:Value):Array Value:= #[.int .i64 s.cycle,.int .i64 s.fr,.int .i64 s.te,.int .i64 s.due,v,.int .i64 s.total,.int .i64 s.credit,.int .i64 s.min,.bool s.grace]
structure OneS(w W:World)(seq:Int)(a b:Stm)(va vb:Value)(W0:Nat)(v:Value)(k:Nat):Prop where
 ba:W.heap[w.heap.size]?=some (.cells (a.blk va) 60 (0,0))
 bb:W.heap[w.heap.size+1]?=some (.cells (b.blk vb) 60 (0,0))
 bw:W.heap[W0]?=some (.cells (Po seq a b).cells.toArray 90 (0,0))
 w0:w.heap.size+1<W0
 row:W.ownsRow 0 90 9 v (Da seq a.cycle a.lines b.lines k).length ((Da seq a.cycle a.lines b.lines k).flatMap Adj.cells)
 kp:K0 w W
 nw:∀g,v.ownBlock=some g->W0<g
theorem OneS.keep{w W W':World}{seq:Int}{a b:Stm}{va vb:Value}{W0:Nat}{v:Value}{k:Nat}(h:OneS w W seq a b va vb W0 v k)(hk:K0 W W'):OneS w W' seq a b va vb W0 v k:=
 ⟨Ad h.ba hk (by simp),Ad h.bb hk (by simp),Ad h.bw hk (by simp),h.w0,hk.row h.row (by simp),h.kp.Cb hk,h.nw⟩
def Tf(i:Nat)(a':Act):Nat:=match a'.tmps.getD i undef with| .int _ n=>n.toNat|_=>0
def oneFr(w:World)(seq:Int)(W0:Nat)(v:Value)(k:Nat)(u:Nat->Value):Act:={ tmps:= #[.int .i64 seq,u 1,u 2,u 3,(.pointer (some ⟨w.heap.size,0,none⟩)),(.pointer (some ⟨w.heap.size+1,0,none⟩)),u 6,v,.int .i64 k,(.pointer (some ⟨W0,0,none⟩)),u 10,u 11,u 12,u 13,u 14,u 15,u 16,u 17,u 18,u 19,u 20,u 21,u 22,u 23,u 24,u 25,u 26,u 27,u 28,u 29,u 30,u 31,u 32,u 33,u 34,u 35,u 36,u 37,u 38,u 39,u 40,u 41,u 42,u 43,u 44,u 45,u 46,u 47,u 48,u 49,u 50,u 51,u 52,u 53,u 54,u 55,u 56,u 57,u 58,u 59,u 60,u 61,u 62,u 63,u 64,u 65,u 66,u 67,u 68,u 69,u 70,u 71,u 72,u 73,u 74,u 75,u 76,u 77,u 78,u 79,u 80,u 81,u 82,u 83,u 84,u 85,u 86,u 87,u 88,u 89,u 90,u 91,u 92,u 93],defers:= [] }
def oneJ(w:World)(seq:Int)(a b:Stm)(va vb:Value)(a':Act)(W:World):Prop:=∃(W0:Nat) (v:Value) (k:Nat) (u:Nat->Value),a'=oneFr w seq W0 v k u/\OneS w W seq a b va vb W0 v k/\k<=a.lines.length
theorem oneJ.mk{w W:World}{seq:Int}{a b:Stm}{va vb:Value}{a':Act}(W0:Nat)(v:Value)(k:Nat)(h:a'=oneFr w seq W0 v k (λi=>a'.tmps.getD i undef))(hs:OneS w W seq a b va vb W0 v k)(hk:k<=a.lines.length):oneJ w seq a b va vb a' W:=⟨W0,v,k,_,h,hs,hk⟩
def Nf(w:World)(seq:Int)(a b:Stm)(e:Ending)(w':World):Prop:=
 ∃v,e= .returned v/\w'.ownsRow 0 90 9 v (Ei seq a b).length ((Ei seq a b).flatMap Adj.cells)/\Fresh w w' v
theorem Ju{v:Int}(h:Jb v=true):0<=v/\v<=1000000000000000:=by
 have hd:Jb v=decide (0<=v/\v<=1000000000000000):=rfl;rw [hd] at h;simpa using h
theorem Rt{s:Stm}(h:s.Cz=true):(0<=s.total/\s.total<=1000000000000000)/\(0<=s.credit/\s.credit<=1000000000000000)/\(0<=s.min/\s.min<=1000000000000000):=by
 simp only [Stm.Cz,Cn,List.all_cons,List.all_nil,Bool.and_eq_true,Bool.and_true] at h;exact⟨Ju h.2.1,Ju h.2.2.1,Ju h.2.2.2⟩
theorem Rs{s:Stm}(h:s.Cz=true){k:Nat}{x:Ln}(hx:s.lines[k]?=some x):(0<=x.balance/\x.balance<=1000000000000000)/\(0<=x.interest/\x.interest<=1000000000000000):=by
 simp only [Stm.Cz,Bool.and_eq_true] at h;have:=List.all_eq_true.1 h.1 x (List.mem_of_getElem? hx);simp only [Ln.numsB,Cn,List.all_cons,List.all_nil,Bool.and_eq_true,Bool.and_true] at this;exact⟨Ju this.1,Ju this.2⟩
def onS(w:World)(a b:Stm)(w':World):Prop:=w'.cell? ⟨w.heap.size,0,none⟩=some (.int .i64 a.cycle)/\w'.cell? ⟨w.heap.size,5,none⟩=some (.int .i64 a.total)/\w'.cell? ⟨w.heap.size,6,none⟩=some (.int .i64 a.credit)/\w'.cell? ⟨w.heap.size,7,none⟩=some (.int .i64 a.min)/\w'.cell? ⟨w.heap.size,8,none⟩=some (.bool a.grace)/\w'.cell? ⟨w.heap.size+1,5,none⟩=some (.int .i64 b.total)/\w'.cell? ⟨w.heap.size+1,6,none⟩=some (.int .i64 b.credit)/\w'.cell? ⟨w.heap.size+1,7,none⟩=some (.int .i64 b.min)/\w'.cell? ⟨w.heap.size+1,8,none⟩=some (.bool b.grace)
theorem onS.keep{w W W':World}{a b:Stm}(h:onS w a b W)(hk:K0 W W'):onS w a b W':=by
 obtain⟨h0,h1,h2,h3,h4,h5,h6,h7,h8⟩:=h;exact⟨(hk.cell (Ag h0) (by simp)).trans h0,(hk.cell (Ag h1) (by simp)).trans h1,(hk.cell (Ag h2) (by simp)).trans h2,(hk.cell (Ag h3) (by simp)).trans h3,(hk.cell (Ag h4) (by simp)).trans h4,(hk.cell (Ag h5) (by simp)).trans h5,(hk.cell (Ag h6) (by simp)).trans h6,(hk.cell (Ag h7) (by simp)).trans h7,(hk.cell (Ag h8) (by simp)).trans h8⟩
def onL(B g o g' o' k n ca cb:Nat)(xb xi xr yb yi yr:Int)(w':World):Prop:=
 w'.cell? ⟨B,4,none⟩=some (.slice (some ⟨g,o,none⟩) n ca)/\w'.cell? ⟨B+1,4,none⟩=some (.slice (some ⟨g',o',none⟩) n cb)/\w'.cell? ⟨g,o+k*3,none⟩=some (.int .i64 xb)/\w'.cell? ⟨g,o+k*3+1,none⟩=some (.int .i64 xi)/\w'.cell? ⟨g,o+k*3+2,none⟩=some (.int .i64 xr)/\
  w'.cell? ⟨g',o'+k*3,none⟩=some (.int .i64 yb)/\w'.cell? ⟨g',o'+k*3+1,none⟩=some (.int .i64 yi)/\w'.cell? ⟨g',o'+k*3+2,none⟩=some (.int .i64 yr)
theorem onL.keep{B g o g' o' k n ca cb:Nat}{xb xi xr yb yi yr:Int}{W W':World}(h:onL B g o g' o' k n ca cb xb xi xr yb yi yr W)(hk:K0 W W'):onL B g o g' o' k n ca cb xb xi xr yb yi yr W':=by
 exact j2L
theorem Sn{P:Program}{a:Act}{w:World}{Q:Exit->Act->World->Prop}{c rest:Code}(l:Nat)(J:Act->World->Prop)(M:Act->World->Nat)(hf:findLabel c l=some (Code.skip.seq rest))
  (round:∀a w,J a w->rest.wp P (Exit.jump l (λa' w'=>J a' w'/\M a' w'<M a w) Q) a w)
  (first:(∀a w,J a w->rest.wp P (Exit.jump l J Q) a w)->c.wp P (Exit.jump l J Q) a w):(Code.scope c).wp P Q a w:=by
 exact j2f
theorem Nt(w:World)(o:Obj){i:Nat}(h:i=w.heap.size):(w.alloc o).heap[i]?=some o:=by subst h;exact heap_alloc_new w o
theorem Ji(seq cy:Int)(X Y:List Ln):∀k,(Da seq cy X Y k).length<=k
 |0=>Nat.le_refl _
 |k+1=>by
  have ih:=Ji seq cy X Y k;simp only [Da,List.length_append]
  have:(match X[k]?,Y[k]? with|some x,some y=>Gf seq cy k x y|_,_=> []).length<=1:=by
   rcases X[k]? with _|x<;>rcases Y[k]? with _|y<;>simp
   unfold Gf;split<;>simp
  omega
theorem OneS.app{w W W':World}{seq:Int}{a b:Stm}{va vb:Value}{W0:Nat}{v v':Value}{k:Nat}{x:Adj}{m:Nat}{xs:List Value}(h:OneS w W seq a b va vb W0 v k)(hl:Da seq a.cycle a.lines b.lines (k+1)=Da seq a.cycle a.lines b.lines k++ [x])
  (hm:m=(Da seq a.cycle a.lines b.lines k).length+1) (hx:xs=(Da seq a.cycle a.lines b.lines k).flatMap Adj.cells++x.cells) (ho:W'.ownsRow 0 90 9 v' m xs) (hk:Keeps (λi=>v.ownBlock=some i) W W') (hf:v'.ownBlock=v.ownBlock\/∃g,v'.ownBlock=some g/\W.heap.size<=g):
  OneS w W' seq a b va vb W0 v' (k+1):=by
 have hbw:=lt_of_block h.bw;have n1:∀g,v.ownBlock=some g->w.heap.size+1<g:=λg hg=>by have:=h.nw g hg;have:=h.w0;omega
 refine⟨Ad h.ba hk (λe=>by have:=n1 _ e;omega),Ad h.bb hk (λe=>by have:=n1 _ e;omega),Ad h.bw hk (λe=>by have:=h.nw _ e;omega),h.w0, ?_,h.kp.trans (hk.mono λi _ e=>by right;have:=n1 _ e;omega),λg hg=> ?_⟩
 ·rw [hl];simp only [List.length_append,List.length_singleton,List.flatMap_append,List.flatMap_cons,List.flatMap_nil,List.append_nil];rw [<-hx,<-hm];exact ho
 ·rcases hf with e|⟨g',e,h'⟩
  ·exact h.nw g j0h
  ·exact j0z
theorem Wi(a b:Stm):Mo a b=true↔(b.total-a.total=0/\b.credit-a.credit=0/\b.min-a.min=0/\Kg a.grace b.grace=0):=by
 have hg:(a.grace==b.grace)=true↔Kg a.grace b.grace=0:=by cases a.grace<;>cases b.grace<;>decide
 simp only [Mo,Bool.and_eq_true,decide_eq_true_eq,hg]
 constructor
 ·rintro⟨⟨⟨h1,h2⟩,h3⟩,h4⟩;exact⟨by omega,by omega,by omega,h4⟩
 ·rintro⟨h1,h2,h3,h4⟩;exact⟨⟨⟨by omega,by omega⟩,by omega⟩,h4⟩
theorem Ady(seq:Int)(a b:Stm)(va vb:Value)(w:World)(hra:Reads w 3 va a.lines.length (a.lines.flatMap Ln.cells))(hrb:Reads w 3 vb b.lines.length (b.lines.flatMap Ln.cells))(hab:a.lines.length=b.lines.length)(hl:a.lines.length<=1000000)
  (hna:a.Cz=true) (hnb:b.Cz=true):
  Calls Tryz.prog 212 #[.int .i64 seq,a.val va,b.val vb] w (Nf w seq a b):=by
 obtain⟨i0,hi,hi0,hi1,hi2⟩:=info_parts Gu;simp only [Stm.val];have hba:=heap_alloc_new w (.cells (a.blk va) 60);have hbb:=heap_alloc_new (w.alloc (.cells (a.blk va) 60)) (.cells (b.blk vb) 60);rw [show(w.alloc (.cells (a.blk va) 60)).heap.size=w.heap.size+1 by simp] at hbb;have hba2:=Aq hba (.cells (b.blk vb) 60);have m0:=Rt hna;have m1:=Rt hnb;obtain⟨⟨ta0,ta1⟩,⟨ca0,ca1⟩,⟨ma0,ma1⟩⟩:=m0;obtain⟨⟨tb0,tb1⟩,⟨cb0,cb1⟩,⟨mb0,mb1⟩⟩:=m1;have w0:IntKind.i64.wrap (b.total-a.total)=b.total-a.total:=IntWalk.i64_in _ j6;have w1:IntKind.i64.wrap (b.credit-a.credit)=b.credit-a.credit:=IntWalk.i64_in _ j6;have w2:IntKind.i64.wrap (b.min-a.min)=b.min-a.min:=IntWalk.i64_in _ j6;clear ta0 ta1 ca0 ca1 ma0 ma1 tb0 tb1 cb0 cb1 mb0 mb1;obtain⟨Hra,Hrb,Hab,Hna,Hnb,Hba,Hba2,Hbb,Hi⟩:=hid9 hra hrb hab hna hnb hba hba2 hbb hi;clear hi hbb hba2 hba hnb hna hab hrb hra;obtain⟨Hi0,Hi1,Hi2⟩:=hid3 hi0 hi1 hi2;clear hi2 hi1 hi0;go_enter Tryz.func212,Tryz.ntmps212;go_wp2_with fail;refine Sn 0 (oneJ w seq a b va vb) (λa' _=>a.lines.length-Tf 8 a') rfl ?_ ?_
 ·rintro a' W ⟨W0,v,k,u,rfl,hs,hk⟩;unfold oneFr;have a0:W.cell? ⟨w.heap.size,0,none⟩=some (.int .i64 a.cycle):=Aa hs.ba 0;have a3:W.cell? ⟨w.heap.size,4,none⟩=some va:=Aa hs.ba 4;have b3:W.cell? ⟨w.heap.size+1,4,none⟩=some vb:=Aa hs.bb 4;have la:=lt_of_block hs.ba;have lb:=lt_of_block hs.bb;obtain⟨n,hn⟩:=eX a.lines.length;have hra:=Hra.o.keeps hs.kp (by simp);have hrb:=Hrb.o.keeps hs.kp (by simp);rw [<-Hab.o] at hrb;have hra':=hra;have hrb':=hrb;obtain⟨ada,ca,rfl,hca,_⟩:=hra';obtain⟨adb,cb,rfl,hcb,_⟩:=hrb';rw [hn] at hra hrb a3 b3 hca hcb hk hl hs;by_cases hkn:k<n
  ·obtain⟨x,hx⟩:=Au (L:=a.lines) (k:=k) j6;obtain⟨y,hy⟩:=Au (L:=b.lines) (k:=k) (by rw [<-Hab.o];omega);obtain⟨g,o,c,he,hc⟩:=hra.elem Ln.Aj hx j7;obtain⟨g',o',c',he',hc'⟩:=hrb.elem Ln.Aj hy j7;simp only [Value.slice.injEq,true_and] at he he';obtain⟨rfl,rfl⟩:=he;obtain⟨rfl,rfl⟩:=he';have bx:=Rs Hna.o hx;have bY:=Rs Hnb.o hy;have hlin:Da seq a.cycle a.lines b.lines (k+1)=Da seq a.cycle a.lines b.lines k++Gf seq a.cycle k x y:=by simp only [Da,hx,hy]
   obtain⟨xb,xi,xr⟩:=x;obtain⟨yb,yi,yr⟩:=y;obtain⟨⟨xb0,xb1⟩,⟨xi0,xi1⟩⟩:=bx;obtain⟨⟨yb0,yb1⟩,⟨yi0,yi1⟩⟩:=bY;simp only at xb0 xb1 xi0 xi1 yb0 yb1 yi0 yi1;have x0:W.cell? ⟨g,o+k*3,none⟩=some (.int .i64 xb):=hc 0 j7;have x1:W.cell? ⟨g,o+k*3+1,none⟩=some (.int .i64 xi):=hc 1 j7;have x2:W.cell? ⟨g,o+k*3+2,none⟩=some (.int .i64 xr):=hc 2 j7;have y0:W.cell? ⟨g',o'+k*3,none⟩=some (.int .i64 yb):=hc' 0 j7;have y1:W.cell? ⟨g',o'+k*3+1,none⟩=some (.int .i64 yi):=hc' 1 j7;have y2:W.cell? ⟨g',o'+k*3+2,none⟩=some (.int .i64 yr):=hc' 2 j7;have hkI:(k:Int)<(n:Int):=j8;have hk0:(0:Int)<=(k:Int):=j8;clear hc hc';obtain⟨Hs,Hra,Hrb,Hx,Hy,Hlin,Hn⟩:=hid7 hs hra hrb hx hy hlin hn;clear hn hlin hy hx hrb hra hs
   go_upto_region 5 with(fail)
   go_cut [10,11] (λs10 s11 wx=>∃X Y,s10=(.pointer (some ⟨X,0,none⟩))/\s11=(.pointer (some ⟨Y,0,none⟩))/\Hid (wx.heap[X]?=some (.cells #[.int .i64 xb,.int .i64 xi,.int .i64 xr] 160 (0,0)))/\Hid (wx.heap[Y]?=some (.cells #[.int .i64 yb,.int .i64 yi,.int .i64 yr] 160 (0,0)))/\Hid (OneS w wx seq a b (.slice (some ⟨g,o,none⟩) n ca) (.slice (some ⟨g',o',none⟩) n cb) W0 v k))
   case first=>
    refine Ak (onL w.heap.size g o g' o' k n ca cb xb xi xr yb yi yr) (.take 0 (.take 1 (.take 2 (.take 3 (.take 4 (.take 5 (.take 6 (.take 7 (.take 8 (.take 9 (.fork 10 (.move 11 (.move 12 (.move 13 .done))) 11 (.move 10 (.move 12 (.move 13 .done)))))))))))))) j9 j9 ?_ ?_
    ·refine⟨?_, ?_, ?_, ?_, ?_, ?_, ?_, ?_⟩<;>go_simp
    intro w3 hs3 hk3;have HS3:=Lib.hid hs3;clear hs3;have Hk3:=Lib.hid hk3;clear hk3
    repeat ((first|refine Bl rfl (by rfl) ?_|refine Be rfl (by rfl) ?_|(refine Bh (v:= ?_) rfl (by rfl) ?_ ?_;rotate_left;(· intro w' hSw;unfold onL at hSw;go_simp;(try with_reducible rfl));rotate_right));try simp only [aps])
    refine Dk ?_ ?_ HS3.o
    ·
     refine Ah rfl (λK hK=> ?_);go_simp;refine j0A ?_;clear hK K;refine jU ?_;refine jU ?_;refine jU ?_;refine js ?_;go_wp2_with fail;go_meet;exact⟨_,_,rfl,rfl,Lib.hid (Aq (heap_alloc_new _ _) _),Lib.hid (Nt _ _ (by simp)),Lib.hid (((Hs.o.keep Hk3.o).keep (Keeps.alloc _ _)).keep (Keeps.alloc _ _))⟩
    ·
     refine Ah rfl (λK hK=> ?_);go_simp;refine j0A ?_;clear hK K;refine jU ?_;refine jU ?_;refine jU ?_;refine js ?_;go_wp2_with fail;go_meet;exact⟨_,_,rfl,rfl,Lib.hid (Nt _ _ (by simp)),Lib.hid (Aq (heap_alloc_new _ _) _),Lib.hid (((Hs.o.keep Hk3.o).keep (Keeps.alloc _ _)).keep (Keeps.alloc _ _))⟩
   case rest=>
    obtain⟨X,Y,rfl,rfl,HX,HY,Hs5⟩:=hcut;have c0:=Aa HX.o 0;have c1:=Aa HX.o 1;have d0:=Aa HY.o 0;have d1:=Aa HY.o 1;have a0':World.cell? _ (⟨w.heap.size,0,none⟩:Addr)=some (.int .i64 a.cycle):=Aa Hs5.o.ba 0;have q0:IntKind.i64.wrap (yb-xb)=yb-xb:=IntWalk.i64_in _ j6;have q1:IntKind.i64.wrap (yi-xi)=yi-xi:=IntWalk.i64_in _ j6;have q2:IntKind.i64.wrap ((k:Int)+1)=(k:Int)+1:=IntWalk.i64_in _ j6;clear a0 a3 b3 x0 x1 x2 y0 y1 y2 xb0 xb1 xi0 xi1 yb0 yb1 yi0 yi1;have hlo:(Da seq a.cycle a.lines b.lines k).length<=k:=Ji _ _ _ _ _;by_cases e0:xb=yb
    ·by_cases e1:xi=yi
     ·subst e0 e1
      have hsame:OneS w wc seq a b (.slice (some ⟨g,o,none⟩) n ca) (.slice (some ⟨g',o',none⟩) n cb) W0 v (k+1):=by
       have h5:=Hs5.o;refine⟨h5.ba,h5.bb,h5.bw,h5.w0, ?_,h5.kp,h5.nw⟩;have e:Gf seq a.cycle k ⟨xb,xi,xr⟩ ⟨xb,xi,yr⟩= []:=by simp [Gf]
       rw [Hlin.o,e,List.append_nil];exact h5.row
      obtain⟨Hsame,Hlo⟩:=hid2 hsame hlo;clear hlo hsame;go_wp2_with fail;go_step3;go_wp2;exact Aw ⟨oneJ.mk W0 v (k+1) rfl (by rw [Hn.o];exact Hsame.o) jQ,by rw [Hn.o];simp [Tf];omega⟩
     ·subst e0;have q3:xb-xb=0:=Int.sub_self xb;have e1':(xi==yi)=false:=beq_eq_false_iff_ne.2 e1
      have hne:Gf seq a.cycle k ⟨xb,xi,xr⟩ ⟨xb,yi,yr⟩= [⟨seq,a.cycle,(k:Int)+1,xb-xb,yi-xi,0,0,0,0⟩]:=by
       unfold Gf;rw [if_neg (by first|exact λh=>e0 h.1|exact λh=>e1 h.2)]
      exact j2M
    ·have e0':(xb==yb)=false:=beq_eq_false_iff_ne.2 e0
     have hne:Gf seq a.cycle k ⟨xb,xi,xr⟩ ⟨yb,yi,yr⟩= [⟨seq,a.cycle,(k:Int)+1,yb-xb,yi-xi,0,0,0,0⟩]:=by
      unfold Gf;rw [if_neg (by first|exact λh=>e0 h.1|exact λh=>e1 h.2)]
     exact j2M
  ·obtain rfl:k=n:=by omega
   have c0:W.cell? ⟨W0,0,none⟩=some (.int .i64 seq):=Aa hs.bw 0;have c1:W.cell? ⟨W0,1,none⟩=some (.int .i64 a.cycle):=Aa hs.bw 1;have c2:W.cell? ⟨W0,2,none⟩=some (.int .i64 0):=Aa hs.bw 2;have c3:W.cell? ⟨W0,3,none⟩=some (.int .i64 0):=Aa hs.bw 3;have c4:W.cell? ⟨W0,4,none⟩=some (.int .i64 0):=Aa hs.bw 4;have c5:W.cell? ⟨W0,5,none⟩=some (.int .i64 (b.total-a.total)):=Aa hs.bw 5;have c6:W.cell? ⟨W0,6,none⟩=some (.int .i64 (b.credit-a.credit)):=Aa hs.bw 6;have c7:W.cell? ⟨W0,7,none⟩=some (.int .i64 (b.min-a.min)):=Aa hs.bw 7;have c8:W.cell? ⟨W0,8,none⟩=some (.int .i64 (Kg a.grace b.grace)):=Aa hs.bw 8;have hws:=Wi a b;have hend:Ei seq a b=Da seq a.cycle a.lines b.lines k++if Mo a b then [] else [Po seq a b]:=by unfold Ei;rw [hn]
   have hwa:Po seq a b=⟨seq,a.cycle,0,0,0,b.total-a.total,b.credit-a.credit,b.min-a.min,Kg a.grace b.grace⟩:=rfl;obtain⟨dt,hdt⟩:=eX (b.total-a.total);obtain⟨dc,hdc⟩:=eX (b.credit-a.credit);obtain⟨dm,hdm⟩:=eX (b.min-a.min);obtain⟨dg,hdg⟩:=eX (Kg a.grace b.grace);rw [hdt,hdc,hdm,hdg] at hws hwa;rw [hdt] at c5;rw [hdc] at c6;rw [hdm] at c7;rw [hdg] at c8;rw [hwa] at hend;have hlo:(Da seq a.cycle a.lines b.lines k).length<=k:=Ji _ _ _ _ _;have hrow:=hs.row;obtain⟨m,hm⟩:=eX ((Da seq a.cycle a.lines b.lines k).length);obtain⟨adv,cv,rfl,_,_⟩:=Ae hrow;rw [hm] at hlo hrow hs⊢;clear w0 w1 w2 hdt hdc hdm hdg hwa;by_cases z1:dt=0
   ·by_cases z2:dc=0
    ·by_cases z3:dm=0
     ·by_cases z4:dg=0
      ·subst z1 z2 z3 z4;rw [if_pos (hws.2 ⟨rfl,rfl,rfl,rfl⟩),List.append_nil] at hend;obtain⟨Hs,Hra,Hrb,Hn,Hws,Hend,Hm,Hrow⟩:=hid8 hs hra hrb hn hws hend hm hrow;clear hrow hm hend hws hn hrb hra hs;go_wp2_with fail;refine Bq ?_;go_ret;exact⟨_,rfl,by rw [Hend.o,Hm.o];exact Hrow.o,Hs.o.kp,λg hg=>by have:=Hs.o.nw g hg;have:=Hs.o.w0;omega⟩
      ·subst z1 z2 z3;rw [if_neg (λh=>z4 (hws.1 h).2.2.2)] at hend;exact j0B
     ·subst z1 z2;rw [if_neg (λh=>z3 (hws.1 h).2.2.1)] at hend;exact j0B
    ·subst z1;rw [if_neg (λh=>z2 (hws.1 h).2.1)] at hend;exact j0B
   ·rw [if_neg (λh=>z1 (hws.1 h).1)] at hend;exact j0B
 ·refine jz ?_;intro Hfirst
  go_upto_region 3 with(fail)
  go_cut [9] (λs9 wx=>∃W0,s9=(.pointer (some ⟨W0,0,none⟩))/\Hid (OneS w wx seq a b va vb W0 (.slice none 0 0) 0))
  case first=>
   refine Ak (onS w a b) (.take 0 (.take 1 (.take 2 (.take 3 (.take 4 (.take 5 (.take 6 (.take 7 (.take 8 (.take 9 (.take 10 (.take 11 (.take 12 (.take 13 (.take 14 (.take 15 (.take 16 (.take 17 (.take 18 (.take 19 (.take 20 (.take 21 (.take 22 (.take 23 (.move 24 (.move 25 .done)))))))))))))))))))))))))) j9 j9 ?_ ?_
   ·refine⟨?_, ?_, ?_, ?_, ?_, ?_, ?_, ?_, ?_⟩<;>go_simp
   intro w3 hs3 hk3;have HS3:=Lib.hid hs3;unfold onS at hs3;have Hk3:=Lib.hid hk3;clear hk3;refine j2N ?_;refine Ey (v:= ?_) rfl (by rfl) ?_ ?_ ?_ ?_ ?_
   rotate_left 3
   ·intro w' hSw;unfold onS at hSw;go_simp;(first|done|(constructor<;>with_reducible rfl)|with_reducible rfl)
   ·intro w' hSw;exact(Xe _ _ _)
   rotate_right 3
   try simp only [aps]
   refine j2N ?_;refine ja ?_;intro K hK;refine j0A ?_;clear hK K;refine jc ?_;refine ja ?_;intro K hK;refine j0A ?_;clear hK K;refine js ?_;go_wp2_with fail;go_meet;refine⟨_,rfl,Lib.hid ⟨Aq (Ad Hba2.o Hk3.o (by simp)) _,Aq (Ad Hbb.o Hk3.o (by simp)) _,heap_alloc_new _ _, ?_,World.ownsRow_nil _ _ _ _, ?_,by simp [Value.ownBlock]⟩⟩
   ·have:=Hk3.o.size;simp at this;omega
   ·exact(Keeps.Cb jf Hk3.o).Cb (Keeps.alloc _ _)
  case rest=>
   obtain⟨W0,rfl,hs⟩:=hcut;go_wp2_with fail;go_step3;rename_i hK;refine jB ?_;exact(oneJ.mk W0 (.slice none 0 0) 0 rfl hs.out (Nat.zero_le _))
def Jp(seq:Int):List SV->List SV->List Adj->Int×List Adj
 |a::A,b::B,acc=>if a.s.Cz&&b.s.Cz then Jp seq A B (acc++Ei seq a.s b.s) else(5, [])
 |_,_,acc=>(0,acc)
def Betw(seq:Int)(L M:List SV)(r:Int×List Adj):Prop:=((L.length=M.length/\Mm L M L.length)/\r=Jp seq L M [])\/(¬(L.length=M.length/\Mm L M L.length)/\r=(1, []))
def BetPost(w:World)(r:Int×List Adj)(e:Ending)(w':World):Prop:=
 ∃v,e= .returned (.tuple #[v,.int .i64 r.1])/\w'.ownsRow 0 90 9 v r.2.length (r.2.flatMap Adj.cells)/\Fresh w w' v
def SVs(w:World)(L:List SV):Prop:=∀x∈L,Reads w 3 x.v x.s.lines.length (x.s.lines.flatMap Ln.cells)/\x.s.lines.length<=1000
theorem SVs.keep{w w':World}{L:List SV}(h:SVs w L)(hk:K0 w w'):SVs w' L:=λx hx=>⟨(h x hx).1.keeps hk (by simp),(h x hx).2⟩
theorem Xv(seq:Int)(a b:Stm):(Ei seq a b).length<=a.lines.length+1:=by
 unfold Ei;have:=Ji seq a.cycle a.lines b.lines a.lines.length;simp only [List.length_append]
 split<;>simp<;>omega
theorem Ez(s:Stm)(v:Value)(w:World){r:Bool}(hr:Reads w 3 v s.lines.length (s.lines.flatMap Ln.cells))(hl:s.lines.length<=1000)(he:s.Cz=r):
  Calls Tryz.prog 211 #[.agg #[.int .i64 s.cycle,.int .i64 s.fr,.int .i64 s.te,.int .i64 s.due,v,.int .i64 s.total,.int .i64 s.credit,.int .i64 s.min,.bool s.grace]] w λe w'=>e= .returned (.bool r)/\K0 w w':=by
 have hr':=hr;obtain⟨ad,c,rfl,_⟩:=hr';subst he;exact Vn s ad c w hr j6
theorem adjOne_at(seq:Int)(a b:Stm)(va vb:Value)(w:World)(hra:Reads w 3 va a.lines.length (a.lines.flatMap Ln.cells))(hrb:Reads w 3 vb b.lines.length (b.lines.flatMap Ln.cells))(hab:a.lines.length=b.lines.length)(hl:a.lines.length<=1000)
  (hna:a.Cz=true) (hnb:b.Cz=true):
  Calls Tryz.prog 212 #[.int .i64 seq,.agg #[.int .i64 a.cycle,.int .i64 a.fr,.int .i64 a.te,.int .i64 a.due,va,.int .i64 a.total,.int .i64 a.credit,.int .i64 a.min,.bool a.grace],.agg #[.int .i64 b.cycle,.int .i64 b.fr,.int .i64 b.te,.int .i64 b.due,vb,.int .i64 b.total,.int .i64 b.credit,.int .i64 b.min,.bool b.grace]] w (Nf w seq a b):=
 Ady seq a b va vb w hra hrb hab (by omega) hna hnb
theorem Yg{α:Type}{L:List α}{k:Nat}{x:α}(h:L[k]?=some x):L.drop k=x::L.drop (k+1):=by
 have hk:=Dl h;rw [List.drop_eq_getElem_cons hk];rw [List.getElem?_eq_getElem hk] at h;rw [Option.some.inj h]
def bwS(A g o k:Nat)(x y:Stm)(vx vy:Value)(w':World):Prop:=
 w'.cell? ⟨A,0,none⟩=some (.int .i64 x.cycle)/\w'.cell? ⟨A,1,none⟩=some (.int .i64 x.fr)/\w'.cell? ⟨A,2,none⟩=some (.int .i64 x.te)/\w'.cell? ⟨A,3,none⟩=some (.int .i64 x.due)/\w'.cell? ⟨A,4,none⟩=some (vx)/\w'.cell? ⟨A,5,none⟩=some (.int .i64 x.total)/\w'.cell? ⟨A,6,none⟩=some (.int .i64 x.credit)/\w'.cell? ⟨A,7,none⟩=some (.int .i64 x.min)/\w'.cell? ⟨A,8,none⟩=some (.bool x.grace)/\w'.cell? ⟨g,o+k*9,none⟩=some (.int .i64 y.cycle)/\w'.cell? ⟨g,o+k*9+1,none⟩=some (.int .i64 y.fr)/\w'.cell? ⟨g,o+k*9+2,none⟩=some (.int .i64 y.te)/\w'.cell? ⟨g,o+k*9+3,none⟩=some (.int .i64 y.due)/\w'.cell? ⟨g,o+k*9+4,none⟩=some (vy)/\w'.cell? ⟨g,o+k*9+5,none⟩=some (.int .i64 y.total)/\w'.cell? ⟨g,o+k*9+6,none⟩=some (.int .i64 y.credit)/\w'.cell? ⟨g,o+k*9+7,none⟩=some (.int .i64 y.min)/\w'.cell? ⟨g,o+k*9+8,none⟩=some (.bool y.grace)
theorem bwS.keep{A g o k:Nat}{x y:Stm}{vx vy:Value}{W W':World}(h:bwS A g o k x y vx vy W)(hk:K0 W W'):bwS A g o k x y vx vy W':=by
 obtain⟨h0,h1,h2,h3,h4,h5,h6,h7,h8,h9,h10,h11,h12,h13,h14,h15,h16,h17⟩:=h;exact⟨(hk.cell (Ag h0) (by simp)).trans h0,(hk.cell (Ag h1) (by simp)).trans h1,(hk.cell (Ag h2) (by simp)).trans h2,(hk.cell (Ag h3) (by simp)).trans h3,(hk.cell (Ag h4) (by simp)).trans h4,(hk.cell (Ag h5) (by simp)).trans h5,(hk.cell (Ag h6) (by simp)).trans h6,(hk.cell (Ag h7) (by simp)).trans h7,(hk.cell (Ag h8) (by simp)).trans h8,(hk.cell (Ag h9) (by simp)).trans h9,(hk.cell (Ag h10) (by simp)).trans h10,(hk.cell (Ag h11) (by simp)).trans h11,(hk.cell (Ag h12) (by simp)).trans h12,(hk.cell (Ag h13) (by simp)).trans h13,(hk.cell (Ag h14) (by simp)).trans h14,(hk.cell (Ag h15) (by simp)).trans h15,(hk.cell (Ag h16) (by simp)).trans h16,(hk.cell (Ag h17) (by simp)).trans h17⟩
theorem bwS.keep2{A g o k:Nat}{x y:Stm}{vx vy:Value}{W W':World}{T:Nat->Prop}(h:bwS A g o k x y vx vy W)(hk:Keeps T W W')(hA:¬T A)(hg:¬T g):bwS A g o k x y vx vy W':=by
 obtain⟨h0,h1,h2,h3,h4,h5,h6,h7,h8,h9,h10,h11,h12,h13,h14,h15,h16,h17⟩:=h;exact⟨(hk.cell (Ag h0) hA).trans h0,(hk.cell (Ag h1) hA).trans h1,(hk.cell (Ag h2) hA).trans h2,(hk.cell (Ag h3) hA).trans h3,(hk.cell (Ag h4) hA).trans h4,(hk.cell (Ag h5) hA).trans h5,(hk.cell (Ag h6) hA).trans h6,(hk.cell (Ag h7) hA).trans h7,(hk.cell (Ag h8) hA).trans h8,(hk.cell (Ag h9) hg).trans h9,(hk.cell (Ag h10) hg).trans h10,(hk.cell (Ag h11) hg).trans h11,(hk.cell (Ag h12) hg).trans h12,(hk.cell (Ag h13) hg).trans h13,(hk.cell (Ag h14) hg).trans h14,(hk.cell (Ag h15) hg).trans h15,(hk.cell (Ag h16) hg).trans h16,(hk.cell (Ag h17) hg).trans h17⟩
theorem Acb{g o k:Nat}{y:Stm}{v:Value}{wr:World}(y0:wr.cell? ⟨g,o+k*9,none⟩=some (.int .i64 y.cycle))(y1:wr.cell? ⟨g,o+k*9+1,none⟩=some (.int .i64 y.fr))(y2:wr.cell? ⟨g,o+k*9+2,none⟩=some (.int .i64 y.te))(y3:wr.cell? ⟨g,o+k*9+3,none⟩=some (.int .i64 y.due))(y4:wr.cell? ⟨g,o+k*9+4,none⟩=some (v))(y5:wr.cell? ⟨g,o+k*9+5,none⟩=some (.int .i64 y.total))(y6:wr.cell? ⟨g,o+k*9+6,none⟩=some (.int .i64 y.credit))(y7:wr.cell? ⟨g,o+k*9+7,none⟩=some (.int .i64 y.min))(y8:wr.cell? ⟨g,o+k*9+8,none⟩=some (.bool y.grace)):
  ∀w',K0 wr w'->w'.cell? ⟨g,o+k*9,none⟩=some (.int .i64 y.cycle)/\w'.cell? ⟨g,o+k*9+1,none⟩=some (.int .i64 y.fr)/\w'.cell? ⟨g,o+k*9+2,none⟩=some (.int .i64 y.te)/\w'.cell? ⟨g,o+k*9+3,none⟩=some (.int .i64 y.due)/\w'.cell? ⟨g,o+k*9+4,none⟩=some (v)/\w'.cell? ⟨g,o+k*9+5,none⟩=some (.int .i64 y.total)/\w'.cell? ⟨g,o+k*9+6,none⟩=some (.int .i64 y.credit)/\w'.cell? ⟨g,o+k*9+7,none⟩=some (.int .i64 y.min)/\w'.cell? ⟨g,o+k*9+8,none⟩=some (.bool y.grace):=λw' hk=>⟨(hk.cell (Ag y0) (by simp)).trans y0,(hk.cell (Ag y1) (by simp)).trans y1,(hk.cell (Ag y2) (by simp)).trans y2,(hk.cell (Ag y3) (by simp)).trans y3,(hk.cell (Ag y4) (by simp)).trans y4,(hk.cell (Ag y5) (by simp)).trans y5,(hk.cell (Ag y6) (by simp)).trans y6,(hk.cell (Ag y7) (by simp)).trans y7,(hk.cell (Ag y8) (by simp)).trans y8⟩
theorem Qb{w:World}{base:Nat}{e:TypeId}{size:Nat}{v:Value}{n:Nat}{xs:List Value}(h:w.ownsRow base e size v n xs){g:Nat}(hv:v.ownBlock=some g):g<w.heap.size:=by
 exact j2g
theorem Vp(seq:Int)(ad1 ad2:Option Addr)(c1 c2:Nat)(L M:List SV)(w:World)(h1:Reads w 9 (.slice ad1 L.length c1) L.length (L.flatMap SV.cells))(h2:Reads w 9 (.slice ad2 M.length c2) M.length (M.flatMap SV.cells))
  (hl:L.length<=1000) (hm:M.length<=1000) (hsl:SVs w L) (hsm:SVs w M) (r:Int×List Adj) (hB:Betw seq L M r):
  Calls Tryz.prog 175 #[.int .i64 seq,.slice ad1 L.length c1,.slice ad2 M.length c2] w (BetPost w r):=by
 obtain⟨i0,hi,hi0,hi1,hi2⟩:=info_parts Gu;obtain⟨n,hn⟩:=eX L.length;obtain⟨m,hm'⟩:=eX M.length;rw [hn] at hl;rw [hm'] at hm;have heq:=λW (hW:K0 w W)=>Zt ad1 ad2 c1 c2 L M W (h1.keeps hW (by simp)) (h2.keeps hW (by simp)) j6 j6;rw [hn] at h1;rw [hm'] at h2;rw [hn,hm'] at heq;unfold Betw at hB;rw [hn,hm'] at hB;rw [hn,hm'];rcases hB with⟨⟨hnm,hal⟩,hb⟩|⟨hal,hb⟩
 ·subst hnm;obtain⟨H1,H2,Hn,Hm',Hsl,Hsm,Heq,Hal,Hi⟩:=hid9 h1 h2 hn hm' hsl hsm heq hal hi;clear hi hal heq hsm hsl hm' hn h2 h1;obtain⟨Hi0,Hi1,Hi2⟩:=hid3 hi0 hi1 hi2;clear hi2 hi1 hi0;go_enter Tryz.func175,Tryz.ntmps175;go_wp2_with fail;refine(Heq.o _ (Keeps.refl _ _)).mono ?_;rintro e w1 ⟨b,rfl,hr,hk1⟩;obtain rfl:b=true:=hr.2 ⟨(by first|trivial|rfl),Hal.o⟩;clear hr;have Hk1:=Lib.hid hk1;clear hk1;go_wp2_with fail
  go_loopw [8,17] (λv c wr=>∃(k:Nat) (acc:List Adj) (adv:Option Addr) (cv:Nat),k<=n/\c= .int .i64 (k:Nat)/\v= .slice adv acc.length cv/\wr.ownsRow 0 90 9 (.slice adv acc.length cv) acc.length (acc.flatMap Adj.cells)/\Fresh w wr (.slice adv acc.length cv)/\acc.length<=k*1001/\Jp seq L M []=Jp seq (L.drop k) (M.drop k) acc) (λ_ c _=>n-(intOf c).toNat)
  case atStart=>exact⟨0, [],none,0,Nat.zero_le _,rfl,rfl,World.ownsRow_nil _ _ _ _,⟨Hk1.o,by simp [Value.ownBlock]⟩,Nat.zero_le _,rfl⟩
  case round=>
   obtain⟨k,acc,adv,cv,hkn,rfl,rfl,hrow,hfr,hac,hbet⟩:=hrel;obtain⟨q,hq⟩:=eX acc.length;rw [hq] at hrow hfr hac⊢;by_cases hlt:k<n
   ·obtain⟨x,hx⟩:=Au (L:=L) (k:=k) jP;obtain⟨y,hy⟩:=Au (L:=M) (k:=k) (by rw [Hm'.o];exact hlt);obtain⟨g,o,c,he,hc⟩:=(H1.o.keeps hfr.1 (by simp)).elem SV.Aj hx j7;obtain⟨g',o',c',he',hc'⟩:=(H2.o.keeps hfr.1 (by simp)).elem SV.Aj hy j7;simp only [Value.slice.injEq,true_and] at he he';obtain⟨rfl,rfl⟩:=he;obtain⟨rfl,rfl⟩:=he';refine j2O ?_;intro x0 x1 x2 x3 x4 x5 x6 x7 x8;have y0:wr.cell? ⟨g',o'+k*9,none⟩=some (.int .i64 y.s.cycle):=hc' 0 j7;have y1:wr.cell? ⟨g',o'+k*9+1,none⟩=some (.int .i64 y.s.fr):=hc' 1 j7;have y2:wr.cell? ⟨g',o'+k*9+2,none⟩=some (.int .i64 y.s.te):=hc' 2 j7;have y3:wr.cell? ⟨g',o'+k*9+3,none⟩=some (.int .i64 y.s.due):=hc' 3 j7;have y4:wr.cell? ⟨g',o'+k*9+4,none⟩=some y.v:=hc' 4 j7;have y5:wr.cell? ⟨g',o'+k*9+5,none⟩=some (.int .i64 y.s.total):=hc' 5 j7;have y6:wr.cell? ⟨g',o'+k*9+6,none⟩=some (.int .i64 y.s.credit):=hc' 6 j7;have y7:wr.cell? ⟨g',o'+k*9+7,none⟩=some (.int .i64 y.s.min):=hc' 7 j7;have y8:wr.cell? ⟨g',o'+k*9+8,none⟩=some (.bool y.s.grace):=hc' 8 j7;have hgl:=Ag x0;have hgl':=Ag y0;clear hc hc';have hsx:=Hsl.o x (List.mem_of_getElem? hx);have hsy:=Hsm.o y (List.mem_of_getElem? hy);have hab:=Hal.o k x y hlt hx hy;have hdL:L.drop k=x::L.drop (k+1):=Yg hx;have hdM:M.drop k=y::M.drop (k+1):=Yg hy;rw [hdL,hdM] at hbet;have hstep:Jp seq (x::L.drop (k+1)) (y::M.drop (k+1)) acc=if x.s.Cz&&y.s.Cz then Jp seq (L.drop (k+1)) (M.drop (k+1)) (acc++Ei seq x.s y.s) else(5, []):=rfl;rw [hstep] at hbet;have hRx:=(hsx.1.keeps hfr.1 (by simp));have hRy:=(hsy.1.keeps hfr.1 (by simp));have hlx:=hsx.2;have hly:=hsy.2
    have hxy:x.s.lines.length=y.s.lines.length:=by
     simp only [Gt,Bool.and_eq_true,decide_eq_true_eq] at hab;exact hab.2
    clear hsx hsy hab hstep hdL hdM;have hkI:(k:Int)<(n:Int):=j8;obtain⟨xs,adx,cx⟩:=x;obtain⟨ys,ady,cy⟩:=y;simp only [SV.v] at x4 y4 hRx hRy hbet hlx hly hxy;obtain⟨lx,hlx'⟩:=eX xs.lines.length;rcases nx:xs.Cz with _|_
    ·rw [nx] at hbet;have hbet':r=(5, []):=by rw [hb];exact hbet
     subst hbet';obtain⟨Hx,Hy,Hrow,Hfr,Hq,Hbet,HRx,HRy,Nx⟩:=hid9 hx hy hrow hfr hq hbet hRx hRy nx;clear nx hRy hRx hbet hq hfr hrow hy hx;obtain⟨Hxy,Hb,Hlx'⟩:=hid3 hxy hb hlx';clear hlx' hb hxy
     go_wp2_with (go_at_call 211;((with_reducible refine(Ez xs _ _ (HRx.o.keeps (S:=λ_=>False) jf (by simp)) hlx Nx.o).mono ?_);rintro e w3 ⟨rfl,hk3⟩;have Hk3:=Lib.hid hk3;clear hk3))
     go_ret2
     exact⟨_,rfl,World.ownsRow_nil _ _ _ _,(Hfr.o.1.Cb jf).Cb Hk3.o,by simp [Value.ownBlock]⟩
    ·rcases ny:ys.Cz with _|_
     ·rw [nx,ny] at hbet;have hbet':r=(5, []):=by rw [hb];exact hbet
      subst hbet';have hyc:=Acb y0 y1 y2 y3 y4 y5 y6 y7 y8;obtain⟨Hx,Hy,Hrow,Hfr,Hq,Hbet,HRx,HRy,Nx⟩:=hid9 hx hy hrow hfr hq hbet hRx hRy nx;clear nx hRy hRx hbet hq hfr hrow hy hx;obtain⟨Ny,Hxy,Hb,Hlx',Hyc⟩:=hid5 ny hxy hb hlx' hyc;clear hyc hlx' hb hxy ny
      go_wp2_with (go_at_call 211;((with_reducible refine(Ez xs _ _ (HRx.o.keeps (S:=λ_=>False) jf (by simp)) hlx Nx.o).mono ?_);rintro e w3 ⟨rfl,hk3⟩;have Hk3:=Lib.hid hk3;clear hk3;obtain⟨z0,z1,z2,z3,z4,z5,z6,z7,z8⟩:=Hyc.o _ (Keeps.Cb jf Hk3.o)))
      go_wp2_with (go_at_call 211;((with_reducible refine(Ez ys _ _ (HRy.o.keeps (S:=λ_=>False) (Keeps.Cb jf Hk3.o) (by simp)) hly Ny.o).mono ?_);rintro e w4 ⟨rfl,hk4⟩;have Hk4:=Lib.hid hk4;clear hk4))
      go_ret2
      exact⟨_,rfl,World.ownsRow_nil _ _ _ _,((Hfr.o.1.Cb jf).Cb Hk3.o).Cb Hk4.o,by simp [Value.ownBlock]⟩
     ·rw [nx,ny] at hbet;have hbet':r=Jp seq (L.drop (k+1)) (M.drop (k+1)) (acc++Ei seq xs ys):=by rw [hb];exact hbet
      have hyc:=Acb y0 y1 y2 y3 y4 y5 y6 y7 y8;have hbox:=heap_alloc_new wr (.cells #[.int .i64 xs.cycle,.int .i64 xs.fr,.int .i64 xs.te,.int .i64 xs.due,.slice adx xs.lines.length cx,.int .i64 xs.total,.int .i64 xs.credit,.int .i64 xs.min,.bool xs.grace] 60);have hown0:∀i,(Value.slice adv q cv).ownBlock=some i->i<wr.heap.size/\w.heap.size<=i:=λi e=>⟨Qb hrow e,hfr.2 i e⟩
      have hg0:g'<w.heap.size:=by
       obtain⟨i,e,hi⟩:=H2.o.lt (by intro e;have:=Df SV.Aj M;rw [e,Hm'.o] at this;simp at this;omega);simp only [Value.ownBlock,Option.some.injEq] at e;omega
      obtain⟨Hx,Hy,Hrow,Hfr,Hq,Hbet,Hbet',HRx,HRy⟩:=hid9 hx hy hrow hfr hq hbet hbet' hRx hRy;clear hRy hRx hbet' hbet hq hfr hrow hy hx;obtain⟨Nx,Ny,Hxy,Hb,Hlx',Hyc,Hbox,Hown0⟩:=hid8 nx ny hxy hb hlx' hyc hbox hown0;clear hown0 hbox hyc hlx' hb hxy ny nx
      go_wp2_with (go_at_call 211;((with_reducible refine(Ez xs _ _ (HRx.o.keeps (S:=λ_=>False) jf (by simp)) hlx Nx.o).mono ?_);rintro e w3 ⟨rfl,hk3⟩;have Hk3:=Lib.hid hk3;clear hk3;obtain⟨z0,z1,z2,z3,z4,z5,z6,z7,z8⟩:=Hyc.o _ (Keeps.Cb jf Hk3.o)))
      go_wp2_with (go_at_call 211;((with_reducible refine(Ez ys _ _ (HRy.o.keeps (S:=λ_=>False) (Keeps.Cb jf Hk3.o) (by simp)) hly Ny.o).mono ?_);rintro e w4 ⟨rfl,hk4⟩;have Hk4:=Lib.hid hk4;clear hk4))
      have hkA:K0 wr w4:=(Keeps.Cb jf Hk3.o).Cb Hk4.o
      have hs4:bwS wr.heap.size g' o' k xs ys (.slice adx xs.lines.length cx) (.slice ady ys.lines.length cy) w4:=by
       have hb4:=Ad (Ad Hbox.o Hk3.o (by simp)) Hk4.o (by simp);obtain⟨t0,t1,t2,t3,t4,t5,t6,t7,t8⟩:=Hyc.o _ hkA;exact⟨Aa hb4 0,Aa hb4 1,Aa hb4 2,Aa hb4 3,Aa hb4 4,Aa hb4 5,Aa hb4 6,Aa hb4 7,Aa hb4 8,t0,t1,t2,t3,t4,t5,t6,t7,t8⟩
      obtain⟨HkA,Hs4⟩:=hid2 hkA hs4;clear hs4 hkA;clear z0 z1 z2 z3 z4 z5 z6 z7 z8 y0 y1 y2 y3 y4 y5 y6 y7 y8 x0 x1 x2 x3 x4 x5 x6 x7 x8;refine Ak (bwS wr.heap.size g' o' k xs ys (.slice adx xs.lines.length cx) (.slice ady ys.lines.length cy)) (.take 0 (.take 1 (.take 2 (.take 3 (.take 4 (.take 5 (.take 6 (.move 7 (.move 8 (.take 9 .done)))))))))) j9 j9 ?_ ?_
      ·exact Hs4.o.keep (Keeps.drew _)
      intro w5 hs5 hk5;have hkB:K0 wr w5:=HkA.o.Cb hk5;obtain⟨Hs5,HkB⟩:=hid2 hs5 hkB;clear hkB hs5;clear hk5;refine j1e ?_;refine ja ?_;intro K hK
      go_at_call 212
      ((with_reducible refine(adjOne_at seq xs ys _ _ _ (HRx.o.keeps HkB.o (by simp)) (HRy.o.keeps HkB.o (by simp)) Hxy.o hlx Nx.o Ny.o).mono ?_);rintro e w6 ⟨v6,rfl,hrow6,hfr6⟩;dsimp only)
      refine hK.out _ _ (by exact Hs5.o.keep hfr6.1) ?_;clear hK K;refine jc ?_;obtain⟨Hrow6,Hfr6⟩:=hid2 hrow6 hfr6;clear hfr6 hrow6;refine j1e ?_;have hol:=Xv seq xs ys;obtain⟨ad6,c6,rfl,_,_⟩:=Ae Hrow6.o;refine Ah rfl (λK hK=> ?_);refine Ca rfl (.tmp 33) (.tmp 40) 85 rfl 0 90 i0 _ 9 72 Tryz.underlying85 Hi.o Hi0.o Hi1.o Hi2.o rfl j7 (.slice adv q cv) q _ rfl ((Hrow.o.of_keeps HkB.o).of_keeps Hfr6.o.1) _ _ _ rfl (Reads.Bb Hrow6.o) (Adj.one _) jd j6 (Nat.zero_le _) ?_;intro v7 w7 hown hk7 hf7;have hk7':Keeps (λi=>(Value.slice adv q cv).ownBlock=some i) wr w7:=(HkB.o.trans (Hfr6.o.1.mono (by simp))).mono (λ_ _ h=>h.elim)|>.trans (hk7.mono λi _ e=> .inl e)
      refine hK.out _ _ (by exact(Hs5.o.keep Hfr6.o.1).keep2 hk7 (λe=>by have:=(Hown0.o _ e).1;omega) (λe=>by have:=(Hown0.o _ e).2;omega)) ?_;clear hK K;refine jc ?_
      have hfr7:Fresh w w7 v7:=by
       refine⟨Hfr.o.1.trans (hk7'.mono λi _ e=> .inr (Hown0.o i e).2),λi e=> ?_⟩;rcases hf7 with e'|⟨i',e',h'⟩
       ·exact(Hown0.o i (by rw [<-e'];exact e)).2
       ·rw [e'] at e;simp only [Option.some.injEq] at e;have:=Hfr.o.1.size;have:=HkB.o.size;have:=Hfr6.o.1.size;omega
      obtain⟨ad7,c7,rfl,_,_⟩:=Ae hown
      have hown':w7.ownsRow 0 90 9 (.slice ad7 (acc++Ei seq xs ys).length c7) (acc++Ei seq xs ys).length ((acc++Ei seq xs ys).flatMap Adj.cells):=by
       simp only [List.length_append,Hq.o,List.flatMap_append];exact hown
      have hlen:(acc++Ei seq xs ys).length=q+(Ei seq xs ys).length:=by rw [List.length_append,Hq.o]
      rw [<-hlen] at hfr7⊢;obtain⟨Hfr7,Hown',Hlen⟩:=hid3 hfr7 hown' hlen;clear hlen hown' hfr7;clear hk7' hf7 hown hk7;refine j1e ?_;refine Ao ?_;go_wp2_with fail;go_roundw
      case rel=>exact⟨k+1,acc++Ei seq xs ys,ad7,c7,by omega,by go_num,by simp,Hown'.o,Hfr7.o,by rw [Hlen.o];omega,by rw [<-Hb.o];exact Hbet'.o⟩
      case measure=>simp [intOf];omega
   ·obtain rfl:k=n:=by omega
    have hr0:r=(0,acc):=by
     rw [hb,hbet,List.drop_eq_nil_of_le j1f];rfl
    subst hr0;obtain⟨Hrow,Hfr,Hq,Hbet,Hb⟩:=hid5 hrow hfr hq hbet hb;clear hb hbet hq hfr hrow;go_wp2_with fail
    go_ret2
    exact⟨_,rfl,by rw [Hq.o];exact Hrow.o,Hfr.o⟩
 ·subst hb;obtain⟨H1,H2,Hn,Hm',Hsl,Hsm,Heq,Hal,Hi⟩:=hid9 h1 h2 hn hm' hsl hsm heq hal hi;clear hi hal heq hsm hsl hm' hn h2 h1;obtain⟨Hi0,Hi1,Hi2⟩:=hid3 hi0 hi1 hi2;clear hi2 hi1 hi0;go_enter Tryz.func175,Tryz.ntmps175;go_wp2_with fail;refine(Heq.o _ (Keeps.refl _ _)).mono ?_;rintro e w1 ⟨b,rfl,hr,hk1⟩
  obtain rfl:b=false:=by
   cases b with
   |false=>rfl
   |true=>exact absurd (hr.1 rfl) Hal.o
  clear hr;have Hk1:=Lib.hid hk1;clear hk1;go_wp2_with fail
  go_ret2
  exact⟨_,rfl,World.ownsRow_nil _ _ _ _,Hk1.o,by simp [Value.ownBlock]⟩
end Go.Proofs.YtgbgmadkmabeeaaGreat
