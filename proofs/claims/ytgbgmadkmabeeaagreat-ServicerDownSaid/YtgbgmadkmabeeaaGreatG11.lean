/- Part 11 of what the laws of this seat share: walks of functions, and plain laws. -/
import Derived.Deep.DeepCutAuto
import Derived.Test.YtgbgmadkmabeeaaGreatG2
import Derived.Test.YtgbgmadkmabeeaaGreatG9
import Derived.Test.YtgbgmadkmabeeaaGreatG10
set_option maxRecDepth 100000
set_option maxHeartbeats 3200000
namespace Go.Proofs.YtgbgmadkmabeeaaGreat
open Go.RowKit
structure Ps where
 bal:List Int
 cr:Int
 du:Int
def Ps.val(p:Ps)(v:Value):Value:= .agg #[v,.int .i64 p.cr,.int .i64 p.du]
def sumI:List Int->Int
 | []=>0
 |x::L=>x+sumI L
theorem Aan(A B:List Int):sumI (A++B)=sumI A+sumI B:=by
 induction A with
 |nil=>simp [sumI]
 |cons x A ih=>simp only [List.cons_append,sumI,ih];omega
theorem sumI_snoc{L:List Int}{k:Nat}{x:Int}(h:L[k]?=some x):sumI (L.take (k+1))=sumI (L.take k)+x:=by rw [take_snoc' h,Aan];simp [sumI]
theorem Rn{L:List Int}(h:L.all Bt=true):0<=sumI L:=by
 induction L with
 |nil=>exact Int.le_refl _
 |cons x L ih=>
  simp only [List.all_cons,Bool.and_eq_true] at h;have:=ih h.2;have:=(Bo x).1 h.1;simp only [sumI];omega
def scanB(L:List Int):Bool:=L.all Bt&&Bt (sumI L)
theorem scan_bad1{L:List Int}{k:Nat}{x:Int}(h:L[k]?=some x)(hx:Bt x=false):scanB L=false:=by
 have:L.all Bt=false:=by
  rw [Bool.eq_false_iff];intro hh;have:=List.all_eq_true.1 hh x (List.mem_of_getElem? h);rw [hx] at this;cases this
 unfold scanB;rw [this];rfl
theorem scan_bad2{L:List Int}{k:Nat}(hk:1000000000000000<sumI (L.take k)):scanB L=false:=by
 rcases ha:L.all Bt with _|_
 ·unfold scanB;rw [ha];rfl
 ·have hd:(L.drop k).all Bt=true:=List.all_eq_true.2 λx hx=>List.all_eq_true.1 ha x (List.mem_of_mem_drop hx);have h1:=Rn hd;have h2:sumI L=sumI (L.take k)+sumI (L.drop k):=by rw [<-Aan,List.take_append_drop]
  unfold scanB;rw [show Bt (sumI L)=false by simp [Bt];omega];simp
def Ps.Bj(p:Ps):Bool:=scanB p.bal&&(decide (1<=p.bal.length)&&(decide (p.bal.length<=8)&&(Bt p.cr&&(Bt p.du&&(decide (p.cr=0)||decide (sumI p.bal=0))))))
theorem Ab6(v:Int)(w:World):Calls Tryz.prog 241 #[.int .i64 v] w λe w'=>e= .returned (.bool (Bt v))/\w=w':=by
 by_cases h1:v<0
 ·have hf:Bt v=false:=by simp [Bt];omega
  have h1':¬0<=v:=j8;exact j1j
 ·by_cases h2:1000000000000000<v
  ·have hf:Bt v=false:=by simp [Bt];omega
   have hd:decide (v<=1000000000000000)=false:=by rw [decide_eq_false_iff_not];omega
   have h1':0<=v:=j8;exact j1j
  ·have hf:Bt v=true:=by simp [Bt];omega
   have h1':0<=v:=j8;exact j1j
theorem Ce{v:Int}{b:Bool}(h:Bt v=b)(w:World):Calls Tryz.prog 241 #[.int .i64 v] w λe w'=>e= .returned (.bool b)/\w=w':=by subst h;exact Ab6 v w
theorem Fq(L:List Int)(cr du:Int)(ad:Option Addr)(cap n:Nat)(w:World)(hr:Reads w 1 (.slice ad n cap) n (L.flatMap i64c))(hN:L.length=n)(hl:n<=1000):
  Calls Tryz.prog 204 #[.agg #[.slice ad n cap,.int .i64 cr,.int .i64 du]] w λe w'=>e= .returned (.bool (Ps.Bj ⟨L,cr,du⟩))/\K0 w w':=by
 obtain⟨z,hz⟩:=eX (Ps.Bj ⟨L,cr,du⟩);rw [hz];refine j0j ?_;intro hbx;obtain⟨Hr,Hz,Hbx⟩:=hid3 hr hz hbx;clear hbx hz hr;go_enter Tryz.func204,Tryz.ntmps204;go_wp2
 go_loopw [3,9] (λx y wx=>∃(i:Nat) (s:Int),x= .int .i64 s/\y= .int .i64 (i:Nat)/\i<=n/\sumI (L.take i)=s/\(L.take i).all Bt=true/\0<=s/\s<=1000000000000000/\K0 (w.alloc (.cells #[.slice ad n cap,.int .i64 cr,.int .i64 du] 52)) wx) (λ_ y _=>n-(intOf y).toNat)
 case atStart=>exact⟨0,0,rfl,rfl,Nat.zero_le _,rfl,rfl,by omega,by omega,Keeps.refl _ _⟩
 case round=>
  obtain⟨i,s,rfl,rfl,hin,hs,hall,hs0,hs1,hk⟩:=hrel;obtain⟨wq,hwq⟩:=eY wr;subst hwq;by_cases hlt:i<n
  ·have hltI:(i:Int)<(n:Int):=j8;obtain⟨x,hx⟩:=Au (L:=L) (k:=i) j6;obtain⟨g,o,he,hc⟩:=(Hr.o.keeps ((Keeps.alloc w _).nt hk) (by simp)).int (k:= .i64) hx;subst he;have hgl:=Ag hc;have hsn:=sumI_snoc hx;rw [hs] at hsn;rcases m3:Bt x with _|_
   ·have hf:Ps.Bj ⟨L,cr,du⟩=false:=by unfold Ps.Bj;rw [show scanB L=false from scan_bad1 hx m3];rfl
    obtain rfl:z=false:=Hz.o.symm.trans hf;obtain⟨Hall,Hk,Hs,Hsn,Hx,Hf⟩:=hid6 hall hk hs hsn hx hf;clear hf hx hsn hs hk hall
    go_wp2_with (go_at_call 241;(with_reducible refine(Ce m3 _).mono ?_);rintro e w1 ⟨rfl,rfl⟩)
    go_ret;exact⟨rfl,(Keeps.alloc w _).nt Hk.o⟩
   ·obtain⟨x0,x1⟩:=(Bo x).1 m3;rcases m4:Bt (s+x) with _|_
    ·have hf:Ps.Bj ⟨L,cr,du⟩=false:=by
      unfold Ps.Bj;rw [show scanB L=false from scan_bad2 (k:=i+1) (by rw [hsn];have h4:¬(0<=s+x/\s+x<=1000000000000000):=λh=>(by rw [(Bo _).2 h] at m4;cases m4);omega)];rfl
     obtain rfl:z=false:=Hz.o.symm.trans hf;obtain⟨Hall,Hk,Hs,Hsn,Hx,Hf⟩:=hid6 hall hk hs hsn hx hf;clear hf hx hsn hs hk hall;exact j2V
    ·obtain⟨y0,y1⟩:=(Bo _).1 m4;have hall2:(L.take (i+1)).all Bt=true:=by rw [take_snoc' hx,List.all_append,hall];simp [m3]
     obtain⟨Hall,Hk,Hs,Hsn,Hx,Hall2⟩:=hid6 hall hk hs hsn hx hall2;clear hall2 hx hsn hs hk hall
     go_wp2_with (first|(go_at_call 241;(with_reducible refine(Ce m3 _).mono ?_);rintro e w1 ⟨rfl,rfl⟩)|(go_at_call 241;(with_reducible refine(Ce m4 _).mono ?_);rintro e w1 ⟨rfl,rfl⟩))
     go_roundw
     case rel=>exact⟨i+1,s+x,rfl,by go_num,by omega,Hsn.o,Hall2.o,by omega,by omega,Hk.o⟩
     case measure=>simp [intOf];omega
  ·obtain rfl:i=n:=by omega
   rw [List.take_of_length_le j6] at hs hall;have hsc:scanB L=true:=by unfold scanB;rw [hall,hs,(Bo s).2 ⟨hs0,hs1⟩];rfl
   have hb:=Hbx.o wq hk;have b0:=Aa hb 0;have b1:=Aa hb 1;have b2:=Aa hb 2;have bl:=lt_of_block hb;have m3:Bt cr=Bt cr:=rfl;have m4:Bt du=Bt du:=rfl;clear hb;by_cases h1:1<=i
   ·have h1I:decide ((1:Int)<=(i:Int))=true:=by rw [decide_eq_true_iff];omega
    by_cases h2:i<=8
    ·have h2I:decide ((i:Int)<=8)=true:=by rw [decide_eq_true_iff];omega
     clear m3 m4;rcases m3:Bt cr with _|_
     ·have m4:Bt du=Bt du:=rfl;exact j0k
     ·rcases m4:Bt du with _|_
      ·skip
       exact j0k
      ·by_cases h5:cr=0
       ·have h5I:(cr==0)=true:=by simp [h5]
        have h5D:decide (cr=0)=true:=by simp [h5]
        clear h5;exact j2W
       ·have h5I:(cr==0)=false:=beq_eq_false_iff_ne.2 h5;by_cases h6:s=0
        ·subst h6;exact j2W
        ·have h6I:(s==0)=false:=beq_eq_false_iff_ne.2 h6;exact j0k
    ·have h2I:decide ((i:Int)<=8)=false:=by rw [decide_eq_false_iff_not];omega
     exact j0k
   ·have h1I:decide ((1:Int)<=(i:Int))=false:=by rw [decide_eq_false_iff_not];omega
    exact j0k
theorem Ep(w:World)(v:Value)(n:Nat)(xs:List Value)(hr:Reads w 1 v n xs)(h1:∀u∈xs,u.oneCell'=true)(hn:n<=1000000000000):
  Calls Tryz.prog 72 #[v] w λe w'=>∃v',e= .returned v'/\w'.ownsRow 0 2 1 v' n xs/\K0 w w'/\(∀k,v'.ownBlock=some k->w.heap.size<=k):=by
 obtain⟨i0,hi,hz0,hz1,hz2⟩:=info_parts Gp;have hr':=hr;obtain⟨ad,c,rfl,hnc,hl,hnone,hcells⟩:=hr';clear hcells;have heq:=fun(wx:World) (ad:Option Addr) (l c:Nat)=>Lib.run_eql_slice_nil (P:=Tryz.prog) wx 50 _ ad l c 0 0 Tryz.underlying50;rcases ad with _|a
 ·obtain rfl:=hnone rfl;obtain rfl:n=0:=by omega
  obtain rfl:xs= []:=List.eq_nil_of_length_eq_zero jy;have hr0:=Lib.hid hr;clear hr;go_enter Tryz.func72,Tryz.ntmps72;exact jH
 ·have Hr:=Lib.hid hr;clear hr;obtain⟨Hl,Hnone,H1⟩:=hid3 hl hnone h1;clear h1 hnone hl;go_enter Tryz.func72,Tryz.ntmps72
  go_wp2_with (at_builtin;refine Ap rfl (.tmp 5) (.tmp 6) 50 rfl 0 2 i0 _ 1 8 Tryz.underlying50 hi hz0 hz1 hz2 rfl j7 _ 0 [] rfl (World.ownsRow_lit w #[] 0 j6 jd rfl) _ n xs rfl (Hr.o.keeps (Keeps.alloc (S:=λ_=>False) _ _) (by simp)) H1.o jd j6 j6 ?_)
  intro v' w1 hown1 hk1 hfr
  have hend:w1.ownsRow 0 2 1 v' n xs/\K0 w w1/\(∀k,v'.ownBlock=some k->w.heap.size<=k):=by
   exact jI
  exact jJ
def ps0:Ps:=⟨[],0,0⟩
def Aaf(p:Ps)(z:Int)(w:World)(e:Ending)(w':World):Prop:=∃v,e= .returned (.tuple #[.agg #[v,.int .i64 p.cr,.int .i64 p.du],.int .i64 z])/\w'.ownsRow 0 2 1 v p.bal.length (p.bal.flatMap i64c)/\Fresh w w' v
theorem Jg(L:List Int)(cr du:Int)(v:Value)(n:Nat)(w:World)(hr:Reads w 1 v n (L.flatMap i64c))(hl:n<=1000):
  Calls Tryz.prog 273 #[.agg #[v,.int .i64 cr,.int .i64 du]] w λe w'=>∃v',e= .returned (.agg #[v',.int .i64 cr,.int .i64 du])/\w'.ownsRow 0 2 1 v' n (L.flatMap i64c)/\Fresh w w' v':=by
 have hcl:=λW (hW:K0 w W)=>Ep W v n (L.flatMap i64c) (hr.keeps hW (by simp)) (Jy _) j6;obtain⟨ad,cap,rfl,_⟩:=id hr;obtain⟨Hr,Hcl⟩:=hid2 hr hcl;clear hcl hr;go_enter Tryz.func273,Tryz.ntmps273;go_wp2_with fail;refine(Hcl.o _ jf).mono ?_;rintro e w1 ⟨v1,rfl,hrow,hk1,hnew⟩;have hkw:=(by(repeat (first|exact Keeps.refl _ _|exact Keeps.alloc _ _|exact Keeps.drew _|exact Keeps.drewN _ _|refine Keeps.Am ?_|refine Keeps.Al ?_|refine Keeps.Af ?_)):K0 w ((w.alloc (.cells #[.slice ad n cap,.int .i64 cr,.int .i64 du] 52)).alloc (.cells #[.slice none 0 0,.int .i64 0,.int .i64 0] 52))).nt hk1;have hb:=j2X;refine j0F ?_;intro hrs;have k0:Keeps (λi=>i=w.heap.size) w1 (w1.setCell ⟨w.heap.size,0,none⟩ v1):=Keeps.setCell _ _ _ rfl;have hrs2:=Ad hrs k0 (by simp);have hb3:((((w1.setCell ⟨w.heap.size,0,none⟩ v1).setCell ⟨w.heap.size+1,0,none⟩ v1).setCell ⟨w.heap.size+1,1,none⟩ (.int .i64 cr)).setCell ⟨w.heap.size+1,2,none⟩ (.int .i64 du)).heap[w.heap.size+1]?=some (.cells #[v1,.int .i64 cr,.int .i64 du] 52 (0,0)):=(heap_setCell_same _ _ 2 _ _ _ ((heap_setCell_same _ _ 1 _ _ _ ((heap_setCell_same _ _ 0 _ _ _ hrs2).trans rfl)).trans rfl)).trans rfl
 have k3:Keeps (λi=>w.heap.size<=i) w1 ((((w1.setCell ⟨w.heap.size,0,none⟩ v1).setCell ⟨w.heap.size+1,0,none⟩ v1).setCell ⟨w.heap.size+1,1,none⟩ (.int .i64 cr)).setCell ⟨w.heap.size+1,2,none⟩ (.int .i64 du)):=
  (((Keeps.setCell (S:=λi=>w.heap.size<=i) _ _ _ (Nat.le_refl _)).trans (Keeps.setCell _ _ _ (.inl (by simp)))).trans (Keeps.setCell _ _ _ (.inl (by simp)))).trans (Keeps.setCell _ _ _ (.inl (by simp)))
 have k4:Keeps (λi=>i=w.heap.size\/i=w.heap.size+1) w1 ((((w1.setCell ⟨w.heap.size,0,none⟩ v1).setCell ⟨w.heap.size+1,0,none⟩ v1).setCell ⟨w.heap.size+1,1,none⟩ (.int .i64 cr)).setCell ⟨w.heap.size+1,2,none⟩ (.int .i64 du)):=
  (((Keeps.setCell (S:=λi=>i=w.heap.size\/i=w.heap.size+1) _ _ _ (.inl rfl)).trans (Keeps.setCell _ _ _ (.inl (.inr rfl)))).trans (Keeps.setCell _ _ _ (.inl (.inr rfl)))).trans (Keeps.setCell _ _ _ (.inl (.inr rfl)))
 have hrow3:=k4.row hrow (λg hg e=>by have:=hnew g hg;simp at this;omega);have hfin:Fresh w ((((w1.setCell ⟨w.heap.size,0,none⟩ v1).setCell ⟨w.heap.size+1,0,none⟩ v1).setCell ⟨w.heap.size+1,1,none⟩ (.int .i64 cr)).setCell ⟨w.heap.size+1,2,none⟩ (.int .i64 du)) v1:=⟨hkw.trans (k3.mono λi _ e=> .inr e),λg hg=>by have:=hnew g hg;simp at this;omega⟩;have b0:=Aa hb 0;have b1:=Aa hb 1;have b2:=Aa hb 2;have bf:=Ab hb 0;have bl:=lt_of_block hb;refine jV ?_;intro r0 r1 r2 rf0 rf1 rf2 rl;have sr0:=Aa hb3 0;have sr1:=Aa hb3 1;have sr2:=Aa hb3 2;obtain⟨ad1,c1,rfl,_,_⟩:=Ae hrow;obtain⟨Hrow,Hk1,Hnew,Hkw,Hb,Hrs,K0,Hrs2,Hb3⟩:=hid9 hrow hk1 hnew hkw hb hrs k0 hrs2 hb3;clear hb3 hrs2 k0 hrs hb hkw hnew hk1 hrow;obtain⟨K3,K4,Hrow3,Hfin,Sr0,Sr1,Sr2⟩:=hid7 k3 k4 hrow3 hfin sr0 sr1 sr2;clear sr2 sr1 sr0 hfin hrow3 k4 k3;go_wp2;refine jj ?_;intro R0' R1' R2';clear r0 r1 r2 b0 b1 b2;exact bodyPost_ret (v:= .agg #[.slice ad1 n c1,.int .i64 cr,.int .i64 du]) (by simp [results,Tryz.results273,go_sem,R0',R1',R2']) rfl ⟨_,rfl,Hrow3.o,Hfin.o⟩
theorem Fs(L:List Int)(cr du:Int)(ad:Option Addr)(cap n:Nat)(w:World)(hr:Reads w 1 (.slice ad n cap) n (L.flatMap i64c))(hN:L.length=n)(hl:n<=1000):
  Calls Tryz.prog 275 #[.agg #[.slice ad n cap,.int .i64 cr,.int .i64 du]] w λe w'=>e= .returned (.tuple #[.agg (if Ps.Bj ⟨L,cr,du⟩=true then #[.slice ad n cap,.int .i64 cr,.int .i64 du] else #[.slice none 0 0,.int .i64 0,.int .i64 0]),.int .i64 (if Ps.Bj ⟨L,cr,du⟩=true then 0 else 5)])/\K0 w w':=by
 refine j0l ?_;intro hri;rcases hb:Ps.Bj ⟨L,cr,du⟩ with _|_
 ·rw [hb] at hri;rw [if_neg j7,if_neg j7];obtain⟨Hr,Hri,Hb⟩:=hid3 hr hri hb;clear hb hri hr;go_enter Tryz.func275,Tryz.ntmps275;go_wp2_with fail;refine(Hri.o _ jf).mono ?_;rintro e w1 ⟨rfl,hk1⟩;refine j2Y ?_;intro Hk1 hrs;refine jV ?_;intro r0 r1 r2 rf0 rf1 rf2 rl;have hb3:(((w1.setCell ⟨w.heap.size+1,0,none⟩ (.slice none 0 0)).setCell ⟨w.heap.size+1,1,none⟩ (.int .i64 0)).setCell ⟨w.heap.size+1,2,none⟩ (.int .i64 0)).heap[w.heap.size+1]?=some (.cells #[.slice none 0 0,.int .i64 0,.int .i64 0] 52 (0,0)):=(heap_setCell_same _ _ 2 _ _ _ ((heap_setCell_same _ _ 1 _ _ _ ((heap_setCell_same _ _ 0 _ _ _ hrs).trans rfl)).trans rfl)).trans rfl;have sr0:=Aa hb3 0;have sr1:=Aa hb3 1;have sr2:=Aa hb3 2;have hfin:K0 w (((w1.setCell ⟨w.heap.size+1,0,none⟩ (.slice none 0 0)).setCell ⟨w.heap.size+1,1,none⟩ (.int .i64 0)).setCell ⟨w.heap.size+1,2,none⟩ (.int .i64 0)):=Hk1.o.trans ((((Keeps.setCell (S:=λi=>w.heap.size<=i) _ _ _ (by simp)).trans (Keeps.setCell _ _ _ (.inl (by simp)))).trans (Keeps.setCell _ _ _ (.inl (by simp)))).mono λi _ e=> .inr e);obtain⟨Hk1,Hrs,Hb3,Hfin,Sr0,Sr1,Sr2⟩:=hid7 hk1 hrs hb3 hfin sr0 sr1 sr2;clear sr2 sr1 sr0 hfin hb3 hrs hk1;go_wp2;refine jj ?_;intro R0' R1' R2';clear r0 r1 r2;exact bodyPost_ret (v:= .tuple #[.agg #[.slice none 0 0,.int .i64 0,.int .i64 0],.int .i64 5]) (by simp [results,Tryz.results275,go_sem,R0',R1',R2']) rfl ⟨rfl,Hfin.o⟩
 ·rw [hb] at hri;rw [if_pos rfl,if_pos rfl];obtain⟨Hr,Hri,Hb⟩:=hid3 hr hri hb;clear hb hri hr;go_enter Tryz.func275,Tryz.ntmps275;go_wp2_with fail;refine(Hri.o _ jf).mono ?_;rintro e w1 ⟨rfl,hk1⟩;have hbx:=j2X;have b0:=Aa hbx 0;have b1:=Aa hbx 1;have b2:=Aa hbx 2;have bl:=lt_of_block hbx;refine j2Y ?_;intro Hk1 hrs;have Hbx:=Lib.hid hbx;clear hbx;refine jV ?_;intro r0 r1 r2 rf0 rf1 rf2 rl;have hb3:(((w1.setCell ⟨w.heap.size+1,0,none⟩ (.slice ad n cap)).setCell ⟨w.heap.size+1,1,none⟩ (.int .i64 cr)).setCell ⟨w.heap.size+1,2,none⟩ (.int .i64 du)).heap[w.heap.size+1]?=some (.cells #[.slice ad n cap,.int .i64 cr,.int .i64 du] 52 (0,0)):=(heap_setCell_same _ _ 2 _ _ _ ((heap_setCell_same _ _ 1 _ _ _ ((heap_setCell_same _ _ 0 _ _ _ hrs).trans rfl)).trans rfl)).trans rfl;have sr0:=Aa hb3 0;have sr1:=Aa hb3 1;have sr2:=Aa hb3 2;have hfin:K0 w (((w1.setCell ⟨w.heap.size+1,0,none⟩ (.slice ad n cap)).setCell ⟨w.heap.size+1,1,none⟩ (.int .i64 cr)).setCell ⟨w.heap.size+1,2,none⟩ (.int .i64 du)):=Hk1.o.trans ((((Keeps.setCell (S:=λi=>w.heap.size<=i) _ _ _ (by simp)).trans (Keeps.setCell _ _ _ (.inl (by simp)))).trans (Keeps.setCell _ _ _ (.inl (by simp)))).mono λi _ e=> .inr e);obtain⟨Hk1,Hrs,Hb3,Hfin,Sr0,Sr1,Sr2⟩:=hid7 hk1 hrs hb3 hfin sr0 sr1 sr2;clear sr2 sr1 sr0 hfin hb3 hrs hk1;go_wp2;refine jj ?_;intro R0' R1' R2';clear r0 r1 r2;exact bodyPost_ret (v:= .tuple #[.agg #[.slice ad n cap,.int .i64 cr,.int .i64 du],.int .i64 0]) (by simp [results,Tryz.results275,go_sem,R0',R1',R2']) rfl ⟨rfl,Hfin.o⟩
def trB(n:Nat)(k:Int):Bool:=decide (1<=k)&&decide (k<=n)
def askE(p:Ps)(T:List Int)(a:Int):Int:=if p.Bj=true then(if T.all (trB p.bal.length)=true then(if Bt a=true then 0 else 8) else 7) else 1
theorem Jm(L:List Int)(cr du a:Int)(T:List Int)(ad adT:Option Addr)(cap capT n m:Nat)(w:World)(hr:Reads w 1 (.slice ad n cap) n (L.flatMap i64c))(hN:L.length=n)(hl:n<=1000)(hT:Reads w 1 (.slice adT m capT) m (T.flatMap i64c))(hM:T.length=m)(hm:m<=1000):
  Calls Tryz.prog 272 #[.agg #[.slice ad n cap,.int .i64 cr,.int .i64 du],.int .i64 a,.slice adT m capT] w λe w'=>e= .returned (.int .i64 (askE ⟨L,cr,du⟩ T a))/\K0 w w':=by
 refine j0l ?_;intro hri;obtain⟨z,hz⟩:=eX (askE ⟨L,cr,du⟩ T a);have hz':=hz;unfold askE at hz';simp only at hz';rw [hN] at hz';rw [hz];refine j0j ?_;intro hbx;rcases hb:Ps.Bj ⟨L,cr,du⟩ with _|_
 ·rw [hb] at hri hz';rw [if_neg j7] at hz';subst hz';obtain⟨Hr,HT,Hri,Hb,Hz,Hbx⟩:=hid6 hr hT hri hb hz hbx;clear hbx hz hb hri hT hr;go_enter Tryz.func272,Tryz.ntmps272;exact j2Z
 ·rw [hb] at hri hz';rw [if_pos rfl] at hz';obtain⟨Hr,HT,Hri,Hb,Hz,Hz',Hbx⟩:=hid7 hr hT hri hb hz hz' hbx;clear hbx hz' hz hb hri hT hr;go_enter Tryz.func272,Tryz.ntmps272;go_wp2_with fail;refine(Hri.o _ jf).mono ?_;rintro e w1 ⟨rfl,hk1⟩;have Hk1:=Lib.hid hk1;clear hk1;go_wp2
  go_loopw [14] (λx wx=>∃i:Nat,x= .int .i64 (i:Nat)/\i<=m/\(T.take i).all (trB n)=true/\K0 w1 wx) (λx _=>m-(intOf x).toNat)
  case atStart=>exact⟨0,rfl,Nat.zero_le _,rfl,Keeps.refl _ _⟩
  case round=>
   obtain⟨i,rfl,him,hall,hk⟩:=hrel;obtain⟨wq,hwq⟩:=eY wr;subst hwq;have hkb:=Hk1.o.nt hk;have hkw:=(Keeps.alloc w _).nt hkb;by_cases hlt:i<m
   ·have hltI:(i:Int)<(m:Int):=j8;obtain⟨k,hx⟩:=Au (L:=T) (k:=i) j6;obtain⟨g,o,he,hc⟩:=(HT.o.keeps hkw (by simp)).int (k:= .i64) hx;subst he;have hgl:=Ag hc;have hb:=Hbx.o wq hkb;have b0:=Aa hb 0;have bl:=lt_of_block hb;clear hb;by_cases hk1:1<=k/\k<=n
    ·obtain⟨k1,k2⟩:=hk1;have hall2:(T.take (i+1)).all (trB n)=true:=by rw [take_snoc' hx,List.all_append,hall];simp [trB,k1,k2]
     have k1':¬k<1:=j8;have k2':¬(n:Int)<k:=j8;obtain⟨Hall,Hk,Hkb,Hkw,Hx,Hall2⟩:=hid6 hall hk hkb hkw hx hall2;clear hall2 hx hkw hkb hk hall;go_wp2;go_roundw
     case rel=>exact⟨i+1,by go_num,by omega,Hall2.o,Hk.o⟩
     case measure=>simp [intOf];omega
    ·have hbad:T.all (trB n)=false:=by
      rw [Bool.eq_false_iff];intro h;have:=List.all_eq_true.1 h k (List.mem_of_getElem? hx);simp [trB] at this;omega
     have h:=Hz'.o;rw [hbad,if_neg j7] at h;subst h;obtain⟨Hall,Hk,Hkb,Hkw,Hx,Hbad⟩:=hid6 hall hk hkb hkw hx hbad;clear hbad hx hkw hkb hk hall;by_cases k1:k<1
     ·clear hk1;go_wp2;exact j0m
     ·have k2:(n:Int)<k:=j8;clear hk1;go_wp2;exact j0m
   ·obtain rfl:i=m:=by omega
    rw [List.take_of_length_le j6] at hall;have h:=Hz'.o;rw [hall,if_pos rfl] at h;rcases m3:Bt a with _|_
    ·rw [m3,if_neg j7] at h;exact j30
    ·rw [m3,if_pos rfl] at h;exact j30
def Gi(p:Ps)(k a:Int):Ps:=⟨p.bal.set (k-1).toNat (p.bal.getD (k-1).toNat 0+(a-minI a p.cr)),p.cr-minI a p.cr,p.du⟩
theorem Li(B g c:Nat)(L:List Int)(cr du k a:Int)(n:Nat)(w:World)(hb:w.heap[B]?=some (.cells #[.slice (some ⟨g,0,none⟩) n c,.int .i64 cr,.int .i64 du] 52 (0,0)))(hrow:RowZ w 2 g n c L)(hm:∀x,L[(k-1).toNat]?=some x->0<=x/\x<=1000000000000000)(hcr:0<=cr/\cr<=1000000000000000)(ha:0<=a/\a<=1000000000000000)(hk:1<=k/\k<=n)(hn:n<=1000):
  Calls Tryz.prog 274 #[(.pointer (some ⟨B,0,none⟩)),.int .i64 k,.int .i64 a] w λe w'=>e= .returned (.tuple #[])/\w'.heap[B]?=some (.cells #[.slice (some ⟨g,0,none⟩) n c,.int .i64 (cr-minI a cr),.int .i64 du] 52 (0,0))/\RowZ w' 2 g n c (L.set (k-1).toNat (L.getD (k-1).toNat 0+(a-minI a cr)))/\Keeps (λi=>i=B\/i=g) w w':=by
 obtain⟨i,hi⟩:∃i:Nat,(i:Int)=k-1:=⟨(k-1).toNat,by omega⟩;have hlen:=hrow.2;obtain⟨x,hx⟩:=Au (L:=L) (k:=i) j6;have q3:(k-1).toNat=i:=j8;obtain⟨x1,x2⟩:=hm x (by rw [q3];exact hx);have hxD:L.getD (k-1).toNat 0=x:=by rw [q3,List.getD_eq_getElem?_getD,hx];rfl
 rw [hxD,q3];obtain⟨m,hmin⟩:=eX (minI a cr);have hm2:0<=m/\m<=a/\m<=cr:=by rw [<-hmin];unfold minI;split<;>omega
 rw [hmin]
 have hgB:g≠B:=λe=>by
  subst e;exact Ai hrow.1 hb j7 rfl
 have b0:=Aa hb 0;have b1:=Aa hb 1;have b2:=Aa hb 2;have f1:=Ab hb 1;have bl:=lt_of_block hb;have ck:=hrow.cell hx;have fk:=hrow.free i;have lg:=hrow.lt;have q1:(0:Int)<=k-1:=j8;have q2:k-1<(n:Int):=j8;have q4:IntKind.i64.wrap (k-1)=k-1:=IntWalk.i64_in _ ⟨by omega,by omega⟩;have k1:Keeps (λi=>i=B) w (w.setCell ⟨B,1,none⟩ (.int .i64 (cr-m))):=Keeps.setCell _ _ _ rfl;have k2:Keeps (λi=>i=g) (w.setCell ⟨B,1,none⟩ (.int .i64 (cr-m))) ((w.setCell ⟨B,1,none⟩ (.int .i64 (cr-m))).setCell ⟨g,i,none⟩ (.int .i64 (x+(a-m)))):=Keeps.setCell _ _ _ rfl;have hrow1:RowZ (w.setCell ⟨B,1,none⟩ (.int .i64 (cr-m))) 2 g n c L:=⟨k1.row hrow.1 (λg' hg e=>by simp only [Value.ownBlock,Option.some.injEq] at hg;subst hg;exact hgB e),hrow.2⟩;have hin:i<n:=j8
 have hpost:((w.setCell ⟨B,1,none⟩ (.int .i64 (cr-m))).setCell ⟨g,i,none⟩ (.int .i64 (x+(a-m)))).heap[B]?=some (.cells #[.slice (some ⟨g,0,none⟩) n c,.int .i64 (cr-m),.int .i64 du] 52 (0,0))/\RowZ ((w.setCell ⟨B,1,none⟩ (.int .i64 (cr-m))).setCell ⟨g,i,none⟩ (.int .i64 (x+(a-m)))) 2 g n c (L.set i (x+(a-m)))/\Keeps (λi=>i=B\/i=g) w ((w.setCell ⟨B,1,none⟩ (.int .i64 (cr-m))).setCell ⟨g,i,none⟩ (.int .i64 (x+(a-m)))):=
  ⟨Ad ((heap_setCell_same _ _ 1 _ _ _ hb).trans rfl) k2 (λe=>hgB e.symm),hrow1.set hin _,(k1.mono λi _ e=> .inl e).trans (k2.mono λi _ e=> .inl (.inr e))⟩
 have hgB2:¬B=g:=λe=>hgB e.symm;obtain⟨ha0,ha1⟩:=ha;obtain⟨hc0,hc1⟩:=hcr;obtain⟨m0,m1,m2⟩:=hm2;by_cases hle:a<=cr
 ·obtain rfl:m=a:=by rw [<-hmin];unfold minI;rw [if_pos hle]
  rw [Int.sub_self,Int.add_zero] at hpost⊢;exact j31
 ·obtain rfl:m=cr:=by rw [<-hmin];unfold minI;rw [if_neg hle]
  rw [Int.sub_self] at hpost⊢;exact j31
theorem Keeps.te{S T:Nat->Prop}{w w1 w2:World}(h:Keeps S w w1)(h2:Keeps T w1 w2)(hs:∀i,T i->S i):Keeps S w w2:=h.trans (h2.mono λi _ e=> .inl (hs i e))
theorem Bw {W : World} {R : Nat} {t : TypeId} {v0 c0 d0 : Value} (h : W.heap[R]? = some (.cells #[v0, c0, d0] t (0, 0))) (v c d : Value) :
    (((W.setCell ⟨R, 0, none⟩ v).setCell ⟨R, 1, none⟩ c).setCell ⟨R, 2, none⟩ d).heap[R]? = some (.cells #[v, c, d] t (0, 0)) /\ Keeps (λi => i = R) W (((W.setCell ⟨R, 0, none⟩ v).setCell ⟨R, 1, none⟩ c).setCell ⟨R, 2, none⟩ d) :=
  ⟨(heap_setCell_same _ _ 2 _ _ _ ((heap_setCell_same _ _ 1 _ _ _ ((heap_setCell_same _ _ 0 _ _ _ h).trans rfl)).trans rfl)).trans rfl,
   ((Keeps.setCell (S := λi => i = R) _ _ _ rfl).trans (Keeps.setCell _ _ _ (.inl rfl))).trans (Keeps.setCell _ _ _ (.inl rfl))⟩
theorem Eo{w:World}{b:Nat}{e:TypeId}{s:Nat}{v:Value}{n:Nat}{xs:List Value}(h:w.ownsRow b e s v n xs)(hn:1<=n):∃g c,v= .slice (some ⟨g,0,none⟩) n c:=by
 rcases h.2 with⟨_,h0⟩|⟨g,c,_,h,_⟩
 ·omega
 ·exact⟨g,c,h⟩
theorem Ri{p:Ps}{T:List Int}{a:Int}(h:askE p T a=0):p.Bj=true/\T.all (trB p.bal.length)=true/\Bt a=true:=by
 unfold askE at h;rcases h1:p.Bj with _|_
 ·rw [h1,if_neg j7] at h;omega
 ·rw [h1,if_pos rfl] at h;rcases h2:T.all (trB p.bal.length) with _|_
  ·rw [h2,if_neg j7] at h;omega
  ·rw [h2,if_pos rfl] at h;rcases h3:Bt a with _|_
   ·rw [h3,if_neg j7] at h;omega
   ·exact⟨rfl,rfl,rfl⟩
theorem Fb{p:Ps}(h:p.Bj=true):(∀x∈p.bal,0<=x/\x<=1000000000000000)/\(0<=p.cr/\p.cr<=1000000000000000)/\(0<=p.du/\p.du<=1000000000000000)/\1<=p.bal.length/\p.bal.length<=8:=by
 simp only [Ps.Bj,scanB,Bool.and_eq_true,decide_eq_true_eq] at h;obtain⟨⟨h1,_⟩,h2,h3,h4,h5,_⟩:=h;exact⟨λx hx=>(Bo x).1 (List.all_eq_true.1 h1 x hx),(Bo _).1 h4,(Bo _).1 h5,h2,h3⟩
def Jk(p:Ps)(k a:Int):Ps×Int:=if askE p [k] a=0 then(if(Gi p k a).Bj=true then(Gi p k a,0) else(ps0,5)) else(ps0,askE p [k] a)
theorem Lv(L:List Int)(cr du k a:Int)(ad:Option Addr)(cap n:Nat)(w:World)(hr:Reads w 1 (.slice ad n cap) n (L.flatMap i64c))(hN:L.length=n)(hl:n<=1000):
  Calls Tryz.prog 250 #[.agg #[.slice ad n cap,.int .i64 cr,.int .i64 du],.int .i64 k,.int .i64 a] w (Aaf (Jk ⟨L,cr,du⟩ k a).1 (Jk ⟨L,cr,du⟩ k a).2 w):=by
 refine j32 ?_;intro z hz hask;rw [hz] at hask;unfold Jk;rw [hz];by_cases h0:z=0
 ·subst h0;rw [if_pos rfl];obtain⟨hright,htr,hmon⟩:=Ri hz;obtain⟨hbal,hcr,hdu,hn1,hn8⟩:=Fb hright;simp only at hbal hcr hdu hn1 hn8;rw [hN] at hn1 hn8;have hkk:1<=k/\k<=n:=by simpa [trB,hN] using htr
  have ham:=(Bo a).1 hmon;refine j0G ?_;intro hown;obtain⟨q,hq⟩:=eX (Gi ⟨L,cr,du⟩ k a);rw [hq];obtain⟨R,hR⟩:∃R:Ps×Int,(if q.Bj=true then(q,0) else(ps0,5))=R:=⟨_,rfl⟩;rw [hR];obtain⟨Hr,Hask,Hown,Hz,Hright,Htr,Hmon,Hbal,Hcr⟩:=hid9 hr hask hown hz hright htr hmon hbal hcr;clear hcr hbal hmon htr hright hz hown hask hr;obtain⟨Hdu,Hkk,Ham,Hq,HR⟩:=hid5 hdu hkk ham hq hR;clear hR hq ham hkk hdu;go_enter Tryz.func250,Tryz.ntmps250;go_wp2_with fail
  all_goals
   refine(Hask.o _ _ jf (Reads.litAt _ _ _ 1 1 _ (by simp) rfl)).mono ?_;rintro e w1 ⟨rfl,hk1⟩;have hkw:K0 w w1:=(by(repeat (first|exact Keeps.refl _ _|exact Keeps.alloc _ _|exact Keeps.drew _|exact Keeps.drewN _ _|refine Keeps.Am ?_|refine Keeps.Al ?_|refine Keeps.Af ?_)):K0 w (((w.alloc (.cells #[.slice ad n cap,.int .i64 cr,.int .i64 du] 52)).alloc (.cells #[.slice none 0 0,.int .i64 0,.int .i64 0] 52)).alloc (.cells #[.int .i64 k] 3))).nt hk1;have hbx:w1.heap[w.heap.size]?=some (.cells #[.slice ad n cap,.int .i64 cr,.int .i64 du] 52 (0,0)):=Ad (Aq (Aq (heap_alloc_new w _) _) _) hk1 (by simp);have hrs:w1.heap[w.heap.size+1]?=some (.cells #[.slice none 0 0,.int .i64 0,.int .i64 0] 52 (0,0)):=Ad (Aq (Av _ _ (by simp)) _) hk1 (by simp);have b0:=Aa hbx 0;have b1:=Aa hbx 1;have b2:=Aa hbx 2;have bl:=lt_of_block hbx;obtain⟨Hk1,Hkw,Hbx,Hrs⟩:=hid4 hk1 hkw hbx hrs;clear hrs hbx hkw hk1;go_wp2_with fail;refine(Hown.o _ Hkw.o).mono ?_;rintro e w2 ⟨v1,rfl,hrow,hk2,hnew⟩;obtain⟨g,c,rfl⟩:=Eo hrow hn1;have hgn:w1.heap.size<=g:=hnew g rfl;have hbx2:=Ad Hbx.o hk2 (by simp);clear b0 b1 b2 bl;have hgB:g≠w.heap.size:=by have:=lt_of_block Hbx.o;omega
   have hgR:g≠w.heap.size+1:=by have:=lt_of_block Hrs.o;omega
   have hS:=Bw hbx2 (.slice (some ⟨g,0,none⟩) n c) (.int .i64 cr) (.int .i64 du);obtain⟨hb3,k3⟩:=hS;have hrow3:=k3.row hrow (λg' hg e=>by simp only [Value.ownBlock,Option.some.injEq] at hg;subst hg;exact hgB e);have hc0:=Li w.heap.size g c L cr du k a n _ hb3 ⟨hrow3,hN⟩ (λx hx=>Hbal.o x (List.mem_of_getElem? hx)) Hcr.o Ham.o Hkk.o hl;have c0:=Aa hbx2 0;have c1:=Aa hbx2 1;have c2:=Aa hbx2 2;have f0:=Ab hbx2 0;have f1:=Ab hbx2 1;have f2:=Ab hbx2 2;have bl2:=lt_of_block hbx2;obtain⟨Hrow,Hk2,Hnew,Hgn,Hbx2,HgB,HgR,Hb3,K3⟩:=hid9 hrow hk2 hnew hgn hbx2 hgB hgR hb3 k3;clear k3 hb3 hgR hgB hbx2 hgn hnew hk2 hrow;obtain⟨Hrow3,Hc0⟩:=hid2 hrow3 hc0;clear hc0 hrow3;go_wp2_with fail;refine Hc0.o.mono ?_;rintro e w4 ⟨rfl,hb4,hrow4,hk4⟩;clear c0 c1 c2 f0 f1 f2 bl2;obtain⟨L2,hL2⟩:=eX (L.set (k-1).toNat (L.getD (k-1).toNat 0+(a-minI a cr)));obtain⟨c2,hc2⟩:=eX (cr-minI a cr);have hq:=Hq.o;unfold Gi at hq;simp only at hq;rw [hL2,hc2] at hq;rw [hL2] at hrow4;rw [hc2] at hb4;clear Hq;subst hq;have hrs4:w4.heap[w.heap.size+1]?=some (.cells #[.slice none 0 0,.int .i64 0,.int .i64 0] 52 (0,0)):=Ad (Ad (Ad Hrs.o Hk2.o (by simp)) K3.o (by simp)) hk4 (by have:=HgR.o;simp;omega);have hjud:=Fs L2 c2 du (some ⟨g,0,none⟩) c n w4 hrow4.reads hrow4.2 hl;have b0:=Aa hb4 0;have b1:=Aa hb4 1;have b2:=Aa hb4 2;have bl:=lt_of_block hb4;rcases hrt:Ps.Bj ⟨L2,c2,du⟩ with _|_
   ·skip
    rw [hrt,if_neg j7,if_neg j7] at hjud;have hR:=HR.o;clear HR;rw [hrt,if_neg j7] at hR;subst hR;obtain⟨HL2,Hc2,Hb4,Hrow4,Hk4,Hrs4,Hjud,Hrt⟩:=hid8 hL2 hc2 hb4 hrow4 hk4 hrs4 hjud hrt;clear hrt hjud hrs4 hk4 hrow4 hb4 hc2 hL2;go_wp2_with fail;refine Hjud.o.mono ?_;rintro e w5 ⟨rfl,hk5⟩;clear b0 b1 b2 bl;have hrs5:=Ad Hrs4.o hk5 (by simp);have hS3:=Bw hrs5 (.slice none 0 0) (.int .i64 0) (.int .i64 0);obtain⟨hb9,k9⟩:=hS3;have r0:=Aa hrs5 0;have r1:=Aa hrs5 1;have r2:=Aa hrs5 2;have rf0:=Ab hrs5 0;have rf1:=Ab hrs5 1;have rf2:=Ab hrs5 2;have rl:=lt_of_block hrs5;refine ju ?_;intro sr0 sr1 sr2;obtain⟨Hrs5,Hb9,K9,Sr0,Sr1,Sr2⟩:=hid6 hrs5 hb9 k9 sr0 sr1 sr2;clear sr2 sr1 sr0 k9 hb9 hrs5;have Hk5:=Lib.hid hk5;clear hk5;go_wp2;refine jj ?_;intro R0' R1' R2';clear r0 r1 r2;exact bodyPost_ret (v:= .tuple #[.agg #[.slice none 0 0,.int .i64 0,.int .i64 0],.int .i64 5]) j1k rfl ⟨_,rfl,⟨by simp [ps0],.inl ⟨rfl,rfl⟩⟩,Hkw.o.trans (((((Hk2.o.mono (λ_ _ e=>e.elim):Keeps (λi=>w.heap.size<=i) _ _).te K3.o (λi e=>by have e':i=w.heap.size:=e;omega)).te Hk4.o (λi e=>by have h1:=Hgn.o;have h2:=Hkw.o.size;rcases e with e'|e'<;>omega)).te Hk5.o (λi e=>e.elim)).te K9.o (λi e=>by have e':i=w.heap.size+1:=e;omega)|>.mono λi _ e=> .inr e),λg hg=>by simp [Value.ownBlock] at hg⟩
   ·skip
    rw [hrt,if_pos rfl,if_pos rfl] at hjud;have hR:=HR.o;clear HR;rw [hrt,if_pos rfl] at hR;subst hR;obtain⟨HL2,Hc2,Hb4,Hrow4,Hk4,Hrs4,Hjud,Hrt⟩:=hid8 hL2 hc2 hb4 hrow4 hk4 hrs4 hjud hrt;clear hrt hjud hrs4 hk4 hrow4 hb4 hc2 hL2;go_wp2_with fail;refine Hjud.o.mono ?_;rintro e w5 ⟨rfl,hk5⟩;clear b0 b1 b2 bl;have hrs5:=Ad Hrs4.o hk5 (by simp);have hS3:=Bw hrs5 (.slice (some ⟨g,0,none⟩) n c) (.int .i64 c2) (.int .i64 du);obtain⟨hb9,k9⟩:=hS3;have r0:=Aa hrs5 0;have r1:=Aa hrs5 1;have r2:=Aa hrs5 2;have rf0:=Ab hrs5 0;have rf1:=Ab hrs5 1;have rf2:=Ab hrs5 2;have rl:=lt_of_block hrs5;refine ju ?_;intro sr0 sr1 sr2;obtain⟨Hrs5,Hb9,K9,Sr0,Sr1,Sr2⟩:=hid6 hrs5 hb9 k9 sr0 sr1 sr2;clear sr2 sr1 sr0 k9 hb9 hrs5;have Hk5:=Lib.hid hk5;clear hk5;go_wp2;refine jj ?_;intro R0' R1' R2';clear r0 r1 r2;have hrow6:=K9.o.row (Hrow4.o.1.of_keeps Hk5.o) (λg' hg e=>by simp only [Value.ownBlock,Option.some.injEq] at hg;subst hg;exact HgR.o e);have hlen2:=Hrow4.o.2;exact bodyPost_ret (v:= .tuple #[.agg #[.slice (some ⟨g,0,none⟩) n c,.int .i64 c2,.int .i64 du],.int .i64 0]) j1k rfl ⟨_,rfl,(by rw [hlen2];exact hrow6),Hkw.o.trans (((((Hk2.o.mono (λ_ _ e=>e.elim):Keeps (λi=>w.heap.size<=i) _ _).te K3.o (λi e=>by have e':i=w.heap.size:=e;omega)).te Hk4.o (λi e=>by have h1:=Hgn.o;have h2:=Hkw.o.size;rcases e with e'|e'<;>omega)).te Hk5.o (λi e=>e.elim)).te K9.o (λi e=>by have e':i=w.heap.size+1:=e;omega)|>.mono λi _ e=> .inr e),λg' hg=>by simp only [Value.ownBlock,Option.some.injEq] at hg;subst hg;have h1:=Hgn.o;have h2:=Hkw.o.size;omega⟩
 ·rw [if_neg h0];obtain⟨Hr,Hask,Hz⟩:=hid3 hr hask hz;clear hz hask hr;go_enter Tryz.func250,Tryz.ntmps250;go_wp2_with fail
  all_goals
   refine(Hask.o _ _ jf (Reads.litAt _ _ _ 1 1 _ (by simp) rfl)).mono ?_;rintro e w1 ⟨rfl,hk1⟩;have hkw:K0 w w1:=(by(repeat (first|exact Keeps.refl _ _|exact Keeps.alloc _ _|exact Keeps.drew _|exact Keeps.drewN _ _|refine Keeps.Am ?_|refine Keeps.Al ?_|refine Keeps.Af ?_)):K0 w (((w.alloc (.cells #[.slice ad n cap,.int .i64 cr,.int .i64 du] 52)).alloc (.cells #[.slice none 0 0,.int .i64 0,.int .i64 0] 52)).alloc (.cells #[.int .i64 k] 3))).nt hk1;have hrs:w1.heap[w.heap.size+1]?=some (.cells #[.slice none 0 0,.int .i64 0,.int .i64 0] 52 (0,0)):=Ad (Aq (Av _ _ (by simp)) _) hk1 (by simp);have hS3:=j0n;obtain⟨hb9,k9⟩:=hS3;have r0:=Aa hrs 0;have r1:=Aa hrs 1;have r2:=Aa hrs 2;have rf0:=Ab hrs 0;have rf1:=Ab hrs 1;have rf2:=Ab hrs 2;have rl:=lt_of_block hrs;have sr0:=Aa hb9 0;have sr1:=Aa hb9 1;have sr2:=Aa hb9 2;obtain⟨Hrs,Hb9,K9,Sr0,Sr1,Sr2⟩:=hid6 hrs hb9 k9 sr0 sr1 sr2;clear sr2 sr1 sr0 k9 hb9 hrs;obtain⟨Hk1,Hkw⟩:=hid2 hk1 hkw;clear hkw hk1;go_wp2;have R0':=Sr0.o;have R1':=Sr1.o;have R2':=Sr2.o;clear r0 r1 r2;exact bodyPost_ret (v:= .tuple #[.agg #[.slice none 0 0,.int .i64 0,.int .i64 0],.int .i64 z]) j1k rfl ⟨_,rfl,⟨by simp [ps0],.inl ⟨rfl,rfl⟩⟩,Hkw.o.trans (K9.o.mono λi _ e=> .inr jp),λg hg=>by simp [Value.ownBlock] at hg⟩
def mayS(v:Int):Bool:=decide (-1000000000000000<=v)&&decide (v<=1000000000000000)
theorem Jv(v:Int):mayS v=true↔ -1000000000000000<=v/\v<=1000000000000000:=by simp [mayS]
theorem Ac9(v:Int)(w:World):Calls Tryz.prog 242 #[.int .i64 v] w λe w'=>e= .returned (.bool (mayS v))/\w=w':=by
 by_cases h1:v< -1000000000000000
 ·have hf:mayS v=false:=by simp [mayS];omega
  have hd:decide (-1000000000000000<=v)=false:=by rw [decide_eq_false_iff_not];omega
  have Hf:=Lib.hid hf;clear hf;go_enter Tryz.func242,Tryz.ntmps242;exact jN
 ·by_cases h2:1000000000000000<v
  ·have hf:mayS v=false:=by simp [mayS];omega
   have hd:decide (v<=1000000000000000)=false:=by rw [decide_eq_false_iff_not];omega
   exact j33
  ·have hf:mayS v=true:=by simp [mayS];omega
   have hd:decide (v<=1000000000000000)=true:=by rw [decide_eq_true_iff];omega
   exact j33
theorem Gc{v:Int}{b:Bool}(h:mayS v=b)(w:World):Calls Tryz.prog 242 #[.int .i64 v] w λe w'=>e= .returned (.bool b)/\w=w':=by subst h;exact Ac9 v w
def addS:List Int->Int->Int×Int
 | [],s=>(s,0)
 |x::L,s=>if(mayS x&&mayS (s+x))=true then addS L (s+x) else(0,5)
theorem Adz:∀(L:List Int) (s:Int),0<=s->L.all Bt=true->s+sumI L<=1000000000000000->addS L s=(s+sumI L,0):=by
 intro L
 induction L with
 |nil=>intro s _ _ _;simp [addS,sumI]
 |cons x L ih=>
  intro s h0 h1 h2;simp only [List.all_cons,Bool.and_eq_true] at h1;obtain⟨x0,x1⟩:=(Bo x).1 h1.1;have h3:=Rn h1.2;simp only [sumI] at h2⊢;have m1:mayS x=true:=(Jv x).2 j6;have m2:mayS (s+x)=true:=(Jv _).2 j6;simp only [addS,m1,m2,Bool.and_self,if_true];rw [ih (s+x) j6 h1.2 j6,Int.add_assoc]
theorem Aca(L:List Int)(ad:Option Addr)(cap n:Nat)(w:World)(hr:Reads w 1 (.slice ad n cap) n (L.flatMap i64c))(hN:L.length=n)(hl:n<=1000000):
  Calls Tryz.prog 205 #[.slice ad n cap] w λe w'=>e= .returned (.tuple #[.int .i64 (addS L 0).1,.int .i64 (addS L 0).2])/\w=w':=by
 obtain⟨z,hz⟩:=eX (addS L 0);rw [hz];obtain⟨Hr,Hz,HN⟩:=hid3 hr hz hN;clear hN hz hr;go_enter Tryz.func205,Tryz.ntmps205;go_wp2_with fail;refine Az 0 rfl ?_;go_wp2_with fail
 go_loopw [4,9] (λx y wx=>∃(i:Nat) (s:Int),x= .int .i64 s/\y= .int .i64 (i:Nat)/\i<=n/\mayS s=true/\addS (L.drop i) s=z/\w=wx) (λ_ y _=>n-(intOf y).toNat)
 case atStart=>exact⟨0,0,rfl,rfl,Nat.zero_le _,rfl,Hz.o,rfl⟩
 case round=>
  obtain⟨i,s,rfl,rfl,hin,hms,hs,hw⟩:=hrel;subst hw;by_cases hlt:i<n
  ·have hltI:(i:Int)<(n:Int):=j8;obtain⟨x,hx⟩:=Au (L:=L) (k:=i) jW;obtain⟨g,o,he,hc⟩:=Hr.o.int (k:= .i64) hx;subst he;have hgl:=Ag hc;obtain⟨s0,s1⟩:=(Jv s).1 hms
   have hd:L.drop i=x::L.drop (i+1):=by
    exact j34
   rw [hd] at hs;simp only [addS] at hs;rcases m3:mayS x with _|_
   ·rw [m3,Bool.false_and,if_neg j7] at hs;subst hs;obtain⟨Hx,Hms,Hd⟩:=hid3 hx hms hd;clear hd hms hx
    go_wp2_with (go_at_call 242;(with_reducible refine(Gc m3 _).mono ?_);rintro e w1 ⟨rfl,rfl⟩)
    exact j35
   ·obtain⟨x0,x1⟩:=(Jv x).1 m3;rcases m4:mayS (s+x) with _|_
    ·rw [m4,Bool.and_false,if_neg j7] at hs;subst hs;obtain⟨Hx,Hms,Hd⟩:=hid3 hx hms hd;clear hd hms hx
     go_wp2_with (first|(go_at_call 242;(with_reducible refine(Gc m3 _).mono ?_);rintro e w1 ⟨rfl,rfl⟩)|(go_at_call 242;(with_reducible refine(Gc m4 _).mono ?_);rintro e w1 ⟨rfl,rfl⟩))
     exact j35
    ·obtain⟨y0,y1⟩:=(Jv _).1 m4;rw [m3,m4,Bool.and_self,if_pos rfl] at hs;obtain⟨Hx,Hms,Hd,Hs⟩:=hid4 hx hms hd hs;clear hs hd hms hx
     go_wp2_with (first|(go_at_call 242;(with_reducible refine(Gc m3 _).mono ?_);rintro e w1 ⟨rfl,rfl⟩)|(go_at_call 242;(with_reducible refine(Gc m4 _).mono ?_);rintro e w1 ⟨rfl,rfl⟩))
     go_roundw
     case rel=>exact⟨i+1,s+x,rfl,by go_num,by omega,m4,Hs.o,by first|rfl|trivial⟩
     case measure=>simp [intOf];omega
  ·obtain rfl:i=n:=by omega
   rw [List.drop_eq_nil_of_le j1l] at hs;simp only [addS] at hs;subst hs;go_wp2;refine Bq ?_;exact bodyPost_ret (v:= .tuple #[.int .i64 s,.int .i64 0]) (by simp [results,Tryz.results205,go_sem]) rfl ⟨rfl,rfl⟩
theorem Jl(p:Ps)(ad:Option Addr)(cap:Nat)(w:World)(hr:Reads w 1 (.slice ad p.bal.length cap) p.bal.length (p.bal.flatMap i64c))(hl:p.bal.length<=1000):
  Calls Tryz.prog 170 #[p.val (.slice ad p.bal.length cap)] w λe w'=>e= .returned (.int .i64 (if p.Bj=true then sumI p.bal else 0))/\K0 w w':=by
 obtain⟨L,cr,du⟩:=p;simp only [Ps.val] at hr hl⊢;obtain⟨n,hN⟩:=eX L.length;rw [hN] at hr hl⊢;refine j0l ?_;intro hri;refine j0j ?_;intro hbx;rcases hb:Ps.Bj ⟨L,cr,du⟩ with _|_
 ·rw [hb] at hri;rw [if_neg j7];obtain⟨Hr,Hri,Hb,Hbx⟩:=hid4 hr hri hb hbx;clear hbx hb hri hr;go_enter Tryz.func170,Tryz.ntmps170;exact j2Z
 ·rw [hb] at hri;rw [if_pos rfl]
  have had:addS L 0=(sumI L,0):=by
   have h1:=hb;simp only [Ps.Bj,scanB,Bool.and_eq_true] at h1;have h2:=Adz L 0 (Int.le_refl _) h1.1.1 (by have:=(Bo _).1 h1.1.2;omega);rw [h2,Int.zero_add]
  obtain⟨S,hS⟩:=eX (sumI L);rw [hS] at had⊢;have hadd:=λW (hW:K0 w W)=>Aca L ad cap n W (hr.keeps hW (by simp)) hN j6;rw [had] at hadd;obtain⟨Hr,Hri,Hb,Hbx,Had,Hadd,HS⟩:=hid7 hr hri hb hbx had hadd hS;clear hS hadd had hbx hb hri hr;go_enter Tryz.func170,Tryz.ntmps170;go_wp2_with fail;refine(Hri.o _ jf).mono ?_;rintro e w1 ⟨rfl,hk1⟩;have hkw:=(Keeps.alloc w _).nt hk1;have hb1:=Hbx.o w1 hk1;have b0:=Aa hb1 0;have bl:=lt_of_block hb1;obtain⟨Hk1,Hkw,Hb1⟩:=hid3 hk1 hkw hb1;clear hb1 hkw hk1
  go_wp2_with (go_at_call 205;(with_reducible refine(Hadd.o _ Hkw.o).mono ?_);rintro e w2 ⟨rfl,rfl⟩)
  exact j0m
theorem or_pow(k:Nat)(a c:Int)(h0:0<=a)(h1:a*((2 ^ k:Nat):Int)<18446744073709551616)(c0:0<=c)(c1:c<((2 ^ k:Nat):Int))(c2:c<18446744073709551616):bits .or .u64 (a*((2 ^ k:Nat):Int)) c=(a*((2 ^ k:Nat):Int)+c) % 18446744073709551616:=by
 obtain⟨m,rfl⟩:=Int.eq_ofNat_of_zero_le h0;obtain⟨d,rfl⟩:=Int.eq_ofNat_of_zero_le c0;have hor:2 ^ k*m|||d=2 ^ k*m+d:=(Nat.two_pow_add_eq_or_of_lt (i:=k) (b:=d) j6 m).symm
 have e1:((m:Int)*((2 ^ k:Nat):Int))=((2 ^ k*m:Nat):Int):=by push_cast;rw [Int.mul_comm]
 rw [e1] at h1⊢;have hm:(((2 ^ k*m:Nat):Int) % 18446744073709551616).toNat=2 ^ k*m:=j8;have hd:((d:Int) % 18446744073709551616).toNat=d:=j8;simp only [bits,show IntKind.u64.bits=64 from rfl,BitVec.toNat_or,BitVec.toNat_ofInt];simp only [show((2 ^ 64:Nat):Int)=18446744073709551616 from rfl];rw [hm,hd,hor];simp [IntKind.wrap,IntKind.signed,IntKind.bits]
theorem Kz(x:Int)(h0:0<=x)(h1:x<18446744073709551616):bits .and .u64 x 4294967295=x % 4294967296:=by
 obtain⟨m,rfl⟩:=Int.eq_ofNat_of_zero_le h0;have hm:((m:Int) % 18446744073709551616).toNat=m:=j8;have hand:m&&&4294967295=m % 4294967296:=Nat.and_two_pow_sub_one_eq_mod m 32;simp only [bits,show IntKind.u64.bits=64 from rfl,BitVec.toNat_and,BitVec.toNat_ofInt];simp only [show((2 ^ 64:Nat):Int)=18446744073709551616 from rfl];rw [hm,show((4294967295:Int) % 18446744073709551616).toNat=4294967295 by decide,hand];simp [IntKind.wrap,IntKind.signed,IntKind.bits];omega
theorem len64_9(w:World):Calls Tryz.prog 304 #[.int .u64 1000000000] w λe w'=>e= .returned (.int .i64 30)/\w=w':=by
 go_enter Tryz.func304,Tryz.ntmps304;go_wp2;go_ret;exact⟨by kernel_rfl,rfl⟩
theorem len64_3(w:World):Calls Tryz.prog 304 #[.int .u64 1000] w λe w'=>e= .returned (.int .i64 10)/\w=w':=by
 go_enter Tryz.func304,Tryz.ntmps304;go_wp2;go_ret;exact⟨by kernel_rfl,rfl⟩
theorem lz64_9(w:World):Calls Tryz.prog 303 #[.int .u64 1000000000] w λe w'=>e= .returned (.int .i64 34)/\w=w':=by
 go_enter Tryz.func303,Tryz.ntmps303
 go_wp2_with (go_at_call 304;(with_reducible refine(len64_9 _).mono ?_);rintro e w1 ⟨rfl,rfl⟩)
 go_ret;exact⟨rfl,rfl⟩
theorem lz64_3(w:World):Calls Tryz.prog 303 #[.int .u64 1000] w λe w'=>e= .returned (.int .i64 54)/\w=w':=by
 go_enter Tryz.func303,Tryz.ntmps303
 go_wp2_with (go_at_call 304;(with_reducible refine(len64_3 _).mono ?_);rintro e w1 ⟨rfl,rfl⟩)
 go_ret;exact⟨rfl,rfl⟩
theorem div64_9(hi lo:Int)(w:World)(h0:0<=hi)(h1:hi<1000000000)(l0:0<=lo)(l1:lo<18446744073709551616):
  Calls Tryz.prog 298 #[.int .u64 hi,.int .u64 lo,.int .u64 1000000000] w λe w'=>e= .returned (.tuple #[.int .u64 ((hi*18446744073709551616+lo) / 1000000000),.int .u64 ((hi*18446744073709551616+lo) % 1000000000)])/\K0 w w':=by
 by_cases hz:hi=0
 ·subst hz;have e1:(0*18446744073709551616+lo)=lo:=j8;rw [e1];have t1:lo.tdiv 1000000000=lo / 1000000000:=Int.tdiv_eq_ediv_of_nonneg l0;have t2:lo.tmod 1000000000=lo % 1000000000:=Int.tmod_eq_emod_of_nonneg l0;have b1:0<=lo / 1000000000:=j8;have b2:lo / 1000000000<18446744073709551616:=j8;have b3:0<=lo % 1000000000:=j8;have b4:lo % 1000000000<1000000000:=j8;have b5:IntKind.u64.wrap (lo / 1000000000)=lo / 1000000000:=by simp [IntKind.wrap,IntKind.signed,IntKind.bits];omega
  have b6:IntKind.u64.wrap (lo % 1000000000)=lo % 1000000000:=by simp [IntKind.wrap,IntKind.signed,IntKind.bits];omega
  go_enter Tryz.func298,Tryz.ntmps298;go_wp2;refine Ak (λ_=>True) (.take 0 (.take 1 (.take 2 (.take 3 (.take 4 (.take 5 (.take 6 (.take 7 .done)))))))) j9 j9 ?_ ?_
  ·trivial
  intro w1 hs1 hk1;refine jo ?_;go_wp2;exact bodyPost_ret (v:= .tuple #[.int .u64 (lo / 1000000000),.int .u64 (lo % 1000000000)]) j0H rfl ⟨rfl,hk1⟩
 ·have hzI:(hi==0)=false:=beq_eq_false_iff_ne.2 hz;have hleI:decide ((1000000000:Int)<=hi)=false:=by rw [decide_eq_false_iff_not];omega
  obtain⟨V,hV⟩:=eY (IntKind.u64.wrap (lo*17179869184));have hV2:V=lo*17179869184 % 18446744073709551616:=by rw [hV];simp [IntKind.wrap,IntKind.signed,IntKind.bits]
  have hV':IntKind.u64.wrap (lo*17179869184)=V:=hV.symm;obtain⟨V1,hV1⟩:=eX (V / 4294967296);obtain⟨V0,hV0⟩:=eX (bits .and .u64 V 4294967295);have hV0':V % 4294967296=V0:=by rw [<-hV0,Kz V j6 j6]
  have hA0:bits .and .u64 17179869184000000000 4294967295=0:=by rw [Kz _ j7 j7];decide
  obtain⟨U,hU⟩:=eX (bits .or .u64 (hi*17179869184) (lo / 1073741824))
  have hU2:U=hi*17179869184+lo / 1073741824:=by
   have h:=or_pow 34 hi (lo / 1073741824) h0 j36 j6 j36 j6;simp only [show((2 ^ 34:Nat):Int)=17179869184 from rfl] at h;rw [<-hU,h];omega
  have u0:0<=U:=j8;have u1:U<4000000000*4294967296:=j8;obtain⟨q1,hq1⟩:=eX (U.tdiv 4000000000);have hq1':q1=U / 4000000000:=by rw [<-hq1];exact Int.tdiv_eq_ediv_of_nonneg u0
  have q10:0<=q1:=j8;have q11:q1<4294967296:=j8;obtain⟨r1,hr1⟩:=eX (U-q1*4000000000);have r10:0<=r1:=j8;have r11:r1<4000000000:=j8;have v10:0<=V1:=j8;have v11:V1<4294967296:=j8;have qn:decide (4294967296<=q1)=false:=by rw [decide_eq_false_iff_not];omega
  obtain⟨X,hX⟩:=eY (r1*4294967296+V1);have x0:0<=X:=j8;have x1:X<18446744073709551616:=j8;have hxx:4294967296*r1+V1=X:=j8;have xn:decide (X<0)=false:=by rw [decide_eq_false_iff_not];omega
  obtain⟨A1,hA1⟩:=eX (IntKind.u64.wrap (U*4294967296));obtain⟨A2,hA2⟩:=eX (IntKind.u64.wrap (A1+V1));obtain⟨A3,hA3⟩:=eX (IntKind.u64.wrap (q1*17179869184000000000))
  have hA4:IntKind.u64.wrap (A2-A3)=X:=by
   simp [IntKind.wrap,IntKind.signed,IntKind.bits] at hA1 hA2 hA3⊢;omega
  obtain⟨q0,hq0⟩:=eX (X.tdiv 4000000000);have hq0':q0=X / 4000000000:=by rw [<-hq0];exact Int.tdiv_eq_ediv_of_nonneg x0
  have q00:0<=q0:=j8;have q01:q0<4294967296:=j8;obtain⟨r0,hr0⟩:=eX (X-q0*4000000000);have r00:0<=r0:=j8;have r01:r0<4000000000:=j8;have qn0:decide (4294967296<=q0)=false:=by rw [decide_eq_false_iff_not];omega
  have v00:0<=V0:=j8;have v01:V0<4294967296:=j8;obtain⟨Y,hY⟩:=eY (r0*4294967296+V0);have y0:0<=Y:=j8;have y1:Y<18446744073709551616:=j8;have hyy:4294967296*r0+V0=Y:=j8;have yn:decide (Y<0)=false:=by rw [decide_eq_false_iff_not];omega
  obtain⟨B1,hB1⟩:=eX (IntKind.u64.wrap (X*4294967296));obtain⟨B2,hB2⟩:=eX (IntKind.u64.wrap (B1+V0));obtain⟨B3,hB3⟩:=eX (IntKind.u64.wrap (q0*17179869184000000000))
  have hB4:IntKind.u64.wrap (B2-B3)=Y:=by
   simp [IntKind.wrap,IntKind.signed,IntKind.bits] at hB1 hB2 hB3⊢;omega
  obtain⟨N,hN⟩:=eY (hi*18446744073709551616+lo)
  have hfin:q1*4294967296+q0=N / 1000000000/\Y / 17179869184=N % 1000000000:=by
   have k1:N*17179869184=U*18446744073709551616+V:=j8;have k2:N*17179869184=(q1*4294967296+q0)*17179869184000000000+Y:=j8;omega
  rw [<-hN];obtain⟨HV,HV2,HU2,Hq1',HX,Hq0',HY,HN,Hfin⟩:=hid9 hV hV2 hU2 hq1' hX hq0' hY hN hfin;clear hfin hN hY hq0' hX hq1' hU2 hV2 hV;have HV0':=Lib.hid hV0';clear hV0';go_enter Tryz.func298,Tryz.ntmps298
  go_wp2_with (go_at_call 303;(with_reducible refine(lz64_9 _).mono ?_);rintro e w1 ⟨rfl,rfl⟩)
  go_loop [15,16] (λx y=>x= .int .u64 q1/\y= .int .u64 r1) (λ_ _=>0)
  case atStart=>exact⟨rfl,rfl⟩
  case round=>
   obtain⟨rfl,rfl⟩:=hrel;go_wp2
   go_loop [18,16] (λx y=>x= .int .u64 q0/\y= .int .u64 r0) (λ_ _=>0)
   case atStart=>exact⟨rfl,rfl⟩
   case round=>
    obtain⟨rfl,rfl⟩:=hrel;go_wp2;exact bodyPost_ret (v:= .tuple #[.int .u64 (q1*4294967296+q0),.int .u64 (Y / 17179869184)]) j0H rfl ⟨by rw [Hfin.o.1,Hfin.o.2],Keeps.refl _ _⟩
theorem div64_3(hi lo:Int)(w:World)(h0:0<=hi)(h1:hi<1000)(l0:0<=lo)(l1:lo<18446744073709551616):
  Calls Tryz.prog 298 #[.int .u64 hi,.int .u64 lo,.int .u64 1000] w λe w'=>e= .returned (.tuple #[.int .u64 ((hi*18446744073709551616+lo) / 1000),.int .u64 ((hi*18446744073709551616+lo) % 1000)])/\K0 w w':=by
 by_cases hz:hi=0
 ·subst hz;have e1:(0*18446744073709551616+lo)=lo:=j8;rw [e1];have t1:lo.tdiv 1000=lo / 1000:=Int.tdiv_eq_ediv_of_nonneg l0;have t2:lo.tmod 1000=lo % 1000:=Int.tmod_eq_emod_of_nonneg l0;have b1:0<=lo / 1000:=j8;have b2:lo / 1000<18446744073709551616:=j8;have b3:0<=lo % 1000:=j8;have b4:lo % 1000<1000:=j8;have b5:IntKind.u64.wrap (lo / 1000)=lo / 1000:=by simp [IntKind.wrap,IntKind.signed,IntKind.bits];omega
  have b6:IntKind.u64.wrap (lo % 1000)=lo % 1000:=by simp [IntKind.wrap,IntKind.signed,IntKind.bits];omega
  go_enter Tryz.func298,Tryz.ntmps298;go_wp2;refine Ak (λ_=>True) (.take 0 (.take 1 (.take 2 (.take 3 (.take 4 (.take 5 (.take 6 (.take 7 .done)))))))) j9 j9 ?_ ?_
  ·trivial
  intro w1 hs1 hk1;refine jo ?_;go_wp2;exact bodyPost_ret (v:= .tuple #[.int .u64 (lo / 1000),.int .u64 (lo % 1000)]) j0H rfl ⟨rfl,hk1⟩
 ·have hzI:(hi==0)=false:=beq_eq_false_iff_ne.2 hz;have hleI:decide ((1000:Int)<=hi)=false:=by rw [decide_eq_false_iff_not];omega
  obtain⟨V,hV⟩:=eY (IntKind.u64.wrap (lo*18014398509481984));have hV2:V=lo*18014398509481984 % 18446744073709551616:=by rw [hV];simp [IntKind.wrap,IntKind.signed,IntKind.bits]
  have hV':IntKind.u64.wrap (lo*18014398509481984)=V:=hV.symm;obtain⟨V1,hV1⟩:=eX (V / 4294967296);obtain⟨V0,hV0⟩:=eX (bits .and .u64 V 4294967295);have hV0':V % 4294967296=V0:=by rw [<-hV0,Kz V j6 j6]
  have hA0:bits .and .u64 18014398509481984000 4294967295=0:=by rw [Kz _ j7 j7];decide
  obtain⟨U,hU⟩:=eX (bits .or .u64 (hi*18014398509481984) (lo / 1024))
  have hU2:U=hi*18014398509481984+lo / 1024:=by
   have h:=or_pow 54 hi (lo / 1024) h0 j37 j6 j37 j6;simp only [show((2 ^ 54:Nat):Int)=18014398509481984 from rfl] at h;rw [<-hU,h];omega
  have u0:0<=U:=j8;have u1:U<4194304000*4294967296:=j8;obtain⟨q1,hq1⟩:=eX (U.tdiv 4194304000);have hq1':q1=U / 4194304000:=by rw [<-hq1];exact Int.tdiv_eq_ediv_of_nonneg u0
  have q10:0<=q1:=j8;have q11:q1<4294967296:=j8;obtain⟨r1,hr1⟩:=eX (U-q1*4194304000);have r10:0<=r1:=j8;have r11:r1<4194304000:=j8;have v10:0<=V1:=j8;have v11:V1<4294967296:=j8;have qn:decide (4294967296<=q1)=false:=by rw [decide_eq_false_iff_not];omega
  obtain⟨X,hX⟩:=eY (r1*4294967296+V1);have x0:0<=X:=j8;have x1:X<18446744073709551616:=j8;have hxx:4294967296*r1+V1=X:=j8;have xn:decide (X<0)=false:=by rw [decide_eq_false_iff_not];omega
  obtain⟨A1,hA1⟩:=eX (IntKind.u64.wrap (U*4294967296));obtain⟨A2,hA2⟩:=eX (IntKind.u64.wrap (A1+V1));obtain⟨A3,hA3⟩:=eX (IntKind.u64.wrap (q1*18014398509481984000))
  have hA4:IntKind.u64.wrap (A2-A3)=X:=by
   simp [IntKind.wrap,IntKind.signed,IntKind.bits] at hA1 hA2 hA3⊢;omega
  obtain⟨q0,hq0⟩:=eX (X.tdiv 4194304000);have hq0':q0=X / 4194304000:=by rw [<-hq0];exact Int.tdiv_eq_ediv_of_nonneg x0
  have q00:0<=q0:=j8;have q01:q0<4294967296:=j8;obtain⟨r0,hr0⟩:=eX (X-q0*4194304000);have r00:0<=r0:=j8;have r01:r0<4194304000:=j8;have qn0:decide (4294967296<=q0)=false:=by rw [decide_eq_false_iff_not];omega
  have v00:0<=V0:=j8;have v01:V0<4294967296:=j8;obtain⟨Y,hY⟩:=eY (r0*4294967296+V0);have y0:0<=Y:=j8;have y1:Y<18446744073709551616:=j8;have hyy:4294967296*r0+V0=Y:=j8;have yn:decide (Y<0)=false:=by rw [decide_eq_false_iff_not];omega
  obtain⟨B1,hB1⟩:=eX (IntKind.u64.wrap (X*4294967296));obtain⟨B2,hB2⟩:=eX (IntKind.u64.wrap (B1+V0));obtain⟨B3,hB3⟩:=eX (IntKind.u64.wrap (q0*18014398509481984000))
  have hB4:IntKind.u64.wrap (B2-B3)=Y:=by
   simp [IntKind.wrap,IntKind.signed,IntKind.bits] at hB1 hB2 hB3⊢;omega
  obtain⟨N,hN⟩:=eY (hi*18446744073709551616+lo)
  have hfin:q1*4294967296+q0=N / 1000/\Y / 18014398509481984=N % 1000:=by
   have k1:N*18014398509481984=U*18446744073709551616+V:=j8;have k2:N*18014398509481984=(q1*4294967296+q0)*18014398509481984000+Y:=j8;omega
  rw [<-hN];obtain⟨HV,HV2,HU2,Hq1',HX,Hq0',HY,HN,Hfin⟩:=hid9 hV hV2 hU2 hq1' hX hq0' hY hN hfin;clear hfin hN hY hq0' hX hq1' hU2 hV2 hV;have HV0':=Lib.hid hV0';clear hV0';go_enter Tryz.func298,Tryz.ntmps298
  go_wp2_with (go_at_call 303;(with_reducible refine(lz64_3 _).mono ?_);rintro e w1 ⟨rfl,rfl⟩)
  go_loop [15,16] (λx y=>x= .int .u64 q1/\y= .int .u64 r1) (λ_ _=>0)
  case atStart=>exact⟨rfl,rfl⟩
  case round=>
   obtain⟨rfl,rfl⟩:=hrel;go_wp2
   go_loop [18,16] (λx y=>x= .int .u64 q0/\y= .int .u64 r0) (λ_ _=>0)
   case atStart=>exact⟨rfl,rfl⟩
   case round=>
    obtain⟨rfl,rfl⟩:=hrel;go_wp2;exact bodyPost_ret (v:= .tuple #[.int .u64 (q1*4294967296+q0),.int .u64 (Y / 18014398509481984)]) j0H rfl ⟨by rw [Hfin.o.1,Hfin.o.2],Keeps.refl _ _⟩
def evenI(N D:Int):Int:=if 2*(N % D)<D\/(2*(N % D)=D/\N / D % 2=0) then N / D else N / D+1
theorem Si(hi lo D N:Int)(hD:0<D)(hD2:D<4294967296)(hN:hi*18446744073709551616+lo=N)(_:0<=hi)(h1:hi<D)(_:0<=lo)(_:lo<18446744073709551616)(hq:N / D<1000000000000000000)(hr:0<=N % D/\N % D<D)(hq0:0<=N / D)
  (hdiv:∀w,Calls Tryz.prog 298 #[.int .u64 hi,.int .u64 lo,.int .u64 D] w λe w'=>e= .returned (.tuple #[.int .u64 (N / D),.int .u64 (N % D)])/\K0 w w') (w:World):
  Calls Tryz.prog 281 #[.int .u64 hi,.int .u64 lo,.int .u64 D] w λe w'=>e= .returned (.tuple #[.int .u64 (evenI N D),.bool true])/\K0 w w':=by
 obtain⟨Z,hZ⟩:=eX (evenI N D);rw [hZ];unfold evenI at hZ;obtain⟨q,hqq⟩:=eX (N / D);obtain⟨r,hrr⟩:=eX (N % D);rw [hqq] at hq hq0 hdiv hZ;rw [hrr] at hr hdiv hZ;obtain⟨r0,r1⟩:=hr;have hdn:¬D<=hi:=j8;by_cases c1:r<D-r
 ·have c1I:decide (r<D-r)=true:=by rw [decide_eq_true_iff];exact c1
  rw [if_pos j6] at hZ;subst hZ;clear c1;exact j38
 ·have c1I:decide (r<D-r)=false:=by rw [decide_eq_false_iff_not];exact c1
  by_cases c2:r=D-r
  ·have c2I:(r==D-r)=true:=by rw [beq_iff_eq];exact c2
   by_cases c3:q % 2=0
   ·have c3I:(q % 2==0)=true:=by rw [beq_iff_eq];exact c3
    rw [if_pos j6] at hZ;subst hZ;clear c1 c2 c3;exact j38
   ·have c3I:(q % 2==0)=false:=beq_eq_false_iff_ne.2 c3;rw [if_neg j6] at hZ;subst hZ;clear c1 c2 c3;exact j39
  ·have c2I:(r==D-r)=false:=beq_eq_false_iff_ne.2 c2;rw [if_neg j6] at hZ;subst hZ;clear c1 c2;exact j39
theorem even9(N:Int)(n0:0<=N)(n1:N<1000000000000000000000000000)(w:World):
  Calls Tryz.prog 281 #[.int .u64 (N / 18446744073709551616),.int .u64 (N % 18446744073709551616),.int .u64 1000000000] w λe w'=>e= .returned (.tuple #[.int .u64 (evenI N 1000000000),.bool true])/\K0 w w':=by
 have e1:N / 18446744073709551616*18446744073709551616+N % 18446744073709551616=N:=j8;refine Si _ _ _ N j7 j7 e1 j6 j6 j6 j6 j6 j6 j6 (λw=> ?_) w;have h:=div64_9 (N / 18446744073709551616) (N % 18446744073709551616) w j6 j6 j6 j6;rw [e1] at h;exact h
theorem even3(N:Int)(n0:0<=N)(n1:N<=1000000000000000000)(w:World):
  Calls Tryz.prog 281 #[.int .u64 (N / 18446744073709551616),.int .u64 (N % 18446744073709551616),.int .u64 1000] w λe w'=>e= .returned (.tuple #[.int .u64 (evenI N 1000),.bool true])/\K0 w w':=by
 have e1:N / 18446744073709551616*18446744073709551616+N % 18446744073709551616=N:=j8;refine Si _ _ _ N j7 j7 e1 j6 j6 j6 j6 j6 j6 j6 (λw=> ?_) w;have h:=div64_3 (N / 18446744073709551616) (N % 18446744073709551616) w j6 j6 j6 j6;rw [e1] at h;exact h
theorem Ve{N D M:Int}(hD:0<D)(h0:0<=N)(h:N<=M*D):0<=evenI N D/\evenI N D<=M:=by
 have h1:0<=N % D:=Int.emod_nonneg _ j6;have h2:N % D<D:=Int.emod_lt_of_pos _ hD;have h3:N / D*D+N % D=N:=Int.ediv_mul_add_emod N D;have h4:0<=N / D:=Int.ediv_nonneg h0 j6;have h5:N / D<=M:=Int.ediv_le_of_le_mul hD h;unfold evenI
 split
 ·exact⟨h4,h5⟩
 ·rename_i hn;refine⟨by omega, ?_⟩;rcases Int.lt_or_eq_of_le h5 with h6|h6
  ·omega
  ·exfalso;rw [h6] at h3;omega
theorem Aa7(a num:Int)(h0:0<=a)(h1:a<=1000000000000000)(n0:0<=num)(n1:num<=1000)(w:World):
  Calls Tryz.prog 283 #[.int .i64 a,.int .i64 num,.int .i64 1000] w λe w'=>e= .returned (.tuple #[.int .i64 (evenI (a*num) 1000),.int .i64 0])/\K0 w w':=by
 have hN0:0<=a*num:=Int.mul_nonneg h0 n0;have hN1:a*num<=1000000000000000*1000:=Int.mul_le_mul h1 n1 n0 j7;have hmay:=λW=>Gc (v:=a) (b:=true) ((Jv a).2 j6) W;have hmul:=λW=>Xx a num h0 j6 n0 j6 W;have hev:=even3 (a*num) hN0 j6;obtain⟨N,hN⟩:=eX (a*num);rw [hN] at hN0 hN1 hmul hev⊢;have hbd:=Ve (N:=N) (D:=1000) (M:=1000000000000000) j7 hN0 hN1;obtain⟨Z,hZ⟩:=eX (evenI N 1000);rw [hZ] at hev hbd⊢;obtain⟨z0,z1⟩:=hbd;have zn:decide (1000000000000000<Z)=false:=by rw [decide_eq_false_iff_not];omega
 have an:¬a<0:=j8;obtain⟨A,hA⟩:=eX (N / 18446744073709551616);obtain⟨B,hB⟩:=eX (N % 18446744073709551616);rw [hA,hB] at hmul hev;obtain⟨Hmay,Hmul,Hev,HN,HA,HB,HZ⟩:=hid7 hmay hmul hev hN hA hB hZ;clear hZ hB hA hN hev hmul hmay;go_enter Tryz.func283,Tryz.ntmps283
 go_wp2_with (first|(go_at_call 242;(with_reducible refine(Hmay.o _).mono ?_);rintro e w1 ⟨rfl,rfl⟩)|(go_at_call 296;(with_reducible refine(Hmul.o _).mono ?_);rintro e w1 ⟨rfl,rfl⟩)|(go_at_call 281;(with_reducible refine(Hev.o _).mono ?_);rintro e w1 ⟨rfl,hk1⟩;have Hk1:=Lib.hid hk1;clear hk1))
 exact bodyPost_ret (v:= .tuple #[.int .i64 Z,.int .i64 0]) (by simp [results,Tryz.results283,go_sem]) rfl ⟨rfl,Hk1.o⟩
def outM(m v:Int):Bool:=decide (v<0)||decide (m<v)
theorem Uv(B:Nat)(m x:Int)(w:World)(hB:w.cell? ⟨B,0,none⟩=some (.int .i64 m)):Calls Tryz.prog 302 #[.int .i64 x,(.pointer (some ⟨B,0,none⟩))] w λe w'=>e= .returned (.bool (outM m x))/\w=w':=by
 have hl:=Ag hB;by_cases h1:x<0
 ·have hf:outM m x=true:=by simp [outM];omega
  have h1I:decide (x<0)=true:=by simp [h1]
  exact j1m
 ·have h1I:decide (x<0)=false:=by simp [h1]
  have hf:outM m x=decide (m<x):=by simp [outM,h1I]
  rcases h2:decide (m<x) with _|_
  ·rw [h2] at hf;exact j1m
  ·rw [h2] at hf;exact j1m
theorem Sz(Bm:Nat)(m:Int)(ad:Option Addr)(cap:Nat)(L:List Int)(w:World)(hB:w.cell? ⟨Bm,0,none⟩=some (.int .i64 m))(hr:Reads w 1 (.slice ad L.length cap) L.length (L.flatMap i64c))(hl:L.length<=100000):
  Calls Tryz.prog 287 #[.slice ad L.length cap,.func (.func 302) #[] #[(.pointer (some ⟨Bm,0,none⟩))]] w λe w'=>∃r:Int,e= .returned (.int .i64 r)/\decide (0<=r)=L.any (outM m)/\w=w':=by
 obtain⟨Hr,HB⟩:=hid2 hr hB;clear hB hr;go_enter Tryz.func287,Tryz.ntmps287;go_wp2_with fail
 go_loop [8] (λc=>∃j:Nat,j<=L.length/\c= .int .i64 (j:Nat)/\(L.take j).any (outM m)=false) (λc=>L.length-(intOf c).toNat)
 case atStart=>exact⟨0,Nat.zero_le _,rfl,rfl⟩
 case round=>
  obtain⟨j,hj,rfl,hok⟩:=hrel;by_cases hjl:j<L.length
  ·obtain⟨x,hx⟩:=Au hjl;obtain⟨g,o,rfl,x0⟩:=Hr.o.int hx;have hsn:=Gj (q:=(outM m)) hx;rw [hok] at hsn;have hcl:=Uv Bm m x w HB.o;rcases m1:outM m x with _|_
   ·have hok':(L.take (j+1)).any (outM m)=false:=by rw [hsn,m1];rfl
    rw [m1] at hcl;obtain⟨Hsn,Hx,Hok,Hok',Hcl⟩:=hid5 hsn hx hok hok' hcl;clear hcl hok' hok hx hsn
    go_wp2_with (go_at_call 302;((with_reducible refine Hcl.o.mono ?_);rintro e w1 ⟨rfl,rfl⟩))
    exact j0c
   ·have hf:=Ky (q:=(outM m)) hx m1;have hj0:decide ((0:Int)<=(j:Int))=true:=by simp
    rw [m1] at hcl;obtain⟨Hf,Hsn,Hx,Hj0,Hcl⟩:=hid5 hf hsn hx hj0 hcl;clear hcl hj0 hx hsn hf
    go_wp2_with (go_at_call 302;((with_reducible refine Hcl.o.mono ?_);rintro e w1 ⟨rfl,rfl⟩))
    exact j0x
  ·exact j0d
theorem Pj(Bm:Nat)(m:Int)(ad:Option Addr)(cap:Nat)(L:List Int)(w:World)(hB:w.cell? ⟨Bm,0,none⟩=some (.int .i64 m))(hr:Reads w 1 (.slice ad L.length cap) L.length (L.flatMap i64c))(hl:L.length<=100000):
  Calls Tryz.prog 267 #[.slice ad L.length cap,.func (.func 302) #[] #[(.pointer (some ⟨Bm,0,none⟩))]] w λe w'=>e= .returned (.bool (L.any (outM m)))/\w=w':=by
 obtain⟨Hr,HB⟩:=hid2 hr hB;clear hB hr;go_enter Tryz.func267,Tryz.ntmps267
 go_wp2_with (go_at_call 287;refine(Sz Bm m _ _ L _ HB.o Hr.o hl).mono ?_;rintro e w1 ⟨r,rfl,hd,rfl⟩;have Hd:=Lib.hid hd;clear hd)
 exact j0e
theorem Nr(m:Int)(ad:Option Addr)(cap n:Nat)(L:List Int)(w:World)(hr:Reads w 1 (.slice ad n cap) n (L.flatMap i64c))(hN:L.length=n)(hl:n<=100000):
  Calls Tryz.prog 295 #[.slice ad n cap,.int .i64 m] w λe w'=>e= .returned (.bool (!(L.any (outM m))))/\K0 w w':=by
 subst hN;have hc:=fun(W:World) (hB:W.cell? ⟨w.heap.size,0,none⟩=some (.int .i64 m)) (hW:K0 w W)=>Pj w.heap.size m ad cap L W hB (hr.keeps hW (by simp)) hl;obtain⟨z,hz⟩:=eX (L.any (outM m));rw [hz] at hc⊢;obtain⟨Hr,Hc,Hz⟩:=hid3 hr hc hz;clear hz hc hr;go_enter Tryz.func295,Tryz.ntmps295;go_wp2_with fail;refine(Hc.o _ (Aa (heap_alloc_new w _) 0) (Keeps.alloc _ _)).mono ?_;rintro e w1 ⟨rfl,rfl⟩;go_wp2;go_ret;exact⟨rfl,Keeps.alloc _ _⟩
theorem Xu{m:Int}{L:List Int}(h:∀x∈L,0<=x/\x<=m):L.any (outM m)=false:=by
 rw [Bool.eq_false_iff];intro hh;obtain⟨x,hx,h2⟩:=List.any_eq_true.1 hh;have:=h x hx;simp [outM] at h2;omega
def dotI:List Int->List Int->Int
 |x::X,y::Y=>x*y+dotI X Y
 |_,_=>0
theorem dotI_snoc:∀(X Y:List Int) (x y:Int),X.length=Y.length->dotI (X++ [x]) (Y++ [y])=dotI X Y+x*y:=by
 intro X
 induction X with
 |nil=>intro Y x y h;cases Y<;>simp_all [dotI]
 |cons a X ih=>
  intro Y x y h
  cases Y with
  |nil=>simp at h
  |cons b Y=>
   simp only [List.cons_append,dotI];rw [ih Y x y (by simpa using h)];omega
theorem dotI_take{X Y:List Int}{k:Nat}{x y:Int}(hl:X.length=Y.length)(hx:X[k]?=some x)(hy:Y[k]?=some y):dotI (X.take (k+1)) (Y.take (k+1))=dotI (X.take k) (Y.take k)+x*y:=by
 rw [take_snoc' hx,take_snoc' hy,dotI_snoc _ _ _ _ (by rw [List.length_take,List.length_take,hl])]
theorem prod_bd{x y:Int}(hx:0<=x/\x<=1000000000000000)(hy:0<=y/\y<=10000000):0<=x*y/\x*y<=10000000000000000000000:=
 ⟨Int.mul_nonneg hx.1 hy.1,Int.le_trans (Int.mul_le_mul hx.2 hy.2 hy.1 (by decide)) (by decide)⟩
theorem Zu:∀(X Y:List Int),(∀x∈X,0<=x/\x<=1000000000000000)->(∀y∈Y,0<=y/\y<=10000000)->0<=dotI X Y/\dotI X Y<=10000000000000000000000*X.length:=by
 intro X
 induction X with
 |nil=>intro Y _ _;cases Y<;>simp [dotI]
 |cons a X ih=>
  intro Y hX hY
  cases Y with
  |nil=>simp only [dotI,List.length_cons];omega
  |cons b Y=>
   have h1:=ih Y (λx hx=>hX x (List.mem_cons_of_mem _ hx)) (λy hy=>hY y (List.mem_cons_of_mem _ hy));have h2:=prod_bd (hX a (List.mem_cons_self ..)) (hY b (List.mem_cons_self ..));simp only [dotI,List.length_cons]
   push_cast
   omega
theorem Ae0(x y c:Int)(hx:0<=x)(hx':x<18446744073709551616)(hy:0<=y)(hy':y<18446744073709551616)(hc:0<=c)(hc':c<=1)(w:World):
  (callFunc 297 #[.int .u64 x,.int .u64 y,.int .u64 c]).run Tryz.prog w= .ok (.value (.tuple #[.int .u64 ((x+y+c) % 18446744073709551616),.int .u64 ((x+y+c) / 18446744073709551616)])) w:=by
 obtain⟨a,rfl⟩:=Int.eq_ofNat_of_zero_le hx;obtain⟨b,rfl⟩:=Int.eq_ofNat_of_zero_le hy;obtain⟨d,rfl⟩:=Int.eq_ofNat_of_zero_le hc;have h:=run_add64 (P:=Tryz.prog) a b d j6 j6 j6 j6 w;rw [run_callFunc_extern Tryz.func297 j9 j9 j9 (e:=add64Entry) j9];rw [h];simp only [Result.andThen]
def ofR(X Y:List Int):Int×Int:=if 1000000000000000<evenI (dotI X Y) 1000000000 then(0,5) else(evenI (dotI X Y) 1000000000,0)
def exS(g1 o1 g2 o2:Nat)(x y:Int)(W:World):Prop:=W.cell? ⟨g1,o1,none⟩=some (.int .i64 x)/\W.cell? ⟨g2,o2,none⟩=some (.int .i64 y)
def exFr(v1 v2:Value)(hi lo:Int)(k:Nat)(u:Nat->Value):Act:={ tmps:= #[v1,v2,u 2,u 3,u 4,u 5,u 6,.int .u64 hi,.int .u64 lo,u 9,u 10,u 11,.int .i64 k,u 13,u 14,u 15,u 16,u 17,u 18,u 19,u 20,u 21,u 22,u 23,u 24,u 25,u 26,u 27,u 28,u 29,u 30,u 31,u 32,u 33,u 34,u 35,u 36,u 37,u 38,u 39,u 40,u 41,u 42,u 43,u 44,u 45,u 46,u 47,u 48,u 49,u 50,u 51,u 52,u 53,u 54,u 55,u 56,u 57,u 58,u 59,u 60,u 61,u 62,u 63,u 64,u 65,u 66,u 67],defers:= [] }
def exJ(w:World)(v1 v2:Value)(X Y:List Int)(n:Nat)(a':Act)(W:World):Prop:=∃(k:Nat) (N:Int) (u:Nat->Value),a'=exFr v1 v2 (N / 18446744073709551616) (N % 18446744073709551616) k u/\K0 w W/\k<=n/\dotI (X.take k) (Y.take k)=N
theorem exJ.mk{w W:World}{v1 v2:Value}{X Y:List Int}{n:Nat}{a':Act}(k:Nat)(N:Int)(h:a'=exFr v1 v2 (N / 18446744073709551616) (N % 18446744073709551616) k (λi=>a'.tmps.getD i undef))(hw:K0 w W)(hn:k<=n)(hp:dotI (X.take k) (Y.take k)=N):exJ w v1 v2 X Y n a' W:=⟨k,N,_,h,hw,hn,hp⟩
def Aar(i:Nat)(a':Act):Nat:=match a'.tmps.getD i undef with| .int _ n=>n.toNat|_=>0
theorem Zk(X Y:List Int)(ad1 ad2:Option Addr)(c1 c2 n:Nat)(w:World)(hr1:Reads w 1 (.slice ad1 n c1) n (X.flatMap i64c))(hX:X.length=n)(hr2:Reads w 1 (.slice ad2 n c2) n (Y.flatMap i64c))(hY:Y.length=n)(hn:n<=40000)
  (hXb:∀x∈X,0<=x/\x<=1000000000000000) (hYb:∀y∈Y,0<=y/\y<=10000000):
  Calls Tryz.prog 280 #[.slice ad1 n c1,.slice ad2 n c2] w λe w'=>e= .returned (.tuple #[.int .u64 (dotI X Y / 18446744073709551616),.int .u64 (dotI X Y % 18446744073709551616),.int .i64 0])/\K0 w w':=by
 have hw1:=λW (hW:K0 w W)=>Nr 1000000000000000 ad1 c1 n X W (hr1.keeps hW (by simp)) hX j6;have hw2:=λW (hW:K0 w W)=>Nr 10000000 ad2 c2 n Y W (hr2.keeps hW (by simp)) hY j6;rw [Xu hXb,Bool.not_false] at hw1;rw [Xu hYb,Bool.not_false] at hw2;obtain⟨R,hR⟩:=eX (dotI X Y);rw [hR];have hnI:decide ((40000:Int)<(n:Int))=false:=by rw [decide_eq_false_iff_not];omega
 have hne:((n:Int) !=(n:Int))=false:=by simp
 obtain⟨Hr1,HX,Hr2,HY,HXb,HYb,Hw1,Hw2,HR⟩:=hid9 hr1 hX hr2 hY hXb hYb hw1 hw2 hR;clear hR hw2 hw1 hYb hXb hY hr2 hX hr1;go_enter Tryz.func280,Tryz.ntmps280;go_wp2;refine Cx 0 (exJ w (.slice ad1 n c1) (.slice ad2 n c2) X Y n) (λa' _=>n-Aar 12 a') rfl ?_ ?_
 ·rintro a' W ⟨k,N,u,rfl,hk,hkn,hN⟩;unfold exFr;have hbd:=Zu (X.take k) (Y.take k) (λx hx=>HXb.o x (List.mem_of_mem_take hx)) (λy hy=>HYb.o y (List.mem_of_mem_take hy));rw [hN,List.length_take,HX.o] at hbd;obtain⟨N0,N1⟩:=hbd
  have N2:N<=400000000000000000000000000:=by
   have:min k n<=40000:=j8;omega
  clear N1;by_cases hlt:k<n
  ·have hltI:(k:Int)<(n:Int):=j8;have hneI:((k:Int)==(n:Int))=false:=beq_eq_false_iff_ne.2 j6;obtain⟨x,hx⟩:=Au (L:=X) (k:=k) (by rw [HX.o];exact hlt);obtain⟨y,hy⟩:=Au (L:=Y) (k:=k) (by rw [HY.o];exact hlt);obtain⟨g1,o1,he1,x0⟩:=(Hr1.o.keeps hk (by simp)).int (k:= .i64) hx;obtain⟨g2,o2,he2,y0⟩:=(Hr2.o.keeps hk (by simp)).int (k:= .i64) hy;subst he1;subst he2;have hS:exS g1 (o1+k) g2 (o2+k) x y W.drew:=⟨x0,y0⟩;have xb:=HXb.o x (List.mem_of_getElem? hx);have yb:=HYb.o y (List.mem_of_getElem? hy);have pb:=prod_bd xb yb;have hsn:=dotI_take (by rw [HX.o,HY.o]) hx hy;rw [hN] at hsn;have hmul:=λW=>Xx x y xb.1 j6 yb.1 j6 W;obtain⟨p,hp⟩:=eX (x*y);rw [hp] at pb hmul hsn;have lx:=Ag x0;have ly:=Ag y0;obtain⟨A,hA⟩:=eX (p / 18446744073709551616);obtain⟨B,hB⟩:=eX (p % 18446744073709551616);obtain⟨Hi,hHi⟩:=eX (N / 18446744073709551616);obtain⟨Lo,hLo⟩:=eX (N % 18446744073709551616);rw [hA,hB] at hmul;rw [hHi,hLo];have b1:0<=Lo/\Lo<18446744073709551616:=j8;have b2:0<=B/\B<18446744073709551616:=j8;have b3:0<=Hi/\Hi<1000000000:=j8;have b4:0<=A/\A<1000000000:=j8;have hadd:=fun(W:World)=>add64_run Lo B b1.1 b1.2 b2.1 b2.2 W;obtain⟨C,hC⟩:=eX ((Lo+B) / 18446744073709551616);obtain⟨E,hE⟩:=eX ((Lo+B) % 18446744073709551616);have b5:0<=C/\C<=1:=j8;rw [hC,hE] at hadd;have hadd2:=fun(W:World)=>Ae0 Hi A C b3.1 j6 b4.1 j6 b5.1 b5.2 W;rw [show(Hi+A+C) % 18446744073709551616=(N+p) / 18446744073709551616 by omega] at hadd2;rw [show E=(N+p) % 18446744073709551616 by omega] at hadd;obtain⟨xb0,xb1⟩:=xb;obtain⟨yb0,yb1⟩:=yb;have q1:IntKind.u64.wrap x=x:=by simp [IntKind.wrap,IntKind.signed,IntKind.bits];omega
   have q2:IntKind.u64.wrap y=y:=by simp [IntKind.wrap,IntKind.signed,IntKind.bits];omega
   obtain⟨Hk,HN,Hx,Hy,Hsn,Hmul,Hp,HA,HB⟩:=hid9 hk hN hx hy hsn hmul hp hA hB;clear hB hA hp hmul hsn hy hx hN hk;obtain⟨HHi,HLo,HC,HE,HS⟩:=hid5 hHi hLo hC hE hS;clear hS hE hC hLo hHi;clear pb;go_wp2_with fail;refine Ak (exS g1 (o1+k) g2 (o2+k) x y) (.take 0 (.take 1 (.take 2 (.take 3 (.take 4 (.take 5 (.take 6 (.take 7 (.take 8 (.take 9 (.take 10 (.take 11 (.take 12 (.take 13 (.take 14 (.take 15 .done)))))))))))))))) j9 j9 ?_ ?_
   ·exact HS.o
   intro w1 hs1 hk1;refine jR ?_;refine Ey (v:= ?_) rfl (by rfl) ?_ ?_ ?_ ?_ ?_
   rotate_left 3
   ·intro w' hSw;unfold exS at hSw;go_simp;(first|done|(constructor<;>with_reducible rfl)|with_reducible rfl)
   ·intro w' hSw;exact(Hmul.o _)
   rotate_right 3
   try simp only [aps]
   refine jo ?_;have Hk1:=Lib.hid (Hk.o.nt hk1);clear hk1 hs1;go_wp2_with fail;go_step3;go_wp2;exact Aw ⟨exJ.mk (k+1) (N+p) rfl Hk1.o j6 Hsn.o,by simp [Aar];omega⟩
  ·obtain rfl:k=n:=by omega
   rw [List.take_of_length_le (by rw [HX.o];exact Nat.le_refl _),List.take_of_length_le (by rw [HY.o];exact Nat.le_refl _),HR.o] at hN;subst hN;have Hk:=Lib.hid hk;clear hk;have hkk:((k:Int)==(k:Int))=true:=by simp
   go_wp2;refine Bq ?_;exact bodyPost_ret (v:= .tuple #[.int .u64 (R / 18446744073709551616),.int .u64 (R % 18446744073709551616),.int .i64 0]) (by simp [results,Tryz.results280,go_sem]) rfl ⟨rfl,Hk.o⟩
 ·refine jz ?_;intro Hfirst;go_wp2_with fail;refine(Hw1.o _ (Keeps.refl _ _)).mono ?_;rintro e w1 ⟨rfl,hk1⟩;have Hk1:=Lib.hid hk1;clear hk1;go_wp2_with fail;refine(Hw2.o _ Hk1.o).mono ?_;rintro e w2 ⟨rfl,hk2⟩;have Hk2:=Lib.hid (Hk1.o.nt hk2);clear hk2;go_wp2;go_step3;rename_i hK;refine jB ?_;exact exJ.mk 0 0 rfl Hk2.o (Nat.zero_le _) rfl
theorem intOf_any(X Y:List Int)(ad1 ad2:Option Addr)(c1 c2 n:Nat)(w:World)(hr1:Reads w 1 (.slice ad1 n c1) n (X.flatMap i64c))(hX:X.length=n)(hr2:Reads w 1 (.slice ad2 n c2) n (Y.flatMap i64c))(hY:Y.length=n)(hn:n<=40000)
  (hXb:∀x∈X,0<=x/\x<=1000000000000000) (hYb:∀y∈Y,0<=y/\y<=10000000):
  Calls Tryz.prog 254 #[.slice ad1 n c1,.slice ad2 n c2] w λe w'=>e= .returned (.tuple #[.int .i64 (ofR X Y).1,.int .i64 (ofR X Y).2])/\K0 w w':=by
 have hex:=Zk X Y ad1 ad2 c1 c2 n w hr1 hX hr2 hY hn hXb hYb;have hbd:=Zu X Y hXb hYb;unfold ofR;obtain⟨N,hN⟩:=eX (dotI X Y);rw [hN] at hex hbd⊢;have hev:=even9 N hbd.1 j6;have hb2:=Ve (N:=N) (D:=1000000000) (M:=1000000000000000000) j7 hbd.1 j6;obtain⟨Z,hZ⟩:=eX (evenI N 1000000000);rw [hZ] at hev hb2⊢;obtain⟨A,hA⟩:=eX (N / 18446744073709551616);obtain⟨B,hB⟩:=eX (N % 18446744073709551616);rw [hA,hB] at hev hex;obtain⟨z0,z1⟩:=hb2;by_cases hz:1000000000000000<Z
 ·rw [if_pos hz];have hzI:decide (1000000000000000<Z)=true:=by simp [hz]
  clear hz;obtain⟨Hr1,HX,Hr2,HY,HXb,HYb,Hex,Hbd,HN⟩:=hid9 hr1 hX hr2 hY hXb hYb hex hbd hN;clear hN hbd hex hYb hXb hY hr2 hX hr1;obtain⟨Hev,HZ,HA,HB⟩:=hid4 hev hZ hA hB;clear hB hA hZ hev;go_enter Tryz.func254,Tryz.ntmps254;go_wp2_with fail;refine Hex.o.mono ?_;rintro e w1 ⟨rfl,hk1⟩;have Hk1:=Lib.hid hk1;clear hk1;go_wp2_with fail;refine(Hev.o _).mono ?_;rintro e w2 ⟨rfl,hk2⟩;have Hk2:=Lib.hid (Hk1.o.nt hk2);clear hk2;go_wp2;exact bodyPost_ret (v:= .tuple #[.int .i64 0,.int .i64 5]) (by simp [results,Tryz.results254,go_sem]) rfl ⟨rfl,Hk2.o⟩
 ·rw [if_neg hz];have hzI:decide (1000000000000000<Z)=false:=by simp [hz]
  have hz2:Z<=1000000000000000:=j8;clear hz;obtain⟨Hr1,HX,Hr2,HY,HXb,HYb,Hex,Hbd,HN⟩:=hid9 hr1 hX hr2 hY hXb hYb hex hbd hN;clear hN hbd hex hYb hXb hY hr2 hX hr1;obtain⟨Hev,HZ,HA,HB⟩:=hid4 hev hZ hA hB;clear hB hA hZ hev;go_enter Tryz.func254,Tryz.ntmps254;go_wp2_with fail;refine Hex.o.mono ?_;rintro e w1 ⟨rfl,hk1⟩;have Hk1:=Lib.hid hk1;clear hk1;go_wp2_with fail;refine(Hev.o _).mono ?_;rintro e w2 ⟨rfl,hk2⟩;have Hk2:=Lib.hid (Hk1.o.nt hk2);clear hk2;go_wp2;exact bodyPost_ret (v:= .tuple #[.int .i64 Z,.int .i64 0]) (by simp [results,Tryz.results254,go_sem]) rfl ⟨rfl,Hk2.o⟩
def maxI(a b:Int):Int:=if a<=b then b else a
def Mc(mf mp total:Int):Int:=minI total (maxI mf (evenI (total*mp) 1000))
theorem tm_okB{t:Tm}(h:t.err=0):t.okB=true:=by
 unfold Tm.err at h
 split at h
 ·assumption
 ·cases h
theorem Fp{t:Tm}(h:t.err=0):(1<=t.trs.length/\t.trs.length<=8)/\(∀x∈t.trs,0<=x.rate/\x.rate<=10000000)/\(1<=t.cyc/\t.cyc<=28)/\(1<=t.due/\t.due<=25)/\(0<=t.minFixed/\t.minFixed<=1000000000000000)/\(0<=t.minPart/\t.minPart<=1000)/\(-135140<=t.start/\t.start<=2922896):=by
 have h1:=tm_okB h;simp only [Tm.okB,inB,Bool.and_eq_true,decide_eq_true_eq] at h1;refine⟨⟨by omega,by omega⟩,λx hx=> ?_,by omega,by omega,by omega,by omega,by omega⟩;have:=List.all_eq_true.1 h1.1.2 x hx
 simpa [Tn.okB,inB] using this
theorem Abj(t:Tm)(v:Value)(total:Int)(w:World)(hz:t.err=0)(hr:Reads w 2 v t.trs.length (t.trs.flatMap Tn.cells))(h0:0<=total)(h1:total<=1000000000000000):
  Calls Tryz.prog 257 #[.agg #[.int .i64 t.limit,v,.int .i64 t.cyc,.int .i64 t.due,.int .i64 t.minFixed,.int .i64 t.minPart,.int .i64 t.start],.int .i64 total] w λe w'=>e= .returned (.tuple #[.int .i64 (Mc t.minFixed t.minPart total),.int .i64 0])/\K0 w w':=by
 obtain⟨⟨l0,l1⟩,_,_,_,⟨f0,f1⟩,⟨p0,p1⟩,_⟩:=Fp hz;have htm:=λW (hW:K0 w W)=>Kh t v W hz (hr.keeps hW (by simp)) j6;have hsh:=λW=>Aa7 total t.minPart h0 h1 p0 p1 W;have hbd:=Ve (N:=total*t.minPart) (D:=1000) (M:=1000000000000000) j7 (Int.mul_nonneg h0 p0) (Int.mul_le_mul h1 p1 p0 j7);obtain⟨li,cy,du,mf,mp,st,L⟩:=t;simp only at *;unfold Mc;obtain⟨q,hq⟩:=eX (evenI (total*mp) 1000);rw [hq] at hsh hbd⊢;obtain⟨ad,c,rfl,_⟩:=id hr;obtain⟨q0,q1⟩:=hbd;have b0:∀W,K0 (w.alloc (.cells #[.int .i64 li,.slice ad L.length c,.int .i64 cy,.int .i64 du,.int .i64 mf,.int .i64 mp,.int .i64 st] 44)) W->W.heap[w.heap.size]?=some (.cells #[.int .i64 li,.slice ad L.length c,.int .i64 cy,.int .i64 du,.int .i64 mf,.int .i64 mp,.int .i64 st] 44 (0,0)):=λW hW=>Ad (heap_alloc_new w _) hW (by simp);have tn:decide (total<0)=false:=by rw [decide_eq_false_iff_not];omega
 have tn2:decide (1000000000000000<total)=false:=by rw [decide_eq_false_iff_not];omega
 obtain⟨n,hn⟩:=eX L.length;rw [hn] at hr htm b0⊢
 have key:∀z:Int,minI total (maxI mf q)=z->Calls Tryz.prog 257 #[.agg #[.int .i64 li,.slice ad n c,.int .i64 cy,.int .i64 du,.int .i64 mf,.int .i64 mp,.int .i64 st],.int .i64 total] w λe w'=>e= .returned (.tuple #[.int .i64 z,.int .i64 0])/\K0 w w':=by
  intro z hzz;rcases Int.lt_trichotomy mf q with m1|m1|m1
  ·rw [show maxI mf q=q by unfold maxI;rw [if_pos j6]] at hzz;rcases Int.lt_trichotomy total q with m2|m2|m2
   ·rw [show minI total q=total by unfold minI;rw [if_pos j6]] at hzz;exact j1n
   ·exact j3a
   ·rw [show minI total q=q by unfold minI;rw [if_neg j6]] at hzz;subst hzz;obtain⟨Hr,Hz,Htm,Hsh,Hq,B0,Hn⟩:=hid7 hr hz htm hsh hq b0 hn;clear hn b0 hq hsh htm hz hr;go_enter Tryz.func257,Tryz.ntmps257;go_wp2_with fail;refine Az 0 rfl ?_;go_wp2_with fail;refine(Htm.o _ (Keeps.alloc _ _)).mono ?_;rintro e w1 ⟨rfl,hk1⟩;have hb:=B0.o _ hk1;have c5:=Aa hb 5;have cl:=lt_of_block hb;have Hk1:=j0I;clear hk1 hb;go_wp2_with fail;refine(Hsh.o _).mono ?_;rintro e w2 ⟨rfl,hk2⟩;have Hk2:=Lib.hid (Hk1.o.nt hk2);clear hk2;go_wp2;refine Bq ?_;exact bodyPost_ret (v:= .tuple #[.int .i64 q,.int .i64 0]) j1o rfl ⟨rfl,Hk2.o⟩
  ·subst m1;rw [show maxI mf mf=mf by unfold maxI;rw [if_pos j6]] at hzz;exact j3b
  ·rw [show maxI mf q=mf by unfold maxI;rw [if_neg j6]] at hzz;exact j3b
 exact key _ rfl
def payQ(f d:Int)(x:Ev):Bool:=decide (x.kind=2)&&(decide (f<=x.day)&&decide (x.day<=d))
def paidS(f d:Int):List Ev->Int->Int
 | [],s=>s
 |x::L,s=>paidS f d L (if payQ f d x=true then minI (s+x.amount) 1000000000000000 else s)
def gpFr(f d:Int)(v:Value)(s:Int)(k:Nat)(u:Nat->Value):Act:={ tmps:= #[.int .i64 f,.int .i64 d,v,u 3,u 4,u 5,u 6,u 7,.int .i64 s,.int .i64 k,u 10,u 11,u 12,u 13,u 14,u 15,u 16,u 17,u 18,u 19,u 20,u 21,u 22,u 23,u 24,u 25,u 26,u 27,u 28,u 29,u 30,u 31,u 32,u 33,u 34,u 35,u 36,u 37,u 38,u 39,u 40,u 41,u 42,u 43,u 44,u 45,u 46,u 47,u 48,u 49],defers:= [] }
def gpJ(w:World)(f d:Int)(v:Value)(L:List Ev)(n:Nat)(R:Int)(a':Act)(W:World):Prop:=∃(k:Nat) (s:Int) (u:Nat->Value),a'=gpFr f d v s k u/\K0 w W/\k<=n/\0<=s/\s<=1000000000000000/\paidS f d (L.drop k) s=R
theorem gpJ.mk{w W:World}{f d:Int}{v:Value}{L:List Ev}{n:Nat}{R:Int}{a':Act}(k:Nat)(s:Int)(h:a'=gpFr f d v s k (λi=>a'.tmps.getD i undef))(hw:K0 w W)(hn:k<=n)(h0:0<=s)(h1:s<=1000000000000000)(hp:paidS f d (L.drop k) s=R):gpJ w f d v L n R a' W:=⟨k,s,_,h,hw,hn,h0,h1,hp⟩
def Gy(i:Nat)(a':Act):Nat:=match a'.tmps.getD i undef with| .int _ n=>n.toNat|_=>0
theorem Du{α:Type}{L:List α}{i:Nat}{x:α}(hx:L[i]?=some x):L.drop i=x::L.drop (i+1):=by
 exact j34
theorem Xb(f d:Int)(L:List Ev)(ad:Option Addr)(cap n:Nat)(w:World)(hr:Reads w 5 (.slice ad n cap) n (L.flatMap Ev.cells))(hN:L.length=n)(hn:n<=1000000)(hok:∀x∈L,x.kind=2->0<=x.amount/\x.amount<=1000000000000000):
  Calls Tryz.prog 279 #[.int .i64 f,.int .i64 d,.slice ad n cap] w λe w'=>e= .returned (.tuple #[.int .i64 (paidS f d L 0),.int .i64 0])/\K0 w w':=by
 obtain⟨R,hR⟩:=eX (paidS f d L 0);rw [hR];obtain⟨Hr,HN,Hok,HR⟩:=hid4 hr hN hok hR;clear hR hok hN hr;go_enter Tryz.func279,Tryz.ntmps279;go_wp2;refine Cx 0 (gpJ w f d (.slice ad n cap) L n R) (λa' _=>n-Gy 9 a') rfl ?_ ?_
 ·rintro a' W ⟨k,s,u,rfl,hk,hkn,s0,s1,hR2⟩;unfold gpFr;by_cases hlt:k<n
  ·have hltI:(k:Int)<(n:Int):=j8;have hneI:((k:Int)==(n:Int))=false:=beq_eq_false_iff_ne.2 j6;obtain⟨x,hx⟩:=Au (L:=L) (k:=k) jW;obtain⟨g,o,c,he,hc⟩:=(Hr.o.keeps hk (by simp)).elem Ev.Aj hx j7;simp only [Value.slice.injEq,true_and] at he;obtain⟨rfl,rfl⟩:=he;have hok1:=Hok.o x (List.mem_of_getElem? hx);obtain⟨ki,da,tr,am,re⟩:=x;have x0:W.cell? ⟨g,o+k*5,none⟩=some (.int .i64 ki):=hc 0 j7;have x1:W.cell? ⟨g,o+k*5+1,none⟩=some (.int .i64 da):=hc 1 j7;have x2:W.cell? ⟨g,o+k*5+2,none⟩=some (.int .i64 tr):=hc 2 j7;have x3:W.cell? ⟨g,o+k*5+3,none⟩=some (.int .i64 am):=hc 3 j7;have x4:W.cell? ⟨g,o+k*5+4,none⟩=some (.int .i64 re):=hc 4 j7;have xl:=Ag x0;simp only at hok1;clear hc;obtain⟨Hk,Hx,HR2⟩:=hid3 hk hx hR2;clear hR2 hx hk;by_cases e1:ki=2
   ·subst e1;obtain⟨a0,a1⟩:=hok1 rfl;by_cases e2:f<=da
    ·have e2I:decide (f<=da)=true:=by simp [e2]
     by_cases e3:da<=d
     ·have e3I:decide (da<=d)=true:=by simp [e3]
      have a0I:decide (am<0)=false:=by rw [decide_eq_false_iff_not];omega
      have a1I:decide (1000000000000000<am)=false:=by rw [decide_eq_false_iff_not];omega
      rcases Int.lt_trichotomy (s+am) 1000000000000000 with m2|m2|m2
      ·skip
       have hst:paidS f d (L.drop (k+1)) (s+am)=R:=by rw [<-HR2.o,Du Hx.o];simp only [paidS];rw [if_pos (by simp [payQ];omega)];congr 1;unfold minI;split<;>omega
       have Hst:=Lib.hid hst;clear hst;go_wp2_with fail;go_step3;go_wp2;exact Aw ⟨gpJ.mk (k+1) (s+am) rfl (Hk.o.trans (Keeps.alloc _ _)) j6 j6 j6 Hst.o,by simp [Gy];omega⟩
      ·exact j3c
      ·exact j3c
     ·have e3I:decide (da<=d)=false:=by simp [e3]
      exact j1p
    ·have e2I:decide (f<=da)=false:=by simp [e2]
     exact j1p
   ·have e1I:(ki==2)=false:=beq_eq_false_iff_ne.2 e1;exact j1p
  ·obtain rfl:k=n:=by omega
   rw [List.drop_eq_nil_of_le j1l] at hR2;simp only [paidS] at hR2;subst hR2;have Hk:=Lib.hid hk;clear hk;have hkk:((k:Int)==(k:Int))=true:=by simp
   go_wp2;refine Bq ?_;exact bodyPost_ret (v:= .tuple #[.int .i64 s,.int .i64 0]) (by simp [results,Tryz.results279,go_sem]) rfl ⟨rfl,Hk.o⟩
 ·refine jz ?_;intro Hfirst;go_wp2;go_step3;rename_i hK;refine jB ?_;exact gpJ.mk 0 0 rfl (Keeps.refl _ _) (Nat.zero_le _) (Int.le_refl _) j7 HR.o
def hasB(owed f d:Int)(L:List Ev):Bool:=decide (owed<=0)||decide (owed<=paidS f d L 0)
theorem Zo(owed f d:Int)(L:List Ev)(ad:Option Addr)(cap n:Nat)(w:World)(hr:Reads w 5 (.slice ad n cap) n (L.flatMap Ev.cells))(hN:L.length=n)(hn:n<=1000000)(hok:∀x∈L,x.kind=2->0<=x.amount/\x.amount<=1000000000000000):
  Calls Tryz.prog 253 #[.int .i64 owed,.int .i64 f,.int .i64 d,.slice ad n cap] w λe w'=>e= .returned (.tuple #[.bool (hasB owed f d L),.int .i64 0])/\K0 w w':=by
 have hp:=Xb f d L ad cap n w hr hN hn hok;unfold hasB;obtain⟨p,hpp⟩:=eX (paidS f d L 0);rw [hpp] at hp⊢;obtain⟨b1,h1⟩:=eX (decide (owed<=0));obtain⟨b2,h2⟩:=eX (decide (owed<=p));rw [h1,h2];obtain⟨Hr,HN,Hok,Hp,Hpp⟩:=hid5 hr hN hok hp hpp;clear hpp hp hok hN hr;rcases b1 with _|_<;>rcases b2 with _|_
 all_goals
  go_enter Tryz.func253,Tryz.ntmps253;go_wp2_with fail;refine Hp.o.mono ?_;rintro e w1 ⟨rfl,hk1⟩;have Hk1:=Lib.hid hk1;clear hk1;go_wp2
  first
   |exact bodyPost_ret (v:= .tuple #[.bool true,.int .i64 0]) (by simp [results,Tryz.results253,go_sem]) rfl ⟨rfl,Hk1.o⟩
   |exact bodyPost_ret (v:= .tuple #[.bool false,.int .i64 0]) (by simp [results,Tryz.results253,go_sem]) rfl ⟨rfl,Hk1.o⟩
theorem Adb:(Tryz.prog.info? 4).map (λi=>(i.zero,i.size,i.bytes))=some (some (.bool false),1,1):=by kernel_rfl
def boolc(b:Bool):List Value:= [.bool b]
theorem Fw(b:Bool):(boolc b).length=1:=rfl
def RowB(W:World)(g n cap:Nat)(O:List Bool):Prop:=W.ownsRow 0 4 1 (.slice (some ⟨g,0,none⟩) n cap) n (O.flatMap boolc)/\O.length=n
theorem RowB.cell{W:World}{g n cap:Nat}{O:List Bool}(h:RowB W g n cap O){k:Nat}{x:Bool}(hx:O[k]?=some x):W.cell? ⟨g,k,none⟩=some (.bool x):=by
 obtain⟨h,rfl⟩:=h;have:=Bu Fw h hx 0 j7;exact j0b
theorem RowB.free{W:World}{g n cap:Nat}{O:List Bool}(h:RowB W g n cap O)(j:Nat):W.frozen? ⟨g,j,none⟩=false:=by
 exact j14
theorem RowB.set{W:World}{g n cap:Nat}{O:List Bool}(h:RowB W g n cap O){k:Nat}(hk:k<n)(x:Bool):RowB (W.setCell ⟨g,k,none⟩ (.bool x)) g n cap (O.set k x):=by
 obtain⟨h1,h2⟩:=h;obtain⟨y,hy⟩:=Au (L:=O) (k:=k) j6;subst h2;have:=Ja Fw h1 hy 0 j7 (y:=x) (u:= .bool x) rfl;simp only [Nat.mul_one,Nat.add_zero] at this;exact⟨this,by simp⟩
theorem RowB.lt{W:World}{g n cap:Nat}{O:List Bool}(h:RowB W g n cap O):g<W.heap.size:=Ci h.1 rfl
theorem Ad5(n:Nat):(madeCells (Value.bool false).cells n).toList=(List.replicate n false).flatMap boolc:=by
 have hL:((List.replicate n false).flatMap boolc).length=n:=by rw [Df Fw];simp
 have hM:(madeCells (Value.bool false).cells n).toList.length=n:=by simp [madeCells]
 apply List.ext_getElem?
 intro i;by_cases h:i<n
 ·have h2:((List.replicate n false).flatMap boolc)[i]?=some (.bool false):=by
   have:=flat_get Fw (L:=List.replicate n false) (k:=i) (j:=0) (x:=false) (by simp [h]) j7;exact j0b
  rw [h2];simp [madeCells,Value.cells,h,Nat.mod_one]
 ·rw [List.getElem?_eq_none j6,List.getElem?_eq_none j6]
theorem RowB.made(w:World)(n:Nat)(hn:n<=maxLen):RowB (w.alloc (.cells (madeCells (Value.bool false).cells n) 4)) w.heap.size n n (List.replicate n false):=by
 have hL:((List.replicate n false).flatMap boolc).length=n*1:=by rw [Df Fw];simp
 refine⟨⟨hL,.inr ⟨_,_,_,rfl,Nat.zero_le _,heap_alloc_new w _,Nat.le_refl _,hn,by simp [madeCells], ?_⟩⟩,by simp⟩;rw [Ad5,List.take_of_length_le (by rw [hL];exact Nat.le_refl _)]
def SeenL(n:Nat)(T:List Int)(O:List Bool):Prop:=∀j:Nat,j<n->O[j]?=some (decide (((j:Int)+1)∈T))
theorem SeenL.snoc{n:Nat}{T:List Int}{O:List Bool}(h:SeenL n T O)(hO:O.length=n){k:Int}{i:Nat}(hi:(i:Int)=k-1)(hin:i<n):SeenL n (T++ [k]) (O.set i true):=by
 intro j hj;by_cases e:i=j
 ·subst e;rw [List.getElem?_set_self j6];have:(i:Int)+1=k:=j8;simp [this]
 ·rw [List.getElem?_set_ne e,h j hj];have:¬(j:Int)+1=k:=j8;simp [this]
theorem Ta(L:List Int)(ad:Option Addr)(cap n m:Nat)(w:World)(hr:Reads w 1 (.slice ad m cap) m (L.flatMap i64c))(hM:L.length=m)(hok:∀k∈L,1<=k/\k<=n)(hnd:L.Nodup)(hn:n<=1000)(hm:m<=1000):
  Calls Tryz.prog 294 #[.slice ad m cap,.int .i64 ((n:Nat):Int)] w λe w'=>e= .returned (.bool true)/\K0 w w':=by
 obtain⟨i0,hi,hi0,hi1,hi2⟩:=info_parts Adb;have hmk:=fun(W:World)=>run_makeSlice (P:=Tryz.prog) W 330 4 i0 (.bool false) Tryz.underlying330 hi hi0 .i64 .i64 (n:Int) (n:Int) j6 j6 (by rw [hi1];omega) (by rw [hi2];omega) j6;simp only [Int.toNat_natCast,hi1,Nat.mul_one] at hmk;obtain⟨Z,hZ⟩:=eY (madeCells (Value.bool false).cells n);rw [<-hZ] at hmk;obtain⟨Hr,HM,Hok,Hnd,Hi,Hi0,Hi1,Hi2,HZ⟩:=hid9 hr hM hok hnd hi hi0 hi1 hi2 hZ;clear hZ hi2 hi1 hi0 hi hnd hok hM hr;go_enter Tryz.func294,Tryz.ntmps294;go_wp2;have hmd:=RowB.made w n jd;rw [<-HZ.o] at hmd
 go_loopw [12] (λx wx=>∃(i:Nat) (O:List Bool),x= .int .i64 (i:Nat)/\i<=m/\RowB wx w.heap.size n n O/\SeenL n (L.take i) O/\K0 w wx) (λx _=>m-(intOf x).toNat)
 case atStart=>exact⟨0,_,rfl,Nat.zero_le _,hmd,λj hj=>by simp [hj],by(repeat (first|exact Keeps.refl _ _|exact Keeps.alloc _ _|exact Keeps.drew _|exact Keeps.drewN _ _|refine Keeps.Am ?_|refine Keeps.Al ?_|refine Keeps.Af ?_))⟩
 case round=>
  obtain⟨i,O,rfl,him,hrow,hseen,hk⟩:=hrel;obtain⟨wq,hwq⟩:=eY wr;subst hwq;clear hmd;by_cases hlt:i<m
  ·have hltI:(i:Int)<(m:Int):=j8;obtain⟨k,hx⟩:=Au (L:=L) (k:=i) (by rw [HM.o];exact hlt);obtain⟨k1,k2⟩:=Hok.o k (List.mem_of_getElem? hx);obtain⟨p,hp⟩:∃p:Nat,(p:Int)=k-1:=⟨(k-1).toNat,by omega⟩;have hpn:p<n:=j8
   have hnot:¬k∈L.take i:=by
    intro hmem;obtain⟨j,hj,hje⟩:=List.mem_iff_getElem.1 hmem;rw [List.length_take] at hj;rw [List.getElem_take] at hje;obtain⟨h1,h2⟩:=List.getElem?_eq_some_iff.1 hx;exact(List.pairwise_iff_getElem.1 Hnd.o) j i j6 h1 j6 (hje.trans h2.symm)
   have hO:O[p]?=some false:=by
    rw [hseen p hpn,show(p:Int)+1=k by omega,decide_eq_false hnot]
   obtain⟨gO,oO,he,hcO⟩:=(Hr.o.keeps hk (by simp)).int (k:= .i64) hx;subst he;have lO:=Ag hcO;have ck:=hrow.cell hO;have fk:=hrow.free p;have lg:=hrow.lt;have q1:(0:Int)<=k-1:=j8;have q2:k-1<(n:Int):=j8;have q3:(k-1).toNat=p:=j8;have q4:IntKind.i64.wrap (k-1)=k-1:=IntWalk.i64_in _ ⟨by omega,by omega⟩;have q5:decide (k<1)=false:=by rw [decide_eq_false_iff_not];omega
   have q6:decide ((n:Int)<k)=false:=by rw [decide_eq_false_iff_not];omega
   have hnew:RowB (wq.setCell ⟨w.heap.size,p,none⟩ (.bool true)) w.heap.size n n (O.set p true)/\SeenL n (L.take (i+1)) (O.set p true)/\K0 w (wq.setCell ⟨w.heap.size,p,none⟩ (.bool true)):=
    ⟨hrow.set hpn true,by rw [take_snoc' hx];exact hseen.snoc hrow.2 hp hpn,hk.trans (Keeps.setCell _ _ _ (.inr (Nat.le_refl _)))⟩
   obtain⟨Hrow,Hseen,Hk,Hx,Hp,Hnot,HO,Hnew⟩:=hid8 hrow hseen hk hx hp hnot hO hnew;clear hnew hO hnot hp hx hk hseen hrow;go_wp2;go_roundw
   case rel=>exact⟨i+1,_,by go_num,by omega,Hnew.o.1,Hnew.o.2.1,Hnew.o.2.2⟩
   case measure=>simp [intOf];omega
  ·obtain rfl:i=m:=by omega
   obtain⟨Hrow,Hseen,Hk⟩:=hid3 hrow hseen hk;clear hk hseen hrow;go_wp2;go_ret;exact⟨rfl,Hk.o⟩
theorem Kw{L:List Int}{b:Bool}{n:Nat}(hb:L.all Bt=b)(hN:L.length=n)(hl:n<=1000)(ad:Option Addr)(cap:Nat)(w:World)(hr:Reads w 1 (.slice ad n cap) n (L.flatMap i64c)):
  Calls Tryz.prog 289 #[.slice ad n cap] w λe w'=>e= .returned (.bool b)/\w=w':=by
 subst hN;subst hb;exact Abx ad cap L w hr hl
structure OrdOk(n:Nat)(O:List Int):Prop where
 ok:∀k∈O,1<=k/\k<=n
 nd:O.Nodup
theorem Zq(B O:List Int)(a:Int)(adB adO:Option Addr)(cB cO n m:Nat)(w:World)(hB:Reads w 1 (.slice adB n cB) n (B.flatMap i64c))(hN:B.length=n)(hO:Reads w 1 (.slice adO m cO) m (O.flatMap i64c))(hM:O.length=m)(hm:B.all Bt=true)(ha:Bt a=true)
  (hord:OrdOk n O) (hl:n<=1000) (hl2:m<=1000):Calls Tryz.prog 278 #[.slice adB n cB,.slice adO m cO,.int .i64 a] w λe w'=>∃g,e= .returned (.tuple #[.slice (some ⟨g,0,none⟩) n n,.int .i64 (intoL B O a).2,.int .i64 0])/\RowZ w' 2 g n n (intoL B O a).1/\K0 w w'/\w.heap.size<=g:=by
 have hin:=λW (hW:K0 w W)=>Nu B O a adB adO cB cO W (by rw [hN];exact hB.keeps hW (by simp)) (by rw [hM];exact hO.keeps hW (by simp)) (λx hx=>(Bo x).1 (List.all_eq_true.1 hm x hx)) ((Bo a).1 ha) (by rw [hN];exact hord.ok) j6 j6;have hrl:=Di B O a;rw [hN] at hrl;obtain⟨r,hr⟩:=eX (intoL B O a);rw [hr] at hin hrl⊢;unfold Qm at hin;rw [hN,hM,hrl] at hin;have hof:=λW (hW:K0 w W)=>Ta O adO cO n m W (hO.keeps hW (by simp)) hM hord.ok hord.nd hl hl2;have hmb:=λW (hW:K0 w W)=>Kw hm hN hl adB cB W (hB.keeps hW (by simp));have hma:=λW g (hT:Reads W 1 (.slice (some ⟨g,0,none⟩) 1 1) 1 ([a].flatMap i64c))=>Kw (L:= [a]) (b:=true) (by simp [ha]) rfl (by simp) (some ⟨g,0,none⟩) 1 W hT;obtain⟨HB,HO,Hm,Ha,Hord,Hin,Hr,Hrl,Hof⟩:=hid9 hB hO hm ha hord hin hr hrl hof;clear hof hrl hr hin hord ha hm hO hB;obtain⟨Hmb,Hma,HN,HM⟩:=hid4 hmb hma hN hM;clear hM hN hma hmb;go_enter Tryz.func278,Tryz.ntmps278;go_wp2_with fail;refine(Hof.o _ (Keeps.refl _ _)).mono ?_;rintro e w1 ⟨rfl,hk1⟩;have Hk1:=Lib.hid hk1;clear hk1;go_wp2_with fail;refine(Hmb.o _ Hk1.o).mono ?_;rintro e w2 ⟨rfl,rfl⟩;go_wp2_with fail;refine(Hma.o _ _ (Reads.litAt _ _ _ 1 1 _ (by simp) rfl)).mono ?_;rintro e w3 ⟨rfl,rfl⟩;go_wp2_with fail;refine(Hin.o _ (Hk1.o.trans (Keeps.alloc _ _))).mono ?_;rintro e w4 ⟨g,rfl,hrow,hk4,hg⟩;have hfin:K0 w w4:=(Hk1.o.trans (Keeps.alloc _ _)).nt hk4;have hgg:w.heap.size<=g:=by have h1:=Hk1.o.size;have h2:=hg;simp at h2;omega
 obtain⟨Hrow,Hk4,Hg,Hfin,Hgg⟩:=hid5 hrow hk4 hg hfin hgg;clear hgg hfin hg hk4 hrow;go_wp2;exact bodyPost_ret (v:= .tuple #[.slice (some ⟨g,0,none⟩) n n,.int .i64 r.2,.int .i64 0]) (by simp [results,Tryz.results278,go_sem]) rfl ⟨g,rfl,Hrow.o,Hfin.o,Hgg.o⟩
def stepL(f:Int->Int->Int)(B P:List Int)(i:Nat):List Int:=(List.zipWith f B P).take i++B.drop i
theorem Kj(f:Int->Int->Int)(B P:List Int):stepL f B P 0=B:=by simp [stepL]
theorem Kk{f:Int->Int->Int}{B P:List Int}(h:P.length=B.length){n:Nat}(hn:B.length=n):stepL f B P n=List.zipWith f B P:=by
 subst hn;unfold stepL;rw [List.drop_eq_nil_of_le (Nat.le_refl _),List.append_nil,List.take_of_length_le (by rw [List.length_zipWith];omega)]
theorem Mt{f:Int->Int->Int}{B P:List Int}(h:P.length=B.length){i:Nat}{x:Int}(hx:B[i]?=some x):(stepL f B P i)[i]?=some x:=by
 obtain⟨h1,h2⟩:=List.getElem?_eq_some_iff.1 hx;unfold stepL;rw [List.getElem?_append_right (by simp only [List.length_take,List.length_zipWith];omega)];simp only [List.length_take,List.length_zipWith,List.getElem?_drop];rw [show i+(i-min i (min B.length P.length))=i by omega];exact hx
theorem Ms{f:Int->Int->Int}{B P:List Int}(h:P.length=B.length){i:Nat}{x y:Int}(hx:B[i]?=some x)(hy:P[i]?=some y):(stepL f B P i).set i (f x y)=stepL f B P (i+1):=by
 obtain⟨h1,h2⟩:=List.getElem?_eq_some_iff.1 hx;have hz:(List.zipWith f B P)[i]?=some (f x y):=by rw [List.getElem?_zipWith,hx,hy]
 have hl:((List.zipWith f B P).take i).length=i:=by simp only [List.length_take,List.length_zipWith];omega
 unfold stepL;rw [List.set_append_right _ _ j6,hl,Nat.sub_self,List.drop_eq_getElem_cons h1,List.set_cons_zero,take_snoc' hz,List.append_assoc];rfl
theorem Tu{B P:List Int}(hP:∀j x,P[j]?=some x->0<=x/\x<=B.getD j 0)(hB:∀x∈B,0<=x/\x<=1000000000000000):∀x∈List.zipWith (· - ·) B P,0<=x/\x<=1000000000000000:=by
 intro z hz;obtain⟨j,hj⟩:=List.mem_iff_getElem?.1 hz;rw [List.getElem?_zipWith] at hj;rcases hb:B[j]? with _|b
 ·rw [hb] at hj;simp at hj
 ·rcases hp:P[j]? with _|p
  ·rw [hb,hp] at hj;simp at hj
  ·rw [hb,hp] at hj;simp only [Option.some.injEq] at hj;have h1:=hP j p hp;rw [List.getD_eq_getElem?_getD,hb] at h1;have h2:=hB b (List.mem_of_getElem? hb);simp only [Option.getD_some] at h1;omega
def payL(B R:List Int)(du a:Int):List Int×Int×Int:=
 let m:=minI a du
 let p:=intoL B (rankL false R) m
 let q:=intoL (List.zipWith (· - ·) B p.1) (rankL true R) (a-m+p.2)
 (List.zipWith (·+·) p.1 q.1,m,q.2)
theorem Qg(B O:List Int)(r:List Int×Int)(a:Int)(adB:Option Addr)(v:Value)(cB n:Nat)(w:World)(hB:Reads w 1 (.slice adB n cB) n (B.flatMap i64c))(hN:B.length=n)(hO:w.ownsRow 0 3 1 v n (O.flatMap i64c))(hM:O.length=n)(hm:∀x∈B,0<=x/\x<=1000000000000000)(ha:0<=a/\a<=1000000000000000)
  (hok:∀k∈O,1<=k/\k<=n) (hl:n<=1000) (hr:intoL B O a=r):Calls Tryz.prog 290 #[.slice adB n cB,v,.int .i64 a] w λe w'=>∃g,e= .returned (.tuple #[.slice (some ⟨g,0,none⟩) n n,.int .i64 r.2])/\RowZ w' 2 g n n r.1/\K0 w w'/\w.heap.size<=g:=by
 obtain⟨ad,c,rfl,_,_⟩:=Ae hO;have hr2:=Reads.Bb hO;have h:=Nu B O a adB ad cB c w (by rw [hN];exact hB) (by rw [hM];exact hr2) hm ha (by rw [hN];exact hok) j6 j6;have hrl:=Di B O a;unfold Qm at h;rw [hr] at h hrl;rw [hN,hM] at h;rw [hrl,hN] at h;exact h
theorem p1bd{B P:List Int}(hP:∀j x,P[j]?=some x->0<=x/\x<=B.getD j 0)(hB:∀x∈B,0<=x/\x<=1000000000000000){j:Nat}{x:Int}(hx:P[j]?=some x):0<=x/\x<=1000000000000000:=by
 have h:=hP j x hx;rw [List.getD_eq_getElem?_getD] at h;rcases hb:B[j]? with _|b
 ·rw [hb] at h;simp only [Option.getD_none] at h;omega
 ·rw [hb] at h;have:=hB b (List.mem_of_getElem? hb);simp only [Option.getD_some] at h;omega
theorem Abw(B R:List Int)(cr du a:Int)(adB adR:Option Addr)(cB cR n:Nat)(w:World)(hB:Reads w 1 (.slice adB n cB) n (B.flatMap i64c))(hN:B.length=n)(hR:Reads w 1 (.slice adR n cR) n (R.flatMap i64c))(hRn:R.length=n)
  (hm:B.all Bt=true) (hcr:Bt cr=true) (hdu:Bt du=true) (ha:Bt a=true) (hn1:1<=n) (hl:n<=8):
  Calls Tryz.prog 276 #[.agg #[.slice adB n cB,.int .i64 cr,.int .i64 du],.slice adR n cR,.int .i64 a] w λe w'=>∃g,e= .returned (.tuple #[.slice (some ⟨g,0,none⟩) n n,.int .i64 (payL B R du a).2.1,.int .i64 (payL B R du a).2.2,.int .i64 0])/\RowZ w' 2 g n n (payL B R du a).1/\K0 w w'/\w.heap.size<=g:=by
 have hBb:∀x∈B,0<=x/\x<=1000000000000000:=λx hx=>(Bo x).1 (List.all_eq_true.1 hm x hx);obtain⟨a0,a1⟩:=(Bo a).1 ha;obtain⟨du0,du1⟩:=(Bo du).1 hdu;obtain⟨m,hmin⟩:=eX (minI a du);have hm2:0<=m/\m<=a/\m<=du:=by rw [<-hmin];unfold minI;split<;>omega
 obtain⟨m0,m1,m2⟩:=hm2;refine j3d ?_;intro p1 r1 hp q1 r2 hq hpay;have hokL:∀k∈rankL false R,1<=k/\k<=n:=λk hk=>by have:=Em hk;omega
 have hokH:∀k∈rankL true R,1<=k/\k<=n:=λk hk=>by have:=Em hk;omega
 have hpb:=Mg (B:=B) (O:=rankL false R) (a:=m) (λx hx=>(hBb x hx).1) m0 (by rw [hN];exact hokL);have hpl:=Di B (rankL false R) m;rw [hp] at hpb hpl;simp only at hpb hpl;obtain⟨r10,r11,hpe⟩:=hpb;have hB2:=Tu hpe hBb;have hB2l:(List.zipWith (λx y:Int=>x-y) B p1).length=n:=by rw [List.length_zipWith];omega
 refine j3e ?_;intro hqb hql;rw [hq] at hqb hql;simp only at hqb hql;obtain⟨r20,r21,hqe⟩:=hqb;rw [hN] at hpl;rw [hB2l] at hql;have hmb:=λW (hW:K0 w W)=>Kw hm hN j6 adB cB W (hB.keeps hW (by simp));have hma:=λW g (hT:Reads W 1 (.slice (some ⟨g,0,none⟩) 3 3) 3 ([cr,du,a].flatMap i64c))=>Kw (L:= [cr,du,a]) (b:=true) (by simp [hcr,hdu,ha]) rfl (by simp) (some ⟨g,0,none⟩) 3 W hT;have hlow:=λW (hW:K0 w W)=>Ab3 R adR cR W j1q j6;have hhigh:=λW (hW:K0 w W)=>Pv R adR cR W j1q j6;rw [hRn] at hlow hhigh;have hin1:=λW v (hW:K0 w W) (hO:W.ownsRow 0 3 1 v n ((rankL false R).flatMap i64c))=>Qg B (rankL false R) (p1,r1) m adB v cB n W (hB.keeps hW (by simp)) hN hO (by rw [Kn,hRn]) hBb ⟨m0,by omega⟩ hokL j6 hp;have hbx:∀W,K0 (w.alloc (.cells #[.slice adB n cB,.int .i64 cr,.int .i64 du] 52)) W->W.heap[w.heap.size]?=some (.cells #[.slice adB n cB,.int .i64 cr,.int .i64 du] 52 (0,0)):=λW hW=>Ad (heap_alloc_new w _) hW (by simp);simp only at hin1;obtain⟨HB,HR,Hm,Hcr,Hdu,Ha,HBb,Hmin,Hp⟩:=hid9 hB hR hm hcr hdu ha hBb hmin hp;clear hp hmin hBb ha hdu hcr hm hR hB;obtain⟨Hq,Hpay,HokL,HokH,Hpe,HB2,HB2l,Hqe,Hpl⟩:=hid9 hq hpay hokL hokH hpe hB2 hB2l hqe hpl;clear hpl hqe hB2l hB2 hpe hokH hokL hpay hq;obtain⟨Hql,Hmb,Hma,Hlow,Hhigh,Hin1,Hbx,HN,HRn⟩:=hid9 hql hmb hma hlow hhigh hin1 hbx hN hRn;clear hRn hN hbx hin1 hhigh hlow hma hmb hql;go_enter Tryz.func276,Tryz.ntmps276;go_wp2_with fail;refine(Hmb.o _ jf).mono ?_;rintro e w1 ⟨rfl,rfl⟩;go_wp2_with fail;refine(Hma.o _ _ (Reads.litAt _ #[.int .i64 cr,.int .i64 du,.int .i64 a] 2 1 3 _ jn rfl)).mono ?_;rintro e w2 ⟨rfl,rfl⟩;obtain⟨W0,hW0⟩:=eY ((w.alloc (.cells #[.slice adB n cB,.int .i64 cr,.int .i64 du] 52)).alloc (.cells #[.int .i64 cr,.int .i64 du,.int .i64 a] 2));rw [<-hW0];have hb0:=Hbx.o W0 (by rw [hW0];exact Keeps.alloc _ _);have hk0:K0 w W0:=by rw [hW0];(repeat (first|exact Keeps.refl _ _|exact Keeps.alloc _ _|exact Keeps.drew _|exact Keeps.drewN _ _|refine Keeps.Am ?_|refine Keeps.Al ?_|refine Keeps.Af ?_))
 have b0:=Aa hb0 0;have b2:=Aa hb0 2;have bl:=lt_of_block hb0;obtain⟨Hb0,Hk0,HW0⟩:=hid3 hb0 hk0 hW0;clear hW0 hk0 hb0
 go_upto_region 3 with fail
 go_cut [10] (λx wx=>x= .int .i64 m/\W0=wx)
 case first=>
  have hmn:=Hmin.o;unfold minI at hmn;by_cases hle:a<=du
  ·rw [if_pos hle] at hmn;exact j3f
  ·rw [if_neg hle] at hmn;exact j3f
 obtain⟨rfl,rfl⟩:=hcut;go_wp2_with fail;refine Ak (λw'=>w'.cell? ⟨w.heap.size,0,none⟩=some (.slice adB n cB)) (.take 0 (.take 1 (.take 2 (.take 4 (.move 3 (.move 5 (.take 6 (.take 7 (.take 8 (.take 9 (.take 10 .done))))))))))) j9 j9 ?_ ?_
 ·exact Aa (Ad (S:=λ_=>False) Hb0.o (Keeps.drew _) (by simp)) 0
 intro w3 hs3 hk3;have hk3w:K0 w w3:=Hk0.o.nt hk3;have hlt3:=Ag hs3;obtain⟨Hs3,Hk3,Hk3w,Hlt3⟩:=hid4 hs3 hk3 hk3w hlt3;clear hlt3 hk3w hk3 hs3;refine je ?_;intro K hK
 go_at_call 291
 ((with_reducible refine(Hlow.o _ Hk3w.o).mono ?_);rintro e w4 ⟨v4,rfl,hrow4,hf4⟩;dsimp only)
 refine hK.out _ _ (by exact(hf4.1.cell (p:=⟨w.heap.size,0,none⟩) Hlt3.o (by simp)).trans Hs3.o) ?_;clear hK K;refine jc ?_;have hk4w:K0 w w4:=Hk3w.o.nt hf4.1;have hs4:=(hf4.1.cell (p:=⟨w.heap.size,0,none⟩) Hlt3.o (by simp)).trans Hs3.o;have hb4:=Ad (Ad Hb0.o Hk3.o (by simp)) hf4.1 (by simp);have hlt4:=Ag hs4;obtain⟨Hrow4,Hf4,Hk4w,Hs4,Hlt4,Hb4⟩:=hid6 hrow4 hf4 hk4w hs4 hlt4 hb4;clear hb4 hlt4 hs4 hk4w hf4 hrow4;refine je ?_;intro K hK
 go_at_call 290
 ((with_reducible refine(Hin1.o _ _ Hk4w.o Hrow4.o).mono ?_);rintro e w5 ⟨g1,rfl,hrow5,hk5,hg5⟩;dsimp only)
 refine hK.out _ _ (by exact(hk5.cell (p:=⟨w.heap.size,0,none⟩) Hlt4.o (by simp)).trans Hs4.o) ?_;clear hK K;refine jc ?_;have hk5w:K0 w w5:=Hk4w.o.nt hk5;have hb5:=Ad Hb4.o hk5 (by simp);have hg5w:w.heap.size<=g1:=by have:=Hk4w.o.size;omega
 obtain⟨Hrow5,Hk5,Hg5,Hk5w,Hb5,Hg5w⟩:=hid6 hrow5 hk5 hg5 hk5w hb5 hg5w;clear hg5w hb5 hk5w hg5 hk5 hrow5;refine jo ?_;have b50:=Aa Hb5.o 0;have b5l:=lt_of_block Hb5.o;clear b0 b2 bl;go_wp2_with fail;refine(Ep _ _ n _ (HB.o.keeps Hk5w.o (by simp)) (Jy _) j6).mono ?_;rintro e w6 ⟨v6,rfl,hrow6,hk6,hnew6⟩;obtain⟨g2,c2,rfl⟩:=Eo hrow6 hn1;have hg2:w5.heap.size<=g2:=hnew6 g2 rfl;have hlt1:=Hrow5.o.lt;have hg12:¬g1=g2:=j8;have hg2w:w.heap.size<=g2:=by have:=Hk5w.o.size;omega
 have hr1:=Hrow5.o.keep hk6;have hr2:RowZ w6 2 g2 n c2 B:=⟨hrow6,HN.o⟩;have hk6w:K0 w w6:=Hk5w.o.nt hk6;clear b50 b5l hlt1;obtain⟨Hrow6,Hk6,Hnew6,Hg2,Hr1,Hr2,Hk6w,Hg12,Hg2w⟩:=hid9 hrow6 hk6 hnew6 hg2 hr1 hr2 hk6w hg12 hg2w;clear hg2w hg12 hk6w hr2 hr1 hg2 hnew6 hk6 hrow6;go_wp2
 go_loopw [59] (λx wx=>∃i:Nat,x= .int .i64 (i:Nat)/\i<=n/\RowZ wx 2 g2 n c2 (stepL (λx y=>x-y) B p1 i)/\Keeps (λk=>k=g2) w6 wx) (λx _=>n-(intOf x).toNat)
 case atStart=>exact⟨0,rfl,Nat.zero_le _,by rw [Kj];exact Hr2.o,Keeps.refl _ _⟩
 case round=>
  obtain⟨i,rfl,hin,hrow,hk⟩:=hrel;obtain⟨wq,hwq⟩:=eY wr;subst hwq;have hrp:RowZ wq 2 g1 n n p1:=⟨hk.row Hr1.o.1 (λg' hg e=>by simp only [Value.ownBlock,Option.some.injEq] at hg;subst hg;exact Hg12.o e),Hr1.o.2⟩;by_cases hlt:i<n
  ·have hltI:(i:Int)<(n:Int):=j8;obtain⟨x,hx⟩:=Au (L:=B) (k:=i) jW;obtain⟨y,hy⟩:=Au (L:=p1) (k:=i) (by rw [Hpl.o];exact hlt);obtain⟨x0,x1⟩:=HBb.o x (List.mem_of_getElem? hx);have hxy:=Hpe.o i y hy;rw [List.getD_eq_getElem?_getD,hx] at hxy;obtain⟨y0,y1⟩:=hxy;simp only [Option.getD_some] at y1;have ex:=Mt (f:=λx y=>x-y) (P:=p1) jX hx;have cx:=hrow.cell ex;have fx:=hrow.free i;have cy:=hrp.cell hy;have lx:=hrow.lt;have ly:=hrp.lt;have hst:=Ms (f:=λx y=>x-y) (P:=p1) jX hx hy;have hnew:=hrow.set hlt (x-y);rw [hst] at hnew;have hkn:Keeps (λk=>k=g2) w6 (wq.setCell ⟨g2,i,none⟩ (.int .i64 (x-y))):=hk.trans (Keeps.setCell _ _ _ (.inl rfl));obtain⟨Hrow,Hk,Hrp,Hx,Hy,Ex,Hst,Hnew,Hkn⟩:=hid9 hrow hk hrp hx hy ex hst hnew hkn;clear hkn hnew hst ex hy hx hrp hk hrow;exact j3g
  ·obtain rfl:i=n:=by omega
   rw [Kk jX HN.o] at hrow;have hkw:K0 w wq:=Hk6w.o.trans (hk.mono λk _ e=> .inr (by subst e;exact Hg2w.o));obtain⟨Hrow,Hk,Hrp,Hkw⟩:=hid4 hrow hk hrp hkw;clear hkw hrp hk hrow;go_wp2_with fail;refine(Hhigh.o _ Hkw.o).mono ?_;rintro e w7 ⟨v7,rfl,hrow7,hf7⟩;have hk7w:=Hkw.o.nt hf7.1;have hrB7:=Hrow.o.keep hf7.1;have hrp7:=Hrp.o.keep hf7.1;obtain⟨Hrow7,Hf7,Hk7w,HrB7,Hrp7⟩:=hid5 hrow7 hf7 hk7w hrB7 hrp7;clear hrp7 hrB7 hk7w hf7 hrow7;go_wp2_with fail;refine(Qg _ (rankL true R) (q1,r2) (a-m+r1) (some ⟨g2,0,none⟩) v7 c2 i w7 HrB7.o.reads HrB7.o.2 Hrow7.o (by rw [Kn,HRn.o]) HB2.o ⟨by omega,by omega⟩ HokH.o j6 Hq.o).mono ?_;rintro e w8 ⟨g3,rfl,hrow8,hk8,hg3⟩;have hlt1:=Hrp7.o.lt;have hg13:¬g1=g3:=j8;have hk8w:=Hk7w.o.nt hk8;have hrp8:=Hrp7.o.keep hk8;simp only at hrow8;clear hlt1;obtain⟨Hrow8,Hk8,Hg3,Hg13,Hk8w,Hrp8⟩:=hid6 hrow8 hk8 hg3 hg13 hk8w hrp8;clear hrp8 hk8w hg13 hg3 hk8 hrow8;go_wp2
   go_loopw [86] (λx wx=>∃j:Nat,x= .int .i64 (j:Nat)/\j<=i/\RowZ wx 2 g1 i i (stepL (λx y=>x+y) p1 q1 j)/\Keeps (λk=>k=g1) w8 wx) (λx _=>i-(intOf x).toNat)
   case atStart=>exact⟨0,rfl,Nat.zero_le _,by rw [Kj];exact Hrp8.o,Keeps.refl _ _⟩
   case round=>
    obtain⟨j,rfl,hjn,hrowj,hkj⟩:=hrel;obtain⟨wz,hwz⟩:=eY wr;subst hwz;have hrq:RowZ wz 2 g3 i i q1:=⟨hkj.row Hrow8.o.1 (λg' hg e=>by simp only [Value.ownBlock,Option.some.injEq] at hg;subst hg;exact Hg13.o e.symm),Hrow8.o.2⟩;by_cases hltj:j<i
    ·have hltI:(j:Int)<(i:Int):=j8;obtain⟨x,hx⟩:=Au (L:=p1) (k:=j) (by rw [Hpl.o];exact hltj);obtain⟨y,hy⟩:=Au (L:=q1) (k:=j) (by rw [Hql.o];exact hltj);obtain⟨x0,x1⟩:=p1bd Hpe.o HBb.o hx;obtain⟨y0,y1⟩:=p1bd Hqe.o HB2.o hy;have ex:=Mt (f:=λx y=>x+y) (P:=q1) (by rw [Hpl.o,Hql.o]) hx;have cx:=hrowj.cell ex;have fx:=hrowj.free j;have cy:=hrq.cell hy;have lx:=hrowj.lt;have ly:=hrq.lt;have hst:=Ms (f:=λx y=>x+y) (P:=q1) (by rw [Hpl.o,Hql.o]) hx hy;have hnew:=hrowj.set hltj (x+y);rw [hst] at hnew;have hkn:Keeps (λk=>k=g1) w8 (wz.setCell ⟨g1,j,none⟩ (.int .i64 (x+y))):=hkj.trans (Keeps.setCell _ _ _ (.inl rfl));obtain⟨Hrowj,Hkj,Hrq,Hx,Hy,Ex,Hst,Hnew,Hkn⟩:=hid9 hrowj hkj hrq hx hy ex hst hnew hkn;clear hkn hnew hst ex hy hx hrq hkj hrowj;exact j3h
    ·obtain rfl:j=i:=by omega
     rw [Kk (by rw [Hpl.o,Hql.o]) Hpl.o] at hrowj;have hkz:K0 w wz:=Hk8w.o.trans (hkj.mono λk _ e=> .inr (by subst e;exact Hg5w.o));obtain⟨Hrowj,Hkj,Hrq,Hkz⟩:=hid4 hrowj hkj hrq hkz;clear hkz hrq hkj hrowj;go_wp2;exact bodyPost_ret (v:= .tuple #[.slice (some ⟨g1,0,none⟩) j j,.int .i64 m,.int .i64 r2,.int .i64 0]) (by simp [results,Tryz.results276,go_sem]) rfl ⟨g1,rfl,Hrowj.o,Hkz.o,Hg5w.o⟩
end Go.Proofs.YtgbgmadkmabeeaaGreat
