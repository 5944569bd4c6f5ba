/- Part 11 of what the laws of this seat share: walks of functions, and plain laws. -/
import Derived.Deep.DeepCutAuto
import Derived.Test.YtgbgmadkmabeeaaGreatE2
import Derived.Test.YtgbgmadkmabeeaaGreatE9
import Derived.Test.YtgbgmadkmabeeaaGreatE10
set_option maxRecDepth 100000
set_option maxHeartbeats 3200000
namespace Go.Proofs.YtgbgmadkmabeeaaGreat
open Go.RowKit
structure Ps where
 bal:List Int
 cr:Int
 du:Int
def Ps.val(p:Ps)(v:Value):Value:= .agg #[v,.int .i64 p.cr,.int .i64 p.du]
def sumI:List Int->Int
 | []=>0
 |x::L=>x+sumI L
theorem Aa5(A B:List Int):sumI (A++B)=sumI A+sumI B:=by
 induction A with
 |nil=>simp [sumI]
 |cons x A ih=>simp only [List.cons_append,sumI,ih];omega
theorem sumI_snoc{L:List Int}{k:Nat}{x:Int}(h:L[k]?=some x):sumI (L.take (k+1))=sumI (L.take k)+x:=by rw [take_snoc' h,Aa5];simp [sumI]
theorem Qz{L:List Int}(h:L.all Br=true):0<=sumI L:=by
 induction L with
 |nil=>exact Int.le_refl _
 |cons x L ih=>
  simp only [List.all_cons,Bool.and_eq_true] at h;have:=ih h.2;have:=(Bi x).1 h.1;simp only [sumI];omega
def scanB(L:List Int):Bool:=L.all Br&&Br (sumI L)
theorem scan_bad1{L:List Int}{k:Nat}{x:Int}(h:L[k]?=some x)(hx:Br x=false):scanB L=false:=by
 have:L.all Br=false:=by
  rw [Bool.eq_false_iff];intro hh;have:=List.all_eq_true.1 hh x (List.mem_of_getElem? h);rw [hx] at this;cases this
 unfold scanB;rw [this];rfl
theorem scan_bad2{L:List Int}{k:Nat}(hk:1000000000000000<sumI (L.take k)):scanB L=false:=by
 rcases ha:L.all Br with _|_
 ·unfold scanB;rw [ha];rfl
 ·have hd:(L.drop k).all Br=true:=List.all_eq_true.2 λx hx=>List.all_eq_true.1 ha x (List.mem_of_mem_drop hx);have h1:=Qz hd;have h2:sumI L=sumI (L.take k)+sumI (L.drop k):=by rw [<-Aa5,List.take_append_drop]
  unfold scanB;rw [show Br (sumI L)=false by simp [Br];omega];simp
def Ps.Bh(p:Ps):Bool:=scanB p.bal&&(decide (1<=p.bal.length)&&(decide (p.bal.length<=8)&&(Br p.cr&&(Br p.du&&(decide (p.cr=0)||decide (sumI p.bal=0))))))
theorem Aam(v:Int)(w:World):Calls Tryz.prog 241 #[.int .i64 v] w λe w'=>e= .returned (.bool (Br v))/\w=w':=by
 by_cases h1:v<0
 ·have hf:Br v=false:=by simp [Br];omega
  have h1':¬0<=v:=j8;exact j1h
 ·by_cases h2:1000000000000000<v
  ·have hf:Br v=false:=by simp [Br];omega
   have hd:decide (v<=1000000000000000)=false:=by rw [decide_eq_false_iff_not];omega
   have h1':0<=v:=j8;exact j1h
  ·have hf:Br v=true:=by simp [Br];omega
   have h1':0<=v:=j8;exact j1h
theorem Cb{v:Int}{b:Bool}(h:Br v=b)(w:World):Calls Tryz.prog 241 #[.int .i64 v] w λe w'=>e= .returned (.bool b)/\w=w':=by subst h;exact Aam v w
theorem Fg(L:List Int)(cr du:Int)(ad:Option Addr)(cap n:Nat)(w:World)(hr:Reads w 1 (.slice ad n cap) n (L.flatMap i64c))(hN:L.length=n)(hl:n<=1000):
  Calls Tryz.prog 204 #[.agg #[.slice ad n cap,.int .i64 cr,.int .i64 du]] w λe w'=>e= .returned (.bool (Ps.Bh ⟨L,cr,du⟩))/\Keeps (λ_=>False) w w':=by
 obtain⟨z,hz⟩:∃z,Ps.Bh ⟨L,cr,du⟩=z:=⟨_,rfl⟩;rw [hz];refine j0g ?_;intro hbx;obtain⟨Hr,Hz,Hbx⟩:=hid3 hr hz hbx;clear hbx hz hr;go_enter Tryz.func204,Tryz.ntmps204;go_wp2
 go_loopw [3,9] (λx y wx=>∃(i:Nat) (s:Int),x= .int .i64 s/\y= .int .i64 (i:Nat)/\i<=n/\sumI (L.take i)=s/\(L.take i).all Br=true/\0<=s/\s<=1000000000000000/\Keeps (λ_=>False) (w.alloc (.cells #[.slice ad n cap,.int .i64 cr,.int .i64 du] 52)) wx) (λ_ y _=>n-(intOf y).toNat)
 case atStart=>exact⟨0,0,rfl,rfl,Nat.zero_le _,rfl,rfl,by omega,by omega,Keeps.refl _ _⟩
 case round=>
  obtain⟨i,s,rfl,rfl,hin,hs,hall,hs0,hs1,hk⟩:=hrel;obtain⟨wq,hwq⟩:∃x,x=wr:=⟨_,rfl⟩;subst hwq;by_cases hlt:i<n
  ·have hltI:(i:Int)<(n:Int):=j8;obtain⟨x,hx⟩:=Ar (L:=L) (k:=i) j6;obtain⟨g,o,he,hc⟩:=(Hr.out.keeps ((Keeps.alloc w _).nt hk) (by simp)).int (k:= .i64) hx;subst he;have hgl:=Ag hc;have hsn:=sumI_snoc hx;rw [hs] at hsn;rcases m3:Br x with _|_
   ·have hf:Ps.Bh ⟨L,cr,du⟩=false:=by unfold Ps.Bh;rw [show scanB L=false from scan_bad1 hx m3];rfl
    obtain rfl:z=false:=Hz.out.symm.trans hf;obtain⟨Hall,Hk,Hs,Hsn,Hx,Hf⟩:=hid6 hall hk hs hsn hx hf;clear hf hx hsn hs hk hall
    go_wp2_with (go_at_call 241;(with_reducible refine(Cb m3 _).mono ?_);rintro e w1 ⟨rfl,rfl⟩)
    go_ret;exact⟨rfl,(Keeps.alloc w _).nt Hk.out⟩
   ·obtain⟨x0,x1⟩:=(Bi x).1 m3;rcases m4:Br (s+x) with _|_
    ·have hf:Ps.Bh ⟨L,cr,du⟩=false:=by
      unfold Ps.Bh;rw [show scanB L=false from scan_bad2 (k:=i+1) (by rw [hsn];have h4:¬(0<=s+x/\s+x<=1000000000000000):=λh=>(by rw [(Bi _).2 h] at m4;cases m4);omega)];rfl
     obtain rfl:z=false:=Hz.out.symm.trans hf;obtain⟨Hall,Hk,Hs,Hsn,Hx,Hf⟩:=hid6 hall hk hs hsn hx hf;clear hf hx hsn hs hk hall;exact j2G
    ·obtain⟨y0,y1⟩:=(Bi _).1 m4;have hall2:(L.take (i+1)).all Br=true:=by rw [take_snoc' hx,List.all_append,hall];simp [m3]
     obtain⟨Hall,Hk,Hs,Hsn,Hx,Hall2⟩:=hid6 hall hk hs hsn hx hall2;clear hall2 hx hsn hs hk hall
     go_wp2_with (first|(go_at_call 241;(with_reducible refine(Cb m3 _).mono ?_);rintro e w1 ⟨rfl,rfl⟩)|(go_at_call 241;(with_reducible refine(Cb m4 _).mono ?_);rintro e w1 ⟨rfl,rfl⟩))
     go_roundw
     case rel=>exact⟨i+1,s+x,rfl,by go_num,by omega,Hsn.out,Hall2.out,by omega,by omega,Hk.out⟩
     case measure=>simp [intOf];omega
  ·obtain rfl:i=n:=by omega
   rw [List.take_of_length_le j6] at hs hall;have hsc:scanB L=true:=by unfold scanB;rw [hall,hs,(Bi s).2 ⟨hs0,hs1⟩];rfl
   have hb:=Hbx.out wq hk;have b0:=Aa hb 0;have b1:=Aa hb 1;have b2:=Aa hb 2;have bl:=lt_of_block hb;have m3:Br cr=Br cr:=rfl;have m4:Br du=Br du:=rfl;clear hb;by_cases h1:1<=i
   ·have h1I:decide ((1:Int)<=(i:Int))=true:=by rw [decide_eq_true_iff];omega
    by_cases h2:i<=8
    ·have h2I:decide ((i:Int)<=8)=true:=by rw [decide_eq_true_iff];omega
     clear m3 m4;rcases m3:Br cr with _|_
     ·have m4:Br du=Br du:=rfl;exact j0h
     ·rcases m4:Br du with _|_
      ·skip
       exact j0h
      ·by_cases h5:cr=0
       ·have h5I:(cr==0)=true:=by simp [h5]
        have h5D:decide (cr=0)=true:=by simp [h5]
        clear h5;exact j2H
       ·have h5I:(cr==0)=false:=beq_eq_false_iff_ne.2 h5;by_cases h6:s=0
        ·subst h6;exact j2H
        ·have h6I:(s==0)=false:=beq_eq_false_iff_ne.2 h6;exact j0h
    ·have h2I:decide ((i:Int)<=8)=false:=by rw [decide_eq_false_iff_not];omega
     exact j0h
   ·have h1I:decide ((1:Int)<=(i:Int))=false:=by rw [decide_eq_false_iff_not];omega
    exact j0h
theorem El(w:World)(v:Value)(n:Nat)(xs:List Value)(hr:Reads w 1 v n xs)(h1:∀u∈xs,u.oneCell'=true)(hn:n<=1000000000000):
  Calls Tryz.prog 72 #[v] w λe w'=>∃v',e= .returned v'/\w'.ownsRow 0 2 1 v' n xs/\Keeps (λ_=>False) w w'/\(∀k,v'.ownBlock=some k->w.heap.size<=k):=by
 obtain⟨i0,hi,hz0,hz1,hz2⟩:=info_parts Gi;have hr':=hr;obtain⟨ad,c,rfl,hnc,hl,hnone,hcells⟩:=hr';clear hcells;have heq:=fun(wx:World) (ad:Option Addr) (l c:Nat)=>Lib.run_eql_slice_nil (P:=Tryz.prog) wx 50 _ ad l c 0 0 Tryz.underlying50;rcases ad with _|a
 ·obtain rfl:=hnone rfl;obtain rfl:n=0:=by omega
  obtain rfl:xs= []:=List.eq_nil_of_length_eq_zero jx;have hr0:=Lib.hid hr;clear hr;go_enter Tryz.func72,Tryz.ntmps72;exact jF
 ·have Hr:=Lib.hid hr;clear hr;obtain⟨Hl,Hnone,H1⟩:=hid3 hl hnone h1;clear h1 hnone hl;go_enter Tryz.func72,Tryz.ntmps72
  go_wp2_with (at_builtin;refine Au rfl (.tmp 5) (.tmp 6) 50 rfl 0 2 i0 _ 1 8 Tryz.underlying50 hi hz0 hz1 hz2 rfl j7 _ 0 [] rfl (World.ownsRow_lit w #[] 0 j6 jd rfl) _ n xs rfl (Hr.out.keeps (Keeps.alloc (S:=λ_=>False) _ _) (by simp)) H1.out jd j6 j6 ?_)
  intro v' w1 hown1 hk1 hfr
  have hend:w1.ownsRow 0 2 1 v' n xs/\Keeps (λ_=>False) w w1/\(∀k,v'.ownBlock=some k->w.heap.size<=k):=by
   exact jG
  exact jH
def ps0:Ps:=⟨[],0,0⟩
def Zx(p:Ps)(z:Int)(w:World)(e:Ending)(w':World):Prop:=∃v,e= .returned (.tuple #[.agg #[v,.int .i64 p.cr,.int .i64 p.du],.int .i64 z])/\w'.ownsRow 0 2 1 v p.bal.length (p.bal.flatMap i64c)/\Fresh w w' v
theorem Gz(L:List Int)(cr du:Int)(v:Value)(n:Nat)(w:World)(hr:Reads w 1 v n (L.flatMap i64c))(hl:n<=1000):
  Calls Tryz.prog 273 #[.agg #[v,.int .i64 cr,.int .i64 du]] w λe w'=>∃v',e= .returned (.agg #[v',.int .i64 cr,.int .i64 du])/\w'.ownsRow 0 2 1 v' n (L.flatMap i64c)/\Fresh w w' v':=by
 have hcl:=λW (hW:Keeps (λ_=>False) w W)=>El W v n (L.flatMap i64c) (hr.keeps hW (by simp)) (Jp _) j6;obtain⟨ad,cap,rfl,_⟩:=id hr;obtain⟨Hr,Hcl⟩:=hid2 hr hcl;clear hcl hr;go_enter Tryz.func273,Tryz.ntmps273;go_wp2_with fail;refine(Hcl.out _ jf).mono ?_;rintro e w1 ⟨v1,rfl,hrow,hk1,hnew⟩;have hkw:=(by(repeat (first|exact Keeps.refl _ _|exact Keeps.alloc _ _|exact Keeps.drew _|exact Keeps.drewN _ _|refine Keeps.Am ?_|refine Keeps.Al ?_|refine Keeps.Ae ?_)):Keeps (λ_=>False) w ((w.alloc (.cells #[.slice ad n cap,.int .i64 cr,.int .i64 du] 52)).alloc (.cells #[.slice none 0 0,.int .i64 0,.int .i64 0] 52))).nt hk1;have hb:=j2I;refine j0D ?_;intro hrs;have k0:Keeps (λi=>i=w.heap.size) w1 (w1.setCell ⟨w.heap.size,0,none⟩ v1):=Keeps.setCell _ _ _ rfl;have hrs2:=Ad hrs k0 (by simp);have hb3:((((w1.setCell ⟨w.heap.size,0,none⟩ v1).setCell ⟨w.heap.size+1,0,none⟩ v1).setCell ⟨w.heap.size+1,1,none⟩ (.int .i64 cr)).setCell ⟨w.heap.size+1,2,none⟩ (.int .i64 du)).heap[w.heap.size+1]?=some (.cells #[v1,.int .i64 cr,.int .i64 du] 52 (0,0)):=(heap_setCell_same _ _ 2 _ _ _ ((heap_setCell_same _ _ 1 _ _ _ ((heap_setCell_same _ _ 0 _ _ _ hrs2).trans rfl)).trans rfl)).trans rfl
 have k3:Keeps (λi=>w.heap.size<=i) w1 ((((w1.setCell ⟨w.heap.size,0,none⟩ v1).setCell ⟨w.heap.size+1,0,none⟩ v1).setCell ⟨w.heap.size+1,1,none⟩ (.int .i64 cr)).setCell ⟨w.heap.size+1,2,none⟩ (.int .i64 du)):=
  (((Keeps.setCell (S:=λi=>w.heap.size<=i) _ _ _ (Nat.le_refl _)).trans (Keeps.setCell _ _ _ (.inl (by simp)))).trans (Keeps.setCell _ _ _ (.inl (by simp)))).trans (Keeps.setCell _ _ _ (.inl (by simp)))
 have k4:Keeps (λi=>i=w.heap.size\/i=w.heap.size+1) w1 ((((w1.setCell ⟨w.heap.size,0,none⟩ v1).setCell ⟨w.heap.size+1,0,none⟩ v1).setCell ⟨w.heap.size+1,1,none⟩ (.int .i64 cr)).setCell ⟨w.heap.size+1,2,none⟩ (.int .i64 du)):=
  (((Keeps.setCell (S:=λi=>i=w.heap.size\/i=w.heap.size+1) _ _ _ (.inl rfl)).trans (Keeps.setCell _ _ _ (.inl (.inr rfl)))).trans (Keeps.setCell _ _ _ (.inl (.inr rfl)))).trans (Keeps.setCell _ _ _ (.inl (.inr rfl)))
 have hrow3:=k4.row hrow (λg hg e=>by have:=hnew g hg;simp at this;omega);have hfin:Fresh w ((((w1.setCell ⟨w.heap.size,0,none⟩ v1).setCell ⟨w.heap.size+1,0,none⟩ v1).setCell ⟨w.heap.size+1,1,none⟩ (.int .i64 cr)).setCell ⟨w.heap.size+1,2,none⟩ (.int .i64 du)) v1:=⟨hkw.trans (k3.mono λi _ e=> .inr e),λg hg=>by have:=hnew g hg;simp at this;omega⟩;have b0:=Aa hb 0;have b1:=Aa hb 1;have b2:=Aa hb 2;have bf:=Ab hb 0;have bl:=lt_of_block hb;refine jT ?_;intro r0 r1 r2 rf0 rf1 rf2 rl;have sr0:=Aa hb3 0;have sr1:=Aa hb3 1;have sr2:=Aa hb3 2;obtain⟨ad1,c1,rfl,_,_⟩:=Af hrow;obtain⟨Hrow,Hk1,Hnew,Hkw,Hb,Hrs,K0,Hrs2,Hb3⟩:=hid9 hrow hk1 hnew hkw hb hrs k0 hrs2 hb3;clear hb3 hrs2 k0 hrs hb hkw hnew hk1 hrow;obtain⟨K3,K4,Hrow3,Hfin,Sr0,Sr1,Sr2⟩:=hid7 k3 k4 hrow3 hfin sr0 sr1 sr2;clear sr2 sr1 sr0 hfin hrow3 k4 k3;go_wp2;refine ji ?_;intro R0' R1' R2';clear r0 r1 r2 b0 b1 b2;exact bodyPost_ret (v:= .agg #[.slice ad1 n c1,.int .i64 cr,.int .i64 du]) (by simp [results,Tryz.results273,go_sem,R0',R1',R2']) rfl ⟨_,rfl,Hrow3.out,Hfin.out⟩
theorem Fh(L:List Int)(cr du:Int)(ad:Option Addr)(cap n:Nat)(w:World)(hr:Reads w 1 (.slice ad n cap) n (L.flatMap i64c))(hN:L.length=n)(hl:n<=1000):
  Calls Tryz.prog 275 #[.agg #[.slice ad n cap,.int .i64 cr,.int .i64 du]] w λe w'=>e= .returned (.tuple #[.agg (if Ps.Bh ⟨L,cr,du⟩=true then #[.slice ad n cap,.int .i64 cr,.int .i64 du] else #[.slice none 0 0,.int .i64 0,.int .i64 0]),.int .i64 (if Ps.Bh ⟨L,cr,du⟩=true then 0 else 5)])/\Keeps (λ_=>False) w w':=by
 refine j0i ?_;intro hri;rcases hb:Ps.Bh ⟨L,cr,du⟩ with _|_
 ·rw [hb] at hri;rw [if_neg j7,if_neg j7];obtain⟨Hr,Hri,Hb⟩:=hid3 hr hri hb;clear hb hri hr;go_enter Tryz.func275,Tryz.ntmps275;go_wp2_with fail;refine(Hri.out _ jf).mono ?_;rintro e w1 ⟨rfl,hk1⟩;refine j2J ?_;intro Hk1 hrs;refine jT ?_;intro r0 r1 r2 rf0 rf1 rf2 rl;have hb3:(((w1.setCell ⟨w.heap.size+1,0,none⟩ (.slice none 0 0)).setCell ⟨w.heap.size+1,1,none⟩ (.int .i64 0)).setCell ⟨w.heap.size+1,2,none⟩ (.int .i64 0)).heap[w.heap.size+1]?=some (.cells #[.slice none 0 0,.int .i64 0,.int .i64 0] 52 (0,0)):=(heap_setCell_same _ _ 2 _ _ _ ((heap_setCell_same _ _ 1 _ _ _ ((heap_setCell_same _ _ 0 _ _ _ hrs).trans rfl)).trans rfl)).trans rfl;have sr0:=Aa hb3 0;have sr1:=Aa hb3 1;have sr2:=Aa hb3 2;have hfin:Keeps (λ_=>False) w (((w1.setCell ⟨w.heap.size+1,0,none⟩ (.slice none 0 0)).setCell ⟨w.heap.size+1,1,none⟩ (.int .i64 0)).setCell ⟨w.heap.size+1,2,none⟩ (.int .i64 0)):=Hk1.out.trans ((((Keeps.setCell (S:=λi=>w.heap.size<=i) _ _ _ (by simp)).trans (Keeps.setCell _ _ _ (.inl (by simp)))).trans (Keeps.setCell _ _ _ (.inl (by simp)))).mono λi _ e=> .inr e);obtain⟨Hk1,Hrs,Hb3,Hfin,Sr0,Sr1,Sr2⟩:=hid7 hk1 hrs hb3 hfin sr0 sr1 sr2;clear sr2 sr1 sr0 hfin hb3 hrs hk1;go_wp2;refine ji ?_;intro R0' R1' R2';clear r0 r1 r2;exact bodyPost_ret (v:= .tuple #[.agg #[.slice none 0 0,.int .i64 0,.int .i64 0],.int .i64 5]) (by simp [results,Tryz.results275,go_sem,R0',R1',R2']) rfl ⟨rfl,Hfin.out⟩
 ·rw [hb] at hri;rw [if_pos rfl,if_pos rfl];obtain⟨Hr,Hri,Hb⟩:=hid3 hr hri hb;clear hb hri hr;go_enter Tryz.func275,Tryz.ntmps275;go_wp2_with fail;refine(Hri.out _ jf).mono ?_;rintro e w1 ⟨rfl,hk1⟩;have hbx:=j2I;have b0:=Aa hbx 0;have b1:=Aa hbx 1;have b2:=Aa hbx 2;have bl:=lt_of_block hbx;refine j2J ?_;intro Hk1 hrs;have Hbx:=Lib.hid hbx;clear hbx;refine jT ?_;intro r0 r1 r2 rf0 rf1 rf2 rl;have hb3:(((w1.setCell ⟨w.heap.size+1,0,none⟩ (.slice ad n cap)).setCell ⟨w.heap.size+1,1,none⟩ (.int .i64 cr)).setCell ⟨w.heap.size+1,2,none⟩ (.int .i64 du)).heap[w.heap.size+1]?=some (.cells #[.slice ad n cap,.int .i64 cr,.int .i64 du] 52 (0,0)):=(heap_setCell_same _ _ 2 _ _ _ ((heap_setCell_same _ _ 1 _ _ _ ((heap_setCell_same _ _ 0 _ _ _ hrs).trans rfl)).trans rfl)).trans rfl;have sr0:=Aa hb3 0;have sr1:=Aa hb3 1;have sr2:=Aa hb3 2;have hfin:Keeps (λ_=>False) w (((w1.setCell ⟨w.heap.size+1,0,none⟩ (.slice ad n cap)).setCell ⟨w.heap.size+1,1,none⟩ (.int .i64 cr)).setCell ⟨w.heap.size+1,2,none⟩ (.int .i64 du)):=Hk1.out.trans ((((Keeps.setCell (S:=λi=>w.heap.size<=i) _ _ _ (by simp)).trans (Keeps.setCell _ _ _ (.inl (by simp)))).trans (Keeps.setCell _ _ _ (.inl (by simp)))).mono λi _ e=> .inr e);obtain⟨Hk1,Hrs,Hb3,Hfin,Sr0,Sr1,Sr2⟩:=hid7 hk1 hrs hb3 hfin sr0 sr1 sr2;clear sr2 sr1 sr0 hfin hb3 hrs hk1;go_wp2;refine ji ?_;intro R0' R1' R2';clear r0 r1 r2;exact bodyPost_ret (v:= .tuple #[.agg #[.slice ad n cap,.int .i64 cr,.int .i64 du],.int .i64 0]) (by simp [results,Tryz.results275,go_sem,R0',R1',R2']) rfl ⟨rfl,Hfin.out⟩
def trB(n:Nat)(k:Int):Bool:=decide (1<=k)&&decide (k<=n)
def askE(p:Ps)(T:List Int)(a:Int):Int:=if p.Bh=true then(if T.all (trB p.bal.length)=true then(if Br a=true then 0 else 8) else 7) else 1
theorem Jg(L:List Int)(cr du a:Int)(T:List Int)(ad adT:Option Addr)(cap capT n m:Nat)(w:World)(hr:Reads w 1 (.slice ad n cap) n (L.flatMap i64c))(hN:L.length=n)(hl:n<=1000)(hT:Reads w 1 (.slice adT m capT) m (T.flatMap i64c))(hM:T.length=m)(hm:m<=1000):
  Calls Tryz.prog 272 #[.agg #[.slice ad n cap,.int .i64 cr,.int .i64 du],.int .i64 a,.slice adT m capT] w λe w'=>e= .returned (.int .i64 (askE ⟨L,cr,du⟩ T a))/\Keeps (λ_=>False) w w':=by
 refine j0i ?_;intro hri;obtain⟨z,hz⟩:∃z,askE ⟨L,cr,du⟩ T a=z:=⟨_,rfl⟩;have hz':=hz;unfold askE at hz';simp only at hz';rw [hN] at hz';rw [hz];refine j0g ?_;intro hbx;rcases hb:Ps.Bh ⟨L,cr,du⟩ with _|_
 ·rw [hb] at hri hz';rw [if_neg j7] at hz';subst hz';obtain⟨Hr,HT,Hri,Hb,Hz,Hbx⟩:=hid6 hr hT hri hb hz hbx;clear hbx hz hb hri hT hr;go_enter Tryz.func272,Tryz.ntmps272;exact j2K
 ·rw [hb] at hri hz';rw [if_pos rfl] at hz';obtain⟨Hr,HT,Hri,Hb,Hz,Hz',Hbx⟩:=hid7 hr hT hri hb hz hz' hbx;clear hbx hz' hz hb hri hT hr;go_enter Tryz.func272,Tryz.ntmps272;go_wp2_with fail;refine(Hri.out _ jf).mono ?_;rintro e w1 ⟨rfl,hk1⟩;have Hk1:=Lib.hid hk1;clear hk1;go_wp2
  go_loopw [14] (λx wx=>∃i:Nat,x= .int .i64 (i:Nat)/\i<=m/\(T.take i).all (trB n)=true/\Keeps (λ_=>False) w1 wx) (λx _=>m-(intOf x).toNat)
  case atStart=>exact⟨0,rfl,Nat.zero_le _,rfl,Keeps.refl _ _⟩
  case round=>
   obtain⟨i,rfl,him,hall,hk⟩:=hrel;obtain⟨wq,hwq⟩:∃x,x=wr:=⟨_,rfl⟩;subst hwq;have hkb:=Hk1.out.nt hk;have hkw:=(Keeps.alloc w _).nt hkb;by_cases hlt:i<m
   ·have hltI:(i:Int)<(m:Int):=j8;obtain⟨k,hx⟩:=Ar (L:=T) (k:=i) j6;obtain⟨g,o,he,hc⟩:=(HT.out.keeps hkw (by simp)).int (k:= .i64) hx;subst he;have hgl:=Ag hc;have hb:=Hbx.out wq hkb;have b0:=Aa hb 0;have bl:=lt_of_block hb;clear hb;by_cases hk1:1<=k/\k<=n
    ·obtain⟨k1,k2⟩:=hk1;have hall2:(T.take (i+1)).all (trB n)=true:=by rw [take_snoc' hx,List.all_append,hall];simp [trB,k1,k2]
     have k1':¬k<1:=j8;have k2':¬(n:Int)<k:=j8;obtain⟨Hall,Hk,Hkb,Hkw,Hx,Hall2⟩:=hid6 hall hk hkb hkw hx hall2;clear hall2 hx hkw hkb hk hall;go_wp2;go_roundw
     case rel=>exact⟨i+1,by go_num,by omega,Hall2.out,Hk.out⟩
     case measure=>simp [intOf];omega
    ·have hbad:T.all (trB n)=false:=by
      rw [Bool.eq_false_iff];intro h;have:=List.all_eq_true.1 h k (List.mem_of_getElem? hx);simp [trB] at this;omega
     have h:=Hz'.out;rw [hbad,if_neg j7] at h;subst h;obtain⟨Hall,Hk,Hkb,Hkw,Hx,Hbad⟩:=hid6 hall hk hkb hkw hx hbad;clear hbad hx hkw hkb hk hall;by_cases k1:k<1
     ·clear hk1;go_wp2;exact j0j
     ·have k2:(n:Int)<k:=j8;clear hk1;go_wp2;exact j0j
   ·obtain rfl:i=m:=by omega
    rw [List.take_of_length_le j6] at hall;have h:=Hz'.out;rw [hall,if_pos rfl] at h;rcases m3:Br a with _|_
    ·rw [m3,if_neg j7] at h;exact j2L
    ·rw [m3,if_pos rfl] at h;exact j2L
def Gc(p:Ps)(k a:Int):Ps:=⟨p.bal.set (k-1).toNat (p.bal.getD (k-1).toNat 0+(a-minI a p.cr)),p.cr-minI a p.cr,p.du⟩
theorem Ku(B g c:Nat)(L:List Int)(cr du k a:Int)(n:Nat)(w:World)(hb:w.heap[B]?=some (.cells #[.slice (some ⟨g,0,none⟩) n c,.int .i64 cr,.int .i64 du] 52 (0,0)))(hrow:RowZ w 2 g n c L)(hm:∀x,L[(k-1).toNat]?=some x->0<=x/\x<=1000000000000000)(hcr:0<=cr/\cr<=1000000000000000)(ha:0<=a/\a<=1000000000000000)(hk:1<=k/\k<=n)(hn:n<=1000):
  Calls Tryz.prog 274 #[(.pointer (some ⟨B,0,none⟩)),.int .i64 k,.int .i64 a] w λe w'=>e= .returned (.tuple #[])/\w'.heap[B]?=some (.cells #[.slice (some ⟨g,0,none⟩) n c,.int .i64 (cr-minI a cr),.int .i64 du] 52 (0,0))/\RowZ w' 2 g n c (L.set (k-1).toNat (L.getD (k-1).toNat 0+(a-minI a cr)))/\Keeps (λi=>i=B\/i=g) w w':=by
 obtain⟨i,hi⟩:∃i:Nat,(i:Int)=k-1:=⟨(k-1).toNat,by omega⟩;have hlen:=hrow.2;obtain⟨x,hx⟩:=Ar (L:=L) (k:=i) j6;have q3:(k-1).toNat=i:=j8;obtain⟨x1,x2⟩:=hm x (by rw [q3];exact hx);have hxD:L.getD (k-1).toNat 0=x:=by rw [q3,List.getD_eq_getElem?_getD,hx];rfl
 rw [hxD,q3];obtain⟨m,hmin⟩:∃m,minI a cr=m:=⟨_,rfl⟩;have hm2:0<=m/\m<=a/\m<=cr:=by rw [<-hmin];unfold minI;split<;>omega
 rw [hmin]
 have hgB:g≠B:=λe=>by
  subst e;exact Ai hrow.1 hb j7 rfl
 have b0:=Aa hb 0;have b1:=Aa hb 1;have b2:=Aa hb 2;have f1:=Ab hb 1;have bl:=lt_of_block hb;have ck:=hrow.cell hx;have fk:=hrow.free i;have lg:=hrow.lt;have q1:(0:Int)<=k-1:=j8;have q2:k-1<(n:Int):=j8;have q4:IntKind.i64.wrap (k-1)=k-1:=IntWalk.i64_in _ ⟨by omega,by omega⟩;have k1:Keeps (λi=>i=B) w (w.setCell ⟨B,1,none⟩ (.int .i64 (cr-m))):=Keeps.setCell _ _ _ rfl;have k2:Keeps (λi=>i=g) (w.setCell ⟨B,1,none⟩ (.int .i64 (cr-m))) ((w.setCell ⟨B,1,none⟩ (.int .i64 (cr-m))).setCell ⟨g,i,none⟩ (.int .i64 (x+(a-m)))):=Keeps.setCell _ _ _ rfl;have hrow1:RowZ (w.setCell ⟨B,1,none⟩ (.int .i64 (cr-m))) 2 g n c L:=⟨k1.row hrow.1 (λg' hg e=>by simp only [Value.ownBlock,Option.some.injEq] at hg;subst hg;exact hgB e),hrow.2⟩;have hin:i<n:=j8
 have hpost:((w.setCell ⟨B,1,none⟩ (.int .i64 (cr-m))).setCell ⟨g,i,none⟩ (.int .i64 (x+(a-m)))).heap[B]?=some (.cells #[.slice (some ⟨g,0,none⟩) n c,.int .i64 (cr-m),.int .i64 du] 52 (0,0))/\RowZ ((w.setCell ⟨B,1,none⟩ (.int .i64 (cr-m))).setCell ⟨g,i,none⟩ (.int .i64 (x+(a-m)))) 2 g n c (L.set i (x+(a-m)))/\Keeps (λi=>i=B\/i=g) w ((w.setCell ⟨B,1,none⟩ (.int .i64 (cr-m))).setCell ⟨g,i,none⟩ (.int .i64 (x+(a-m)))):=
  ⟨Ad ((heap_setCell_same _ _ 1 _ _ _ hb).trans rfl) k2 (λe=>hgB e.symm),hrow1.set hin _,(k1.mono λi _ e=> .inl e).trans (k2.mono λi _ e=> .inl (.inr e))⟩
 have hgB2:¬B=g:=λe=>hgB e.symm;obtain⟨ha0,ha1⟩:=ha;obtain⟨hc0,hc1⟩:=hcr;obtain⟨m0,m1,m2⟩:=hm2;by_cases hle:a<=cr
 ·obtain rfl:m=a:=by rw [<-hmin];unfold minI;rw [if_pos hle]
  rw [Int.sub_self,Int.add_zero] at hpost⊢;exact j2M
 ·obtain rfl:m=cr:=by rw [<-hmin];unfold minI;rw [if_neg hle]
  rw [Int.sub_self] at hpost⊢;exact j2M
theorem Keeps.te{S T:Nat->Prop}{w w1 w2:World}(h:Keeps S w w1)(h2:Keeps T w1 w2)(hs:∀i,T i->S i):Keeps S w w2:=h.trans (h2.mono λi _ e=> .inl (hs i e))
theorem Bv {W : World} {R : Nat} {t : TypeId} {v0 c0 d0 : Value} (h : W.heap[R]? = some (.cells #[v0, c0, d0] t (0, 0))) (v c d : Value) :
    (((W.setCell ⟨R, 0, none⟩ v).setCell ⟨R, 1, none⟩ c).setCell ⟨R, 2, none⟩ d).heap[R]? = some (.cells #[v, c, d] t (0, 0)) /\ Keeps (λi => i = R) W (((W.setCell ⟨R, 0, none⟩ v).setCell ⟨R, 1, none⟩ c).setCell ⟨R, 2, none⟩ d) :=
  ⟨(heap_setCell_same _ _ 2 _ _ _ ((heap_setCell_same _ _ 1 _ _ _ ((heap_setCell_same _ _ 0 _ _ _ h).trans rfl)).trans rfl)).trans rfl,
   ((Keeps.setCell (S := λi => i = R) _ _ _ rfl).trans (Keeps.setCell _ _ _ (.inl rfl))).trans (Keeps.setCell _ _ _ (.inl rfl))⟩
theorem Ej{w:World}{b:Nat}{e:TypeId}{s:Nat}{v:Value}{n:Nat}{xs:List Value}(h:w.ownsRow b e s v n xs)(hn:1<=n):∃g c,v= .slice (some ⟨g,0,none⟩) n c:=by
 rcases h.2 with⟨_,h0⟩|⟨g,c,_,h,_⟩
 ·omega
 ·exact⟨g,c,h⟩
theorem Qu{p:Ps}{T:List Int}{a:Int}(h:askE p T a=0):p.Bh=true/\T.all (trB p.bal.length)=true/\Br a=true:=by
 unfold askE at h;rcases h1:p.Bh with _|_
 ·rw [h1,if_neg j7] at h;omega
 ·rw [h1,if_pos rfl] at h;rcases h2:T.all (trB p.bal.length) with _|_
  ·rw [h2,if_neg j7] at h;omega
  ·rw [h2,if_pos rfl] at h;rcases h3:Br a with _|_
   ·rw [h3,if_neg j7] at h;omega
   ·exact⟨rfl,rfl,rfl⟩
theorem Ew{p:Ps}(h:p.Bh=true):(∀x∈p.bal,0<=x/\x<=1000000000000000)/\(0<=p.cr/\p.cr<=1000000000000000)/\(0<=p.du/\p.du<=1000000000000000)/\1<=p.bal.length/\p.bal.length<=8:=by
 simp only [Ps.Bh,scanB,Bool.and_eq_true,decide_eq_true_eq] at h;obtain⟨⟨h1,_⟩,h2,h3,h4,h5,_⟩:=h;exact⟨λx hx=>(Bi x).1 (List.all_eq_true.1 h1 x hx),(Bi _).1 h4,(Bi _).1 h5,h2,h3⟩
def Jd(p:Ps)(k a:Int):Ps×Int:=if askE p [k] a=0 then(if(Gc p k a).Bh=true then(Gc p k a,0) else(ps0,5)) else(ps0,askE p [k] a)
theorem Lh(L:List Int)(cr du k a:Int)(ad:Option Addr)(cap n:Nat)(w:World)(hr:Reads w 1 (.slice ad n cap) n (L.flatMap i64c))(hN:L.length=n)(hl:n<=1000):
  Calls Tryz.prog 250 #[.agg #[.slice ad n cap,.int .i64 cr,.int .i64 du],.int .i64 k,.int .i64 a] w (Zx (Jd ⟨L,cr,du⟩ k a).1 (Jd ⟨L,cr,du⟩ k a).2 w):=by
 refine j2N ?_;intro z hz hask;rw [hz] at hask;unfold Jd;rw [hz];by_cases h0:z=0
 ·subst h0;rw [if_pos rfl];obtain⟨hright,htr,hmon⟩:=Qu hz;obtain⟨hbal,hcr,hdu,hn1,hn8⟩:=Ew hright;simp only at hbal hcr hdu hn1 hn8;rw [hN] at hn1 hn8;have hkk:1<=k/\k<=n:=by simpa [trB,hN] using htr
  have ham:=(Bi a).1 hmon;refine j0E ?_;intro hown;obtain⟨q,hq⟩:∃q,Gc ⟨L,cr,du⟩ k a=q:=⟨_,rfl⟩;rw [hq];obtain⟨R,hR⟩:∃R:Ps×Int,(if q.Bh=true then(q,0) else(ps0,5))=R:=⟨_,rfl⟩;rw [hR];obtain⟨Hr,Hask,Hown,Hz,Hright,Htr,Hmon,Hbal,Hcr⟩:=hid9 hr hask hown hz hright htr hmon hbal hcr;clear hcr hbal hmon htr hright hz hown hask hr;obtain⟨Hdu,Hkk,Ham,Hq,HR⟩:=hid5 hdu hkk ham hq hR;clear hR hq ham hkk hdu;go_enter Tryz.func250,Tryz.ntmps250;go_wp2_with fail
  all_goals
   refine(Hask.out _ _ jf (Reads.litAt _ _ _ 1 1 _ (by simp) rfl)).mono ?_;rintro e w1 ⟨rfl,hk1⟩;have hkw:Keeps (λ_=>False) w w1:=(by(repeat (first|exact Keeps.refl _ _|exact Keeps.alloc _ _|exact Keeps.drew _|exact Keeps.drewN _ _|refine Keeps.Am ?_|refine Keeps.Al ?_|refine Keeps.Ae ?_)):Keeps (λ_=>False) w (((w.alloc (.cells #[.slice ad n cap,.int .i64 cr,.int .i64 du] 52)).alloc (.cells #[.slice none 0 0,.int .i64 0,.int .i64 0] 52)).alloc (.cells #[.int .i64 k] 3))).nt hk1;have hbx:w1.heap[w.heap.size]?=some (.cells #[.slice ad n cap,.int .i64 cr,.int .i64 du] 52 (0,0)):=Ad (Ao (Ao (heap_alloc_new w _) _) _) hk1 (by simp);have hrs:w1.heap[w.heap.size+1]?=some (.cells #[.slice none 0 0,.int .i64 0,.int .i64 0] 52 (0,0)):=Ad (Ao (Av _ _ (by simp)) _) hk1 (by simp);have b0:=Aa hbx 0;have b1:=Aa hbx 1;have b2:=Aa hbx 2;have bl:=lt_of_block hbx;obtain⟨Hk1,Hkw,Hbx,Hrs⟩:=hid4 hk1 hkw hbx hrs;clear hrs hbx hkw hk1;go_wp2_with fail;refine(Hown.out _ Hkw.out).mono ?_;rintro e w2 ⟨v1,rfl,hrow,hk2,hnew⟩;obtain⟨g,c,rfl⟩:=Ej hrow hn1;have hgn:w1.heap.size<=g:=hnew g rfl;have hbx2:=Ad Hbx.out hk2 (by simp);clear b0 b1 b2 bl;have hgB:g≠w.heap.size:=by have:=lt_of_block Hbx.out;omega
   have hgR:g≠w.heap.size+1:=by have:=lt_of_block Hrs.out;omega
   have hS:=Bv hbx2 (.slice (some ⟨g,0,none⟩) n c) (.int .i64 cr) (.int .i64 du);obtain⟨hb3,k3⟩:=hS;have hrow3:=k3.row hrow (λg' hg e=>by simp only [Value.ownBlock,Option.some.injEq] at hg;subst hg;exact hgB e);have hc0:=Ku w.heap.size g c L cr du k a n _ hb3 ⟨hrow3,hN⟩ (λx hx=>Hbal.out x (List.mem_of_getElem? hx)) Hcr.out Ham.out Hkk.out hl;have c0:=Aa hbx2 0;have c1:=Aa hbx2 1;have c2:=Aa hbx2 2;have f0:=Ab hbx2 0;have f1:=Ab hbx2 1;have f2:=Ab hbx2 2;have bl2:=lt_of_block hbx2;obtain⟨Hrow,Hk2,Hnew,Hgn,Hbx2,HgB,HgR,Hb3,K3⟩:=hid9 hrow hk2 hnew hgn hbx2 hgB hgR hb3 k3;clear k3 hb3 hgR hgB hbx2 hgn hnew hk2 hrow;obtain⟨Hrow3,Hc0⟩:=hid2 hrow3 hc0;clear hc0 hrow3;go_wp2_with fail;refine Hc0.out.mono ?_;rintro e w4 ⟨rfl,hb4,hrow4,hk4⟩;clear c0 c1 c2 f0 f1 f2 bl2;obtain⟨L2,hL2⟩:∃x,L.set (k-1).toNat (L.getD (k-1).toNat 0+(a-minI a cr))=x:=⟨_,rfl⟩;obtain⟨c2,hc2⟩:∃x,cr-minI a cr=x:=⟨_,rfl⟩;have hq:=Hq.out;unfold Gc at hq;simp only at hq;rw [hL2,hc2] at hq;rw [hL2] at hrow4;rw [hc2] at hb4;clear Hq;subst hq;have hrs4:w4.heap[w.heap.size+1]?=some (.cells #[.slice none 0 0,.int .i64 0,.int .i64 0] 52 (0,0)):=Ad (Ad (Ad Hrs.out Hk2.out (by simp)) K3.out (by simp)) hk4 (by have:=HgR.out;simp;omega);have hjud:=Fh L2 c2 du (some ⟨g,0,none⟩) c n w4 hrow4.reads hrow4.2 hl;have b0:=Aa hb4 0;have b1:=Aa hb4 1;have b2:=Aa hb4 2;have bl:=lt_of_block hb4;rcases hrt:Ps.Bh ⟨L2,c2,du⟩ with _|_
   ·skip
    rw [hrt,if_neg j7,if_neg j7] at hjud;have hR:=HR.out;clear HR;rw [hrt,if_neg j7] at hR;subst hR;obtain⟨HL2,Hc2,Hb4,Hrow4,Hk4,Hrs4,Hjud,Hrt⟩:=hid8 hL2 hc2 hb4 hrow4 hk4 hrs4 hjud hrt;clear hrt hjud hrs4 hk4 hrow4 hb4 hc2 hL2;go_wp2_with fail;refine Hjud.out.mono ?_;rintro e w5 ⟨rfl,hk5⟩;clear b0 b1 b2 bl;have hrs5:=Ad Hrs4.out hk5 (by simp);have hS3:=Bv hrs5 (.slice none 0 0) (.int .i64 0) (.int .i64 0);obtain⟨hb9,k9⟩:=hS3;have r0:=Aa hrs5 0;have r1:=Aa hrs5 1;have r2:=Aa hrs5 2;have rf0:=Ab hrs5 0;have rf1:=Ab hrs5 1;have rf2:=Ab hrs5 2;have rl:=lt_of_block hrs5;refine jt ?_;intro sr0 sr1 sr2;obtain⟨Hrs5,Hb9,K9,Sr0,Sr1,Sr2⟩:=hid6 hrs5 hb9 k9 sr0 sr1 sr2;clear sr2 sr1 sr0 k9 hb9 hrs5;have Hk5:=Lib.hid hk5;clear hk5;go_wp2;refine ji ?_;intro R0' R1' R2';clear r0 r1 r2;exact bodyPost_ret (v:= .tuple #[.agg #[.slice none 0 0,.int .i64 0,.int .i64 0],.int .i64 5]) j1i rfl ⟨_,rfl,⟨by simp [ps0],.inl ⟨rfl,rfl⟩⟩,Hkw.out.trans (((((Hk2.out.mono (λ_ _ e=>e.elim):Keeps (λi=>w.heap.size<=i) _ _).te K3.out (λi e=>by have e':i=w.heap.size:=e;omega)).te Hk4.out (λi e=>by have h1:=Hgn.out;have h2:=Hkw.out.size;rcases e with e'|e'<;>omega)).te Hk5.out (λi e=>e.elim)).te K9.out (λi e=>by have e':i=w.heap.size+1:=e;omega)|>.mono λi _ e=> .inr e),λg hg=>by simp [Value.ownBlock] at hg⟩
   ·skip
    rw [hrt,if_pos rfl,if_pos rfl] at hjud;have hR:=HR.out;clear HR;rw [hrt,if_pos rfl] at hR;subst hR;obtain⟨HL2,Hc2,Hb4,Hrow4,Hk4,Hrs4,Hjud,Hrt⟩:=hid8 hL2 hc2 hb4 hrow4 hk4 hrs4 hjud hrt;clear hrt hjud hrs4 hk4 hrow4 hb4 hc2 hL2;go_wp2_with fail;refine Hjud.out.mono ?_;rintro e w5 ⟨rfl,hk5⟩;clear b0 b1 b2 bl;have hrs5:=Ad Hrs4.out hk5 (by simp);have hS3:=Bv hrs5 (.slice (some ⟨g,0,none⟩) n c) (.int .i64 c2) (.int .i64 du);obtain⟨hb9,k9⟩:=hS3;have r0:=Aa hrs5 0;have r1:=Aa hrs5 1;have r2:=Aa hrs5 2;have rf0:=Ab hrs5 0;have rf1:=Ab hrs5 1;have rf2:=Ab hrs5 2;have rl:=lt_of_block hrs5;refine jt ?_;intro sr0 sr1 sr2;obtain⟨Hrs5,Hb9,K9,Sr0,Sr1,Sr2⟩:=hid6 hrs5 hb9 k9 sr0 sr1 sr2;clear sr2 sr1 sr0 k9 hb9 hrs5;have Hk5:=Lib.hid hk5;clear hk5;go_wp2;refine ji ?_;intro R0' R1' R2';clear r0 r1 r2;have hrow6:=K9.out.row (Hrow4.out.1.of_keeps Hk5.out) (λg' hg e=>by simp only [Value.ownBlock,Option.some.injEq] at hg;subst hg;exact HgR.out e);have hlen2:=Hrow4.out.2;exact bodyPost_ret (v:= .tuple #[.agg #[.slice (some ⟨g,0,none⟩) n c,.int .i64 c2,.int .i64 du],.int .i64 0]) j1i rfl ⟨_,rfl,(by rw [hlen2];exact hrow6),Hkw.out.trans (((((Hk2.out.mono (λ_ _ e=>e.elim):Keeps (λi=>w.heap.size<=i) _ _).te K3.out (λi e=>by have e':i=w.heap.size:=e;omega)).te Hk4.out (λi e=>by have h1:=Hgn.out;have h2:=Hkw.out.size;rcases e with e'|e'<;>omega)).te Hk5.out (λi e=>e.elim)).te K9.out (λi e=>by have e':i=w.heap.size+1:=e;omega)|>.mono λi _ e=> .inr e),λg' hg=>by simp only [Value.ownBlock,Option.some.injEq] at hg;subst hg;have h1:=Hgn.out;have h2:=Hkw.out.size;omega⟩
 ·rw [if_neg h0];obtain⟨Hr,Hask,Hz⟩:=hid3 hr hask hz;clear hz hask hr;go_enter Tryz.func250,Tryz.ntmps250;go_wp2_with fail
  all_goals
   refine(Hask.out _ _ jf (Reads.litAt _ _ _ 1 1 _ (by simp) rfl)).mono ?_;rintro e w1 ⟨rfl,hk1⟩;have hkw:Keeps (λ_=>False) w w1:=(by(repeat (first|exact Keeps.refl _ _|exact Keeps.alloc _ _|exact Keeps.drew _|exact Keeps.drewN _ _|refine Keeps.Am ?_|refine Keeps.Al ?_|refine Keeps.Ae ?_)):Keeps (λ_=>False) w (((w.alloc (.cells #[.slice ad n cap,.int .i64 cr,.int .i64 du] 52)).alloc (.cells #[.slice none 0 0,.int .i64 0,.int .i64 0] 52)).alloc (.cells #[.int .i64 k] 3))).nt hk1;have hrs:w1.heap[w.heap.size+1]?=some (.cells #[.slice none 0 0,.int .i64 0,.int .i64 0] 52 (0,0)):=Ad (Ao (Av _ _ (by simp)) _) hk1 (by simp);have hS3:=j0k;obtain⟨hb9,k9⟩:=hS3;have r0:=Aa hrs 0;have r1:=Aa hrs 1;have r2:=Aa hrs 2;have rf0:=Ab hrs 0;have rf1:=Ab hrs 1;have rf2:=Ab hrs 2;have rl:=lt_of_block hrs;have sr0:=Aa hb9 0;have sr1:=Aa hb9 1;have sr2:=Aa hb9 2;obtain⟨Hrs,Hb9,K9,Sr0,Sr1,Sr2⟩:=hid6 hrs hb9 k9 sr0 sr1 sr2;clear sr2 sr1 sr0 k9 hb9 hrs;obtain⟨Hk1,Hkw⟩:=hid2 hk1 hkw;clear hkw hk1;go_wp2;have R0':=Sr0.out;have R1':=Sr1.out;have R2':=Sr2.out;clear r0 r1 r2;exact bodyPost_ret (v:= .tuple #[.agg #[.slice none 0 0,.int .i64 0,.int .i64 0],.int .i64 z]) j1i rfl ⟨_,rfl,⟨by simp [ps0],.inl ⟨rfl,rfl⟩⟩,Hkw.out.trans (K9.out.mono λi _ e=> .inr jp),λg hg=>by simp [Value.ownBlock] at hg⟩
def mayS(v:Int):Bool:=decide (-1000000000000000<=v)&&decide (v<=1000000000000000)
theorem Jn(v:Int):mayS v=true↔ -1000000000000000<=v/\v<=1000000000000000:=by simp [mayS]
theorem Abn(v:Int)(w:World):Calls Tryz.prog 242 #[.int .i64 v] w λe w'=>e= .returned (.bool (mayS v))/\w=w':=by
 by_cases h1:v< -1000000000000000
 ·have hf:mayS v=false:=by simp [mayS];omega
  have hd:decide (-1000000000000000<=v)=false:=by rw [decide_eq_false_iff_not];omega
  have Hf:=Lib.hid hf;clear hf;go_enter Tryz.func242,Tryz.ntmps242;exact jL
 ·by_cases h2:1000000000000000<v
  ·have hf:mayS v=false:=by simp [mayS];omega
   have hd:decide (v<=1000000000000000)=false:=by rw [decide_eq_false_iff_not];omega
   exact j2O
  ·have hf:mayS v=true:=by simp [mayS];omega
   have hd:decide (v<=1000000000000000)=true:=by rw [decide_eq_true_iff];omega
   exact j2O
theorem Fz{v:Int}{b:Bool}(h:mayS v=b)(w:World):Calls Tryz.prog 242 #[.int .i64 v] w λe w'=>e= .returned (.bool b)/\w=w':=by subst h;exact Abn v w
def addS:List Int->Int->Int×Int
 | [],s=>(s,0)
 |x::L,s=>if(mayS x&&mayS (s+x))=true then addS L (s+x) else(0,5)
theorem Ad7:∀(L:List Int) (s:Int),0<=s->L.all Br=true->s+sumI L<=1000000000000000->addS L s=(s+sumI L,0):=by
 intro L
 induction L with
 |nil=>intro s _ _ _;simp [addS,sumI]
 |cons x L ih=>
  intro s h0 h1 h2;simp only [List.all_cons,Bool.and_eq_true] at h1;obtain⟨x0,x1⟩:=(Bi x).1 h1.1;have h3:=Qz h1.2;simp only [sumI] at h2⊢;have m1:mayS x=true:=(Jn x).2 j6;have m2:mayS (s+x)=true:=(Jn _).2 j6;simp only [addS,m1,m2,Bool.and_self,if_true];rw [ih (s+x) j6 h1.2 j6,Int.add_assoc]
theorem Abo(L:List Int)(ad:Option Addr)(cap n:Nat)(w:World)(hr:Reads w 1 (.slice ad n cap) n (L.flatMap i64c))(hN:L.length=n)(hl:n<=1000000):
  Calls Tryz.prog 205 #[.slice ad n cap] w λe w'=>e= .returned (.tuple #[.int .i64 (addS L 0).1,.int .i64 (addS L 0).2])/\w=w':=by
 obtain⟨z,hz⟩:∃z,addS L 0=z:=⟨_,rfl⟩;rw [hz];obtain⟨Hr,Hz,HN⟩:=hid3 hr hz hN;clear hN hz hr;go_enter Tryz.func205,Tryz.ntmps205;go_wp2_with fail;refine Az 0 rfl ?_;go_wp2_with fail
 go_loopw [4,9] (λx y wx=>∃(i:Nat) (s:Int),x= .int .i64 s/\y= .int .i64 (i:Nat)/\i<=n/\mayS s=true/\addS (L.drop i) s=z/\w=wx) (λ_ y _=>n-(intOf y).toNat)
 case atStart=>exact⟨0,0,rfl,rfl,Nat.zero_le _,rfl,Hz.out,rfl⟩
 case round=>
  obtain⟨i,s,rfl,rfl,hin,hms,hs,hw⟩:=hrel;subst hw;by_cases hlt:i<n
  ·have hltI:(i:Int)<(n:Int):=j8;obtain⟨x,hx⟩:=Ar (L:=L) (k:=i) jU;obtain⟨g,o,he,hc⟩:=Hr.out.int (k:= .i64) hx;subst he;have hgl:=Ag hc;obtain⟨s0,s1⟩:=(Jn s).1 hms
   have hd:L.drop i=x::L.drop (i+1):=by
    exact j2P
   rw [hd] at hs;simp only [addS] at hs;rcases m3:mayS x with _|_
   ·rw [m3,Bool.false_and,if_neg j7] at hs;subst hs;obtain⟨Hx,Hms,Hd⟩:=hid3 hx hms hd;clear hd hms hx
    go_wp2_with (go_at_call 242;(with_reducible refine(Fz m3 _).mono ?_);rintro e w1 ⟨rfl,rfl⟩)
    exact j2Q
   ·obtain⟨x0,x1⟩:=(Jn x).1 m3;rcases m4:mayS (s+x) with _|_
    ·rw [m4,Bool.and_false,if_neg j7] at hs;subst hs;obtain⟨Hx,Hms,Hd⟩:=hid3 hx hms hd;clear hd hms hx
     go_wp2_with (first|(go_at_call 242;(with_reducible refine(Fz m3 _).mono ?_);rintro e w1 ⟨rfl,rfl⟩)|(go_at_call 242;(with_reducible refine(Fz m4 _).mono ?_);rintro e w1 ⟨rfl,rfl⟩))
     exact j2Q
    ·obtain⟨y0,y1⟩:=(Jn _).1 m4;rw [m3,m4,Bool.and_self,if_pos rfl] at hs;obtain⟨Hx,Hms,Hd,Hs⟩:=hid4 hx hms hd hs;clear hs hd hms hx
     go_wp2_with (first|(go_at_call 242;(with_reducible refine(Fz m3 _).mono ?_);rintro e w1 ⟨rfl,rfl⟩)|(go_at_call 242;(with_reducible refine(Fz m4 _).mono ?_);rintro e w1 ⟨rfl,rfl⟩))
     go_roundw
     case rel=>exact⟨i+1,s+x,rfl,by go_num,by omega,m4,Hs.out,by first|rfl|trivial⟩
     case measure=>simp [intOf];omega
  ·obtain rfl:i=n:=by omega
   rw [List.drop_eq_nil_of_le j1j] at hs;simp only [addS] at hs;subst hs;go_wp2;refine Bl ?_;exact bodyPost_ret (v:= .tuple #[.int .i64 s,.int .i64 0]) (by simp [results,Tryz.results205,go_sem]) rfl ⟨rfl,rfl⟩
theorem Jf(p:Ps)(ad:Option Addr)(cap:Nat)(w:World)(hr:Reads w 1 (.slice ad p.bal.length cap) p.bal.length (p.bal.flatMap i64c))(hl:p.bal.length<=1000):
  Calls Tryz.prog 170 #[p.val (.slice ad p.bal.length cap)] w λe w'=>e= .returned (.int .i64 (if p.Bh=true then sumI p.bal else 0))/\Keeps (λ_=>False) w w':=by
 obtain⟨L,cr,du⟩:=p;simp only [Ps.val] at hr hl⊢;obtain⟨n,hN⟩:∃n,L.length=n:=⟨_,rfl⟩;rw [hN] at hr hl⊢;refine j0i ?_;intro hri;refine j0g ?_;intro hbx;rcases hb:Ps.Bh ⟨L,cr,du⟩ with _|_
 ·rw [hb] at hri;rw [if_neg j7];obtain⟨Hr,Hri,Hb,Hbx⟩:=hid4 hr hri hb hbx;clear hbx hb hri hr;go_enter Tryz.func170,Tryz.ntmps170;exact j2K
 ·rw [hb] at hri;rw [if_pos rfl]
  have had:addS L 0=(sumI L,0):=by
   have h1:=hb;simp only [Ps.Bh,scanB,Bool.and_eq_true] at h1;have h2:=Ad7 L 0 (Int.le_refl _) h1.1.1 (by have:=(Bi _).1 h1.1.2;omega);rw [h2,Int.zero_add]
  obtain⟨S,hS⟩:∃S,sumI L=S:=⟨_,rfl⟩;rw [hS] at had⊢;have hadd:=λW (hW:Keeps (λ_=>False) w W)=>Abo L ad cap n W (hr.keeps hW (by simp)) hN j6;rw [had] at hadd;obtain⟨Hr,Hri,Hb,Hbx,Had,Hadd,HS⟩:=hid7 hr hri hb hbx had hadd hS;clear hS hadd had hbx hb hri hr;go_enter Tryz.func170,Tryz.ntmps170;go_wp2_with fail;refine(Hri.out _ jf).mono ?_;rintro e w1 ⟨rfl,hk1⟩;have hkw:=(Keeps.alloc w _).nt hk1;have hb1:=Hbx.out w1 hk1;have b0:=Aa hb1 0;have bl:=lt_of_block hb1;obtain⟨Hk1,Hkw,Hb1⟩:=hid3 hk1 hkw hb1;clear hb1 hkw hk1
  go_wp2_with (go_at_call 205;(with_reducible refine(Hadd.out _ Hkw.out).mono ?_);rintro e w2 ⟨rfl,rfl⟩)
  exact j0j
theorem or_pow(k:Nat)(a c:Int)(h0:0<=a)(h1:a*((2 ^ k:Nat):Int)<18446744073709551616)(c0:0<=c)(c1:c<((2 ^ k:Nat):Int))(c2:c<18446744073709551616):bits .or .u64 (a*((2 ^ k:Nat):Int)) c=(a*((2 ^ k:Nat):Int)+c) % 18446744073709551616:=by
 obtain⟨m,rfl⟩:=Int.eq_ofNat_of_zero_le h0;obtain⟨d,rfl⟩:=Int.eq_ofNat_of_zero_le c0;have hor:2 ^ k*m|||d=2 ^ k*m+d:=(Nat.two_pow_add_eq_or_of_lt (i:=k) (b:=d) j6 m).symm
 have e1:((m:Int)*((2 ^ k:Nat):Int))=((2 ^ k*m:Nat):Int):=by push_cast;rw [Int.mul_comm]
 rw [e1] at h1⊢;have hm:(((2 ^ k*m:Nat):Int) % 18446744073709551616).toNat=2 ^ k*m:=j8;have hd:((d:Int) % 18446744073709551616).toNat=d:=j8;simp only [bits,show IntKind.u64.bits=64 from rfl,BitVec.toNat_or,BitVec.toNat_ofInt];simp only [show((2 ^ 64:Nat):Int)=18446744073709551616 from rfl];rw [hm,hd,hor];simp [IntKind.wrap,IntKind.signed,IntKind.bits]
theorem Km(x:Int)(h0:0<=x)(h1:x<18446744073709551616):bits .and .u64 x 4294967295=x % 4294967296:=by
 obtain⟨m,rfl⟩:=Int.eq_ofNat_of_zero_le h0;have hm:((m:Int) % 18446744073709551616).toNat=m:=j8;have hand:m&&&4294967295=m % 4294967296:=Nat.and_two_pow_sub_one_eq_mod m 32;simp only [bits,show IntKind.u64.bits=64 from rfl,BitVec.toNat_and,BitVec.toNat_ofInt];simp only [show((2 ^ 64:Nat):Int)=18446744073709551616 from rfl];rw [hm,show((4294967295:Int) % 18446744073709551616).toNat=4294967295 by decide,hand];simp [IntKind.wrap,IntKind.signed,IntKind.bits];omega
theorem len64_9(w:World):Calls Tryz.prog 304 #[.int .u64 1000000000] w λe w'=>e= .returned (.int .i64 30)/\w=w':=by
 go_enter Tryz.func304,Tryz.ntmps304;go_wp2;go_ret;exact⟨by kernel_rfl,rfl⟩
theorem len64_3(w:World):Calls Tryz.prog 304 #[.int .u64 1000] w λe w'=>e= .returned (.int .i64 10)/\w=w':=by
 go_enter Tryz.func304,Tryz.ntmps304;go_wp2;go_ret;exact⟨by kernel_rfl,rfl⟩
theorem lz64_9(w:World):Calls Tryz.prog 303 #[.int .u64 1000000000] w λe w'=>e= .returned (.int .i64 34)/\w=w':=by
 go_enter Tryz.func303,Tryz.ntmps303
 go_wp2_with (go_at_call 304;(with_reducible refine(len64_9 _).mono ?_);rintro e w1 ⟨rfl,rfl⟩)
 go_ret;exact⟨rfl,rfl⟩
theorem lz64_3(w:World):Calls Tryz.prog 303 #[.int .u64 1000] w λe w'=>e= .returned (.int .i64 54)/\w=w':=by
 go_enter Tryz.func303,Tryz.ntmps303
 go_wp2_with (go_at_call 304;(with_reducible refine(len64_3 _).mono ?_);rintro e w1 ⟨rfl,rfl⟩)
 go_ret;exact⟨rfl,rfl⟩
theorem div64_9(hi lo:Int)(w:World)(h0:0<=hi)(h1:hi<1000000000)(l0:0<=lo)(l1:lo<18446744073709551616):
  Calls Tryz.prog 298 #[.int .u64 hi,.int .u64 lo,.int .u64 1000000000] w λe w'=>e= .returned (.tuple #[.int .u64 ((hi*18446744073709551616+lo) / 1000000000),.int .u64 ((hi*18446744073709551616+lo) % 1000000000)])/\Keeps (λ_=>False) w w':=by
 by_cases hz:hi=0
 ·subst hz;have e1:(0*18446744073709551616+lo)=lo:=j8;rw [e1];have t1:lo.tdiv 1000000000=lo / 1000000000:=Int.tdiv_eq_ediv_of_nonneg l0;have t2:lo.tmod 1000000000=lo % 1000000000:=Int.tmod_eq_emod_of_nonneg l0;have b1:0<=lo / 1000000000:=j8;have b2:lo / 1000000000<18446744073709551616:=j8;have b3:0<=lo % 1000000000:=j8;have b4:lo % 1000000000<1000000000:=j8;have b5:IntKind.u64.wrap (lo / 1000000000)=lo / 1000000000:=by simp [IntKind.wrap,IntKind.signed,IntKind.bits];omega
  have b6:IntKind.u64.wrap (lo % 1000000000)=lo % 1000000000:=by simp [IntKind.wrap,IntKind.signed,IntKind.bits];omega
  go_enter Tryz.func298,Tryz.ntmps298;go_wp2;refine Ak (λ_=>True) (.take 0 (.take 1 (.take 2 (.take 3 (.take 4 (.take 5 (.take 6 (.take 7 .done)))))))) j9 j9 ?_ ?_
  ·trivial
  intro w1 hs1 hk1;refine jk ?_;go_wp2;exact bodyPost_ret (v:= .tuple #[.int .u64 (lo / 1000000000),.int .u64 (lo % 1000000000)]) j0F rfl ⟨rfl,hk1⟩
 ·have hzI:(hi==0)=false:=beq_eq_false_iff_ne.2 hz;have hleI:decide ((1000000000:Int)<=hi)=false:=by rw [decide_eq_false_iff_not];omega
  obtain⟨V,hV⟩:∃V,V=IntKind.u64.wrap (lo*17179869184):=⟨_,rfl⟩;have hV2:V=lo*17179869184 % 18446744073709551616:=by rw [hV];simp [IntKind.wrap,IntKind.signed,IntKind.bits]
  have hV':IntKind.u64.wrap (lo*17179869184)=V:=hV.symm;obtain⟨V1,hV1⟩:∃V1,V / 4294967296=V1:=⟨_,rfl⟩;obtain⟨V0,hV0⟩:∃V0,bits .and .u64 V 4294967295=V0:=⟨_,rfl⟩;have hV0':V % 4294967296=V0:=by rw [<-hV0,Km V j6 j6]
  have hA0:bits .and .u64 17179869184000000000 4294967295=0:=by rw [Km _ j7 j7];decide
  obtain⟨U,hU⟩:∃U,bits .or .u64 (hi*17179869184) (lo / 1073741824)=U:=⟨_,rfl⟩
  have hU2:U=hi*17179869184+lo / 1073741824:=by
   have h:=or_pow 34 hi (lo / 1073741824) h0 j2R j6 j2R j6;simp only [show((2 ^ 34:Nat):Int)=17179869184 from rfl] at h;rw [<-hU,h];omega
  have u0:0<=U:=j8;have u1:U<4000000000*4294967296:=j8;obtain⟨q1,hq1⟩:∃q1,U.tdiv 4000000000=q1:=⟨_,rfl⟩;have hq1':q1=U / 4000000000:=by rw [<-hq1];exact Int.tdiv_eq_ediv_of_nonneg u0
  have q10:0<=q1:=j8;have q11:q1<4294967296:=j8;obtain⟨r1,hr1⟩:∃r1,U-q1*4000000000=r1:=⟨_,rfl⟩;have r10:0<=r1:=j8;have r11:r1<4000000000:=j8;have v10:0<=V1:=j8;have v11:V1<4294967296:=j8;have qn:decide (4294967296<=q1)=false:=by rw [decide_eq_false_iff_not];omega
  obtain⟨X,hX⟩:∃X,X=r1*4294967296+V1:=⟨_,rfl⟩;have x0:0<=X:=j8;have x1:X<18446744073709551616:=j8;have hxx:4294967296*r1+V1=X:=j8;have xn:decide (X<0)=false:=by rw [decide_eq_false_iff_not];omega
  obtain⟨A1,hA1⟩:∃A1,IntKind.u64.wrap (U*4294967296)=A1:=⟨_,rfl⟩;obtain⟨A2,hA2⟩:∃A2,IntKind.u64.wrap (A1+V1)=A2:=⟨_,rfl⟩;obtain⟨A3,hA3⟩:∃A3,IntKind.u64.wrap (q1*17179869184000000000)=A3:=⟨_,rfl⟩
  have hA4:IntKind.u64.wrap (A2-A3)=X:=by
   simp [IntKind.wrap,IntKind.signed,IntKind.bits] at hA1 hA2 hA3⊢;omega
  obtain⟨q0,hq0⟩:∃q0,X.tdiv 4000000000=q0:=⟨_,rfl⟩;have hq0':q0=X / 4000000000:=by rw [<-hq0];exact Int.tdiv_eq_ediv_of_nonneg x0
  have q00:0<=q0:=j8;have q01:q0<4294967296:=j8;obtain⟨r0,hr0⟩:∃r0,X-q0*4000000000=r0:=⟨_,rfl⟩;have r00:0<=r0:=j8;have r01:r0<4000000000:=j8;have qn0:decide (4294967296<=q0)=false:=by rw [decide_eq_false_iff_not];omega
  have v00:0<=V0:=j8;have v01:V0<4294967296:=j8;obtain⟨Y,hY⟩:∃Y,Y=r0*4294967296+V0:=⟨_,rfl⟩;have y0:0<=Y:=j8;have y1:Y<18446744073709551616:=j8;have hyy:4294967296*r0+V0=Y:=j8;have yn:decide (Y<0)=false:=by rw [decide_eq_false_iff_not];omega
  obtain⟨B1,hB1⟩:∃B1,IntKind.u64.wrap (X*4294967296)=B1:=⟨_,rfl⟩;obtain⟨B2,hB2⟩:∃B2,IntKind.u64.wrap (B1+V0)=B2:=⟨_,rfl⟩;obtain⟨B3,hB3⟩:∃B3,IntKind.u64.wrap (q0*17179869184000000000)=B3:=⟨_,rfl⟩
  have hB4:IntKind.u64.wrap (B2-B3)=Y:=by
   simp [IntKind.wrap,IntKind.signed,IntKind.bits] at hB1 hB2 hB3⊢;omega
  obtain⟨N,hN⟩:∃N,N=hi*18446744073709551616+lo:=⟨_,rfl⟩
  have hfin:q1*4294967296+q0=N / 1000000000/\Y / 17179869184=N % 1000000000:=by
   have k1:N*17179869184=U*18446744073709551616+V:=j8;have k2:N*17179869184=(q1*4294967296+q0)*17179869184000000000+Y:=j8;omega
  rw [<-hN];obtain⟨HV,HV2,HU2,Hq1',HX,Hq0',HY,HN,Hfin⟩:=hid9 hV hV2 hU2 hq1' hX hq0' hY hN hfin;clear hfin hN hY hq0' hX hq1' hU2 hV2 hV;have HV0':=Lib.hid hV0';clear hV0';go_enter Tryz.func298,Tryz.ntmps298
  go_wp2_with (go_at_call 303;(with_reducible refine(lz64_9 _).mono ?_);rintro e w1 ⟨rfl,rfl⟩)
  go_loop [15,16] (λx y=>x= .int .u64 q1/\y= .int .u64 r1) (λ_ _=>0)
  case atStart=>exact⟨rfl,rfl⟩
  case round=>
   obtain⟨rfl,rfl⟩:=hrel;go_wp2
   go_loop [18,16] (λx y=>x= .int .u64 q0/\y= .int .u64 r0) (λ_ _=>0)
   case atStart=>exact⟨rfl,rfl⟩
   case round=>
    obtain⟨rfl,rfl⟩:=hrel;go_wp2;exact bodyPost_ret (v:= .tuple #[.int .u64 (q1*4294967296+q0),.int .u64 (Y / 17179869184)]) j0F rfl ⟨by rw [Hfin.out.1,Hfin.out.2],Keeps.refl _ _⟩
theorem div64_3(hi lo:Int)(w:World)(h0:0<=hi)(h1:hi<1000)(l0:0<=lo)(l1:lo<18446744073709551616):
  Calls Tryz.prog 298 #[.int .u64 hi,.int .u64 lo,.int .u64 1000] w λe w'=>e= .returned (.tuple #[.int .u64 ((hi*18446744073709551616+lo) / 1000),.int .u64 ((hi*18446744073709551616+lo) % 1000)])/\Keeps (λ_=>False) w w':=by
 by_cases hz:hi=0
 ·subst hz;have e1:(0*18446744073709551616+lo)=lo:=j8;rw [e1];have t1:lo.tdiv 1000=lo / 1000:=Int.tdiv_eq_ediv_of_nonneg l0;have t2:lo.tmod 1000=lo % 1000:=Int.tmod_eq_emod_of_nonneg l0;have b1:0<=lo / 1000:=j8;have b2:lo / 1000<18446744073709551616:=j8;have b3:0<=lo % 1000:=j8;have b4:lo % 1000<1000:=j8;have b5:IntKind.u64.wrap (lo / 1000)=lo / 1000:=by simp [IntKind.wrap,IntKind.signed,IntKind.bits];omega
  have b6:IntKind.u64.wrap (lo % 1000)=lo % 1000:=by simp [IntKind.wrap,IntKind.signed,IntKind.bits];omega
  go_enter Tryz.func298,Tryz.ntmps298;go_wp2;refine Ak (λ_=>True) (.take 0 (.take 1 (.take 2 (.take 3 (.take 4 (.take 5 (.take 6 (.take 7 .done)))))))) j9 j9 ?_ ?_
  ·trivial
  intro w1 hs1 hk1;refine jk ?_;go_wp2;exact bodyPost_ret (v:= .tuple #[.int .u64 (lo / 1000),.int .u64 (lo % 1000)]) j0F rfl ⟨rfl,hk1⟩
 ·have hzI:(hi==0)=false:=beq_eq_false_iff_ne.2 hz;have hleI:decide ((1000:Int)<=hi)=false:=by rw [decide_eq_false_iff_not];omega
  obtain⟨V,hV⟩:∃V,V=IntKind.u64.wrap (lo*18014398509481984):=⟨_,rfl⟩;have hV2:V=lo*18014398509481984 % 18446744073709551616:=by rw [hV];simp [IntKind.wrap,IntKind.signed,IntKind.bits]
  have hV':IntKind.u64.wrap (lo*18014398509481984)=V:=hV.symm;obtain⟨V1,hV1⟩:∃V1,V / 4294967296=V1:=⟨_,rfl⟩;obtain⟨V0,hV0⟩:∃V0,bits .and .u64 V 4294967295=V0:=⟨_,rfl⟩;have hV0':V % 4294967296=V0:=by rw [<-hV0,Km V j6 j6]
  have hA0:bits .and .u64 18014398509481984000 4294967295=0:=by rw [Km _ j7 j7];decide
  obtain⟨U,hU⟩:∃U,bits .or .u64 (hi*18014398509481984) (lo / 1024)=U:=⟨_,rfl⟩
  have hU2:U=hi*18014398509481984+lo / 1024:=by
   have h:=or_pow 54 hi (lo / 1024) h0 j2S j6 j2S j6;simp only [show((2 ^ 54:Nat):Int)=18014398509481984 from rfl] at h;rw [<-hU,h];omega
  have u0:0<=U:=j8;have u1:U<4194304000*4294967296:=j8;obtain⟨q1,hq1⟩:∃q1,U.tdiv 4194304000=q1:=⟨_,rfl⟩;have hq1':q1=U / 4194304000:=by rw [<-hq1];exact Int.tdiv_eq_ediv_of_nonneg u0
  have q10:0<=q1:=j8;have q11:q1<4294967296:=j8;obtain⟨r1,hr1⟩:∃r1,U-q1*4194304000=r1:=⟨_,rfl⟩;have r10:0<=r1:=j8;have r11:r1<4194304000:=j8;have v10:0<=V1:=j8;have v11:V1<4294967296:=j8;have qn:decide (4294967296<=q1)=false:=by rw [decide_eq_false_iff_not];omega
  obtain⟨X,hX⟩:∃X,X=r1*4294967296+V1:=⟨_,rfl⟩;have x0:0<=X:=j8;have x1:X<18446744073709551616:=j8;have hxx:4294967296*r1+V1=X:=j8;have xn:decide (X<0)=false:=by rw [decide_eq_false_iff_not];omega
  obtain⟨A1,hA1⟩:∃A1,IntKind.u64.wrap (U*4294967296)=A1:=⟨_,rfl⟩;obtain⟨A2,hA2⟩:∃A2,IntKind.u64.wrap (A1+V1)=A2:=⟨_,rfl⟩;obtain⟨A3,hA3⟩:∃A3,IntKind.u64.wrap (q1*18014398509481984000)=A3:=⟨_,rfl⟩
  have hA4:IntKind.u64.wrap (A2-A3)=X:=by
   simp [IntKind.wrap,IntKind.signed,IntKind.bits] at hA1 hA2 hA3⊢;omega
  obtain⟨q0,hq0⟩:∃q0,X.tdiv 4194304000=q0:=⟨_,rfl⟩;have hq0':q0=X / 4194304000:=by rw [<-hq0];exact Int.tdiv_eq_ediv_of_nonneg x0
  have q00:0<=q0:=j8;have q01:q0<4294967296:=j8;obtain⟨r0,hr0⟩:∃r0,X-q0*4194304000=r0:=⟨_,rfl⟩;have r00:0<=r0:=j8;have r01:r0<4194304000:=j8;have qn0:decide (4294967296<=q0)=false:=by rw [decide_eq_false_iff_not];omega
  have v00:0<=V0:=j8;have v01:V0<4294967296:=j8;obtain⟨Y,hY⟩:∃Y,Y=r0*4294967296+V0:=⟨_,rfl⟩;have y0:0<=Y:=j8;have y1:Y<18446744073709551616:=j8;have hyy:4294967296*r0+V0=Y:=j8;have yn:decide (Y<0)=false:=by rw [decide_eq_false_iff_not];omega
  obtain⟨B1,hB1⟩:∃B1,IntKind.u64.wrap (X*4294967296)=B1:=⟨_,rfl⟩;obtain⟨B2,hB2⟩:∃B2,IntKind.u64.wrap (B1+V0)=B2:=⟨_,rfl⟩;obtain⟨B3,hB3⟩:∃B3,IntKind.u64.wrap (q0*18014398509481984000)=B3:=⟨_,rfl⟩
  have hB4:IntKind.u64.wrap (B2-B3)=Y:=by
   simp [IntKind.wrap,IntKind.signed,IntKind.bits] at hB1 hB2 hB3⊢;omega
  obtain⟨N,hN⟩:∃N,N=hi*18446744073709551616+lo:=⟨_,rfl⟩
  have hfin:q1*4294967296+q0=N / 1000/\Y / 18014398509481984=N % 1000:=by
   have k1:N*18014398509481984=U*18446744073709551616+V:=j8;have k2:N*18014398509481984=(q1*4294967296+q0)*18014398509481984000+Y:=j8;omega
  rw [<-hN];obtain⟨HV,HV2,HU2,Hq1',HX,Hq0',HY,HN,Hfin⟩:=hid9 hV hV2 hU2 hq1' hX hq0' hY hN hfin;clear hfin hN hY hq0' hX hq1' hU2 hV2 hV;have HV0':=Lib.hid hV0';clear hV0';go_enter Tryz.func298,Tryz.ntmps298
  go_wp2_with (go_at_call 303;(with_reducible refine(lz64_3 _).mono ?_);rintro e w1 ⟨rfl,rfl⟩)
  go_loop [15,16] (λx y=>x= .int .u64 q1/\y= .int .u64 r1) (λ_ _=>0)
  case atStart=>exact⟨rfl,rfl⟩
  case round=>
   obtain⟨rfl,rfl⟩:=hrel;go_wp2
   go_loop [18,16] (λx y=>x= .int .u64 q0/\y= .int .u64 r0) (λ_ _=>0)
   case atStart=>exact⟨rfl,rfl⟩
   case round=>
    obtain⟨rfl,rfl⟩:=hrel;go_wp2;exact bodyPost_ret (v:= .tuple #[.int .u64 (q1*4294967296+q0),.int .u64 (Y / 18014398509481984)]) j0F rfl ⟨by rw [Hfin.out.1,Hfin.out.2],Keeps.refl _ _⟩
def evenI(N D:Int):Int:=if 2*(N % D)<D\/(2*(N % D)=D/\N / D % 2=0) then N / D else N / D+1
theorem Rw(hi lo D N:Int)(hD:0<D)(hD2:D<4294967296)(hN:hi*18446744073709551616+lo=N)(_:0<=hi)(h1:hi<D)(_:0<=lo)(_:lo<18446744073709551616)(hq:N / D<1000000000000000000)(hr:0<=N % D/\N % D<D)(hq0:0<=N / D)
  (hdiv:∀w,Calls Tryz.prog 298 #[.int .u64 hi,.int .u64 lo,.int .u64 D] w λe w'=>e= .returned (.tuple #[.int .u64 (N / D),.int .u64 (N % D)])/\Keeps (λ_=>False) w w') (w:World):
  Calls Tryz.prog 281 #[.int .u64 hi,.int .u64 lo,.int .u64 D] w λe w'=>e= .returned (.tuple #[.int .u64 (evenI N D),.bool true])/\Keeps (λ_=>False) w w':=by
 obtain⟨Z,hZ⟩:∃Z,evenI N D=Z:=⟨_,rfl⟩;rw [hZ];unfold evenI at hZ;obtain⟨q,hqq⟩:∃q,N / D=q:=⟨_,rfl⟩;obtain⟨r,hrr⟩:∃r,N % D=r:=⟨_,rfl⟩;rw [hqq] at hq hq0 hdiv hZ;rw [hrr] at hr hdiv hZ;obtain⟨r0,r1⟩:=hr;have hdn:¬D<=hi:=j8;by_cases c1:r<D-r
 ·have c1I:decide (r<D-r)=true:=by rw [decide_eq_true_iff];exact c1
  rw [if_pos j6] at hZ;subst hZ;clear c1;exact j2T
 ·have c1I:decide (r<D-r)=false:=by rw [decide_eq_false_iff_not];exact c1
  by_cases c2:r=D-r
  ·have c2I:(r==D-r)=true:=by rw [beq_iff_eq];exact c2
   by_cases c3:q % 2=0
   ·have c3I:(q % 2==0)=true:=by rw [beq_iff_eq];exact c3
    rw [if_pos j6] at hZ;subst hZ;clear c1 c2 c3;exact j2T
   ·have c3I:(q % 2==0)=false:=beq_eq_false_iff_ne.2 c3;rw [if_neg j6] at hZ;subst hZ;clear c1 c2 c3;exact j2U
  ·have c2I:(r==D-r)=false:=beq_eq_false_iff_ne.2 c2;rw [if_neg j6] at hZ;subst hZ;clear c1 c2;exact j2U
theorem even9(N:Int)(n0:0<=N)(n1:N<1000000000000000000000000000)(w:World):
  Calls Tryz.prog 281 #[.int .u64 (N / 18446744073709551616),.int .u64 (N % 18446744073709551616),.int .u64 1000000000] w λe w'=>e= .returned (.tuple #[.int .u64 (evenI N 1000000000),.bool true])/\Keeps (λ_=>False) w w':=by
 have e1:N / 18446744073709551616*18446744073709551616+N % 18446744073709551616=N:=j8;refine Rw _ _ _ N j7 j7 e1 j6 j6 j6 j6 j6 j6 j6 (λw=> ?_) w;have h:=div64_9 (N / 18446744073709551616) (N % 18446744073709551616) w j6 j6 j6 j6;rw [e1] at h;exact h
theorem even3(N:Int)(n0:0<=N)(n1:N<=1000000000000000000)(w:World):
  Calls Tryz.prog 281 #[.int .u64 (N / 18446744073709551616),.int .u64 (N % 18446744073709551616),.int .u64 1000] w λe w'=>e= .returned (.tuple #[.int .u64 (evenI N 1000),.bool true])/\Keeps (λ_=>False) w w':=by
 have e1:N / 18446744073709551616*18446744073709551616+N % 18446744073709551616=N:=j8;refine Rw _ _ _ N j7 j7 e1 j6 j6 j6 j6 j6 j6 j6 (λw=> ?_) w;have h:=div64_3 (N / 18446744073709551616) (N % 18446744073709551616) w j6 j6 j6 j6;rw [e1] at h;exact h
theorem Uq{N D M:Int}(hD:0<D)(h0:0<=N)(h:N<=M*D):0<=evenI N D/\evenI N D<=M:=by
 have h1:0<=N % D:=Int.emod_nonneg _ j6;have h2:N % D<D:=Int.emod_lt_of_pos _ hD;have h3:N / D*D+N % D=N:=Int.ediv_mul_add_emod N D;have h4:0<=N / D:=Int.ediv_nonneg h0 j6;have h5:N / D<=M:=Int.ediv_le_of_le_mul hD h;unfold evenI
 split
 ·exact⟨h4,h5⟩
 ·rename_i hn;refine⟨by omega, ?_⟩;rcases Int.lt_or_eq_of_le h5 with h6|h6
  ·omega
  ·exfalso;rw [h6] at h3;omega
theorem Zn(a num:Int)(h0:0<=a)(h1:a<=1000000000000000)(n0:0<=num)(n1:num<=1000)(w:World):
  Calls Tryz.prog 283 #[.int .i64 a,.int .i64 num,.int .i64 1000] w λe w'=>e= .returned (.tuple #[.int .i64 (evenI (a*num) 1000),.int .i64 0])/\Keeps (λ_=>False) w w':=by
 have hN0:0<=a*num:=Int.mul_nonneg h0 n0;have hN1:a*num<=1000000000000000*1000:=Int.mul_le_mul h1 n1 n0 j7;have hmay:=λW=>Fz (v:=a) (b:=true) ((Jn a).2 j6) W;have hmul:=λW=>Xf a num h0 j6 n0 j6 W;have hev:=even3 (a*num) hN0 j6;obtain⟨N,hN⟩:∃N,a*num=N:=⟨_,rfl⟩;rw [hN] at hN0 hN1 hmul hev⊢;have hbd:=Uq (N:=N) (D:=1000) (M:=1000000000000000) j7 hN0 hN1;obtain⟨Z,hZ⟩:∃Z,evenI N 1000=Z:=⟨_,rfl⟩;rw [hZ] at hev hbd⊢;obtain⟨z0,z1⟩:=hbd;have zn:decide (1000000000000000<Z)=false:=by rw [decide_eq_false_iff_not];omega
 have an:¬a<0:=j8;obtain⟨A,hA⟩:∃A,N / 18446744073709551616=A:=⟨_,rfl⟩;obtain⟨B,hB⟩:∃B,N % 18446744073709551616=B:=⟨_,rfl⟩;rw [hA,hB] at hmul hev;obtain⟨Hmay,Hmul,Hev,HN,HA,HB,HZ⟩:=hid7 hmay hmul hev hN hA hB hZ;clear hZ hB hA hN hev hmul hmay;go_enter Tryz.func283,Tryz.ntmps283
 go_wp2_with (first|(go_at_call 242;(with_reducible refine(Hmay.out _).mono ?_);rintro e w1 ⟨rfl,rfl⟩)|(go_at_call 296;(with_reducible refine(Hmul.out _).mono ?_);rintro e w1 ⟨rfl,rfl⟩)|(go_at_call 281;(with_reducible refine(Hev.out _).mono ?_);rintro e w1 ⟨rfl,hk1⟩;have Hk1:=Lib.hid hk1;clear hk1))
 exact bodyPost_ret (v:= .tuple #[.int .i64 Z,.int .i64 0]) (by simp [results,Tryz.results283,go_sem]) rfl ⟨rfl,Hk1.out⟩
def outM(m v:Int):Bool:=decide (v<0)||decide (m<v)
theorem Ug(B:Nat)(m x:Int)(w:World)(hB:w.cell? ⟨B,0,none⟩=some (.int .i64 m)):Calls Tryz.prog 302 #[.int .i64 x,(.pointer (some ⟨B,0,none⟩))] w λe w'=>e= .returned (.bool (outM m x))/\w=w':=by
 have hl:=Ag hB;by_cases h1:x<0
 ·have hf:outM m x=true:=by simp [outM];omega
  have h1I:decide (x<0)=true:=by simp [h1]
  exact j1k
 ·have h1I:decide (x<0)=false:=by simp [h1]
  have hf:outM m x=decide (m<x):=by simp [outM,h1I]
  rcases h2:decide (m<x) with _|_
  ·rw [h2] at hf;exact j1k
  ·rw [h2] at hf;exact j1k
theorem Sk(Bm:Nat)(m:Int)(ad:Option Addr)(cap:Nat)(L:List Int)(w:World)(hB:w.cell? ⟨Bm,0,none⟩=some (.int .i64 m))(hr:Reads w 1 (.slice ad L.length cap) L.length (L.flatMap i64c))(hl:L.length<=100000):
  Calls Tryz.prog 287 #[.slice ad L.length cap,.func (.func 302) #[] #[(.pointer (some ⟨Bm,0,none⟩))]] w λe w'=>∃r:Int,e= .returned (.int .i64 r)/\decide (0<=r)=L.any (outM m)/\w=w':=by
 obtain⟨Hr,HB⟩:=hid2 hr hB;clear hB hr;go_enter Tryz.func287,Tryz.ntmps287;go_wp2_with fail
 go_loop [8] (λc=>∃j:Nat,j<=L.length/\c= .int .i64 (j:Nat)/\(L.take j).any (outM m)=false) (λc=>L.length-(intOf c).toNat)
 case atStart=>exact⟨0,Nat.zero_le _,rfl,rfl⟩
 case round=>
  obtain⟨j,hj,rfl,hok⟩:=hrel;by_cases hjl:j<L.length
  ·obtain⟨x,hx⟩:=Ar hjl;obtain⟨g,o,rfl,x0⟩:=Hr.out.int hx;have hsn:=Gd (q:=(outM m)) hx;rw [hok] at hsn;have hcl:=Ug Bm m x w HB.out;rcases m1:outM m x with _|_
   ·have hok':(L.take (j+1)).any (outM m)=false:=by rw [hsn,m1];rfl
    rw [m1] at hcl;obtain⟨Hsn,Hx,Hok,Hok',Hcl⟩:=hid5 hsn hx hok hok' hcl;clear hcl hok' hok hx hsn
    go_wp2_with (go_at_call 302;((with_reducible refine Hcl.out.mono ?_);rintro e w1 ⟨rfl,rfl⟩))
    exact j09
   ·have hf:=Kl (q:=(outM m)) hx m1;have hj0:decide ((0:Int)<=(j:Int))=true:=by simp
    rw [m1] at hcl;obtain⟨Hf,Hsn,Hx,Hj0,Hcl⟩:=hid5 hf hsn hx hj0 hcl;clear hcl hj0 hx hsn hf
    go_wp2_with (go_at_call 302;((with_reducible refine Hcl.out.mono ?_);rintro e w1 ⟨rfl,rfl⟩))
    exact j0v
  ·exact j0a
theorem Pe(Bm:Nat)(m:Int)(ad:Option Addr)(cap:Nat)(L:List Int)(w:World)(hB:w.cell? ⟨Bm,0,none⟩=some (.int .i64 m))(hr:Reads w 1 (.slice ad L.length cap) L.length (L.flatMap i64c))(hl:L.length<=100000):
  Calls Tryz.prog 267 #[.slice ad L.length cap,.func (.func 302) #[] #[(.pointer (some ⟨Bm,0,none⟩))]] w λe w'=>e= .returned (.bool (L.any (outM m)))/\w=w':=by
 obtain⟨Hr,HB⟩:=hid2 hr hB;clear hB hr;go_enter Tryz.func267,Tryz.ntmps267
 go_wp2_with (go_at_call 287;refine(Sk Bm m _ _ L _ HB.out Hr.out hl).mono ?_;rintro e w1 ⟨r,rfl,hd,rfl⟩;have Hd:=Lib.hid hd;clear hd)
 exact j0b
theorem Ni(m:Int)(ad:Option Addr)(cap n:Nat)(L:List Int)(w:World)(hr:Reads w 1 (.slice ad n cap) n (L.flatMap i64c))(hN:L.length=n)(hl:n<=100000):
  Calls Tryz.prog 295 #[.slice ad n cap,.int .i64 m] w λe w'=>e= .returned (.bool (!(L.any (outM m))))/\Keeps (λ_=>False) w w':=by
 subst hN;have hc:=fun(W:World) (hB:W.cell? ⟨w.heap.size,0,none⟩=some (.int .i64 m)) (hW:Keeps (λ_=>False) w W)=>Pe w.heap.size m ad cap L W hB (hr.keeps hW (by simp)) hl;obtain⟨z,hz⟩:∃z,L.any (outM m)=z:=⟨_,rfl⟩;rw [hz] at hc⊢;obtain⟨Hr,Hc,Hz⟩:=hid3 hr hc hz;clear hz hc hr;go_enter Tryz.func295,Tryz.ntmps295;go_wp2_with fail;refine(Hc.out _ (Aa (heap_alloc_new w _) 0) (Keeps.alloc _ _)).mono ?_;rintro e w1 ⟨rfl,rfl⟩;go_wp2;go_ret;exact⟨rfl,Keeps.alloc _ _⟩
theorem Xc{m:Int}{L:List Int}(h:∀x∈L,0<=x/\x<=m):L.any (outM m)=false:=by
 rw [Bool.eq_false_iff];intro hh;obtain⟨x,hx,h2⟩:=List.any_eq_true.1 hh;have:=h x hx;simp [outM] at h2;omega
def dotI:List Int->List Int->Int
 |x::X,y::Y=>x*y+dotI X Y
 |_,_=>0
theorem dotI_snoc:∀(X Y:List Int) (x y:Int),X.length=Y.length->dotI (X++ [x]) (Y++ [y])=dotI X Y+x*y:=by
 intro X
 induction X with
 |nil=>intro Y x y h;cases Y<;>simp_all [dotI]
 |cons a X ih=>
  intro Y x y h
  cases Y with
  |nil=>simp at h
  |cons b Y=>
   simp only [List.cons_append,dotI];rw [ih Y x y (by simpa using h)];omega
theorem dotI_take{X Y:List Int}{k:Nat}{x y:Int}(hl:X.length=Y.length)(hx:X[k]?=some x)(hy:Y[k]?=some y):dotI (X.take (k+1)) (Y.take (k+1))=dotI (X.take k) (Y.take k)+x*y:=by
 rw [take_snoc' hx,take_snoc' hy,dotI_snoc _ _ _ _ (by rw [List.length_take,List.length_take,hl])]
theorem prod_bd{x y:Int}(hx:0<=x/\x<=1000000000000000)(hy:0<=y/\y<=10000000):0<=x*y/\x*y<=10000000000000000000000:=
 ⟨Int.mul_nonneg hx.1 hy.1,Int.le_trans (Int.mul_le_mul hx.2 hy.2 hy.1 (by decide)) (by decide)⟩
theorem Yz:∀(X Y:List Int),(∀x∈X,0<=x/\x<=1000000000000000)->(∀y∈Y,0<=y/\y<=10000000)->0<=dotI X Y/\dotI X Y<=10000000000000000000000*X.length:=by
 intro X
 induction X with
 |nil=>intro Y _ _;cases Y<;>simp [dotI]
 |cons a X ih=>
  intro Y hX hY
  cases Y with
  |nil=>simp only [dotI,List.length_cons];omega
  |cons b Y=>
   have h1:=ih Y (λx hx=>hX x (List.mem_cons_of_mem _ hx)) (λy hy=>hY y (List.mem_cons_of_mem _ hy));have h2:=prod_bd (hX a (List.mem_cons_self ..)) (hY b (List.mem_cons_self ..));simp only [dotI,List.length_cons]
   push_cast
   omega
theorem Ad8(x y c:Int)(hx:0<=x)(hx':x<18446744073709551616)(hy:0<=y)(hy':y<18446744073709551616)(hc:0<=c)(hc':c<=1)(w:World):
  (callFunc 297 #[.int .u64 x,.int .u64 y,.int .u64 c]).run Tryz.prog w= .ok (.value (.tuple #[.int .u64 ((x+y+c) % 18446744073709551616),.int .u64 ((x+y+c) / 18446744073709551616)])) w:=by
 obtain⟨a,rfl⟩:=Int.eq_ofNat_of_zero_le hx;obtain⟨b,rfl⟩:=Int.eq_ofNat_of_zero_le hy;obtain⟨d,rfl⟩:=Int.eq_ofNat_of_zero_le hc;have h:=run_add64 (P:=Tryz.prog) a b d j6 j6 j6 j6 w;rw [run_callFunc_extern Tryz.func297 j9 j9 j9 (e:=add64Entry) j9];rw [h];simp only [Result.andThen]
def ofR(X Y:List Int):Int×Int:=if 1000000000000000<evenI (dotI X Y) 1000000000 then(0,5) else(evenI (dotI X Y) 1000000000,0)
def exS(g1 o1 g2 o2:Nat)(x y:Int)(W:World):Prop:=W.cell? ⟨g1,o1,none⟩=some (.int .i64 x)/\W.cell? ⟨g2,o2,none⟩=some (.int .i64 y)
def exFr(v1 v2:Value)(hi lo:Int)(k:Nat)(u:Nat->Value):Act:={ tmps:= #[v1,v2,u 2,u 3,u 4,u 5,u 6,.int .u64 hi,.int .u64 lo,u 9,u 10,u 11,.int .i64 k,u 13,u 14,u 15,u 16,u 17,u 18,u 19,u 20,u 21,u 22,u 23,u 24,u 25,u 26,u 27,u 28,u 29,u 30,u 31,u 32,u 33,u 34,u 35,u 36,u 37,u 38,u 39,u 40,u 41,u 42,u 43,u 44,u 45,u 46,u 47,u 48,u 49,u 50,u 51,u 52,u 53,u 54,u 55,u 56,u 57,u 58,u 59,u 60,u 61,u 62,u 63,u 64,u 65,u 66,u 67],defers:= [] }
def exJ(w:World)(v1 v2:Value)(X Y:List Int)(n:Nat)(a':Act)(W:World):Prop:=∃(k:Nat) (N:Int) (u:Nat->Value),a'=exFr v1 v2 (N / 18446744073709551616) (N % 18446744073709551616) k u/\Keeps (λ_=>False) w W/\k<=n/\dotI (X.take k) (Y.take k)=N
theorem exJ.mk{w W:World}{v1 v2:Value}{X Y:List Int}{n:Nat}{a':Act}(k:Nat)(N:Int)(h:a'=exFr v1 v2 (N / 18446744073709551616) (N % 18446744073709551616) k (λi=>a'.tmps.getD i undef))(hw:Keeps (λ_=>False) w W)(hn:k<=n)(hp:dotI (X.take k) (Y.take k)=N):exJ w v1 v2 X Y n a' W:=⟨k,N,_,h,hw,hn,hp⟩
def Aa8(i:Nat)(a':Act):Nat:=match a'.tmps.getD i undef with| .int _ n=>n.toNat|_=>0
theorem Yq(X Y:List Int)(ad1 ad2:Option Addr)(c1 c2 n:Nat)(w:World)(hr1:Reads w 1 (.slice ad1 n c1) n (X.flatMap i64c))(hX:X.length=n)(hr2:Reads w 1 (.slice ad2 n c2) n (Y.flatMap i64c))(hY:Y.length=n)(hn:n<=40000)
  (hXb:∀x∈X,0<=x/\x<=1000000000000000) (hYb:∀y∈Y,0<=y/\y<=10000000):
  Calls Tryz.prog 280 #[.slice ad1 n c1,.slice ad2 n c2] w λe w'=>e= .returned (.tuple #[.int .u64 (dotI X Y / 18446744073709551616),.int .u64 (dotI X Y % 18446744073709551616),.int .i64 0])/\Keeps (λ_=>False) w w':=by
 have hw1:=λW (hW:Keeps (λ_=>False) w W)=>Ni 1000000000000000 ad1 c1 n X W (hr1.keeps hW (by simp)) hX j6;have hw2:=λW (hW:Keeps (λ_=>False) w W)=>Ni 10000000 ad2 c2 n Y W (hr2.keeps hW (by simp)) hY j6;rw [Xc hXb,Bool.not_false] at hw1;rw [Xc hYb,Bool.not_false] at hw2;obtain⟨R,hR⟩:∃R,dotI X Y=R:=⟨_,rfl⟩;rw [hR];have hnI:decide ((40000:Int)<(n:Int))=false:=by rw [decide_eq_false_iff_not];omega
 have hne:((n:Int) !=(n:Int))=false:=by simp
 obtain⟨Hr1,HX,Hr2,HY,HXb,HYb,Hw1,Hw2,HR⟩:=hid9 hr1 hX hr2 hY hXb hYb hw1 hw2 hR;clear hR hw2 hw1 hYb hXb hY hr2 hX hr1;go_enter Tryz.func280,Tryz.ntmps280;go_wp2;refine Db 0 (exJ w (.slice ad1 n c1) (.slice ad2 n c2) X Y n) (λa' _=>n-Aa8 12 a') rfl ?_ ?_
 ·rintro a' W ⟨k,N,u,rfl,hk,hkn,hN⟩;unfold exFr;have hbd:=Yz (X.take k) (Y.take k) (λx hx=>HXb.out x (List.mem_of_mem_take hx)) (λy hy=>HYb.out y (List.mem_of_mem_take hy));rw [hN,List.length_take,HX.out] at hbd;obtain⟨N0,N1⟩:=hbd
  have N2:N<=400000000000000000000000000:=by
   have:min k n<=40000:=j8;omega
  clear N1;by_cases hlt:k<n
  ·have hltI:(k:Int)<(n:Int):=j8;have hneI:((k:Int)==(n:Int))=false:=beq_eq_false_iff_ne.2 j6;obtain⟨x,hx⟩:=Ar (L:=X) (k:=k) (by rw [HX.out];exact hlt);obtain⟨y,hy⟩:=Ar (L:=Y) (k:=k) (by rw [HY.out];exact hlt);obtain⟨g1,o1,he1,x0⟩:=(Hr1.out.keeps hk (by simp)).int (k:= .i64) hx;obtain⟨g2,o2,he2,y0⟩:=(Hr2.out.keeps hk (by simp)).int (k:= .i64) hy;subst he1;subst he2;have hS:exS g1 (o1+k) g2 (o2+k) x y W.drew:=⟨x0,y0⟩;have xb:=HXb.out x (List.mem_of_getElem? hx);have yb:=HYb.out y (List.mem_of_getElem? hy);have pb:=prod_bd xb yb;have hsn:=dotI_take (by rw [HX.out,HY.out]) hx hy;rw [hN] at hsn;have hmul:=λW=>Xf x y xb.1 j6 yb.1 j6 W;obtain⟨p,hp⟩:∃p,x*y=p:=⟨_,rfl⟩;rw [hp] at pb hmul hsn;have lx:=Ag x0;have ly:=Ag y0;obtain⟨A,hA⟩:∃A,p / 18446744073709551616=A:=⟨_,rfl⟩;obtain⟨B,hB⟩:∃B,p % 18446744073709551616=B:=⟨_,rfl⟩;obtain⟨Hi,hHi⟩:∃Hi,N / 18446744073709551616=Hi:=⟨_,rfl⟩;obtain⟨Lo,hLo⟩:∃Lo,N % 18446744073709551616=Lo:=⟨_,rfl⟩;rw [hA,hB] at hmul;rw [hHi,hLo];have b1:0<=Lo/\Lo<18446744073709551616:=j8;have b2:0<=B/\B<18446744073709551616:=j8;have b3:0<=Hi/\Hi<1000000000:=j8;have b4:0<=A/\A<1000000000:=j8;have hadd:=fun(W:World)=>add64_run Lo B b1.1 b1.2 b2.1 b2.2 W;obtain⟨C,hC⟩:∃C,(Lo+B) / 18446744073709551616=C:=⟨_,rfl⟩;obtain⟨E,hE⟩:∃E,(Lo+B) % 18446744073709551616=E:=⟨_,rfl⟩;have b5:0<=C/\C<=1:=j8;rw [hC,hE] at hadd;have hadd2:=fun(W:World)=>Ad8 Hi A C b3.1 j6 b4.1 j6 b5.1 b5.2 W;rw [show(Hi+A+C) % 18446744073709551616=(N+p) / 18446744073709551616 by omega] at hadd2;rw [show E=(N+p) % 18446744073709551616 by omega] at hadd;obtain⟨xb0,xb1⟩:=xb;obtain⟨yb0,yb1⟩:=yb;have q1:IntKind.u64.wrap x=x:=by simp [IntKind.wrap,IntKind.signed,IntKind.bits];omega
   have q2:IntKind.u64.wrap y=y:=by simp [IntKind.wrap,IntKind.signed,IntKind.bits];omega
   obtain⟨Hk,HN,Hx,Hy,Hsn,Hmul,Hp,HA,HB⟩:=hid9 hk hN hx hy hsn hmul hp hA hB;clear hB hA hp hmul hsn hy hx hN hk;obtain⟨HHi,HLo,HC,HE,HS⟩:=hid5 hHi hLo hC hE hS;clear hS hE hC hLo hHi;clear pb;go_wp2_with fail;refine Ak (exS g1 (o1+k) g2 (o2+k) x y) (.take 0 (.take 1 (.take 2 (.take 3 (.take 4 (.take 5 (.take 6 (.take 7 (.take 8 (.take 9 (.take 10 (.take 11 (.take 12 (.take 13 (.take 14 (.take 15 .done)))))))))))))))) j9 j9 ?_ ?_
   ·exact HS.out
   intro w1 hs1 hk1;refine jR ?_;refine Fj (v:= ?_) rfl (by rfl) ?_ ?_ ?_ ?_ ?_
   rotate_left 3
   ·intro w' hSw;unfold exS at hSw;go_simp;(first|done|(constructor<;>with_reducible rfl)|with_reducible rfl)
   ·intro w' hSw;exact(Hmul.out _)
   rotate_right 3
   try simp only [aps]
   refine jk ?_;have Hk1:=Lib.hid (Hk.out.nt hk1);clear hk1 hs1;go_wp2_with fail;go_step3;go_wp2;exact Aw ⟨exJ.mk (k+1) (N+p) rfl Hk1.out j6 Hsn.out,by simp [Aa8];omega⟩
  ·obtain rfl:k=n:=by omega
   rw [List.take_of_length_le (by rw [HX.out];exact Nat.le_refl _),List.take_of_length_le (by rw [HY.out];exact Nat.le_refl _),HR.out] at hN;subst hN;have Hk:=Lib.hid hk;clear hk;have hkk:((k:Int)==(k:Int))=true:=by simp
   go_wp2;refine Bl ?_;exact bodyPost_ret (v:= .tuple #[.int .u64 (R / 18446744073709551616),.int .u64 (R % 18446744073709551616),.int .i64 0]) (by simp [results,Tryz.results280,go_sem]) rfl ⟨rfl,Hk.out⟩
 ·refine jy ?_;intro Hfirst;go_wp2_with fail;refine(Hw1.out _ (Keeps.refl _ _)).mono ?_;rintro e w1 ⟨rfl,hk1⟩;have Hk1:=Lib.hid hk1;clear hk1;go_wp2_with fail;refine(Hw2.out _ Hk1.out).mono ?_;rintro e w2 ⟨rfl,hk2⟩;have Hk2:=Lib.hid (Hk1.out.nt hk2);clear hk2;go_wp2;go_step3;rename_i hK;refine jz ?_;exact exJ.mk 0 0 rfl Hk2.out (Nat.zero_le _) rfl
theorem intOf_any(X Y:List Int)(ad1 ad2:Option Addr)(c1 c2 n:Nat)(w:World)(hr1:Reads w 1 (.slice ad1 n c1) n (X.flatMap i64c))(hX:X.length=n)(hr2:Reads w 1 (.slice ad2 n c2) n (Y.flatMap i64c))(hY:Y.length=n)(hn:n<=40000)
  (hXb:∀x∈X,0<=x/\x<=1000000000000000) (hYb:∀y∈Y,0<=y/\y<=10000000):
  Calls Tryz.prog 254 #[.slice ad1 n c1,.slice ad2 n c2] w λe w'=>e= .returned (.tuple #[.int .i64 (ofR X Y).1,.int .i64 (ofR X Y).2])/\Keeps (λ_=>False) w w':=by
 have hex:=Yq X Y ad1 ad2 c1 c2 n w hr1 hX hr2 hY hn hXb hYb;have hbd:=Yz X Y hXb hYb;unfold ofR;obtain⟨N,hN⟩:∃N,dotI X Y=N:=⟨_,rfl⟩;rw [hN] at hex hbd⊢;have hev:=even9 N hbd.1 j6;have hb2:=Uq (N:=N) (D:=1000000000) (M:=1000000000000000000) j7 hbd.1 j6;obtain⟨Z,hZ⟩:∃Z,evenI N 1000000000=Z:=⟨_,rfl⟩;rw [hZ] at hev hb2⊢;obtain⟨A,hA⟩:∃A,N / 18446744073709551616=A:=⟨_,rfl⟩;obtain⟨B,hB⟩:∃B,N % 18446744073709551616=B:=⟨_,rfl⟩;rw [hA,hB] at hev hex;obtain⟨z0,z1⟩:=hb2;by_cases hz:1000000000000000<Z
 ·rw [if_pos hz];have hzI:decide (1000000000000000<Z)=true:=by simp [hz]
  clear hz;obtain⟨Hr1,HX,Hr2,HY,HXb,HYb,Hex,Hbd,HN⟩:=hid9 hr1 hX hr2 hY hXb hYb hex hbd hN;clear hN hbd hex hYb hXb hY hr2 hX hr1;obtain⟨Hev,HZ,HA,HB⟩:=hid4 hev hZ hA hB;clear hB hA hZ hev;go_enter Tryz.func254,Tryz.ntmps254;go_wp2_with fail;refine Hex.out.mono ?_;rintro e w1 ⟨rfl,hk1⟩;have Hk1:=Lib.hid hk1;clear hk1;go_wp2_with fail;refine(Hev.out _).mono ?_;rintro e w2 ⟨rfl,hk2⟩;have Hk2:=Lib.hid (Hk1.out.nt hk2);clear hk2;go_wp2;exact bodyPost_ret (v:= .tuple #[.int .i64 0,.int .i64 5]) (by simp [results,Tryz.results254,go_sem]) rfl ⟨rfl,Hk2.out⟩
 ·rw [if_neg hz];have hzI:decide (1000000000000000<Z)=false:=by simp [hz]
  have hz2:Z<=1000000000000000:=j8;clear hz;obtain⟨Hr1,HX,Hr2,HY,HXb,HYb,Hex,Hbd,HN⟩:=hid9 hr1 hX hr2 hY hXb hYb hex hbd hN;clear hN hbd hex hYb hXb hY hr2 hX hr1;obtain⟨Hev,HZ,HA,HB⟩:=hid4 hev hZ hA hB;clear hB hA hZ hev;go_enter Tryz.func254,Tryz.ntmps254;go_wp2_with fail;refine Hex.out.mono ?_;rintro e w1 ⟨rfl,hk1⟩;have Hk1:=Lib.hid hk1;clear hk1;go_wp2_with fail;refine(Hev.out _).mono ?_;rintro e w2 ⟨rfl,hk2⟩;have Hk2:=Lib.hid (Hk1.out.nt hk2);clear hk2;go_wp2;exact bodyPost_ret (v:= .tuple #[.int .i64 Z,.int .i64 0]) (by simp [results,Tryz.results254,go_sem]) rfl ⟨rfl,Hk2.out⟩
def maxI(a b:Int):Int:=if a<=b then b else a
def Li(mf mp total:Int):Int:=minI total (maxI mf (evenI (total*mp) 1000))
theorem tm_okB{t:Tm}(h:t.err=0):t.okB=true:=by
 unfold Tm.err at h
 split at h
 ·assumption
 ·cases h
theorem Ff{t:Tm}(h:t.err=0):(1<=t.trs.length/\t.trs.length<=8)/\(∀x∈t.trs,0<=x.rate/\x.rate<=10000000)/\(1<=t.cyc/\t.cyc<=28)/\(1<=t.due/\t.due<=25)/\(0<=t.minFixed/\t.minFixed<=1000000000000000)/\(0<=t.minPart/\t.minPart<=1000)/\(-135140<=t.start/\t.start<=2922896):=by
 have h1:=tm_okB h;simp only [Tm.okB,inB,Bool.and_eq_true,decide_eq_true_eq] at h1;refine⟨⟨by omega,by omega⟩,λx hx=> ?_,by omega,by omega,by omega,by omega,by omega⟩;have:=List.all_eq_true.1 h1.1.2 x hx
 simpa [Tn.okB,inB] using this
theorem Aax(t:Tm)(v:Value)(total:Int)(w:World)(hz:t.err=0)(hr:Reads w 2 v t.trs.length (t.trs.flatMap Tn.cells))(h0:0<=total)(h1:total<=1000000000000000):
  Calls Tryz.prog 257 #[.agg #[.int .i64 t.limit,v,.int .i64 t.cyc,.int .i64 t.due,.int .i64 t.minFixed,.int .i64 t.minPart,.int .i64 t.start],.int .i64 total] w λe w'=>e= .returned (.tuple #[.int .i64 (Li t.minFixed t.minPart total),.int .i64 0])/\Keeps (λ_=>False) w w':=by
 obtain⟨⟨l0,l1⟩,_,_,_,⟨f0,f1⟩,⟨p0,p1⟩,_⟩:=Ff hz;have htm:=λW (hW:Keeps (λ_=>False) w W)=>Jv t v W hz (hr.keeps hW (by simp)) j6;have hsh:=λW=>Zn total t.minPart h0 h1 p0 p1 W;have hbd:=Uq (N:=total*t.minPart) (D:=1000) (M:=1000000000000000) j7 (Int.mul_nonneg h0 p0) (Int.mul_le_mul h1 p1 p0 j7);obtain⟨li,cy,du,mf,mp,st,L⟩:=t;simp only at *;unfold Li;obtain⟨q,hq⟩:∃q,evenI (total*mp) 1000=q:=⟨_,rfl⟩;rw [hq] at hsh hbd⊢;obtain⟨ad,c,rfl,_⟩:=id hr;obtain⟨q0,q1⟩:=hbd;have b0:∀W,Keeps (λ_=>False) (w.alloc (.cells #[.int .i64 li,.slice ad L.length c,.int .i64 cy,.int .i64 du,.int .i64 mf,.int .i64 mp,.int .i64 st] 44)) W->W.heap[w.heap.size]?=some (.cells #[.int .i64 li,.slice ad L.length c,.int .i64 cy,.int .i64 du,.int .i64 mf,.int .i64 mp,.int .i64 st] 44 (0,0)):=λW hW=>Ad (heap_alloc_new w _) hW (by simp);have tn:decide (total<0)=false:=by rw [decide_eq_false_iff_not];omega
 have tn2:decide (1000000000000000<total)=false:=by rw [decide_eq_false_iff_not];omega
 obtain⟨n,hn⟩:∃n,L.length=n:=⟨_,rfl⟩;rw [hn] at hr htm b0⊢
 have key:∀z:Int,minI total (maxI mf q)=z->Calls Tryz.prog 257 #[.agg #[.int .i64 li,.slice ad n c,.int .i64 cy,.int .i64 du,.int .i64 mf,.int .i64 mp,.int .i64 st],.int .i64 total] w λe w'=>e= .returned (.tuple #[.int .i64 z,.int .i64 0])/\Keeps (λ_=>False) w w':=by
  intro z hzz;rcases Int.lt_trichotomy mf q with m1|m1|m1
  ·rw [show maxI mf q=q by unfold maxI;rw [if_pos j6]] at hzz;rcases Int.lt_trichotomy total q with m2|m2|m2
   ·rw [show minI total q=total by unfold minI;rw [if_pos j6]] at hzz;exact j1l
   ·exact j2V
   ·rw [show minI total q=q by unfold minI;rw [if_neg j6]] at hzz;subst hzz;obtain⟨Hr,Hz,Htm,Hsh,Hq,B0,Hn⟩:=hid7 hr hz htm hsh hq b0 hn;clear hn b0 hq hsh htm hz hr;go_enter Tryz.func257,Tryz.ntmps257;go_wp2_with fail;refine Az 0 rfl ?_;go_wp2_with fail;refine(Htm.out _ (Keeps.alloc _ _)).mono ?_;rintro e w1 ⟨rfl,hk1⟩;have hb:=B0.out _ hk1;have c5:=Aa hb 5;have cl:=lt_of_block hb;have Hk1:=j0G;clear hk1 hb;go_wp2_with fail;refine(Hsh.out _).mono ?_;rintro e w2 ⟨rfl,hk2⟩;have Hk2:=Lib.hid (Hk1.out.nt hk2);clear hk2;go_wp2;refine Bl ?_;exact bodyPost_ret (v:= .tuple #[.int .i64 q,.int .i64 0]) j1m rfl ⟨rfl,Hk2.out⟩
  ·subst m1;rw [show maxI mf mf=mf by unfold maxI;rw [if_pos j6]] at hzz;exact j2W
  ·rw [show maxI mf q=mf by unfold maxI;rw [if_neg j6]] at hzz;exact j2W
 exact key _ rfl
def payQ(f d:Int)(x:Ev):Bool:=decide (x.kind=2)&&(decide (f<=x.day)&&decide (x.day<=d))
def paidS(f d:Int):List Ev->Int->Int
 | [],s=>s
 |x::L,s=>paidS f d L (if payQ f d x=true then minI (s+x.amount) 1000000000000000 else s)
def gpFr(f d:Int)(v:Value)(s:Int)(k:Nat)(u:Nat->Value):Act:={ tmps:= #[.int .i64 f,.int .i64 d,v,u 3,u 4,u 5,u 6,u 7,.int .i64 s,.int .i64 k,u 10,u 11,u 12,u 13,u 14,u 15,u 16,u 17,u 18,u 19,u 20,u 21,u 22,u 23,u 24,u 25,u 26,u 27,u 28,u 29,u 30,u 31,u 32,u 33,u 34,u 35,u 36,u 37,u 38,u 39,u 40,u 41,u 42,u 43,u 44,u 45,u 46,u 47,u 48,u 49],defers:= [] }
def gpJ(w:World)(f d:Int)(v:Value)(L:List Ev)(n:Nat)(R:Int)(a':Act)(W:World):Prop:=∃(k:Nat) (s:Int) (u:Nat->Value),a'=gpFr f d v s k u/\Keeps (λ_=>False) w W/\k<=n/\0<=s/\s<=1000000000000000/\paidS f d (L.drop k) s=R
theorem gpJ.mk{w W:World}{f d:Int}{v:Value}{L:List Ev}{n:Nat}{R:Int}{a':Act}(k:Nat)(s:Int)(h:a'=gpFr f d v s k (λi=>a'.tmps.getD i undef))(hw:Keeps (λ_=>False) w W)(hn:k<=n)(h0:0<=s)(h1:s<=1000000000000000)(hp:paidS f d (L.drop k) s=R):gpJ w f d v L n R a' W:=⟨k,s,_,h,hw,hn,h0,h1,hp⟩
def Gp(i:Nat)(a':Act):Nat:=match a'.tmps.getD i undef with| .int _ n=>n.toNat|_=>0
theorem Dp{α:Type}{L:List α}{i:Nat}{x:α}(hx:L[i]?=some x):L.drop i=x::L.drop (i+1):=by
 exact j2P
theorem Wh(f d:Int)(L:List Ev)(ad:Option Addr)(cap n:Nat)(w:World)(hr:Reads w 5 (.slice ad n cap) n (L.flatMap Ev.cells))(hN:L.length=n)(hn:n<=1000000)(hok:∀x∈L,x.kind=2->0<=x.amount/\x.amount<=1000000000000000):
  Calls Tryz.prog 279 #[.int .i64 f,.int .i64 d,.slice ad n cap] w λe w'=>e= .returned (.tuple #[.int .i64 (paidS f d L 0),.int .i64 0])/\Keeps (λ_=>False) w w':=by
 obtain⟨R,hR⟩:∃R,paidS f d L 0=R:=⟨_,rfl⟩;rw [hR];obtain⟨Hr,HN,Hok,HR⟩:=hid4 hr hN hok hR;clear hR hok hN hr;go_enter Tryz.func279,Tryz.ntmps279;go_wp2;refine Db 0 (gpJ w f d (.slice ad n cap) L n R) (λa' _=>n-Gp 9 a') rfl ?_ ?_
 ·rintro a' W ⟨k,s,u,rfl,hk,hkn,s0,s1,hR2⟩;unfold gpFr;by_cases hlt:k<n
  ·have hltI:(k:Int)<(n:Int):=j8;have hneI:((k:Int)==(n:Int))=false:=beq_eq_false_iff_ne.2 j6;obtain⟨x,hx⟩:=Ar (L:=L) (k:=k) jU;obtain⟨g,o,c,he,hc⟩:=(Hr.out.keeps hk (by simp)).elem Ev.Aj hx j7;simp only [Value.slice.injEq,true_and] at he;obtain⟨rfl,rfl⟩:=he;have hok1:=Hok.out x (List.mem_of_getElem? hx);obtain⟨ki,da,tr,am,re⟩:=x;have x0:W.cell? ⟨g,o+k*5,none⟩=some (.int .i64 ki):=hc 0 j7;have x1:W.cell? ⟨g,o+k*5+1,none⟩=some (.int .i64 da):=hc 1 j7;have x2:W.cell? ⟨g,o+k*5+2,none⟩=some (.int .i64 tr):=hc 2 j7;have x3:W.cell? ⟨g,o+k*5+3,none⟩=some (.int .i64 am):=hc 3 j7;have x4:W.cell? ⟨g,o+k*5+4,none⟩=some (.int .i64 re):=hc 4 j7;have xl:=Ag x0;simp only at hok1;clear hc;obtain⟨Hk,Hx,HR2⟩:=hid3 hk hx hR2;clear hR2 hx hk;by_cases e1:ki=2
   ·subst e1;obtain⟨a0,a1⟩:=hok1 rfl;by_cases e2:f<=da
    ·have e2I:decide (f<=da)=true:=by simp [e2]
     by_cases e3:da<=d
     ·have e3I:decide (da<=d)=true:=by simp [e3]
      have a0I:decide (am<0)=false:=by rw [decide_eq_false_iff_not];omega
      have a1I:decide (1000000000000000<am)=false:=by rw [decide_eq_false_iff_not];omega
      rcases Int.lt_trichotomy (s+am) 1000000000000000 with m2|m2|m2
      ·skip
       have hst:paidS f d (L.drop (k+1)) (s+am)=R:=by rw [<-HR2.out,Dp Hx.out];simp only [paidS];rw [if_pos (by simp [payQ];omega)];congr 1;unfold minI;split<;>omega
       have Hst:=Lib.hid hst;clear hst;go_wp2_with fail;go_step3;go_wp2;exact Aw ⟨gpJ.mk (k+1) (s+am) rfl (Hk.out.trans (Keeps.alloc _ _)) j6 j6 j6 Hst.out,by simp [Gp];omega⟩
      ·exact j2X
      ·exact j2X
     ·have e3I:decide (da<=d)=false:=by simp [e3]
      exact j1n
    ·have e2I:decide (f<=da)=false:=by simp [e2]
     exact j1n
   ·have e1I:(ki==2)=false:=beq_eq_false_iff_ne.2 e1;exact j1n
  ·obtain rfl:k=n:=by omega
   rw [List.drop_eq_nil_of_le j1j] at hR2;simp only [paidS] at hR2;subst hR2;have Hk:=Lib.hid hk;clear hk;have hkk:((k:Int)==(k:Int))=true:=by simp
   go_wp2;refine Bl ?_;exact bodyPost_ret (v:= .tuple #[.int .i64 s,.int .i64 0]) (by simp [results,Tryz.results279,go_sem]) rfl ⟨rfl,Hk.out⟩
 ·refine jy ?_;intro Hfirst;go_wp2;go_step3;rename_i hK;refine jz ?_;exact gpJ.mk 0 0 rfl (Keeps.refl _ _) (Nat.zero_le _) (Int.le_refl _) j7 HR.out
def hasB(owed f d:Int)(L:List Ev):Bool:=decide (owed<=0)||decide (owed<=paidS f d L 0)
theorem Yu(owed f d:Int)(L:List Ev)(ad:Option Addr)(cap n:Nat)(w:World)(hr:Reads w 5 (.slice ad n cap) n (L.flatMap Ev.cells))(hN:L.length=n)(hn:n<=1000000)(hok:∀x∈L,x.kind=2->0<=x.amount/\x.amount<=1000000000000000):
  Calls Tryz.prog 253 #[.int .i64 owed,.int .i64 f,.int .i64 d,.slice ad n cap] w λe w'=>e= .returned (.tuple #[.bool (hasB owed f d L),.int .i64 0])/\Keeps (λ_=>False) w w':=by
 have hp:=Wh f d L ad cap n w hr hN hn hok;unfold hasB;obtain⟨p,hpp⟩:∃p,paidS f d L 0=p:=⟨_,rfl⟩;rw [hpp] at hp⊢;obtain⟨b1,h1⟩:∃b,decide (owed<=0)=b:=⟨_,rfl⟩;obtain⟨b2,h2⟩:∃b,decide (owed<=p)=b:=⟨_,rfl⟩;rw [h1,h2];obtain⟨Hr,HN,Hok,Hp,Hpp⟩:=hid5 hr hN hok hp hpp;clear hpp hp hok hN hr;rcases b1 with _|_<;>rcases b2 with _|_
 all_goals
  go_enter Tryz.func253,Tryz.ntmps253;go_wp2_with fail;refine Hp.out.mono ?_;rintro e w1 ⟨rfl,hk1⟩;have Hk1:=Lib.hid hk1;clear hk1;go_wp2
  first
   |exact bodyPost_ret (v:= .tuple #[.bool true,.int .i64 0]) (by simp [results,Tryz.results253,go_sem]) rfl ⟨rfl,Hk1.out⟩
   |exact bodyPost_ret (v:= .tuple #[.bool false,.int .i64 0]) (by simp [results,Tryz.results253,go_sem]) rfl ⟨rfl,Hk1.out⟩
theorem Acl:(Tryz.prog.info? 4).map (λi=>(i.zero,i.size,i.bytes))=some (some (.bool false),1,1):=by kernel_rfl
def boolc(b:Bool):List Value:= [.bool b]
theorem Fs(b:Bool):(boolc b).length=1:=rfl
def RowB(W:World)(g n cap:Nat)(O:List Bool):Prop:=W.ownsRow 0 4 1 (.slice (some ⟨g,0,none⟩) n cap) n (O.flatMap boolc)/\O.length=n
theorem RowB.cell{W:World}{g n cap:Nat}{O:List Bool}(h:RowB W g n cap O){k:Nat}{x:Bool}(hx:O[k]?=some x):W.cell? ⟨g,k,none⟩=some (.bool x):=by
 obtain⟨h,rfl⟩:=h;have:=Bt Fs h hx 0 j7;exact j08
theorem RowB.free{W:World}{g n cap:Nat}{O:List Bool}(h:RowB W g n cap O)(j:Nat):W.frozen? ⟨g,j,none⟩=false:=by
 exact j12
theorem RowB.set{W:World}{g n cap:Nat}{O:List Bool}(h:RowB W g n cap O){k:Nat}(hk:k<n)(x:Bool):RowB (W.setCell ⟨g,k,none⟩ (.bool x)) g n cap (O.set k x):=by
 obtain⟨h1,h2⟩:=h;obtain⟨y,hy⟩:=Ar (L:=O) (k:=k) j6;subst h2;have:=Gq Fs h1 hy 0 j7 (y:=x) (u:= .bool x) rfl;simp only [Nat.mul_one,Nat.add_zero] at this;exact⟨this,by simp⟩
theorem RowB.lt{W:World}{g n cap:Nat}{O:List Bool}(h:RowB W g n cap O):g<W.heap.size:=Cg h.1 rfl
theorem Acf(n:Nat):(madeCells (Value.bool false).cells n).toList=(List.replicate n false).flatMap boolc:=by
 have hL:((List.replicate n false).flatMap boolc).length=n:=by rw [Cz Fs];simp
 have hM:(madeCells (Value.bool false).cells n).toList.length=n:=by simp [madeCells]
 apply List.ext_getElem?
 intro i;by_cases h:i<n
 ·have h2:((List.replicate n false).flatMap boolc)[i]?=some (.bool false):=by
   have:=flat_get Fs (L:=List.replicate n false) (k:=i) (j:=0) (x:=false) (by simp [h]) j7;exact j08
  rw [h2];simp [madeCells,Value.cells,h,Nat.mod_one]
 ·rw [List.getElem?_eq_none j6,List.getElem?_eq_none j6]
theorem RowB.made(w:World)(n:Nat)(hn:n<=maxLen):RowB (w.alloc (.cells (madeCells (Value.bool false).cells n) 4)) w.heap.size n n (List.replicate n false):=by
 have hL:((List.replicate n false).flatMap boolc).length=n*1:=by rw [Cz Fs];simp
 refine⟨⟨hL,.inr ⟨_,_,_,rfl,Nat.zero_le _,heap_alloc_new w _,Nat.le_refl _,hn,by simp [madeCells], ?_⟩⟩,by simp⟩;rw [Acf,List.take_of_length_le (by rw [hL];exact Nat.le_refl _)]
def SeenL(n:Nat)(T:List Int)(O:List Bool):Prop:=∀j:Nat,j<n->O[j]?=some (decide (((j:Int)+1)∈T))
theorem SeenL.snoc{n:Nat}{T:List Int}{O:List Bool}(h:SeenL n T O)(hO:O.length=n){k:Int}{i:Nat}(hi:(i:Int)=k-1)(hin:i<n):SeenL n (T++ [k]) (O.set i true):=by
 intro j hj;by_cases e:i=j
 ·subst e;rw [List.getElem?_set_self j6];have:(i:Int)+1=k:=j8;simp [this]
 ·rw [List.getElem?_set_ne e,h j hj];have:¬(j:Int)+1=k:=j8;simp [this]
theorem Sl(L:List Int)(ad:Option Addr)(cap n m:Nat)(w:World)(hr:Reads w 1 (.slice ad m cap) m (L.flatMap i64c))(hM:L.length=m)(hok:∀k∈L,1<=k/\k<=n)(hnd:L.Nodup)(hn:n<=1000)(hm:m<=1000):
  Calls Tryz.prog 294 #[.slice ad m cap,.int .i64 ((n:Nat):Int)] w λe w'=>e= .returned (.bool true)/\Keeps (λ_=>False) w w':=by
 obtain⟨i0,hi,hi0,hi1,hi2⟩:=info_parts Acl;have hmk:=fun(W:World)=>run_makeSlice (P:=Tryz.prog) W 330 4 i0 (.bool false) Tryz.underlying330 hi hi0 .i64 .i64 (n:Int) (n:Int) j6 j6 (by rw [hi1];omega) (by rw [hi2];omega) j6;simp only [Int.toNat_natCast,hi1,Nat.mul_one] at hmk;obtain⟨Z,hZ⟩:∃Z,Z=madeCells (Value.bool false).cells n:=⟨_,rfl⟩;rw [<-hZ] at hmk;obtain⟨Hr,HM,Hok,Hnd,Hi,Hi0,Hi1,Hi2,HZ⟩:=hid9 hr hM hok hnd hi hi0 hi1 hi2 hZ;clear hZ hi2 hi1 hi0 hi hnd hok hM hr;go_enter Tryz.func294,Tryz.ntmps294;go_wp2;have hmd:=RowB.made w n jd;rw [<-HZ.out] at hmd
 go_loopw [12] (λx wx=>∃(i:Nat) (O:List Bool),x= .int .i64 (i:Nat)/\i<=m/\RowB wx w.heap.size n n O/\SeenL n (L.take i) O/\Keeps (λ_=>False) w wx) (λx _=>m-(intOf x).toNat)
 case atStart=>exact⟨0,_,rfl,Nat.zero_le _,hmd,λj hj=>by simp [hj],by(repeat (first|exact Keeps.refl _ _|exact Keeps.alloc _ _|exact Keeps.drew _|exact Keeps.drewN _ _|refine Keeps.Am ?_|refine Keeps.Al ?_|refine Keeps.Ae ?_))⟩
 case round=>
  obtain⟨i,O,rfl,him,hrow,hseen,hk⟩:=hrel;obtain⟨wq,hwq⟩:∃x,x=wr:=⟨_,rfl⟩;subst hwq;clear hmd;by_cases hlt:i<m
  ·have hltI:(i:Int)<(m:Int):=j8;obtain⟨k,hx⟩:=Ar (L:=L) (k:=i) j0H;obtain⟨k1,k2⟩:=Hok.out k (List.mem_of_getElem? hx);obtain⟨p,hp⟩:∃p:Nat,(p:Int)=k-1:=⟨(k-1).toNat,by omega⟩;have hpn:p<n:=j8
   have hnot:¬k∈L.take i:=by
    intro hmem;obtain⟨j,hj,hje⟩:=List.mem_iff_getElem.1 hmem;rw [List.length_take] at hj;rw [List.getElem_take] at hje;obtain⟨h1,h2⟩:=List.getElem?_eq_some_iff.1 hx;exact(List.pairwise_iff_getElem.1 Hnd.out) j i j6 h1 j6 (hje.trans h2.symm)
   have hO:O[p]?=some false:=by
    rw [hseen p hpn,show(p:Int)+1=k by omega,decide_eq_false hnot]
   obtain⟨gO,oO,he,hcO⟩:=(Hr.out.keeps hk (by simp)).int (k:= .i64) hx;subst he;have lO:=Ag hcO;have ck:=hrow.cell hO;have fk:=hrow.free p;have lg:=hrow.lt;have q1:(0:Int)<=k-1:=j8;have q2:k-1<(n:Int):=j8;have q3:(k-1).toNat=p:=j8;have q4:IntKind.i64.wrap (k-1)=k-1:=IntWalk.i64_in _ ⟨by omega,by omega⟩;have q5:decide (k<1)=false:=by rw [decide_eq_false_iff_not];omega
   have q6:decide ((n:Int)<k)=false:=by rw [decide_eq_false_iff_not];omega
   have hnew:RowB (wq.setCell ⟨w.heap.size,p,none⟩ (.bool true)) w.heap.size n n (O.set p true)/\SeenL n (L.take (i+1)) (O.set p true)/\Keeps (λ_=>False) w (wq.setCell ⟨w.heap.size,p,none⟩ (.bool true)):=
    ⟨hrow.set hpn true,by rw [take_snoc' hx];exact hseen.snoc hrow.2 hp hpn,hk.trans (Keeps.setCell _ _ _ (.inr (Nat.le_refl _)))⟩
   obtain⟨Hrow,Hseen,Hk,Hx,Hp,Hnot,HO,Hnew⟩:=hid8 hrow hseen hk hx hp hnot hO hnew;clear hnew hO hnot hp hx hk hseen hrow;go_wp2;go_roundw
   case rel=>exact⟨i+1,_,by go_num,by omega,Hnew.out.1,Hnew.out.2.1,Hnew.out.2.2⟩
   case measure=>simp [intOf];omega
  ·obtain rfl:i=m:=by omega
   obtain⟨Hrow,Hseen,Hk⟩:=hid3 hrow hseen hk;clear hk hseen hrow;go_wp2;go_ret;exact⟨rfl,Hk.out⟩
theorem Kk{L:List Int}{b:Bool}{n:Nat}(hb:L.all Br=b)(hN:L.length=n)(hl:n<=1000)(ad:Option Addr)(cap:Nat)(w:World)(hr:Reads w 1 (.slice ad n cap) n (L.flatMap i64c)):
  Calls Tryz.prog 289 #[.slice ad n cap] w λe w'=>e= .returned (.bool b)/\w=w':=by
 subst hN;subst hb;exact Aba ad cap L w hr hl
structure OrdOk(n:Nat)(O:List Int):Prop where
 ok:∀k∈O,1<=k/\k<=n
 nd:O.Nodup
theorem Yw(B O:List Int)(a:Int)(adB adO:Option Addr)(cB cO n m:Nat)(w:World)(hB:Reads w 1 (.slice adB n cB) n (B.flatMap i64c))(hN:B.length=n)(hO:Reads w 1 (.slice adO m cO) m (O.flatMap i64c))(hM:O.length=m)(hm:B.all Br=true)(ha:Br a=true)
  (hord:OrdOk n O) (hl:n<=1000) (hl2:m<=1000):Calls Tryz.prog 278 #[.slice adB n cB,.slice adO m cO,.int .i64 a] w λe w'=>∃g,e= .returned (.tuple #[.slice (some ⟨g,0,none⟩) n n,.int .i64 (intoL B O a).2,.int .i64 0])/\RowZ w' 2 g n n (intoL B O a).1/\Keeps (λ_=>False) w w'/\w.heap.size<=g:=by
 have hin:=λW (hW:Keeps (λ_=>False) w W)=>Nl B O a adB adO cB cO W (by rw [hN];exact hB.keeps hW (by simp)) (by rw [hM];exact hO.keeps hW (by simp)) (λx hx=>(Bi x).1 (List.all_eq_true.1 hm x hx)) ((Bi a).1 ha) (by rw [hN];exact hord.ok) j6 j6;have hrl:=De B O a;rw [hN] at hrl;obtain⟨r,hr⟩:∃r,intoL B O a=r:=⟨_,rfl⟩;rw [hr] at hin hrl⊢;unfold Qe at hin;rw [hN,hM,hrl] at hin;have hof:=λW (hW:Keeps (λ_=>False) w W)=>Sl O adO cO n m W (hO.keeps hW (by simp)) hM hord.ok hord.nd hl hl2;have hmb:=λW (hW:Keeps (λ_=>False) w W)=>Kk hm hN hl adB cB W (hB.keeps hW (by simp));have hma:=λW g (hT:Reads W 1 (.slice (some ⟨g,0,none⟩) 1 1) 1 ([a].flatMap i64c))=>Kk (L:= [a]) (b:=true) (by simp [ha]) rfl (by simp) (some ⟨g,0,none⟩) 1 W hT;obtain⟨HB,HO,Hm,Ha,Hord,Hin,Hr,Hrl,Hof⟩:=hid9 hB hO hm ha hord hin hr hrl hof;clear hof hrl hr hin hord ha hm hO hB;obtain⟨Hmb,Hma,HN,HM⟩:=hid4 hmb hma hN hM;clear hM hN hma hmb;go_enter Tryz.func278,Tryz.ntmps278;go_wp2_with fail;refine(Hof.out _ (Keeps.refl _ _)).mono ?_;rintro e w1 ⟨rfl,hk1⟩;have Hk1:=Lib.hid hk1;clear hk1;go_wp2_with fail;refine(Hmb.out _ Hk1.out).mono ?_;rintro e w2 ⟨rfl,rfl⟩;go_wp2_with fail;refine(Hma.out _ _ (Reads.litAt _ _ _ 1 1 _ (by simp) rfl)).mono ?_;rintro e w3 ⟨rfl,rfl⟩;go_wp2_with fail;refine(Hin.out _ (Hk1.out.trans (Keeps.alloc _ _))).mono ?_;rintro e w4 ⟨g,rfl,hrow,hk4,hg⟩;have hfin:Keeps (λ_=>False) w w4:=(Hk1.out.trans (Keeps.alloc _ _)).nt hk4;have hgg:w.heap.size<=g:=by have h1:=Hk1.out.size;have h2:=hg;simp at h2;omega
 obtain⟨Hrow,Hk4,Hg,Hfin,Hgg⟩:=hid5 hrow hk4 hg hfin hgg;clear hgg hfin hg hk4 hrow;go_wp2;exact bodyPost_ret (v:= .tuple #[.slice (some ⟨g,0,none⟩) n n,.int .i64 r.2,.int .i64 0]) (by simp [results,Tryz.results278,go_sem]) rfl ⟨g,rfl,Hrow.out,Hfin.out,Hgg.out⟩
def stepL(f:Int->Int->Int)(B P:List Int)(i:Nat):List Int:=(List.zipWith f B P).take i++B.drop i
theorem Jy(f:Int->Int->Int)(B P:List Int):stepL f B P 0=B:=by simp [stepL]
theorem Jz{f:Int->Int->Int}{B P:List Int}(h:P.length=B.length){n:Nat}(hn:B.length=n):stepL f B P n=List.zipWith f B P:=by
 subst hn;unfold stepL;rw [List.drop_eq_nil_of_le (Nat.le_refl _),List.append_nil,List.take_of_length_le (by rw [List.length_zipWith];omega)]
theorem Mj{f:Int->Int->Int}{B P:List Int}(h:P.length=B.length){i:Nat}{x:Int}(hx:B[i]?=some x):(stepL f B P i)[i]?=some x:=by
 obtain⟨h1,h2⟩:=List.getElem?_eq_some_iff.1 hx;unfold stepL;rw [List.getElem?_append_right (by simp only [List.length_take,List.length_zipWith];omega)];simp only [List.length_take,List.length_zipWith,List.getElem?_drop];rw [show i+(i-min i (min B.length P.length))=i by omega];exact hx
theorem Mi{f:Int->Int->Int}{B P:List Int}(h:P.length=B.length){i:Nat}{x y:Int}(hx:B[i]?=some x)(hy:P[i]?=some y):(stepL f B P i).set i (f x y)=stepL f B P (i+1):=by
 obtain⟨h1,h2⟩:=List.getElem?_eq_some_iff.1 hx;have hz:(List.zipWith f B P)[i]?=some (f x y):=by rw [List.getElem?_zipWith,hx,hy]
 have hl:((List.zipWith f B P).take i).length=i:=by simp only [List.length_take,List.length_zipWith];omega
 unfold stepL;rw [List.set_append_right _ _ j6,hl,Nat.sub_self,List.drop_eq_getElem_cons h1,List.set_cons_zero,take_snoc' hz,List.append_assoc];rfl
theorem Ta{B P:List Int}(hP:∀j x,P[j]?=some x->0<=x/\x<=B.getD j 0)(hB:∀x∈B,0<=x/\x<=1000000000000000):∀x∈List.zipWith (· - ·) B P,0<=x/\x<=1000000000000000:=by
 intro z hz;obtain⟨j,hj⟩:=List.mem_iff_getElem?.1 hz;rw [List.getElem?_zipWith] at hj;rcases hb:B[j]? with _|b
 ·rw [hb] at hj;simp at hj
 ·rcases hp:P[j]? with _|p
  ·rw [hb,hp] at hj;simp at hj
  ·rw [hb,hp] at hj;simp only [Option.some.injEq] at hj;have h1:=hP j p hp;rw [List.getD_eq_getElem?_getD,hb] at h1;have h2:=hB b (List.mem_of_getElem? hb);simp only [Option.getD_some] at h1;omega
def payL(B R:List Int)(du a:Int):List Int×Int×Int:=
 let m:=minI a du
 let p:=intoL B (rankL false R) m
 let q:=intoL (List.zipWith (· - ·) B p.1) (rankL true R) (a-m+p.2)
 (List.zipWith (·+·) p.1 q.1,m,q.2)
theorem Px(B O:List Int)(r:List Int×Int)(a:Int)(adB:Option Addr)(v:Value)(cB n:Nat)(w:World)(hB:Reads w 1 (.slice adB n cB) n (B.flatMap i64c))(hN:B.length=n)(hO:w.ownsRow 0 3 1 v n (O.flatMap i64c))(hM:O.length=n)(hm:∀x∈B,0<=x/\x<=1000000000000000)(ha:0<=a/\a<=1000000000000000)
  (hok:∀k∈O,1<=k/\k<=n) (hl:n<=1000) (hr:intoL B O a=r):Calls Tryz.prog 290 #[.slice adB n cB,v,.int .i64 a] w λe w'=>∃g,e= .returned (.tuple #[.slice (some ⟨g,0,none⟩) n n,.int .i64 r.2])/\RowZ w' 2 g n n r.1/\Keeps (λ_=>False) w w'/\w.heap.size<=g:=by
 obtain⟨ad,c,rfl,_,_⟩:=Af hO;have hr2:=Reads.Ay hO;have h:=Nl B O a adB ad cB c w (by rw [hN];exact hB) (by rw [hM];exact hr2) hm ha (by rw [hN];exact hok) j6 j6;have hrl:=De B O a;unfold Qe at h;rw [hr] at h hrl;rw [hN,hM] at h;rw [hrl,hN] at h;exact h
theorem p1bd{B P:List Int}(hP:∀j x,P[j]?=some x->0<=x/\x<=B.getD j 0)(hB:∀x∈B,0<=x/\x<=1000000000000000){j:Nat}{x:Int}(hx:P[j]?=some x):0<=x/\x<=1000000000000000:=by
 have h:=hP j x hx;rw [List.getD_eq_getElem?_getD] at h;rcases hb:B[j]? with _|b
 ·rw [hb] at h;simp only [Option.getD_none] at h;omega
 ·rw [hb] at h;have:=hB b (List.mem_of_getElem? hb);simp only [Option.getD_some] at h;omega
theorem Ab9(B R:List Int)(cr du a:Int)(adB adR:Option Addr)(cB cR n:Nat)(w:World)(hB:Reads w 1 (.slice adB n cB) n (B.flatMap i64c))(hN:B.length=n)(hR:Reads w 1 (.slice adR n cR) n (R.flatMap i64c))(hRn:R.length=n)
  (hm:B.all Br=true) (hcr:Br cr=true) (hdu:Br du=true) (ha:Br a=true) (hn1:1<=n) (hl:n<=8):
  Calls Tryz.prog 276 #[.agg #[.slice adB n cB,.int .i64 cr,.int .i64 du],.slice adR n cR,.int .i64 a] w λe w'=>∃g,e= .returned (.tuple #[.slice (some ⟨g,0,none⟩) n n,.int .i64 (payL B R du a).2.1,.int .i64 (payL B R du a).2.2,.int .i64 0])/\RowZ w' 2 g n n (payL B R du a).1/\Keeps (λ_=>False) w w'/\w.heap.size<=g:=by
 have hBb:∀x∈B,0<=x/\x<=1000000000000000:=λx hx=>(Bi x).1 (List.all_eq_true.1 hm x hx);obtain⟨a0,a1⟩:=(Bi a).1 ha;obtain⟨du0,du1⟩:=(Bi du).1 hdu;obtain⟨m,hmin⟩:∃m,minI a du=m:=⟨_,rfl⟩;have hm2:0<=m/\m<=a/\m<=du:=by rw [<-hmin];unfold minI;split<;>omega
 obtain⟨m0,m1,m2⟩:=hm2;refine j2Y ?_;intro p1 r1 hp q1 r2 hq hpay;have hokL:∀k∈rankL false R,1<=k/\k<=n:=λk hk=>by have:=Eh hk;omega
 have hokH:∀k∈rankL true R,1<=k/\k<=n:=λk hk=>by have:=Eh hk;omega
 have hpb:=Ls (B:=B) (O:=rankL false R) (a:=m) (λx hx=>(hBb x hx).1) m0 (by rw [hN];exact hokL);have hpl:=De B (rankL false R) m;rw [hp] at hpb hpl;simp only at hpb hpl;obtain⟨r10,r11,hpe⟩:=hpb;have hB2:=Ta hpe hBb;have hB2l:(List.zipWith (λx y:Int=>x-y) B p1).length=n:=by rw [List.length_zipWith];omega
 refine j2Z ?_;intro hqb hql;rw [hq] at hqb hql;simp only at hqb hql;obtain⟨r20,r21,hqe⟩:=hqb;rw [hN] at hpl;rw [hB2l] at hql;have hmb:=λW (hW:Keeps (λ_=>False) w W)=>Kk hm hN j6 adB cB W (hB.keeps hW (by simp));have hma:=λW g (hT:Reads W 1 (.slice (some ⟨g,0,none⟩) 3 3) 3 ([cr,du,a].flatMap i64c))=>Kk (L:= [cr,du,a]) (b:=true) (by simp [hcr,hdu,ha]) rfl (by simp) (some ⟨g,0,none⟩) 3 W hT;have hlow:=λW (hW:Keeps (λ_=>False) w W)=>Aaj R adR cR W j1o j6;have hhigh:=λW (hW:Keeps (λ_=>False) w W)=>Pj R adR cR W j1o j6;rw [hRn] at hlow hhigh;have hin1:=λW v (hW:Keeps (λ_=>False) w W) (hO:W.ownsRow 0 3 1 v n ((rankL false R).flatMap i64c))=>Px B (rankL false R) (p1,r1) m adB v cB n W (hB.keeps hW (by simp)) hN hO (by rw [Kc,hRn]) hBb ⟨m0,by omega⟩ hokL j6 hp;have hbx:∀W,Keeps (λ_=>False) (w.alloc (.cells #[.slice adB n cB,.int .i64 cr,.int .i64 du] 52)) W->W.heap[w.heap.size]?=some (.cells #[.slice adB n cB,.int .i64 cr,.int .i64 du] 52 (0,0)):=λW hW=>Ad (heap_alloc_new w _) hW (by simp);simp only at hin1;obtain⟨HB,HR,Hm,Hcr,Hdu,Ha,HBb,Hmin,Hp⟩:=hid9 hB hR hm hcr hdu ha hBb hmin hp;clear hp hmin hBb ha hdu hcr hm hR hB;obtain⟨Hq,Hpay,HokL,HokH,Hpe,HB2,HB2l,Hqe,Hpl⟩:=hid9 hq hpay hokL hokH hpe hB2 hB2l hqe hpl;clear hpl hqe hB2l hB2 hpe hokH hokL hpay hq;obtain⟨Hql,Hmb,Hma,Hlow,Hhigh,Hin1,Hbx,HN,HRn⟩:=hid9 hql hmb hma hlow hhigh hin1 hbx hN hRn;clear hRn hN hbx hin1 hhigh hlow hma hmb hql;go_enter Tryz.func276,Tryz.ntmps276;go_wp2_with fail;refine(Hmb.out _ jf).mono ?_;rintro e w1 ⟨rfl,rfl⟩;go_wp2_with fail;refine(Hma.out _ _ (Reads.litAt _ #[.int .i64 cr,.int .i64 du,.int .i64 a] 2 1 3 _ jo rfl)).mono ?_;rintro e w2 ⟨rfl,rfl⟩;obtain⟨W0,hW0⟩:∃x,x=(w.alloc (.cells #[.slice adB n cB,.int .i64 cr,.int .i64 du] 52)).alloc (.cells #[.int .i64 cr,.int .i64 du,.int .i64 a] 2):=⟨_,rfl⟩;rw [<-hW0];have hb0:=Hbx.out W0 (by rw [hW0];exact Keeps.alloc _ _);have hk0:Keeps (λ_=>False) w W0:=by rw [hW0];(repeat (first|exact Keeps.refl _ _|exact Keeps.alloc _ _|exact Keeps.drew _|exact Keeps.drewN _ _|refine Keeps.Am ?_|refine Keeps.Al ?_|refine Keeps.Ae ?_))
 have b0:=Aa hb0 0;have b2:=Aa hb0 2;have bl:=lt_of_block hb0;obtain⟨Hb0,Hk0,HW0⟩:=hid3 hb0 hk0 hW0;clear hW0 hk0 hb0
 go_upto_region 3 with fail
 go_cut [10] (λx wx=>x= .int .i64 m/\W0=wx)
 case first=>
  have hmn:=Hmin.out;unfold minI at hmn;by_cases hle:a<=du
  ·rw [if_pos hle] at hmn;exact j30
  ·rw [if_neg hle] at hmn;exact j30
 obtain⟨rfl,rfl⟩:=hcut;go_wp2_with fail;refine Ak (λw'=>w'.cell? ⟨w.heap.size,0,none⟩=some (.slice adB n cB)) (.take 0 (.take 1 (.take 2 (.take 4 (.move 3 (.move 5 (.take 6 (.take 7 (.take 8 (.take 9 (.take 10 .done))))))))))) j9 j9 ?_ ?_
 ·exact Aa (Ad (S:=λ_=>False) Hb0.out (Keeps.drew _) (by simp)) 0
 intro w3 hs3 hk3;have hk3w:Keeps (λ_=>False) w w3:=Hk0.out.nt hk3;have hlt3:=Ag hs3;obtain⟨Hs3,Hk3,Hk3w,Hlt3⟩:=hid4 hs3 hk3 hk3w hlt3;clear hlt3 hk3w hk3 hs3;refine je ?_;intro K hK
 go_at_call 291
 ((with_reducible refine(Hlow.out _ Hk3w.out).mono ?_);rintro e w4 ⟨v4,rfl,hrow4,hf4⟩;dsimp only)
 refine hK.out _ _ (by exact(hf4.1.cell (p:=⟨w.heap.size,0,none⟩) Hlt3.out (by simp)).trans Hs3.out) ?_;clear hK K;refine jc ?_;have hk4w:Keeps (λ_=>False) w w4:=Hk3w.out.nt hf4.1;have hs4:=(hf4.1.cell (p:=⟨w.heap.size,0,none⟩) Hlt3.out (by simp)).trans Hs3.out;have hb4:=Ad (Ad Hb0.out Hk3.out (by simp)) hf4.1 (by simp);have hlt4:=Ag hs4;obtain⟨Hrow4,Hf4,Hk4w,Hs4,Hlt4,Hb4⟩:=hid6 hrow4 hf4 hk4w hs4 hlt4 hb4;clear hb4 hlt4 hs4 hk4w hf4 hrow4;refine je ?_;intro K hK
 go_at_call 290
 ((with_reducible refine(Hin1.out _ _ Hk4w.out Hrow4.out).mono ?_);rintro e w5 ⟨g1,rfl,hrow5,hk5,hg5⟩;dsimp only)
 refine hK.out _ _ (by exact(hk5.cell (p:=⟨w.heap.size,0,none⟩) Hlt4.out (by simp)).trans Hs4.out) ?_;clear hK K;refine jc ?_;have hk5w:Keeps (λ_=>False) w w5:=Hk4w.out.nt hk5;have hb5:=Ad Hb4.out hk5 (by simp);have hg5w:w.heap.size<=g1:=by have:=Hk4w.out.size;omega
 obtain⟨Hrow5,Hk5,Hg5,Hk5w,Hb5,Hg5w⟩:=hid6 hrow5 hk5 hg5 hk5w hb5 hg5w;clear hg5w hb5 hk5w hg5 hk5 hrow5;refine jk ?_;have b50:=Aa Hb5.out 0;have b5l:=lt_of_block Hb5.out;clear b0 b2 bl;go_wp2_with fail;refine(El _ _ n _ (HB.out.keeps Hk5w.out (by simp)) (Jp _) j6).mono ?_;rintro e w6 ⟨v6,rfl,hrow6,hk6,hnew6⟩;obtain⟨g2,c2,rfl⟩:=Ej hrow6 hn1;have hg2:w5.heap.size<=g2:=hnew6 g2 rfl;have hlt1:=Hrow5.out.lt;have hg12:¬g1=g2:=j8;have hg2w:w.heap.size<=g2:=by have:=Hk5w.out.size;omega
 have hr1:=Hrow5.out.keep hk6;have hr2:RowZ w6 2 g2 n c2 B:=⟨hrow6,HN.out⟩;have hk6w:Keeps (λ_=>False) w w6:=Hk5w.out.nt hk6;clear b50 b5l hlt1;obtain⟨Hrow6,Hk6,Hnew6,Hg2,Hr1,Hr2,Hk6w,Hg12,Hg2w⟩:=hid9 hrow6 hk6 hnew6 hg2 hr1 hr2 hk6w hg12 hg2w;clear hg2w hg12 hk6w hr2 hr1 hg2 hnew6 hk6 hrow6;go_wp2
 go_loopw [59] (λx wx=>∃i:Nat,x= .int .i64 (i:Nat)/\i<=n/\RowZ wx 2 g2 n c2 (stepL (λx y=>x-y) B p1 i)/\Keeps (λk=>k=g2) w6 wx) (λx _=>n-(intOf x).toNat)
 case atStart=>exact⟨0,rfl,Nat.zero_le _,by rw [Jy];exact Hr2.out,Keeps.refl _ _⟩
 case round=>
  obtain⟨i,rfl,hin,hrow,hk⟩:=hrel;obtain⟨wq,hwq⟩:∃x,x=wr:=⟨_,rfl⟩;subst hwq;have hrp:RowZ wq 2 g1 n n p1:=⟨hk.row Hr1.out.1 (λg' hg e=>by simp only [Value.ownBlock,Option.some.injEq] at hg;subst hg;exact Hg12.out e),Hr1.out.2⟩;by_cases hlt:i<n
  ·have hltI:(i:Int)<(n:Int):=j8;obtain⟨x,hx⟩:=Ar (L:=B) (k:=i) jU;obtain⟨y,hy⟩:=Ar (L:=p1) (k:=i) (by rw [Hpl.out];exact hlt);obtain⟨x0,x1⟩:=HBb.out x (List.mem_of_getElem? hx);have hxy:=Hpe.out i y hy;rw [List.getD_eq_getElem?_getD,hx] at hxy;obtain⟨y0,y1⟩:=hxy;simp only [Option.getD_some] at y1;have ex:=Mj (f:=λx y=>x-y) (P:=p1) jV hx;have cx:=hrow.cell ex;have fx:=hrow.free i;have cy:=hrp.cell hy;have lx:=hrow.lt;have ly:=hrp.lt;have hst:=Mi (f:=λx y=>x-y) (P:=p1) jV hx hy;have hnew:=hrow.set hlt (x-y);rw [hst] at hnew;have hkn:Keeps (λk=>k=g2) w6 (wq.setCell ⟨g2,i,none⟩ (.int .i64 (x-y))):=hk.trans (Keeps.setCell _ _ _ (.inl rfl));obtain⟨Hrow,Hk,Hrp,Hx,Hy,Ex,Hst,Hnew,Hkn⟩:=hid9 hrow hk hrp hx hy ex hst hnew hkn;clear hkn hnew hst ex hy hx hrp hk hrow;exact j31
  ·obtain rfl:i=n:=by omega
   rw [Jz jV HN.out] at hrow;have hkw:Keeps (λ_=>False) w wq:=Hk6w.out.trans (hk.mono λk _ e=> .inr (by subst e;exact Hg2w.out));obtain⟨Hrow,Hk,Hrp,Hkw⟩:=hid4 hrow hk hrp hkw;clear hkw hrp hk hrow;go_wp2_with fail;refine(Hhigh.out _ Hkw.out).mono ?_;rintro e w7 ⟨v7,rfl,hrow7,hf7⟩;have hk7w:=Hkw.out.nt hf7.1;have hrB7:=Hrow.out.keep hf7.1;have hrp7:=Hrp.out.keep hf7.1;obtain⟨Hrow7,Hf7,Hk7w,HrB7,Hrp7⟩:=hid5 hrow7 hf7 hk7w hrB7 hrp7;clear hrp7 hrB7 hk7w hf7 hrow7;go_wp2_with fail;refine(Px _ (rankL true R) (q1,r2) (a-m+r1) (some ⟨g2,0,none⟩) v7 c2 i w7 HrB7.out.reads HrB7.out.2 Hrow7.out (by rw [Kc,HRn.out]) HB2.out ⟨by omega,by omega⟩ HokH.out j6 Hq.out).mono ?_;rintro e w8 ⟨g3,rfl,hrow8,hk8,hg3⟩;have hlt1:=Hrp7.out.lt;have hg13:¬g1=g3:=j8;have hk8w:=Hk7w.out.nt hk8;have hrp8:=Hrp7.out.keep hk8;simp only at hrow8;clear hlt1;obtain⟨Hrow8,Hk8,Hg3,Hg13,Hk8w,Hrp8⟩:=hid6 hrow8 hk8 hg3 hg13 hk8w hrp8;clear hrp8 hk8w hg13 hg3 hk8 hrow8;go_wp2
   go_loopw [86] (λx wx=>∃j:Nat,x= .int .i64 (j:Nat)/\j<=i/\RowZ wx 2 g1 i i (stepL (λx y=>x+y) p1 q1 j)/\Keeps (λk=>k=g1) w8 wx) (λx _=>i-(intOf x).toNat)
   case atStart=>exact⟨0,rfl,Nat.zero_le _,by rw [Jy];exact Hrp8.out,Keeps.refl _ _⟩
   case round=>
    obtain⟨j,rfl,hjn,hrowj,hkj⟩:=hrel;obtain⟨wz,hwz⟩:∃x,x=wr:=⟨_,rfl⟩;subst hwz;have hrq:RowZ wz 2 g3 i i q1:=⟨hkj.row Hrow8.out.1 (λg' hg e=>by simp only [Value.ownBlock,Option.some.injEq] at hg;subst hg;exact Hg13.out e.symm),Hrow8.out.2⟩;by_cases hltj:j<i
    ·have hltI:(j:Int)<(i:Int):=j8;obtain⟨x,hx⟩:=Ar (L:=p1) (k:=j) (by rw [Hpl.out];exact hltj);obtain⟨y,hy⟩:=Ar (L:=q1) (k:=j) (by rw [Hql.out];exact hltj);obtain⟨x0,x1⟩:=p1bd Hpe.out HBb.out hx;obtain⟨y0,y1⟩:=p1bd Hqe.out HB2.out hy;have ex:=Mj (f:=λx y=>x+y) (P:=q1) (by rw [Hpl.out,Hql.out]) hx;have cx:=hrowj.cell ex;have fx:=hrowj.free j;have cy:=hrq.cell hy;have lx:=hrowj.lt;have ly:=hrq.lt;have hst:=Mi (f:=λx y=>x+y) (P:=q1) (by rw [Hpl.out,Hql.out]) hx hy;have hnew:=hrowj.set hltj (x+y);rw [hst] at hnew;have hkn:Keeps (λk=>k=g1) w8 (wz.setCell ⟨g1,j,none⟩ (.int .i64 (x+y))):=hkj.trans (Keeps.setCell _ _ _ (.inl rfl));obtain⟨Hrowj,Hkj,Hrq,Hx,Hy,Ex,Hst,Hnew,Hkn⟩:=hid9 hrowj hkj hrq hx hy ex hst hnew hkn;clear hkn hnew hst ex hy hx hrq hkj hrowj;exact j32
    ·obtain rfl:j=i:=by omega
     rw [Jz (by rw [Hpl.out,Hql.out]) Hpl.out] at hrowj;have hkz:Keeps (λ_=>False) w wz:=Hk8w.out.trans (hkj.mono λk _ e=> .inr (by subst e;exact Hg5w.out));obtain⟨Hrowj,Hkj,Hrq,Hkz⟩:=hid4 hrowj hkj hrq hkz;clear hkz hrq hkj hrowj;go_wp2;exact bodyPost_ret (v:= .tuple #[.slice (some ⟨g1,0,none⟩) j j,.int .i64 m,.int .i64 r2,.int .i64 0]) (by simp [results,Tryz.results276,go_sem]) rfl ⟨g1,rfl,Hrowj.out,Hkz.out,Hg5w.out⟩
end Go.Proofs.YtgbgmadkmabeeaaGreat
