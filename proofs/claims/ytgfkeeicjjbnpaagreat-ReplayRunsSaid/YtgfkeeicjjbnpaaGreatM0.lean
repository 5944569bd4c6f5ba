/- Blocks of tactics that come again in the proofs of this claim, each written once: the default of an argument. -/
import Derived.Test.YtgfkeeicjjbnpaaGreatRows
import Derived.WalkKit
import Derived.WalkSpells
import Derived.WalkLawsBesides
import Derived.Lib.Hide
import Derived.Deep.QuietTactic
import Derived.BigQuiet
import Derived.StillTailTactics
import Derived.ProofKit
import Derived.OpenShut
import Derived.ShutString
import Derived.ChangeOld
import Derived.Below
import Derived.Deep.Slices
import Derived.Deep.RegionLaw
import Derived.Deep.RegionHeld3
import Derived.Shelf.Bits.Mul64
import Derived.Shelf.Spec.BitsCarry
import Derived.Deep.DeepCutAuto
import Derived.Lib.SliceRun
import Derived.Shelf.Abstract
import Derived.Lib.Overlaps
import Derived.Lib.AppendZeros
import Derived.Laws.Externs
import Derived.Maps.RangeWalk
namespace Go.Proofs.YtgfkeeicjjbnpaaGreat
open Go.RowKit
open Go.ChangeShapes Go.WideShapes Go.ChangeAt Go.RowKit Go.Deep
open Go.ChangeShapes Go.WideShapes Go.RowKit Go.Deep
set_option maxRecDepth 100000
structure Bx(T:Prop):Prop where
  o:T
variable{P:Prop}
def Hd(P:Prop):Prop:=(λ_=>P) @AllReadyH
theorem Hd.out{P:Prop}(h:Hd P):P:=h
theorem j8(h:P:=by(repeat (first|exact Keeps.refl _ _|exact Keeps.alloc _ _|exact Keeps.drew _|exact Keeps.drewN _ _|refine Keeps.Am ?_|refine Keeps.Al ?_|refine Keeps.Af ?_))):P:=h
theorem j1(h:P:=by omega):P:=h
theorem j2(h:P:=by decide):P:=h
theorem j1d(h:P:=by exact Keeps.alloc (S:=λ_=>False) (w7) (.cells #[.int .i64 0,.int .i64 0,.int .i64 0,.int .i64 0,.slice none 0 0,.int .i64 0,.int .i64 0,.int .i64 0,.bool false] 58)):P:=h
theorem jP(h:P:=by exact Keeps.nt (Keeps.refl (λ_=>False) w7) (Keeps.alloc (S:=λ_=>False) (w7) (.cells #[.int .i64 0,.int .i64 0,.int .i64 0,.int .i64 0,.slice none 0 0,.int .i64 0,.int .i64 0,.int .i64 0,.bool false] 58))):P:=h
theorem j4(h:P:=by kernel_rfl):P:=h
theorem jQ(h:P:=by exact Keeps.nt (Keeps.refl (λ_=>False) w7) (Keeps.alloc (S:=λ_=>False) (w7) (.cells #[.slice none 0 0,.int .i64 0,.int .i64 0] 35))):P:=h
theorem j3(h:P:=by omega):P:=h
theorem j1i(h:P:=by exact Keeps.alloc (S:=λ_=>False) ((w7).alloc (.cells #[.slice none 0 0,.int .i64 0,.int .i64 0] 35)) (.cells #[.int .i64 0,.int .i64 0,.int .i64 0,.int .i64 0,.slice none 0 0,.int .i64 0,.int .i64 0,.int .i64 0,.bool false] 58)):P:=h
theorem j1e(h:P:=by exact Keeps.alloc (S:=λ_=>False) ((w7).alloc (.cells #[.int .i64 0,.int .i64 0,.int .i64 0,.int .i64 0,.slice none 0 0,.int .i64 0,.int .i64 0,.int .i64 0,.bool false] 58)) (.cells #[.slice none 0 0,.int .i64 0,.int .i64 0] 35)):P:=h
theorem j0p(h:P:=by exact Keeps.nt (Keeps.nt (Keeps.refl (λ_=>False) w7) (Keeps.alloc (S:=λ_=>False) (w7) (.cells #[.int .i64 0,.int .i64 0,.int .i64 0,.int .i64 0,.slice none 0 0,.int .i64 0,.int .i64 0,.int .i64 0,.bool false] 58))) (Keeps.alloc (S:=λ_=>False) ((w7).alloc (.cells #[.int .i64 0,.int .i64 0,.int .i64 0,.int .i64 0,.slice none 0 0,.int .i64 0,.int .i64 0,.int .i64 0,.bool false] 58)) (.cells #[.slice none 0 0,.int .i64 0,.int .i64 0] 35))):P:=h
theorem j1h(h:P:=by exact Keeps.alloc (S:=λ_=>False) (w7) (.cells #[.slice none 0 0,.int .i64 0,.int .i64 0] 35)):P:=h
theorem j6(h:P:=by unfold maxLen;omega):P:=h
theorem jp(h:P:=by exact Keeps.refl (λ_=>False) w7):P:=h
theorem j0q(h:P:=by exact Keeps.nt (Keeps.nt (Keeps.refl (λ_=>False) w7) (Keeps.alloc (S:=λ_=>False) (w7) (.cells #[.slice none 0 0,.int .i64 0,.int .i64 0] 35))) (Keeps.alloc (S:=λ_=>False) ((w7).alloc (.cells #[.slice none 0 0,.int .i64 0,.int .i64 0] 35)) (.cells #[.int .i64 0,.int .i64 0,.int .i64 0,.int .i64 0,.slice none 0 0,.int .i64 0,.int .i64 0,.int .i64 0,.bool false] 58))):P:=h
theorem j1g(h:P:=by exact Keeps.alloc (S:=λ_=>False) (w5) (.cells #[.int .i64 0,.int .i64 0,.int .i64 0,.int .i64 0,.slice none 0 0,.int .i64 0,.int .i64 0,.int .i64 0,.bool false] 58)):P:=h
theorem j9(h:P:=by simp [Value.oneCell']):P:=h
theorem j1b(h:P:=by exact Keeps.alloc (S:=λ_=>False) (w5) (.cells #[.slice none 0 0,.int .i64 0,.int .i64 0] 35)):P:=h
theorem j17(h:P:=by exact Keeps.alloc (S:=λ_=>False) ((w5).alloc (.cells #[.slice none 0 0,.int .i64 0,.int .i64 0] 35)) (.cells #[.int .i64 0,.int .i64 0,.int .i64 0,.int .i64 0,.slice none 0 0,.int .i64 0,.int .i64 0,.int .i64 0,.bool false] 58)):P:=h
theorem j16(h:P:=by exact Keeps.alloc (S:=λ_=>False) ((w5).alloc (.cells #[.int .i64 0,.int .i64 0,.int .i64 0,.int .i64 0,.slice none 0 0,.int .i64 0,.int .i64 0,.int .i64 0,.bool false] 58)) (.cells #[.slice none 0 0,.int .i64 0,.int .i64 0] 35)):P:=h
theorem j1a(h:P:=by exact Keeps.nt (Keeps.nt (Keeps.refl (λ_=>False) w7) (Keeps.alloc (S:=λ_=>False) (w7) (.cells #[.int .i64 0,.int .i64 0,.int .i64 0,.int .i64 0,.slice none 0 0,.int .i64 0,.int .i64 0,.int .i64 0,.bool false] 58))) hk5):P:=h
theorem jd(h:P:=by first|rfl|simp):P:=h
theorem j2r(h:P:=by exact Keeps.nt (Keeps.nt (Keeps.refl (λ_=>False) w7) hk5) (Keeps.alloc (S:=λ_=>False) (w5) (.cells #[.int .i64 0,.int .i64 0,.int .i64 0,.int .i64 0,.slice none 0 0,.int .i64 0,.int .i64 0,.int .i64 0,.bool false] 58))):P:=h
theorem j1f(h:P:=by exact Keeps.nt (Keeps.nt (Keeps.refl (λ_=>False) w7) (Keeps.alloc (S:=λ_=>False) (w7) (.cells #[.slice none 0 0,.int .i64 0,.int .i64 0] 35))) hk5):P:=h
theorem j2q(h:P:=by exact Keeps.nt (Keeps.refl (λ_=>False) w7) hk5):P:=h
theorem jq(h:P:=by have e':i=w.heap.size+1:=e;omega):P:=h
theorem j1P(h:P:=by exact Ac (Ap (heap_alloc_new w (.cells #[.slice ad n cap,.int .i64 cr,.int .i64 du] 35)) (.cells #[.slice none 0 0,.int .i64 0,.int .i64 0] 35)) hk1 (by simp)):P:=h
theorem j2s(h:P:=by exact Keeps.nt (Keeps.nt (Keeps.refl (λ_=>False) w7) hk5) (Keeps.alloc (S:=λ_=>False) (w5) (.cells #[.slice none 0 0,.int .i64 0,.int .i64 0] 35))):P:=h
theorem j3S(h:P:=by rw [Hn.out];exact(Hr.out.keeps (S:=λ_=>False) (by(repeat (first|exact Keeps.refl _ _|exact Keeps.alloc _ _|exact Keeps.drew _|exact Keeps.drewN _ _|refine Keeps.Am ?_|refine Keeps.Al ?_|refine Keeps.Af ?_))) (by simp))):P:=h
theorem jw(h:P:=by rw [HN.out];exact hlt):P:=h
theorem jN(h:P:=by rw [hn];exact hr.keeps hW (by simp)):P:=h
theorem jy(h:P:=by rw [Hn.out];exact hlt):P:=h
theorem j53(h:P:=by exact Keeps.nt (Keeps.refl (λ_=>False) w5) (Keeps.alloc (S:=λ_=>False) (w5) (.cells #[.int .i64 0,.int .i64 0,.int .i64 0,.int .i64 0,.slice none 0 0,.int .i64 0,.int .i64 0,.int .i64 0,.bool false] 58))):P:=h
theorem j0e(h:P:=by exact Bb hrs (.slice none 0 0) (.int .i64 0) (.int .i64 0)):P:=h
theorem j2H(h:P:=by rw [hxv];show w9.ownsRow 0 _ 1 _ (Lx++ [v0]).length _;rw [hlen];simpa [i64c] using hown9):P:=h
theorem j1c(h:P:=by exact Keeps.refl (λ_=>False) w5):P:=h
theorem jS(h:P:=by rw [Hn.out];exact Nat.le_refl _):P:=h
theorem j0s(h:P:=by exact (Hfr2.out.keep (Keeps.alloc _ _)).app hk3 hf3):P:=h
theorem jF(h:P:=by unfold docT;decide):P:=h
theorem j0W(h:P:=by simp [results,Tryz.results168,go_sem,R0',R1',R2']):P:=h
theorem j1w(h:P:=by simp [results,Tryz.results113,go_sem,R0',R1',R2']):P:=h
theorem j2Y(h:P:=by exact (Ff t (.slice adt n ct) tr _ w).trans (hres.kp.mono λi _ e=> .inr (hI.gl i e).1)):P:=h
theorem j6q(h:P:=by exact heap_alloc_new w (.cells #[.int .i64 t.limit,.slice adT n cT,.int .i64 t.cyc,.int .i64 t.due,.int .i64 t.minFixed,.int .i64 t.minPart,.int .i64 t.start] 24)):P:=h
theorem j6Q(h:P:=by exact ((Keeps.alloc w (.cells #[.slice ad n cap,.int .i64 cr,.int .i64 du] 35)).nt (Keeps.alloc _ (.cells #[.slice none 0 0,.int .i64 0,.int .i64 0] 35))).nt hk1):P:=h
theorem j0k(h:P:=by have e':i=w.heap.size+1+1:=e;omega):P:=h
theorem j5I(h:P:=by exact Ac (Ap (heap_alloc_new w (.cells #[.slice ad n cap,.int .i64 cr,.int .i64 du] 35)) (.cells #[.slice none 0 0,.int .i64 0,.int .i64 0] 35)) hf.1 (by simp)):P:=h
theorem j0r(h:P:=by exact ((Fresh.nil _).keep Hkw.out).app hk2 hf2):P:=h
theorem j0f(h:P:=by rw [HN.out];exact Nat.le_refl _):P:=h
theorem jG(h:P:=by rw [Hn.out];omega):P:=h
theorem j0l(h:P:=by exact (Ce (y:=dY fr) (m:=dM fr) h.m0 h.m1).2):P:=h
theorem j56(h:P:=by exact Keeps.nt (Keeps.refl (λ_=>False) w5) (Keeps.alloc (S:=λ_=>False) (w5) (.cells #[.slice none 0 0,.int .i64 0,.int .i64 0] 35))):P:=h
theorem j2k(h:P:=by exact λW=>Hcall.out ⟨x0,x1,x2,x3,x4⟩ ⟨y0,y1,y2,y3,y4⟩ W okx oky):P:=h
theorem j32(h:P:=by simp [results,Tryz.results12,go_sem,r0,r1,r2,r3,r4,r5,r6]):P:=h
theorem j6t(h:P:=by exact λW (hW:Keeps (λ_=>False) w W)=>Rt t adT cT n L ad cap N td W hn (htr.keeps hW (by simp)) hLN (hL.keeps hW (by simp)) hN hnl):P:=h
theorem j0Q(h:P:=by simp [results,Tryz.results289,go_sem]):P:=h
theorem j0X(h:P:=by simp [results,Tryz.results181,go_sem]):P:=h
theorem j1x(h:P:=by simp [results,Tryz.results143,go_sem]):P:=h
theorem j6W(h:P:=by exact Jq (N:=total*t.minPart) (D:=1000) (M:=1000000000000000) (by decide) (Int.mul_nonneg h0 p0) (Int.mul_le_mul h1 p1 p0 (by decide))):P:=h
theorem j0w(h:P:=by rw [hxv,Hxv0.out];exact hf9):P:=h
theorem j1y(h:P:=by simp [results,Tryz.results83,go_sem]):P:=h
theorem j1B(h:P:=by simp [results,Tryz.results54,go_sem]):P:=h
theorem j1C(h:P:=by simp [results,Tryz.results18,go_sem]):P:=h
theorem j1D(h:P:=by simp [results,Tryz.results17,go_sem]):P:=h
theorem j39(h:P:=by exact heap_alloc_new w (.cells #[.int .i64 li,.slice ad n cap,.int .i64 cy,.int .i64 du,.int .i64 mf,.int .i64 mp,.int .i64 st] 24)):P:=h
theorem j3L(h:P:=by exact Ma (X.take k) (Y.take k) (λx hx=>HXb.out x (List.mem_of_mem_take hx)) (λy hy=>HYb.out y (List.mem_of_mem_take hy))):P:=h
theorem j01(h:P:=by rw [Hpl.out,Hql.out]):P:=h
theorem j1r(h:P:=by have e':i=B:=e;rw [e'];exact h.wB):P:=h
theorem j23(h:P:=by simp [results,Tryz.results218,go_sem,R0',R1',R2']):P:=h
theorem j24(h:P:=by simp [results,Tryz.results214,go_sem,R0',R1',R2']):P:=h
theorem j22(h:P:=by simp [results,Tryz.results213,go_sem,R0',R1',R2']):P:=h
theorem j1S(h:P:=by simp [results,Tryz.results212,go_sem,R0',R1',R2']):P:=h
theorem j2K(h:P:=by simp [results,Tryz.results175,go_sem,R0',R1',R2']):P:=h
theorem j00(h:P:=by rw [Hpl.out,HN.out]):P:=h
theorem j5S(h:P:=by simp [results,Tryz.results180,go_sem,Sa0',Sa1',Sa2',Sa3',Sa4',Sa5',Sa6',Sa7',Sa8',Sb0',Sb1',Sb2']):P:=h
theorem j4q(h:P:=by simp [results,Tryz.results171,go_sem,Sa0',Sa1',Sa2',Sa3',Sa4',Sa5',Sa6',Sa7',Sa8',Sb0',Sb1',Sb2']):P:=h
theorem j0v(h:P:=by rw [Hxv0.out];exact hk9):P:=h
theorem j0T(h:P:=by have e':i=w.heap.size:=e;omega):P:=h
theorem j2I(h:P:=by rw [List.getElem?_map,Hx.out,<-Hxv0.out];rfl):P:=h
theorem j25(h:P:=by exact Keeps.alloc wq (.cells #[.int .i64 ra,.bool gr] 100)):P:=h
theorem jY(h:P:=by simp [payQ];omega):P:=h
theorem j5B(h:P:=by rw [hxv];show w9.ownsRow 0 _ 1 _ (Lx++ [v1]).length _;rw [hlen];simpa [i64c] using hown9):P:=h
theorem j6X(h:P:=by exact Ac h4.blk hk5 (nx h4.blk (by decide))):P:=h
theorem j0i(h:P:=by rw [HM.out];exact hlt):P:=h
theorem j1L(h:P:=by have:nY (9999+1)=2932897:=(by decide);omega):P:=h
theorem jW(h:P:=by exact Lib.hid (Hk.out.nt hk1)):P:=h
theorem j27(h:P:=by have e':i=w.heap.size+1+1+1+1+1:=e;omega):P:=h
theorem j6Y(h:P:=by exact hk8.nt (Keeps.alloc w8 (.cells #[.int .i64 v0] 2))):P:=h
theorem j1q(h:P:=by exact Lib.hid ((Keeps.alloc w _).nt hk1)):P:=h
theorem j43(h:P:=by exact(hk5.cell (p:=⟨w.heap.size,0,none⟩) Hlt4.out (by simp)).trans Hs4.out):P:=h
theorem j0u(h:P:=by simp only [SI.v,hlen]):P:=h
theorem j29(h:P:=by have e':i=w.heap.size+1+1+1+1:=e;omega):P:=h
theorem j6Z(h:P:=by exact λW (hW:Keeps (λ_=>False) w W)=>Nn R adR cR n W (hR.keeps hW (by simp)) hRn (by omega)):P:=h
theorem j70(h:P:=by exact ((hat.row.set (k:=k) (by omega) ((i:Int)+1)).set (k:=k+1) (by omega) y).keep (Keeps.drew _)):P:=h
theorem j1X(h:P:=by simp [results,Tryz.results219,go_sem]):P:=h
theorem j2i(h:P:=by simp [results,Tryz.results120,go_sem]):P:=h
theorem j2j(h:P:=by rw [hnt];exact htr.keeps hW (by simp)):P:=h
theorem j2E(h:P:=by rw [List.getElem?_map,hx,<-hxv0];rfl):P:=h
theorem j0j(h:P:=by exact hs3.keep hk4):P:=h
theorem j4y(h:P:=by exact Md _ _ bl bd bi day v L false ((k+1:Nat):Int) fr F _ hfa (.inl rfl) (.inr (.inl rfl)) hbig):P:=h
theorem j13(h:P:=by have:=Hk1.out.size;omega):P:=h
theorem j63(h:P:=by exact λW (hW:Keeps (λ_=>False) w W)=>Ep L cr du ad cap i W (Hr.out.keeps hW (by simp)) hl):P:=h
theorem j20(h:P:=by rw [hRn];exact hR.keeps hW (by simp)):P:=h
theorem j28(h:P:=by have e':i=w.heap.size+1+1+1:=e;omega):P:=h
theorem j5Y(h:P:=by exact hs19.keep (S:=λ_=>False) (Keeps.alloc _ _) (by simp) (by simp)):P:=h
theorem j5J(h:P:=by exact λW (hW:Keeps (λ_=>False) w W)=>Ep L cr du ad cap n W (hr.keeps hW (by simp)) hl):P:=h
theorem j2R(h:P:=by have e':j=w.heap.size+1+1:=e;omega):P:=h
theorem j2F(h:P:=by exact Keeps.alloc w8 (.cells #[.int .i64 v0] 2)):P:=h
theorem j3I(h:P:=by simp only [show((2 ^ 54:Nat):Int)=18014398509481984 from rfl];omega):P:=h
theorem j6v(h:P:=by exact Sv t adt ct n L ad cap N td tr w hn htr hN hr hl htl false 0 (λe=>by cases e)):P:=h
theorem j6u(h:P:=by simp [results,Tryz.results16,go_sem,Hcw0.out,Hcw1.out,Hcw2.out]):P:=h
theorem j2L(h:P:=by have e':i=w3.heap.size:=e;omega):P:=h
theorem j71(h:P:=by exact Ac ((heap_setCell_same _ _ 7 _ _ (.int .i64 M) hob6).trans rfl) k7b (by omega)):P:=h
theorem j72(h:P:=by exact (heap_setCell_same _ _ 2 _ _ (.int .i64 M) (Ac hpb6 k7a (by omega))).trans rfl):P:=h
theorem j4o(h:P:=by exact hk8.nt (Keeps.alloc w8 (.cells #[.int .i64 bk,.int .i64 xk,.int .i64 rk] 92))):P:=h
theorem j3H(h:P:=by simp only [show((2 ^ 34:Nat):Int)=17179869184 from rfl];omega):P:=h
theorem jJ(h:P:=by simp [q18]):P:=h
theorem jI(h:P:=by simp [q16]):P:=h
theorem jH(h:P:=by simp [q10]):P:=h
theorem j51(h:P:=by exact hs7.keep (Keeps.nt (Keeps.refl (λ_=>False) w7) hk5)):P:=h
theorem j5V(h:P:=by exact(hs15.keep hfq.1 (by simp) (by simp)).keep hk17 nB n9):P:=h
theorem j6S(h:P:=by
 clear hb8e hb9e hwE hln hbn2 hk5 hol hob k5E hs5;refine j6C ?_;intro ya0 yb0 ya1 yb1 ya2 yb2 ya3 yb3 ya4 yb4 ya5 yb5 ya6 yb6 ya7 yb7 ya8 yb8 yc0 yd0 yc1 yd1 yc2 yd2 yl8 yl9 hne2;have hl8:∀b,(Value.slice al x.lines.length cl2).ownBlock=some b->¬b=b8:=λb hb e=>by subst e;exact Ag hlnE hb8 j2 hb
 have hl9:∀b,(Value.slice al x.lines.length cl2).ownBlock=some b->¬b=b9:=λb hb e=>by subst e;exact Ag hlnE hb9 j2 hb
 have hq8:∀b,(Value.slice ab2 q.bal.length cb2).ownBlock=some b->¬b=b8:=λb hb e=>by subst e;exact Ag hbnE hb8 j2 hb
 have hq9:∀b,(Value.slice ab2 q.bal.length cb2).ownBlock=some b->¬b=b9:=λb hb e=>by subst e;exact Ag hbnE hb9 j2 hb
 refine j6D ?_;intro hb8' k8 hb9' k9 hb8F kE8 kEF hlnF hbnF hsA hsB;obtain⟨Hb8,Hb9,Hb8',K8,K9,KE8,Hl8,Hl9,Hq8⟩:=hid9 hb8 hb9 hb8' k8 k9 kE8 hl8 hl9 hq8;clear hq8 hl9 hl8 kE8 k9 k8 hb8' hb9 hb8;obtain⟨Hq9,HlnE,HbnE,HsA⟩:=hid4 hq9 hlnE hbnE hsA;clear hsA hbnE hlnE hq9;refine j7 ?_;intro K hK;refine hK.out _ _ (by exact HsA.out) ?_;clear hK K;refine ji ?_;have HsB:=Lib.hid hsB;clear hsB;refine j7 ?_;intro K hK;refine hK.out _ _ (by exact HsB.out) ?_;clear hK K;refine jg ?_;clear ya0 yb0 ya1 yb1 ya2 yb2 ya3 yb3 ya4 yb4 ya5 yb5 ya6 yb6 ya7 yb7 ya8 yb8 yc0 yd0 yc1 yd1 yc2 yd2 yl8 yl9 hs7;refine j6E ?_;intro wF hwF;rw [<-hwF] at hb8F hb9' kEF hlnF hbnF⊢;clear hwF;have Hn8:=Lib.hid hn8;clear hn8;have hr7:=Hr4.out.keep0 Hk7.out;have hrF:=hr7.keep0 kEF;have b19:=Aa hrF.blk 19;have hnil:∀w:World,(binOp .neq 107 .nilFunc .nilFunc).run Tryz.prog w= .ok (.bool false) w:=λ_=>by kernel_rfl
 rcases D with _|⟨x',q'⟩
 ·have hC':=HC.out;simp only at hC';subst hC';have hcv:=Hcv.out;simp only [Da,Prod.mk.injEq] at hcv;obtain⟨rfl,rfl,rfl⟩:=hcv;obtain⟨Hb8F,Hb9',KEF,HlnF,HbnF,Hr7,HrF,Hnil,HolE⟩:=hid9 hb8F hb9' kEF hlnF hbnF hr7 hrF hnil holE;clear holE hnil hrF hr7 hbnF hlnF kEF hb9' hb8F;have HobE:=Lib.hid hobE;clear hobE;go_wp2;go_ret;exact⟨rfl,HrF.out⟩
 ·have hC':=HC.out;simp only at hC';have hcv:=Hcv.out;simp only [Da,Prod.mk.injEq] at hcv;obtain⟨rfl,rfl,rfl⟩:=hcv;obtain⟨hql,_⟩:=Eb Hz.out Hpr.out (by rw [HVl.out];exact H.out.nb.symm) (List.all_eq_true.2 λy hy=>(Aw y).2 (HVb.out y hy)) HD.out;have hqn:x'.lines.length=x'.lines.length:=rfl;rw [H.out.nb] at hql;rw [hql] at hbnF hb9' hobE⊢;have u10:=(heap_setCell_same _ _ 10 _ _ (.slice ab2 n cb2) hrF.blk).trans rfl;have u11:=(heap_setCell_same _ _ 11 _ _ (.int .i64 q'.cr) u10).trans rfl;have u12:=(heap_setCell_same _ _ 12 _ _ (.int .i64 q'.du) u11).trans rfl;have kB:Keeps (λi=>i=B) wF (((wF.setCell ⟨B,10,none⟩ (.slice ab2 n cb2)).setCell ⟨B,11,none⟩ (.int .i64 q'.cr)).setCell ⟨B,12,none⟩ (.int .i64 q'.du)):=((Keeps.setCell (S:=λi=>i=B) _ _ _ rfl).trans (Keeps.setCell _ _ _ (.inl rfl))).trans (Keeps.setCell _ _ _ (.inl rfl));have hupd:=hr7.upd kEF kB u12 hbnF hrF.rts hql Hr4.out.nr (.inr hobE) (.inl rfl)
  have hB8:¬b8=B:=λe=>by
   have h1:=hb8F;rw [e,hrF.blk] at h1;exact j0o
  have hb8G:=Ac hb8F kB hB8;have hlnG:=kB.row hlnF (λi hi e=>by have e':i=B:=e;subst e';exact Ag hlnF hrF.blk j2 hi);have p0:=Aa hb9' 0;have p1:=Aa hb9' 1;have p2:=Aa hb9' 2;have pl:=lt_of_block hb9';have b10:=Aa hrF.blk 10;have b11:=Aa hrF.blk 11;have b12:=Aa hrF.blk 12;have f10:=Ab hrF.blk 10;have f11:=Ab hrF.blk 11;have f12:=Ab hrF.blk 12;have bl2:=lt_of_block hrF.blk;obtain⟨W12,hW12⟩:∃y,y=(((wF.setCell ⟨B,10,none⟩ (.slice ab2 n cb2)).setCell ⟨B,11,none⟩ (.int .i64 q'.cr)).setCell ⟨B,12,none⟩ (.int .i64 q'.du)):=⟨_,rfl⟩;rw [<-hW12] at hupd hb8G hlnG;have hS13:=r13S.keep (r13S.of hupd.blk rfl hb8G) (Keeps.drew (S:=λ_=>False) _) (by simp) (by simp);have holX:Own w0 X (.slice al x'.lines.length cl2):=hr7.ownN holE;obtain⟨Hb8F,Hb9',KEF,HlnF,HbnF,Hr7,HrF,HolE,HobE⟩:=hid9 hb8F hb9' kEF hlnF hbnF hr7 hrF holE hobE;clear hobE holE hrF hr7 hbnF hlnF kEF hb9' hb8F;obtain⟨Hql,Hqn,U10,U11,U12,KB,Hupd,HB8,Hb8G⟩:=hid9 hql hqn u10 u11 u12 kB hupd hB8 hb8G;clear hb8G hB8 hupd kB u12 u11 u10 hqn hql;obtain⟨HlnG,HS13,HolX,HC'⟩:=hid4 hlnG hS13 holX hC';clear hC' holX hS13 hlnG;go_wp2_with fail;rw [<-hW12];clear hW12 p0 p1 p2 pl b10 b11 b12 f10 f11 f12 bl2 b19 hnil;refine Cf (r13S B b8 (.slice av m cv) x'.cycle x'.fr x'.te x'.due (.slice al x'.lines.length cl2) x'.total x'.credit x'.min x'.grace) 10 (.take 0 (.take 1 (.take 2 (.take 3 (.take 4 (.take 5 (.move 6 (.move 7 (.move 8 (.move 9 (.move 10 .done))))))))))) j4 j4 ?_ ?_
  ·exact HS13.out
  intro w13 hs13 hk13;refine je ?_;intro K hK;refine hK.out _ _ (by exact hs13.keep (S:=λ_=>False) (Keeps.alloc _ _) (by simp) (by simp)) ?_;clear hK K;refine ji ?_;have hk13a:=hk13.nt (Keeps.alloc w13 (.cells (SV.cells ⟨x',al,cl2⟩).toArray 58));have hrow13:=(Hupd.out.keep0 hk13a).out;rw [Hmm.out] at hrow13;refine Ae rfl (λK hK=> ?_);refine Ah rfl (.tmp 107) (.tmp 109) 36 rfl 0 58 i0 _ 9 88 Tryz.underlying36 Hi.out Hi0.out Hi1.out Hi2.out rfl j2 (.slice av m cv) m _ rfl hrow13 _ 1 _ rfl (Reads.litAt _ _ _ 9 1 _ jd rfl) j9 j6 j1 (Nat.zero_le _) ?_;intro v14 w14 hown14 hk14 hf14;obtain⟨a14,c14,rfl,_,_⟩:=Ad hown14;have hadd:=Hupd.out.Ky (x:=⟨x',al,cl2⟩) hk13a hk14 (by rw [Hmm.out,List.flatMap_append];exact hown14) (HlnG.out.of_keeps hk13a) HolX.out hf14;have h14b:=Ac (Hupd.out.keep0 hk13a).blk hk14 (λe=>Ag hrow13 (Hupd.out.keep0 hk13a).blk j2 e);have hb8n:W.heap.size<=b8:=by have h1:=Hk4w.out.size;have h2:=Hk7.out.size;have h3:=Hn8.out;omega
  have h14s:¬(Value.slice av m cv).ownBlock=some b8:=λe=>by have:=Bh H.out.out e;omega
  have o16:=Aa h14b 16;have of16:=Ab h14b 16;have ol16:=lt_of_block h14b;refine hK.out _ _ (by exact(hs13.keep (S:=λ_=>False) (Keeps.alloc _ _) (by simp) (by simp)).keep hk14 (λe=>Ag hrow13 (Hupd.out.keep0 hk13a).blk j2 e) h14s) ?_;clear hK K;refine j5 ?_;obtain⟨Hk13a,Hrow13,Hown14,Hk14,Hadd,H14b,Hb8n,H14s,Hk13⟩:=hid9 hk13a hrow13 hown14 hk14 hadd h14b hb8n h14s hk13;clear hk13 h14s hb8n h14b hadd hk14 hown14 hrow13 hk13a;clear hs13 hf14
  repeat (refine Df (v:= ?_) rfl (by rfl) ?_ ?_;rotate_left;(· intro w' hSw;unfold r13S at hSw;go_simp;(try with_reducible rfl));rotate_right;try simp only [aps])
  refine jh ?_;clear o16 of16 ol16;have hfr:=Dl Hadd.out j1;have Hfr:=Lib.hid hfr;clear hfr;go_wp2_with fail;refine Hfr.out.mono ?_;rintro e w16 ⟨rfl,a16,b16',hr16⟩;have hCC:=HC'.out;subst hCC;have Hr16:=Lib.hid hr16;clear hr16;go_wp2;go_ret
  exact⟨rfl,_,_,_,_,_,Hr16.out⟩):P:=h
theorem j35(h:P:=by
 have hrl:=Hrot.out.left Hsym.out H1.out H2.out;have hrr:=Hrot.out.right Hsym.out H1.out H2.out;have hcr:=Hrot.out.cross Hsym.out H1.out H2.out;obtain⟨Hrl,Hrr,Hcr⟩:=hid3 hrl hrr hcr;clear hcr hrr hrl;by_cases hA:a<j/\j<mid
 ·have hA1:(a:Int)<(j:Int):=j3;have hA2:(j:Int)<(mid:Int):=j3;have hcA:=Ih.out a j mid n cap g X w2 j1 Hrow2.out j1 j1 j1 (λx hx=>Hok.out x (Hrot.out.t.alike.mem hx)) hn Hrl.out.1 Hrl.out.2;have HcA:=Lib.hid hcA;clear hcA
  go_wp2_with (first|(go_at_call 253;(with_reducible refine HcA.out.mono ?_);rintro e w3 ⟨rfl,Y,htY,huY,hrow3,hk3⟩;have HtY:=Lib.hid htY;have HuY:=Lib.hid huY;have Hrow3:=Lib.hid hrow3;have Hk3:=Lib.hid (Hk2.out.same hk3);clear htY huY hrow3 hk3;refine halt ?_))
  refine Lib.hid ?_;exact j33
 ·have huY:Upto X a mid:=by
   by_cases hA3:a<j
   ·exact Hrl.out.1.sub (Nat.le_refl _) j1
   ·exact Hrl.out.2.sub j1 (Nat.le_refl _)
  obtain⟨Y,hY⟩:∃Y,Y=X:=⟨_,rfl⟩;obtain⟨w3,hw3⟩:∃w3,w3=w2:=⟨_,rfl⟩;have htY:Turned X Y a mid:=by rw [hY];exact Turned.refl _ _ _
  have hrow3:RowE w3 g n cap Y:=by rw [hY,hw3];exact Hrow2.out
  have hk3:Keeps (λi=>i=g) w w3:=by rw [hw3];exact Hk2.out
  rw [<-hY] at huY;rw [<-hw3];obtain⟨HuY,HtY,Hrow3,Hk3,HY,Hw3⟩:=hid6 huY htY hrow3 hk3 hY hw3;clear hw3 hY hk3 hrow3 htY huY;by_cases hA3:(a:Int)<(j:Int)
  ·have hA4:¬(j:Int)<(mid:Int):=j3;exact j33
  ·skip
   exact j33):P:=h
theorem j6R(h:P:=by
 clear hb8e hb9e hwE hln hbn2 hk5 hol hob k5E hs5;refine j6C ?_;intro ya0 yb0 ya1 yb1 ya2 yb2 ya3 yb3 ya4 yb4 ya5 yb5 ya6 yb6 ya7 yb7 ya8 yb8 yc0 yd0 yc1 yd1 yc2 yd2 yl8 yl9 hne2;have hl8:∀b,(Value.slice al x.lines.length cl2).ownBlock=some b->¬b=b8:=λb hb e=>by subst e;exact Ag hlnE hb8 j2 hb
 have hl9:∀b,(Value.slice al x.lines.length cl2).ownBlock=some b->¬b=b9:=λb hb e=>by subst e;exact Ag hlnE hb9 j2 hb
 have hq8:∀b,(Value.slice ab2 q.bal.length cb2).ownBlock=some b->¬b=b8:=λb hb e=>by subst e;exact Ag hbnE hb8 j2 hb
 have hq9:∀b,(Value.slice ab2 q.bal.length cb2).ownBlock=some b->¬b=b9:=λb hb e=>by subst e;exact Ag hbnE hb9 j2 hb
 refine j6D ?_;intro hb8' k8 hb9' k9 hb8F kE8 kEF hlnF hbnF hsA hsB;obtain⟨Hb8,Hb9,Hb8',K8,K9,KE8,Hl8,Hl9,Hq8⟩:=hid9 hb8 hb9 hb8' k8 k9 kE8 hl8 hl9 hq8;clear hq8 hl9 hl8 kE8 k9 k8 hb8' hb9 hb8;obtain⟨Hq9,HlnE,HbnE,HsA⟩:=hid4 hq9 hlnE hbnE hsA;clear hsA hbnE hlnE hq9;refine j7 ?_;intro K hK;refine hK.out _ _ (by exact HsA.out) ?_;clear hK K;refine ji ?_;have HsB:=Lib.hid hsB;clear hsB;refine j7 ?_;intro K hK;refine hK.out _ _ (by exact HsB.out) ?_;clear hK K;refine jg ?_;clear ya0 yb0 ya1 yb1 ya2 yb2 ya3 yb3 ya4 yb4 ya5 yb5 ya6 yb6 ya7 yb7 ya8 yb8 yc0 yd0 yc1 yd1 yc2 yd2 yl8 yl9 hs7;refine j6E ?_;intro wF hwF;rw [<-hwF] at hb8F hb9' kEF hlnF hbnF⊢;clear hwF;have hout:Clo12 w4 wF x q b8 b9 al cl2 ab2 cb2:=⟨hb8F,hb9',hlnF,hbnF,λb hb=>by have h1:=holE b hb;have h2:=Hk7.out.size;omega,λb hb=>by have h1:=hobE b hb;have h2:=Hk7.out.size;omega,Hk7.out.nt kEF,by have h2:=Hk7.out.size;omega,by have h2:=Hk7.out.size;omega⟩;clear hn8 hn9 hne hne2 holE hobE hb8F hb9' hlnF hbnF kEF;have Hout:=Lib.hid hout;clear hout;go_wp2_with fail;go_meet
 exact⟨b8,b9,al,cl2,ab2,cb2,rfl,rfl,rfl,Hout.out⟩):P:=h
theorem j2S(h:P:=by
 rw [hq] at hcall;simp only at hA hcall;refine j2e ?_;intro p0 p1 p2 pl4 e0 e2 e3 el4;obtain⟨Hq,Hcall⟩:=hid2 hq hcall;clear hcall hq;go_wp2_with fail;refine(Hcall.out _ (Keeps.refl _ _)).mono ?_;rintro e w5 ⟨v5,rfl,hrow5,hf5⟩;obtain⟨a5,m5,rfl⟩:∃a c,v5= .slice a q.bal.length c:=by obtain⟨a,c,h,_⟩:=Ad hrow5;exact⟨a,c,h⟩
 clear e0 e2 e3 el4 p0 p1 p2 pl4;have hab5:=Hab4.out.keep0 hf5.1;have hcb5:=Ac Hcb4.out hf5.1 (by simp);have hrr5:=Hrr4.out.of_keeps hf5.1;obtain⟨hcb6,k6⟩:=Bb hcb5 (.slice a5 q.bal.length m5) (.int .i64 q.cr) (.int .i64 q.du);have hab6:=hab5.keepB k6 HBl.out;have hg5:∀j,(Value.slice a5 q.bal.length m5).ownBlock=some j->B<j:=λj e=>by have:=hf5.2 j e;have:=lt_of_block Hcb4.out;omega
 have hrow6:=k6.row hrow5 (λj hj e=>by have e':j=B:=e;have:=hg5 j hj;omega);have hrr6:=k6.row hrr5 (λj hj e=>by have e':j=B:=e;have:=HgB.out j hj;omega);have p0:=Aa hcb5 0;have p1:=Aa hcb5 1;have p2:=Aa hcb5 2;have q0:=Ab hcb5 0;have q1:=Ab hcb5 1;have q2:=Ab hcb5 2;have pl:=lt_of_block hcb5;have r0:=Aa hab5.r 0;have r1:=Aa hab5.r 1;have r2:=Aa hab5.r 2;have rf0:=Ab hab5.r 0;have rf1:=Ab hab5.r 1;have rf2:=Ab hab5.r 2;have rl:=lt_of_block hab5.r;have hBl1:¬w.heap.size+1+1=B:=by have:=HBl.out;omega
 have hBl2:¬B=w.heap.size+1+1:=by have:=HBl.out;omega
 by_cases hz0:z=0
 ·subst hz0;rw [if_pos rfl] at hA;subst hA;have hS3:=Bb hab6.r (.slice a5 q.bal.length m5) (.int .i64 q.cr) (.int .i64 q.du);obtain⟨hb9,k9⟩:=hS3;have hkf:=hab6.kp.trans (k9.mono λj _ e=> .inr j2R);have hrow9:=k9.row hrow6 (λj hj e=>by have e':j=w.heap.size+1+1:=e;have:=hg5 j hj;have:=HBl.out;omega);have hrr9:=k9.row hrr6 (λj hj e=>by have e':j=w.heap.size+1+1:=e;have:=Hg2'.out j hj;omega);refine jo ?_;intro sr0 sr1 sr2;obtain⟨Hrow5,Hf5,Hab5,Hcb5,Hrr5,Hcb6,K6,Hab6,Hg5⟩:=hid9 hrow5 hf5 hab5 hcb5 hrr5 hcb6 k6 hab6 hg5;clear hg5 hab6 k6 hcb6 hrr5 hcb5 hab5 hf5 hrow5;obtain⟨Hrow6,Hrr6,Hb9,K9,Hkf,Hrow9,Hrr9,Sr0,Sr1⟩:=hid9 hrow6 hrr6 hb9 k9 hkf hrow9 hrr9 sr0 sr1;clear sr1 sr0 hrr9 hrow9 hkf k9 hb9 hrr6 hrow6;have Sr2:=Lib.hid sr2;clear sr2;go_wp2;refine ja ?_;intro R0' R1' R2';clear r0 r1 r2 p0 p1 p2;exact bodyPost_ret (v:= .tuple #[.agg #[.slice a5 q.bal.length m5,.int .i64 q.cr,.int .i64 q.du],.slice (some ⟨gr,0,none⟩) i cr2,.int .i64 0]) j1w rfl ⟨_,_,rfl,Hrow9.out,by rw [HRm.out];exact Hrr9.out,Hkf.out,λj hj=>by have:=Hg5.out j hj;have:=HBl.out;omega,λj hj=>by have:=Hg2'.out j hj;omega⟩
 ·rw [if_neg hz0] at hA;subst hA;have hz1:(z !=0)=true:=by simp [hz0]
  have hS3:=Bb hab6.r (.slice none 0 0) (.int .i64 0) (.int .i64 0);obtain⟨hb9,k9⟩:=hS3;have hkf:=hab6.kp.trans (k9.mono λj _ e=> .inr j2R);refine jo ?_;intro sr0 sr1 sr2;obtain⟨Hrow5,Hf5,Hab5,Hcb5,Hrr5,Hcb6,K6,Hab6,Hg5⟩:=hid9 hrow5 hf5 hab5 hcb5 hrr5 hcb6 k6 hab6 hg5;clear hg5 hab6 k6 hcb6 hrr5 hcb5 hab5 hf5 hrow5;obtain⟨Hrow6,Hrr6,Hb9,K9,Hkf,Sr0,Sr1,Sr2,Hz0⟩:=hid9 hrow6 hrr6 hb9 k9 hkf sr0 sr1 sr2 hz0;clear hz0 sr2 sr1 sr0 hkf k9 hb9 hrr6 hrow6;go_wp2;refine ja ?_;intro R0' R1' R2';clear r0 r1 r2 p0 p1 p2
  exact bodyPost_ret (v:= .tuple #[.agg #[.slice none 0 0,.int .i64 0,.int .i64 0],.slice none 0 0,.int .i64 z]) j1w rfl ⟨_,_,rfl,World.ownsRow_nil _ _ _ _,World.ownsRow_nil _ _ _ _,Hkf.out,by simp [Value.ownBlock],by simp [Value.ownBlock]⟩):P:=h
theorem j2d(h:P:=by
 rw [hq] at hcall;simp only at hA hcall;refine j2e ?_;intro p0 p1 p2 pl4 e0 e2 e3 el4;obtain⟨Hq,Hcall⟩:=hid2 hq hcall;clear hcall hq;go_wp2_with fail;refine(Hcall.out _ (Keeps.refl _ _)).mono ?_;rintro e w5 ⟨v5,rfl,hrow5,hf5⟩;obtain⟨a5,m5,rfl⟩:∃a c,v5= .slice a q.bal.length c:=by obtain⟨a,c,h,_⟩:=Ad hrow5;exact⟨a,c,h⟩
 clear e0 e2 e3 el4 p0 p1 p2 pl4;have hab5:=Hab4.out.keep0 hf5.1;have hpb5:=Ac Hpb4.out hf5.1 (by simp);have hrr5:=Hrr4.out.of_keeps hf5.1;obtain⟨hpb6,k6⟩:=Bb hpb5 (.slice a5 q.bal.length m5) (.int .i64 q.cr) (.int .i64 q.du);have hab6:=hab5.keep k6;have hg5:∀i,(Value.slice a5 q.bal.length m5).ownBlock=some i->w.heap.size+1+1<i:=λi e=>by have:=hf5.2 i e;have:=lt_of_block Hab4.out.r;omega
 have hrow6:=k6.row hrow5 (λi hi e=>by have e':i=w.heap.size:=e;have:=hg5 i hi;omega);have hrr6:=k6.row hrr5 (λi hi e=>by have e':i=w.heap.size:=e;have:=Hg2.out i hi;omega);have p0:=Aa hpb5 0;have p1:=Aa hpb5 1;have p2:=Aa hpb5 2;have q0:=Ab hpb5 0;have q1:=Ab hpb5 1;have q2:=Ab hpb5 2;have pl:=lt_of_block hpb5;have r0:=Aa hab5.r 0;have r1:=Aa hab5.r 1;have r2:=Aa hab5.r 2;have rf0:=Ab hab5.r 0;have rf1:=Ab hab5.r 1;have rf2:=Ab hab5.r 2;have rl:=lt_of_block hab5.r;by_cases hz0:z=0
 ·subst hz0;rw [if_pos rfl] at hA;subst hA;have hS3:=Bb hab6.r (.slice a5 q.bal.length m5) (.int .i64 q.cr) (.int .i64 q.du);obtain⟨hb9,k9⟩:=hS3;have hkf:=hab6.kp.trans (k9.mono λi _ e=> .inr j0k);have hrow9:=k9.row hrow6 (λi hi e=>by have e':i=w.heap.size+1+1:=e;have:=hg5 i hi;omega);have hrr9:=k9.row hrr6 (λi hi e=>by have e':i=w.heap.size+1+1:=e;have:=Hg2.out i hi;omega);refine jo ?_;intro sr0 sr1 sr2;obtain⟨Hrow5,Hf5,Hab5,Hpb5,Hrr5,Hpb6,K6,Hab6,Hg5⟩:=hid9 hrow5 hf5 hab5 hpb5 hrr5 hpb6 k6 hab6 hg5;clear hg5 hab6 k6 hpb6 hrr5 hpb5 hab5 hf5 hrow5;obtain⟨Hrow6,Hrr6,Hb9,K9,Hkf,Hrow9,Hrr9,Sr0,Sr1⟩:=hid9 hrow6 hrr6 hb9 k9 hkf hrow9 hrr9 sr0 sr1;clear sr1 sr0 hrr9 hrow9 hkf k9 hb9 hrr6 hrow6;have Sr2:=Lib.hid sr2;clear sr2;go_wp2;refine ja ?_;intro R0' R1' R2';clear r0 r1 r2 p0 p1 p2;exact bodyPost_ret (v:= .tuple #[.agg #[.slice a5 q.bal.length m5,.int .i64 q.cr,.int .i64 q.du],.slice (some ⟨gr,0,none⟩) m cr2,.int .i64 0]) j0W rfl ⟨_,_,rfl,Hrow9.out,by rw [HRm.out];exact Hrr9.out,Hkf.out,λi hi=>by have:=Hg5.out i hi;omega,λi hi=>by have:=Hg2.out i hi;omega⟩
 ·rw [if_neg hz0] at hA;subst hA;have hz1:(z !=0)=true:=by simp [hz0]
  have hS3:=Bb hab6.r (.slice none 0 0) (.int .i64 0) (.int .i64 0);obtain⟨hb9,k9⟩:=hS3;have hkf:=hab6.kp.trans (k9.mono λi _ e=> .inr j0k);refine jo ?_;intro sr0 sr1 sr2;obtain⟨Hrow5,Hf5,Hab5,Hpb5,Hrr5,Hpb6,K6,Hab6,Hg5⟩:=hid9 hrow5 hf5 hab5 hpb5 hrr5 hpb6 k6 hab6 hg5;clear hg5 hab6 k6 hpb6 hrr5 hpb5 hab5 hf5 hrow5;obtain⟨Hrow6,Hrr6,Hb9,K9,Hkf,Sr0,Sr1,Sr2,Hz0⟩:=hid9 hrow6 hrr6 hb9 k9 hkf sr0 sr1 sr2 hz0;clear hz0 sr2 sr1 sr0 hkf k9 hb9 hrr6 hrow6;go_wp2;refine ja ?_;intro R0' R1' R2';clear r0 r1 r2 p0 p1 p2
  exact bodyPost_ret (v:= .tuple #[.agg #[.slice none 0 0,.int .i64 0,.int .i64 0],.slice none 0 0,.int .i64 z]) j0W rfl ⟨_,_,rfl,World.ownsRow_nil _ _ _ _,World.ownsRow_nil _ _ _ _,Hkf.out,by simp [Value.ownBlock],by simp [Value.ownBlock]⟩):P:=h
theorem j5R(h:P:=by
 obtain⟨Hob5,Hcb5,Hpb5,Hrow5,HA5⟩:=hid5 hob5 hcb5 hpb5 hrow5 hA5;clear hA5 hrow5 hpb5 hcb5 hob5;have hne5:∀i,(Value.slice a2 n m2).ownBlock=some i->i≠A:=λi e e'=>Ag Hrow5.out Hob5.out j2 (e'▸e);have hrow7:=Hrow5.out;have hob7:=Hob5.out;have hcb7:=Hcb5.out;have hpb7:=Hpb5.out;have hA7:w.heap.size+1+1+1+1<A:=HA5.out;obtain⟨N,hNN⟩:∃N,lnL B X R=N:=⟨_,rfl⟩;have hNl:N.length=n:=by rw [<-hNN];exact Gy B X R HBn.out HXn.out HRn.out
 have hb7l:A<(W5).heap.size:=lt_of_block hob7;obtain⟨Hne5,HNN,HNl,Hb7l,Hrow7,Hob7,Hcb7,Hpb7⟩:=hid8 hne5 hNN hNl hb7l hrow7 hob7 hcb7 hpb7;clear hpb7 hcb7 hob7 hrow7 hb7l hNl hNN hne5;go_wp2_with fail
 go_loopw [21] (λx wx=>∃(k:Nat) (vl:Value),x= .int .i64 (k:Nat)/\k<=n/\LnAt W5 A cy fr te (te+due) S qc 0 g N k vl wx) (λx _=>n-(intOf x).toNat)
 case atStart=>exact⟨0,.slice none 0 0,rfl,Nat.zero_le _,⟨Hob7.out,by rw [List.take_zero];exact World.ownsRow_nil _ _ _ _,Keeps.refl _ _,by simp [Value.ownBlock]⟩⟩
 case round=>
  obtain⟨k,vl,rfl,hkn,hla⟩:=hrel;refine jc ?_;intro wq hwq;subst hwq;have hcb:=Hcb7.out.keep (hla.kp.mono λi _ e=> .inr (by have e':i=A:=e;omega));have hpb:=Ac Hpb7.out hla.kp j1;obtain⟨av,cv,rfl,hcv,hnv⟩:=Ad hla.row;have hrowB:=hla.kp.row Hrow7.out (λi hi e=>Hne5.out i hi e);by_cases hlt:k<n
  ·refine j4n ?_;intro hltI bk hbk xk hxk rk hrk;have hlk:N[k]?=some ⟨bk,xk,rk⟩:=by rw [<-HNN.out];exact Ua hbk hxk hrk
   obtain⟨gB,oB,heB,cB⟩:=(Reads.Ay hrowB).int (k:= .i64) hbk;obtain⟨gX,oX,heX,cX0⟩:=(HX.out.keeps hcb.kp (by simp)).int (k:= .i64) hxk;obtain⟨gR,oR,heR,cR0⟩:=(HR.out.keeps hcb.kp (by simp)).int (k:= .i64) hrk;obtain⟨gB1,oB1,heB1,cB1⟩:=(Reads.Ay Hrow7.out).int (k:= .i64) hbk;obtain⟨gX1,oX1,heX1,cX1⟩:=HX.out.int (k:= .i64) hxk;obtain⟨gR1,oR1,heR1,cR1⟩:=HR.out.int (k:= .i64) hrk;rw [heB] at heB1;rw [heX] at heX1;rw [heR] at heR1;simp only [Option.some.injEq,Addr.mk.injEq,and_true] at heB1 heX1 heR1;have lB:=Ai cB1;have lX:=Ai cX1;have lR:=Ai cR1;simp only at lB lX lR;rw [<-heB1.1] at lB;rw [<-heX1.1] at lX;rw [<-heR1.1] at lR;clear cB1 cX1 cR1 heB1 heX1 heR1;subst heB heX heR;have hw7:w.heap.size<=(W5).heap.size:=Hcb7.out.kp.size;have hS19:c17S A (w.heap.size+1+1) gB (oB+k) gX (oX+k) gR (oR+k) (.slice av k cv) (.slice (some ⟨gB,oB,none⟩) n m2) bk xk rk wq.drew:=(show c17S A (w.heap.size+1+1) gB (oB+k) gX (oX+k) gR (oR+k) (.slice av k cv) (.slice (some ⟨gB,oB,none⟩) n m2) bk xk rk wq from⟨Aa hla.blk 4,Aa hpb 0,cB,cX0,cR0⟩).keep (S:=λ_=>False) (Keeps.drew _) (by simp);have hown0:∀i,(Value.slice av k cv).ownBlock=some i->i≠A/\i≠w.heap.size+1+1/\i≠gB/\i≠gX/\i≠gR:=λi e=>by have:=hla.nw i e;have:=Hb7l.out;omega
   clear cB cX0 cR0;obtain⟨Hla,Hcb,Hpb,HrowB,Hbk,Hxk,Hrk,Hlk,HS19⟩:=hid9 hla hcb hpb hrowB hbk hxk hrk hlk hS19;clear hS19 hlk hrk hxk hbk hrowB hpb hcb hla;obtain⟨Hown0,Hcv,Hnv⟩:=hid3 hown0 hcv hnv;clear hnv hcv hown0;go_wp2_with fail;refine Bj (c17S A (w.heap.size+1+1) gB (oB+k) gX (oX+k) gR (oR+k) (.slice av k cv) (.slice (some ⟨gB,oB,none⟩) n m2) bk xk rk) 19 (.take 0 (.take 1 (.take 2 (.take 3 (.take 4 (.take 5 (.take 6 (.take 7 (.take 8 (.take 9 (.take 10 (.take 11 (.take 12 (.take 13 (.take 14 (.take 15 (.move 16 (.move 17 (.take 18 (.move 19 .done)))))))))))))))))))) j4 j4 ?_ ?_
   ·exact HS19.out
   intro w8 hs8 hk8;refine je ?_;intro K hK;refine hK.out _ _ (by exact hs8.keep (S:=λ_=>False) (Keeps.alloc _ _) (by simp)) ?_;clear hK K;refine j5 ?_;refine Ae rfl (λK hK=> ?_);refine Ah rfl (.tmp 123) (.tmp 138) 56 rfl 0 92 i0 _ 3 24 Tryz.underlying56 Hi.out Hi0.out Hi1.out Hi2.out rfl j2 (.slice av k cv) k _ rfl ((Hla.out.row.of_keeps hk8).of_keeps (Keeps.alloc _ _)) _ 1 _ rfl (Reads.litAt _ _ _ 3 1 _ jd rfl) j9 j6 j1 (Nat.zero_le _) ?_;intro v9 w9 hown9 hk9 hf9;obtain⟨a9,c9,rfl,_,_⟩:=Ad hown9;have hk8a:=j4o;have happ:=Hla.out.app Hb7l.out Hlk.out rfl rfl hk8a hown9 hk9 hf9;have hb9:=Ac (Ac Hla.out.blk hk8a (by simp)) hk9 (λe=>(Hown0.out _ e).1 rfl);have o4:=Aa hb9 4;have of4:=Ab hb9 4;have ol:=lt_of_block hb9;refine hK.out _ _ (by exact(hs8.keep (S:=λ_=>False) (Keeps.alloc _ _) (by simp)).keep hk9 Hown0.out) ?_;exact j4p
  ·obtain rfl:n=k:=by omega
   have hle5:=Hlet.out wq hcb.kp S S0 S1;obtain⟨M,hM⟩:∃M,Et mf mp S=M:=⟨_,rfl⟩;have hMb:=Ju (mf:=mf) (mp:=mp) S0 f0;rw [hM] at hle5 hMb;obtain⟨M0,M1⟩:=hMb;have t0:=Aa hcb.t 0;have t1:=Aa hcb.t 1;have t2:=Aa hcb.t 2;have t3:=Aa hcb.t 3;have t4:=Aa hcb.t 4;have t5:=Aa hcb.t 5;have t6:=Aa hcb.t 6;have tl:=lt_of_block hcb.t;have o5:=Aa hla.blk 5;have ol5:=lt_of_block hla.blk;have hln:=hla.row;rw [List.take_of_length_le (by rw [HNl.out];exact Nat.le_refl _)] at hln;have hlne:∀i,(Value.slice av n cv).ownBlock=some i->i≠A/\w.heap.size+1+1+1+1<i:=λi e=>by have:=hla.nw i e;have:=Hb7l.out;omega
   obtain⟨Hla,Hcb,Hpb,HrowB,Hln,Hcv,Hnv,Hle5,HM⟩:=hid9 hla hcb hpb hrowB hln hcv hnv hle5 hM;clear hM hle5 hnv hcv hln hrowB hpb hcb hla;have Hlne:=Lib.hid hlne;clear hlne;go_wp2_with fail;refine Hle5.out.mono ?_;rintro e w6 ⟨rfl,hk6⟩;clear t0 t1 t2 t3 t4 t5 t6 tl o5 ol5;have hcb6:=Hcb.out.keep0 hk6;have hpb6:=Ac Hpb.out hk6 (by simp);have hob6:=Ac Hla.out.blk hk6 (by simp);have hrow6:=HrowB.out.of_keeps hk6;have hln6:=Hln.out.of_keeps hk6;have o7:=Aa hob6 7;have of7:=Ab hob6 7;have ol:=lt_of_block hob6;have p0:=Aa hpb6 0;have p2:=Aa hpb6 2;have pf2:=Ab hpb6 2;have pl:=lt_of_block hpb6;have k7a:Keeps (λi=>i=A) w6 (w6.setCell ⟨A,7,none⟩ (.int .i64 M)):=Keeps.setCell _ _ _ rfl;have k7b:Keeps (λi=>i=w.heap.size+1+1) (w6.setCell ⟨A,7,none⟩ (.int .i64 M)) ((w6.setCell ⟨A,7,none⟩ (.int .i64 M)).setCell ⟨w.heap.size+1+1,2,none⟩ (.int .i64 M)):=Keeps.setCell _ _ _ rfl;have hob8:=Ac ((heap_setCell_same _ _ 7 _ _ (.int .i64 M) hob6).trans rfl) k7b j1;have hpb8:=(heap_setCell_same _ _ 2 _ _ (.int .i64 M) (Ac hpb6 k7a j1)).trans rfl;have hcb8:=(hcb6.keep (k7a.mono λi _ e=> .inr (by have e':i=A:=e;omega))).keep (k7b.mono λi _ e=> .inl e);have hrow8:=k7b.row (k7a.row hrow6 (λi hi e=>Hne5.out i hi e)) (λi hi e=>by have e':i=w.heap.size+1+1:=e;have:=G2.out i hi;omega);have hln8:=k7b.row (k7a.row hln6 (λi hi e=>(Hlne.out i hi).1 e)) (λi hi e=>by have e':i=w.heap.size+1+1:=e;have:=(Hlne.out i hi).2;omega);obtain⟨W7,hW7⟩:∃W7,W7=((w6.setCell ⟨A,7,none⟩ (.int .i64 M)).setCell ⟨w.heap.size+1+1,2,none⟩ (.int .i64 M)):=⟨_,rfl⟩;rw [<-hW7] at hob8 hpb8 hcb8 hrow8 hln8;obtain⟨Hk6,Hcb6,Hpb6,Hob6,Hrow6,Hln6,K7a,K7b,Hob8⟩:=hid9 hk6 hcb6 hpb6 hob6 hrow6 hln6 k7a k7b hob8;clear hob8 k7b k7a hln6 hrow6 hob6 hpb6 hcb6 hk6;obtain⟨Hpb8,Hcb8,Hrow8,Hln8⟩:=hid4 hpb8 hcb8 hrow8 hln8;clear hln8 hrow8 hcb8 hpb8;go_wp2_with fail;rw [<-hW7];have HW7:=Lib.hid hW7;clear hW7 o7 of7 ol p0 p2 pf2 pl;refine Ak (c21S A (w.heap.size+1+1) cy fr te (te+due) (.slice av n cv) S qc M g (.slice a2 n m2) qc M) (.take 0 (.take 1 (.move 2 (.move 3 (.take 4 .done))))) j4 j4 ?_ ?_
   ·exact c21S.of (Ac Hob8.out (Keeps.drew (S:=λ_=>False) _) (by simp)) (Ac Hpb8.out (Keeps.drew (S:=λ_=>False) _) (by simp))
   intro w9 hs9 hk9;refine jR ?_;have hcb9:=Hcb8.out.keep0 hk9;have hob9:=Ac Hob8.out hk9 (by simp);have hpb9:=Ac Hpb8.out hk9 (by simp);have ra0:=Aa (hcb9).r1 0;have rb0:=Ab (hcb9).r1 0;have ra1:=Aa (hcb9).r1 1;have rb1:=Ab (hcb9).r1 1;have ra2:=Aa (hcb9).r1 2;have rb2:=Ab (hcb9).r1 2;have ra3:=Aa (hcb9).r1 3;have rb3:=Ab (hcb9).r1 3;have ra4:=Aa (hcb9).r1 4;have rb4:=Ab (hcb9).r1 4;have ra5:=Aa (hcb9).r1 5;have rb5:=Ab (hcb9).r1 5;have ra6:=Aa (hcb9).r1 6;have rb6:=Ab (hcb9).r1 6;have ra7:=Aa (hcb9).r1 7;have rb7:=Ab (hcb9).r1 7;have ra8:=Aa (hcb9).r1 8;have rb8:=Ab (hcb9).r1 8;have rc0:=Aa (hcb9).r2 0;have rd0:=Ab (hcb9).r2 0;have rc1:=Aa (hcb9).r2 1;have rd1:=Ab (hcb9).r2 1;have rc2:=Aa (hcb9).r2 2;have rd2:=Ab (hcb9).r2 2;have rl1:=lt_of_block (hcb9).r1;have rl2:=lt_of_block (hcb9).r2;obtain⟨hr10,k10⟩:=Cy hcb9.r1 (.int .i64 cy) (.int .i64 fr) (.int .i64 te) (.int .i64 (te+due)) (.slice av n cv) (.int .i64 S) (.int .i64 qc) (.int .i64 M) (.bool g);have hs10:=c21S.of (Ac hob9 k10 j1) (Ac hpb9 k10 j1);obtain⟨hr11,k11⟩:=Bb (Ac hcb9.r2 k10 j1) (.slice a2 n m2) (.int .i64 qc) (.int .i64 M);have hs11:=c21S.of (Ac (Ac hob9 k10 j1) k11 j1) (Ac (Ac hpb9 k10 j1) k11 j1);have hr10':=Ac hr10 k11 j1;have hkf:=(hcb9.kp.trans (k10.mono λi _ e=> .inr j28)).trans (k11.mono λi _ e=> .inr j29);have hln9:=k11.row (k10.row (Hln8.out.of_keeps hk9) (λi hi e=>by have e':i=w.heap.size+1+1+1:=e;have:=(Hlne.out i hi).2;omega)) (λi hi e=>by have e':i=w.heap.size+1+1+1+1:=e;have:=(Hlne.out i hi).2;omega);have hrw9:=k11.row (k10.row (Hrow8.out.of_keeps hk9) (λi hi e=>by have e':i=w.heap.size+1+1+1:=e;have:=G2.out i hi;omega)) (λi hi e=>by have e':i=w.heap.size+1+1+1+1:=e;have:=G2.out i hi;omega);have sa0:=Aa (hr10') 0;have sa1:=Aa (hr10') 1;have sa2:=Aa (hr10') 2;have sa3:=Aa (hr10') 3;have sa4:=Aa (hr10') 4;have sa5:=Aa (hr10') 5;have sa6:=Aa (hr10') 6;have sa7:=Aa (hr10') 7;have sa8:=Aa (hr10') 8;have sb0:=Aa (hr11) 0;have sb1:=Aa (hr11) 1;have sb2:=Aa (hr11) 2;obtain⟨Sa0,Sa1,Sa2,Sa3,Sa4,Sa5,Sa6,Sa7,Sa8⟩:=hid9 sa0 sa1 sa2 sa3 sa4 sa5 sa6 sa7 sa8;clear sa8 sa7 sa6 sa5 sa4 sa3 sa2 sa1 sa0;obtain⟨Sb0,Sb1,Sb2⟩:=hid3 sb0 sb1 sb2;clear sb2 sb1 sb0;obtain⟨Hcb9,Hob9,Hpb9,Hr10,K10,Hs10,Hr11,K11,Hs11⟩:=hid9 hcb9 hob9 hpb9 hr10 k10 hs10 hr11 k11 hs11;clear hs11 k11 hr11 hs10 k10 hr10 hpb9 hob9 hcb9;obtain⟨Hr10',Hkf,Hln9,Hrw9,Hk9,Hs9⟩:=hid6 hr10' hkf hln9 hrw9 hk9 hs9;clear hs9 hk9 hrw9 hln9 hkf hr10';refine j7 ?_;intro K hK;refine hK.out _ _ (by exact Hs10.out) ?_;clear hK K;refine jm ?_;intro K hK;refine hK.out _ _ (by exact Hs11.out) ?_;clear hK K;refine jg ?_;go_wp2;refine j0V ?_;intro Sa0' Sa1' Sa2' Sa3' Sa4' Sa5' Sa6' Sa7' Sa8' Sb0' Sb1' Sb2';clear ra0 ra1 ra2 ra3 ra4 ra5 ra6 ra7 ra8 rc0 rc1 rc2
   exact bodyPost_ret (v:= .tuple #[.agg #[.int .i64 cy,.int .i64 fr,.int .i64 te,.int .i64 (te+due),.slice av n cv,.int .i64 S,.int .i64 qc,.int .i64 M,.bool g],.agg #[.slice a2 n m2,.int .i64 qc,.int .i64 M],.int .i64 0]) j5S rfl
    ⟨.slice av n cv,.slice a2 n m2,by simp only [HS.out,HM.out],by simp only [HNN.out,HNl.out];exact Hln9.out,by simp only [HBn.out];exact Hrw9.out,Hkf.out,λi hi=>by have:=(Hlne.out i hi).2;omega,λi hi=>by have:=G2.out i hi;omega⟩):P:=h
theorem j3P(h:P:=by
 obtain⟨li,cy,du,mf,mp,st,L⟩:=t;simp only [Tm.val] at hr hl⊢;obtain⟨n,hn⟩:∃n,L.length=n:=⟨_,rfl⟩
 have hf0:Tm.err ⟨li,cy,du,mf,mp,st,L⟩=if(inB li 0 1000000000000000&&inB (n:Int) 1 8&&L.all Tn.okB&&(inB cy 1 28&&inB du 1 25&&inB mf 0 1000000000000000&&inB mp 0 1000&&inB st (-135140) 2922896))=true then 0 else 6:=by
  simp only [Tm.err,Tm.okB,hn]
 rw [hn] at hr hl⊢;obtain⟨ok0,hok0⟩:∃b,(inB li 0 1000000000000000&&inB (n:Int) 1 8)=b:=⟨_,rfl⟩;rw [hok0] at hf0;have hbox:=j39;obtain⟨Hr,Hf0,Hn,Hbox⟩:=hid4 hr hf0 hn hbox;clear hbox hn hf0 hr;go_enter Tryz.func51,Tryz.ntmps51
 go_upto_region 1 with(fail)
 go_cut [3] (λs3 wx=>s3= .bool ok0/\wx=w.alloc (.cells #[.int .i64 li,.slice ad n cap,.int .i64 cy,.int .i64 du,.int .i64 mf,.int .i64 mp,.int .i64 st] 24))
 case first=>
  rcases b1:inB li 0 1000000000000000 with _|_
  ·have:ok0=false:=by rw [<-hok0,b1];rfl
   subst this;exact j34
  ·by_cases l1:n<1
   ·obtain rfl:n=0:=by omega
    have:ok0=false:=by rw [<-hok0,b1];rfl
    subst this;exact j34
   ·by_cases l2:8<n
    ·have:ok0=false:=by rw [<-hok0,b1];simp [inB];omega
     subst this;have l2':(8:Int)<(n:Int):=j3;have l1':(1:Int)<=(n:Int):=j3;obtain⟨B1,Hok0⟩:=hid2 b1 hok0;clear hok0 b1
     go_wp2_with (go_at_call 101;((with_reducible refine(Au B1.out _).mono ?_);rintro e w1 ⟨rfl,rfl⟩))
     go_meet;exact⟨by simp;omega,rfl⟩
    ·have:ok0=true:=by rw [<-hok0,b1];simp [inB];omega
     subst this;have l1':(1:Int)<=(n:Int):=j3;have l2':(n:Int)<=8:=j3;exact j34
 case rest=>
  obtain⟨rfl,rfl⟩:=hcut;clear hok0;go_wp2_with fail
  go_loopw [3,4] (λb c wr=>∃(j:Nat) (ok:Bool),j<=n/\c= .int .i64 (j:Nat)/\b= .bool ok/\ok=(ok0&&(L.take j).all Tn.okB)/\Keeps (λ_=>False) w wr/\wr.heap[w.heap.size]?=some (.cells #[.int .i64 li,.slice ad n cap,.int .i64 cy,.int .i64 du,.int .i64 mf,.int .i64 mp,.int .i64 st] 24 (0,0))) (λ_ c _=>n-(intOf c).toNat)
  case atStart=>exact⟨0,ok0,Nat.zero_le _,rfl,rfl,by simp,Keeps.alloc _ _,Hbox.out⟩
  case round=>
   obtain⟨j,ok,hj,rfl,rfl,hok,hk,hb⟩:=hrel;have hbl:=lt_of_block hb;have c1:wr.cell? ⟨w.heap.size,1,none⟩=some (.slice ad n cap):=Aa hb 1;by_cases hjl:j<n
   ·obtain⟨⟨xr,xg⟩,hx⟩:=Aj (L:=L) (k:=j) (by rw [Hn.out];exact hjl);obtain⟨g,o,c,he,hc⟩:=(Hr.out.keeps hk (by simp)).elem Tn.Aq hx j2;simp only [Value.slice.injEq,true_and] at he;obtain⟨rfl,rfl⟩:=he;have x0:wr.cell? ⟨g,o+j*2,none⟩=some (.int .i64 xr):=hc 0 j2;clear hc
    have hok':(ok&&inB xr 0 10000000)=(ok0&&(L.take (j+1)).all Tn.okB):=by
     rw [take_snoc' hx,List.all_append,hok];simp [Tn.okB,Bool.and_assoc]
    cases ok with
    |false=>
     obtain⟨Hx,Hok,Hk,Hb,Hok'⟩:=hid5 hx hok hk hb hok';clear hok' hb hk hok hx;go_wp2_with fail;go_roundw
     case rel=>exact⟨j+1,false,by omega,by go_num,rfl,by rw [<-Hok'.out];rfl,Hk.out,Hb.out⟩
     case measure=>simp [intOf];omega
    |true=>
     rcases b3:inB xr 0 10000000 with _|_
     ·rw [b3] at hok';obtain⟨Hx,Hok,Hk,Hb,Hok',B3⟩:=hid6 hx hok hk hb hok' b3;clear b3 hok' hb hk hok hx
      go_wp2_with (go_at_call 101;((with_reducible refine(Au B3.out _).mono ?_);rintro e w1 ⟨rfl,rfl⟩))
      go_roundw
      case rel=>exact⟨j+1,false,by omega,by go_num,rfl,by rw [<-Hok'.out];rfl,Hk.out,Hb.out⟩
      case measure=>simp [intOf];omega
     ·rw [b3] at hok';obtain⟨Hx,Hok,Hk,Hb,Hok',B3⟩:=hid6 hx hok hk hb hok' b3;clear b3 hok' hb hk hok hx
      go_wp2_with (go_at_call 101;((with_reducible refine(Au B3.out _).mono ?_);rintro e w1 ⟨rfl,rfl⟩))
      go_roundw
      case rel=>exact⟨j+1,true,by omega,by go_num,rfl,by rw [<-Hok'.out];rfl,Hk.out,Hb.out⟩
      case measure=>simp [intOf];omega
   ·obtain rfl:j=n:=by omega
    rw [List.take_of_length_le jS] at hok;have hf1:=Hf0.out;rw [<-hok] at hf1;refine j3a ?_;intro c2 c3 c4 c5 c6
    cases ok with
    |false=>
     have hf:Tm.err ⟨li,cy,du,mf,mp,st,L⟩=6:=by rw [hf1];simp
     obtain⟨Hok,Hk,Hb,Hf,Hf1⟩:=hid5 hok hk hb hf hf1;clear hf1 hf hb hk hok;go_wp2_with fail;go_ret;exact⟨by rw [Hf.out];rfl,Hk.out⟩
    |true=>
     rw [Bool.true_and] at hf1;rcases bc:inB cy 1 28 with _|_
     ·have hf:Tm.err ⟨li,cy,du,mf,mp,st,L⟩=6:=by rw [hf1,bc];simp
      obtain⟨Hok,Hk,Hb,Hf,Hf1,Bc⟩:=hid6 hok hk hb hf hf1 bc;clear bc hf1 hf hb hk hok
      go_wp2_with (go_at_call 101;((with_reducible refine(Au Bc.out _).mono ?_);rintro e w1 ⟨rfl,rfl⟩))
      exact jD
     rcases bd:inB du 1 25 with _|_
     ·have hf:Tm.err ⟨li,cy,du,mf,mp,st,L⟩=6:=by rw [hf1,bd];simp
      obtain⟨Hok,Hk,Hb,Hf,Hf1,Bc,Bd⟩:=hid7 hok hk hb hf hf1 bc bd;clear bd bc hf1 hf hb hk hok
      go_wp2_with (first|(go_at_call 101;((with_reducible refine(Au Bc.out _).mono ?_);rintro e w1 ⟨rfl,rfl⟩))|(go_at_call 101;((with_reducible refine(Au Bd.out _).mono ?_);rintro e w1 ⟨rfl,rfl⟩)))
      exact jD
     rcases bf:inB mf 0 1000000000000000 with _|_
     ·have hf:Tm.err ⟨li,cy,du,mf,mp,st,L⟩=6:=by rw [hf1,bf];simp
      obtain⟨Hok,Hk,Hb,Hf,Hf1,Bc,Bd,Bf⟩:=hid8 hok hk hb hf hf1 bc bd bf;clear bf bd bc hf1 hf hb hk hok
      go_wp2_with (first|(go_at_call 101;((with_reducible refine(Au Bc.out _).mono ?_);rintro e w1 ⟨rfl,rfl⟩))|(go_at_call 101;((with_reducible refine(Au Bd.out _).mono ?_);rintro e w1 ⟨rfl,rfl⟩))|(go_at_call 101;((with_reducible refine(Au Bf.out _).mono ?_);rintro e w1 ⟨rfl,rfl⟩)))
      exact jD
     rcases bp:inB mp 0 1000 with _|_
     ·have hf:Tm.err ⟨li,cy,du,mf,mp,st,L⟩=6:=by rw [hf1,bp];simp
      obtain⟨Hok,Hk,Hb,Hf,Hf1,Bc,Bd,Bf,Bp⟩:=hid9 hok hk hb hf hf1 bc bd bf bp;clear bp bf bd bc hf1 hf hb hk hok
      go_wp2_with (first|(go_at_call 101;((with_reducible refine(Au Bc.out _).mono ?_);rintro e w1 ⟨rfl,rfl⟩))|(go_at_call 101;((with_reducible refine(Au Bd.out _).mono ?_);rintro e w1 ⟨rfl,rfl⟩))|(go_at_call 101;((with_reducible refine(Au Bf.out _).mono ?_);rintro e w1 ⟨rfl,rfl⟩))|(go_at_call 101;((with_reducible refine(Au Bp.out _).mono ?_);rintro e w1 ⟨rfl,rfl⟩)))
      exact jD
     rcases bs:inB st (-135140) 2922896 with _|_
     ·have hf:Tm.err ⟨li,cy,du,mf,mp,st,L⟩=6:=by rw [hf1,bs];simp
      obtain⟨Hok,Hk,Hb,Hf,Hf1,Bc,Bd,Bf,Bp⟩:=hid9 hok hk hb hf hf1 bc bd bf bp;clear bp bf bd bc hf1 hf hb hk hok;have Bs:=Lib.hid bs;clear bs
      go_wp2_with (first|(go_at_call 101;((with_reducible refine(Au Bc.out _).mono ?_);rintro e w1 ⟨rfl,rfl⟩))|(go_at_call 101;((with_reducible refine(Au Bd.out _).mono ?_);rintro e w1 ⟨rfl,rfl⟩))|(go_at_call 101;((with_reducible refine(Au Bf.out _).mono ?_);rintro e w1 ⟨rfl,rfl⟩))|(go_at_call 101;((with_reducible refine(Au Bp.out _).mono ?_);rintro e w1 ⟨rfl,rfl⟩))|(go_at_call 101;((with_reducible refine(Au Bs.out _).mono ?_);rintro e w1 ⟨rfl,rfl⟩)))
      exact jD
     have hf:Tm.err ⟨li,cy,du,mf,mp,st,L⟩=0:=by rw [hf1,bc,bd,bf,bp,bs];simp
     obtain⟨Hok,Hk,Hb,Hf,Hf1,Bc,Bd,Bf,Bp⟩:=hid9 hok hk hb hf hf1 bc bd bf bp;clear bp bf bd bc hf1 hf hb hk hok;have Bs:=Lib.hid bs;clear bs
     go_wp2_with (first|(go_at_call 101;((with_reducible refine(Au Bc.out _).mono ?_);rintro e w1 ⟨rfl,rfl⟩))|(go_at_call 101;((with_reducible refine(Au Bd.out _).mono ?_);rintro e w1 ⟨rfl,rfl⟩))|(go_at_call 101;((with_reducible refine(Au Bf.out _).mono ?_);rintro e w1 ⟨rfl,rfl⟩))|(go_at_call 101;((with_reducible refine(Au Bp.out _).mono ?_);rintro e w1 ⟨rfl,rfl⟩))|(go_at_call 101;((with_reducible refine(Au Bs.out _).mono ?_);rintro e w1 ⟨rfl,rfl⟩)))
     go_ret
     exact⟨by rw [Hf.out];rfl,Hk.out⟩):P:=h
theorem j6P(h:P:=by
 go_enter Tryz.func211,Tryz.ntmps211
 go_wp2_with (first|(go_at_call 152;(with_reducible refine(Hri.out _ ((Keeps.alloc _ _).Af)).mono ?_);rintro e w1 ⟨rfl,hk1⟩;have hkw1:=(((Keeps.alloc (S:=λ_=>False) w _).Af).nt hk1);have hb1:=Hbx.out _ hk1;obtain⟨x0,x2,x3,p0,xl,pl⟩:=hb1;have Hk1:=Lib.hid hkw1;clear hk1 hkw1)|(go_at_call 204;(with_reducible refine(Hco.out _ Hk1.out).mono ?_);rintro e w2 ⟨rfl,rfl⟩))
 go_ret
 exact⟨rfl,Hk1.out⟩):P:=h
theorem j5p(h:P:=by
 have hsuf:Reads w6 1 (.slice (some ⟨g,(j+1),none⟩) (i-(j+1)) (cap-(j+1))) (i-(j+1)) ((O.drop (j+1)).flatMap i64c):=by have:=(Reads.Ay Hrow6.out).sufL Bg (j+1) j1;rwa [Nat.zero_add,Nat.mul_one] at this
 obtain⟨Hend,Hsuf,Hkn,Hlm2⟩:=hid4 hend hsuf hkn hlm2;clear hlm2 hkn hsuf hend;refine Ak (λ_=>True) (.take 0 (.take 1 (.take 2 (.take 4 (.take 5 (.take 8 (.take 9 (.take 10 (.fork 3 (.move 6 (.move 7 (.move 11 (.take 12 .done)))) 6 (.move 3 (.move 7 (.move 11 (.take 12 .done))))))))))))) j4 j4 ?_ ?_
 ·trivial
 intro w7 hs7 hk7;refine j1n ?_;intro Hkw Hread;clear hs7 hk7;refine jR ?_;refine Bz ?_ ?_ trivial
 ·skip
  refine j6F ?_;intro K hK v2 w2 hown2 hk2 hf2 hfr2;obtain⟨ad2,c2,rfl,_,_⟩:=Ad hown2;simp only [Nat.zero_add,List.nil_append] at hown2 hfr2⊢;refine jn ?_;clear hK K;refine j5 ?_;obtain⟨Hown2,Hfr2⟩:=hid2 hown2 hfr2;clear hfr2 hown2;clear hf2 hk2;refine jR ?_;refine jj ?_;refine j6G ?_;intro K hK v3 w3 hown3 hk3 hf3 hfr3;exact j6H
 ·skip
  refine jj ?_;refine j6I ?_;intro K hK v2 w2 hown2 hk2 hf2 hfr2;obtain⟨ad2,c2,rfl,_,_⟩:=Ad hown2;refine j1o ?_;intro hbx2;simp only [Nat.zero_add,List.nil_append] at hown2 hfr2 hbx2⊢;refine jn ?_;clear hK K;refine j5 ?_;obtain⟨Hown2,Hfr2,Hbx2⟩:=hid3 hown2 hfr2 hbx2;clear hbx2 hfr2 hown2;clear hf2 hk2;refine j6J ?_;intro K hK;intro v3 w3 hown3 hk3 hf3;have hfr3:=Hfr2.out.app hk3 hf3
  exact j6H):P:=h
theorem j5X(h:P:=by
 clear hK K;refine jm ?_;intro K hK;refine hK.out _ _ j5Y ?_;clear hK K;refine ji ?_;have hrow:=hd19.out;rw [Hj.out] at hrow;refine Ae rfl (λK hK=> ?_);refine Ah rfl (.tmp 107) (.tmp 109) 36 rfl 0 58 j0 _ 9 88 Tryz.underlying36 Ht.out Ht0.out Ht1.out Ht2.out rfl j2 (.slice av j cv) j _ rfl hrow _ 1 _ rfl (Reads.litAt _ _ _ 9 1 _ jd rfl) j9 j6 j1 (Nat.zero_le _) ?_;intro v20 w20 hown20 hk20 hf20;obtain⟨a20,c20,rfl,_,_⟩:=Ad hown20;have nB:¬(Value.slice av j cv).ownBlock=some B:=Ag hrow hd19.blk j2;have h919:=Ac H918.out hk19a (by simp);have h819:=Ac H818.out hk19a (by simp);have n8:¬(Value.slice av j cv).ownBlock=some b8:=λe=>by have h1:=Bh H.out.out e;have h2:=Hk4w.out.size;have h3:=Hclo12.out.n8;omega
 have n9:¬(Value.slice av j cv).ownBlock=some b9:=Ag hrow h919 j2;have hb20:=Ac hd19.blk hk20 nB;have nB8:b8≠B:=λe=>by subst e;have h1:=Mw h819 hd19.blk j2;exact h1 rfl
 have nB9:b9≠B:=λe=>by subst e;have h1:=Mw h919 hd19.blk j2;exact h1 rfl
 have u0:=(heap_setCell_same _ _ 0 _ _ (.slice ab2 n cb2) hb20).trans rfl;have u1:=(heap_setCell_same _ _ 1 _ _ (.int .i64 q'.cr) u0).trans rfl;have u2:=(heap_setCell_same _ _ 2 _ _ (.int .i64 q'.du) u1).trans rfl;have u4:=(heap_setCell_same _ _ 4 _ _ (.slice a20 (j+1) c20) u2).trans rfl;have kP:Keeps (λi=>i=B) w20 (((w20.setCell ⟨B,0,none⟩ (.slice ab2 n cb2)).setCell ⟨B,1,none⟩ (.int .i64 q'.cr)).setCell ⟨B,2,none⟩ (.int .i64 q'.du)):=((Keeps.setCell (S:=λi=>i=B) _ _ _ rfl).trans (Keeps.setCell _ _ _ (.inl rfl))).trans (Keeps.setCell _ _ _ (.inl rfl));have kO:Keeps (λi=>i=B) w20 ((((w20.setCell ⟨B,0,none⟩ (.slice ab2 n cb2)).setCell ⟨B,1,none⟩ (.int .i64 q'.cr)).setCell ⟨B,2,none⟩ (.int .i64 q'.du)).setCell ⟨B,4,none⟩ (.slice a20 (j+1) c20)):=kP.trans (Keeps.setCell _ _ _ (.inl rfl));have hkk20:Keeps (λi=>i=B\/(Value.slice av j cv).ownBlock=some i\/(Value.slice a17 (m+mq) c17).ownBlock=some i) (w19.alloc (.cells (SV.cells ⟨x',al,cl2⟩).toArray 58)) ((((w20.setCell ⟨B,0,none⟩ (.slice ab2 n cb2)).setCell ⟨B,1,none⟩ (.int .i64 q'.cr)).setCell ⟨B,2,none⟩ (.int .i64 q'.du)).setCell ⟨B,4,none⟩ (.slice a20 (j+1) c20)):=(hk20.mono λi _ e=> .inr (.inl e)).trans (kO.mono λi _ e=> .inl (.inl e));have hpq:=hk20.row hd19.pst (λb hb e=>Cm hd19.pst hrow j2 hb e);have hz4:w4.heap.size<=w19.heap.size:=by have h1:=Hclo12.out.kp.size;have h2:=Hz18.out;have h3:=hk19.size;omega
 have hfin:DocV w0 wk B q' s.R E (.slice ab2 n cb2) (.slice ar n cr) (.slice a20 (j+1) c20) (.slice a17 (m+mq) c17) vs F (P++ [⟨x',al,cl2⟩]) (m+mq) _ _:=DocV.put2 Hadd.out hk19a hkk20 u4
  (by rw [Hql.out];exact Hadd.out.rowk hk19a hkk20 (Hbn18.out.of_keeps hk19a) j2 j2 j2)
  (by rw [List.length_append,Hj.out,List.flatMap_append];exact kO.row hown20 (λi hi e=>by have e':i=B:=e;subst e';exact Ag hown20 hb20 j2 hi))
  (λy hy=>by
   rcases List.mem_append.1 hy with hy|hy
   ·exact Hadd.out.rowk hk19a hkk20 (hd19.ln y hy) j2 j2 j2
   ·rw [List.mem_singleton.1 hy];exact Hadd.out.rowk hk19a hkk20 (Hln18.out.of_keeps hk19a) (by decide) (by decide) (by decide))
  (kO.row hpq (λi hi e=>by have e':i=B:=e;subst e';exact Ag hpq hb20 j2 hi))
  (λa ha y hy g hg e=>by have h1:=Bh (Hd4.out.i a ha y hy) hg;have h2:=Hclo12.out.ob g (by rw [Hql.out];exact e);omega)
  (λb e=>by have h1:=Hclo12.out.ob b (by rw [Hql.out];exact e);have h2:=Hd4.out.kp.size;omega)
  (λb e=>by
   rcases hf20 with h1|⟨g,h1,h2⟩
   ·exact Hd4.out.wo b (by rw [<-h1];exact e)
   ·rw [h1] at e;simp only [Option.some.injEq] at e;subst e;have h3:=Hd4.out.kp.size;have h4:w19.heap.size<=(w19.alloc (.cells (SV.cells ⟨x',al,cl2⟩).toArray 58)).heap.size:=(Keeps.alloc (S:=λ_=>False) _ _).size;exact Nat.le_trans (Nat.le_trans h3 hz4) (Nat.le_trans h4 h2))
  (λy hy b e=>by
   rcases List.mem_append.1 hy with hy|hy
   ·exact Hd4.out.wl y hy b e
   ·rw [List.mem_singleton.1 hy] at e;have h1:=Hclo12.out.ol b e;have h2:=Hd4.out.kp.size;omega)
 have z0:=Aa hb20 0;have z1:=Aa hb20 1;have z2:=Aa hb20 2;have z4:=Aa hb20 4;have y0:=Ab hb20 0;have y1:=Ab hb20 1;have y2:=Ab hb20 2;have y4:=Ab hb20 4;have zl:=lt_of_block hb20;have hs20:=(hs19.keep (S:=λ_=>False) (Keeps.alloc w19 (.cells (SV.cells ⟨x',al,cl2⟩).toArray 58)) (by simp) (by simp)).keep hk20 n8 n9;have hs21:=hs20.keep kP (λe=>nB8 e) (λe=>nB9 e);have hs22:=hs20.keep kO (λe=>nB8 e) (λe=>nB9 e);clear c4 bl hf20;obtain⟨Hrow,Hown20,Hk20,H919,H819,Hb20,U0,U1,U2⟩:=hid9 hrow hown20 hk20 h919 h819 hb20 u0 u1 u2;clear u2 u1 u0 hb20 h819 h919 hk20 hown20 hrow;obtain⟨U4,KP,KO,Hkk20,Hpq,Hz4,Hfin,Hd19,Hk19a⟩:=hid9 u4 kP kO hkk20 hpq hz4 hfin hd19 hk19a;clear hk19a hd19 hfin hz4 hpq hkk20 kO kP u4;obtain⟨Hs20,Hs21,Hs22⟩:=hid3 hs20 hs21 hs22;clear hs22 hs21 hs20;clear nB n8 n9 nB8 nB9;refine hK.out _ _ (by exact Hs20.out) ?_;clear hK K;refine jm ?_;intro K hK;refine hK.out _ _ (by exact Hs21.out) ?_;clear hK K;refine jm ?_;intro K hK;refine hK.out _ _ (by exact Hs22.out) ?_;clear hK K;refine jg ?_;clear z0 z1 z2 z4 y0 y1 y2 y4 zl;go_wp2_with fail;go_meet
 exact⟨_,_,_,_,Hfin.out,by have:=Hmq.out;omega⟩):P:=h
theorem j0x(h:P:=by
 subst hzz;obtain⟨Hr,Hz,Htm,Hsh,Hq,B0,Hn⟩:=hid7 hr hz htm hsh hq b0 hn;clear hn b0 hq hsh htm hz hr;go_enter Tryz.func232,Tryz.ntmps232;go_wp2_with fail;refine jX ?_;rintro e w1 ⟨rfl,hk1⟩;refine j0S ?_;intro hb c5 cl Hk1;have HB:=Lib.hid hb;clear hk1 hb;go_wp2_with fail;refine(Hsh.out _).mono ?_;rintro e w2 ⟨rfl,hk2⟩;have hb2:=Ac HB.out hk2 (by simp);clear c5 cl;have c4:=Aa hb2 4;have cl:=lt_of_block hb2;have Hk2:=Lib.hid (Hk1.out.nt hk2);clear hk2 hb2;go_wp2
 go_ret2
 exact⟨rfl,Hk2.out⟩):P:=h
theorem j5n(h:P:=by
 have hsuf:Reads w6 1 (.slice (some ⟨g,0,none⟩) 0 0) (0) ((O.drop (j+1)).flatMap i64c):=by rw [List.drop_eq_nil_of_le (by rw [Hlen.out];exact Nat.le_refl _)];exact Reads.Ph (by simp)
 obtain⟨Hend,Hsuf,Hkn,Hlm2⟩:=hid4 hend hsuf hkn hlm2;clear hlm2 hkn hsuf hend;refine Ak (λ_=>True) (.take 0 (.take 1 (.take 2 (.take 4 (.take 5 (.take 8 (.take 9 (.take 10 (.fork 3 (.move 6 (.move 7 (.move 11 (.take 12 .done)))) 6 (.move 3 (.move 7 (.move 11 (.take 12 .done))))))))))))) j4 j4 ?_ ?_
 ·trivial
 intro w7 hs7 hk7;refine j1n ?_;intro Hkw Hread;clear hs7 hk7;refine jR ?_;refine Bz ?_ ?_ trivial
 ·skip
  refine j6F ?_;intro K hK v2 w2 hown2 hk2 hf2 hfr2;obtain⟨ad2,c2,rfl,_,_⟩:=Ad hown2;simp only [Nat.zero_add,List.nil_append] at hown2 hfr2⊢;refine jn ?_;clear hK K;refine j5 ?_;obtain⟨Hown2,Hfr2⟩:=hid2 hown2 hfr2;clear hfr2 hown2;clear hf2 hk2;refine jR ?_;refine jj ?_;refine j6G ?_;intro K hK v3 w3 hown3 hk3 hf3 hfr3;exact j6K
 ·skip
  refine jj ?_;refine j6I ?_;intro K hK v2 w2 hown2 hk2 hf2 hfr2;obtain⟨ad2,c2,rfl,_,_⟩:=Ad hown2;refine j1o ?_;intro hbx2;simp only [Nat.zero_add,List.nil_append] at hown2 hfr2 hbx2⊢;refine jn ?_;clear hK K;refine j5 ?_;obtain⟨Hown2,Hfr2,Hbx2⟩:=hid3 hown2 hfr2 hbx2;clear hbx2 hfr2 hown2;clear hf2 hk2;refine j6J ?_;intro K hK;intro v3 w3 hown3 hk3 hf3;have hfr3:=Hfr2.out.app hk3 hf3
  exact j6K):P:=h
theorem j4c(h:P:=by
 go_enter Tryz.func218,Tryz.ntmps218;go_wp2_with fail;refine(Hri.out _ j8).mono ?_;rintro e w1 ⟨rfl,hk1⟩;refine j21 ?_;intro hkw hb1 hrs b0 b1 b2 bl;have hS3:=j0e;obtain⟨hb9,k9⟩:=hS3;refine jM ?_;intro r0 r1 r2 rf0 rf1 rf2 rl;refine jo ?_;intro sr0 sr1 sr2;obtain⟨Hrs,Hb9,K9,Sr0,Sr1,Sr2⟩:=hid6 hrs hb9 k9 sr0 sr1 sr2;clear sr2 sr1 sr0 k9 hb9 hrs;obtain⟨Hk1,Hkw,Hb1⟩:=hid3 hk1 hkw hb1;clear hb1 hkw hk1
 go_wp2_with (go_at_call 204;(with_reducible refine(Hco.out _ Hkw.out).mono ?_);rintro e w2 ⟨rfl,rfl⟩)
 refine ja ?_;intro R0' R1' R2';clear r0 r1 r2
 exact bodyPost_ret (v:= .tuple #[.agg #[.slice none 0 0,.int .i64 0,.int .i64 0],.int .i64 1]) j23 rfl ⟨_,rfl,⟨by simp [ps0],.inl ⟨rfl,rfl⟩⟩,Hkw.out.trans (K9.out.mono λi _ e=> .inr jq),λg hg=>by simp [Value.ownBlock] at hg⟩):P:=h
theorem j4Y(h:P:=by
 have r0:=Aa hbx5 0;have r1:=Aa hbx5 1;have r2:=Aa hbx5 2;have rf0:=Ab hbx5 0;have rf1:=Ab hbx5 1;have rf2:=Ab hbx5 2;have rl:=lt_of_block hbx5;obtain⟨hbx6,k6⟩:=Bb hbx5 (.slice a5 q.bal.length c5) (.int .i64 q.cr) (.int .i64 q.du);have k2W:Keeps (λ_=>False) w2 (((w6.setCell ⟨b4,0,none⟩ (.slice a5 q.bal.length c5)).setCell ⟨b4,1,none⟩ (.int .i64 q.cr)).setCell ⟨b4,2,none⟩ (.int .i64 q.du)):=k26.trans (k6.mono λi _ e=> .inr (by have e':i=b4:=e;omega));have hrb6:=k6.row hrb5 (λi hi e=>by have e':i=b4:=e;exact hneb i hi e');have hrr6:=k6.row hrr5 (λi hi e=>by have e':i=b4:=e;exact hner i hi e');have hkA6:=hk2.nt k2W;refine j7 ?_;intro K hK;refine hK.out _ _ (by exact hs2.keep k2W) ?_;clear hK K;refine jg ?_;clear r0 r1 r2 rf0 rf1 rf2 rl;obtain⟨W6,hW6⟩:∃x,x=(((w6.setCell ⟨b4,0,none⟩ (.slice a5 q.bal.length c5)).setCell ⟨b4,1,none⟩ (.int .i64 q.cr)).setCell ⟨b4,2,none⟩ (.int .i64 q.du)):=⟨_,rfl⟩;rw [<-hW6] at hkA6 hrb6 hrr6 hbx6⊢;clear hW6 k6 k2W hneb hner hrb5 hrr5 hbx5 k26 hs2 hk2;have hkq6:=Hk1x.out.nt hkA6;have hrv6:=Hrv.out.keep0 hkq6;by_cases hz0:z=0
 ·subst hz0;obtain⟨ok1,ok2,_,_⟩:=Hok.out rfl;simp only at ok1 ok2;have hev2:=Hev.out;rw [if_pos rfl] at hev2;have hq1:q.bal.length=n:=by rw [ok1];exact Hrv.out.nb
  have hq2:R'.length=n:=by rw [ok2];exact Hrv.out.nr
  rw [hq1] at hrb6 hbx6 hgb6⊢;rw [hq2] at hrr6 hgr6⊢;have hset:=Hrv.out.setP hkq6 hrb6 hrr6 hq1 hq2 hgb6 hgr6;have hset2:=hset.setI (i+1);have t0:=Aa hbx6 0;have t1:=Aa hbx6 1;have t2:=Aa hbx6 2;have tl:=lt_of_block hbx6;have b8:=Aa hrv6.blk 8;have b10:=Aa hrv6.blk 10;have b11:=Aa hrv6.blk 11;have b12:=Aa hrv6.blk 12;have b13:=Aa hrv6.blk 13;have b17:=Aa hrv6.blk 17;have q8:=Ab hrv6.blk 8;have q10:=Ab hrv6.blk 10;have q11:=Ab hrv6.blk 11;have q12:=Ab hrv6.blk 12;have q13:=Ab hrv6.blk 13;have bl:=lt_of_block hrv6.blk;have hil:(i:Int)+1<=1000000:=j3;have hnil2:=Hnil.out;obtain⟨W8,hW8⟩:∃x,x=(((((W6.setCell ⟨B,10,none⟩ (.slice a5 n c5)).setCell ⟨B,11,none⟩ (.int .i64 q.cr)).setCell ⟨B,12,none⟩ (.int .i64 q.du)).setCell ⟨B,13,none⟩ (.slice a6 n c6)).setCell ⟨B,8,none⟩ (.int .i64 ((i+1:Nat):Int))):=⟨_,rfl⟩;rw [<-hW8] at hset2;rw [show((i+1:Nat):Int)=(i:Int)+1 by omega] at hW8;have hci8:Ci W8 B 8=((i+1:Nat):Int):=Cq (Aa hset2.blk 8);obtain⟨HkA6,Hrb6,Hrr6,Hbx6,Hkq6,Hrv6,Hset,Hset2,Hev2⟩:=hid9 hkA6 hrb6 hrr6 hbx6 hkq6 hrv6 hset hset2 hev2;clear hev2 hset2 hset hrv6 hkq6 hbx6 hrr6 hrb6 hkA6;obtain⟨Hgb6,Hgr6,Hci8,Hnil2,Ok1,Ok2,Hq1,Hq2,Hb4n⟩:=hid9 hgb6 hgr6 hci8 hnil2 ok1 ok2 hq1 hq2 hb4n;clear hb4n hq2 hq1 ok2 ok1 hnil2 hci8 hgr6 hgb6;have hnil2:=Hnil.out;go_wp2;rw [<-hW8];clear hW8;go_roundw
  case rel=>exact⟨i+1,q,R',_,_,rfl,by omega,Hev2.out,Hset2.out⟩
  case measure=>rw [Hci.out,Hci8.out];omega
 ·have hev2:=Hev.out;rw [if_neg hz0] at hev2;have hz1:(z !=0)=true:=by simp [hz0]
  subst hev2;obtain⟨HkA6,Hrb6,Hrr6,Hbx6,Hkq6,Hrv6,Hgb6,Hgr6,Hz0⟩:=hid9 hkA6 hrb6 hrr6 hbx6 hkq6 hrv6 hgb6 hgr6 hz0;clear hz0 hgr6 hgb6 hrv6 hkq6 hbx6 hrr6 hrb6 hkA6;have Hb4n:=Lib.hid hb4n;clear hb4n;go_wp2;go_ret
  exact⟨rfl,_,_,Hrv6.out⟩):P:=h
theorem j0E(h:P:=by
 intro v4 w4 hown4 hk4 hf4;have hfr4:=Hfr3.out.app hk4 hf4;have hpost:=Hend.out v4 w4 hown4 hfr4;obtain⟨ad4,c4,rfl,_,_⟩:=Ad hown4;refine hK.out _ _ (by exact HbS.out _ hfr4.1) ?_;clear hK K;refine j5 ?_;have Hpost:=Lib.hid hpost;clear hpost;clear hown4 hk4 hf4 hfr4;refine jf ?_;go_wp2_with fail;go_ret
 exact Hpost.out):P:=h
theorem j1W(h:P:=by
 subst hzz;obtain⟨Hr,Hz,Htm,Hsh,Hq,B0,Hn⟩:=hid7 hr hz htm hsh hq b0 hn;clear hn b0 hq hsh htm hz hr;go_enter Tryz.func219,Tryz.ntmps219;go_wp2_with fail;refine Bi 0 rfl ?_;go_wp2_with fail;refine jX ?_;rintro e w1 ⟨rfl,hk1⟩;refine j0S ?_;intro hb c5 cl Hk1;clear hk1 hb;go_wp2_with fail;refine(Hsh.out _).mono ?_;rintro e w2 ⟨rfl,hk2⟩;have Hk2:=Lib.hid (Hk1.out.nt hk2);clear hk2;go_wp2;refine Bu ?_
 exact bodyPost_ret (v:= .tuple #[.int .i64 total,.int .i64 0]) j1X rfl ⟨rfl,Hk2.out⟩):P:=h
theorem j33(h:P:=by
 by_cases hB:fin<b/\mid<fin
 ·have hB1:(mid:Int)<(fin:Int):=j3;have hB2:(fin:Int)<(b:Int):=j3
  have hcB:=Ih.out mid fin b n cap g Y w3 j1 Hrow3.out j1 j1 hbn (λx hx=>Hok.out x (Hrot.out.t.alike.mem (HtY.out.alike.mem hx))) hn
   ((Hrr.out.1.eq λt h1 h2=>HtY.out.out t (.inr h1))) ((Hrr.out.2.eq λt h1 h2=>HtY.out.out t (.inr j1)))
  have HcB:=Lib.hid hcB;clear hcB
  go_wp2_with (go_at_call 253;(with_reducible refine HcB.out.mono ?_);rintro e w4 ⟨rfl,Z,htZ,huZ,hrow4,hk4⟩;have HtZ:=Lib.hid htZ;have HuZ:=Lib.hid huZ;have Hrow4:=Lib.hid hrow4;have Hk4:=Lib.hid hk4;clear htZ huZ hrow4 hk4)
  go_end0;have hd:=Be (X:=X) j1 j1 (by have:=Hrot.out.t.len;omega) Hcr.out HtY.out HuY.out HtZ.out HuZ.out;exact⟨rfl,Z,Hrot.out.t.trans hd.1,hd.2,Hrow4.out,Hk3.out.same Hk4.out⟩
 ·have huZ:Upto Y mid b:=by
   have e1:=Hrr.out;by_cases hB3:mid<fin
   ·exact(e1.1.sub (Nat.le_refl _) j1).eq λt h1 h2=>HtY.out.out t (.inr h1)
   ·exact(e1.2.sub j1 (Nat.le_refl _)).eq λt h1 h2=>HtY.out.out t (.inr h1)
  have HuZ:=Lib.hid huZ;clear huZ;by_cases hB3:(mid:Int)<(fin:Int)
  ·have hB4:¬(fin:Int)<(b:Int):=j3;exact j6L
  ·exact j6L):P:=h
theorem j1V(h:P:=by
 go_ret
 exact⟨rfl,Keeps.nt j8 Hk1.out⟩):P:=h
theorem j4E(h:P:=by
 rw [Hp.out] at hmono;have hcl:=j2k;simp only at hcl;obtain⟨Hbs,Hrow,Hk,Hx,Hy,Okx,Oky,HS,Hxd⟩:=hid9 hbs hrow hk hx hy okx oky hS hxd;clear hxd hS oky okx hy hx hk hrow hbs;obtain⟨Hyd,Hmono,Hcl,Hq⟩:=hid4 hyd hmono hcl hq;clear hq hcl hmono hyd;go_wp2_with fail
 try rw [hh]
 clear hh;by_cases hlt2:x1<y1
 ·skip
  refine Ak (twoS g q h x0 x1 x2 x3 x4 y0 y1 y2 y3 y4) (.take 0 (.take 1 (.take 2 (.take 3 (.take 4 (.take 5 (.take 6 (.take 7 (.take 8 (.take 9 (.take 10 (.move 11 (.take 12 (.take 13 .done)))))))))))))) j4 j4 ?_ ?_
  ·exact HS.out
  intro w1 hs1 hk1;refine je ?_;intro K hK
  go_at_fn f
  ((with_reducible refine(Hcl.out w1).mono ?_);rintro e w2 ⟨z,rfl,hz,hk2⟩;dsimp only)
  have hz':z<0:=hz.2 hlt2;refine j03 ?_;clear hK K;refine j04 ?_;intro hrow2 hkw;have hb2:=Hbs.out.down Hmono.out hih hhj (by rw [Hq.out,Hxd.out,Hyd.out];omega);exact j6M
 ·skip
  refine Ak (twoS g q h x0 x1 x2 x3 x4 y0 y1 y2 y3 y4) (.take 0 (.take 1 (.take 2 (.take 3 (.take 4 (.take 5 (.take 6 (.take 7 (.take 8 (.take 9 (.take 10 (.move 11 (.take 12 (.take 13 .done)))))))))))))) j4 j4 ?_ ?_
  ·exact HS.out
  intro w1 hs1 hk1;refine je ?_;intro K hK
  go_at_fn f
  ((with_reducible refine(Hcl.out w1).mono ?_);rintro e w2 ⟨z,rfl,hz,hk2⟩;dsimp only)
  have hz':¬z<0:=λh=>by have:=hz.1 h;omega
  refine j03 ?_;clear hK K;refine j04 ?_;intro hrow2 hkw;have hb2:=Hbs.out.up Hmono.out hih hhj (by rw [Hq.out,Hxd.out,Hyd.out];omega)
  exact j6N):P:=h
theorem j1k(h:P:=by
 obtain rfl:z=false:=hz.symm.trans hf;obtain⟨Hf,Hz,Hr,HN⟩:=hid4 hf hz hr hN;clear hN hr hz hf;go_enter Tryz.func173,Tryz.ntmps173
 go_wp2_with (first|(go_at_call 220;(with_reducible refine(Bl m1 _).mono ?_);rintro e w1 ⟨rfl,rfl⟩)|(go_at_call 220;(with_reducible refine(Bl m2 _).mono ?_);rintro e w1 ⟨rfl,rfl⟩))
 go_ret
 exact⟨rfl,Keeps.alloc w _⟩):P:=h
theorem j0b(h:P:=by
 have hf:Ps.Ar ⟨L,cr,du⟩=false:=by unfold Ps.Ar;simp only [hsc,hN,hs, *,decide_true,decide_false,Bool.and_true,Bool.true_and,Bool.false_and,Bool.and_false,Bool.or_true,Bool.true_or,Bool.or_false,Bool.or_self]
 obtain rfl:z=false:=Hz.out.symm.trans hf
 exact j6O):P:=h
theorem j2Q(h:P:=by
 have hA:=HA.out;unfold Ch at hA;rw [hmay,if_neg j2] at hA;subst hA;have hS3:=Bb Hab1.out.r (.slice none 0 0) (.int .i64 0) (.int .i64 0);obtain⟨hb9,k9⟩:=hS3;have hkf:=Hab1.out.kp.trans (k9.mono λi _ e=> .inr j0k);have r0:=Aa Hab1.out.r 0;have r1:=Aa Hab1.out.r 1;have r2:=Aa Hab1.out.r 2;have rf0:=Ab Hab1.out.r 0;have rf1:=Ab Hab1.out.r 1;have rf2:=Ab Hab1.out.r 2;have rl:=lt_of_block Hab1.out.r;refine jo ?_;intro sr0 sr1 sr2;clear p0 pl e2;obtain⟨Hmay,Hb9,K9,Hkf,Sr0,Sr1,Sr2⟩:=hid7 hmay hb9 k9 hkf sr0 sr1 sr2;clear sr2 sr1 sr0 hkf k9 hb9 hmay;go_wp2;refine ja ?_;intro R0' R1' R2';clear r0 r1 r2
 exact bodyPost_ret (v:= .tuple #[.agg #[.slice none 0 0,.int .i64 0,.int .i64 0],.slice none 0 0,.int .i64 1]) j1w rfl ⟨_,_,rfl,World.ownsRow_nil _ _ _ _,World.ownsRow_nil _ _ _ _,Hkf.out,by simp [Value.ownBlock],by simp [Value.ownBlock]⟩):P:=h
theorem jz(h:P:=by
 first|exact⟨congrArg Value.bool (decide_eq_false j1).symm,rfl⟩|exact⟨congrArg Value.bool ((show _=false by simp;omega).trans (decide_eq_false j1).symm),rfl⟩):P:=h
theorem j6A(h:P:=by
 obtain⟨Hat,Hkq,Hmap,Hlen,Hpl,Hrow,Hlt,HZ4,Hrd4⟩:=hid9 hat hkq hmap hlen hpl hrow hlt hZ4 hrd4;clear hrd4 hZ4 hlt hrow hpl hlen hmap hkq hat;have Hnb:=Lib.hid hnb;clear hnb;have t0:=Aa (Hat.out.h3) 0;have t1:=Aa (Hat.out.h3) 1;have t2:=Aa (Hat.out.h3) 2;have t3:=Aa (Hat.out.h3) 3;have t4:=Aa (Hat.out.h3) 4;have t5:=Aa (Hat.out.h3) 5;have t6:=Aa (Hat.out.h3) 6;have tl:=lt_of_block (Hat.out.h3);have s0:=Aa (Hat.out.h2) 0;have s1:=Aa (Hat.out.h2) 1;have s2:=Aa (Hat.out.h2) 2;have s3:=Aa (Hat.out.h2) 3;have s4:=Aa (Hat.out.h2) 4;have s5:=Aa (Hat.out.h2) 5;have s6:=Aa (Hat.out.h2) 6;have sl:=lt_of_block (Hat.out.h2);have f0:=Ab (Hat.out.h2) 0;have f1:=Ab (Hat.out.h2) 1;have f2:=Ab (Hat.out.h2) 2;have f3:=Ab (Hat.out.h2) 3;have f4:=Ab (Hat.out.h2) 4;have f5:=Ab (Hat.out.h2) 5;have f6:=Ab (Hat.out.h2) 6;obtain⟨hb5,hk5⟩:=Pp (Hat.out.h2) (.int .i64 ul) (.slice av i cv) (.int .i64 (1+uc)) (.int .i64 (1+ud)) (.int .i64 uf) (.int .i64 up) (.int .i64 (10957+q));have hkz:=(Hkq.out).trans (hk5.mono λi _ e=> .inr (by have e':i=B+1:=e;have:=HBe.out;omega));have hrz:Reads _ 2 (.slice av i cv) Z.trs.length (Z.trs.flatMap Tn.cells):=(by rw [<-HZ4.out];exact Hrd4.out.keeps hk5 (λg hg e=>by have e':g=B+1:=e;subst e';exact Hnb.out hg));obtain⟨Hb5,Hk5,Hkz,Hrz⟩:=hid4 hb5 hk5 hkz hrz;clear hrz hkz hk5 hb5;go_wp2;clear s0 s1 s2 s3 s4 s5 s6;have r0:=Aa (Hb5.out) 0;have r1:=Aa (Hb5.out) 1;have r2:=Aa (Hb5.out) 2;have r3:=Aa (Hb5.out) 3;have r4:=Aa (Hb5.out) 4;have r5:=Aa (Hb5.out) 5;have r6:=Aa (Hb5.out) 6
 exact bodyPost_ret (v:= .agg #[.int .i64 ul,.slice av i cv,.int .i64 (1+uc),.int .i64 (1+ud),.int .i64 uf,.int .i64 up,.int .i64 (10957+q)]) j32 rfl ⟨.slice av i cv,by rw [<-HZ4.out],Hrz.out,Hkz.out,.inr (λg hg=>Nat.le_trans Hk2.out.size (Hat.out.nw g hg))⟩):P:=h
theorem j60(h:P:=by
 have Hb:=Lib.hid hb;clear hb;go_wp2_with fail;refine(Hri.out _ Hst.out.kp _ Hb.out).mono ?_;rintro e w1 ⟨rfl,hk1⟩;clear p0 p1 p2 pl;have hbx1:=Ac Hpb.out hk1 (by simp);have heb1:=Ac Hst.out.e hk1 (by simp);have p0:=Aa hbx1 0;have pl:=lt_of_block hbx1;have e0:=Aa heb1 0;have el:=lt_of_block heb1;obtain⟨Hk1,Hbx1,Heb1⟩:=hid3 hk1 hbx1 heb1;clear heb1 hbx1 hk1
 exact j5Z):P:=h
theorem j4F(h:P:=by
 obtain⟨fin,hfin⟩:∃fin,mid+m-j=fin:=⟨_,rfl⟩;rw [hfin] at hsym;have z1:=hsym.al;have z2:=hsym.sm;have z3:=hsym.mf;have z4:=hsym.fb;have z5:=hsym.smid;have z6:=hsym.midf;have z7:=hsym.sum;have hfI:(mid:Int)+m-j=fin:=j3;obtain⟨W1,hW1⟩:∃x,x=wr:=⟨_,rfl⟩;subst hW1;obtain⟨Hbs,Hrow,Hk,Hsym,Hfin⟩:=hid5 hbs hrow hk hsym hfin;clear hfin hsym hk hrow hbs;by_cases hR:j<m/\m<fin
 ·have hR1:(j:Int)<(m:Int):=j3;have hR2:(m:Int)<(fin:Int):=j3;obtain⟨X,hrot,hcR⟩:=Vi (.func (.func f) #[] #[]) Hrow.out Hsym.out hR.1 hR.2 hn hbn;obtain⟨Hrot,HcR⟩:=hid2 hrot hcR;clear hcR hrot
  go_wp2_with (go_at_call 282;(with_reducible refine HcR.out.mono ?_);rintro e w2 ⟨rfl,hrow2,hk2⟩;have Hrow2:=Lib.hid hrow2;have Hk2:=Lib.hid (Hk.out.same hk2);clear hrow2 hk2;refine halt ?_)
  refine Lib.hid ?_;exact j35
 ·have hrot:=Vh Hsym.out j1;obtain⟨X,hX⟩:∃X,X=L:=⟨_,rfl⟩;obtain⟨w2,hw2⟩:∃w2,w2=W1:=⟨_,rfl⟩;have hrot':Rot L X a m b mid j fin:=by rw [hX];exact hrot
  have hrow2:RowE w2 g n cap X:=by rw [hX,hw2];exact Hrow.out
  have hk2:Keeps (λi=>i=g) w w2:=by rw [hw2];exact Hk.out
  have Hrot:=Lib.hid hrot';clear hrot hrot';rw [<-hw2];obtain⟨Hrow2,Hk2,HX,Hw2⟩:=hid4 hrow2 hk2 hX hw2;clear hw2 hX hk2 hrow2;by_cases hR3:(j:Int)<(m:Int)
  ·have hR4:¬(m:Int)<(fin:Int):=j3;exact j35
  ·skip
   exact j35):P:=h
theorem jv(h:P:=by
 go_wp2
 exact j1F):P:=h
theorem j02(h:P:=by
 have hr':=Hr.out;have hr2':=Hr2.out;simp only [*,decide_true,decide_false,Bool.and_true,Bool.and_false,Bool.true_and,Bool.false_and] at hr' hr2';subst hr' hr2';go_wp2;go_ret
 exact⟨rfl,Hpost.out.1,_,Hpost.out.2⟩):P:=h
theorem j5E(h:P:=by
 obtain⟨Hk,HN,Hx,Hy,Hsn,Hmul,Hp,HA,HB⟩:=hid9 hk hN hx hy hsn hmul hp hA hB;clear hB hA hp hmul hsn hy hx hN hk;obtain⟨HHi,HLo,HS,HM2,HM3,HM4⟩:=hid6 hHi hLo hS hM2 hM3 hM4;clear hM4 hM3 hM2 hS hLo hHi;clear pb;go_wp2_with fail;refine Ak (exS g1 (o1+k) g2 (o2+k) x y) (.take 0 (.take 1 (.take 2 (.take 3 (.take 4 (.take 5 (.take 6 (.take 7 (.take 8 (.take 9 (.take 10 (.take 11 (.take 12 (.take 13 (.take 14 (.take 15 .done)))))))))))))))) j4 j4 ?_ ?_
 ·exact HS.out
 intro w1 hs1 hk1;refine jR ?_;refine Jn (v:= ?_) rfl (by rfl) ?_ ?_ ?_ ?_ ?_
 rotate_left 3
 ·exact j3O
 ·intro w' hSw;exact(Hmul.out _)
 rotate_right 3
 try simp only [aps]
 refine jf ?_;have Hk1:=jW;clear hk1 hs1;go_wp2;go_roundw
 case rel=>exact⟨k+1,N+p,by rw [HM4.out],by rw [HM3.out],by go_num,by omega,Hsn.out,Hk1.out⟩
 case measure=>simp [intOf];omega):P:=h
theorem j3Z(h:P:=by
 rcases Int.lt_trichotomy total mf with m2|m2|m2
 ·rw [show minI total mf=total by unfold minI;rw [if_pos j1]] at hzz;exact j1W
 ·exact j3Y
 ·rw [show minI total mf=mf by unfold minI;rw [if_neg j1]] at hzz;subst hzz;obtain⟨Hr,Hz,Htm,Hsh,Hq,B0,Hn⟩:=hid7 hr hz htm hsh hq b0 hn;clear hn b0 hq hsh htm hz hr;go_enter Tryz.func219,Tryz.ntmps219;go_wp2_with fail;refine Bi 0 rfl ?_;go_wp2_with fail;refine jX ?_;rintro e w1 ⟨rfl,hk1⟩;refine j0S ?_;intro hb c5 cl Hk1;clear hk1 hb;go_wp2_with fail;refine(Hsh.out _).mono ?_;rintro e w2 ⟨rfl,hk2⟩;have Hk2:=Lib.hid (Hk1.out.nt hk2);clear hk2;go_wp2;refine Bu ?_
  exact bodyPost_ret (v:= .tuple #[.int .i64 mf,.int .i64 0]) j1X rfl ⟨rfl,Hk2.out⟩):P:=h
theorem jt(h:P:=by
 have Hm:=Lib.hid hm;clear hm;go_enter Tryz.func234,Tryz.ntmps234
 exact jE):P:=h
theorem ju(h:P:=by
 have Hm:=Lib.hid hm;clear hm;go_enter Tryz.func245,Tryz.ntmps245
 exact jE):P:=h
theorem j6T(h:P:=by
 intro v4 w4 hown4 hk4 hf4;have hfr4:=Hfr3.out.app hk4 hf4;have hpost:=Hend.out v4 w4 hown4 hfr4;obtain⟨ad4,c4,rfl,_,_⟩:=Ad hown4;refine jn ?_;clear hK K;refine j5 ?_;have Hpost:=Lib.hid hpost;clear hpost;clear hown4 hk4 hf4 hfr4;refine jf ?_;go_wp2_with fail;rw [Hlm2.out] at Hpost
 try rw [Hlm2.out]
 go_roundw
 case rel=>exact⟨i+1,_,rfl,by go_num,by omega,λh=>by omega,Hpost.out⟩
 case measure=>simp [intOf];omega):P:=h
theorem jx(h:P:=by
 exact⟨congrArg Value.bool (decide_eq_true j1).symm,rfl⟩):P:=h
theorem j6K(h:P:=by
 obtain⟨ad3,c3,rfl,_,_⟩:=Ad hown3;refine jn ?_;clear hK K;refine j5 ?_;obtain⟨Hown3,Hfr3⟩:=hid2 hown3 hfr3;clear hfr3 hown3;clear hf3 hk3;refine jk ?_;intro K hK;refine Ah rfl (.tmp 66) (.tmp 69) 267 rfl 0 3 i0 _ 1 8 Tryz.underlying267 Hi.out Hi0.out Hi1.out Hi2.out rfl j2 _ ((j+1)+1) _ rfl Hown3.out (.slice (some ⟨g,0,none⟩) 0 0) (0) _ rfl (Hsuf.out.keeps Hfr3.out.1 (by simp)) (Bo _) j6 j1 (Nat.zero_le _) ?_;intro v4 w4 hown4 hk4 hf4;have hfr4:=Hfr3.out.app hk4 hf4;have hpost:=Hend.out v4 w4 hown4 hfr4;obtain⟨ad4,c4,rfl,_,_⟩:=Ad hown4;refine jn ?_;clear hK K;refine j5 ?_;have Hpost:=Lib.hid hpost;clear hpost;clear hown4 hk4 hf4 hfr4;refine jf ?_;go_wp2_with fail;rw [Hlm2.out] at Hpost
 try rw [Hlm2.out]
 go_roundw
 case rel=>exact⟨(j+1)+1,_,rfl,by go_num,by omega,λh=>by omega,Hpost.out⟩
 case measure=>simp [intOf];omega):P:=h
theorem j1Q(h:P:=by
 go_wp2_with fail;refine(Hri.out _ j8).mono ?_;rintro e w1 ⟨rfl,hk1⟩;have Hk1:=j1q;clear hk1
 exact j0m):P:=h
theorem j0G(h:P:=by
 have hf:Tm.err ⟨li,cy,du,mf,mp,st,L⟩=6:=by rw [hf1,hz];simp
 obtain⟨Hok,Hk,Hb,Hall,Hf,Hf1,Hz⟩:=hid7 hok hk hb hall hf hf1 hz;clear hz hf1 hf hall hb hk hok;go_wp2_with fail;go_step3;go_wp2;refine Bn ?_;go_wp2;rw [Exit.noGoto_ret]
 exact jD):P:=h
theorem j30(h:P:=by
 have hkw:=(Ff t (.slice adt n ct) tr _ w).trans (hk.mono λi _ e=> .inr (hI.gl i e).1);have hzI:(R.2 !=0)=true:=by simp [hz]
 obtain⟨Hz,HI,Hk,Hkw⟩:=hid4 hz hI hk hkw;clear hkw hk hI hz;go_wp2_with fail
 exact bodyPost_ret (v:= .tuple #[.slice none 0 0,.int .i64 R.2]) j1D rfl (.inr ⟨R.2,Hz.out,by rw [if_neg Hz.out],λh=>absurd h Hz.out,rfl,Hkw.out.Af⟩)):P:=h
theorem jO(h:P:=by
 obtain rfl:z=false:=by rw [<-Hz.out];simp [mayA,Hbr.out,Hmn.out,HN.out, *]
 exact j6P):P:=h
theorem j4A(h:P:=by
 subst h;have hla:=Hlate.out;rw [h5] at hla;obtain⟨Hall,Hk,Hkw,He,HoE,HoV,Hof2,H5,Hla⟩:=hid9 hall hk hkw he hoE hoV hof2 h5 hla;clear hla h5 hof2 hoV hoE he hkw hk hall;go_wp2_with fail;refine(Hof2.out _).mono ?_;rintro e w3 ⟨rfl,hk3⟩;have hkw3:=Hkw.out.nt hk3;have htd3:=Htb.out _ ((Hk1.out.nt Hk.out).nt hk3);clear b0 b1 b2 b3 b4 b5 b6 bbl d0 dl;obtain⟨tb,d0⟩:=htd3;obtain⟨b0,b1,b2,b3,b4,b5,b6⟩:=tb;have bbl:=Ai b0;have dl:=Ai d0;obtain⟨Hk3,Hkw3⟩:=hid2 hk3 hkw3;clear hkw3 hk3;go_wp2_with fail;refine(Hla.out _ d0 Hkw3.out).mono ?_;rintro e w4 ⟨rfl,hk4⟩;have Hk4:=Lib.hid (Hkw3.out.nt hk4);clear hk4;go_wp2;go_ret
 exact⟨rfl,Hk4.out⟩):P:=h
theorem j3s(h:P:=by
 go_wp2_with (first|(go_at_call 200;(with_reducible refine(Bq m3 _).mono ?_);rintro e w1 ⟨rfl,rfl⟩)|(go_at_call 200;(with_reducible refine(Bq m4 _).mono ?_);rintro e w1 ⟨rfl,rfl⟩))
 exact j0O):P:=h
theorem j6a(h:P:=by
 have hDc:=hstop.2 h2;subst h2;subst hDc;have h:=HE'.out;rw [if_neg j1] at h;subst h;have h:=HV'.out;rw [if_pos rfl] at h;subst h;clear hstop;obtain⟨Hdt,HD,Hd,Hk⟩:=hid4 hdt hD hd hk;clear hk hd hD hdt;go_wp2_with fail;refine Hdt.out.mono ?_;rintro e w1 ⟨rfl,hk1⟩;have Hk1:=Lib.hid (Hk.out.nt hk1);clear hk1;go_wp2
 exact bodyPost_ret (v:= .tuple #[.int .i64 n,.int .i64 0]) j1x rfl ⟨rfl,Hk1.out.nt j8⟩):P:=h
theorem j3k(h:P:=by
 cases e with
 |normal=>exact⟨.normal,a₁,w₁,hq,Steps.trans harr (.one step_inScope)⟩
 |exit id=>exact⟨.exit id,a₁,w₁,hq,λk' hk=>harr k' (by simp [exitTo,hk])⟩
 |goto l'=>
  rcases hq with⟨rfl,hJ',hlt⟩|⟨rfl,hJ',hlt⟩
  ·obtain⟨e₂,a₂,w₂,hq₂,harr₂⟩:=(ih _ j1).1 a₁ w₁ rfl hJ';exact⟨e₂,a₂,w₂,hq₂,.of_steps (harr _ hg1) harr₂⟩
  ·obtain⟨e₂,a₂,w₂,hq₂,harr₂⟩:=(ih _ j1).2 a₁ w₁ rfl hJ';exact⟨e₂,a₂,w₂,hq₂,.of_steps (harr _ hg2) harr₂⟩
 |ret=>exact⟨_,a₁,w₁,hq,harr⟩
 |panic ch=>exact⟨_,a₁,w₁,hq,harr⟩
 |outgrown=>exact⟨_,a₁,w₁,hq,harr⟩):P:=h
theorem j2M(h:P:=by
 have hst:paidS f d (L.drop (k+1)) s=R:=by rw [<-HR2.out,Br Hx.out];simp only [paidS];rw [if_neg jY]
 have Hst:=Lib.hid hst;clear hst;go_wp2;go_roundw
 case rel=>
  unfold r14R;exact⟨k+1,s,by omega,by go_num,rfl,s0,s1,Hst.out,Hk.out.trans (Keeps.alloc _ _)⟩
 case measure=>simp [intOf];omega):P:=h
theorem j1l(h:P:=by
 obtain⟨Hf,Hs,Hall,Hk⟩:=hid4 hf hs hall hk;clear hk hall hs hf
 go_wp2_with (go_at_call 220;(with_reducible refine(Bl m5 _).mono ?_);rintro e w1 ⟨rfl,rfl⟩)
 exact j0O):P:=h
theorem j5M(h:P:=by
 obtain⟨HT6,Hkx6,HB6,HR6,Hrow6,Hne6⟩:=hid6 hT6 hkx6 hB6 hR6 hrow6 hne6;clear hne6 hrow6 hR6 hB6 hkx6 hT6;have s3:=Bb HB6.out (.slice a5 k c5) (.int .i64 q2.cr) (.int .i64 q2.du);obtain⟨hB7,k7⟩:=s3;have t0:=Aa HT6.out 0;have t1:=Aa HT6.out 1;have t2:=Aa HT6.out 2;have tl:=lt_of_block HT6.out;have b0:=Aa HB6.out 0;have b1:=Aa HB6.out 1;have b2:=Aa HB6.out 2;have bf0:=Ab HB6.out 0;have bf1:=Ab HB6.out 1;have bf2:=Ab HB6.out 2;have bl:=lt_of_block HB6.out;have hR7:=Ac HR6.out k7 (by show¬w.heap.size+1=w.heap.size;omega);have hrow7:=k7.row Hrow6.out (λg hg e=>Hne6.out g hg e);have hk7:Keeps (λ_=>False) w ((((W6).setCell ⟨w.heap.size,0,none⟩ (.slice a5 k c5)).setCell ⟨w.heap.size,1,none⟩ (.int .i64 q2.cr)).setCell ⟨w.heap.size,2,none⟩ (.int .i64 q2.du)):=(Hkx.out.nt Hkx6.out).trans (k7.mono λi _ e=> .inr j0T);clear k7;obtain⟨HB7,HR7,Hrow7,Hk7⟩:=hid4 hB7 hR7 hrow7 hk7;clear hk7 hrow7 hR7 hB7;go_wp2;go_roundw
 case rel=>
  unfold Br11R;exact⟨i+1,q2,a5,c5,by omega,by go_num,Hnext.out,hg,HB7.out,HR7.out,Reads.Ay Hrow7.out,Hk7.out⟩
 case measure=>simp [intOf];omega):P:=h
theorem j3U(h:P:=by
 have Hz:=Lib.hid hz;clear hz;by_cases q8:ki=2
 ·skip
  have p8:(ki==2)=true:=by simp [q8]
  have p8':(ki !=2)=false:=by simp [q8]
  have Q8:=Lib.hid q8;clear q8;by_cases q10:tr=0
  ·skip
   have p10:(tr==0)=true:=jH;have p10':(tr !=0)=false:=jH;have Q10:=Lib.hid q10;clear q10;go_wp2_with fail;go_meet;have q8:=Q8.out;have q10:=Q10.out;exact jz
  ·skip
   have p10:(tr==0)=false:=jH;have p10':(tr !=0)=true:=jH;have Q10:=Lib.hid q10;clear q10;go_wp2_with fail;go_meet;have q8:=Q8.out;have q10:=Q10.out;exact jx
 ·skip
  have p8:(ki==2)=false:=by simp [q8]
  have p8':(ki !=2)=true:=by simp [q8]
  have Q8:=Lib.hid q8;clear q8;by_cases q10:tr<1
  ·skip
   go_wp2_with fail;go_meet;have q8:=Q8.out;exact jx
  ·skip
   by_cases q12:(n:Int)<tr
   ·skip
    go_wp2_with fail;go_meet;have q8:=Q8.out;exact jx
   ·skip
    go_wp2_with fail;go_meet;have q8:=Q8.out
    exact jz):P:=h
theorem j5k(h:P:=by
 obtain⟨ad3,c3,rfl,_,_⟩:=Ad hown3;refine jn ?_;clear hK K;refine j5 ?_;obtain⟨Hown3,Hfr3⟩:=hid2 hown3 hfr3;clear hfr3 hown3;clear hf3 hk3;refine jk ?_;intro K hK;refine Ah rfl (.tmp 66) (.tmp 69) 267 rfl 0 3 i0 _ 1 8 Tryz.underlying267 Hi.out Hi0.out Hi1.out Hi2.out rfl j2 _ (0+1) _ rfl Hown3.out (.slice none 0 0) (0) _ rfl (Hsuf.out.keeps Hfr3.out.1 (by simp)) (Bo _) j6 j1 (Nat.zero_le _) ?_;intro v4 w4 hown4 hk4 hf4;have hfr4:=Hfr3.out.app hk4 hf4;have hpost:=Hend.out v4 w4 hown4 hfr4;obtain⟨ad4,c4,rfl,_,_⟩:=Ad hown4;refine jn ?_;clear hK K;refine j5 ?_;have Hpost:=Lib.hid hpost;clear hpost;clear hown4 hk4 hf4 hfr4;refine jf ?_;go_wp2_with fail;rw [Hlm2.out] at Hpost
 try rw [Hlm2.out]
 go_roundw
 case rel=>exact⟨0+1,_,rfl,by go_num,by omega,λh=>by omega,Hpost.out⟩
 case measure=>simp [intOf];omega):P:=h
theorem j1I(h:P:=by
 go_enter Tryz.func60,Tryz.ntmps60;go_wp2;refine Bi 0 rfl ?_
 go_wp2_with (go_at_call 119;((with_reducible refine(Bw B1.out _).mono ?_);rintro e w1 ⟨rfl,rfl⟩))
 go_step3;go_wp2;refine Bn ?_;go_wp2;rw [Exit.noGoto_ret];go_ret
 exact⟨by rw [Hf.out];rfl,by(repeat (first|exact Keeps.refl _ _|exact Keeps.alloc _ _|exact Keeps.drew _|exact Keeps.drewN _ _|refine Keeps.Am ?_|refine Keeps.Al ?_|refine Keeps.Af ?_))⟩):P:=h
theorem j5x(h:P:=by
 subst hz';obtain⟨Hr,Hri,Hb,Hz,Hbx⟩:=hid5 hr hri hb hz hbx;clear hbx hz hb hri hr;go_enter Tryz.func221,Tryz.ntmps221;go_wp2_with fail;refine(Hri.out _ j8).mono ?_;rintro e w1 ⟨rfl,hk1⟩;have hbb:=Hbx.out _ hk1;have b0:=Aa hbb 0;have bl:=lt_of_block hbb;have Hk1:=j1q;clear hk1 hbb
 go_wp2_with (go_at_call 220;(with_reducible refine(Bl m3 _).mono ?_);rintro e w2 ⟨rfl,rfl⟩)
 go_ret
 exact⟨rfl,Hk1.out⟩):P:=h
theorem j1Y(h:P:=by
 have hst:paidS f d (L.drop (k+1)) s=R:=by rw [<-HR2.out,Br Hx.out];simp only [paidS];rw [if_neg jY]
 have Hst:=Lib.hid hst;clear hst;go_wp2_with fail;go_step3;go_wp2
 exact Bn ⟨gpJ.mk (k+1) s rfl (Hk.out.trans (Keeps.alloc _ _)) j1 s0 s1 Hst.out,by simp [Fh];omega⟩):P:=h
theorem j1v(h:P:=by
 have hne:¬b8=b9:=by rw [hb8e,hb9e];omega
 have hn8:w7.heap.size<=b8:=by rw [hb8e];omega
 have hn9:w7.heap.size<=b9:=by rw [hb9e];omega
 rw [<-hb8e] at hb8⊢;rw [<-hb9e] at hb9⊢
 exact j6R):P:=h
theorem j18(h:P:=by
 have hne:¬b8=b9:=by rw [hb8e,hb9e];omega
 have hn8:w7.heap.size<=b8:=by rw [hb8e];omega
 have hn9:w7.heap.size<=b9:=by rw [hb9e];omega
 rw [<-hb8e] at hb8⊢;rw [<-hb9e] at hb9⊢
 exact j6S):P:=h
theorem j6H(h:P:=by
 obtain⟨ad3,c3,rfl,_,_⟩:=Ad hown3;refine jn ?_;clear hK K;refine j5 ?_;obtain⟨Hown3,Hfr3⟩:=hid2 hown3 hfr3;clear hfr3 hown3;clear hf3 hk3;refine jk ?_;intro K hK;refine Ah rfl (.tmp 66) (.tmp 69) 267 rfl 0 3 i0 _ 1 8 Tryz.underlying267 Hi.out Hi0.out Hi1.out Hi2.out rfl j2 _ ((j+1)+1) _ rfl Hown3.out (.slice (some ⟨g,(j+1),none⟩) (i-(j+1)) (cap-(j+1))) (i-(j+1)) _ rfl (Hsuf.out.keeps Hfr3.out.1 (by simp)) (Bo _) j6 j1 (Nat.zero_le _) ?_
 exact j6T):P:=h
theorem j2g(h:P:=by
 exact bodyPost_ret (v:= .tuple #[.int .i64 0,.int .i64 10]) j0X rfl ⟨rfl,Hk1.out.nt j8⟩):P:=h
theorem j6b(h:P:=by
 clear hstop;obtain⟨Hdt,HD,Hd,Hk⟩:=hid4 hdt hD hd hk;clear hk hd hD hdt;go_wp2_with fail;refine Hdt.out.mono ?_;rintro e w1 ⟨rfl,hk1⟩;have Hk1:=Lib.hid (Hk.out.nt hk1);clear hk1;go_wp2;go_roundw
 case rel=>exact⟨n+1,rfl,by omega,by omega,by omega,Hk1.out.nt j8⟩
 case measure=>simp [intOf];omega):P:=h
theorem j4X(h:P:=by
 have oc9:w9.cell? ⟨g1,k,none⟩=some (.slice ax m cx):=by rw [<-Hxv0.out];exact Fw o9 Hx.out
 have ol9:=lt_of_block o9;refine j05 ?_;clear hK K;refine j5 ?_;obtain⟨O9,Hsb,Hsg,Hsv,Hlen,Hxv,Hext,Hown9,Hk9⟩:=hid9 o9 hsb hsg hsv hlen hxv hext hown9 hk9;clear hk9 hown9 hext hxv hlen hsv hsg hsb o9;obtain⟨Hk8a,Hk8,H8a,Hrx8⟩:=hid4 hk8a hk8 h8a hrx8;clear hrx8 h8a hk8 hk8a;clear hs8 hf9;refine jR ?_;refine jh ?_;clear of9 oc9 ol9 cbl;obtain⟨W1',hW1'⟩:∃x,x=w9.setCell ⟨g1,k,none⟩ (.slice a9 (m+1) c9):=⟨_,rfl⟩;rw [<-hW1'] at Hext⊢;clear hW1';go_wp2_with fail;go_roundw
 case rel=>exact⟨k+1,_,_,by go_num,by omega,Hext.out⟩
 case measure=>simp [intOf];omega):P:=h
theorem j5q(h:P:=by
 have Hpl:=Lib.hid hpl;clear hpl;go_wp2_with fail;refine Ak (ro6 gR oR i q g j r r' ((q:Int)+1)) (.take 0 (.take 1 (.take 2 (.take 3 (.take 4 (.take 5 (.take 6 (.take 7 (.take 8 (.take 9 (.take 10 (.take 11 (.take 12 (.take 13 (.take 14 (.take 15 (.take 16 (.take 17 (.take 18 (.take 19 (.take 20 (.take 21 (.take 22 (.take 23 (.take 24 (.take 25 (.take 26 (.take 27 (.take 28 (.take 29 (.take 30 (.take 31 (.take 32 (.take 33 (.take 34 (.take 35 (.take 36 (.take 37 (.take 38 (.take 39 (.take 40 .done))))))))))))))))))))))))))))))))))))))))) j4 j4 ?_ ?_
 ·exact HS.out
 intro w6 hs6 hk6;refine jf ?_;clear hs6;go_wp2_with fail;go_roundw
 case rel=>exact⟨j,by go_num,by omega,Hpl.out,Hkq.out.nt hk6⟩
 case measure=>simp [intOf]):P:=h
theorem j4h(h:P:=by
 have hfx:=hrow4.free k;have hnew:=hrow4.set hlt z;rw [Mj HPl.out hlt] at hnew;have hkn4:Keeps (λi=>i=g0) W2 (w4.setCell ⟨g0,k,none⟩ (.int .i64 z)):=hkg4.trans (Keeps.setCell _ _ _ (.inl rfl));obtain⟨old,hold⟩:=Aj (L:=zeros n k P) (k:=k) (by rw [hrow4.2];exact hlt);have hcx:=hrow4.cell hold;have hlx:=hrow4.lt;clear hs3;obtain⟨Hk3,Hk4,Hkx4,Hkg4,Hrow4,H5,Hdr2,Hzv,HO3⟩:=hid9 hk3 hk4 hkx4 hkg4 hrow4 h5 hdr2 hzv hO3;clear hO3 hzv hdr2 h5 hrow4 hkg4 hkx4 hk4 hk3;obtain⟨Hnew,Hkn4,Hold⟩:=hid3 hnew hkn4 hold;clear hold hkn4 hnew;go_wp2;go_roundw
 case rel=>exact⟨k+1,P++ [z],by go_num,by omega,by rw [List.length_append,HPl.out];rfl,HO3.out,Hnew.out,Hkn4.out⟩
 case measure=>simp [intOf];omega):P:=h
theorem j3b(h:P:=by
 go_wp2_with (first|(go_at_call 119;((with_reducible refine(Bw Bf.out _).mono ?_);rintro e w1 ⟨rfl,rfl⟩))|(go_at_call 119;((with_reducible refine(Bw Bp.out _).mono ?_);rintro e w1 ⟨rfl,rfl⟩)))
 go_step3;go_wp2;refine Bu ?_
 exact jD):P:=h
theorem jA(h:P:=by
 skip
 go_wp2_with fail;go_meet
 exact jx):P:=h
theorem j2C(h:P:=by
 clear hat2;obtain⟨Hat,Hrow,Hk,Hx,Hy,Hstep,Hi,H2⟩:=hid8 hat hrow hk hx hy hstep hi h2;clear h2 hi hstep hy hx hk hrow hat;go_wp2;go_roundw
 case rel=>exact⟨j+1,_,_,rfl,by go_num,H2.out⟩
 case measure=>simp [intOf];omega):P:=h
theorem j0n(h:P:=by
 rcases hf with hf|⟨g,hg,hh⟩
 ·exact .inl (hf▸hb)
 ·rw [hg] at hb;simp only [Option.some.injEq] at hb;exact .inr j1):P:=h
theorem j0M(h:P:=by
 obtain rfl:j=L.length:=by omega
 rw [List.take_length] at hok;have Hok:=Lib.hid hok;clear hok;go_wp2_with fail;go_ret
 exact⟨_,rfl,by rw [Hok.out];rfl,rfl⟩):P:=h
theorem j6N(h:P:=by
 clear hs1 hz;obtain⟨Hk1,Hk2,Hrow2,Hkw,Hb2⟩:=hid5 hk1 hk2 hrow2 hkw hb2;clear hb2 hkw hrow2 hk2 hk1;go_wp2_with fail;go_roundw
 case rel=>exact⟨h+1,j,by go_num,rfl,Hb2.out,Hrow2.out,Hkw.out⟩
 case measure=>simp [intOf];omega):P:=h
theorem j3K(h:P:=by
 have hpos:0<q+1:=j3;obtain⟨Hdiv,HN,Hqq,Hrr⟩:=hid4 hdiv hN hqq hrr;clear hrr hqq hN hdiv;go_enter Tryz.func263,Tryz.ntmps263;go_wp2_with fail;refine Bi 0 rfl ?_;go_wp2_with fail;refine(Hdiv.out _).mono ?_;rintro e w1 ⟨rfl,hk1⟩;have Hk1:=Lib.hid hk1;clear hk1;go_wp2_with fail;refine Bu ?_
 exact bodyPost_ret (v:= .tuple #[.int .u64 (q+1),.bool true]) (by simp [results,Tryz.results263,go_sem]) rfl ⟨rfl,Hk1.out⟩):P:=h
theorem j1E(h:P:=by
 go_wp2_with fail;go_meet
 exact⟨t,adt,ct,n,L,ad,cap,N,t.start,rfl,rfl,Hn.out,HN.out,by omega,by omega,Hb0.out,Htr.out.alloc _,Hr.out.alloc _,Hk0.out⟩):P:=h
theorem j2O(h:P:=by
 rw [ho] at hnx;obtain⟨Hz,Hx,Hnx,Ho⟩:=hid4 hz hx hnx ho;clear ho hnx hx hz
 exact j61):P:=h
theorem j5l(h:P:=by
 obtain⟨ad3,c3,rfl,_,_⟩:=Ad hown3;refine jn ?_;clear hK K;refine j5 ?_;obtain⟨Hown3,Hfr3⟩:=hid2 hown3 hfr3;clear hfr3 hown3;clear hf3 hk3;refine jk ?_;intro K hK;refine Ah rfl (.tmp 66) (.tmp 69) 267 rfl 0 3 i0 _ 1 8 Tryz.underlying267 Hi.out Hi0.out Hi1.out Hi2.out rfl j2 _ (k+1) _ rfl Hown3.out (.slice (some ⟨g,k,none⟩) (i-k) (cap-k)) (i-k) _ rfl (Hsuf.out.keeps Hfr3.out.1 (by simp)) (Bo _) j6 j1 (Nat.zero_le _) ?_
 exact j6T):P:=h
theorem j0y(h:P:=by
 go_wp2_with fail;go_meet
 exact⟨by rw [Hmn.out],rfl⟩):P:=h
theorem j6M(h:P:=by
 clear hs1 hz;obtain⟨Hk1,Hk2,Hrow2,Hkw,Hb2⟩:=hid5 hk1 hk2 hrow2 hkw hb2;clear hb2 hkw hrow2 hk2 hk1;go_wp2_with fail;go_roundw
 case rel=>exact⟨i,h,rfl,rfl,Hb2.out,Hrow2.out,Hkw.out⟩
 case measure=>simp [intOf];omega):P:=h
theorem j0g(h:P:=by
 go_wp2_with fail;go_step3;go_wp2;refine Bn ?_;go_wp2;rw [Exit.noGoto_ret]
 exact j1V):P:=h
theorem j5T(h:P:=by
 skip
 have hst:paidS f d (L.drop (k+1)) (1000000000000000)=R:=by rw [<-HR2.out,Br Hx.out];simp only [paidS];rw [if_pos jY];congr 1;unfold minI;split<;>omega
 have Hst:=Lib.hid hst;clear hst;go_wp2;go_roundw
 case rel=>
  unfold r14R;exact⟨k+1,1000000000000000,by omega,by go_num,rfl,by omega,by omega,Hst.out,Hk.out.trans (Keeps.alloc _ _)⟩
 case measure=>simp [intOf];omega):P:=h
theorem j4s(h:P:=by
 rcases b6:(ki !=6) with _|_
 ·rcases b7:decide (0<=am) with _|_
  ·skip
   exact jO
  ·rcases b8:decide (am<=10000000) with _|_
   ·skip
    exact jO
   ·exact j6U
 ·exact j6U):P:=h
theorem j4i(h:P:=by
 have hdr2:=Hdr.out;rw [if_neg (by rw [h5];decide)] at hdr2;have hO3:O=none:=by rw [<-HO2.out,hdr2];rfl
 subst hO3;rw [h5];clear hs3;obtain⟨Hk3,Hk4,Hkx4,Hkg4,Hrow4,H5,H51,Hdr2⟩:=hid8 hk3 hk4 hkx4 hkg4 hrow4 h5 h51 hdr2;clear hdr2 h51 h5 hrow4 hkg4 hkx4 hk4 hk3;go_wp2
 exact bodyPost_ret (v:= .tuple #[.slice none 0 0,.int .i64 5]) (by simp [results,Tryz.results170,go_sem]) rfl ⟨rfl,Hkx4.out⟩):P:=h
theorem j3J(h:P:=by
 obtain⟨Hdiv,HN,Hqq,Hrr⟩:=hid4 hdiv hN hqq hrr;clear hrr hqq hN hdiv;go_enter Tryz.func263,Tryz.ntmps263;go_wp2_with fail;refine Bi 0 rfl ?_;go_wp2_with fail;refine(Hdiv.out _).mono ?_;rintro e w1 ⟨rfl,hk1⟩;have Hk1:=Lib.hid hk1;clear hk1;go_wp2_with fail;refine Bu ?_
 exact bodyPost_ret (v:= .tuple #[.int .u64 q,.bool true]) (by simp [results,Tryz.results263,go_sem]) rfl ⟨rfl,Hk1.out⟩):P:=h
theorem j6f(h:P:=by
 subst hz';obtain⟨Hnt,Htr,Hn,Hr,Hri,Hz,Hq,Hof,HoV⟩:=hid9 hnt htr hn hr hri hz hq hof hoV;clear hoV hof hq hz hri hr hn htr hnt;obtain⟨HoE,Hbx⟩:=hid2 hoE hbx;clear hbx hoE;go_enter Tryz.func109,Tryz.ntmps109;go_wp2_with fail;refine(Hri.out _ (Keeps.alloc _ _)).mono ?_;rintro e w1 ⟨rfl,hk1⟩;have Hk1:=Lib.hid ((Keeps.alloc (S:=λ_=>False) w _).nt hk1);clear hk1
 exact j0m):P:=h
theorem j1K(h:P:=by
 refine Gc ?_;go_wp2;go_roundw
 case rel=>exact⟨i+1,by go_num,by omega,Hrow2.out,Hat.out.fr⟩
 case measure=>simp [intOf];omega):P:=h
theorem j40(h:P:=by
 skip
 have hst:paidS f d (L.drop (k+1)) (1000000000000000)=R:=by rw [<-HR2.out,Br Hx.out];simp only [paidS];rw [if_pos jY];congr 1;unfold minI;split<;>omega
 have Hst:=Lib.hid hst;clear hst;go_wp2_with fail;go_step3;go_wp2
 exact Bn ⟨gpJ.mk (k+1) (1000000000000000) rfl (Hk.out.trans (Keeps.alloc _ _)) j1 j1 j1 Hst.out,by simp [Fh];omega⟩):P:=h
theorem j6y(h:P:=by
 have hzI:(z==0)=false:=beq_eq_false_iff_ne.2 hz0;have hpl3:=Hpl2.out;rw [if_neg hz0] at hpl3;obtain⟨Hk14,Hb14,Hro14,Hfr14,Hpl3,Hz0⟩:=hid6 hk14 hb14 hro14 hfr14 hpl3 hz0;clear hz0 hpl3 hfr14 hro14 hb14 hk14;go_wp2;go_roundw
 case rel=>exact⟨i+1,O,_,rfl,by go_num,by omega,by rw [Ho.out];omega,Hpl3.out,by rw [Ho.out];exact Hro14.out,Hfr14.out⟩
 case measure=>simp [intOf];omega):P:=h
theorem j66(h:P:=by
 skip
 have hA:=HA.out;clear HA;simp [Cx,Cv] at hA;obtain⟨⟨q,z⟩,hq⟩:∃q,giveR ⟨L,cr,du⟩ R tr am=q:=⟨_,rfl⟩;rw [hq] at hA;have hcall:=λW (hW:Keeps (λ_=>False) W4 W)=>Nl L R cr du tr am ad (some ⟨gr,0,none⟩) cap cr2 i W (Hr.out.keeps (Hab4.out.kp.nt hW) (by simp)) HN.out hl ((Reads.Ay Hrr4.out).keeps hW (by simp)) HRm.out
 exact j2S):P:=h
theorem j4v(h:P:=by
 skip
 have hA:=HA.out;clear HA;simp [Cx,Cv] at hA;obtain⟨⟨q,z⟩,hq⟩:∃q,giveR ⟨L,cr,du⟩ R tr am=q:=⟨_,rfl⟩;rw [hq] at hA;have hcall:=λW (hW:Keeps (λ_=>False) W4 W)=>Lm L R cr du tr am (some ⟨gb,0,none⟩) (some ⟨gr,0,none⟩) cb cr2 m W ((Reads.Ay Hrb4.out).keeps hW (by simp)) HN.out hl ((Reads.Ay Hrr4.out).keeps hW (by simp)) HRm.out
 exact j2d):P:=h
theorem j1J(h:P:=by
 rcases h.1.2 with⟨h0,_⟩|⟨g1,cap1,cur,h0,_,hh,_⟩
 ·simp at h0
 ·simp only [Value.slice.injEq,Option.some.injEq,Addr.mk.injEq,and_true,true_and] at h0;obtain⟨rfl,_⟩:=h0
  exact Ab hh j):P:=h
theorem j6B(h:P:=by
 obtain⟨Htr,Hr,Hn,HN,HP,HD,Hu0,Hpt⟩:=hid8 htr hr hn hN hP hD hu0 hpt;clear hpt hu0 hD hP hN hn hr htr;go_enter Tryz.func3,Tryz.ntmps3
 go_wp2_with (go_at_call 11;(with_reducible refine(Js _).mono ?_);rintro e w3 ⟨rfl,hk3⟩;have Hk3:=Lib.hid hk3;clear hk3)
 go_ret
 exact⟨rfl,((Keeps.alloc (S:=λ_=>False) w _).nt Hk3.out).below (by simp) (Nat.le_refl _)⟩):P:=h
theorem j34(h:P:=by
 obtain⟨B1,Hok0⟩:=hid2 b1 hok0;clear hok0 b1
 go_wp2_with (go_at_call 101;((with_reducible refine(Au B1.out _).mono ?_);rintro e w1 ⟨rfl,rfl⟩))
 go_meet
 exact⟨rfl,rfl⟩):P:=h
theorem j3u(h:P:=by
 have hf:Ps.Ar ⟨L,cr,du⟩=true:=by unfold Ps.Ar;simp only [hsc,hN,hs, *,decide_true,decide_false,Bool.and_true,Bool.true_and,Bool.false_and,Bool.and_false,Bool.or_true,Bool.true_or,Bool.or_false,Bool.or_self]
 obtain rfl:z=true:=Hz.out.symm.trans hf
 exact j6O):P:=h
theorem j6V(h:P:=by
 go_wp2_with (go_at_call 279;(refine Hlp.out.mono ?_);rintro e w1 ⟨rfl,rfl⟩)
 exact j1F):P:=h
theorem j5H(h:P:=by
 rcases Int.lt_trichotomy total mf with m2|m2|m2
 ·rw [show minI total mf=total by unfold minI;rw [if_pos j1]] at hzz;exact j0x
 ·exact j5G
 ·rw [show minI total mf=mf by unfold minI;rw [if_neg j1]] at hzz
  exact j0x):P:=h
theorem j3w(h:P:=by
 refine⟨by simpa using hown1,(Keeps.alloc w _).trans (hk1.mono λk _ hk=> ?_),λk hk=> ?_⟩
 ·simp only [Value.ownBlock,Option.some.injEq] at hk;omega
 ·rcases hfr with hf|⟨g,hg,hh⟩
  ·rw [hf] at hk;simp only [Value.ownBlock,Option.some.injEq] at hk;omega
  ·rw [hg] at hk;simp only [Option.some.injEq] at hk;omega):P:=h
theorem j6c(h:P:=by
 clear hin;go_enter Tryz.func143,Tryz.ntmps143;go_wp2
 exact bodyPost_ret (v:= .tuple #[.int .i64 0,.int .i64 10]) j1x rfl ⟨rfl,by(repeat (first|exact Keeps.refl _ _|exact Keeps.alloc _ _|exact Keeps.drew _|exact Keeps.drewN _ _|refine Keeps.Am ?_|refine Keeps.Al ?_|refine Keeps.Af ?_))⟩):P:=h
theorem j6h(h:P:=by
 have hbs3:=HbS.out _ hfr3.1;obtain⟨ad3,c3,rfl,_,_⟩:=Ad hown3;refine hK.out _ _ (by exact hbs3) ?_;clear hK K;refine j5 ?_;obtain⟨Hown3,Hfr3,Hbs3⟩:=hid3 hown3 hfr3 hbs3;clear hbs3 hfr3 hown3;clear hf3 hk3;refine jk ?_;intro K hK;refine Ah rfl (.tmp 29) (.tmp 32) 25 rfl 0 32 i0 _ 5 40 Tryz.underlying25 Hi.out Hi0.out Hi1.out Hi2.out rfl j2 _ (0+1) _ rfl Hown3.out (.slice none 0 0) (0) _ rfl (Hsuf.out.keeps Hfr3.out.1 (by simp)) (Ev.one _) j6 j1 (Nat.zero_le _) ?_
 exact j0E):P:=h
theorem j07(h:P:=by
 unfold insR;rw [HO.out,Hget.out,Hlen.out,Hpl.out,List.flatMap_append,List.flatMap_append]
 exact ho):P:=h
theorem j0Y(h:P:=by
 subst h;obtain⟨Hall,Hk,Hkw,He⟩:=hid4 hall hk hkw he;clear he hkw hk hall;go_wp2
 exact jV):P:=h
theorem j3W(h:P:=by
 skip
 have hr:true=(decide (ki=4)||decide (ki=5)):=by simp [Q14.out,Q16.out]
 have HR:=Lib.hid hr;clear hr
 go_wp2_with (go_at_call 207;((with_reducible refine(Ea ki _ true HR.out).mono ?_);rintro e w2 ⟨rfl,rfl⟩))
 go_meet;have q14:=Q14.out;have q16:=Q16.out
 exact jx):P:=h
theorem jK(h:P:=by
 subst hz;go_wp2_with fail
 exact j1V):P:=h
theorem j3p(h:P:=by
 go_wp2;refine Gn ?_
 exact bodyPost_ret (v:= .tuple #[.agg #[.int .i64 0,.int .i64 0,.int .i64 0],.int .i64 10]) (by simp [results,Tryz.results233,go_sem]) rfl ⟨rfl,by(repeat (first|exact Keeps.refl _ _|exact Keeps.alloc _ _|exact Keeps.drew _|exact Keeps.drewN _ _|refine Keeps.Am ?_|refine Keeps.Al ?_|refine Keeps.Af ?_))⟩):P:=h
theorem j2n(h:P:=by
 split at hq
 ·rename_i ha;rw [if_pos ha]
  split at hq
  ·rename_i hr;rw [if_pos hr];exact hr
  ·cases hq
 ·rename_i ha;exact absurd hq ha):P:=h
theorem j5P(h:P:=by
 obtain⟨Hkx6,HR6⟩:=hid2 hkx6 hR6;clear hR6 hkx6;have hend:=P11.bad 5 HR6.out (Hkx.out.nt Hkx6.out) j1;have hres:=HR6.out;refine js ?_;intro r0 r1 r2 rf0 rf1 rf2 rl sr0 sr1 sr2 hgv;obtain⟨Hres,Hend,Sr0,Sr1,Sr2,Hgv⟩:=hid6 hres hend sr0 sr1 sr2 hgv;clear hgv sr2 sr1 sr0 hend hres;go_wp2;refine ja ?_;intro R0' R1' R2';clear r0 r1 r2
 exact bodyPost_ret (v:= .tuple #[.agg #[.slice none 0 0,.int .i64 0,.int .i64 0],.int .i64 5]) (by simp [results,Tryz.results231,go_sem,R0',R1',R2']) rfl (by rw [Hbad.out];exact Hgv.out)):P:=h
theorem j5h(h:P:=by
 go_wp2_with fail;go_step3;go_wp2;refine Ub ⟨wkJ1.mk _ _ B (.slice (some ⟨g,o,none⟩) mA cS) (by first|exact hz0|rfl) rfl Hd6.out Hp5.out Hg5.out HJ5.out, ?_⟩;show max (td+1-Ci _ B 9) 0<td+1-Ci W B 9;rw [Cq Hd6.out.c9.1,Hcs.out];have hdt:=Hp.out.dt;have hdy:=Hday.out;show max (td+1-(sd+1)) 0<td+1-sd
 omega):P:=h
theorem j3q(h:P:=by
 go_wp2
 exact bodyPost_ret (v:= .tuple #[.agg #[.int .i64 0,.int .i64 0,.int .i64 0],.int .i64 10]) (by simp [results,Tryz.results195,go_sem]) rfl ⟨rfl,by(repeat (first|exact Keeps.refl _ _|exact Keeps.alloc _ _|exact Keeps.drew _|exact Keeps.drewN _ _|refine Keeps.Am ?_|refine Keeps.Al ?_|refine Keeps.Af ?_))⟩):P:=h
theorem j2c(h:P:=by
 obtain⟨Hr,HR,Hri,Hco,Hz,Hbx,Hbr,HN,HRm⟩:=hid9 hr hR hri hco hz hbx hbr hN hRm;clear hRm hN hbr hbx hz hco hri hR hr;have Hmn:=Lib.hid hmn;clear hmn
 exact jO):P:=h
theorem j3h(h:P:=by
 refine rkJ.mk i g c (by rw [Hri.out];rfl) ⟨Nat.le_refl _,⟨?_, ?_⟩,rfl,Hfr4.out⟩
 ·rw [List.take_of_length_le j1,List.drop_eq_nil_of_le j1,List.append_nil,List.flatMap_append];exact Hown4.out
 ·rw [List.take_of_length_le j1,List.drop_eq_nil_of_le j1];simp [hlen]):P:=h
theorem jD(h:P:=by
 go_ret
 exact⟨by rw [Hf.out];rfl,Hk.out⟩):P:=h
theorem j2w(h:P:=by
 go_roundw
 case rel=>exact⟨k+1,by omega,by go_num,(Hkp.out.trans ((Keeps.drew _).trans (Hk2.out.mono (by simp))))⟩
 case measure=>simp [intOf];omega):P:=h
theorem j3V(h:P:=by
 skip
 have hr:true=(decide (ki=4)||decide (ki=5)):=by simp [Q14.out]
 have HR:=Lib.hid hr;clear hr
 go_wp2_with (go_at_call 207;((with_reducible refine(Ea ki _ true HR.out).mono ?_);rintro e w2 ⟨rfl,rfl⟩))
 go_meet;have q14:=Q14.out
 exact jx):P:=h
theorem j4x(h:P:=by
 go_wp2
 exact bodyPost_ret (v:= .tuple #[.int .i64 0,.int .i64 1]) j0X rfl ⟨rfl,by(repeat (first|exact Keeps.refl _ _|exact Keeps.alloc _ _|exact Keeps.drew _|exact Keeps.drewN _ _|refine Keeps.Am ?_|refine Keeps.Al ?_|refine Keeps.Af ?_))⟩):P:=h
theorem j69(h:P:=by
 go_wp2
 exact bodyPost_ret (v:= .tuple #[.int .i64 0,.int .i64 1]) j1x rfl ⟨rfl,by(repeat (first|exact Keeps.refl _ _|exact Keeps.alloc _ _|exact Keeps.drew _|exact Keeps.drewN _ _|refine Keeps.Am ?_|refine Keeps.Al ?_|refine Keeps.Af ?_))⟩):P:=h
theorem j0K(h:P:=by
 go_round
 case rel=>exact⟨j+1,by omega,by go_num,Hok'.out⟩
 case measure=>simp [intOf];omega):P:=h
theorem j6d(h:P:=by
 go_wp2_with fail
 with_reducible refine Hla.out.mono ?_
 rintro e w1 ⟨rfl,hk1⟩;have Hk2:=Lib.hid (Hk.out.nt hk1);clear hk1
 exact j6e):P:=h
theorem j0o(h:P:=by
 injection h1 with h1;injection h1 with _ h1 _
 exact absurd h1 j2):P:=h
theorem j5D(h:P:=by
 obtain⟨Hm,HqN,HrN,HZ,HZ2,Hkp,HN,Hq1⟩:=hid8 hm hqN hrN hZ hZ2 hkp hN hq1;clear hq1 hN hkp hZ2 hZ hrN hqN hm;go_wp2
 exact bodyPost_ret (v:= .tuple #[.int .u64 (q+1),.bool true]) (by simp [results,Tryz.results271,go_sem]) rfl ⟨by rw [HZ.out,<-HZ2.out],Hkp.out⟩):P:=h
theorem j4p(h:P:=by
 clear hK K;refine j5 ?_;obtain⟨Happ,Hb9,Hown9,Hk9,Hk8a,Hk8,Hs8⟩:=hid7 happ hb9 hown9 hk9 hk8a hk8 hs8;clear hs8 hk8 hk8a hk9 hown9 hb9 happ;refine jR ?_;refine jh ?_;clear o4 of4 ol
 exact j5i):P:=h
theorem j65(h:P:=by
 skip
 have hA:=HA.out;clear HA;simp [Cx,Cv] at hA;obtain⟨⟨q,z⟩,hq⟩:∃q,Dp ⟨L,cr,du⟩ tr am=q:=⟨_,rfl⟩;rw [hq] at hA;have hcall:=λW (hW:Keeps (λ_=>False) W4 W)=>Kh L cr du tr am ad cap i W (Hr.out.keeps (Hab4.out.kp.nt hW) (by simp)) HN.out hl
 exact j2S):P:=h
theorem j4u(h:P:=by
 skip
 have hA:=HA.out;clear HA;simp [Cx,Cv] at hA;obtain⟨⟨q,z⟩,hq⟩:∃q,Dp ⟨L,cr,du⟩ tr am=q:=⟨_,rfl⟩;rw [hq] at hA;have hcall:=λW (hW:Keeps (λ_=>False) W4 W)=>Jm L cr du tr am (some ⟨gb,0,none⟩) cb m W ((Reads.Ay Hrb4.out).keeps hW (by simp)) HN.out hl
 exact j2d):P:=h
theorem j0h(h:P:=by
 skip
 go_wp2_with fail;go_meet
 exact jz):P:=h
theorem j5C(h:P:=by
 obtain⟨Hm,HqN,HrN,HZ,HZ2,Hkp,HN,Hq1⟩:=hid8 hm hqN hrN hZ hZ2 hkp hN hq1;clear hq1 hN hkp hZ2 hZ hrN hqN hm;go_wp2
 exact bodyPost_ret (v:= .tuple #[.int .u64 (q),.bool true]) (by simp [results,Tryz.results271,go_sem]) rfl ⟨by rw [HZ.out,<-HZ2.out],Hkp.out⟩):P:=h
theorem j3c(h:P:=by
 have hz:inB st (-135140) 2922896=false:=by rw [F3.out];simp;omega
 have hf:Tm.err ⟨li,cy,du,mf,mp,st,L⟩=6:=by rw [hf1,hz];simp
 obtain⟨Hok,Hk,Hb,Hall,Hf,Hf1,Hz,Bf,Bp⟩:=hid9 hok hk hb hall hf hf1 hz bf bp;clear bp bf hz hf1 hf hall hb hk hok
 exact j3b):P:=h
theorem j3B(h:P:=by
 obtain⟨Hb,Hrow,Hx,HxD,Hmin,K1,K2,Hrow1,Hpost⟩:=hid9 hb hrow hx hxD hmin k1 k2 hrow1 hpost;clear hpost hrow1 k2 k1 hmin hxD hx hrow hb;obtain⟨Hi,Hm⟩:=hid2 hi hm;clear hm hi;go_enter Tryz.func257,Tryz.ntmps257;go_wp2;go_end0
 exact⟨rfl,Hpost.out⟩):P:=h
theorem j6p(h:P:=by
 have hbs3:=HbS.out _ hfr3.1;obtain⟨ad3,c3,rfl,_,_⟩:=Ad hown3;refine hK.out _ _ (by exact hbs3) ?_;clear hK K;refine j5 ?_;obtain⟨Hown3,Hfr3,Hbs3⟩:=hid3 hown3 hfr3 hbs3;clear hbs3 hfr3 hown3;clear hf3 hk3;refine jk ?_;intro K hK;refine Ah rfl (.tmp 29) (.tmp 32) 25 rfl 0 32 i0 _ 5 40 Tryz.underlying25 Hi.out Hi0.out Hi1.out Hi2.out rfl j2 _ ((k+1)+1) _ rfl Hown3.out (.slice (some ⟨g,(k+1)*5,none⟩) (n-(k+1)) (cap-(k+1))) (n-(k+1)) _ rfl (Hsuf.out.keeps Hfr3.out.1 (by simp)) (Ev.one _) j6 j1 (Nat.zero_le _) ?_
 exact j0E):P:=h
theorem j6j(h:P:=by
 have hbs3:=HbS.out _ hfr3.1;obtain⟨ad3,c3,rfl,_,_⟩:=Ad hown3;refine hK.out _ _ (by exact hbs3) ?_;clear hK K;refine j5 ?_;obtain⟨Hown3,Hfr3,Hbs3⟩:=hid3 hown3 hfr3 hbs3;clear hbs3 hfr3 hown3;clear hf3 hk3;refine jk ?_;intro K hK;refine Ah rfl (.tmp 29) (.tmp 32) 25 rfl 0 32 i0 _ 5 40 Tryz.underlying25 Hi.out Hi0.out Hi1.out Hi2.out rfl j2 _ (0+1) _ rfl Hown3.out (.slice (some ⟨g,0*5,none⟩) (n-0) (cap-0)) (n-0) _ rfl (Hsuf.out.keeps Hfr3.out.1 (by simp)) (Ev.one _) j6 j1 (Nat.zero_le _) ?_
 exact j0E):P:=h
theorem j6m(h:P:=by
 have hbs3:=HbS.out _ hfr3.1;obtain⟨ad3,c3,rfl,_,_⟩:=Ad hown3;refine hK.out _ _ (by exact hbs3) ?_;clear hK K;refine j5 ?_;obtain⟨Hown3,Hfr3,Hbs3⟩:=hid3 hown3 hfr3 hbs3;clear hbs3 hfr3 hown3;clear hf3 hk3;refine jk ?_;intro K hK;refine Ah rfl (.tmp 29) (.tmp 32) 25 rfl 0 32 i0 _ 5 40 Tryz.underlying25 Hi.out Hi0.out Hi1.out Hi2.out rfl j2 _ ((k+1)+1) _ rfl Hown3.out (.slice (some ⟨g,0,none⟩) 0 0) (0) _ rfl (Hsuf.out.keeps Hfr3.out.1 (by simp)) (Ev.one _) j6 j1 (Nat.zero_le _) ?_
 exact j0E):P:=h
theorem j6i(h:P:=by
 have hbs3:=HbS.out _ hfr3.1;obtain⟨ad3,c3,rfl,_,_⟩:=Ad hown3;refine hK.out _ _ (by exact hbs3) ?_;clear hK K;refine j5 ?_;obtain⟨Hown3,Hfr3,Hbs3⟩:=hid3 hown3 hfr3 hbs3;clear hbs3 hfr3 hown3;clear hf3 hk3;refine jk ?_;intro K hK;refine Ah rfl (.tmp 29) (.tmp 32) 25 rfl 0 32 i0 _ 5 40 Tryz.underlying25 Hi.out Hi0.out Hi1.out Hi2.out rfl j2 _ (0+1) _ rfl Hown3.out (.slice (some ⟨g,0,none⟩) 0 0) (0) _ rfl (Hsuf.out.keeps Hfr3.out.1 (by simp)) (Ev.one _) j6 j1 (Nat.zero_le _) ?_
 exact j0E):P:=h
theorem j4G(h:P:=by
 go_enter Tryz.func163,Tryz.ntmps163;go_wp2;go_ret
 exact⟨_,rfl,by simp;omega,by(repeat (first|exact Keeps.refl _ _|exact Keeps.alloc _ _|exact Keeps.drew _|exact Keeps.drewN _ _|refine Keeps.Am ?_|refine Keeps.Al ?_|refine Keeps.Af ?_))⟩):P:=h
theorem j5s(h:P:=by
 go_wp2_with fail;refine Hc.out.mono ?_;rintro e w1 ⟨v,rfl,hr1,hf1⟩;obtain⟨adv,cv,rfl,_,_⟩:=Ad hr1;obtain⟨Hr1,Hf1⟩:=hid2 hr1 hf1;clear hf1 hr1;go_wp2;go_ret
 exact⟨_,_,rfl,by rw [Hrk.out];exact Reads.Ay Hr1.out,Hf1.out.1⟩):P:=h
theorem j0R(h:P:=by
 skip
 go_wp2_with fail;go_meet;have q10:=Q10.out
 exact jx):P:=h
theorem j2o(h:P:=by
 obtain⟨h1,h2,h3,h4,h5,h6,h7,h8,h9⟩:=h;refine j06 ?_;intro k
 exact⟨k h1,k h2,k h3,k h4,k h5,k h6,k h7,k h8,k h9⟩):P:=h
theorem j1G(h:P:=by
 have H:=Lib.hid h;clear h;go_enter Tryz.func119,Tryz.ntmps119;go_wp2;go_ret
 exact⟨by rw [H.out];rfl,rfl⟩):P:=h
theorem j1H(h:P:=by
 have H:=Lib.hid h;clear h;go_enter Tryz.func101,Tryz.ntmps101;go_wp2;go_ret
 exact⟨by rw [H.out];rfl,rfl⟩):P:=h
theorem j3g(h:P:=by
 go_region
 all_goals go_wp2_with fail
 all_goals go_step3
 all_goals go_wp2
 all_goals exact Bn ⟨rkJ.mk k g c (by rw [Hri.out];rfl) ⟨by omega,Hset.out,by rw [Hri.out];exact Hpl.out,Hfr2.out⟩,by simp [Fg]⟩):P:=h
theorem j0I(h:P:=by
 have Hf:=Lib.hid hf;clear hf;go_enter Tryz.func274,Tryz.ntmps274
 exact jv):P:=h
theorem j0J(h:P:=by
 have Hf:=Lib.hid hf;clear hf;go_enter Tryz.func279,Tryz.ntmps279
 exact jv):P:=h
theorem j5f(h:P:=by
 obtain⟨Hfin,Z0,Z1,Hka,Hfb,Hfk,KBB⟩:=hid7 hfin z0 z1 hka hfb hfk kBB;clear kBB hfk hfb hka z1 z0 hfin;refine jj ?_;refine jf ?_;clear s14 s15 s16 s17 sl;go_wp2;go_end0
 exact⟨rfl,Hfin.out⟩):P:=h
theorem jE(h:P:=by
 go_wp2;go_ret
 exact⟨rfl,rfl⟩):P:=h
theorem j3j(h:P:=by
 go_wp2_with fail;refine Hc.out.mono ?_;rintro e w1 ⟨v,rfl,hr1,hf1⟩;have Hr1:=Lib.hid hr1;have Hf1:=Lib.hid hf1;obtain⟨adv,cv,rfl,_,_⟩:=Ad hr1;clear hr1 hf1;go_wp2;go_ret
 exact⟨_,rfl,Hr1.out,Hf1.out⟩):P:=h
theorem j62(h:P:=by
 subst hzt;clear hz3;go_wp2_with fail;go_meet
 exact⟨by first|rfl|(congr 1;first|assumption|(rw [decide_eq_false_iff_not];omega)|exact beq_eq_false_iff_ne.2 j1),by first|rfl|trivial⟩):P:=h
theorem j3A(h:P:=by
 subst h;obtain⟨Hall,Hk,Hkb,Hkw⟩:=hid4 hall hk hkb hkw;clear hkw hkb hk hall
 go_wp2_with (go_at_call 200;(with_reducible refine(Bq m3 _).mono ?_);rintro e w2 ⟨rfl,rfl⟩)
 exact jV):P:=h
theorem j3l(h:P:=by
 obtain⟨Hlp,Hf⟩:=hid2 hlp hf;clear hf hlp;go_enter Tryz.func234,Tryz.ntmps234
 go_wp2_with (go_at_call 274;(refine Hlp.out.mono ?_);rintro e w1 ⟨rfl,rfl⟩)
 exact j1F):P:=h
theorem j3d(h:P:=by
 obtain⟨h1,h2⟩:=h;obtain⟨y,hy⟩:=Aj (L:=O) (k:=k) j1;subst h2;have:=Gw Bg h1 hy 0 j2 (y:=x) (u:= .int .i64 x) rfl;simp only [Nat.mul_one,Nat.add_zero] at this
 exact⟨this,by simp⟩):P:=h
theorem j4a(h:P:=by
 have Hf:=Lib.hid hf;clear hf;go_enter Tryz.func264,Tryz.ntmps264
 go_wp2_with (go_at_call 200;(with_reducible refine(Bq m3 _).mono ?_);rintro e w1 ⟨rfl,rfl⟩)
 exact j1F):P:=h
theorem j6L(h:P:=by
 go_wp2;go_end0;have hd:=Be (X:=X) j1 j1 (by have:=Hrot.out.t.len;omega) Hcr.out HtY.out HuY.out (Turned.refl _ _ _) HuZ.out
 exact⟨rfl,Y,Hrot.out.t.trans hd.1,hd.2,Hrow3.out,Hk3.out⟩):P:=h
theorem j4K(h:P:=by
 by_cases e:j=k
 ·subst e;rw [List.getElem?_set_self hkl] at hy;simp only [Option.some.injEq] at hy;exact .inl ⟨rfl,hy.symm⟩
 ·rw [List.getElem?_set_ne (λh=>e h.symm)] at hy;exact .inr ⟨e,hy⟩):P:=h
theorem j3F(h:P:=by
 go_step3;go_wp2;refine Bn ?_;go_wp2;rw [Exit.noGoto_ret]
 exact bodyPost_ret (v:= .tuple #[.int .i64 0,.int .i64 5]) (by simp [results,Tryz.results235,go_sem]) rfl ⟨rfl,rfl⟩):P:=h
theorem j5A(h:P:=by
 obtain⟨h1,h2,h3,h4⟩:=h
 exact⟨(hk.cell (Ai h1) (by simp)).trans h1,(hk.cell (Ai h2) (by simp)).trans h2,(hk.cell (Ai h3) (by simp)).trans h3,(hk.cell (Ai h4) (by simp)).trans h4⟩):P:=h
theorem j3e(h:P:=by
 have hrow2:=hat.row.1;rw [<-hend] at hrow2;obtain⟨Hat,Hend,Hrow2,Hpl,Hlen,Hp0⟩:=hid6 hat hend hrow2 hpl hlen hp0;clear hp0 hlen hpl hrow2 hend hat;go_wp2
 exact j1K):P:=h
theorem j4Z(h:P:=by
 refine jf ?_;have hrv1:=Hrv.out.keep0 hk1;clear hs1;obtain⟨Hk1,Hrv1⟩:=hid2 hk1 hrv1;clear hrv1 hk1;go_wp2;go_ret
 exact⟨rfl,_,_,Hrv1.out⟩):P:=h
theorem j5F(h:P:=by
 unfold r18R
 exact⟨⟨k+1,P++ [z],ad4,c4,by omega,by go_num,rfl,by rw [List.length_append,HPl.out];rfl,HO3.out,by rw [List.flatMap_append];exact Hown4.out,Hfr4.out⟩,Hkk4.out⟩):P:=h
theorem jZ(h:P:=by
 have Hmn:=Lib.hid hmn;clear hmn
 exact j0y):P:=h
theorem j4J(h:P:=by
 obtain⟨Hren,Z0,Z1⟩:=hid3 hren z0 z1;clear z1 z0 hren;refine jj ?_;refine jf ?_;clear s14 s15 s16 s17 sl;go_wp2;go_end0
 exact⟨rfl,_,_,Hren.out⟩):P:=h
theorem j5y(h:P:=by
 go_wp2_with fail;refine Hm.out.mono ?_;rintro e w1 ⟨rfl,rfl⟩
 cases b
 ·go_wp2;go_ret;exact⟨⟨_,_,rfl⟩,rfl⟩
 ·go_wp2;go_ret
  exact⟨⟨_,_,rfl⟩,rfl⟩):P:=h
theorem j0Z(h:P:=by
 repeat' split
 all_goals first|(exfalso;omega)|rfl|(congr 1;omega)):P:=h
theorem j5z(h:P:=by
 rintro e w1 ⟨⟨a,b,rfl⟩,rfl⟩;go_wp2;go_ret
 exact⟨_,1,_,_,rfl,Nat.le_refl _,Reads.litAt _ _ _ 2 1 _ (by simp) rfl,by simp [Value.oneCell'],Keeps.alloc _ _⟩):P:=h
theorem j5U(h:P:=by
 have hne:¬b8=b9:=by rw [hb8e,hb9e];omega
 have hn8:w7.heap.size<=b8:=by rw [hb8e];omega
 have hn9:w7.heap.size<=b9:=by rw [hb9e];omega
 rw [<-hb9e] at hb9⊢;rw [<-hb8e] at hb8⊢
 exact j6R):P:=h
theorem j5v(h:P:=by
 obtain⟨Hn8,Hn9⟩:=hid2 hn8 hn9;clear hn9 hn8;go_wp2;go_roundw
 case rel=>exact⟨i+1,by go_num,by omega,Hn8.out,Hn9.out⟩
 case measure=>simp [intOf];omega):P:=h
theorem j3o(h:P:=by
 intro a' w' h;refine⟨h.1,Nat.lt_of_lt_of_le h.2 ?_⟩;have e1:=Cq (Aa Hd2.out.box 1);show(20-Ci _ _ 1).toNat<=(20000-Ci _ _ 0).toNat+100
 rw [e1];omega):P:=h
theorem j4D(h:P:=by
 obtain⟨Ht,E1,E2,E3,Hrow,Hk,Hup⟩:=hid7 ht e1 e2 e3 hrow hk hup;clear hup hk hrow e3 e2 e1 ht;go_wp2;go_end0
 exact⟨rfl,Y,Ht.out,Hup.out,Hrow.out,Hk.out⟩):P:=h
theorem j3D(h:P:=by
 have h1':decide (-1000000000000000<=v)=true:=by rw [decide_eq_true_iff];omega
 have Hf:=Lib.hid hf;clear hf;go_enter Tryz.func155,Tryz.ntmps155
 exact jv):P:=h
theorem j4S(h:P:=by
 have h1:=congrArg (λl=>l[k]?) Hrv2.out.l1;simp only [List.getElem?_map,hx,Option.map_some,endSt] at h1;rw [Fs Hl1.out hr1.out] at h1
 simpa using h1):P:=h
theorem j09(h:P:=by
 rw [Nat.mul_one,Nat.add_zero] at this;exact this):P:=h
theorem j4C(h:P:=by
 refine j03 ?_;clear hK K;refine j04 ?_;intro hrow2 hkw;have hb2:=Hbs.out.down Hmono.out hih hhj (by rw [Hxd.out,Hyd.out];omega)
 exact j6M):P:=h
theorem j4N(h:P:=by
 have h1:=congrArg (λl=>l[k]?) Hrv.out.l0;simp only [List.getElem?_map,hx,Option.map_some,endSt] at h1;rw [Fs Hl0.out hr0.out] at h1
 simpa using h1):P:=h
theorem j4B(h:P:=by
 refine j03 ?_;clear hK K;refine j04 ?_;intro hrow2 hkw;have hb2:=Hbs.out.up Hmono.out hih hhj (by rw [Hxd.out,Hyd.out];omega)
 exact j6N):P:=h
theorem j4w(h:P:=by
 have:=hn.same (k-1) j1 j1
 exact⟨_,_,by rwa [show 1+(k-1)=k by omega,show n+(mlen y m-d)+1+(k-1)=n-d+mlen y m+k by omega] at this⟩):P:=h
theorem j1M(h:P:=by
 have Hf:=Lib.hid hf;clear hf;go_enter Tryz.func295,Tryz.ntmps295
 exact jv):P:=h
theorem j1O(h:P:=by
 have Hf:=Lib.hid hf;clear hf;go_enter Tryz.func200,Tryz.ntmps200
 exact jv):P:=h
theorem j1T(h:P:=by
 have Hf:=Lib.hid hf;clear hf;go_enter Tryz.func205,Tryz.ntmps205
 exact jv):P:=h
theorem j2b(h:P:=by
 have Hf:=Lib.hid hf;clear hf;go_enter Tryz.func254,Tryz.ntmps254
 exact jv):P:=h
theorem j2x(h:P:=by
 have Hf:=Lib.hid hf;clear hf;go_enter Tryz.func220,Tryz.ntmps220
 exact jv):P:=h
theorem j2B(h:P:=by
 have Hf:=Lib.hid hf;clear hf;go_enter Tryz.func266,Tryz.ntmps266
 exact jv):P:=h
theorem j2D(h:P:=by
 have Hf:=Lib.hid hf;clear hf;go_enter Tryz.func270,Tryz.ntmps270
 exact jv):P:=h
theorem j6z(h:P:=by
 go_wp2;go_ret
 exact⟨_,rfl,by rw [<-Hpl.out];exact Hat.out.1,Hk0.out.nt Hat.out.2.1,λg hg=>Nat.le_trans Hk0.out.size (Hat.out.2.2 g hg)⟩):P:=h
theorem j3t(h:P:=by
 go_roundw
 case rel=>exact⟨i+1,s+x,rfl,by go_num,by omega,Hsn.out,Hall2.out,by omega,by omega,Hk.out⟩
 case measure=>simp [intOf];omega):P:=h
theorem j61(h:P:=by
 go_wp2;go_roundw
 case rel=>exact⟨i+1,by rw [Hnx.out],by go_num,by omega,by first|rfl|trivial⟩
 case measure=>simp [intOf];omega):P:=h
theorem j54(h:P:=by
 have hne:¬b8=b9:=by rw [hb8e,hb9e];omega
 have hn8:w7.heap.size<=b8:=by rw [hb8e];omega
 have hn9:w7.heap.size<=b9:=by rw [hb9e];omega
 rw [<-hb9e] at hb9⊢;rw [<-hb8e] at hb8⊢
 exact j6S):P:=h
theorem j26(h:P:=by
 rw [<-HO2.out,hdr2,Option.map_map]
 congr 1
 funext l
 simp):P:=h
theorem j5w(h:P:=by
 subst hz';obtain⟨Hr,Hri,Hb,Hz,Hbx⟩:=hid5 hr hri hb hz hbx;clear hbx hz hb hri hr;go_enter Tryz.func221,Tryz.ntmps221
 exact j1Q):P:=h
theorem j2f(h:P:=by
 have:=Gx (x:=dY fr+1) (y:=9999+1) (by have:=h.y0;omega) j1
 omega):P:=h
theorem j2y(h:P:=by
 have hf:Ps.Ar ⟨L,cr,du⟩=false:=by unfold Ps.Ar;simp [m1]
 exact j1k):P:=h
theorem j2m(h:P:=by
 exact⟨λe=>by have:=Bh h.bal e;omega,λe=>by have:=Bh h.rts e;omega⟩):P:=h
theorem j0L(h:P:=by
 go_ret
 exact⟨_,rfl,by rw [Hf.out,Hj0.out],rfl⟩):P:=h
theorem j2z(h:P:=by
 have hf:Ps.Ar ⟨L,cr,du⟩=false:=by unfold Ps.Ar;simp [m2]
 exact j1k):P:=h
theorem j2A(h:P:=by
 go_wp2;go_ret
 exact⟨_,rfl,Hrow.out,Hfr.out⟩):P:=h
theorem j6e(h:P:=by
 go_wp2
 exact bodyPost_ret (v:= .tuple #[.int .i64 0,.int .i64 10]) j1y rfl ⟨rfl,Hk2.out⟩):P:=h
theorem j0O(h:P:=by
 go_ret
 exact⟨rfl,(Keeps.alloc w _).nt Hk.out⟩):P:=h
theorem j3T(h:P:=by
 have Hz:=Lib.hid hz;clear hz;by_cases q6:ki<1
 ·exact jA
 ·skip
  by_cases q8:6<ki
  ·exact jA
  ·exact j0h):P:=h
theorem j2P(h:P:=by
 go_wp2_with fail;go_meet
 exact⟨rfl,by first|rfl|trivial⟩):P:=h
theorem j5i(h:P:=by
 go_wp2_with fail;go_roundw
 case rel=>exact⟨k+1,_,by go_num,by omega,Happ.out⟩
 case measure=>simp [intOf];omega):P:=h
theorem j1N(h:P:=by
 rw [List.getElem?_eq_none j1,List.getElem?_eq_none j1]):P:=h
theorem j47(h:P:=by
 go_wp2;go_roundw
 case rel=>exact⟨j+1,by go_num,by omega,Hnew.out,Hkn.out⟩
 case measure=>simp [intOf];omega):P:=h
theorem j2t(h:P:=by
 injection hg with h1;injection h1 with _ h1 _
 exact absurd h1 hne'):P:=h
theorem j4b(h:P:=by
 obtain⟨Hr,HX,Hri,Hco,Hb,Hbx,He,HN,HM⟩:=hid9 hr hX hri hco hb hbx he hN hM;clear hM hN he hbx hb hco hri hX hr
 exact j4c):P:=h
theorem j0m(h:P:=by
 go_wp2;go_ret
 exact⟨rfl,Hk1.out⟩):P:=h
theorem j2N(h:P:=by
 have Hzz:=Lib.hid hzt;clear h hzt;subst hmn
 exact j60):P:=h
theorem j5Z(h:P:=by
 go_wp2_with fail;go_meet
 exact⟨by rw [<-Hzz.out]<;>first|rfl|(congr 1;rw [decide_eq_false_iff_not];omega),Hk1.out⟩):P:=h
theorem j45(h:P:=by
 go_wp2;go_roundw
 case rel=>exact⟨i+1,by go_num,by omega,Hnew.out,Hkn.out⟩
 case measure=>simp [intOf];omega):P:=h
theorem j6s(h:P:=by
 go_wp2_with fail;go_roundw
 case rel=>exact Hfin.out
 case measure=>simp [intOf];have:=Hdl.out;omega):P:=h
theorem j4L(h:P:=by
 obtain⟨j,hj⟩:=List.getElem?_of_mem hy;rcases hmem j y hj with h|h
 ·exact .inl h.2
 ·exact .inr ⟨j,h⟩):P:=h
theorem jV(h:P:=by
 go_ret
 exact⟨rfl,Hkw.out⟩):P:=h
theorem j08(h:P:=by
 exact HS.out.keep (Keeps.drew _)):P:=h
theorem j36(h:P:=by
 rw [hr2] at hr;injection hr with hv hw
 right
 exact⟨w.heap.size,by rw [<-hv];rfl,Nat.le_refl _⟩):P:=h
theorem j38(h:P:=by
 simp only [Value.slice.injEq,true_and] at he
 exact⟨g,o,he.1,by have:=hc 0 j2;simpa using this⟩):P:=h
theorem j0N(h:P:=by
 go_ret
 exact⟨by rw [<-Hd.out];rfl,rfl⟩):P:=h
theorem j3Q(h:P:=by
 have h:r=true:=by rw [hr];rfl
 subst h;clear hr;go_enter Tryz.func207,Tryz.ntmps207
 exact jE):P:=h
theorem j3O(h:P:=by
 intro w' hSw;unfold exS at hSw;go_simp;(first|done|(constructor<;>with_reducible rfl)|with_reducible rfl)):P:=h
theorem j3Y(h:P:=by
 subst m2;rw [show minI total total=total by unfold minI;rw [if_pos j1]] at hzz
 exact j1W):P:=h
theorem j5G(h:P:=by
 subst m2;rw [show minI total total=total by unfold minI;rw [if_pos j1]] at hzz
 exact j0x):P:=h
theorem j5r(h:P:=by
 go_roundw
 case rel=>exact⟨k+1,by go_num,by omega,Hk.out⟩
 case measure=>simp [intOf];omega):P:=h
theorem j1j(h:P:=by
 go_wp2;go_ret
 exact⟨rfl,Hkp.out⟩):P:=h
theorem j3v(h:P:=by
 go_wp2;go_ret
 exact⟨_,rfl,World.ownsRow_nil _ _ _ _,Keeps.refl _ _,by simp [Value.ownBlock]⟩):P:=h
theorem j1F(h:P:=by
 go_ret
 exact⟨by rw [Hf.out];rfl,rfl⟩):P:=h
theorem j37(h:P:=by
 rcases Nat.lt_or_ge k L.length with h'|h'
 ·exact h'
 ·simp [List.getElem?_eq_none h'] at hx):P:=h
theorem j5g(h:P:=by
 show walkD t T n (td-(s.day+1)).toNat _ _=Z;rw [show(td-(s.day+1)).toNat=d by omega]
 exact hw):P:=h
theorem j5j(h:P:=by
 go_ret
 exact⟨rfl,((Keeps.alloc _ _).trans (Keeps.alloc _ _)).trans (Hk1.out.mono (by simp))⟩):P:=h
theorem j6U(h:P:=by
 skip
 obtain rfl:z=true:=by rw [<-Hz.out];simp [mayA,Hbr.out,Hmn.out,HN.out, *]
 exact j6P):P:=h
theorem j3m(h:P:=by
 obtain⟨Hlp,Hf⟩:=hid2 hlp hf;clear hf hlp;go_enter Tryz.func245,Tryz.ntmps245
 exact j6V):P:=h
theorem j3n(h:P:=by
 obtain⟨Hlp,Hf⟩:=hid2 hlp hf;clear hf hlp;go_enter Tryz.func244,Tryz.ntmps244
 exact j6V):P:=h
theorem j4z(h:P:=by
 obtain⟨j,hj⟩:=List.getElem?_of_mem hx
 exact hall j x (by rw [<-Hn.out];exact Cj hj) hj):P:=h
theorem j6r(h:P:=by
 have Hfin:=Lib.hid hfin;clear hfin;go_wp2_with fail;go_meet
 exact Hfin.out):P:=h
theorem j3E(h:P:=by
 obtain⟨h1,h2⟩:=List.getElem?_eq_some_iff.1 hx
 rw [List.drop_eq_getElem_cons h1,h2]):P:=h
theorem j0z(h:P:=by
 exact(HbS.out _ (Hk.out.nt (Keeps.drew _)))):P:=h
theorem j5t(h:P:=by
 go_roundw
 case rel=>exact⟨k+1,rfl,by go_num,by omega,Hk.out⟩
 case measure=>simp [intOf];omega):P:=h
theorem j3x(h:P:=by
 have Hend:=Lib.hid hend;clear hend hown1 hk1 hfr;go_wp2;go_ret
 exact⟨_,rfl,Hend.out⟩):P:=h
theorem j3i(h:P:=by
 obtain rfl:i=n:=by omega
 obtain⟨Hrow,Hfr⟩:=hid2 hrow hfr;clear hfr hrow
 exact j2A):P:=h
theorem j67(h:P:=by
 rw [if_pos c15] at hz;rw [decide_eq_true c15];clear c15
 exact jK):P:=h
theorem j6O(h:P:=by
 obtain⟨Hf,Hsc,HN,Hall,Hk⟩:=hid5 hf hsc hN hall hk;clear hk hall hN hsc hf
 exact j3s):P:=h
theorem j5u(h:P:=by
 rw [if_pos j1] at hmn;have Hmn:=Lib.hid hmn;clear hmn;subst hle
 exact j0y):P:=h
theorem j0H(h:P:=by
 unfold insR
 rw [hlen,Hri.out,hpl]):P:=h
variable{T:Prop}(c:T)
include c
theorem jh(h:Bx T->P:=by
 intro cZ;refine Bt rfl (λK hK=> ?_);go_simp;refine hK.out _ _ ?_;clear hK K;refine j5 ?_;refine Ao ?_
 exact cZ.1):P:=h ⟨c⟩
theorem js(h:Bx T->P:=by
 intro cZ;have r0:=Aa hres 0;have r1:=Aa hres 1;have r2:=Aa hres 2;have rf0:=Ab hres 0;have rf1:=Ab hres 1;have rf2:=Ab hres 2;have rl:=lt_of_block hres;have sr0:=Aa hend.1 0;have sr1:=Aa hend.1 1;have sr2:=Aa hend.1 2;have hgv:=hend.2
 revert r0 r1 r2 rf0 rf1 rf2 rl sr0 sr1 sr2 hgv
 exact cZ.1):P:=h ⟨c⟩
theorem jj(h:Bx T->P:=by
 intro cZ;refine j7 ?_;intro K hK;refine jn ?_;clear hK K;refine j5 ?_
 exact cZ.1):P:=h ⟨c⟩
theorem j3y(h:Bx T->P:=by
 intro cZ;have k0:Keeps (λi=>i=w.heap.size) w1 (w1.setCell ⟨w.heap.size,0,none⟩ v1):=Keeps.setCell _ _ _ rfl;have hrs2:=Ac hrs k0 (by simp);have hb3:((((w1.setCell ⟨w.heap.size,0,none⟩ v1).setCell ⟨w.heap.size+1,0,none⟩ v1).setCell ⟨w.heap.size+1,1,none⟩ (.int .i64 cr)).setCell ⟨w.heap.size+1,2,none⟩ (.int .i64 du)).heap[w.heap.size+1]?=some (.cells #[v1,.int .i64 cr,.int .i64 du] 35 (0,0)):=(heap_setCell_same _ _ 2 _ _ _ ((heap_setCell_same _ _ 1 _ _ _ ((heap_setCell_same _ _ 0 _ _ _ hrs2).trans rfl)).trans rfl)).trans rfl
 have k3:Keeps (λi=>w.heap.size<=i) w1 ((((w1.setCell ⟨w.heap.size,0,none⟩ v1).setCell ⟨w.heap.size+1,0,none⟩ v1).setCell ⟨w.heap.size+1,1,none⟩ (.int .i64 cr)).setCell ⟨w.heap.size+1,2,none⟩ (.int .i64 du)):=
  (((Keeps.setCell (S:=λi=>w.heap.size<=i) _ _ _ (Nat.le_refl _)).trans (Keeps.setCell _ _ _ (.inl (by simp)))).trans (Keeps.setCell _ _ _ (.inl (by simp)))).trans (Keeps.setCell _ _ _ (.inl (by simp)))
 have k4:Keeps (λi=>i=w.heap.size\/i=w.heap.size+1) w1 ((((w1.setCell ⟨w.heap.size,0,none⟩ v1).setCell ⟨w.heap.size+1,0,none⟩ v1).setCell ⟨w.heap.size+1,1,none⟩ (.int .i64 cr)).setCell ⟨w.heap.size+1,2,none⟩ (.int .i64 du)):=
  (((Keeps.setCell (S:=λi=>i=w.heap.size\/i=w.heap.size+1) _ _ _ (.inl rfl)).trans (Keeps.setCell _ _ _ (.inl (.inr rfl)))).trans (Keeps.setCell _ _ _ (.inl (.inr rfl)))).trans (Keeps.setCell _ _ _ (.inl (.inr rfl)))
 revert k0 hrs2 hb3 k3 k4
 exact cZ.1):P:=h ⟨c⟩
theorem jL(h:Bx T->P:=by
 intro cZ;have hbx:∀W,Keeps (λ_=>False) (w.alloc (.cells #[.slice ad n cap,.int .i64 cr,.int .i64 du] 35)) W->W.heap[w.heap.size]?=some (.cells #[.slice ad n cap,.int .i64 cr,.int .i64 du] 35 (0,0)):=λW hW=>Ac (heap_alloc_new w _) hW (by simp)
 revert hbx
 exact cZ.1):P:=h ⟨c⟩
theorem j4j(h:Bx T->P:=by
 intro cZ;have k0:Keeps (λi=>i=R) W (W.setCell ⟨R,0,none⟩ v0):=Keeps.setCell _ _ _ rfl;have k1:=k0.trans (Keeps.setCell (S:=λj=>j=R\/W.heap.size<=j) (W.setCell ⟨R,0,none⟩ v0) ⟨R,1,none⟩ v1 (.inl rfl));have k2:=k1.trans (Keeps.setCell (S:=λj=>j=R\/W.heap.size<=j) ((W.setCell ⟨R,0,none⟩ v0).setCell ⟨R,1,none⟩ v1) ⟨R,2,none⟩ v2 (.inl rfl));have k3:=k2.trans (Keeps.setCell (S:=λj=>j=R\/W.heap.size<=j) (((W.setCell ⟨R,0,none⟩ v0).setCell ⟨R,1,none⟩ v1).setCell ⟨R,2,none⟩ v2) ⟨R,3,none⟩ v3 (.inl rfl));have k4:=k3.trans (Keeps.setCell (S:=λj=>j=R\/W.heap.size<=j) ((((W.setCell ⟨R,0,none⟩ v0).setCell ⟨R,1,none⟩ v1).setCell ⟨R,2,none⟩ v2).setCell ⟨R,3,none⟩ v3) ⟨R,4,none⟩ v4 (.inl rfl));have k5:=k4.trans (Keeps.setCell (S:=λj=>j=R\/W.heap.size<=j) (((((W.setCell ⟨R,0,none⟩ v0).setCell ⟨R,1,none⟩ v1).setCell ⟨R,2,none⟩ v2).setCell ⟨R,3,none⟩ v3).setCell ⟨R,4,none⟩ v4) ⟨R,5,none⟩ v5 (.inl rfl));have k6:=k5.trans (Keeps.setCell (S:=λj=>j=R\/W.heap.size<=j) ((((((W.setCell ⟨R,0,none⟩ v0).setCell ⟨R,1,none⟩ v1).setCell ⟨R,2,none⟩ v2).setCell ⟨R,3,none⟩ v3).setCell ⟨R,4,none⟩ v4).setCell ⟨R,5,none⟩ v5) ⟨R,6,none⟩ v6 (.inl rfl))
 revert k0 k1 k2 k3 k4 k5 k6
 exact cZ.1):P:=h ⟨c⟩
theorem je(h:Bx T->P:=by
 intro cZ;refine jR ?_;refine j7 ?_;intro K hK
 revert K hK
 exact cZ.1):P:=h ⟨c⟩
theorem j21(h:Bx T->P:=by
 intro cZ;refine j49 ?_;intro hkw;have hb1:=Hbx.out w1 ((Keeps.alloc _ _).nt hk1);refine j0c ?_;intro hrs;have b0:=Aa hb1 0;have b1:=Aa hb1 1;have b2:=Aa hb1 2;have bl:=lt_of_block hb1
 revert hkw hb1 hrs b0 b1 b2 bl
 exact cZ.1):P:=h ⟨c⟩
theorem j1t(h:Bx T->P:=by
 intro cZ;have hres:w1.heap[w.heap.size+1]?=some (.cells #[.slice none 0 0,.int .i64 0,.int .i64 0] 35 (0,0)):=Ac (Av _ _ (by simp)) hk1 (by simp);have hkw:=j6Q
 revert hres hkw
 exact cZ.1):P:=h ⟨c⟩
theorem jB(h:Bx T->P:=by
 intro cZ;refine je ?_;intro K hK;refine hK.out _ _ (by exact hs8.keep (S:=λ_=>False) (Keeps.alloc _ _) (by simp) (by simp) (by simp)) ?_;clear hK K;refine j5 ?_
 exact cZ.1):P:=h ⟨c⟩
theorem j04(h:Bx T->P:=by
 intro cZ;refine jg ?_;have hrow2:=(Hrow.out.keep hk1).keep hk2;have hkw:=(Hk.out.trans (hk1.mono (by simp))).trans (hk2.mono (by simp))
 revert hrow2 hkw
 exact cZ.1):P:=h ⟨c⟩
theorem j0A(h:Bx T->P:=by
 intro cZ;have hkw:Keeps (λ_=>False) (w.alloc (.cells #[.int .i64 ki,.int .i64 da,.int .i64 tr,.int .i64 am,.int .i64 re] 32)) w1:=Hk.out.nt hk1;have hread:=(Reads.Ay Hr.out).keeps ((Keeps.alloc w _).nt hkw) (by simp);obtain⟨Hkw,Hread⟩:=hid2 hkw hread;clear hread hkw
 revert Hkw Hread
 exact cZ.1):P:=h ⟨c⟩
theorem jU(h:Bx T->P:=by
 intro cZ;have hmk:=fun(W:World)=>run_makeSlice (P:=Tryz.prog) W 33 2 i0 (.int .i64 0) Tryz.underlying33 hi hi0 .i64 .i64 (n:Int) (n:Int) j1 j1 (by rw [hi1];omega) (by rw [hi2];omega) j1
 revert hmk
 exact cZ.1):P:=h ⟨c⟩
theorem j4t(h:Bx T->P:=by
 intro cZ;have hst:=AB.start #[.slice ad n cap,.int .i64 cr,.int .i64 du] #[.int .i64 ki,.int .i64 da,.int .i64 tr,.int .i64 am,.int .i64 re] w;have hpb:(((w.alloc (.cells #[.slice ad n cap,.int .i64 cr,.int .i64 du] 35)).alloc (.cells #[.int .i64 ki,.int .i64 da,.int .i64 tr,.int .i64 am,.int .i64 re] 32)).alloc (.cells #[.slice none 0 0,.int .i64 0,.int .i64 0] 35)).heap[w.heap.size]?=some (.cells #[.slice ad n cap,.int .i64 cr,.int .i64 du] 35 (0,0)):=Ap (Ap (heap_alloc_new w _) _) _;obtain⟨W0,hW0⟩:∃W0,W0=(((w.alloc (.cells #[.slice ad n cap,.int .i64 cr,.int .i64 du] 35)).alloc (.cells #[.int .i64 ki,.int .i64 da,.int .i64 tr,.int .i64 am,.int .i64 re] 32)).alloc (.cells #[.slice none 0 0,.int .i64 0,.int .i64 0] 35)):=⟨_,rfl⟩
 revert hst hpb W0 hW0
 exact cZ.1):P:=h ⟨c⟩
theorem j06(h:Bx T->P:=by
 intro cZ;have k:∀{p:Addr} {u:Value},W.cell? p=some u->W'.cell? p=some u:=λhc=>(hk.cell (Ai hc) (by simp)).trans hc
 revert k
 exact cZ.1):P:=h ⟨c⟩
theorem j2l(h:Bx T->P:=by
 intro cZ;have nx:∀{e:TypeId} {b:Nat} {c:Array Value},w4.heap[b]?=some (.cells c e (0,0))->e≠2->¬x.v.ownBlock=some b:=λhb hne=>Ag hrx hb hne;have nr:∀{e:TypeId} {sz m:Nat} {u:Value} {xs:List Value},w4.ownsRow 0 e sz u m xs->e≠2->∀b,u.ownBlock=some b->¬x.v.ownBlock=some b:=λhr' hne b hb e=>Cm hr' hrx hne hb e
 revert nx nr
 exact cZ.1):P:=h ⟨c⟩
theorem j1s(h:Bx T->P:=by
 intro cZ;have hbx:=j1P;refine j0c ?_;intro hrs;have hkw:=j6Q
 revert hbx hrs hkw
 exact cZ.1):P:=h ⟨c⟩
theorem j2V(h:Bx T->P:=by
 intro cZ;refine ji ?_;refine Ae rfl (λK hK=> ?_);refine Ah rfl (.const (.slice none 0 0)) (.tmp 25) 25 rfl 0 32 i0 _ 5 40 Tryz.underlying25 Hi.out Hi0.out Hi1.out Hi2.out rfl j2 (.slice none 0 0) 0 [] rfl (World.ownsRow_nil _ _ _ _) _ 0 _ rfl ((Hread.out.preL Ev.Aq 0 Hkn.out).alloc _) (Ev.one _) j6 j1 (Nat.zero_le _) ?_;intro v2 w2 hown2 hk2 hf2;refine j0t ?_;intro hfr2;have hbs2:=HbS.out _ hfr2.1
 revert K hK v2 w2 hown2 hk2 hf2 hfr2 hbs2
 exact cZ.1):P:=h ⟨c⟩
theorem j4r(h:Bx T->P:=by
 intro cZ;have hst9:=Cy hcb3.r1 (.int .i64 0) (.int .i64 0) (.int .i64 0) (.int .i64 0) (.slice none 0 0) (.int .i64 0) (.int .i64 0) (.int .i64 0) (.bool false);obtain⟨hr9,k9⟩:=hst9;have hst3:=Bb (Ac hcb3.r2 k9 j1) (.slice none 0 0) (.int .i64 0) (.int .i64 0);obtain⟨hr10,k10⟩:=hst3;have hr9':=Ac hr9 k10 j1;have hkf:=(hcb3.kp.trans (k9.mono λi _ e=> .inr j28)).trans (k10.mono λi _ e=> .inr j29);have ra0:=Aa (hcb2).r1 0;have rb0:=Ab (hcb2).r1 0;have ra1:=Aa (hcb2).r1 1;have rb1:=Ab (hcb2).r1 1;have ra2:=Aa (hcb2).r1 2;have rb2:=Ab (hcb2).r1 2;have ra3:=Aa (hcb2).r1 3;have rb3:=Ab (hcb2).r1 3;have ra4:=Aa (hcb2).r1 4;have rb4:=Ab (hcb2).r1 4;have ra5:=Aa (hcb2).r1 5;have rb5:=Ab (hcb2).r1 5;have ra6:=Aa (hcb2).r1 6;have rb6:=Ab (hcb2).r1 6;have ra7:=Aa (hcb2).r1 7;have rb7:=Ab (hcb2).r1 7;have ra8:=Aa (hcb2).r1 8;have rb8:=Ab (hcb2).r1 8;have rc0:=Aa (hcb2).r2 0;have rd0:=Ab (hcb2).r2 0;have rc1:=Aa (hcb2).r2 1;have rd1:=Ab (hcb2).r2 1;have rc2:=Aa (hcb2).r2 2;have rd2:=Ab (hcb2).r2 2
 revert hr9 k9 hr10 k10 hr9' hkf ra0 rb0 ra1 rb1 ra2 rb2 ra3 rb3 ra4 rb4 ra5 rb5 ra6 rb6 ra7 rb7 ra8 rb8 rc0 rd0 rc1 rd1 rc2 rd2
 exact cZ.1):P:=h ⟨c⟩
theorem j52(h:Bx T->P:=by
 intro cZ;refine j5 ?_;refine j7 ?_;intro K hK;refine hK.out _ _ (by exact hs7.keep (Keeps.nt j2r (Keeps.alloc _ _))) ?_;clear hK K;refine j5 ?_;obtain⟨wE,hwE⟩:∃x,x=((w5).alloc (.cells #[.int .i64 0,.int .i64 0,.int .i64 0,.int .i64 0,.slice none 0 0,.int .i64 0,.int .i64 0,.int .i64 0,.bool false] 58)).alloc (.cells #[.slice none 0 0,.int .i64 0,.int .i64 0] 35):=⟨_,rfl⟩
 revert wE hwE
 exact cZ.1):P:=h ⟨c⟩
theorem j6E(h:Bx T->P:=by
 intro cZ;obtain⟨wF,hwF⟩:∃y,y=((((((((((((wE.setCell ⟨b8,0,none⟩ (.int .i64 x.cycle)).setCell ⟨b8,1,none⟩ (.int .i64 x.fr)).setCell ⟨b8,2,none⟩ (.int .i64 x.te)).setCell ⟨b8,3,none⟩ (.int .i64 x.due)).setCell ⟨b8,4,none⟩ (.slice al x.lines.length cl2)).setCell ⟨b8,5,none⟩ (.int .i64 x.total)).setCell ⟨b8,6,none⟩ (.int .i64 x.credit)).setCell ⟨b8,7,none⟩ (.int .i64 x.min)).setCell ⟨b8,8,none⟩ (.bool x.grace)).setCell ⟨b9,0,none⟩ (.slice ab2 q.bal.length cb2)).setCell ⟨b9,1,none⟩ (.int .i64 q.cr)).setCell ⟨b9,2,none⟩ (.int .i64 q.du)):=⟨_,rfl⟩
 revert wF hwF
 exact cZ.1):P:=h ⟨c⟩
theorem jM(h:Bx T->P:=by
 intro cZ;have r0:=Aa hrs 0;have r1:=Aa hrs 1;have r2:=Aa hrs 2;have rf0:=Ab hrs 0;have rf1:=Ab hrs 1;have rf2:=Ab hrs 2;have rl:=lt_of_block hrs
 revert r0 r1 r2 rf0 rf1 rf2 rl
 exact cZ.1):P:=h ⟨c⟩
theorem j1Z(h:Bx T->P:=by
 intro cZ;obtain⟨p1,r1,hp⟩:∃p1 r1,intoL B (rankL false R) m=(p1,r1):=⟨_,_,rfl⟩;obtain⟨q1,r2,hq⟩:∃q1 r2,intoL (List.zipWith (· - ·) B p1) (rankL true R) (a-m+r1)=(q1,r2):=⟨_,_,rfl⟩;have hpay:payL B R du a=(List.zipWith (·+·) p1 q1,m,r2):=by unfold payL;rw [hmin];simp only;rw [hp];simp only;rw [hq]
 rw [hpay]
 revert p1 r1 hp q1 r2 hq hpay
 exact cZ.1):P:=h ⟨c⟩
theorem j7(h:Bx T->P:=by
 intro cZ;refine Ae rfl (λK hK=> ?_);go_simp
 revert K hK
 exact cZ.1):P:=h ⟨c⟩
theorem j3r(h:Bx T->P:=by
 intro cZ;obtain⟨y,hy⟩:=Aj (L:=out) (k:=i) (by rw [hrow.2];omega);have cy:=hrow.cell hy;have fy:=hrow.free i;have lO:=Ai hcO;have lB:=Ai hcB;have lg:=hrow.lt;have q1:(0:Int)<=k-1:=j3;have q2:k-1<(n:Int):=j3;have q3:(k-1).toNat=i:=j3;have q4:IntKind.i64.wrap (k-1)=k-1:=IntWalk.i64_in _ ⟨by omega,by omega⟩
 have hstep:intoS B (O.drop j) (out,b)=intoS B (O.drop (j+1)) (out.set i (minI b x),b-minI b x):=by
  obtain⟨h1,h2⟩:=List.getElem?_eq_some_iff.1 hk;rw [List.drop_eq_getElem_cons h1,h2];show intoS B (O.drop (j+1)) _=_;rw [q3,List.getD_eq_getElem?_getD,hx];rfl
 revert y hy cy fy lO lB lg q1 q2 q3 q4 hstep
 exact cZ.1):P:=h ⟨c⟩
theorem j0c(h:Bx T->P:=by
 intro cZ;have hrs:w1.heap[w.heap.size+1]?=some (.cells #[.slice none 0 0,.int .i64 0,.int .i64 0] 35 (0,0)):=Ac (Av _ _ (by simp)) hk1 (by simp)
 revert hrs
 exact cZ.1):P:=h ⟨c⟩
theorem j0F(h:Bx T->P:=by
 intro cZ;unfold Oper.wp execOp;simp only [ho,resolve,invoke,builtin,Sem.run_bind,Sem.run_pure,Result.andThen_ok,List.map_toArray,List.map_cons,List.map_nil,hs,hx,hr]
 exact cZ.1):P:=h ⟨c⟩
theorem ji(h:Bx T->P:=by
 intro cZ
 try simp only [aps]
 refine jR ?_
 exact cZ.1):P:=h ⟨c⟩
theorem j05(h:Bx T->P:=by
 intro cZ;refine hK.out _ _ (by exact(hs8.keep (S:=λ_=>False) (Keeps.alloc _ _) (by simp) (by simp) (by simp)).keep hk9 hsb hsg hsv) ?_
 exact cZ.1):P:=h ⟨c⟩
theorem j0U(h:Bx T->P:=by
 intro cZ;have r0:=Aa hrs8 0;have r1:=Aa hrs8 1;have r2:=Aa hrs8 2;have rf0:=Ab hrs8 0;have rf1:=Ab hrs8 1;have rf2:=Ab hrs8 2;have rl:=lt_of_block hrs8;refine jo ?_;intro sr0 sr1 sr2
 revert r0 r1 r2 rf0 rf1 rf2 rl sr0 sr1 sr2
 exact cZ.1):P:=h ⟨c⟩
theorem j3f(h:Bx T->P:=by
 intro cZ;have hfr2:=((hat.fr.set (g:=g) (j:=k) rfl (.int .i64 ((i:Int)+1))).set (g:=g) (j:=k+1) rfl (.int .i64 y)).keep (Keeps.drew _);have q1:(0:Int)<=y-1:=j3;have q2:y-1<(n:Int):=j3;have q3:(y-1).toNat=m:=j3;have q4:IntKind.i64.wrap (y-1)=y-1:=IntWalk.i64_in _ ⟨by omega,by omega⟩;have q5:IntKind.i64.wrap (k:Int)=(k:Int):=IntWalk.i64_in _ ⟨by omega,by omega⟩;have q6:(k:Int)+1<(i:Int)+1:=j3;have q7:(k:Int)<(i:Int)+1:=j3;have q8:((k:Int)+1).toNat=k+1:=j3;have q9:(0:Int)<=(k:Int)+1:=j3
 revert hfr2 q1 q2 q3 q4 q5 q6 q7 q8 q9
 exact cZ.1):P:=h ⟨c⟩
theorem j11(h:Bx T->P:=by
 intro cZ;have okx:ok _:=Hok.out _ (List.mem_of_getElem? hx);have oky:ok _:=Hok.out _ (List.mem_of_getElem? hy);have hS:=twoS.of (hrow.keep (Keeps.drew _)) hx hy;have hxd:=Dq hx;have hyd:=Dq hy
 revert okx oky hS hxd hyd
 exact cZ.1):P:=h ⟨c⟩
theorem ja(h:Bx T->P:=by
 intro cZ;have R0':=Sr0.out;have R1':=Sr1.out;have R2':=Sr2.out
 revert R0' R1' R2'
 exact cZ.1):P:=h ⟨c⟩
theorem j2a(h:Bx T->P:=by
 intro cZ;have sa0:=Aa (hr9') 0;have sa1:=Aa (hr9') 1;have sa2:=Aa (hr9') 2;have sa3:=Aa (hr9') 3;have sa4:=Aa (hr9') 4;have sa5:=Aa (hr9') 5;have sa6:=Aa (hr9') 6;have sa7:=Aa (hr9') 7;have sa8:=Aa (hr9') 8;have sb0:=Aa (hr10) 0;have sb1:=Aa (hr10) 1;have sb2:=Aa (hr10) 2;obtain⟨Sa0,Sa1,Sa2,Sa3,Sa4,Sa5,Sa6,Sa7,Sa8⟩:=hid9 sa0 sa1 sa2 sa3 sa4 sa5 sa6 sa7 sa8;clear sa8 sa7 sa6 sa5 sa4 sa3 sa2 sa1 sa0;obtain⟨Sb0,Sb1,Sb2⟩:=hid3 sb0 sb1 sb2;clear sb2 sb1 sb0
 revert Sa0 Sa1 Sa2 Sa3 Sa4 Sa5 Sa6 Sa7 Sa8 Sb0 Sb1 Sb2
 exact cZ.1):P:=h ⟨c⟩
theorem j2T(h:Bx T->P:=by
 intro cZ;refine Ae rfl (λK hK=> ?_);refine Ah rfl (.const (.slice none 0 0)) (.tmp 25) 25 rfl 0 32 i0 _ 5 40 Tryz.underlying25 Hi.out Hi0.out Hi1.out Hi2.out rfl j2 (.slice none 0 0) 0 [] rfl (World.ownsRow_nil _ _ _ _) _ 0 _ rfl (Hread.out.preL Ev.Aq 0 Hkn.out) (Ev.one _) j6 j1 (Nat.zero_le _) ?_;intro v2 w2 hown2 hk2 hf2;have hfr2:=j0r;have hbs2:=HbS.out _ hfr2.1
 revert K hK v2 w2 hown2 hk2 hf2 hfr2 hbs2
 exact cZ.1):P:=h ⟨c⟩
theorem j55(h:Bx T->P:=by
 intro cZ;refine j5 ?_;refine j7 ?_;intro K hK;refine hK.out _ _ (by exact hs7.keep (Keeps.nt j2s (Keeps.alloc _ _))) ?_;clear hK K;refine j5 ?_;obtain⟨wE,hwE⟩:∃x,x=((w5).alloc (.cells #[.slice none 0 0,.int .i64 0,.int .i64 0] 35)).alloc (.cells #[.int .i64 0,.int .i64 0,.int .i64 0,.int .i64 0,.slice none 0 0,.int .i64 0,.int .i64 0,.int .i64 0,.bool false] 58):=⟨_,rfl⟩
 revert wE hwE
 exact cZ.1):P:=h ⟨c⟩
theorem j4f(h:Bx T->P:=by
 intro cZ
 have hdr:intrO g (L.drop k) ((SB.map SI.L).drop k) ((SR.map SI.L).drop k)=if(g&&gr)=true then(intrO g (L.drop (k+1)) ((SB.map SI.L).drop (k+1)) ((SR.map SI.L).drop (k+1))).map (λl=>0::l) else if(ofR Lb Lr).2=0 then(intrO g (L.drop (k+1)) ((SB.map SI.L).drop (k+1)) ((SR.map SI.L).drop (k+1))).map (λl=>(ofR Lb Lr).1::l) else none:=by
  rw [Br hx,Br (show(SB.map SI.L)[k]?=some Lb by rw [List.getElem?_map,hsb];rfl),Br (show(SR.map SI.L)[k]?=some Lr by rw [List.getElem?_map,hsr];rfl)];rfl
 obtain⟨m,hmm⟩:∃m,Lr.length=m:=⟨_,rfl⟩
 revert hdr m hmm
 exact cZ.1):P:=h ⟨c⟩
theorem j6D(h:Bx T->P:=by
 intro cZ;obtain⟨hb8',k8⟩:=Cy hb8 (.int .i64 x.cycle) (.int .i64 x.fr) (.int .i64 x.te) (.int .i64 x.due) (.slice al x.lines.length cl2) (.int .i64 x.total) (.int .i64 x.credit) (.int .i64 x.min) (.bool x.grace);obtain⟨hb9',k9⟩:=Bb (Ac hb9 k8 hne2) (.slice ab2 q.bal.length cb2) (.int .i64 q.cr) (.int .i64 q.du);have hb8F:=Ac hb8' k9 (λe=>hne e);have kE8:=k7E.trans (k8.mono λi _ e=> .inr (by have e':i=b8:=e;omega));have kEF:=kE8.trans (k9.mono λi _ e=> .inr (by have e':i=b9:=e;omega));have hlnF:=k9.row (k8.row hlnE hl8) hl9;have hbnF:=k9.row (k8.row hbnE hq8) hq9;have hsA:=hs7.keep kE8;have hsB:=hs7.keep kEF
 revert hb8' k8 hb9' k9 hb8F kE8 kEF hlnF hbnF hsA hsB
 exact cZ.1):P:=h ⟨c⟩
theorem j2v(h:Bx T->P:=by
 intro cZ
 repeat ((first|refine Gl rfl (by rfl) ?_|refine Fb rfl (by rfl) ?_|(refine Gj (v:= ?_) rfl (by rfl) ?_ ?_;rotate_left;(· intro w' hSw;unfold wkS tbS at hSw;go_simp;(try with_reducible rfl));rotate_right));try simp only [aps])
 exact cZ.1):P:=h ⟨c⟩
theorem j10(h:Bx T->P:=by
 intro cZ;have hltI:(i:Int)<(j:Int):=j3;have hbhi:=hbs.hi';have hblo:=hbs.lo';obtain⟨h,hh⟩:∃h:Nat,((i:Int)+j) / 2=h:=⟨(i+j) / 2,by omega⟩;have hih:i<=h:=j3;have hhj:h<j:=j3
 revert hltI hbhi hblo h hh hih hhj
 exact cZ.1):P:=h ⟨c⟩
theorem j4T(h:Bx T->P:=by
 intro cZ;have hS3:enS B 15 g1 k (.slice (some ⟨g1,0,none⟩) n n) (.slice ax m cx) 13 (.slice (some ⟨gb,ob,none⟩) n cr) gb (ob+k) v1 (W0').drew:=(show enS B 15 g1 k (.slice (some ⟨g1,0,none⟩) n n) (.slice ax m cx) 13 (.slice (some ⟨gb,ob,none⟩) n cr) gb (ob+k) v1 (W0') from⟨Aa Hrv2.out.blk 15,hxv0▸Fw Hrv2.out.o1 hx,Aa Hrv2.out.blk 13,cb0⟩).keep (S:=λ_=>False) (Keeps.drew _) (by simp) (by simp) (by simp);have hdb:=Hrv2.out.db1 _ hxm
 revert hS3 hdb
 exact cZ.1):P:=h ⟨c⟩
theorem j2U(h:Bx T->P:=by
 intro cZ;refine j5 ?_;refine Ae rfl (λK hK=> ?_);refine Ah rfl (.tmp 26) (.tmp 28) 25 rfl 0 32 i0 _ 5 40 Tryz.underlying25 Hi.out Hi0.out Hi1.out Hi2.out rfl j2 _ 0 _ rfl (Hown2.out.alloc _) _ 1 _ rfl (Reads.litAt _ _ _ 5 1 _ jd rfl) j9 j6 j1 (Nat.zero_le _) ?_;intro v3 w3 hown3 hk3 hf3;have hfr3:=j0s
 revert K hK v3 w3 hown3 hk3 hf3 hfr3
 exact cZ.1):P:=h ⟨c⟩
theorem j5a(h:Bx T->P:=by
 intro cZ;dsimp only;refine hK.out _ _ (by exact hs7.keep (Keeps.nt j0p hk5)) ?_
 exact cZ.1):P:=h ⟨c⟩
theorem j0V(h:Bx T->P:=by
 intro cZ;have Sa0':=Sa0.out;have Sa1':=Sa1.out;have Sa2':=Sa2.out;have Sa3':=Sa3.out;have Sa4':=Sa4.out;have Sa5':=Sa5.out;have Sa6':=Sa6.out;have Sa7':=Sa7.out;have Sa8':=Sa8.out;have Sb0':=Sb0.out;have Sb1':=Sb1.out;have Sb2':=Sb2.out
 revert Sa0' Sa1' Sa2' Sa3' Sa4' Sa5' Sa6' Sa7' Sa8' Sb0' Sb1' Sb2'
 exact cZ.1):P:=h ⟨c⟩
theorem j4d(h:Bx T->P:=by
 intro cZ;have hbx:∀W,Keeps (λ_=>False) (w.alloc (.cells #[.int .i64 li,.slice adT n cT,.int .i64 cy,.int .i64 du,.int .i64 mf,.int .i64 mp,.int .i64 st] 24)) W->W.heap[w.heap.size]?=some (.cells #[.int .i64 li,.slice adT n cT,.int .i64 cy,.int .i64 du,.int .i64 mf,.int .i64 mp,.int .i64 st] 24 (0,0)):=λW hW=>Ac (heap_alloc_new w _) hW (by simp);obtain⟨O,hO⟩:∃O,intrO g L (SB.map SI.L) (SR.map SI.L)=O:=⟨_,rfl⟩;rw [hO];have hnn:((n:Int) !=(n:Int))=false:=by simp
 revert hbx O hO hnn
 exact cZ.1):P:=h ⟨c⟩
theorem j4O(h:Bx T->P:=by
 intro cZ;have hS3:enS B 14 g0 k (.slice (some ⟨g0,0,none⟩) n n) (.slice ax m cx) 10 (.slice (some ⟨gb,ob,none⟩) n cb) gb (ob+k) v0 (wq).drew:=(show enS B 14 g0 k (.slice (some ⟨g0,0,none⟩) n n) (.slice ax m cx) 10 (.slice (some ⟨gb,ob,none⟩) n cb) gb (ob+k) v0 (wq) from⟨Aa Hrv.out.blk 14,hxv0▸Fw Hrv.out.o0 hx,Aa Hrv.out.blk 10,cb0⟩).keep (S:=λ_=>False) (Keeps.drew _) (by simp) (by simp) (by simp);have hdb:=Hrv.out.db0 _ hxm
 revert hS3 hdb
 exact cZ.1):P:=h ⟨c⟩
theorem jo(h:Bx T->P:=by
 intro cZ;have sr0:=Aa hb9 0;have sr1:=Aa hb9 1;have sr2:=Aa hb9 2
 revert sr0 sr1 sr2
 exact cZ.1):P:=h ⟨c⟩
theorem j1U(h:Bx T->P:=by
 intro cZ;obtain⟨x,hx⟩:=Aj (L:=X) (k:=k) (by rw [HX.out];exact hlt);obtain⟨y,hy⟩:=Aj (L:=Y) (k:=k) (by rw [HY.out];exact hlt);obtain⟨g1,o1,he1,x0⟩:=(Hr1.out.keeps hk (by simp)).int (k:= .i64) hx;obtain⟨g2,o2,he2,y0⟩:=(Hr2.out.keeps hk (by simp)).int (k:= .i64) hy
 revert x hx y hy g1 o1 he1 x0 g2 o2 he2 y0
 exact cZ.1):P:=h ⟨c⟩
theorem j6I(h:Bx T->P:=by
 intro cZ;refine jk ?_;intro K hK;refine Ah rfl (.const (.slice none 0 0)) (.tmp 61) 267 rfl 0 3 i0 _ 1 8 Tryz.underlying267 Hi.out Hi0.out Hi1.out Hi2.out rfl j2 (.slice none 0 0) 0 [] rfl (World.ownsRow_nil _ _ _ _) _ (j+1) _ rfl ((Hread.out.preL Bg (j+1) Hkn.out).alloc _) (Bo _) j6 j1 (Nat.zero_le _) ?_;intro v2 w2 hown2 hk2 hf2;refine j0t ?_;intro hfr2
 revert K hK v2 w2 hown2 hk2 hf2 hfr2
 exact cZ.1):P:=h ⟨c⟩
theorem j3X(h:Bx T->P:=by
 intro cZ;have b0:∀W,Keeps (λ_=>False) (w.alloc (.cells #[.int .i64 li,.slice ad L.length c,.int .i64 cy,.int .i64 du,.int .i64 mf,.int .i64 mp,.int .i64 st] 24)) W->W.heap[w.heap.size]?=some (.cells #[.int .i64 li,.slice ad L.length c,.int .i64 cy,.int .i64 du,.int .i64 mf,.int .i64 mp,.int .i64 st] 24 (0,0)):=λW hW=>Ac (heap_alloc_new w _) hW (by simp)
 revert b0
 exact cZ.1):P:=h ⟨c⟩
theorem j3z(h:Bx T->P:=by
 intro cZ;have Hk1:=Lib.hid ((by(repeat (first|exact Keeps.refl _ _|exact Keeps.alloc _ _|exact Keeps.drew _|exact Keeps.drewN _ _|refine Keeps.Am ?_|refine Keeps.Al ?_|refine Keeps.Af ?_)):Keeps (λ_=>False) w ((w.alloc (.cells #[.slice ad n cap,.int .i64 cr,.int .i64 du] 35)).alloc (.cells #[.slice none 0 0,.int .i64 0,.int .i64 0] 35))).nt hk1);refine j0c ?_;intro hrs
 revert Hk1 hrs
 exact cZ.1):P:=h ⟨c⟩
theorem j6g(h:Bx T->P:=by
 intro cZ;have hkn:0<=0:=j3;have hlm:0+1+(0)<=1000001:=j3;have hkI:(0:Int)<=(0:Int):=j3;have hkI0:(0:Int)<=(0:Int):=j3;have hkI2:(0:Int)<=(0:Int):=j3
 have hend:∀v4 w4,World.ownsRow w4 0 32 5 v4 (0+1+(0)) ((L.take 0).flatMap Ev.cells++ [.int .i64 ki,.int .i64 da,.int .i64 tr,.int .i64 am,.int .i64 re]++(L.drop 0).flatMap Ev.cells)->Fresh (w.alloc (.cells #[.int .i64 ki,.int .i64 da,.int .i64 tr,.int .i64 am,.int .i64 re] 32)) w4 v4->Ey w (putL L ⟨ki,da,tr,am,re⟩) (.returned v4) w4:=by
  intro v4 w4 ho hf;have hp':=Hp.out;refine⟨v4,rfl, ?_,hf.up⟩;refine j1A ?_;intro hL;have hm:0+1+(0)=0+1:=j3;rw [hm] at ho;exact ho
 revert hkn hlm hkI hkI0 hkI2 hend
 exact cZ.1):P:=h ⟨c⟩
theorem jr(h:Bx T->P:=by
 intro cZ;have hlnE:=hln.of_keeps k5E;have hbnE:=hbn2.of_keeps k5E;have hs5:=hk5.size
 revert hlnE hbnE hs5
 exact cZ.1):P:=h ⟨c⟩
theorem j4U(h:Bx T->P:=by
 intro cZ;have hk8a:=hk8.nt (Keeps.alloc w8 (.cells #[.int .i64 v1] 2));have h8a:=Hrv2.out.keep0 hk8a;refine Ae rfl (λK hK=> ?_);refine Ah rfl (.tmp 49) (.tmp 57) 33 rfl 0 2 i0 _ 1 8 Tryz.underlying33 Hi.out Hi0.out Hi1.out Hi2.out rfl j2 (.slice ax m cx) m _ rfl (Hrx.out.of_keeps hk8a) _ 1 _ rfl (Reads.litAt _ _ _ 1 1 _ jd rfl) j9 j6 j1 (Nat.zero_le _) ?_
 revert hk8a h8a K hK
 exact cZ.1):P:=h ⟨c⟩
theorem j49(h:Bx T->P:=by
 intro cZ;have hkw:Keeps (λ_=>False) w w1:=(by(repeat (first|exact Keeps.refl _ _|exact Keeps.alloc _ _|exact Keeps.drew _|exact Keeps.drewN _ _|refine Keeps.Am ?_|refine Keeps.Al ?_|refine Keeps.Af ?_)):Keeps (λ_=>False) w ((w.alloc (.cells #[.slice ad n cap,.int .i64 cr,.int .i64 du] 35)).alloc (.cells #[.slice none 0 0,.int .i64 0,.int .i64 0] 35))).nt hk1
 revert hkw
 exact cZ.1):P:=h ⟨c⟩
theorem j19(h:Bx T->P:=by
 intro cZ;refine j7 ?_;intro K hK;refine hK.out _ _ (by exact hs7.keep (Keeps.nt jp (Keeps.alloc _ _))) ?_;clear hK K;refine j5 ?_
 exact cZ.1):P:=h ⟨c⟩
theorem jc(h:Bx T->P:=by
 intro cZ;obtain⟨wq,hwq⟩:∃x,x=wr:=⟨_,rfl⟩
 revert wq hwq
 exact cZ.1):P:=h ⟨c⟩
theorem j15(h:Bx T->P:=by
 intro cZ;refine j7 ?_;intro K hK;refine hK.out _ _ (by exact hs7.keep (Keeps.nt j2q (Keeps.alloc _ _))) ?_;clear hK K
 exact cZ.1):P:=h ⟨c⟩
theorem j4P(h:Bx T->P:=by
 intro cZ;have hk8a:=hk8.nt j2F;have h8a:=Hrv.out.keep0 hk8a;refine Ae rfl (λK hK=> ?_);refine Ah rfl (.tmp 24) (.tmp 33) 33 rfl 0 2 i0 _ 1 8 Tryz.underlying33 Hi.out Hi0.out Hi1.out Hi2.out rfl j2 (.slice ax m cx) m _ rfl (Hrx.out.of_keeps hk8a) _ 1 _ rfl (Reads.litAt _ _ _ 1 1 _ jd rfl) j9 j6 j1 (Nat.zero_le _) ?_
 revert hk8a h8a K hK
 exact cZ.1):P:=h ⟨c⟩
theorem j4m(h:Bx T->P:=by
 intro cZ;obtain⟨hob5,k5⟩:=Cy hob4 (.int .i64 cy) (.int .i64 fr) (.int .i64 te) (.int .i64 (te+due)) (.slice none 0 0) (.int .i64 S) (.int .i64 qc) (.int .i64 0) (.bool g);have of0:=Ab hob4 0;have oc0:=Aa hob4 0;have of1:=Ab hob4 1;have oc1:=Aa hob4 1;have of2:=Ab hob4 2;have oc2:=Aa hob4 2;have of3:=Ab hob4 3;have oc3:=Aa hob4 3;have of4:=Ab hob4 4;have oc4:=Aa hob4 4;have of5:=Ab hob4 5;have oc5:=Aa hob4 5;have of6:=Ab hob4 6;have oc6:=Aa hob4 6;have of7:=Ab hob4 7;have oc7:=Aa hob4 7;have of8:=Ab hob4 8;have oc8:=Aa hob4 8;have ol:=lt_of_block hob4
 revert hob5 k5 of0 oc0 of1 oc1 of2 oc2 of3 oc3 of4 oc4 of5 oc5 of6 oc6 of7 oc7 of8 oc8 ol
 exact cZ.1):P:=h ⟨c⟩
theorem j6x(h:Bx T->P:=by
 intro cZ;have hb14:=Ac Hb12.out hk14 (by simp);have hro14:w14.ownsRow 0 32 5 (.slice av o cv) o (O.flatMap Ev.cells):=(Hk12.out.row Hro11.out (λi hi e=>by have e':i=b:=e;have:=Hvb.out i hi;omega)).of_keeps hk14;have hfr14:Fresh W0 w14 (.slice av o cv):=⟨Hk13.out.nt hk14,Hat.out.2.2⟩;have e0:=Aa hb14 0;have e1:=Aa hb14 1;have e2:=Aa hb14 2;have e3:=Aa hb14 3;have e4:=Aa hb14 4;have el:=lt_of_block hb14
 revert hb14 hro14 hfr14 e0 e1 e2 e3 e4 el
 exact cZ.1):P:=h ⟨c⟩
theorem j2Z(h:Bx T->P:=by
 intro cZ;have c0:=Aa hI.cI 0;have bl0:=lt_of_block hI.cI;have c1:=Aa hO 0;have bl1:=lt_of_block hO;have hrow2:=hrow.of_keeps (Keeps.alloc w3 (.cells #[.slice ab n cb,.int .i64 R.1.p.cr,.int .i64 R.1.p.du] 35))
 revert c0 bl0 c1 bl1 hrow2
 exact cZ.1):P:=h ⟨c⟩
theorem j58(h:Bx T->P:=by
 intro cZ;refine jm ?_;intro K hK;refine hK.out _ _ (by exact hs7.keep (Keeps.nt j1a (Keeps.alloc _ _))) ?_;clear hK K;refine j5 ?_;obtain⟨wE,hwE⟩:∃x,x=(w5).alloc (.cells #[.slice none 0 0,.int .i64 0,.int .i64 0] 35):=⟨_,rfl⟩
 revert wE hwE
 exact cZ.1):P:=h ⟨c⟩
theorem j5c(h:Bx T->P:=by
 intro cZ;refine jm ?_;intro K hK;refine hK.out _ _ (by exact hs7.keep (Keeps.nt j1f (Keeps.alloc _ _))) ?_;clear hK K;refine j5 ?_;obtain⟨wE,hwE⟩:∃x,x=(w5).alloc (.cells #[.int .i64 0,.int .i64 0,.int .i64 0,.int .i64 0,.slice none 0 0,.int .i64 0,.int .i64 0,.int .i64 0,.bool false] 58):=⟨_,rfl⟩
 revert wE hwE
 exact cZ.1):P:=h ⟨c⟩
theorem j6F(h:Bx T->P:=by
 intro cZ;refine Ae rfl (λK hK=> ?_);refine Ah rfl (.const (.slice none 0 0)) (.tmp 61) 267 rfl 0 3 i0 _ 1 8 Tryz.underlying267 Hi.out Hi0.out Hi1.out Hi2.out rfl j2 (.slice none 0 0) 0 [] rfl (World.ownsRow_nil _ _ _ _) _ (j+1) _ rfl (Hread.out.preL Bg (j+1) Hkn.out) (Bo _) j6 j1 (Nat.zero_le _) ?_;intro v2 w2 hown2 hk2 hf2;have hfr2:=j0r
 revert K hK v2 w2 hown2 hk2 hf2 hfr2
 exact cZ.1):P:=h ⟨c⟩
theorem j2X(h:Bx T->P:=by
 intro cZ;have hk0:=Keeps.alloc (S:=λ_=>False) w (.cells #[.int .i64 t.limit,.slice adT n cT,.int .i64 t.cyc,.int .i64 t.due,.int .i64 t.minFixed,.int .i64 t.minPart,.int .i64 t.start] 24)
 revert hk0
 exact cZ.1):P:=h ⟨c⟩
theorem j3a(h:Bx T->P:=by
 intro cZ;have c2:wr.cell? ⟨w.heap.size,2,none⟩=some (.int .i64 cy):=Aa hb 2;have c3:wr.cell? ⟨w.heap.size,3,none⟩=some (.int .i64 du):=Aa hb 3;have c4:wr.cell? ⟨w.heap.size,4,none⟩=some (.int .i64 mf):=Aa hb 4;have c5:wr.cell? ⟨w.heap.size,5,none⟩=some (.int .i64 mp):=Aa hb 5;have c6:wr.cell? ⟨w.heap.size,6,none⟩=some (.int .i64 st):=Aa hb 6
 revert c2 c3 c4 c5 c6
 exact cZ.1):P:=h ⟨c⟩
theorem j1z(h:Bx T->P:=by
 intro cZ;have hbS:∀W,Keeps (λ_=>False) (w.alloc (.cells #[.int .i64 ki,.int .i64 da,.int .i64 tr,.int .i64 am,.int .i64 re] 32)) W->bxS w.heap.size ki da tr am re W:=λW hW=>bxS.of (Ac (heap_alloc_new w _) hW (by simp))
 revert hbS
 exact cZ.1):P:=h ⟨c⟩
theorem j5e(h:Bx T->P:=by
 intro cZ;dsimp only;refine hK.out _ _ (by exact hs7.keep (Keeps.nt j0q hk5)) ?_
 exact cZ.1):P:=h ⟨c⟩
theorem jm(h:Bx T->P:=by
 intro cZ;refine j5 ?_;refine je ?_;intro K hK
 revert K hK
 exact cZ.1):P:=h ⟨c⟩
theorem j6G(h:Bx T->P:=by
 intro cZ;refine Ae rfl (λK hK=> ?_);refine Ah rfl (.tmp 62) (.tmp 65) 267 rfl 0 3 i0 _ 1 8 Tryz.underlying267 Hi.out Hi0.out Hi1.out Hi2.out rfl j2 _ (j+1) _ rfl (Hown2.out.alloc _) _ 1 _ rfl (Reads.litAt _ _ _ 1 1 _ jd rfl) j9 j6 j1 (Nat.zero_le _) ?_;intro v3 w3 hown3 hk3 hf3;have hfr3:=j0s
 revert K hK v3 w3 hown3 hk3 hf3 hfr3
 exact cZ.1):P:=h ⟨c⟩
theorem j2e(h:Bx T->P:=by
 intro cZ;have p0:=Aa Hpb4.out 0;have p1:=Aa Hpb4.out 1;have p2:=Aa Hpb4.out 2;have pl4:=lt_of_block Hpb4.out;have e0:=Aa Hab4.out.e 0;have e2:=Aa Hab4.out.e 2;have e3:=Aa Hab4.out.e 3;have el4:=lt_of_block Hab4.out.e
 revert p0 p1 p2 pl4 e0 e2 e3 el4
 exact cZ.1):P:=h ⟨c⟩
theorem j03(h:Bx T->P:=by
 intro cZ;refine hK.out _ _ (by exact hs1.keep hk2 (by simp)) ?_
 exact cZ.1):P:=h ⟨c⟩
theorem j6w(h:Bx T->P:=by
 intro cZ;have tb12:=Htb.out _ Hk13.out;obtain⟨tc0,tc1,tc2,tc3,tc4,tc5,tc6⟩:=tb12;have tcl:=Ai tc0;have e0:=Aa Hb12.out 0;have e1:=Aa Hb12.out 1;have e2:=Aa Hb12.out 2;have e3:=Aa Hb12.out 3;have e4:=Aa Hb12.out 4;have el:=lt_of_block Hb12.out;obtain⟨Tc0,Tc1,Tc2,Tc3,Tc4,Tc5,Tc6,E0,E1⟩:=hid9 tc0 tc1 tc2 tc3 tc4 tc5 tc6 e0 e1;clear e1 e0 tc6 tc5 tc4 tc3 tc2 tc1 tc0;obtain⟨E2,E3,E4⟩:=hid3 e2 e3 e4;clear e4 e3 e2
 revert tcl el Tc0 Tc1 Tc2 Tc3 Tc4 Tc5 Tc6 E0 E1 E2 E3 E4
 exact cZ.1):P:=h ⟨c⟩
theorem j0d(h:Bx T->P:=by
 intro cZ;have hri:=λW (hW:Keeps (λ_=>False) w W)=>Ed L cr du ad cap n W (hr.keeps hW (by simp)) hN hl
 revert hri
 exact cZ.1):P:=h ⟨c⟩
theorem j4Q(h:Bx T->P:=by
 intro cZ;have hrx8:=Hrx.out.of_keeps hk8a;have o9:=Ac h8a.o0 hk9 (λe=>Ag hrx8 h8a.o0 j2 e);have hsb:¬(Value.slice ax m cx).ownBlock=some B:=λe=>Ag hrx8 h8a.blk j2 e;have hsg:¬(Value.slice ax m cx).ownBlock=some g0:=λe=>Ag hrx8 h8a.o0 j2 e;have hsv:¬(Value.slice ax m cx).ownBlock=some gb:=λe=>(Hdb.out gb e).1 rfl
 revert hrx8 o9 hsb hsg hsv
 exact cZ.1):P:=h ⟨c⟩
theorem j2W(h:Bx T->P:=by
 intro cZ;refine jk ?_;intro K hK;refine Ah rfl (.tmp 26) (.tmp 28) 25 rfl 0 32 i0 _ 5 40 Tryz.underlying25 Hi.out Hi0.out Hi1.out Hi2.out rfl j2 _ 0 _ rfl Hown2.out _ 1 _ rfl Hbx2.out j9 j6 j1 (Nat.zero_le _) ?_;intro v3 w3 hown3 hk3 hf3;have hfr3:=Hfr2.out.app hk3 hf3
 revert K hK v3 w3 hown3 hk3 hf3 hfr3
 exact cZ.1):P:=h ⟨c⟩
theorem jg(h:Bx T->P:=by
 intro cZ;refine ji ?_;refine Ao ?_
 exact cZ.1):P:=h ⟨c⟩
theorem jn(h:Bx T->P:=by
 intro cZ;refine hK.out _ _ (by trivial) ?_
 exact cZ.1):P:=h ⟨c⟩
theorem j4V(h:Bx T->P:=by
 intro cZ;have hrx8:=Hrx.out.of_keeps hk8a;have o9:=Ac h8a.o1 hk9 (λe=>Ag hrx8 h8a.o1 j2 e);have hsb:¬(Value.slice ax m cx).ownBlock=some B:=λe=>Ag hrx8 h8a.blk j2 e;have hsg:¬(Value.slice ax m cx).ownBlock=some g1:=λe=>Ag hrx8 h8a.o1 j2 e;have hsv:¬(Value.slice ax m cx).ownBlock=some gb:=λe=>(Hdb.out gb e).2 rfl
 revert hrx8 o9 hsb hsg hsv
 exact cZ.1):P:=h ⟨c⟩
theorem j0B(h:Bx T->P:=by
 intro cZ;refine je ?_;intro K hK;refine hK.out _ _ (by exact HbS.out _ (Hfr2.out.1.nt (Keeps.alloc _ _))) ?_;clear hK K
 exact cZ.1):P:=h ⟨c⟩
theorem j59(h:Bx T->P:=by
 intro cZ;refine j7 ?_;intro K hK;refine hK.out _ _ (by exact hs7.keep (Keeps.nt jP (Keeps.alloc _ _))) ?_;clear hK K;refine j5 ?_
 exact cZ.1):P:=h ⟨c⟩
theorem j4l(h:Bx T->P:=by
 intro cZ;have hS13:c13S w.heap.size fr te due (.slice a2 n m2) qc qd W3.drew:=(show c13S w.heap.size fr te due (.slice a2 n m2) qc qd W3 from⟨Aa hcb3.s 0,Aa hcb3.s 1,Aa hcb3.t 3,Aa hpb3 0,Aa hpb3 1,Aa hpb3 2⟩).keep (S:=λ_=>False) (Keeps.drew _) (by simp);have hlet:=Hle.out;have te0:IntKind.i64.wrap (te+due)=te+due:=IntWalk.i64_in _ ⟨by omega,by omega⟩
 revert hS13 hlet te0
 exact cZ.1):P:=h ⟨c⟩
theorem j1n(h:Bx T->P:=by
 intro cZ;have hread:=(Reads.Ay Hrow6.out).keeps hk7 (by simp);have hkw:=hk7;obtain⟨Hkw,Hread⟩:=hid2 hkw hread;clear hread hkw
 revert Hkw Hread
 exact cZ.1):P:=h ⟨c⟩
theorem j48(h:Bx T->P:=by
 intro cZ;obtain⟨hb4,k4⟩:=Bb hb3 (.slice (some ⟨g,0,none⟩) n c) (.int .i64 cr) (.int .i64 du);have hS:∃W4,W4=(((w3.setCell ⟨w.heap.size,0,none⟩ (.slice (some ⟨g,0,none⟩) n c)).setCell ⟨w.heap.size,1,none⟩ (.int .i64 cr)).setCell ⟨w.heap.size,2,none⟩ (.int .i64 du)):=⟨_,rfl⟩;obtain⟨W4,hW4⟩:=hS
 revert hb4 k4 W4 hW4
 exact cZ.1):P:=h ⟨c⟩
theorem j4W(h:Bx T->P:=by
 intro cZ;have hxv:(⟨a9,c9,Lx++ [v1]⟩:SI).v= .slice a9 (m+1) c9:=j0u;have hext:=Hrv2.out.ext1 (x':=⟨a9,c9,Lx++ [v1]⟩) Hx.out hk8a j0v j5B rfl j0w
 revert hxv hext
 exact cZ.1):P:=h ⟨c⟩
theorem j5N(h:Bx T->P:=by
 intro cZ;refine j7 ?_;intro K hK;refine hK.out _ _ (by exact hs3.keep (Keeps.alloc _ _)) ?_;clear hK K;refine j5 ?_;have hadd4:=Hadd.out (w3.alloc (.cells #[.slice none 0 0,.int .i64 0,.int .i64 0] 35)) (hk3.nt (Keeps.alloc _ _));have Hadd4:=Lib.hid hadd4;clear hadd4
 revert Hadd4
 exact cZ.1):P:=h ⟨c⟩
theorem j3C(h:Bx T->P:=by
 intro cZ;obtain⟨z,hz⟩:∃z,askE ⟨L,cr,du⟩ [k] a=z:=⟨_,rfl⟩;have hask:=fun(W:World) (g:Nat) (hW:Keeps (λ_=>False) w W) (hT:Reads W 1 (.slice (some ⟨g,0,none⟩) 1 1) 1 ([k].flatMap i64c))=>Gg L cr du a [k] ad (some ⟨g,0,none⟩) cap 1 n 1 W (hr.keeps hW (by simp)) hN hl hT rfl j2
 revert z hz hask
 exact cZ.1):P:=h ⟨c⟩
theorem j2G(h:Bx T->P:=by
 intro cZ;have o9:=hk9.row hob8 (λb hb e=>Cm hob8 hrx8 j2 hb e);have hsb:¬(Value.slice ax m0 cx).ownBlock=some B:=λe=>Ag hrx8 hbq8 j2 e
 revert o9 hsb
 exact cZ.1):P:=h ⟨c⟩
theorem j0C(h:Bx T->P:=by
 intro cZ;refine j7 ?_;intro K hK;refine hK.out _ _ (by exact HbS.out _ (Hkw.out.nt (Keeps.alloc _ _))) ?_;clear hK K
 exact cZ.1):P:=h ⟨c⟩
theorem j50(h:Bx T->P:=by
 intro cZ;have hS4:=(show c4S B t.limit (.slice adT n cT) t.cyc t.due t.minFixed t.minPart t.start (.slice (some ⟨g0,0,none⟩) n n) (.slice (some ⟨g1,0,none⟩) n n) w2 from⟨Aa hr2.blk 0,Aa hr2.blk 1,Aa hr2.blk 2,Aa hr2.blk 3,Aa hr2.blk 4,Aa hr2.blk 5,Aa hr2.blk 6,Aa hr2.blk 14,Aa hr2.blk 15⟩).keep (Keeps.drew _)
 revert hS4
 exact cZ.1):P:=h ⟨c⟩
theorem j4R(h:Bx T->P:=by
 intro cZ;have hxv:(⟨a9,c9,Lx++ [v0]⟩:SI).v= .slice a9 (m+1) c9:=j0u;have hext:=Hrv.out.ext0 (x':=⟨a9,c9,Lx++ [v0]⟩) Hx.out hk8a j0v j2H rfl j0w
 revert hxv hext
 exact cZ.1):P:=h ⟨c⟩
theorem j6J(h:Bx T->P:=by
 intro cZ;refine jk ?_;intro K hK;refine Ah rfl (.tmp 62) (.tmp 65) 267 rfl 0 3 i0 _ 1 8 Tryz.underlying267 Hi.out Hi0.out Hi1.out Hi2.out rfl j2 _ (j+1) _ rfl Hown2.out _ 1 _ rfl Hbx2.out j9 j6 j1 (Nat.zero_le _) ?_
 revert K hK
 exact cZ.1):P:=h ⟨c⟩
theorem j0P(h:Bx T->P:=by
 intro cZ;have hown:=λW (hW:Keeps (λ_=>False) w W)=>Fz L cr du (.slice ad n cap) n W (hr.keeps hW (by simp)) hl
 revert hown
 exact cZ.1):P:=h ⟨c⟩
theorem j5K(h:Bx T->P:=by
 intro cZ;have hp:=P11.mk0 HN.out hown hf;have hbb:=j5I;have b0:=Aa hbb 0;have b1:=Aa hbb 1;have b2:=Aa hbb 2;have bf0:=Ab hbb 0;have bf1:=Ab hbb 1;have bf2:=Ab hbb 2;have bl:=lt_of_block hbb
 revert hp hbb b0 b1 b2 bf0 bf1 bf2 bl
 exact cZ.1):P:=h ⟨c⟩
theorem j68(h:Bx T->P:=by
 intro cZ
 repeat ((first|refine Gl rfl (by rfl) ?_|refine Fb rfl (by rfl) ?_|(refine Gj (v:= ?_) rfl (by rfl) ?_ ?_;rotate_left;(· intro w' hSw;unfold rrS tbS at hSw;go_simp;(try with_reducible rfl));rotate_right));try simp only [aps])
 exact cZ.1):P:=h ⟨c⟩
theorem j5o(h:Bx T->P:=by
 intro cZ;have hck2:¬(cap:Int)=((j+1):Int):=j3;have hkn:(j+1)<=i:=j3;have hlm:(j+1)+1+(i-(j+1))<=1000001:=j3;have hlm2:(j+1)+1+(i-(j+1))=i+1:=j3;have hkI:((j+1):Int)<=((i:Nat):Int):=j3;have hkI0:(0:Int)<=((j+1):Int):=j3;have hkI2:((j+1):Int)<=(cap:Int):=j3
 revert hck2 hkn hlm hlm2 hkI hkI0 hkI2
 exact cZ.1):P:=h ⟨c⟩
theorem j1p(h:Bx T->P:=by
 intro cZ;have hri:=λW (hW:Keeps (λ_=>False) w W)=>Ct L cr du ad cap n W (hr.keeps hW (by simp)) hN hl _ hb
 revert hri
 exact cZ.1):P:=h ⟨c⟩
theorem j6n(h:Bx T->P:=by
 intro cZ;refine ji ?_;refine Ae rfl (λK hK=> ?_);refine Ah rfl (.const (.slice none 0 0)) (.tmp 25) 25 rfl 0 32 i0 _ 5 40 Tryz.underlying25 Hi.out Hi0.out Hi1.out Hi2.out rfl j2 (.slice none 0 0) 0 [] rfl (World.ownsRow_nil _ _ _ _) _ (k+1) _ rfl ((Hread.out.preL Ev.Aq (k+1) Hkn.out).alloc _) (Ev.one _) j6 j1 (Nat.zero_le _) ?_;intro v2 w2 hown2 hk2 hf2;refine j0t ?_;intro hfr2;have hbs2:=HbS.out _ hfr2.1
 revert K hK v2 w2 hown2 hk2 hf2 hfr2 hbs2
 exact cZ.1):P:=h ⟨c⟩
theorem j57(h:Bx T->P:=by
 intro cZ;dsimp only;refine hK.out _ _ (by exact hs7.keep j1a) ?_
 exact cZ.1):P:=h ⟨c⟩
theorem j6C(h:Bx T->P:=by
 intro cZ;have ya0:=Aa hb8 0;have yb0:=Ab hb8 0;have ya1:=Aa hb8 1;have yb1:=Ab hb8 1;have ya2:=Aa hb8 2;have yb2:=Ab hb8 2;have ya3:=Aa hb8 3;have yb3:=Ab hb8 3;have ya4:=Aa hb8 4;have yb4:=Ab hb8 4;have ya5:=Aa hb8 5;have yb5:=Ab hb8 5;have ya6:=Aa hb8 6;have yb6:=Ab hb8 6;have ya7:=Aa hb8 7;have yb7:=Ab hb8 7;have ya8:=Aa hb8 8;have yb8:=Ab hb8 8;have yc0:=Aa hb9 0;have yd0:=Ab hb9 0;have yc1:=Aa hb9 1;have yd1:=Ab hb9 1;have yc2:=Aa hb9 2;have yd2:=Ab hb9 2;have yl8:=lt_of_block hb8;have yl9:=lt_of_block hb9;have hne2:¬b9=b8:=λe=>hne e.symm
 revert ya0 yb0 ya1 yb1 ya2 yb2 ya3 yb3 ya4 yb4 ya5 yb5 ya6 yb6 ya7 yb7 ya8 yb8 yc0 yd0 yc1 yd1 yc2 yd2 yl8 yl9 hne2
 exact cZ.1):P:=h ⟨c⟩
theorem j31(h:Bx T->P:=by
 intro cZ;have t0:=Aa (hb0) 0;have t1:=Aa (hb0) 1;have t2:=Aa (hb0) 2;have t3:=Aa (hb0) 3;have t4:=Aa (hb0) 4;have t5:=Aa (hb0) 5;have t6:=Aa (hb0) 6;have tl:=lt_of_block (hb0)
 revert t0 t1 t2 t3 t4 t5 t6 tl
 exact cZ.1):P:=h ⟨c⟩
theorem j0S(h:Bx T->P:=by
 intro cZ;have hb:=B0.out _ hk1;have c5:=Aa hb 5;have cl:=lt_of_block hb;have Hk1:=j1q
 revert hb c5 cl Hk1
 exact cZ.1):P:=h ⟨c⟩
theorem j42(h:Bx T->P:=by
 intro cZ;have hbx:∀W,Keeps (λ_=>False) (w.alloc (.cells #[.slice adB n cB,.int .i64 cr,.int .i64 du] 35)) W->W.heap[w.heap.size]?=some (.cells #[.slice adB n cB,.int .i64 cr,.int .i64 du] 35 (0,0)):=λW hW=>Ac (heap_alloc_new w _) hW (by simp)
 revert hbx
 exact cZ.1):P:=h ⟨c⟩
theorem jf(h:Bx T->P:=by
 intro cZ;refine jR ?_;refine Ao ?_
 exact cZ.1):P:=h ⟨c⟩
theorem j5d(h:Bx T->P:=by
 intro cZ;refine j7 ?_;intro K hK;refine hK.out _ _ (by exact hs7.keep (Keeps.nt jQ (Keeps.alloc _ _))) ?_;clear hK K;refine j5 ?_
 exact cZ.1):P:=h ⟨c⟩
theorem j1R(h:Bx T->P:=by
 intro cZ;have q1:(0:Int)<=k-1:=j3;have q2:k-1<(n:Int):=j3;have q4:IntKind.i64.wrap (k-1)=k-1:=IntWalk.i64_in _ ⟨by omega,by omega⟩
 revert q1 q2 q4
 exact cZ.1):P:=h ⟨c⟩
theorem j5O(h:Bx T->P:=by
 intro cZ;dsimp only;have hT5:=Ac (heap_alloc_new w3 (.cells #[.slice none 0 0,.int .i64 0,.int .i64 0] 35)) hf5.1 (by simp);have hs5:=(hs3.keep (Keeps.alloc (S:=λ_=>False) w3 (.cells #[.slice none 0 0,.int .i64 0,.int .i64 0] 35))).keep hf5.1
 revert hT5 hs5
 exact cZ.1):P:=h ⟨c⟩
theorem j3R(h:Bx T->P:=by
 intro cZ;have hc:=Qq w n ad cap li cy du mf mp st ki da tr am re;obtain⟨z,hz⟩:∃z,evErr ⟨li,cy,du,mf,mp,st,L⟩ ⟨ki,da,tr,am,re⟩=z:=⟨_,rfl⟩;rw [hz];obtain⟨y,hy⟩:∃y,Tm.err ⟨li,cy,du,mf,mp,st,L⟩=y:=⟨_,rfl⟩;have hy2:=Tm.Qr ⟨li,cy,du,mf,mp,st,L⟩
 revert hc z hz y hy hy2
 exact cZ.1):P:=h ⟨c⟩
theorem j6k(h:Bx T->P:=by
 intro cZ;refine Ae rfl (λK hK=> ?_);refine Ah rfl (.const (.slice none 0 0)) (.tmp 25) 25 rfl 0 32 i0 _ 5 40 Tryz.underlying25 Hi.out Hi0.out Hi1.out Hi2.out rfl j2 (.slice none 0 0) 0 [] rfl (World.ownsRow_nil _ _ _ _) _ (k+1) _ rfl (Hread.out.preL Ev.Aq (k+1) Hkn.out) (Ev.one _) j6 j1 (Nat.zero_le _) ?_;intro v2 w2 hown2 hk2 hf2;have hfr2:=j0r;have hbs2:=HbS.out _ hfr2.1
 revert K hK v2 w2 hown2 hk2 hf2 hfr2 hbs2
 exact cZ.1):P:=h ⟨c⟩
theorem j14(h:Bx T->P:=by
 intro cZ;have hxv0:(⟨ax,cx,Lx⟩:SI).v= .slice ax m cx:=by simp only [SI.v,hm]
 have hxm:=List.mem_of_getElem? hx
 revert hxv0 hxm
 exact cZ.1):P:=h ⟨c⟩
theorem j1o(h:Bx T->P:=by
 intro cZ;have hbx2:=Reads.blk (size:=1) (n:=1) (Ac (heap_alloc_new w7 _) hk2 (by simp [Value.ownBlock])) rfl
 revert hbx2
 exact cZ.1):P:=h ⟨c⟩
theorem j3M(h:Bx T->P:=by
 intro cZ;have lx:=Ai x0;have ly:=Ai y0;obtain⟨A,hA⟩:∃A,p / 18446744073709551616=A:=⟨_,rfl⟩;obtain⟨B,hB⟩:∃B,p % 18446744073709551616=B:=⟨_,rfl⟩;obtain⟨Hi,hHi⟩:∃Hi,N / 18446744073709551616=Hi:=⟨_,rfl⟩;obtain⟨Lo,hLo⟩:∃Lo,N % 18446744073709551616=Lo:=⟨_,rfl⟩
 revert lx ly A hA B hB Hi hHi Lo hLo
 exact cZ.1):P:=h ⟨c⟩
theorem j2p(h:Bx T->P:=by
 intro cZ;have k:∀{p:Addr} {u:Value},¬S p.block->W.cell? p=some u->W'.cell? p=some u:=λhn hc=>(hk.cell (Ai hc) hn).trans hc
 revert k
 exact cZ.1):P:=h ⟨c⟩
theorem j6l(h:Bx T->P:=by
 intro cZ;refine j5 ?_;refine Ae rfl (λK hK=> ?_);refine Ah rfl (.tmp 26) (.tmp 28) 25 rfl 0 32 i0 _ 5 40 Tryz.underlying25 Hi.out Hi0.out Hi1.out Hi2.out rfl j2 _ (k+1) _ rfl (Hown2.out.alloc _) _ 1 _ rfl (Reads.litAt _ _ _ 5 1 _ jd rfl) j9 j6 j1 (Nat.zero_le _) ?_;intro v3 w3 hown3 hk3 hf3;have hfr3:=j0s
 revert K hK v3 w3 hown3 hk3 hf3 hfr3
 exact cZ.1):P:=h ⟨c⟩
theorem j5b(h:Bx T->P:=by
 intro cZ;dsimp only;refine hK.out _ _ (by exact hs7.keep j1f) ?_
 exact cZ.1):P:=h ⟨c⟩
theorem j4M(h:Bx T->P:=by
 intro cZ;have hltI:(k:Int)<(n:Int):=j3;obtain⟨r0,hr0⟩:=Aj (L:=s.e0) (k:=k) (by rw [He0.out];exact hlt);obtain⟨r1,hr1⟩:=Aj (L:=s.e1) (k:=k) (by rw [He1.out];exact hlt);obtain⟨v0,hv0⟩:=Aj (L:=s.p.bal) (k:=k) (by rw [Hbn.out];exact hlt);obtain⟨v1,hv1⟩:=Aj (L:=s.R) (k:=k) (by rw [Hrn.out];exact hlt)
 revert hltI r0 hr0 r1 hr1 v0 hv0 v1 hv1
 exact cZ.1):P:=h ⟨c⟩
theorem j4e(h:Bx T->P:=by
 intro cZ;have y1:wq.cell? ⟨g1,o1+k,none⟩=some (.slice adb Lb.length cb):=by simpa [SI.cells,SI.v] using hc1 0 j2
 have y2:wq.cell? ⟨g2,o2+k,none⟩=some (.slice adr Lr.length cr):=by simpa [SI.cells,SI.v] using hc2 0 j2
 revert y1 y2
 exact cZ.1):P:=h ⟨c⟩
theorem j5(h:Bx T->P:=by
 intro cZ
 try simp only [aps]
 exact cZ.1):P:=h ⟨c⟩
theorem j1A(h:Bx T->P:=by
 intro cZ;rw [Dj,Hn.out];have hL:=Hn.out;unfold putL;simp only [hL];rw [hp',List.flatMap_append,List.flatMap_append]
 revert hL
 exact cZ.1):P:=h ⟨c⟩
theorem j5m(h:Bx T->P:=by
 intro cZ;have hkn:(j+1)<=(j+1):=j3;have hlm:(j+1)+1+(0)<=1000001:=j3;have hlm2:(j+1)+1+(0)=(j+1)+1:=j3;have hkI:((j+1):Int)<=(((j+1):Nat):Int):=j3;have hkI0:(0:Int)<=((j+1):Int):=j3;have hkI2:((j+1):Int)<=((j+1):Int):=j3
 revert hkn hlm hlm2 hkI hkI0 hkI2
 exact cZ.1):P:=h ⟨c⟩
theorem j2h(h:Bx T->P:=by
 intro cZ;have b0':=Aa (Hbx.out w1 hk1) 0;have b1':=Aa (Hbx.out w1 hk1) 1;have bf:=Ab (Hbx.out w1 hk1) 1;have bll:=lt_of_block (Hbx.out w1 hk1)
 revert b0' b1' bf bll
 exact cZ.1):P:=h ⟨c⟩
theorem jk(h:Bx T->P:=by
 intro cZ;refine jR ?_;refine Ae rfl (λK hK=> ?_)
 revert K hK
 exact cZ.1):P:=h ⟨c⟩
theorem j0D(h:Bx T->P:=by
 intro cZ;have hbx2:=Reads.blk (size:=5) (n:=1) (Ac (heap_alloc_new w1 _) hk2 (by simp [Value.ownBlock])) rfl
 revert hbx2
 exact cZ.1):P:=h ⟨c⟩
theorem j0t(h:Bx T->P:=by
 intro cZ;have hfr2:=((Fresh.nil _).keep (Hkw.out.nt (Keeps.alloc _ _))).app hk2 hf2
 revert hfr2
 exact cZ.1):P:=h ⟨c⟩
theorem j0a(h:Bx T->P:=by
 intro cZ;obtain⟨Z,hZ⟩:∃Z,Z=madeCells (Value.int .i64 0).cells n:=⟨_,rfl⟩
 revert Z hZ
 exact cZ.1):P:=h ⟨c⟩
theorem j5L(h:Bx T->P:=by
 intro cZ;obtain⟨W2,hW2⟩:∃y,y=(((w1.setCell ⟨w.heap.size,0,none⟩ (.slice (some ⟨g,0,none⟩) n c)).setCell ⟨w.heap.size,1,none⟩ (.int .i64 cr)).setCell ⟨w.heap.size,2,none⟩ (.int .i64 du)):=⟨_,rfl⟩;have hp2:=Hp.out
 revert W2 hW2 hp2
 exact cZ.1):P:=h ⟨c⟩
theorem j1u(h:Bx T->P:=by
 intro cZ;refine hK.out _ _ (by exact(hs3.keep hf5.1).keep (Keeps.alloc _ _)) ?_
 exact cZ.1):P:=h ⟨c⟩
theorem j4I(h:Bx T->P:=by
 intro cZ;have hmk:=fun(W:World)=>run_makeSlice (P:=Tryz.prog) W 113 33 i0 (.slice none 0 0) Tryz.underlying113 hi hi0 .i64 .i64 (n:Int) (n:Int) j1 j1 (by rw [hi1];omega) (by rw [hi2];omega) j1
 revert hmk
 exact cZ.1):P:=h ⟨c⟩
theorem j6o(h:Bx T->P:=by
 intro cZ;refine Ah rfl (.tmp 26) (.tmp 28) 25 rfl 0 32 i0 _ 5 40 Tryz.underlying25 Hi.out Hi0.out Hi1.out Hi2.out rfl j2 _ (k+1) _ rfl Hown2.out _ 1 _ rfl Hbx2.out j9 j6 j1 (Nat.zero_le _) ?_
 exact cZ.1):P:=h ⟨c⟩
theorem j46(h:Bx T->P:=by
 intro cZ;have hltI:(j:Int)<(i:Int):=j3;obtain⟨x,hx⟩:=Aj (L:=p1) (k:=j) (by rw [Hpl.out];exact hltj);obtain⟨y,hy⟩:=Aj (L:=q1) (k:=j) (by rw [Hql.out];exact hltj);obtain⟨x0,x1⟩:=p1bd Hpe.out HBb.out hx;obtain⟨y0,y1⟩:=p1bd Hqe.out HB2.out hy
 revert hltI x hx y hy x0 x1 y0 y1
 exact cZ.1):P:=h ⟨c⟩
theorem j12(h:Bx T->P:=by
 intro cZ;refine jR ?_;obtain⟨s14,s15,s16,s17,sl⟩:=HS.out _ ((Hk1.out.Af (o:= .cells Z 33)).Af (o:= .cells Z 33))
 revert s14 s15 s16 s17 sl
 exact cZ.1):P:=h ⟨c⟩
theorem j4k(h:Bx T->P:=by
 intro cZ;obtain⟨W3,hW3⟩:∃W3,W3=(((w2.setCell ⟨w.heap.size+1+1,0,none⟩ (.slice a2 n m2)).setCell ⟨w.heap.size+1+1,1,none⟩ (.int .i64 qc)).setCell ⟨w.heap.size+1+1,2,none⟩ (.int .i64 qd)):=⟨_,rfl⟩
 revert W3 hW3
 exact cZ.1):P:=h ⟨c⟩
theorem j1m(h:Bx T->P:=by
 intro cZ;have hkq6:=Hkq.out.nt hk6;have hrow6:=Hrow.out.of_keeps hkq6;have hkw6:=Hfr.out.1.nt hkq6
 revert hkq6 hrow6 hkw6
 exact cZ.1):P:=h ⟨c⟩
theorem j5W(h:Bx T->P:=by
 intro cZ
 repeat (refine Df (v:= ?_) rfl (by rfl) ?_ ?_;rotate_left;(· intro w' hSw;unfold c15S at hSw;go_simp;(try with_reducible rfl));rotate_right;try simp only [aps])
 exact cZ.1):P:=h ⟨c⟩
theorem jC(h:Bx T->P:=by
 intro cZ;refine hK.out _ _ (by exact hbs2) ?_
 exact cZ.1):P:=h ⟨c⟩
theorem j44(h:Bx T->P:=by
 intro cZ;have hltI:(i:Int)<(n:Int):=j3;obtain⟨x,hx⟩:=Aj (L:=B) (k:=i) jw;obtain⟨y,hy⟩:=Aj (L:=p1) (k:=i) (by rw [Hpl.out];exact hlt);obtain⟨x0,x1⟩:=HBb.out x (List.mem_of_getElem? hx);have hxy:=Hpe.out i y hy
 revert hltI x hx y hy x0 x1 hxy
 exact cZ.1):P:=h ⟨c⟩
theorem jT(h:Bx T->P:=by
 intro cZ;refine hK _ _ ?_;refine Hfirst.out _ _ ?_
 exact cZ.1):P:=h ⟨c⟩
theorem j2J(h:Bx T->P:=by
 intro cZ;have hask:=fun(W:World) (hW:Keeps (λ_=>False) w W)=>Gu L cr du a k ad cap n W (hr.keeps hW (by simp)) hN hl
 revert hask
 exact cZ.1):P:=h ⟨c⟩
theorem jX(h:Bx T->P:=by
 intro cZ;refine(Htm.out _ (Keeps.alloc _ _)).mono ?_
 exact cZ.1):P:=h ⟨c⟩
theorem j64(h:Bx T->P:=by
 intro cZ;obtain⟨W4,hW4⟩:∃x,x=w3.alloc (.cells #[.slice (some ⟨gb,0,none⟩) i cb,.int .i64 cr,.int .i64 du] 35):=⟨_,rfl⟩;rw [<-hW4];obtain⟨B,hB⟩:∃x,x=w3.heap.size:=⟨_,rfl⟩;rw [<-hB]
 revert W4 hW4 B hB
 exact cZ.1):P:=h ⟨c⟩
theorem j3G(h:Bx T->P:=by
 intro cZ;simp only [bits,show IntKind.u64.bits=64 from rfl,BitVec.toNat_and,BitVec.toNat_ofInt];simp only [show((2 ^ 64:Nat):Int)=18446744073709551616 from rfl]
 exact cZ.1):P:=h ⟨c⟩
theorem j5Q(h:Bx T->P:=by
 intro cZ;refine jm ?_;intro K hK;refine hK.out _ _ (by exact(hs3.keep hk4 (by simp)).keep (S:=λ_=>False) (Keeps.alloc _ _) (by simp)) ?_;clear hK K
 exact cZ.1):P:=h ⟨c⟩
theorem j4H(h:Bx T->P:=by
 intro cZ;have hnil:∀x∈List.replicate n si0,x=si0:=λx hx=>(List.mem_replicate.1 hx).2;have hget:∀(j:Nat) (x:SI),(List.replicate n si0)[j]?=some x->x=si0:=λj x hx=>hnil x (List.mem_of_getElem? hx)
 revert hnil hget
 exact cZ.1):P:=h ⟨c⟩
theorem j4n(h:Bx T->P:=by
 intro cZ;have hltI:(k:Int)<(n:Int):=j3;obtain⟨bk,hbk⟩:=Aj (L:=B) (k:=k) (by rw [HBn.out];exact hlt);obtain⟨xk,hxk⟩:=Aj (L:=X) (k:=k) (by rw [HXn.out];exact hlt);obtain⟨rk,hrk⟩:=Aj (L:=R) (k:=k) (by rw [HRn.out];exact hlt)
 revert hltI bk hbk xk hxk rk hrk
 exact cZ.1):P:=h ⟨c⟩
theorem j2u(h:Bx T->P:=by
 intro cZ;have d0:=Aa hb 0;have d1:=Aa hb 1;have d2:=Aa hb 2;have e0:=Ab hb 0;have e1:=Ab hb 1;have e2:=Ab hb 2;have dl:=lt_of_block hb
 revert d0 d1 d2 e0 e1 e2 dl
 exact cZ.1):P:=h ⟨c⟩
theorem j41(h:Bx T->P:=by
 intro cZ;have hqb:=Ef (B:=List.zipWith (· - ·) B p1) (O:=rankL true R) (a:=a-m+r1) (λx hx=>(hB2 x hx).1) j1 (by rw [hB2l];exact hokH);have hql:=Cb (List.zipWith (· - ·) B p1) (rankL true R) (a-m+r1)
 revert hqb hql
 exact cZ.1):P:=h ⟨c⟩
theorem j4g(h:Bx T->P:=by
 intro cZ
 have hO3:(intrO g (L.drop (k+1)) ((SB.map SI.L).drop (k+1)) ((SR.map SI.L).drop (k+1))).map (λl=>(P++ [0])++l)=O:=by
  rw [<-hO2,hdr,Option.map_map]
  congr 1
  funext l
  simp
 revert hO3
 exact cZ.1):P:=h ⟨c⟩
theorem j3N(h:Bx T->P:=by
 intro cZ;rw [hHi,hLo];have b1:0<=Lo/\Lo<18446744073709551616:=j3;have b2:0<=B/\B<18446744073709551616:=j3;have b3:0<=Hi/\Hi<1000000000:=j3;have b4:0<=A/\A<1000000000:=j3
 revert b1 b2 b3 b4
 exact cZ.1):P:=h ⟨c⟩
end Go.Proofs.YtgfkeeicjjbnpaaGreat
