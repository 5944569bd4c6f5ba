/- Blocks of tactics that come again in the proofs of this claim, each written once: the default of an argument. -/
import Derived.Test.YtjkdnaljkdnomaaGreatDoorRows
import Derived.WalkKit
import Derived.WalkSpells
import Derived.WalkLawsBesides
import Derived.Lib.Hide
import Derived.Deep.QuietTactic
import Derived.BigQuiet
import Derived.StillTailTactics
import Derived.Deep.RegionLaw
import Derived.Deep.RegionHeld3
import Derived.Laws.BitsAllLaws
import Derived.Lib.Overlaps
import Derived.Lib.AppendZeros
import Derived.Laws.Externs
import Derived.Maps.RangeWalk
import Derived.Deep.DeepCutAuto
import Derived.Lib.SliceRun
import Derived.Shelf.Abstract
import Derived.Deep.WholeRow
import Derived.RangeFuncNested
import Derived.RangeFuncBound
import Derived.RangeFuncCalls
import Derived.RangeFuncLeaves
import Derived.RangeFuncBox
import Derived.Shelf.RegionOpen
import Derived.OwnWalkIn
import Derived.TacticsInMore
import Derived.LoopNIn
import Derived.LoopIn
import Derived.OrdersIn
import Derived.Laws.BytesString
import Derived.ProofKit
import Derived.OpenShut
import Derived.ShutString
import Derived.ChangeOld
import Derived.Below
import Derived.Deep.Slices
import Derived.Shelf.Bits.Mul64
import Derived.Shelf.Spec.BitsCarry
namespace Go.Proofs.YtjkdnaljkdnomaaGreatDoor
open Go.RowKit
set_option maxRecDepth 100000
structure Bx(T:Prop):Prop where
  o:T
theorem _root_.Go.RowKit.Hid.o{p:Prop}(h:Go.RowKit.Hid p):p:=h
theorem eX{α:Sort _}(a:α):∃x,a=x:=⟨a,rfl⟩
theorem eY{α:Sort _}(a:α):∃x,x=a:=⟨a,rfl⟩
variable{P:Prop}
def Hd(P:Prop):Prop:=(λ_=>P) @AllReadyH
theorem Hd.o{P:Prop}(h:Hd P):P:=h
theorem jg(h:P:=by(repeat (first|exact Keeps.refl _ _|exact Keeps.alloc _ _|exact Keeps.drew _|exact Keeps.drewN _ _|refine Keeps.Ao ?_|refine Keeps.Al ?_|refine Keeps.Af ?_))):P:=h
theorem j6(h:P:=by omega):P:=h
theorem j7(h:P:=by decide):P:=h
theorem j9(h:P:=by kernel_rfl):P:=h
theorem j11(h:P:=by exact Keeps.nt (Keeps.refl (λ_=>False) w7) (Keeps.alloc (S:=λ_=>False) (w7) (.cells #[.int .i64 0,.int .i64 0,.int .i64 0,.int .i64 0,.slice none 0 0,.int .i64 0,.int .i64 0,.int .i64 0,.bool false] 59))):P:=h
theorem j3U(h:P:=by exact Keeps.alloc (S:=λ_=>False) (w7) (.cells #[.int .i64 0,.int .i64 0,.int .i64 0,.int .i64 0,.slice none 0 0,.int .i64 0,.int .i64 0,.int .i64 0,.bool false] 59)):P:=h
theorem jd(h:P:=by unfold maxLen;omega):P:=h
theorem j8(h:P:=by omega):P:=h
theorem j12(h:P:=by exact Keeps.nt (Keeps.refl (λ_=>False) w7) (Keeps.alloc (S:=λ_=>False) (w7) (.cells #[.slice none 0 0,.int .i64 0,.int .i64 0] 51))):P:=h
theorem j3W(h:P:=by exact Keeps.alloc (S:=λ_=>False) (w7) (.cells #[.slice none 0 0,.int .i64 0,.int .i64 0] 51)):P:=h
theorem jf(h:P:=by simp [Value.oneCell']):P:=h
theorem j3X(h:P:=by exact Keeps.alloc (S:=λ_=>False) ((w7).alloc (.cells #[.slice none 0 0,.int .i64 0,.int .i64 0] 51)) (.cells #[.int .i64 0,.int .i64 0,.int .i64 0,.int .i64 0,.slice none 0 0,.int .i64 0,.int .i64 0,.int .i64 0,.bool false] 59)):P:=h
theorem j3V(h:P:=by exact Keeps.alloc (S:=λ_=>False) ((w7).alloc (.cells #[.int .i64 0,.int .i64 0,.int .i64 0,.int .i64 0,.slice none 0 0,.int .i64 0,.int .i64 0,.int .i64 0,.bool false] 59)) (.cells #[.slice none 0 0,.int .i64 0,.int .i64 0] 51)):P:=h
theorem j01(h:P:=by exact Keeps.refl (λ_=>False) w7):P:=h
theorem j1X(h:P:=by exact Keeps.nt (Keeps.nt (Keeps.refl (λ_=>False) w7) (Keeps.alloc (S:=λ_=>False) (w7) (.cells #[.int .i64 0,.int .i64 0,.int .i64 0,.int .i64 0,.slice none 0 0,.int .i64 0,.int .i64 0,.int .i64 0,.bool false] 59))) (Keeps.alloc (S:=λ_=>False) ((w7).alloc (.cells #[.int .i64 0,.int .i64 0,.int .i64 0,.int .i64 0,.slice none 0 0,.int .i64 0,.int .i64 0,.int .i64 0,.bool false] 59)) (.cells #[.slice none 0 0,.int .i64 0,.int .i64 0] 51))):P:=h
theorem j1Z(h:P:=by exact Keeps.nt (Keeps.nt (Keeps.refl (λ_=>False) w7) (Keeps.alloc (S:=λ_=>False) (w7) (.cells #[.slice none 0 0,.int .i64 0,.int .i64 0] 51))) (Keeps.alloc (S:=λ_=>False) ((w7).alloc (.cells #[.slice none 0 0,.int .i64 0,.int .i64 0] 51)) (.cells #[.int .i64 0,.int .i64 0,.int .i64 0,.int .i64 0,.slice none 0 0,.int .i64 0,.int .i64 0,.int .i64 0,.bool false] 59))):P:=h
theorem j1U(h:P:=by exact Keeps.alloc (S:=λ_=>False) (w5) (.cells #[.int .i64 0,.int .i64 0,.int .i64 0,.int .i64 0,.slice none 0 0,.int .i64 0,.int .i64 0,.int .i64 0,.bool false] 59)):P:=h
theorem jt(h:P:=by simp [results,Tryz.results89,go_sem,R0',R1',R2',R3',R4']):P:=h
theorem jH(h:P:=by simp [results,Tryz.results19,go_sem,r0,r1,r2,r3,r4,rl]):P:=h
theorem jo(h:P:=by have e':i=w.heap.size+1:=e;omega):P:=h
theorem j1W(h:P:=by exact Keeps.nt (Keeps.nt (Keeps.refl (λ_=>False) w7) (Keeps.alloc (S:=λ_=>False) (w7) (.cells #[.int .i64 0,.int .i64 0,.int .i64 0,.int .i64 0,.slice none 0 0,.int .i64 0,.int .i64 0,.int .i64 0,.bool false] 59))) hk5):P:=h
theorem j1V(h:P:=by exact Keeps.alloc (S:=λ_=>False) (w5) (.cells #[.slice none 0 0,.int .i64 0,.int .i64 0] 51)):P:=h
theorem j1Y(h:P:=by exact Keeps.nt (Keeps.nt (Keeps.refl (λ_=>False) w7) (Keeps.alloc (S:=λ_=>False) (w7) (.cells #[.slice none 0 0,.int .i64 0,.int .i64 0] 51))) hk5):P:=h
theorem j42(h:P:=by exact heap_alloc_new w (.cells #[.int .i64 0,.int .i64 0,.int .i64 0,.int .i64 0,.int .i64 0,.slice none 0 0,.int .i64 0,.int .i64 0,.slice none 0 0,.slice none 0 0,.int .i64 0,.int .i64 0,.int .i64 0,.int .i64 0,.int .i64 0,.slice none 0 0,.int .i64 0,.int .i64 0,.int .i64 0,.bool false] 61)):P:=h
theorem j1T(h:P:=by exact Keeps.nt (Keeps.refl (λ_=>False) w7) hk5):P:=h
theorem j3S(h:P:=by exact Keeps.alloc (S:=λ_=>False) ((w5).alloc (.cells #[.slice none 0 0,.int .i64 0,.int .i64 0] 51)) (.cells #[.int .i64 0,.int .i64 0,.int .i64 0,.int .i64 0,.slice none 0 0,.int .i64 0,.int .i64 0,.int .i64 0,.bool false] 59)):P:=h
theorem j3P(h:P:=by exact Keeps.alloc (S:=λ_=>False) ((w5).alloc (.cells #[.int .i64 0,.int .i64 0,.int .i64 0,.int .i64 0,.slice none 0 0,.int .i64 0,.int .i64 0,.int .i64 0,.bool false] 59)) (.cells #[.slice none 0 0,.int .i64 0,.int .i64 0] 51)):P:=h
theorem j3O(h:P:=by exact Keeps.nt (Keeps.nt (Keeps.refl (λ_=>False) w7) hk5) (Keeps.alloc (S:=λ_=>False) (w5) (.cells #[.int .i64 0,.int .i64 0,.int .i64 0,.int .i64 0,.slice none 0 0,.int .i64 0,.int .i64 0,.int .i64 0,.bool false] 59))):P:=h
theorem ji(h:P:=by simp;omega):P:=h
theorem jr(h:P:=by first|rfl|simp):P:=h
theorem j0e(h:P:=by have e':i=w.heap.size+1+1:=e;omega):P:=h
theorem j15(h:P:=by simp [results,Tryz.results90,go_sem,R0',R1',R2',R3',R4']):P:=h
theorem jJ(h:P:=by simpa using hf9):P:=h
theorem j09(h:P:=by have e':i=w.heap.size:=e;omega):P:=h
theorem j0Y(h:P:=by simp [results,Tryz.results129,go_sem,R0',R1',R2']):P:=h
theorem j2N(h:P:=by exact Ad (Ap (heap_alloc_new w (.cells #[.slice ad n cap,.int .i64 cr,.int .i64 du] 51)) (.cells #[.slice none 0 0,.int .i64 0,.int .i64 0] 51)) hk1 (by simp)):P:=h
theorem jL(h:P:=by simpa using hl):P:=h
theorem j3R(h:P:=by exact Keeps.nt (Keeps.nt (Keeps.refl (λ_=>False) w7) hk5) (Keeps.alloc (S:=λ_=>False) (w5) (.cells #[.slice none 0 0,.int .i64 0,.int .i64 0] 51))):P:=h
theorem j1M(h:P:=by exact λW=>Hcall.o ⟨x0,x1,x2,x3,x4⟩ ⟨y0,y1,y2,y3,y4⟩ W okx oky):P:=h
theorem j0R(h:P:=by simp [results,Tryz.results189,go_sem]):P:=h
theorem j14(h:P:=by simp [results,Tryz.results115,go_sem]):P:=h
theorem j0U(h:P:=by simp [results,Tryz.results93,go_sem]):P:=h
theorem j06(h:P:=by rw [Hn.o];exact hlt):P:=h
theorem j3H(h:P:=by exact(hs8.keep (S:=λ_=>False) (Keeps.alloc _ _) (by simp) (by simp) (by simp)).keep hk9 hsb hsg hsv):P:=h
theorem j1E(h:P:=by simp [results,Tryz.results154,go_sem,R0',R1',R2']):P:=h
theorem j1F(h:P:=by simp [results,Tryz.results150,go_sem,R0',R1',R2']):P:=h
theorem j1C(h:P:=by simp [results,Tryz.results149,go_sem,R0',R1',R2']):P:=h
theorem j1t(h:P:=by simp [results,Tryz.results148,go_sem,R0',R1',R2']):P:=h
theorem j08(h:P:=by rw [Hpl.o,HN.o]):P:=h
theorem j0x(h:P:=by have:=Hk1.o.size;omega):P:=h
theorem j3h(h:P:=by simp [results,Tryz.results132,go_sem,Sa0',Sa1',Sa2',Sa3',Sa4',Sa5',Sa6',Sa7',Sa8',Sb0',Sb1',Sb2']):P:=h
theorem j4P(h:P:=by exact Keeps.alloc (S:=λ_=>False) w1 (.cells #[(.pointer (some ⟨P,0,none⟩)),.pointer none,.pointer none] 83)):P:=h
theorem j4Y(h:P:=by exact Keeps.nt (Keeps.alloc wr (.cells #[.int .i64 ki,.int .i64 da,.int .i64 tr,.int .i64 am,.int .i64 re] 186)) hk2):P:=h
theorem j05(h:P:=by rw [Hn.o];omega):P:=h
theorem j1H(h:P:=by exact Keeps.alloc wq (.cells #[.int .i64 ra,.bool gr] 39)):P:=h
theorem j0v(h:P:=by rw [HN.o];exact hlt):P:=h
theorem j4b(h:P:=by exact ((Hst1.o).done (D:=a.D) (V:= #[.int .i64 0,.int .i64 0,.int .i64 0,.int .i64 0,.int .i64 0]) Hb.o)):P:=h
theorem j1u(h:P:=by exact Cb hrs (.slice none 0 0) (.int .i64 0) (.int .i64 0)):P:=h
theorem j4g(h:P:=by rw [show Z.1.p.bal.length=n from g.nb];exact hK.row g.bal λb hb=>nw b (g.wb b hb)):P:=h
theorem j4N(h:P:=by exact λW (hW:K0 w W)=>Yv q.J q.P q.v p fl q.vl u W (h.keep0 hW).jrn (h.keep0 hW).pad):P:=h
theorem j0H(h:P:=by rw [List.length_take];omega):P:=h
theorem j3Z(h:P:=by exact Keeps.alloc wr (.cells #[.int .i64 ki,.int .i64 da,.int .i64 tr,.int .i64 am,.int .i64 re] 186)):P:=h
theorem j1I(h:P:=by have e':i=w.heap.size+1+1+1+1+1:=e;omega):P:=h
theorem j4h(h:P:=by rw [show Z.1.R.length=n from g.nr];exact hK.row g.rts λb hb=>nw b (g.wr b hb)):P:=h
theorem j4w(h:P:=by exact Keeps.setCell (S:=λj=>j=w2.heap.size) w3 ⟨w2.heap.size,1,none⟩ (.bool (y % 2==1)) rfl):P:=h
theorem j0S(h:P:=by exact Lib.hid ((Keeps.alloc w _).nt hk1)):P:=h
theorem j4Z(h:P:=by exact ((hat.row.set (k:=k) (by omega) ((i:Int)+1)).set (k:=k+1) (by omega) y).keep (Keeps.drew _)):P:=h
theorem j1y(h:P:=by simp [results,Tryz.results155,go_sem]):P:=h
theorem j3k(h:P:=by exact Qe _ _ bl bd bi day v L false ((k+1:Nat):Int) fr F _ hfa (.inl rfl) (.inr (.inl rfl)) hbig):P:=h
theorem j4v(h:P:=by first|exact Keeps.drewN _ _|exact(Keeps.drewN _ _).trans (Keeps.drewN _ _)):P:=h
theorem j1L(h:P:=by simp [results,Tryz.results68,go_sem]):P:=h
theorem j1A(h:P:=by rw [hRn];exact hR.keeps hW (by simp)):P:=h
theorem j4L(h:P:=by exact Keeps.setCell (S:=λi=>i=F) w4 ⟨F,9,none⟩ (.pointer (some ⟨bl,0,none⟩)) rfl):P:=h
theorem j0D(h:P:=by rw [hvi'];exact e):P:=h
theorem j1G(h:P:=by rw [hn];exact hr.keeps hW (by simp)):P:=h
theorem j4z(h:P:=by simp [results, Tryz.results7, go_sem, r0, r1, r2, r3, r4, r5, r6, rl]):P:=h
theorem j0A(h:P:=by exact Ad Hr0.o hk1 (by simp)):P:=h
theorem j0Z(h:P:=by exact Keeps.refl (λ_=>False) w5):P:=h
theorem j2X(h:P:=by simp only [show((2 ^ 54:Nat):Int)=18014398509481984 from rfl];omega):P:=h
theorem j2b(h:P:=by rw [hw1];exact heap_alloc_new w _):P:=h
theorem j19(h:P:=by rw [<-hlen];exact hr):P:=h
theorem j1S(h:P:=by exact hs1.keep (Keeps.alloc _ _)):P:=h
theorem j4m(h:P:=by exact fun(W:World) (hW:K0 w W)=>Qd a.D x.vb x.bb W ((h.keep0 hW).bk)):P:=h
theorem j1j(h:P:=by rw [Hn.o];exact Nat.le_refl _):P:=h
theorem j1v(h:P:=by rw [HN.o];exact Nat.le_refl _):P:=h
theorem j1c(h:P:=by unfold maxLen; omega):P:=h
theorem j2W(h:P:=by simp only [show((2 ^ 34:Nat):Int)=17179869184 from rfl];omega):P:=h
theorem j2c(h:P:=by rw [hw1];exact Keeps.alloc _ _):P:=h
theorem jZ(h:P:=by simp [q10]):P:=h
theorem j16(h:P:=by exact HSk.o _ hkn):P:=h
theorem j4W(h:P:=by
 clear hb8e hb9e hwE hln hbn2 hk5 hol hob k5E hs5;have ya0:=Aa hb8 0;have yb0:=Ab hb8 0;have ya1:=Aa hb8 1;have yb1:=Ab hb8 1;have ya2:=Aa hb8 2;have yb2:=Ab hb8 2;have ya3:=Aa hb8 3;have yb3:=Ab hb8 3;have ya4:=Aa hb8 4;have yb4:=Ab hb8 4;have ya5:=Aa hb8 5;have yb5:=Ab hb8 5;have ya6:=Aa hb8 6;have yb6:=Ab hb8 6;have ya7:=Aa hb8 7;have yb7:=Ab hb8 7;have ya8:=Aa hb8 8;have yb8:=Ab hb8 8;have yc0:=Aa hb9 0;have yd0:=Ab hb9 0;have yc1:=Aa hb9 1;have yd1:=Ab hb9 1;have yc2:=Aa hb9 2;have yd2:=Ab hb9 2;have hne2:¬b9=b8:=λe=>hne e.symm;have hl8:∀b,(Value.slice al x.lines.length cl2).ownBlock=some b->¬b=b8:=λb hb e=>by subst e;exact Ah hlnE hb8 j7 hb
 have hl9:∀b,(Value.slice al x.lines.length cl2).ownBlock=some b->¬b=b9:=λb hb e=>by subst e;exact Ah hlnE hb9 j7 hb
 have hq8:∀b,(Value.slice ab2 q.bal.length cb2).ownBlock=some b->¬b=b8:=λb hb e=>by subst e;exact Ah hbnE hb8 j7 hb
 have hq9:∀b,(Value.slice ab2 q.bal.length cb2).ownBlock=some b->¬b=b9:=λb hb e=>by subst e;exact Ah hbnE hb9 j7 hb
 obtain⟨hb8',k8⟩:=Kj hb8 (.int .i64 x.cycle) (.int .i64 x.fr) (.int .i64 x.te) (.int .i64 x.due) (.slice al x.lines.length cl2) (.int .i64 x.total) (.int .i64 x.credit) (.int .i64 x.min) (.bool x.grace);obtain⟨hb9',k9⟩:=Cb (Ad hb9 k8 hne2) (.slice ab2 q.bal.length cb2) (.int .i64 q.cr) (.int .i64 q.du);have hb8F:=Ad hb8' k9 (λe=>hne e);have kE8:=k7E.trans (k8.mono λi _ e=> .inr (by have e':i=b8:=e;omega));have kEF:=kE8.trans (k9.mono λi _ e=> .inr (by have e':i=b9:=e;omega));have hlnF:=k9.row (k8.row hlnE hl8) hl9;have hbnF:=k9.row (k8.row hbnE hq8) hq9;have hsA:=hs7.keep kE8;have hsB:=hs7.keep kEF;clear hb8 hb9 hb8' k8 k9 kE8 hl8 hl9 hq8 hq9 hlnE hbnE;have HsA:=Lib.hid hsA;clear hsA;refine ja ?_;intro K hK;refine hK.out _ _ (by exact HsA.o) ?_;clear hK K;refine jh ?_;have HsB:=Lib.hid hsB;clear hsB;refine ja ?_;intro K hK;refine hK.out _ _ (by exact HsB.o) ?_;clear hK K;refine jk ?_;clear ya0 yb0 ya1 yb1 ya2 yb2 ya3 yb3 ya4 yb4 ya5 yb5 ya6 yb6 ya7 yb7 ya8 yb8 yc0 yd0 yc1 yd1 yc2 yd2 hs7;obtain⟨wF,hwF⟩:=eY ((((((((((((wE.setCell ⟨b8,0,none⟩ (.int .i64 x.cycle)).setCell ⟨b8,1,none⟩ (.int .i64 x.fr)).setCell ⟨b8,2,none⟩ (.int .i64 x.te)).setCell ⟨b8,3,none⟩ (.int .i64 x.due)).setCell ⟨b8,4,none⟩ (.slice al x.lines.length cl2)).setCell ⟨b8,5,none⟩ (.int .i64 x.total)).setCell ⟨b8,6,none⟩ (.int .i64 x.credit)).setCell ⟨b8,7,none⟩ (.int .i64 x.min)).setCell ⟨b8,8,none⟩ (.bool x.grace)).setCell ⟨b9,0,none⟩ (.slice ab2 q.bal.length cb2)).setCell ⟨b9,1,none⟩ (.int .i64 q.cr)).setCell ⟨b9,2,none⟩ (.int .i64 q.du));rw [<-hwF] at hb8F hb9' kEF hlnF hbnF⊢;clear hwF;have Hn8:=Lib.hid hn8;clear hn8;have hr7:=Hr4.o.keep0 Hk7.o;have hrF:=hr7.keep0 kEF;have b19:=Aa hrF.blk 19;have hnil:∀w:World,(binOp .neq 176 .nilFunc .nilFunc).run Tryz.prog w= .ok (.bool false) w:=λ_=>by kernel_rfl
 rcases D with _|⟨x',q'⟩
 ·have hC':=HC.o;simp only at hC';subst hC';have hcv:=Hcv.o;simp only [Fe,Prod.mk.injEq] at hcv;obtain⟨rfl,rfl,rfl⟩:=hcv;clear hb8F hb9' kEF hlnF hbnF hr7;have HrF:=Lib.hid hrF;clear hrF hnil holE hobE;go_wp2;go_ret;exact⟨rfl,HrF.o⟩
 ·have hC':=HC.o;simp only at hC';have hcv:=Hcv.o;simp only [Fe,Prod.mk.injEq] at hcv;obtain⟨rfl,rfl,rfl⟩:=hcv;obtain⟨hql,_⟩:=Gm Hz.o Hpr.o (by rw [HVl.o];exact H.o.nb.symm) (List.all_eq_true.2 λy hy=>(Bi y).2 (HVb.o y hy)) HD.o;rw [H.o.nb] at hql;rw [hql] at hbnF hb9' hobE⊢;have u10:=(heap_setCell_same _ _ 10 _ _ (.slice ab2 n cb2) hrF.blk).trans rfl;have u11:=(heap_setCell_same _ _ 11 _ _ (.int .i64 q'.cr) u10).trans rfl;have u12:=(heap_setCell_same _ _ 12 _ _ (.int .i64 q'.du) u11).trans rfl;have kB:Keeps (λi=>i=B) wF (((wF.setCell ⟨B,10,none⟩ (.slice ab2 n cb2)).setCell ⟨B,11,none⟩ (.int .i64 q'.cr)).setCell ⟨B,12,none⟩ (.int .i64 q'.du)):=((Keeps.setCell (S:=λi=>i=B) _ _ _ rfl).trans (Keeps.setCell _ _ _ (.inl rfl))).trans (Keeps.setCell _ _ _ (.inl rfl));have hupd:=hr7.upd kEF kB u12 hbnF hrF.rts hql Hr4.o.nr (.inr hobE) (.inl rfl)
  have hB8:¬b8=B:=λe=>by
   have h1:=hb8F;rw [e,hrF.blk] at h1;exact j0y
  have hb8G:=Ad hb8F kB hB8;have hlnG:=kB.row hlnF (λi hi e=>by have e':i=B:=e;subst e';exact Ah hlnF hrF.blk j7 hi);have p0:=Aa hb9' 0;have p1:=Aa hb9' 1;have p2:=Aa hb9' 2;have b10:=Aa hrF.blk 10;have b11:=Aa hrF.blk 11;have b12:=Aa hrF.blk 12;have f10:=Ab hrF.blk 10;have f11:=Ab hrF.blk 11;have f12:=Ab hrF.blk 12;obtain⟨W12,hW12⟩:=eY (((wF.setCell ⟨B,10,none⟩ (.slice ab2 n cb2)).setCell ⟨B,11,none⟩ (.int .i64 q'.cr)).setCell ⟨B,12,none⟩ (.int .i64 q'.du));rw [<-hW12] at hupd hb8G hlnG;have hS13:=r13S.keep (r13S.of hupd.blk rfl hb8G) (Keeps.drew (S:=λ_=>False) _) (by simp) (by simp);have holX:Own w0 X (.slice al x'.lines.length cl2):=hr7.ownN holE;clear hb8F hb9' kEF hlnF hbnF hr7;have HrF:=Lib.hid hrF;clear hrF holE hobE hql u10 u11 u12 kB;have Hupd:=Lib.hid hupd;clear hupd hB8 hb8G;obtain⟨HlnG,HS13,HolX,HC'⟩:=hid4 hlnG hS13 holX hC';clear hC' holX hS13 hlnG;go_wp2_with fail;rw [<-hW12];clear hW12 p0 p1 p2 b10 b11 b12 f10 f11 f12 b19 hnil;refine Cz (r13S B b8 (.slice av m cv) x'.cycle x'.fr x'.te x'.due (.slice al x'.lines.length cl2) x'.total x'.credit x'.min x'.grace) 10 (.take 0 (.take 1 (.take 2 (.take 3 (.take 4 (.take 5 (.move 6 (.move 7 (.move 8 (.move 9 (.move 10 .done))))))))))) j9 j9 ?_ ?_
  ·exact HS13.o
  intro w13 hs13 hk13;refine je ?_;intro K hK;refine hK.out _ _ (by exact hs13.keep (S:=λ_=>False) (Keeps.alloc _ _) (by simp) (by simp)) ?_;clear hK K;refine jh ?_;have hk13a:=hk13.nt (Keeps.alloc w13 (.cells (SV.cells ⟨x',al,cl2⟩).toArray 59));have hrow13:=(Hupd.o.keep0 hk13a).out;rw [Hmm.o] at hrow13;refine Ag rfl (λK hK=> ?_);refine Cc rfl (.tmp 107) (.tmp 109) 101 rfl 0 59 i0 _ 9 88 Tryz.underlying101 Hi.o Hi0.o Hi1.o Hi2.o rfl j7 (.slice av m cv) m _ rfl hrow13 _ 1 _ rfl (Reads.litAt _ _ _ 9 1 _ jr rfl) jf jd j6 (Nat.zero_le _) ?_;intro v14 w14 hown14 hk14 hf14;obtain⟨a14,c14,rfl,_,_⟩:=Ae hown14;have hadd:=Hupd.o.Ri (x:=⟨x',al,cl2⟩) hk13a hk14 (by rw [Hmm.o,List.flatMap_append];exact hown14) (HlnG.o.of_keeps hk13a) HolX.o hf14;have h14b:=Ad (Hupd.o.keep0 hk13a).blk hk14 (λe=>Ah hrow13 (Hupd.o.keep0 hk13a).blk j7 e);have hb8n:W.heap.size<=b8:=by have h1:=Hk4w.o.size;have h2:=Hk7.o.size;have h3:=Hn8.o;omega
  have h14s:¬(Value.slice av m cv).ownBlock=some b8:=λe=>by have:=Ch H.o.out e;omega
  have o16:=Aa h14b 16;have of16:=Ab h14b 16;refine hK.out _ _ (by exact(hs13.keep (S:=λ_=>False) (Keeps.alloc _ _) (by simp) (by simp)).keep hk14 (λe=>Ah hrow13 (Hupd.o.keep0 hk13a).blk j7 e) h14s) ?_;clear hK K;refine jc ?_;clear hk13a hrow13 hown14 hk14;have Hadd:=Lib.hid hadd;clear hadd h14b hb8n h14s hk13;clear hs13 hf14
  repeat (refine Ej (v:= ?_) rfl (by rfl) ?_ ?_;rotate_left;(· intro w' hSw;unfold r13S at hSw;go_simp;(try with_reducible rfl));rotate_right;try simp only [aps])
  refine j07 ?_;clear o16 of16;have hfr:=Eu Hadd.o j6;have Hfr:=Lib.hid hfr;clear hfr;go_wp2_with fail;refine Hfr.o.mono ?_;rintro e w16 ⟨rfl,a16,b16',hr16⟩;have hCC:=HC'.o;subst hCC;have Hr16:=Lib.hid hr16;clear hr16;go_wp2;go_ret
  exact⟨rfl,_,_,_,_,_,Hr16.o⟩):P:=h
theorem j2j(h:P:=by
 have hrl:=Hrot.o.left Hsym.o H1.o H2.o;have hrr:=Hrot.o.right Hsym.o H1.o H2.o;have hcr:=Hrot.o.cross Hsym.o H1.o H2.o;obtain⟨Hrl,Hrr,Hcr⟩:=hid3 hrl hrr hcr;clear hcr hrr hrl;by_cases hA:a<j/\j<mid
 ·have hA1:(a:Int)<(j:Int):=j8;have hA2:(j:Int)<(mid:Int):=j8;have hcA:=Ih.o a j mid n cap g X w2 j6 Hrow2.o j6 j6 j6 (λx hx=>Hok.o x (Hrot.o.t.alike.mem hx)) hn Hrl.o.1 Hrl.o.2;have HcA:=Lib.hid hcA;clear hcA
  go_wp2_with (first|(go_at_call 161;(with_reducible refine HcA.o.mono ?_);rintro e w3 ⟨rfl,Y,htY,huY,hrow3,hk3⟩;have HtY:=Lib.hid htY;have HuY:=Lib.hid huY;have Hrow3:=Lib.hid hrow3;have Hk3:=Lib.hid (Hk2.o.same hk3);clear htY huY hrow3 hk3;refine halt ?_))
  refine Lib.hid ?_;exact j2i
 ·have huY:Upto X a mid:=by
   by_cases hA3:a<j
   ·exact Hrl.o.1.sub (Nat.le_refl _) j6
   ·exact Hrl.o.2.sub j6 (Nat.le_refl _)
  obtain⟨Y,hY⟩:=eY X;obtain⟨w3,hw3⟩:=eY w2;have htY:Turned X Y a mid:=by rw [hY];exact Turned.refl _ _ _
  have hrow3:RowE w3 g n cap Y:=by rw [hY,hw3];exact Hrow2.o
  have hk3:Keeps (λi=>i=g) w w3:=by rw [hw3];exact Hk2.o
  rw [<-hY] at huY;rw [<-hw3];obtain⟨HuY,HtY,Hrow3,Hk3⟩:=hid4 huY htY hrow3 hk3;clear hk3 hrow3 htY huY hY hw3;by_cases hA3:(a:Int)<(j:Int)
  ·have hA4:¬(j:Int)<(mid:Int):=j8;exact j2i
  ·skip
   exact j2i):P:=h
theorem j2e(h:P:=by
 have hk2:Keeps (λi=>i=w.heap.size+1) W1 W2:=by
  rw [hW2]
  repeat (first|exact Keeps.setCell _ _ _ rfl|(refine Keeps.trans ?_ (Keeps.setCell _ _ _ (.inl rfl))))
 clear hW2;have hkw2:K0 w W2:=Hk1.o.trans (hk2.mono λi _ e=> .inr j6);obtain⟨HL2,HL2e,Hk2,Hkw2⟩:=hid4 hL2 hL2e hk2 hkw2;clear hkw2 hk2 hL2e hL2
 go_wp2_with (first|(refine wpList_load_row rfl 118 (.tmp 10) rfl (w.heap.size+1) rfl 118 (b48 LP).toArray _ _ HP3.o.blk Tryz.underlying118 rfl Bj ?_)|(go_at_call 86;(with_reducible refine(Hjs.o _).mono ?_);rintro e w5 ⟨⟨s0,s1,s2,s3,rfl,hs4⟩,hk5⟩;have Hs4:=Lib.hid hs4;have Hk5:=Lib.hid hk5;clear hs4 hk5)|(refine Cx rfl (.tmp 52) (.tmp 53) 22 22 rfl 5 1 Tryz.underlying22 Du (w.heap.size+1) 6 42 42 ⟨gs,os,none⟩ _ cap rfl rfl (b48 L2) 118 HL2.o.blk (B.flatMap u8c) _ Hmin.o HBl.o (Hsrc.o W2 Hkw2.o) (by rw [HBl.o,Cw];omega) HBo.o ?_;intro w3 hb3 hk3;obtain⟨hP3,z47,c47,f47,l47⟩:=page3 Hm.o HL2.o HL2e.o hb3 j6 Hfl.o HmI.o;rw [HLP.o] at hP3;have HP3:=Lib.hid hP3;have Hk3:=Lib.hid hk3;clear hP3 hk3 hb3))
 refine Di λW6 hW6=> ?_;have hk35:K0 (w3.setCell ⟨w.heap.size+1,47,none⟩ (.int .u8 90)) W6:=by rw [hW6];exact Keeps.nt Hk5.o (Keeps.alloc _ _)
 have hP6:At48 W6 (w.heap.size+1) LP:=⟨Ad HP3.o.blk hk35 (by simp),HP3.o.len⟩;have hS6:W6.heap[w5.heap.size]?=some (.cells #[.int .u8 s0,.int .u8 s1,.int .u8 s2,.int .u8 s3] 179 (0,0)):=by rw [hW6];exact heap_alloc_new w5 _
 have hkw6:K0 w W6:=Keeps.nt (Hkw2.o.trans ((Hk3.o.trans (Keeps.setCell _ _ _ (.inl rfl))).mono λi _ e=> .inr j6)) hk35
 have hB6:W6.heap[w.heap.size]?=some (.cells (b48 (List.replicate 48 0)).toArray 118 (0,0)):=by
  rw [hk35.block _ (by simp;have:=lt_of_block Hb0.o;have:=Hk2.o.size;have:=Hk3.o.size;omega) (by simp),Below.heap_setCell _ _ _ _ (by simp),Hk3.o.block _ (by have:=lt_of_block Hb0.o;have:=Hk2.o.size;omega) j6,Hk2.o.block _ (lt_of_block Hb0.o) j6];exact Hb0.o
 clear hW6;clear hk35;obtain⟨HP6,HS6,Hkw6,HB6⟩:=hid4 hP6 hS6 hkw6 hB6;clear hB6 hkw6 hS6 hP6;refine Cm (λW=>W=W6.drew) 2 (.take 0 (.take 1 (.move 2 .done))) j9 j9 ?_ ?_
 ·rfl
 intro w6 hs6 hk6;subst w6;have hd6:K0 W6 W6.drew:=Keeps.drew _;clear hk6;have Hd6:=Lib.hid hd6;clear hd6;refine jR ?_;refine Cu rfl (λK hK=> ?_);refine Dp rfl (.tmp 59) (.tmp 60) 22 22 rfl 5 1 Tryz.underlying22 Du (w.heap.size+1) 0 48 48 ⟨w5.heap.size,0,none⟩ 4 4 rfl rfl (b48 LP) 118 (Ad HP6.o.blk Hd6.o (by simp)) [.int .u8 s0,.int .u8 s1,.int .u8 s2,.int .u8 s3] 4 rfl rfl (λj v hj=>by rw [Ef,Nat.zero_add,Aa (Ad HS6.o Hd6.o (by simp))];simpa using hj) (by rw [Cw];simp) jf ?_;intro w7 hb7 hk7;refine hK.out _ _ ?_;clear hK K
 have hP7:w7.heap[w.heap.size+1]?=some (.cells (b48 R).toArray 118 (0,0)):=by
  have h:=Jh HP6.o.len (B:= [s0,s1,s2,s3]) (o:=0) (by simp);rw [show([s0,s1,s2,s3]:List Int).flatMap u8c= [.int .u8 s0,.int .u8 s1,.int .u8 s2,.int .u8 s3] from rfl] at h;rw [hb7,h,<-Hs4.o,<-HR.o,<-HLP.o,Ju]
 have hB7:w7.heap[w.heap.size]?=some (.cells (b48 (List.replicate 48 0)).toArray 118 (0,0)):=by
  rw [hk7.block _ (by have:=lt_of_block HB6.o;simpa using this) j6];exact Ad HB6.o Hd6.o (by simp)
 have hkw7:K0 w w7:=(Keeps.nt Hkw6.o Hd6.o).trans (hk7.mono λi _ e=> .inr j6);clear hb7 hk7;obtain⟨HP7,HB7,Hkw7⟩:=hid3 hP7 hB7 hkw7;clear hkw7 hB7 hP7;refine Aq ?_
 go_wp2_with (first|(refine wpList_store_row rfl 118 (.tmp 8) (.tmp 62) rfl w.heap.size (b48 R).toArray rfl rfl 118 (b48 (List.replicate 48 0)).toArray HB7.o Bj rfl (Em _) ?_)|(refine wpList_load_row rfl 118 (.tmp 10) rfl (w.heap.size+1) rfl 118 (b48 R).toArray _ _ HP7.o Tryz.underlying118 rfl Bj ?_))
 exact bodyPost_ret (Cq rfl _ _ w.heap.size 118 (b48 R).toArray _ _ _ rfl rfl (setRow_heap _ _ _ _ _ _ HB7.o) Tryz.underlying118 rfl Bj) rfl ⟨rfl,Hkw7.o.trans ((Keeps.setRow _ _ _).mono λi _ e=> .inr (Nat.le_of_eq e.symm))⟩):P:=h
theorem j1P(h:P:=by
 rw [hq] at hcall;simp only at hA hcall;have p0:=Aa Hpb4.o 0;have p1:=Aa Hpb4.o 1;have p2:=Aa Hpb4.o 2;have e0:=Aa Hab4.o.e 0;have e2:=Aa Hab4.o.e 2;have e3:=Aa Hab4.o.e 3;clear hq;have Hcall:=Lib.hid hcall;clear hcall;go_wp2_with fail;refine(Hcall.o _ (Keeps.refl _ _)).mono ?_;rintro e w5 ⟨v5,rfl,hrow5,hf5⟩;obtain⟨a5,m5,rfl⟩:∃a c,v5= .slice a q.bal.length c:=by obtain⟨a,c,h,_⟩:=Ae hrow5;exact⟨a,c,h⟩
 clear e0 e2 e3 p0 p1 p2;have hab5:=Hab4.o.keep0 hf5.1;have hpb5:=Ad Hpb4.o hf5.1 (by simp);have hrr5:=Hrr4.o.of_keeps hf5.1;obtain⟨hpb6,k6⟩:=Cb hpb5 (.slice a5 q.bal.length m5) (.int .i64 q.cr) (.int .i64 q.du);have hab6:=hab5.keep k6;have hg5:∀i,(Value.slice a5 q.bal.length m5).ownBlock=some i->w.heap.size+1+1<i:=λi e=>by have:=hf5.2 i e;have:=lt_of_block Hab4.o.r;omega
 have hrow6:=k6.row hrow5 (λi hi e=>by have e':i=w.heap.size:=e;have:=hg5 i hi;omega);have hrr6:=k6.row hrr5 (λi hi e=>by have e':i=w.heap.size:=e;have:=Hg2.o i hi;omega);have p0:=Aa hpb5 0;have p1:=Aa hpb5 1;have p2:=Aa hpb5 2;have q0:=Ab hpb5 0;have q1:=Ab hpb5 1;have q2:=Ab hpb5 2;have r0:=Aa hab5.r 0;have r1:=Aa hab5.r 1;have r2:=Aa hab5.r 2;have rf0:=Ab hab5.r 0;have rf1:=Ab hab5.r 1;have rf2:=Ab hab5.r 2;by_cases hz0:z=0
 ·subst hz0;rw [if_pos rfl] at hA;subst hA;have hS3:=Cb hab6.r (.slice a5 q.bal.length m5) (.int .i64 q.cr) (.int .i64 q.du);obtain⟨hb9,k9⟩:=hS3;have hkf:=hab6.kp.trans (k9.mono λi _ e=> .inr j0e);have hrow9:=k9.row hrow6 (λi hi e=>by have e':i=w.heap.size+1+1:=e;have:=hg5 i hi;omega);have hrr9:=k9.row hrr6 (λi hi e=>by have e':i=w.heap.size+1+1:=e;have:=Hg2.o i hi;omega);refine jT ?_;intro sr0 sr1 sr2;clear hrow5 hf5 hab5 hpb5 hrr5 hpb6 k6 hab6;have Hg5:=Lib.hid hg5;clear hg5 hrow6 hrr6 hb9;obtain⟨K9,Hkf,Hrow9,Hrr9,Sr0,Sr1,Sr2⟩:=hid7 k9 hkf hrow9 hrr9 sr0 sr1 sr2;clear sr2 sr1 sr0 hrr9 hrow9 hkf k9;go_wp2;refine jj ?_;intro R0' R1' R2';clear r0 r1 r2 p0 p1 p2;exact bodyPost_ret (v:= .tuple #[.agg #[.slice a5 q.bal.length m5,.int .i64 q.cr,.int .i64 q.du],.slice (some ⟨gr,0,none⟩) m cr2,.int .i64 0]) j0Y rfl ⟨_,_,rfl,Hrow9.o,by rw [HRm.o];exact Hrr9.o,Hkf.o,λi hi=>by have:=Hg5.o i hi;omega,λi hi=>by have:=Hg2.o i hi;omega⟩
 ·rw [if_neg hz0] at hA;subst hA;have hz1:(z !=0)=true:=by simp [hz0]
  have hS3:=Cb hab6.r (.slice none 0 0) (.int .i64 0) (.int .i64 0);obtain⟨hb9,k9⟩:=hS3;have hkf:=hab6.kp.trans (k9.mono λi _ e=> .inr j0e);refine jT ?_;intro sr0 sr1 sr2;clear hrow5 hf5 hab5 hpb5 hrr5 hpb6 k6 hab6;have Hg5:=Lib.hid hg5;clear hg5 hrow6 hrr6 hb9;obtain⟨K9,Hkf,Sr0,Sr1,Sr2⟩:=hid5 k9 hkf sr0 sr1 sr2;clear sr2 sr1 sr0 hkf k9 hz0;go_wp2;refine jj ?_;intro R0' R1' R2';clear r0 r1 r2 p0 p1 p2
  exact bodyPost_ret (v:= .tuple #[.agg #[.slice none 0 0,.int .i64 0,.int .i64 0],.slice none 0 0,.int .i64 z]) j0Y rfl ⟨_,_,rfl,World.ownsRow_nil _ _ _ _,World.ownsRow_nil _ _ _ _,Hkf.o,by simp [Value.ownBlock],by simp [Value.ownBlock]⟩):P:=h
theorem j2g(h:P:=by
 refine j4J ?_;have hkT:K0 w6 (w8.alloc (.cells #[.slice a8 m c8] 22)):=Hk68.o.nt (Keeps.alloc _ _);have hJT:=Ad HJ6.o hkT (by simp);have hrT:=hkT.row Hrl6.o (λ_ _ h=>h);have hsT:=Hs8.o.keep (Keeps.alloc (S:=λ_=>False) w8 (.cells #[.slice a8 m c8] 22)) (by simp) (by simp);clear c2' l8;obtain⟨HkT,HJT,HrT,HsT⟩:=hid4 hkT hJT hrT hsT;clear hsT hrT hJT hkT;refine Ag rfl (λK hK=> ?_);refine Cc rfl (.tmp 84) (.tmp 87) 78 rfl 0 22 i0 _ 1 24 Tryz.underlying78 Hi.o Hi0.o Hi1.o Hi2.o rfl j7 vl nr RL rfl HrT.o _ 1 _ rfl (Reads.lit _ _ _ _ _ rfl) jf jd j6 j6 ?_;intro v9 w9 hown9 hk9 hf9;obtain⟨a9,c9,rfl,_,_⟩:=Ae hown9;dsimp only;have hs9:=HsT.o.keep hk9 nv1 nv2;refine hK.out _ _ (by exact hs9) ?_;clear hK K;refine jc ?_;have hJ9:=Ad HJT.o hk9 hnvJ;have j2:=Aa hJ9 2;have j3:=Aa hJ9 3;have f2:=Ab hJ9 2;have f3:=Ab hJ9 3;have Hs9:=Lib.hid hs9;clear hs9;obtain⟨HJ9,Hk9,Hown9,Hf9⟩:=hid4 hJ9 hk9 hown9 hf9;clear hf9 hown9 hk9 hJ9;refine je ?_;intro K hK;refine hK.out _ _ (by exact Hs9.o.keep (Keeps.setCell (S:=λi=>i=J) _ _ _ rfl) nj1 nj2) ?_;clear hK K;refine jh ?_;refine ja ?_;intro K hK;refine hK.out _ _ (by exact(Hs9.o.keep (Keeps.setCell (S:=λi=>i=J) _ _ _ rfl) nj1 nj2).keep (Keeps.setCell (S:=λi=>i=J) _ _ _ rfl) nj1 nj2) ?_;clear hK K;refine jq ?_;refine Lt λW10 hW10=> ?_
 have hk610:Keeps (λi=>i=J\/vl.ownBlock=some i) w6 W10:=by
  rw [hW10];exact(HkT.o.mono (by simp)).trans ((Hk9.o.mono λi _ e=> .inl (.inr e)).trans (((Keeps.setCell (S:=λi=>i=J) _ _ _ rfl).mono λi _ e=> .inl (.inl (.inl e))).trans ((Keeps.setCell (S:=λi=>i=J) _ _ _ rfl).mono λi _ e=> .inl (.inl (.inl (.inl e))))))
 have hJ10:W10.heap[J]?=some (.cells #[(.pointer (some ⟨P,0,none⟩)),.int .i64 fl,.slice a9 (nr+1) c9,.int .i64 nI] 115 (0,0)):=by
  rw [hW10];exact(heap_setCell_same _ _ 3 _ _ _ (heap_setCell_same _ _ 2 _ _ (.slice a9 (nr+1) c9) HJ9.o)).trans rfl
 obtain⟨R9,hR9⟩:∃R9,w9.ownsRow 0 22 1 (.slice a9 (nr+1) c9) (nr+1) R9:=⟨_,Hown9.o⟩
 have hrow10:W10.ownsRow 0 22 1 (.slice a9 (nr+1) c9) (nr+1) R9:=by
  rw [hW10];exact(Keeps.setCell (S:=λi=>i=J) _ _ _ rfl).row ((Keeps.setCell (S:=λi=>i=J) _ _ _ rfl).row hR9 (λk hk e=>Ah hR9 HJ9.o j7 (e▸hk))) (λk hk e=>Ah hR9 HJ9.o j7 (e▸hk))
 have hv10:∀g,(Value.slice a9 (nr+1) c9).ownBlock=some g->vl.ownBlock=some g\/w6.heap.size<=g:=λg hg=>by
  rcases Hf9.o with e|⟨g',e,h⟩
  ·exact .inl (e.symm.trans hg)
  ·rw [e] at hg;have e':g'=g:=Option.some.inj hg;have:=HkT.o.size;exact .inr j6
 have hR10:=Ad HR6.o hk610 (λe=>e.elim (λe=>by have:=hJw;omega) λe=>by have:=hvlt _ e;omega);rw [<-HnI.o] at hJ10;obtain⟨r1,r2,r3,r4,r5,r6,r7⟩:=Zx hfw hJw hvlt hnJ0 hvP HkB.o Hk6.o Hp6.o hk610 hJ10 hrow10 hv10 HR6.o (Nat.le_succ _) (by have:=Hkw1.o.size;omega) HK6.o;have c10:=Aa hR10 0;have g10:=Ab hR10 0;clear hW10 j2 j3 f2 f3;obtain⟨R1,R2,R3,R4,R5,R6,R7⟩:=hid7 r1 r2 r3 r4 r5 r6 r7;clear r7 r6 r5 r4 r3 r2 r1 hk610 hJ10 hrow10 hv10 hR10;go_wp2;refine⟨by simp,.inl ⟨_,_,rfl,run_takeDeferred R1.o, ?_⟩⟩
 exact⟨.int .i64 0,by simp [results,Tryz.results24,go_sem,R2.o],rfl,_,_,R3.o,R4.o,by rw [HL1.o];exact R5.o,R6.o,R7.o⟩):P:=h
theorem jG(h:P:=by
 intro o u0 u1 u2 u3 u4;have hkk:Keeps (λj=>j=b) w w4:=(((Keeps.alloc w _).trans (Hk1.o.mono λ_ _ e=> .inl e)).trans ((Hk2.o.mono λ_ _ e=> .inl e))).trans ((Keeps.trans (S:=λj=>j=b) Hk3.o (hk4.mono λ_ _ e=> .inl e)).mono λ_ _ e=> .inl e)
 have hk5:Keeps (λj=>j=w.heap.size) w4 ((((((w4.setCell ⟨w.heap.size,0,none⟩ u0).setCell ⟨w.heap.size,1,none⟩ u1).setCell ⟨w.heap.size,2,none⟩ u2).setCell ⟨w.heap.size,3,none⟩ u3).setCell ⟨w.heap.size,4,none⟩ u4).alloc o):=
  (Keeps.set5 (S:=λj=>j=w.heap.size) (Keeps.refl _ w4) w.heap.size (.inl rfl) u0 u1 u2 u3 u4).trans (Keeps.alloc _ o)
 exact⟨by rw [Hcmd.o];rfl,hr4.keeps hk5 (λj hj=>by omega),hkk.trans (hk5.mono λj _ hj=>by right;omega)⟩):P:=h
theorem j4V(h:P:=by
 go_enter Tryz.func147,Tryz.ntmps147
 go_wp2_with (first|(go_at_call 35;(with_reducible refine(Hri.o _ ((Keeps.alloc _ _).Af)).mono ?_);rintro e w1 ⟨rfl,hk1⟩;have hkw1:=(((Keeps.alloc (S:=λ_=>False) w _).Af).nt hk1);have hb1:=Hbx.o _ hk1;obtain⟨x0,x2,x3,p0,xl,pl⟩:=hb1;have Hk1:=Lib.hid hkw1;clear hk1 hkw1)|(go_at_call 162;(with_reducible refine(Hco.o _ Hk1.o).mono ?_);rintro e w2 ⟨rfl,rfl⟩))
 go_ret
 exact⟨rfl,Hk1.o⟩):P:=h
theorem j0g(h:P:=by
 obtain⟨Hno,Hpo,Hee,HR0⟩:=hid4 hno hpo hee hR0;clear hR0 hee hpo hno;go_wp2_with fail;go_step3;go_wp2;refine j0j ?_;intro Sr0 Sr1 Sr2 Sr3 Sr4
 go_wp2_with (refine wpList_store_row rfl 186 (.tmp 6) (.tmp 138) rfl R #[.int .i64 0,.int .i64 0,.int .i64 0,.int .i64 0,.int .i64 0] rfl rfl 186 #[.int .i64 0,.int .i64 0,.int .i64 0,.int .i64 0,.int .i64 0] HR0.o Bu rfl (Dw _ _ _ _ _) ?_)
 refine jp ?_;intro R0' R1' R2' R3' R4';rw [Exit.noGoto_ret]
 exact bodyPost_ret (v:= .tuple #[.agg #[.int .i64 0,.int .i64 0,.int .i64 0,.int .i64 0,.int .i64 0],.int .i64 8]) jt rfl ⟨by rw [Hno.o.1,Hee.o];rfl,by rw [Hno.o.2];exact Hpo.o⟩):P:=h
theorem j0G(h:P:=by
 obtain⟨Hs,Hra,Hrb,Hn⟩:=hid4 hs hra hrb hn;clear hn hrb hra hs hws;obtain⟨Hend,Hm,Hrow⟩:=hid3 hend hm hrow;clear hrow hm hend
 go_wp2_with (at_builtin;refine Am rfl (.tmp 89) (.tmp 91) 102 rfl 0 142 i0 _ 9 72 Tryz.underlying102 Hi.o Hi0.o Hi1.o Hi2.o rfl j7 (.slice adv m cv) m _ rfl (Hrow.o.alloc _) _ 1 _ rfl (Reads.litAt _ _ _ 9 1 _ jr rfl) jf jd j6 (Nat.zero_le _) ?_)
 intro v' w' hown hk' hf
 have hz:Ng w seq a b (.returned v') w':=by
  have hn1:∀g,(Value.slice adv m cv).ownBlock=some g->w.heap.size<=g:=λg hg=>by have:=Hs.o.nw g hg;have:=Hs.o.w0;omega
  refine⟨v',rfl, ?_,(Hs.o.kp.Ce (Keeps.alloc _ _)).trans (hk'.mono λi _ e=> .inr (hn1 i e)),λg hg=> ?_⟩
  ·rw [Hend.o];simp only [List.length_append,List.length_singleton,List.flatMap_append,List.flatMap_cons,List.flatMap_nil,List.append_nil,Hm.o];exact hown
  ·rcases hf with e|⟨g',e,h'⟩
   ·exact hn1 g (by rw [<-e];exact hg)
   ·rw [e] at hg;simp only [Option.some.injEq] at hg;have:=Hs.o.kp.size;try simp at h'
    omega
 have Hz:=Lib.hid hz;clear hz hown hk' hf;go_wp2_with fail;refine Bo ?_;go_ret
 exact Hz.o):P:=h
theorem j3c(h:P:=by
 go_enter Tryz.func154,Tryz.ntmps154;go_wp2_with fail;refine(Hri.o _ jg).mono ?_;rintro e w1 ⟨rfl,hk1⟩;refine j1B ?_;intro hkw hb1 hrs b0 b1 b2;refine j1D ?_;intro hb9 k9 r0 r1 r2 rf0 rf1 rf2 sr0 sr1 sr2;have Hrs:=Lib.hid hrs;clear hrs hb9;obtain⟨K9,Sr0,Sr1,Sr2⟩:=hid4 k9 sr0 sr1 sr2;clear sr2 sr1 sr0 k9;clear hk1;obtain⟨Hkw,Hb1⟩:=hid2 hkw hb1;clear hb1 hkw
 go_wp2_with (go_at_call 162;(with_reducible refine(Hco.o _ Hkw.o).mono ?_);rintro e w2 ⟨rfl,rfl⟩)
 refine jj ?_;intro R0' R1' R2';clear r0 r1 r2
 exact bodyPost_ret (v:= .tuple #[.agg #[.slice none 0 0,.int .i64 0,.int .i64 0],.int .i64 1]) j1E rfl ⟨_,rfl,⟨by simp [ps0],.inl ⟨rfl,rfl⟩⟩,Hkw.o.trans (K9.o.mono λi _ e=> .inr jo),λg hg=>by simp [Value.ownBlock] at hg⟩):P:=h
theorem j1x(h:P:=by
 subst hzz;clear hr hz;obtain⟨Htm,Hsh⟩:=hid2 htm hsh;clear hsh htm hq;have B0:=Lib.hid b0;clear b0 hn;go_enter Tryz.func155,Tryz.ntmps155;go_wp2_with fail;refine Ay 0 rfl ?_;go_wp2_with fail;refine(Htm.o _ (Keeps.alloc _ _)).mono ?_;rintro e w1 ⟨rfl,hk1⟩;have hb:=B0.o _ hk1;have c5:=Aa hb 5;have Hk1:=j0S;clear hk1 hb;go_wp2_with fail;refine(Hsh.o _).mono ?_;rintro e w2 ⟨rfl,hk2⟩;have Hk2:=Lib.hid (Hk1.o.nt hk2);clear hk2;go_wp2;refine Bo ?_
 exact bodyPost_ret (v:= .tuple #[.int .i64 total,.int .i64 0]) j1y rfl ⟨rfl,Hk2.o⟩):P:=h
theorem jK(h:P:=by
 obtain⟨ad9,c9,rfl,_,_⟩:=Ae hown9;have Hds9:=Lib.hid hds9;clear hds9;clear hown9 hk9 hf9;go_wp2;go_roundw
 case rel=>exact⟨j+1,by rw [Hsd.o],by rw [show scrO B+6+4*(j+1)=scrO B+6+4*j+1+1+1+1 by omega,Hkk.o];exact Hds9.o,by have:=Hkl.o;have:=Hkk.o;unfold scrM;omega⟩
 case measure=>simp [lenOf];omega):P:=h
theorem j2i(h:P:=by
 by_cases hB:fin<b/\mid<fin
 ·have hB1:(mid:Int)<(fin:Int):=j8;have hB2:(fin:Int)<(b:Int):=j8
  have hcB:=Ih.o mid fin b n cap g Y w3 j6 Hrow3.o j6 j6 hbn (λx hx=>Hok.o x (Hrot.o.t.alike.mem (HtY.o.alike.mem hx))) hn
   ((Hrr.o.1.eq λt h1 h2=>HtY.o.out t (.inr h1))) ((Hrr.o.2.eq λt h1 h2=>HtY.o.out t (.inr j6)))
  have HcB:=Lib.hid hcB;clear hcB
  go_wp2_with (go_at_call 161;(with_reducible refine HcB.o.mono ?_);rintro e w4 ⟨rfl,Z,htZ,huZ,hrow4,hk4⟩;have HtZ:=Lib.hid htZ;have HuZ:=Lib.hid huZ;have Hrow4:=Lib.hid hrow4;have Hk4:=Lib.hid hk4;clear htZ huZ hrow4 hk4)
  go_end0;have hd:=Az (X:=X) j6 j6 (by have:=Hrot.o.t.len;omega) Hcr.o HtY.o HuY.o HtZ.o HuZ.o;exact⟨rfl,Z,Hrot.o.t.trans hd.1,hd.2,Hrow4.o,Hk3.o.same Hk4.o⟩
 ·have huZ:Upto Y mid b:=by
   have e1:=Hrr.o;by_cases hB3:mid<fin
   ·exact(e1.1.sub (Nat.le_refl _) j6).eq λt h1 h2=>HtY.o.out t (.inr h1)
   ·exact(e1.2.sub j6 (Nat.le_refl _)).eq λt h1 h2=>HtY.o.out t (.inr h1)
  have HuZ:=Lib.hid huZ;clear huZ;by_cases hB3:(mid:Int)<(fin:Int)
  ·have hB4:¬(fin:Int)<(b:Int):=j8;exact j4S
  ·exact j4S):P:=h
theorem j3I(h:P:=by
 have r0:=Aa hbx5 0;have r1:=Aa hbx5 1;have r2:=Aa hbx5 2;have rf0:=Ab hbx5 0;have rf1:=Ab hbx5 1;have rf2:=Ab hbx5 2;obtain⟨hbx6,k6⟩:=Cb hbx5 (.slice a5 q.bal.length c5) (.int .i64 q.cr) (.int .i64 q.du);have k2W:K0 w2 (((w6.setCell ⟨b4,0,none⟩ (.slice a5 q.bal.length c5)).setCell ⟨b4,1,none⟩ (.int .i64 q.cr)).setCell ⟨b4,2,none⟩ (.int .i64 q.du)):=k26.trans (k6.mono λi _ e=> .inr (by have e':i=b4:=e;omega));have hrb6:=k6.row hrb5 (λi hi e=>by have e':i=b4:=e;exact hneb i hi e');have hrr6:=k6.row hrr5 (λi hi e=>by have e':i=b4:=e;exact hner i hi e');have hkA6:=hk2.nt k2W;refine ja ?_;intro K hK;refine hK.out _ _ (by exact hs2.keep k2W) ?_;clear hK K;refine jk ?_;clear r0 r1 r2 rf0 rf1 rf2;obtain⟨W6,hW6⟩:=eY (((w6.setCell ⟨b4,0,none⟩ (.slice a5 q.bal.length c5)).setCell ⟨b4,1,none⟩ (.int .i64 q.cr)).setCell ⟨b4,2,none⟩ (.int .i64 q.du));rw [<-hW6] at hkA6 hrb6 hrr6 hbx6⊢;clear hW6 k6 k2W hneb hner hrb5 hrr5 hbx5 k26 hs2 hk2;have hkq6:=Hk1x.o.nt hkA6;have hrv6:=Hrv.o.keep0 hkq6;by_cases hz0:z=0
 ·subst hz0;obtain⟨ok1,ok2,_,_⟩:=Hok.o rfl;simp only at ok1 ok2;have hev2:=Hev.o;rw [if_pos rfl] at hev2;have hq1:q.bal.length=n:=by rw [ok1];exact Hrv.o.nb
  have hq2:R'.length=n:=by rw [ok2];exact Hrv.o.nr
  rw [hq1] at hrb6 hbx6 hgb6⊢;rw [hq2] at hrr6 hgr6⊢;have hset:=Hrv.o.setP hkq6 hrb6 hrr6 hq1 hq2 hgb6 hgr6;have hset2:=hset.setI (i+1);have t0:=Aa hbx6 0;have t1:=Aa hbx6 1;have t2:=Aa hbx6 2;have b8:=Aa hrv6.blk 8;have b10:=Aa hrv6.blk 10;have b11:=Aa hrv6.blk 11;have b12:=Aa hrv6.blk 12;have b13:=Aa hrv6.blk 13;have b17:=Aa hrv6.blk 17;have q8:=Ab hrv6.blk 8;have q10:=Ab hrv6.blk 10;have q11:=Ab hrv6.blk 11;have q12:=Ab hrv6.blk 12;have q13:=Ab hrv6.blk 13;have hil:(i:Int)+1<=1000000:=j8;have hnil2:=Hnil.o;obtain⟨W8,hW8⟩:=eY (((((W6.setCell ⟨B,10,none⟩ (.slice a5 n c5)).setCell ⟨B,11,none⟩ (.int .i64 q.cr)).setCell ⟨B,12,none⟩ (.int .i64 q.du)).setCell ⟨B,13,none⟩ (.slice a6 n c6)).setCell ⟨B,8,none⟩ (.int .i64 ((i+1:Nat):Int)));rw [<-hW8] at hset2;rw [show((i+1:Nat):Int)=(i:Int)+1 by omega] at hW8;have hci8:Df W8 B 8=((i+1:Nat):Int):=Dk (Aa hset2.blk 8);clear hkA6 hrb6 hrr6 hbx6 hkq6;have Hrv6:=Lib.hid hrv6;clear hrv6 hset;obtain⟨Hset2,Hev2⟩:=hid2 hset2 hev2;clear hev2 hset2 hgb6 hgr6;have Hci8:=Lib.hid hci8;clear hci8 hnil2 ok1 ok2 hq1 hq2 hb4n;have hnil2:=Hnil.o;go_wp2;rw [<-hW8];clear hW8;go_roundw
  case rel=>exact⟨i+1,q,R',_,_,rfl,by omega,Hev2.o,Hset2.o⟩
  case measure=>rw [Hci.o,Hci8.o];omega
 ·have hev2:=Hev.o;rw [if_neg hz0] at hev2;have hz1:(z !=0)=true:=by simp [hz0]
  subst hev2;clear hkA6 hrb6 hrr6 hbx6 hkq6;have Hrv6:=Lib.hid hrv6;clear hrv6 hgb6 hgr6 hz0 hb4n;go_wp2;go_ret
  exact⟨rfl,_,_,Hrv6.o⟩):P:=h
theorem j4s(h:P:=by
 clear hd;have hc:=te_arg (a:=a) (d:=d) j6;refine j24 ?_;intro hb0 hk0;obtain⟨H,Hb0,Hk0,Hc⟩:=hid4 h hb0 hk0 hc;clear hc hk0 hb0 h;go_enter Tryz.func61,Tryz.ntmps61;go_wp2_with fail;refine(Dg 1 _).mono ?_;rintro e w1 ⟨rfl,hk1⟩;have hb1:=Ad Hb0.o hk1 (by simp);have hk01:=Hk0.o.nt hk1;clear hk1;obtain⟨Hb1,Hk01⟩:=hid2 hb1 hk01;clear hk01 hb1;obtain⟨hput1,hput2⟩:=putRow (V:= #[.int .i64 1,.int .i64 0,.int .i64 0,.int .i64 0,.int .i64 0,.slice none 0 0,.int .i64 0,.int .i64 0,.slice none 0 0,.slice none 0 0,.int .i64 0,.int .i64 0,.int .i64 0,.int .i64 0,.int .i64 0,.slice none 0 0,.int .i64 0,.int .i64 0,.int .i64 0,.bool false]) Hb1.o Hk01.o (Nat.le_refl _);obtain⟨Hput1,Hput2⟩:=hid2 hput1 hput2;clear hput2 hput1
 go_wp2_with (refine wpList_store_row rfl 61 (.tmp 4) (.tmp 18) rfl w.heap.size #[.int .i64 1,.int .i64 0,.int .i64 0,.int .i64 0,.int .i64 0,.slice none 0 0,.int .i64 0,.int .i64 0,.slice none 0 0,.slice none 0 0,.int .i64 0,.int .i64 0,.int .i64 0,.int .i64 0,.int .i64 0,.slice none 0 0,.int .i64 0,.int .i64 0,.int .i64 0,.bool false] rfl rfl 61 #[.int .i64 0,.int .i64 0,.int .i64 0,.int .i64 0,.int .i64 0,.slice none 0 0,.int .i64 0,.int .i64 0,.slice none 0 0,.slice none 0 0,.int .i64 0,.int .i64 0,.int .i64 0,.int .i64 0,.int .i64 0,.slice none 0 0,.int .i64 0,.int .i64 0,.int .i64 0,.bool false] Hb1.o Au rfl (Da 1 0 0) ?_)
 exact bodyPost_ret (results_cell_row rfl _ _ w.heap.size 61 #[.int .i64 1,.int .i64 0,.int .i64 0,.int .i64 0,.int .i64 0,.slice none 0 0,.int .i64 0,.int .i64 0,.slice none 0 0,.slice none 0 0,.int .i64 0,.int .i64 0,.int .i64 0,.int .i64 0,.int .i64 0,.slice none 0 0,.int .i64 0,.int .i64 0,.int .i64 0,.bool false] _ _ rfl Hput1.o Tryz.underlying61 rfl Au) rfl ⟨by rw [Hc.o.1,Hc.o.2.1],by rw [Hc.o.2.2];exact Ca.same H.o Hput2.o⟩):P:=h
theorem j3p(h:P:=by
 rw [Hp.o] at hmono;have hcl:=j1M;simp only at hcl;obtain⟨Hbs,Hrow,Hk⟩:=hid3 hbs hrow hk;clear hk hrow hbs hx hy okx oky;obtain⟨HS,Hxd,Hyd,Hmono,Hcl,Hq⟩:=hid6 hS hxd hyd hmono hcl hq;clear hq hcl hmono hyd hxd hS;go_wp2_with fail
 try rw [hh]
 clear hh;by_cases hlt2:x1<y1
 ·skip
  refine Ak (twoS g q h x0 x1 x2 x3 x4 y0 y1 y2 y3 y4) (.take 0 (.take 1 (.take 2 (.take 3 (.take 4 (.take 5 (.take 6 (.take 7 (.take 8 (.take 9 (.take 10 (.move 11 (.take 12 (.take 13 .done)))))))))))))) j9 j9 ?_ ?_
  ·exact HS.o
  intro w1 hs1 hk1;refine je ?_;intro K hK
  go_at_fn f
  ((with_reducible refine(Hcl.o w1).mono ?_);rintro e w2 ⟨z,rfl,hz,hk2⟩;dsimp only)
  refine j0c ?_;clear hK K;refine j0d ?_;intro hrow2 hkw;have hb2:=Hbs.o.down Hmono.o hih hhj (by rw [Hq.o,Hxd.o,Hyd.o];omega);clear hs1 hz;clear hk1;obtain⟨Hk2,Hrow2,Hkw,Hb2⟩:=hid4 hk2 hrow2 hkw hb2;clear hb2 hkw hrow2 hk2;exact j4T
 ·skip
  refine Ak (twoS g q h x0 x1 x2 x3 x4 y0 y1 y2 y3 y4) (.take 0 (.take 1 (.take 2 (.take 3 (.take 4 (.take 5 (.take 6 (.take 7 (.take 8 (.take 9 (.take 10 (.move 11 (.take 12 (.take 13 .done)))))))))))))) j9 j9 ?_ ?_
  ·exact HS.o
  intro w1 hs1 hk1;refine je ?_;intro K hK
  go_at_fn f
  ((with_reducible refine(Hcl.o w1).mono ?_);rintro e w2 ⟨z,rfl,hz,hk2⟩;dsimp only)
  refine j0c ?_;clear hK K;refine j0d ?_;intro hrow2 hkw;have hb2:=Hbs.o.up Hmono.o hih hhj (by rw [Hq.o,Hxd.o,Hyd.o];omega);clear hs1 hz;clear hk1;obtain⟨Hk2,Hrow2,Hkw,Hb2⟩:=hid4 hk2 hrow2 hkw hb2;clear hb2 hkw hrow2 hk2
  exact j4U):P:=h
theorem j43(h:P:=by
 clear h;refine j24 ?_;intro hb0 hk0;obtain⟨Hb0,Hk0⟩:=hid2 hb0 hk0;clear hk0 hb0;go_enter Tryz.func62,Tryz.ntmps62;go_wp2_with fail;refine(Dg 12 _).mono ?_;rintro e w1 ⟨rfl,hk1⟩;have hb1:=Ad Hb0.o hk1 (by simp);have hk01:=Hk0.o.nt hk1;clear hk1;obtain⟨Hb1,Hk01⟩:=hid2 hb1 hk01;clear hk01 hb1;obtain⟨hput1,hput2⟩:=putRow (V:= #[.int .i64 12,.int .i64 0,.int .i64 0,.int .i64 0,.int .i64 0,.slice none 0 0,.int .i64 0,.int .i64 0,.slice none 0 0,.slice none 0 0,.int .i64 0,.int .i64 0,.int .i64 0,.int .i64 0,.int .i64 0,.slice none 0 0,.int .i64 0,.int .i64 0,.int .i64 0,.bool false]) Hb1.o Hk01.o (Nat.le_refl _);obtain⟨Hput1,Hput2⟩:=hid2 hput1 hput2;clear hput2 hput1
 go_wp2_with (refine wpList_store_row rfl 61 (.tmp 4) (.tmp 13) rfl w.heap.size #[.int .i64 12,.int .i64 0,.int .i64 0,.int .i64 0,.int .i64 0,.slice none 0 0,.int .i64 0,.int .i64 0,.slice none 0 0,.slice none 0 0,.int .i64 0,.int .i64 0,.int .i64 0,.int .i64 0,.int .i64 0,.slice none 0 0,.int .i64 0,.int .i64 0,.int .i64 0,.bool false] rfl rfl 61 #[.int .i64 0,.int .i64 0,.int .i64 0,.int .i64 0,.int .i64 0,.slice none 0 0,.int .i64 0,.int .i64 0,.slice none 0 0,.slice none 0 0,.int .i64 0,.int .i64 0,.int .i64 0,.int .i64 0,.int .i64 0,.slice none 0 0,.int .i64 0,.int .i64 0,.int .i64 0,.bool false] Hb1.o Au rfl (Da 12 0 0) ?_)
 exact bodyPost_ret (results_cell_row rfl _ _ w.heap.size 61 #[.int .i64 12,.int .i64 0,.int .i64 0,.int .i64 0,.int .i64 0,.slice none 0 0,.int .i64 0,.int .i64 0,.slice none 0 0,.slice none 0 0,.int .i64 0,.int .i64 0,.int .i64 0,.int .i64 0,.int .i64 0,.slice none 0 0,.int .i64 0,.int .i64 0,.int .i64 0,.bool false] _ _ rfl Hput1.o Tryz.underlying61 rfl Au) rfl ⟨rfl,Hput2.o⟩):P:=h
theorem jX(h:P:=by
 refine⟨by simpa using hown1,(Keeps.alloc w _).trans (hk1.mono λk _ hk=> ?_),λk hk=> ?_⟩
 ·simp only [Value.ownBlock,Option.some.injEq] at hk;omega
 ·rcases hfr with hf|⟨g,hg,hh⟩
  ·rw [hf] at hk;simp only [Value.ownBlock,Option.some.injEq] at hk;omega
  ·rw [hg] at hk;simp only [Option.some.injEq] at hk;omega):P:=h
theorem j0s(h:P:=by
 have hf:Ps.Bh ⟨L,cr,du⟩=false:=by unfold Ps.Bh;simp only [hsc,hN,hs, *,decide_true,decide_false,Bool.and_true,Bool.true_and,Bool.false_and,Bool.and_false,Bool.or_true,Bool.true_or,Bool.or_false,Bool.or_self]
 obtain rfl:z=false:=Hz.o.symm.trans hf;clear hf hsc hN hall;have Hk:=Lib.hid hk;clear hk
 exact j1s):P:=h
theorem j4I(h:P:=by
 have Hs8:=Lib.hid hs8;have Hb8:=Lib.hid hb8;clear hs8 hb8
 gi_wp2_with fail
 obtain⟨hc1,hc2⟩:W8.cell? ⟨J,0,none⟩=some (.pointer (some ⟨P,0,none⟩))/\True:=⟨(Hs8.o.kept.cell l3 (by simp)).trans f4,trivial⟩;refine Gi (ja13 (PFoot P v) W8 nb w.heap.size J (.int .i64 q) (.pointer (some ⟨J,0,none⟩)) (.pointer (some ⟨P,0,none⟩)) E G) (.take 0 (.take 1 (.take 2 (.take 3 (.take 4 (.take 5 (.move 6 (.take 7 .done)))))))) j9 j9 ?_ ?_
 ·exact⟨⟨Hs8.o.1.1,Hs8.o.1.2.1,⟨hc1,Hs8.o.1.2.2.1.2⟩,Hb8.o⟩,Keeps.drew _⟩
 intro w9 hs9 hk9;have Hs9:=Lib.hid hs9;have Hk9:=Lib.hid hk9;clear hs9 hk9;refine jR ?_;refine Ee rfl (by rfl) E rfl 118 (b48 G).toArray _ _ (λw h=>h.1.2.2.2) Tryz.underlying118 rfl Bj ?_;refine je ?_;intro K hK
 go_at_call 56
 ((with_reducible refine(Hink.o _ (Hs8.o.kept.nt Hk9.o)).mono ?_);rintro e w10 ⟨rfl,hpp,hk10⟩)
 have hs10:=Hs9.o.keep hk10 np0 np1 np2 (λe=>by have:=hfoot _ e;omega);refine hK.out _ _ (by exact hs10) ?_;clear hK K;refine jh ?_;refine Aq (NoOut.normal ?_);obtain⟨⟨⟨j0,j1⟩,⟨j2,j3⟩,⟨j4,j5⟩,_⟩,hk810⟩:=hs10;have hb10:=Ad (Ad Hbq.o (Hs8.o.kept.nt Hk9.o) (by simp)) hk10 np0;have g10:=Ab hb10 0;have hkW10:Keeps (PFoot P v) W w10:=((Hs8.o.kept.nt Hk9.o).mono (by simp)).trans (hk10.mono λi _ e=> .inl e);have Hpp:=Lib.hid hpp;clear hpp hk10 hk810;obtain⟨Hb10,HkW10⟩:=hid2 hb10 hkW10;clear hkW10 hb10
 gi_wp2_with fail
 have hz:wrap64 (q+1)=((u+(pre++ [(⟨x,hx⟩:Ck m)]).length:Nat):Int):=by
  have hq':=Hq.o;rw [wrap64_in _ ⟨by omega,by omega⟩,List.length_append,hk];simp only [List.length_cons,List.length_nil];omega
 have hi:inkL u (chunks m) B 0 ((pre++ [(⟨x,hx⟩:Ck m)]).map Subtype.val) p.l=(inkL u (chunks m) B 0 (pre.map Subtype.val) p.l).set (u+k) ⟨1,G⟩:=by
  rw [List.map_append,List.map_cons,List.map_nil,Na,List.length_map,hk,Nat.zero_add,HG.o]
 obtain⟨r1,r2,r3,r4,r5⟩:=Xc (z:=wrap64 (q+1)) hsz Hkk.o HkW10.o Hb10.o Hpp.o Hcl.o hfoot;refine⟨r1,r2, ?_, ?_,r5⟩
 ·rw [r3,hz]
 ·rw [hi];exact r4):P:=h
theorem j46(h:P:=by
 skip
 have hne:(z !=0)=true:=by simp [hz0]
 have hend:=Hde1.o (by rw [Hz.o];exact hz0);rw [Hz.o] at hend;refine j47 ?_;intro hr2 hpo;clear hb1 hk1 hf1 hAt;clear hc1;obtain⟨Hr1,Hr2,Hpo,Hend⟩:=hid4 hr1 hr2 hpo hend;clear hend hpo hr2 hr1 hz0;refine j48 ?_;intro Sr0 Sr1 Sr2 Sr3 Sr4
 go_wp2_with (refine wpList_store_row rfl 186 (.tmp 6) (.tmp 23) rfl (w.heap.size+1) #[.int .i64 0,.int .i64 0,.int .i64 0,.int .i64 0,.int .i64 0] rfl rfl 186 #[.int .i64 0,.int .i64 0,.int .i64 0,.int .i64 0,.int .i64 0] Hr2.o Bu rfl (Dw _ _ _ _ _) ?_)
 refine jp ?_;intro R0' R1' R2' R3' R4'
 exact bodyPost_ret (v:= .tuple #[.agg #[.int .i64 0,.int .i64 0,.int .i64 0,.int .i64 0,.int .i64 0],.int .i64 z]) j15 rfl ⟨by rw [Hend.o.1,Hend.o.2];rfl,Hpo.o _⟩):P:=h
theorem jQ(h:P:=by
 first|exact⟨congrArg Value.bool (decide_eq_false j6).symm,rfl⟩|exact⟨congrArg Value.bool ((show _=false by simp;omega).trans (decide_eq_false j6).symm),rfl⟩):P:=h
theorem j3q(h:P:=by
 obtain⟨fin,hfin⟩:=eX (mid+m-j);rw [hfin] at hsym;have z1:=hsym.al;have z2:=hsym.sm;have z3:=hsym.mf;have z4:=hsym.fb;have z5:=hsym.smid;have z7:=hsym.sum;have hfI:(mid:Int)+m-j=fin:=j8;obtain⟨W1,hW1⟩:=eY wr;subst hW1;obtain⟨Hbs,Hrow,Hk,Hsym⟩:=hid4 hbs hrow hk hsym;clear hsym hk hrow hbs hfin;by_cases hR:j<m/\m<fin
 ·have hR1:(j:Int)<(m:Int):=j8;have hR2:(m:Int)<(fin:Int):=j8;obtain⟨X,hrot,hcR⟩:=Aak (.func (.func f) #[] #[]) Hrow.o Hsym.o hR.1 hR.2 hn hbn;obtain⟨Hrot,HcR⟩:=hid2 hrot hcR;clear hcR hrot
  go_wp2_with (go_at_call 178;(with_reducible refine HcR.o.mono ?_);rintro e w2 ⟨rfl,hrow2,hk2⟩;have Hrow2:=Lib.hid hrow2;have Hk2:=Lib.hid (Hk.o.same hk2);clear hrow2 hk2;refine halt ?_)
  refine Lib.hid ?_;exact j2j
 ·have hrot:=Aaj Hsym.o j6;obtain⟨X,hX⟩:=eY L;obtain⟨w2,hw2⟩:=eY W1;have hrot':Rot L X a m b mid j fin:=by rw [hX];exact hrot
  have hrow2:RowE w2 g n cap X:=by rw [hX,hw2];exact Hrow.o
  have hk2:Keeps (λi=>i=g) w w2:=by rw [hw2];exact Hk.o
  have Hrot:=Lib.hid hrot';clear hrot hrot';rw [<-hw2];obtain⟨Hrow2,Hk2⟩:=hid2 hrow2 hk2;clear hk2 hrow2 hX hw2;by_cases hR3:(j:Int)<(m:Int)
  ·have hR4:¬(m:Int)<(fin:Int):=j8;exact j2j
  ·skip
   exact j2j):P:=h
theorem j0q(h:P:=by
 go_wp2_with fail;go_step3;go_wp2;refine Av ?_;go_wp2;rw [Exit.noGoto_ret]
 exact j2L):P:=h
theorem j2r(h:P:=by
 have hlin2:=Hlin.o;rw [hne] at hlin2;clear hne;obtain⟨adv,cv,rfl,_,_⟩:=Ae Hs5.o.row;obtain⟨m,hm⟩:=eX ((Dc seq a.cycle a.lines b.lines k).length);have hrow5:=Hs5.o.row;have h55:=Hs5.o;rw [hm] at hlo hrow5 h55⊢;obtain⟨Hlin2,Hm,Hrow5,H55⟩:=hid4 hlin2 hm hrow5 h55;clear h55 hrow5 hm hlin2
 go_wp2_with (at_builtin;refine Am rfl (.tmp 65) (.tmp 81) 102 rfl 0 142 i0 _ 9 72 Tryz.underlying102 Hi.o Hi0.o Hi1.o Hi2.o rfl j7 (.slice adv m cv) m _ rfl (Hrow5.o.alloc _) _ 1 _ rfl (Reads.litAt _ _ _ 9 1 _ jr rfl) jf jd j6 (Nat.zero_le _) ?_)
 intro v' w' hown hk' hf
 have happ:OneS w w' seq a b (.slice (some ⟨g,o,none⟩) n ca) (.slice (some ⟨g',o',none⟩) n cb) W0 v' (k+1):=
  (H55.o.keep (Keeps.alloc _ _)).app Hlin2.o (by rw [Hm.o]) (by first|rfl|simp [Adj.cells]) hown hk' (by simpa using hf)
 have Happ:=Lib.hid happ;clear happ hown hk' hf;go_wp2_with fail;go_step3;go_wp2
 exact Av ⟨oneJ.mk W0 v' (k+1) rfl (by rw [Hn.o];exact Happ.o) j05,by rw [Hn.o];simp [Tc];omega⟩):P:=h
theorem j4H(h:P:=by
 clear e1;go_enter Tryz.func29,Tryz.ntmps29;go_wp2_with fail;refine Ak (λW=>(W.cell? ⟨J,0,none⟩=some (.pointer (some ⟨P,0,none⟩))/\W.cell? ⟨J,1,none⟩=some (.int .i64 fl)/\J<W.heap.size)/\K0 w W) (.take 0 (.take 1 (.take 2 (.take 3 (.take 4 (.take 5 (.take 6 (.take 7 (.take 8 (.take 9 (.take 10 (.take 11 (.take 12 (.take 13 (.take 14 (.take 15 (.take 16 (.take 17 .done)))))))))))))))))) j9 j9 ?_ ?_
 ·exact⟨⟨c0,c1,lt⟩,Keeps.drew _⟩
 intro w1 hs1 hk1;have Hk1:=Lib.hid hs1.2;clear hs1 hk1;refine jR ?_;refine Gc (v:= ?_) rfl (by rfl) ?_ ?_ ?_ ?_ ?_
 rotate_left 3
 ·exact j1d
 ·intro w' hSw;exact(Hd.o w' hSw.2)
 rotate_right 3
 try simp only [aps]
 refine jR ?_;refine Gc (v:= ?_) rfl (by rfl) ?_ ?_ ?_ ?_ ?_
 rotate_left 3
 ·exact j1d
 ·intro w' hSw;exact(Hf.o w' hSw.2)
 rotate_right 3
 try simp only [aps]
 refine jm ?_
 exact j0w):P:=h
theorem j2d(h:P:=by
 gi_wp2
 gi_region
 all_goals
  gi_wp2
  refine hR.mono ?_;rintro e W3 (⟨rfl,hJ3,hk3⟩|⟨rfl,hJx3⟩)
  ·have c2':W3.cell? ⟨Bn,0,none⟩=some (.int .i64 41):=hk3.cell2.trans c2
   gi_wp2
   go_roundw
   case rel=>exact⟨k+1,by omega,by rw [show(k+1)*41=q+41 by omega];simp,by rw [List.range_succ];exact hJ3,hnx.trans ((Dt.drew _ _ _).trans hk3)⟩
   case measure=>simp [intOf];omega
  ·gi_wp2
   refine bodyPost_ret (results_none rfl _ _ _) rfl ?_
   exact⟨⟨_,rfl⟩,.inr ⟨_,⟨k+1,by omega,List.range_succ.symm⟩,hJx3⟩⟩):P:=h
theorem j0b(h:P:=by
 have hr':=Hr.o;have hr2':=Hr2.o;simp only [*,decide_true,decide_false,Bool.and_true,Bool.and_false,Bool.true_and,Bool.false_and] at hr' hr2';subst hr' hr2';go_wp2;go_ret
 exact⟨rfl,Hpost.o.1,_,Hpost.o.2⟩):P:=h
theorem j31(h:P:=by
 rcases Int.lt_trichotomy total mf with m2|m2|m2
 ·rw [show minI total mf=total by unfold minI;rw [if_pos j6]] at hzz;exact j1x
 ·exact j30
 ·rw [show minI total mf=mf by unfold minI;rw [if_neg j6]] at hzz;subst hzz;clear hr hz;obtain⟨Htm,Hsh⟩:=hid2 htm hsh;clear hsh htm hq;have B0:=Lib.hid b0;clear b0 hn;go_enter Tryz.func155,Tryz.ntmps155;go_wp2_with fail;refine Ay 0 rfl ?_;go_wp2_with fail;refine(Htm.o _ (Keeps.alloc _ _)).mono ?_;rintro e w1 ⟨rfl,hk1⟩;have hb:=B0.o _ hk1;have c5:=Aa hb 5;have Hk1:=j0S;clear hk1 hb;go_wp2_with fail;refine(Hsh.o _).mono ?_;rintro e w2 ⟨rfl,hk2⟩;have Hk2:=Lib.hid (Hk1.o.nt hk2);clear hk2;go_wp2;refine Bo ?_
  exact bodyPost_ret (v:= .tuple #[.int .i64 mf,.int .i64 0]) j1y rfl ⟨rfl,Hk2.o⟩):P:=h
theorem j0K(h:P:=by
 have hf:Tm.err ⟨li,cy,du,mf,mp,st,L⟩=6:=by rw [hf1,hz];simp
 clear hok;obtain⟨Hk,Hb⟩:=hid2 hk hb;clear hb hk hall;have Hf:=Lib.hid hf;clear hf hf1 hz;go_wp2_with fail;go_step3;go_wp2;refine Av ?_;go_wp2;rw [Exit.noGoto_ret];go_ret
 exact⟨by rw [Hf.o];rfl,Hk.o⟩):P:=h
theorem j1n(h:P:=by
 go_enter Tryz.func40,Tryz.ntmps40;go_wp2;refine Ay 0 rfl ?_
 go_wp2_with (go_at_call 77;((with_reducible refine(Cj B1.o _).mono ?_);rintro e w1 ⟨rfl,rfl⟩))
 go_step3;go_wp2;refine Av ?_;go_wp2;rw [Exit.noGoto_ret];go_ret
 exact⟨by rw [Hf.o];rfl,by(repeat (first|exact Keeps.refl _ _|exact Keeps.alloc _ _|exact Keeps.drew _|exact Keeps.drewN _ _|refine Keeps.Ao ?_|refine Keeps.Al ?_|refine Keeps.Af ?_))⟩):P:=h
theorem j00(h:P:=by
 exact⟨congrArg Value.bool (decide_eq_true j6).symm,rfl⟩):P:=h
theorem j03(h:P:=by
 obtain rfl:z=false:=by rw [<-Hz.o];simp [mayA,Hbr.o,Hmn.o,HN.o, *]
 exact j4V):P:=h
theorem j3z(h:P:=by
 subst h;have hla:=Hlate.o;rw [h5] at hla;clear hall;obtain⟨Hk,Hkw,He⟩:=hid3 hk hkw he;clear he hkw hk hoE hoV;have Hof2:=Lib.hid hof2;clear hof2 h5;have Hla:=Lib.hid hla;clear hla;go_wp2_with fail;refine(Hof2.o _).mono ?_;rintro e w3 ⟨rfl,hk3⟩;have hkw3:=Hkw.o.nt hk3;have htd3:=Htb.o _ ((Hk1.o.nt Hk.o).nt hk3);clear b0 b1 b2 b3 b4 b5 b6 bbl d0;obtain⟨tb,d0⟩:=htd3;obtain⟨b0,b1,b2,b3,b4,b5,b6⟩:=tb;have bbl:=Ai b0;obtain⟨Hk3,Hkw3⟩:=hid2 hk3 hkw3;clear hkw3 hk3;go_wp2_with fail;refine(Hla.o _ d0 Hkw3.o).mono ?_;rintro e w4 ⟨rfl,hk4⟩;have Hk4:=Lib.hid (Hkw3.o.nt hk4);clear hk4;go_wp2;go_ret
 exact⟨rfl,Hk4.o⟩):P:=h
theorem j02(h:P:=by
 go_wp2;go_ret
 exact⟨by rw [Hf.o];rfl,rfl⟩):P:=h
theorem jI(h:P:=by
 show Bt B j++ [cmdAt B (Bq B j) (scrO B+6+4*j)]=_
 rw [HdayE.o,Hkk.o,hcmd]):P:=h
theorem js(h:P:=by
 skip
 go_enter Tryz.func119,Tryz.ntmps119
 exact jn):P:=h
theorem j2C(h:P:=by
 cases e with
 |normal=>exact⟨.normal,a₁,w₁,hq,Steps.trans harr (.one step_inScope)⟩
 |exit id=>exact⟨.exit id,a₁,w₁,hq,λk' hk=>harr k' (by simp [exitTo,hk])⟩
 |goto l'=>
  rcases hq with⟨rfl,hJ',hlt⟩|⟨rfl,hJ',hlt⟩
  ·obtain⟨e₂,a₂,w₂,hq₂,harr₂⟩:=(ih _ j6).1 a₁ w₁ rfl hJ';exact⟨e₂,a₂,w₂,hq₂,.of_steps (harr _ hg1) harr₂⟩
  ·obtain⟨e₂,a₂,w₂,hq₂,harr₂⟩:=(ih _ j6).2 a₁ w₁ rfl hJ';exact⟨e₂,a₂,w₂,hq₂,.of_steps (harr _ hg2) harr₂⟩
 |ret=>exact⟨_,a₁,w₁,hq,harr⟩
 |panic ch=>exact⟨_,a₁,w₁,hq,harr⟩
 |outgrown=>exact⟨_,a₁,w₁,hq,harr⟩):P:=h
theorem j0n(h:P:=by
 obtain rfl:j=L.length:=by omega
 rw [List.take_length] at hok;have Hok:=Lib.hid hok;clear hok;go_wp2_with fail;go_ret
 exact⟨_,rfl,by rw [Hok.o];rfl,rfl⟩):P:=h
theorem j1z(h:P:=by
 have hst:paidS f d (L.drop (k+1)) s=R:=by rw [<-HR2.o,Dy Hx.o];simp only [paidS];rw [if_neg (by simp [payQ];omega)]
 have Hst:=Lib.hid hst;clear hst;go_wp2_with fail;go_step3;go_wp2
 exact Av ⟨gpJ.mk (k+1) s rfl (Hk.o.trans (Keeps.alloc _ _)) j6 s0 s1 Hst.o,by simp [Jd];omega⟩):P:=h
theorem jW(h:P:=by
 go_wp2;go_ret
 exact⟨_,rfl,World.ownsRow_nil _ _ _ _,Keeps.refl _ _,by simp [Value.ownBlock]⟩):P:=h
theorem j4d(h:P:=by
 have Hin2:=Lib.hid hin;clear hin;refine Ak (rfdS B C da st td) (.take 0 (.take 1 (.take 2 (.take 3 (.take 4 (.take 5 (.take 6 (.take 7 (.take 8 (.take 9 (.take 10 (.take 11 (.take 12 (.take 13 (.take 14 (.take 15 (.take 16 .done))))))))))))))))) j9 j9 ?_ ?_
 ·exact j0h
 intro w3 hs3 hk3;refine jm ?_;have hst3:=Hst2.o.keep hk3;clear hs3;have Hst3:=Lib.hid hst3;clear hst3;refine j0i ?_;intro nce nec c0 c1 c2 c3 e0 e1 e2 e4 f0 f1 f2 f4;have hno:=Ac.Kb (Hin2.o) j7;refine j25 ?_;intro hpo;have hee:=Hin2.o;have hR0:=(Hst3.o).r;obtain⟨Hno,Hpo,Hee,HR0⟩:=hid4 hno hpo hee hR0;clear hR0 hee hpo hno;go_wp2_with fail;go_step3;go_wp2;refine j0j ?_;intro Sr0 Sr1 Sr2 Sr3 Sr4
 go_wp2_with (refine wpList_store_row rfl 186 (.tmp 6) (.tmp 138) rfl R #[.int .i64 0,.int .i64 0,.int .i64 0,.int .i64 0,.int .i64 0] rfl rfl 186 #[.int .i64 0,.int .i64 0,.int .i64 0,.int .i64 0,.int .i64 0] HR0.o Bu rfl (Dw _ _ _ _ _) ?_)
 refine jp ?_;intro R0' R1' R2' R3' R4';rw [Exit.noGoto_ret]
 exact bodyPost_ret (v:= .tuple #[.agg #[.int .i64 0,.int .i64 0,.int .i64 0,.int .i64 0,.int .i64 0],.int .i64 10]) jt rfl ⟨by rw [Hno.o.1,Hee.o];rfl,by rw [Hno.o.2];exact Hpo.o⟩):P:=h
theorem j29(h:P:=by
 have hSz:=HSk.o _ hk4z;have Hrel:=Lib.hid hrel;clear hrel hbz;have Hkz:=Lib.hid hkz;clear hkz hk4z;have HSz:=Lib.hid hSz;clear hSz hz8;refine jv ?_;refine ja ?_;intro K hK;refine hK.out _ _ (by exact HSz.o) ?_;clear hK K;refine jc ?_;refine jv ?_;refine Aq ?_;clear z0 z1 z2' zf0 zf1 zf2;go_wp2_with fail;go_meet
 exact Hrel.o):P:=h
theorem j4Q(h:P:=by
 go_wp2_with fail;refine(Jt z _ hz1 hz2 (Ht.o.keeps HKa.o.kpw)).mono ?_;rintro e w17 ⟨x,rfl,⟨m,hx,hm0,hm1⟩,hk17⟩;have hK17:=HKa.o.keep hk17;have hwr:=hK17.write hx j6;have hR17:=hk17.row HRa.o (by simp);rw [hm0,Nat.add_zero] at hwr;clear hk17;obtain⟨HK17,Hwr,HR17⟩:=hid3 hK17 hwr hR17;clear hR17 hwr hK17 hx hm0;go_wp2_with fail;refine Hwr.o.mono ?_;rintro e w18 ⟨rfl,hK18,hk18⟩;have hR18:=HK17.o.nums hk18 HR17.o;clear hk18;obtain⟨HK18,HR18⟩:=hid2 hK18 hR18;clear hR18 hK18;go_wp2;go_roundw
 case rel=>exact⟨k+1,by omega,by go_num,Lib.hid (HK18.o.le j6),HR18⟩
 case measure=>simp [intOf];omega):P:=h
theorem j27(h:P:=by
 have hSz:=HSk.o _ hk4z;have Hrel:=Lib.hid hrel;clear hrel hbz hkz hk4z;have HSz:=Lib.hid hSz;clear hSz hz8;refine ju ?_;refine ja ?_;intro K hK;refine hK.out _ _ (by exact HSz.o) ?_;clear hK K;refine jc ?_;refine ju ?_;refine Aq ?_;clear z0 z1 z2' zf0 zf1 zf2;go_wp2_with fail;go_meet
 exact Hrel.o):P:=h
theorem j1s(h:P:=by
 go_wp2_with (first|(go_at_call 70;(with_reducible refine(Cf m3 _).mono ?_);rintro e w1 ⟨rfl,rfl⟩)|(go_at_call 70;(with_reducible refine(Cf m4 _).mono ?_);rintro e w1 ⟨rfl,rfl⟩))
 go_ret
 exact⟨rfl,(Keeps.alloc w _).nt Hk.o⟩):P:=h
theorem j3d(h:P:=by
 have hfx:=hrow4.free k;have hnew:=hrow4.set hlt z;rw [Wo HPl.o hlt] at hnew;have hkn4:Keeps (λi=>i=g0) W2 (w4.setCell ⟨g0,k,none⟩ (.int .i64 z)):=hkg4.trans (Keeps.setCell _ _ _ (.inl rfl));obtain⟨old,hold⟩:=Ar (L:=zeros n k P) (k:=k) (by rw [hrow4.2];exact hlt);have hcx:=hrow4.cell hold;clear hs3;clear hk3 hk4;have Hkx4:=Lib.hid hkx4;clear hkx4 hkg4 hrow4 h5 hdr2 hzv;obtain⟨HO3,Hnew,Hkn4⟩:=hid3 hO3 hnew hkn4;clear hkn4 hnew hO3 hold;go_wp2;go_roundw
 case rel=>exact⟨k+1,P++ [z],by go_num,by omega,by rw [List.length_append,HPl.o];rfl,HO3.o,Hnew.o,Hkn4.o⟩
 case measure=>simp [intOf];omega):P:=h
theorem j10(h:P:=by
 have hne:¬b8=b9:=by rw [hb8e,hb9e];omega
 have hn8:w7.heap.size<=b8:=by rw [hb8e];omega
 have hn9:w7.heap.size<=b9:=by rw [hb9e];omega
 rw [<-hb8e] at hb8⊢;rw [<-hb9e] at hb9⊢
 exact j4W):P:=h
theorem jY(h:P:=by
 have Hend:=Lib.hid hend;clear hend hown1 hk1 hfr;go_wp2;go_ret
 exact⟨_,rfl,Hend.o⟩):P:=h
theorem j3m(h:P:=by
 refine je ?_;intro K hK
 go_at_fn f
 ((with_reducible refine(Hcl.o w1).mono ?_);rintro e w2 ⟨z,rfl,hz,hk2⟩;dsimp only)
 refine j0c ?_;clear hK K;refine j0d ?_;intro hrow2 hkw;have hb2:=Hbs.o.up Hmono.o hih hhj (by rw [Hxd.o,Hyd.o];omega);clear hs1 hz;clear hk1 hk2;obtain⟨Hrow2,Hkw,Hb2⟩:=hid3 hrow2 hkw hb2;clear hb2 hkw hrow2
 exact j4U):P:=h
theorem j2G(h:P:=by
 go_wp2_with (first|(go_at_call 77;((with_reducible refine(Cj Bf.o _).mono ?_);rintro e w1 ⟨rfl,rfl⟩))|(go_at_call 77;((with_reducible refine(Cj Bp.o _).mono ?_);rintro e w1 ⟨rfl,rfl⟩)))
 go_step3;go_wp2
 exact j1o):P:=h
theorem j1K(h:P:=by
 exact bodyPost_ret (v:= .tuple #[.int .i64 0,.int .i64 10]) j0U rfl ⟨rfl,Hk1.o.nt jg⟩):P:=h
theorem j4r(h:P:=by
 refine hK.out _ _ (by exact Hs3.o) ?_;clear hK K;refine jq ?_;go_wp2_with fail
 exact bodyPost_ret (results_cell_row rfl _ _ (w.heap.size+1) 61 #[.int .i64 0,.int .i64 0,.int .i64 0,.int .i64 0,.int .i64 0,.slice none 0 0,.int .i64 0,.int .i64 0,.slice none 0 0,.slice none 0 0,.int .i64 0,.int .i64 cy,.int .i64 fr,.int .i64 te,.int .i64 du,.slice al m cl,.int .i64 tot,.int .i64 cre,.int .i64 mi,.bool gr] _ _ rfl Hput.o Tryz.underlying61 rfl Au) rfl ⟨_,rfl,by rw [Hte.o.1,Hte.o.2];exact Hans2.o,Hq.o⟩):P:=h
theorem j2f(h:P:=by
 
 go_upto_region 9 with fail
 refine Di λW2 hW2=> ?_
 obtain⟨L2,hL2,hL2e⟩:∃L,At48 W2 (w.heap.size+1) L/\L= [0,0,0,0,fl,(mI:Int)]++List.replicate 42 0:=by
  rw [hW2];exact⟨_,(Hat1.o.set 4 _).set 5 _,by rw [<-Hfl.o,HmI.o];rfl⟩
 exact j2e):P:=h
theorem j3L(h:P:=by
 go_enter Tryz.func136,Tryz.ntmps136
 go_wp2_with (at_builtin;refine Am rfl (.tmp 23) (.tmp 24) 170 rfl 0 186 i0 _ 5 40 Tryz.underlying170 hi hz0 hz1 hz2 rfl j7 _ _ xs rfl (Hown.o.alloc _) _ 1 news.toList rfl (Reads.lit _ _ _ _ _ (by simpa using Hn.o)) H1n.o jd j6 j6 ?_)
 exact j3K):P:=h
theorem j13(h:P:=by
 go_enter Tryz.func114,Tryz.ntmps114;go_wp2;refine Ay 0 rfl ?_;go_wp2;go_step3;go_wp2;refine Av ?_;go_wp2;rw [Exit.noGoto_ret];go_ret2
 exact⟨rfl,rfl⟩):P:=h
theorem j2Z(h:P:=by
 have hpos:0<q+1:=j8;have Hdiv:=Lib.hid hdiv;clear hdiv hN hqq hrr;go_enter Tryz.func173,Tryz.ntmps173;go_wp2_with fail;refine Ay 0 rfl ?_;go_wp2_with fail;refine(Hdiv.o _).mono ?_;rintro e w1 ⟨rfl,hk1⟩;have Hk1:=Lib.hid hk1;clear hk1;go_wp2_with fail;refine Bo ?_
 exact bodyPost_ret (v:= .tuple #[.int .u64 (q+1),.bool true]) (by simp [results,Tryz.results173,go_sem]) rfl ⟨rfl,Hk1.o⟩):P:=h
theorem j3s(h:P:=by
 rcases b6:(ki !=6) with _|_
 ·rcases b7:decide (0<=am) with _|_
  ·skip
   exact j03
  ·rcases b8:decide (am<=10000000) with _|_
   ·skip
    exact j03
   ·exact j4X
 ·exact j4X):P:=h
theorem j1l(h:P:=by
 refine Gu ?_;go_wp2;go_roundw
 case rel=>exact⟨i+1,by go_num,by omega,Hrow2.o,Hat.o.fr⟩
 case measure=>simp [intOf];omega):P:=h
theorem j32(h:P:=by
 skip
 have hst:paidS f d (L.drop (k+1)) (1000000000000000)=R:=by rw [<-HR2.o,Dy Hx.o];simp only [paidS];rw [if_pos (by simp [payQ];omega)];congr 1;unfold minI;split<;>omega
 have Hst:=Lib.hid hst;clear hst;go_wp2_with fail;go_step3;go_wp2
 exact Av ⟨gpJ.mk (k+1) (1000000000000000) rfl (Hk.o.trans (Keeps.alloc _ _)) j6 j6 j6 Hst.o,by simp [Jd];omega⟩):P:=h
theorem jn(h:P:=by
 go_wp2;go_ret
 exact⟨rfl,rfl⟩):P:=h
theorem j3u(h:P:=by
 skip
 have hA:=HA.o;clear HA;simp [Fu,Gg] at hA;obtain⟨⟨q,z⟩,hq⟩:=eX (giveR ⟨L,cr,du⟩ R tr am);rw [hq] at hA;have hcall:=λW (hW:K0 W4 W)=>Pp L R cr du tr am (some ⟨gb,0,none⟩) (some ⟨gr,0,none⟩) cb cr2 m W ((Reads.Bg Hrb4.o).keeps hW (by simp)) HN.o hl ((Reads.Bg Hrr4.o).keeps hW (by simp)) HRm.o
 exact j1P):P:=h
theorem j1k(h:P:=by
 rcases h.1.2 with⟨h0,_⟩|⟨g1,cap1,cur,h0,_,hh,_⟩
 ·simp at h0
 ·simp only [Value.slice.injEq,Option.some.injEq,Addr.mk.injEq,and_true,true_and] at h0;obtain⟨rfl,_⟩:=h0
  exact Ab hh j):P:=h
theorem j3e(h:P:=by
 have hdr2:=Hdr.o;rw [if_neg (by rw [h5];decide)] at hdr2;have hO3:O=none:=by rw [<-HO2.o,hdr2];rfl
 subst hO3;rw [h5];clear hs3;clear hk3 hk4;have Hkx4:=Lib.hid hkx4;clear hkx4 hkg4 hrow4 h5 h51 hdr2;go_wp2
 exact bodyPost_ret (v:= .tuple #[.slice none 0 0,.int .i64 5]) (by simp [results,Tryz.results131,go_sem]) rfl ⟨rfl,Hkx4.o⟩):P:=h
theorem j0m(h:P:=by
 go_round
 case rel=>exact⟨j+1,by omega,by go_num,Hok'.o⟩
 case measure=>simp [intOf];omega):P:=h
theorem j4y(h:P:=by
 have hk:=Keeps.set7 (S:=λi=>i=w.heap.size) (Keeps.refl _ w') w.heap.size (.inl rfl) u0 u1 u2 u3 u4 u5 u6;subst hj;refine⟨v0,v,by rw [ht],hk.row h.trs (λg hg e=> ?_),hk.row h.row (λg hg e=> ?_),h.kp.trans (hk.mono λi _ hi=>by right;omega),h.new0,h.new⟩
 ·subst e;exact Ah h.trs h.res j7 hg
 ·subst e;exact Ah h.row h.res j7 hg):P:=h
theorem j3n(h:P:=by
 refine je ?_;intro K hK
 go_at_fn f
 ((with_reducible refine(Hcl.o w1).mono ?_);rintro e w2 ⟨z,rfl,hz,hk2⟩;dsimp only)
 refine j0c ?_;clear hK K;refine j0d ?_;intro hrow2 hkw;have hb2:=Hbs.o.down Hmono.o hih hhj (by rw [Hxd.o,Hyd.o];omega);clear hs1 hz;clear hk1 hk2;obtain⟨Hrow2,Hkw,Hb2⟩:=hid3 hrow2 hkw hb2;clear hb2 hkw hrow2
 exact j4T):P:=h
theorem j4p(h:P:=by
 refine hK.out _ _ (by exact Hs3.o) ?_;clear hK K;refine jq ?_;go_wp2_with fail
 exact bodyPost_ret (results_cell_row rfl _ _ (w.heap.size+1) 61 #[.int .i64 12,.int .i64 0,.int .i64 0,.int .i64 0,.int .i64 0,.slice none 0 0,.int .i64 0,.int .i64 0,.slice none 0 0,.slice none 0 0,.int .i64 0,.int .i64 0,.int .i64 0,.int .i64 0,.int .i64 0,.slice none 0 0,.int .i64 0,.int .i64 0,.int .i64 0,.bool false] _ _ rfl Hput.o Tryz.underlying61 rfl Au) rfl ⟨_,rfl,by rw [Hte.o.1,Hte.o.2];exact Hans2.o,Hq.o⟩):P:=h
theorem j2Y(h:P:=by
 have Hdiv:=Lib.hid hdiv;clear hdiv hN hqq hrr;go_enter Tryz.func173,Tryz.ntmps173;go_wp2_with fail;refine Ay 0 rfl ?_;go_wp2_with fail;refine(Hdiv.o _).mono ?_;rintro e w1 ⟨rfl,hk1⟩;have Hk1:=Lib.hid hk1;clear hk1;go_wp2_with fail;refine Bo ?_
 exact bodyPost_ret (v:= .tuple #[.int .u64 q,.bool true]) (by simp [results,Tryz.results173,go_sem]) rfl ⟨rfl,Hk1.o⟩):P:=h
theorem j2p(h:P:=by
 obtain⟨h0,h1,h2,h3,h4,h5,h6,h7⟩:=h
 exact⟨(hk.cell (Ai h0) (by simp)).trans h0,(hk.cell (Ai h1) (by simp)).trans h1,(hk.cell (Ai h2) (by simp)).trans h2,(hk.cell (Ai h3) (by simp)).trans h3,(hk.cell (Ai h4) (by simp)).trans h4,(hk.cell (Ai h5) (by simp)).trans h5,(hk.cell (Ai h6) (by simp)).trans h6,(hk.cell (Ai h7) (by simp)).trans h7⟩):P:=h
theorem j2K(h:P:=by
 skip
 have hr:true=(decide (ki=4)||decide (ki=5)):=by simp [Q14.o,Q16.o]
 have HR:=Lib.hid hr;clear hr
 go_wp2_with (go_at_call 145;((with_reducible refine(Fw ki _ true HR.o).mono ?_);rintro e w2 ⟨rfl,rfl⟩))
 go_meet;have q14:=Q14.o;have q16:=Q16.o
 exact j00):P:=h
theorem j2P(h:P:=by
 go_wp2_with fail;refine(Hri.o _ jg).mono ?_;rintro e w1 ⟨rfl,hk1⟩;have Hk1:=j0S;clear hk1
 exact j0w):P:=h
theorem j2F(h:P:=by
 go_wp2;refine Jy ?_
 exact bodyPost_ret (v:= .tuple #[.agg #[.int .i64 0,.int .i64 0,.int .i64 0],.int .i64 10]) (by simp [results,Tryz.results118,go_sem]) rfl ⟨rfl,by(repeat (first|exact Keeps.refl _ _|exact Keeps.alloc _ _|exact Keeps.drew _|exact Keeps.drewN _ _|refine Keeps.Ao ?_|refine Keeps.Al ?_|refine Keeps.Af ?_))⟩):P:=h
theorem j2M(h:P:=by
 have hf:Ps.Bh ⟨L,cr,du⟩=true:=by unfold Ps.Bh;simp only [hsc,hN,hs, *,decide_true,decide_false,Bool.and_true,Bool.true_and,Bool.false_and,Bool.and_false,Bool.or_true,Bool.true_or,Bool.or_false,Bool.or_self]
 obtain rfl:z=true:=Hz.o.symm.trans hf;clear hf hsc hN hall;have Hk:=Lib.hid hk;clear hk
 exact j1s):P:=h
theorem j1R(h:P:=by
 split at hq
 ·rename_i ha;rw [if_pos ha]
  split at hq
  ·rename_i hr;rw [if_pos hr];exact hr
  ·cases hq
 ·rename_i ha;exact absurd hq ha):P:=h
theorem j4c(h:P:=by
 have hR0:=(Hst3.o).r;obtain⟨Hno,Hpo,Hee,HR0⟩:=hid4 hno hpo hee hR0;clear hR0 hee hpo hno;go_wp2_with fail;go_step3;go_wp2;refine j0j ?_;intro Sr0 Sr1 Sr2 Sr3 Sr4
 go_wp2_with (refine wpList_store_row rfl 186 (.tmp 6) (.tmp 138) rfl R #[.int .i64 0,.int .i64 0,.int .i64 0,.int .i64 0,.int .i64 0] rfl rfl 186 #[.int .i64 0,.int .i64 0,.int .i64 0,.int .i64 0,.int .i64 0] HR0.o Bu rfl (Dw _ _ _ _ _) ?_)
 refine jp ?_;intro R0' R1' R2' R3' R4';rw [Exit.noGoto_ret]
 exact bodyPost_ret (v:= .tuple #[.agg #[.int .i64 0,.int .i64 0,.int .i64 0,.int .i64 0,.int .i64 0],.int .i64 9]) jt rfl ⟨by rw [Hno.o.1,Hee.o];rfl,by rw [Hno.o.2];exact Hpo.o⟩):P:=h
theorem j2z(h:P:=by
 refine rkJ.mk i g c (by rw [Hri.o];rfl) ⟨Nat.le_refl _,⟨?_, ?_⟩,rfl,Hfr4.o⟩
 ·rw [List.take_of_length_le j6,List.drop_eq_nil_of_le j6,List.append_nil,List.flatMap_append];exact Hown4.o
 ·rw [List.take_of_length_le j6,List.drop_eq_nil_of_le j6];simp [hlen]):P:=h
theorem j1d(h:P:=by
 intro w' hSw;(try dsimp only at hSw);go_simp;(first|done|(constructor<;>with_reducible rfl)|with_reducible rfl)):P:=h
theorem j3t(h:P:=by
 skip
 have hA:=HA.o;clear HA;simp [Fu,Gg] at hA;obtain⟨⟨q,z⟩,hq⟩:=eX (Ja ⟨L,cr,du⟩ tr am);rw [hq] at hA;have hcall:=λW (hW:K0 W4 W)=>Lv L cr du tr am (some ⟨gb,0,none⟩) cb m W ((Reads.Bg Hrb4.o).keeps hW (by simp)) HN.o hl
 exact j1P):P:=h
theorem j41(h:P:=by
 go_wp2_with fail;go_step3;go_wp2;refine Yu ⟨wkJ1.mk _ _ B (.slice (some ⟨g,o,none⟩) mA cS) (by first|exact hz0|rfl) rfl Hd6.o Hp5.o Hg5.o HJ5.o, ?_⟩;show max (td+1-Df _ B 9) 0<td+1-Df W B 9;rw [Dk Hd6.o.c9.1,Hcs.o];have hdt:=Hp.o.dt;have hdy:=Hday.o;show max (td+1-(sd+1)) 0<td+1-sd
 omega):P:=h
theorem j2J(h:P:=by
 skip
 have hr:true=(decide (ki=4)||decide (ki=5)):=by simp [Q14.o]
 have HR:=Lib.hid hr;clear hr
 go_wp2_with (go_at_call 145;((with_reducible refine(Fw ki _ true HR.o).mono ?_);rintro e w2 ⟨rfl,rfl⟩))
 go_meet;have q14:=Q14.o
 exact j00):P:=h
theorem j1O(h:P:=by
 clear hr hR;obtain⟨Hri,Hco,Hz,Hbx,Hbr,HN⟩:=hid6 hri hco hz hbx hbr hN;clear hN hbr hbx hz hco hri hRm;have Hmn:=Lib.hid hmn;clear hmn
 exact j03):P:=h
theorem j2H(h:P:=by
 have hz:inB st (-135140) 2922896=false:=by rw [F3.o];simp;omega
 have hf:Tm.err ⟨li,cy,du,mf,mp,st,L⟩=6:=by rw [hf1,hz];simp
 clear hok;obtain⟨Hk,Hb⟩:=hid2 hk hb;clear hb hk hall;have Hf:=Lib.hid hf;clear hf hf1 hz;obtain⟨Bf,Bp⟩:=hid2 bf bp;clear bp bf
 exact j2G):P:=h
theorem j3j(h:P:=by
 go_wp2
 exact bodyPost_ret (v:= .tuple #[.int .i64 0,.int .i64 1]) j0U rfl ⟨rfl,by(repeat (first|exact Keeps.refl _ _|exact Keeps.alloc _ _|exact Keeps.drew _|exact Keeps.drewN _ _|refine Keeps.Ao ?_|refine Keeps.Al ?_|refine Keeps.Af ?_))⟩):P:=h
theorem j4G(h:P:=by
 
 go_upto_region 9 with fail
 refine Di λW2 hW2=> ?_
 obtain⟨L2,hL2,hL2e⟩:∃L,At48 W2 (w.heap.size+1) L/\L= [0,0,0,0,fl,(mI:Int)]++List.replicate 42 0:=by
  rw [hW2];exact⟨_,((Hat1.o.set 4 _).set 4 _).set 5 _,by rw [<-Hfl.o,HmI.o];rfl⟩
 exact j2e):P:=h
theorem j0y(h:P:=by
 injection h1 with h1;injection h1 with _ h1 _
 exact absurd h1 j7):P:=h
theorem j0E(h:P:=by
 rcases Nat.lt_or_ge k L.length with h'|h'
 ·exact h'
 ·simp [List.getElem?_eq_none h'] at hx):P:=h
theorem j1g(h:P:=by
 clear hd;have This:=Lib.hid this;clear this;go_enter Tryz.func177,Tryz.ntmps177;go_wp2;go_ret
 exact⟨by rw [This.o];rfl,rfl⟩):P:=h
theorem j2a(h:P:=by
 rcases hf with hf|⟨g',hg',hh⟩
 ·exact h.new g (by rw [<-hf];exact hg)
 ·exact j1f):P:=h
theorem j4B(h:P:=by
 go_wp2
 exact bodyPost_ret (v:= .tuple #[.agg #[.int .i64 t0,.slice adv N capv,.int .i64 t2,.int .i64 t3,.int .i64 t4,.int .i64 t5,.int .i64 t6],.slice ad0 j c0]) (by simp [results,Tryz.results5,go_sem,r0,r1,r2,r3,r4,r5,r6,rl]) rfl (Hend.o _ _ _ _ _ _ _)):P:=h
theorem j3r(h:P:=by
 go_enter Tryz.func125,Tryz.ntmps125;go_wp2;go_ret
 exact⟨_,rfl,by simp;omega,by(repeat (first|exact Keeps.refl _ _|exact Keeps.alloc _ _|exact Keeps.drew _|exact Keeps.drewN _ _|refine Keeps.Ao ?_|refine Keeps.Al ?_|refine Keeps.Af ?_))⟩):P:=h
theorem j1Q(h:P:=by
 subst h;clear hall;obtain⟨Hk,Hkw,He⟩:=hid3 hk hkw he;clear he hkw hk;go_wp2
 exact j0u):P:=h
theorem j4D(h:P:=by
 exact bodyPost_ret (Cq rfl _ _ w.heap.size 118 (b48 []).toArray _ _ _ rfl rfl (setRow_heap _ _ _ _ _ _ Hb1.o) Tryz.underlying118 rfl Bj) rfl ⟨rfl,Hk1.o.trans ((Keeps.setRow _ _ _).mono λk _ e=> .inr (Nat.le_of_eq e.symm))⟩):P:=h
theorem j3y(h:P:=by
 obtain rfl:j=n:=by omega
 have hf:=find_no (q:=q) (L:=L) (λi y hi hy=>hno i y (by rw [Hn.o] at hi;exact hi) hy);clear hno;obtain⟨Hkx,Hf⟩:=hid2 hkx hf;clear hf hkx;go_wp2_with fail;go_ret
 exact⟨by rw [<-Hrr.o,Hf.o];rfl,Hkx.o⟩):P:=h
theorem j0M(h:P:=by
 skip
 go_wp2_with fail;go_meet;have q10:=Q10.o
 exact j00):P:=h
theorem j2y(h:P:=by
 go_region
 all_goals go_wp2_with fail
 all_goals go_step3
 all_goals go_wp2
 all_goals exact Av ⟨rkJ.mk k g c (by rw [Hri.o];rfl) ⟨by omega,Hset.o,by rw [Hri.o];exact Hpl.o,Hfr2.o⟩,by simp [Eg]⟩):P:=h
theorem j49(h:P:=by
 obtain⟨h1,h2,h3,h4,h5⟩:=h
 exact⟨(hk.cell (Ai h1) (by simp)).trans h1,(hk.cell (Ai h2) (by simp)).trans h2,(hk.cell (Ai h3) (by simp)).trans h3,(hk.cell (Ai h4) (by simp)).trans h4,(hk.cell (Ai h5) (by simp)).trans h5⟩):P:=h
theorem j1m(h:P:=by
 have H:=Lib.hid h;clear h;go_enter Tryz.func77,Tryz.ntmps77;go_wp2;go_ret
 exact⟨by rw [H.o];rfl,rfl⟩):P:=h
theorem j0J(h:P:=by
 have Hf:=Lib.hid hf;clear hf;go_enter Tryz.func143,Tryz.ntmps143
 exact j02):P:=h
theorem j4u(h:P:=by
 clear hb hr hlo hz hz';have Hbt:=Lib.hid hbt;clear hbt hsuf hn hm' hpost;have Hfin:=Lib.hid hfin;clear hfin hB;clear hc;go_enter Tryz.func39,Tryz.ntmps39;go_wp2;go_ret
 exact⟨by rw [Hbt.o];rfl,Hfin.o⟩):P:=h
theorem j2B(h:P:=by
 go_wp2_with fail;refine Hc.o.mono ?_;rintro e w1 ⟨v,rfl,hr1,hf1⟩;have Hr1:=Lib.hid hr1;have Hf1:=Lib.hid hf1;obtain⟨adv,cv,rfl,_,_⟩:=Ae hr1;clear hr1 hf1;go_wp2;go_ret
 exact⟨_,rfl,Hr1.o,Hf1.o⟩):P:=h
theorem j4x(h:P:=by
 rcases h.row.2 with⟨e1,_⟩|⟨g1,cap1,cur1,e1,_,hh1,_⟩
 ·subst e1;simp [Value.ownBlock] at e
 ·subst e1;simp only [Value.ownBlock,Option.some.injEq] at e;subst e
  exact Ah h.trs hh1 j7 hg):P:=h
theorem j2D(h:P:=by
 obtain⟨Hlp,Hf⟩:=hid2 hlp hf;clear hf hlp;go_enter Tryz.func119,Tryz.ntmps119
 go_wp2_with (go_at_call 143;(refine Hlp.o.mono ?_);rintro e w1 ⟨rfl,rfl⟩)
 go_ret
 exact⟨by rw [Hf.o];rfl,rfl⟩):P:=h
theorem j2v(h:P:=by
 obtain⟨h1,h2⟩:=h;obtain⟨y,hy⟩:=Ar (L:=O) (k:=k) j6;subst h2;have:=Je Ec h1 hy 0 j7 (y:=x) (u:= .int .i64 x) rfl;simp only [Nat.mul_one,Nat.add_zero] at this
 exact⟨this,by simp⟩):P:=h
theorem j4R(h:P:=by
 clear h;clear hz;have Hsn:=Lib.hid hsn;clear hsn hcc;go_wp2_with fail;go_roundw
 case rel=>exact⟨j+1,by go_num,by rw [Hsn.o];go_num,by omega,trivial⟩
 case measure=>simp [intOf];omega):P:=h
theorem j4S(h:P:=by
 go_wp2;go_end0;have hd:=Az (X:=X) j6 j6 (by have:=Hrot.o.t.len;omega) Hcr.o HtY.o HuY.o (Turned.refl _ _ _) HuZ.o
 exact⟨rfl,Y,Hrot.o.t.trans hd.1,hd.2,Hrow3.o,Hk3.o⟩):P:=h
theorem j2Q(h:P:=by
 subst h;clear hall;have Hk:=Lib.hid hk;clear hk hkb;have Hkw:=Lib.hid hkw;clear hkw
 go_wp2_with (go_at_call 70;(with_reducible refine(Cf m3 _).mono ?_);rintro e w2 ⟨rfl,rfl⟩)
 exact j0u):P:=h
theorem j2L(h:P:=by
 go_ret
 exact⟨rfl,Keeps.nt jg Hk1.o⟩):P:=h
theorem j3a(h:P:=by
 have Hf:=Lib.hid hf;clear hf;go_enter Tryz.func174,Tryz.ntmps174
 go_wp2_with (go_at_call 70;(with_reducible refine(Cf m3 _).mono ?_);rintro e w1 ⟨rfl,rfl⟩)
 go_ret
 exact⟨by rw [Hf.o];rfl,rfl⟩):P:=h
theorem j23(h:P:=by
 rw [hd];clear hd;go_enter Tryz.func27,Tryz.ntmps27;go_wp2;go_ret
 exact⟨rfl,Keeps.alloc _ _⟩):P:=h
theorem j4K(h:P:=by
 have hnb5:=Hnb4.o.put hg5;have hC2':=HC2.o;simp only [if_true,Bool.false_eq_true,if_false] at hC2'
 refine⟨⟨k+1,v5,by omega,by go_num,rfl,by rw [hC2'];exact hnb5⟩,by simp [intOf];omega⟩):P:=h
theorem j3F(h:P:=by
 by_cases e:j=k
 ·subst e;rw [List.getElem?_set_self hkl] at hy;simp only [Option.some.injEq] at hy;exact .inl ⟨rfl,hy.symm⟩
 ·rw [List.getElem?_set_ne (λh=>e h.symm)] at hy;exact .inr ⟨e,hy⟩):P:=h
theorem j2V(h:P:=by
 go_step3;go_wp2;refine Av ?_;go_wp2;rw [Exit.noGoto_ret]
 exact bodyPost_ret (v:= .tuple #[.int .i64 0,.int .i64 5]) (by simp [results,Tryz.results36,go_sem]) rfl ⟨rfl,rfl⟩):P:=h
theorem j2q(h:P:=by
 refine Lg l J M hf (λa w hJ=>wp_seq (wp_skip (round a w hJ))) λ_=>first λa w hJ=>Code.wp_mono ?_ (round a w hJ);intro e a' w' h
 cases e with
 |goto k=>exact⟨h.1,h.2.1⟩
 |_=>exact h):P:=h
theorem j1a(h:P:=by
 exact HS.o.keep (Keeps.drew (S:=λ_=>False) _) (by simp) (by simp)):P:=h
theorem j2w(h:P:=by
 have hrow2:=hat.row.1;rw [<-hend] at hrow2;have Hat:=Lib.hid hat;clear hat hend;obtain⟨Hrow2,Hpl⟩:=hid2 hrow2 hpl;clear hpl hrow2 hlen hp0;go_wp2
 exact j1l):P:=h
theorem j0V(h:P:=by
 repeat' split
 all_goals first|(exfalso;omega)|rfl|(congr 1;omega)):P:=h
theorem j2t(h:P:=by
 rcases h.2 with⟨rfl,_⟩|⟨g',cap,cur,rfl,_,hh,_⟩
 ·simp [Value.ownBlock] at hv
 ·simp only [Value.ownBlock,Option.some.injEq] at hv;subst hv;exact lt_of_block hh):P:=h
theorem j3o(h:P:=by
 have Ht:=Lib.hid ht;clear ht e1 e2 e3;obtain⟨Hrow,Hk,Hup⟩:=hid3 hrow hk hup;clear hup hk hrow;go_wp2;go_end0
 exact⟨rfl,Y,Ht.o,Hup.o,Hrow.o,Hk.o⟩):P:=h
theorem j2E(h:P:=by
 intro a' w' h;refine⟨h.1,Nat.lt_of_lt_of_le h.2 ?_⟩;have e1:=Dk (Aa Hd2.o.box 1);show(20-Df _ _ 1).toNat<=(20000-Df _ _ 0).toNat+100
 rw [e1];omega):P:=h
theorem j2R(h:P:=by
 clear hb hrow hx hxD hmin k1 k2 hrow1;have Hpost:=Lib.hid hpost;clear hpost hi hm;go_enter Tryz.func166,Tryz.ntmps166;go_wp2;go_end0
 exact⟨rfl,Hpost.o⟩):P:=h
theorem j3K(h:P:=by
 intro v' w1 hown1 hk1 hf1;have hend:=Uj hown1 hk1 hf1;have Hend:=Lib.hid hend;clear hend;clear hown1 hk1 hf1;go_wp2;go_ret
 exact⟨_,rfl,Hend.o⟩):P:=h
theorem j2T(h:P:=by
 have h1':decide (-1000000000000000<=v)=true:=by rw [decide_eq_true_iff];omega
 have Hf:=Lib.hid hf;clear hf;go_enter Tryz.func71,Tryz.ntmps71
 exact j02):P:=h
theorem j3b(h:P:=by
 clear hr;obtain⟨HX,Hri,Hco⟩:=hid3 hX hri hco;clear hco hri hX hb;have Hbx:=Lib.hid hbx;clear hbx he;obtain⟨HN,HM⟩:=hid2 hN hM;clear hM hN
 exact j3c):P:=h
theorem j3Y(h:P:=by
 have Hfin:=Lib.hid hfin;clear hfin z0 z1 hka hfb hfk kBB;refine jO ?_;refine Aq ?_;clear s14 s15 s16 s17 sl;go_wp2;go_end0
 exact⟨rfl,Hfin.o⟩):P:=h
theorem j0p(h:P:=by
 rw [Nat.mul_one,Nat.add_zero] at this;exact this):P:=h
theorem j22(h:P:=by
 rw [hd];clear h hn hv e1 hd;go_enter Tryz.func112,Tryz.ntmps112
 exact jn):P:=h
theorem j3i(h:P:=by
 have:=hn.same (k-1) j6 j6
 exact⟨_,_,by rwa [show 1+(k-1)=k by omega,show n+(mlen y m-d)+1+(k-1)=n-d+mlen y m+k by omega] at this⟩):P:=h
theorem j1p(h:P:=by
 have Hf:=Lib.hid hf;clear hf;go_enter Tryz.func192,Tryz.ntmps192
 exact j02):P:=h
theorem j1w(h:P:=by
 have Hf:=Lib.hid hf;clear hf;go_enter Tryz.func194,Tryz.ntmps194
 exact j02):P:=h
theorem j1N(h:P:=by
 have Hf:=Lib.hid hf;clear hf;go_enter Tryz.func163,Tryz.ntmps163
 exact j02):P:=h
theorem j3C(h:P:=by
 have Hren:=Lib.hid hren;clear hren z0 z1;refine jO ?_;refine Aq ?_;clear s14 s15 s16 s17 sl;go_wp2;go_end0
 exact⟨rfl,_,_,Hren.o⟩):P:=h
theorem j4E(h:P:=by
 rcases h.row.2 with⟨e,e2⟩|⟨g',cap',cur,hv,_⟩
 ·exact absurd (Value.slice.inj e).2.1 j6
 ·exact⟨g',(Value.slice.inj hv).1⟩):P:=h
theorem j1r(h:P:=by
 have Hf:=Lib.hid hf;clear hf;go_enter Tryz.func70,Tryz.ntmps70
 exact j02):P:=h
theorem j0o(h:P:=by
 go_ret
 exact⟨by rw [<-Hd.o];rfl,rfl⟩):P:=h
theorem j3J(h:P:=by
 refine jm ?_;have hrv1:=Hrv.o.keep0 hk1;clear hs1;clear hk1;have Hrv1:=Lib.hid hrv1;clear hrv1;go_wp2;go_ret
 exact⟨rfl,_,_,Hrv1.o⟩):P:=h
theorem j0L(h:P:=by
 skip
 go_wp2_with fail;go_meet
 exact j00):P:=h
theorem j3l(h:P:=by
 simp only [Value.slice.injEq,Option.some.injEq,Addr.mk.injEq,and_true,true_and] at h0;obtain⟨rfl,rfl⟩:=h0
 exact Ab hh o):P:=h
theorem j3Q(h:P:=by
 have hne:¬b8=b9:=by rw [hb8e,hb9e];omega
 have hn8:w7.heap.size<=b8:=by rw [hb8e];omega
 have hn9:w7.heap.size<=b9:=by rw [hb9e];omega
 rw [<-hb9e] at hb9⊢;rw [<-hb8e] at hb8⊢
 exact j4W):P:=h
theorem j0N(h:P:=by
 go_ret
 exact⟨_,rfl,by rw [Hf.o,Hj0.o],rfl⟩):P:=h
theorem j3D(h:P:=by
 rcases hf with hf|⟨g,hg,hh⟩
 ·exact .inl (hf▸hb)
 ·rw [hg] at hb;simp only [Option.some.injEq] at hb;exact .inr j6):P:=h
theorem j4U(h:P:=by
 go_wp2_with fail;go_roundw
 case rel=>exact⟨h+1,j,by go_num,rfl,Hb2.o,Hrow2.o,Hkw.o⟩
 case measure=>simp [intOf];omega):P:=h
theorem j3f(h:P:=by
 go_wp2_with fail;go_roundw
 case rel=>exact⟨k+1,_,by go_num,by omega,Happ.o⟩
 case measure=>simp [intOf];omega):P:=h
theorem j3w(h:P:=by
 rcases Nat.lt_or_ge i j with h|h
 ·exact hno i y h hy
 ·obtain rfl:i=j:=by omega
  rw [hx] at hy;cases hy;exact hqx):P:=h
theorem j20(h:P:=by
 injection hg with h1;injection h1 with _ h1 _
 exact absurd h1 hne'):P:=h
theorem j4C(h:P:=by
 clear h;have Hend:=Lib.hid hend;clear hend;go_enter Tryz.func100,Tryz.ntmps100;go_wp2;go_end0
 exact⟨rfl,Hend.o⟩):P:=h
theorem j37(h:P:=by
 go_wp2;go_roundw
 case rel=>exact⟨j+1,by go_num,by omega,Hnew.o,Hkn.o⟩
 case measure=>simp [intOf];omega):P:=h
theorem j3x(h:P:=by
 go_roundw
 case rel=>exact⟨j+1,by omega,by go_num,Hno'.o,Keeps.nt Hkx.o Hk1.o⟩
 case measure=>simp [intOf];omega):P:=h
theorem j4T(h:P:=by
 go_wp2_with fail;go_roundw
 case rel=>exact⟨i,h,rfl,rfl,Hb2.o,Hrow2.o,Hkw.o⟩
 case measure=>simp [intOf];omega):P:=h
theorem j0w(h:P:=by
 go_wp2;go_ret
 exact⟨rfl,Hk1.o⟩):P:=h
theorem j2n(h:P:=by
 rw [Bool.eq_false_iff];intro hm;have:=List.all_eq_true.1 hm x (List.mem_of_getElem? h)
 rw [hx] at this;simp at this):P:=h
theorem j3G(h:P:=by
 obtain⟨j,hj⟩:=List.getElem?_of_mem hy;rcases hmem j y hj with h|h
 ·exact .inl h.2
 ·exact .inr ⟨j,h⟩):P:=h
theorem j2A(h:P:=by
 obtain rfl:i=n:=by omega
 obtain⟨Hrow,Hfr⟩:=hid2 hrow hfr;clear hfr hrow;go_wp2;go_ret
 exact⟨_,rfl,Hrow.o,Hfr.o⟩):P:=h
theorem j36(h:P:=by
 go_wp2;go_roundw
 case rel=>exact⟨i+1,by go_num,by omega,Hnew.o,Hkn.o⟩
 case measure=>simp [intOf];omega):P:=h
theorem j1o(h:P:=by
 refine Bo ?_;go_ret
 exact⟨by rw [Hf.o];rfl,Hk.o⟩):P:=h
theorem j4l(h:P:=by
 have h1:y.s∈Z.1.out:=by rw [<-g.lp];exact List.mem_map.2 ⟨y,hy,rfl⟩
 have h2:=o1 _ h1;have h3:=Hn.o.n8;rw [Ht.o] at h3
 omega):P:=h
theorem j2k(h:P:=by
 rw [hr2] at hr;injection hr with hv hw
 right
 exact⟨w.heap.size,by rw [<-hv];rfl,Nat.le_refl _⟩):P:=h
theorem j2m(h:P:=by
 simp only [Value.slice.injEq,true_and] at he
 exact⟨g,o,he.1,by have:=hc 0 j7;simpa using this⟩):P:=h
theorem j2I(h:P:=by
 have h:r=true:=by rw [hr];rfl
 subst h;clear hr;go_enter Tryz.func145,Tryz.ntmps145
 exact jn):P:=h
theorem j30(h:P:=by
 subst m2;rw [show minI total total=total by unfold minI;rw [if_pos j6]] at hzz
 exact j1x):P:=h
theorem j1f(h:P:=by
 rw [hg'] at hg;simp only [Option.some.injEq] at hg;omega):P:=h
theorem j40(h:P:=by
 show walkD t T n (td-(s.day+1)).toNat _ _=Z;rw [show(td-(s.day+1)).toNat=d by omega]
 exact hw):P:=h
theorem j26(h:P:=by
 exact .inl (.inr (.inr (.inr (.inr (.inr (.inl hb))))))):P:=h
theorem j4X(h:P:=by
 skip
 obtain rfl:z=true:=by rw [<-Hz.o];simp [mayA,Hbr.o,Hmn.o,HN.o, *]
 exact j4V):P:=h
theorem j0u(h:P:=by
 go_ret
 exact⟨rfl,Hkw.o⟩):P:=h
theorem j1h(h:P:=by
 rw [e] at hg;simp only [Option.some.injEq] at hg;omega):P:=h
theorem j4A(h:P:=by
 show Bq B j+Cn (cmdAt B (Bq B j) (scrO B+6+4*j))=_
 rw [HdayE.o,Hkk.o,hcmd];simp [Cn]):P:=h
theorem j35(h:P:=by
 have Hmn:=Lib.hid hmn;clear hmn;go_wp2_with fail;go_meet
 exact⟨by rw [Hmn.o],rfl⟩):P:=h
theorem j4t(h:P:=by
 have e':b=B:=e;rcases hvi14 b hb with h1|h1
 ·exact HA3.o.si b h1 (.inl e')
 ·omega):P:=h
theorem j0I(h:P:=by
 unfold insR
 rw [hlen,Hri.o,hpl]):P:=h
theorem j2U(h:P:=by
 obtain⟨h1,h2⟩:=List.getElem?_eq_some_iff.1 hx
 rw [List.drop_eq_getElem_cons h1,h2]):P:=h
theorem j28(h:P:=by
 go_wp2_with fail;go_meet
 exact⟨rfl,rfl⟩):P:=h
theorem j0h(h:P:=by
 exact HS.o.keep (Keeps.drew _)):P:=h
variable{T:Prop}(c:T)
include c
theorem jv(h:Bx T->P:=by
 intro cZ
 repeat ((first|refine Br rfl (by rfl) ?_|refine Bc rfl (by rfl) ?_|(refine Bl (v:= ?_) rfl (by rfl) ?_ ?_;rotate_left;(· intro w' hSw;unfold acT9 tbS at hSw;go_simp;(try with_reducible rfl));rotate_right));try simp only [aps])
 exact cZ.1):P:=h ⟨c⟩
theorem ju(h:Bx T->P:=by
 intro cZ
 repeat ((first|refine Br rfl (by rfl) ?_|refine Bc rfl (by rfl) ?_|(refine Bl (v:= ?_) rfl (by rfl) ?_ ?_;rotate_left;(· intro w' hSw;unfold acT tbS at hSw;go_simp;(try with_reducible rfl));rotate_right));try simp only [aps])
 exact cZ.1):P:=h ⟨c⟩
theorem j0j(h:Bx T->P:=by
 intro cZ;refine Av ?_;have hsr:=setRow_heap _ R #[.int .i64 0,.int .i64 0,.int .i64 0,.int .i64 0,.int .i64 0] #[.int .i64 0,.int .i64 0,.int .i64 0,.int .i64 0,.int .i64 0] 186 _ HR0.o;refine jU ?_;intro sr0 sr1 sr2 sr3 sr4;clear hsr;obtain⟨Sr0,Sr1,Sr2,Sr3,Sr4⟩:=hid5 sr0 sr1 sr2 sr3 sr4;clear sr4 sr3 sr2 sr1 sr0
 revert Sr0 Sr1 Sr2 Sr3 Sr4
 exact cZ.1):P:=h ⟨c⟩
theorem jw(h:Bx T->P:=by
 intro cZ;have hw0:=heap_alloc_new w (.cells #[.int .i64 0,.int .i64 0,.int .i64 0,.int .i64 0,.int .i64 0] 33);have ha0:=h.keeps (Keeps.alloc (S:=λ_=>False) w (.cells #[.int .i64 0,.int .i64 0,.int .i64 0,.int .i64 0,.int .i64 0] 33)) (by simp)
 revert hw0 ha0
 exact cZ.1):P:=h ⟨c⟩
theorem j0i(h:Bx T->P:=by
 intro cZ;have nce:=(Hst3.o).ce;have nec:¬E=C:=λe=>nce e.symm;have c0:=Aa (Hst3.o).c 0;have c1:=Aa (Hst3.o).c 1;have c2:=Aa (Hst3.o).c 2;have c3:=Aa (Hst3.o).c 3;have e0:=Aa (Hst3.o).e 0;have e1:=Aa (Hst3.o).e 1;have e2:=Aa (Hst3.o).e 2;have e4:=Aa (Hst3.o).e 4;have f0:=Ab (Hst3.o).e 0;have f1:=Ab (Hst3.o).e 1;have f2:=Ab (Hst3.o).e 2;have f4:=Ab (Hst3.o).e 4
 revert nce nec c0 c1 c2 c3 e0 e1 e2 e4 f0 f1 f2 f4
 exact cZ.1):P:=h ⟨c⟩
theorem j0l(h:Bx T->P:=by
 intro cZ;obtain⟨W0,hW0⟩:=eY ((w.alloc (.cells #[.int .i64 ki,.int .i64 da,.int .i64 tr,.int .i64 am,.int .i64 re] 33)).alloc (.cells #[.int .i64 0,.int .i64 0,.int .i64 0,.int .i64 0,.int .i64 0,.slice none 0 0,.int .i64 0,.int .i64 0,.slice none 0 0,.slice none 0 0,.int .i64 0,.int .i64 0,.int .i64 0,.int .i64 0,.int .i64 0,.slice none 0 0,.int .i64 0,.int .i64 0,.int .i64 0,.bool false] 61))
 revert W0 hW0
 exact cZ.1):P:=h ⟨c⟩
theorem jF(h:Bx T->P:=by
 intro cZ;have hb4:=Ad Hb3.o hk4 j6;have r0:=Aa hb4 0;have r1:=Aa hb4 1;have r2:=Aa hb4 2;have r3:=Aa hb4 3;have r4:=Aa hb4 4;have f0:=Ab hb4 0;have f1:=Ab hb4 1;have f2:=Ab hb4 2;have f3:=Ab hb4 3;have f4:=Ab hb4 4;have rl:=lt_of_block hb4
 revert hb4 r0 r1 r2 r3 r4 f0 f1 f2 f3 f4 rl
 exact cZ.1):P:=h ⟨c⟩
theorem jO(h:Bx T->P:=by
 intro cZ;refine ja ?_;intro K hK;refine hK.out _ _ (by trivial) ?_;clear hK K;refine jh ?_
 exact cZ.1):P:=h ⟨c⟩
theorem j24(h:Bx T->P:=by
 intro cZ;have hb0:=j42;have hk0:K0 w (w.alloc (.cells #[.int .i64 0,.int .i64 0,.int .i64 0,.int .i64 0,.int .i64 0,.slice none 0 0,.int .i64 0,.int .i64 0,.slice none 0 0,.slice none 0 0,.int .i64 0,.int .i64 0,.int .i64 0,.int .i64 0,.int .i64 0,.slice none 0 0,.int .i64 0,.int .i64 0,.int .i64 0,.bool false] 61)):=Keeps.alloc _ _
 revert hb0 hk0
 exact cZ.1):P:=h ⟨c⟩
theorem j18(h:Bx T->P:=by
 intro cZ;have z0:=Aa hz5 0;have z1:=Aa hz5 1;have z2':=Aa hz5 2;have zf0:=Ab hz5 0;have zf1:=Ab hz5 1;have zf2:=Ab hz5 2;obtain⟨hbz,hkz⟩:=Cb hz5 (.slice a2 n2 c2) (.int .i64 cr2) (.int .i64 du2);have hk4z:K0 W2 ((((w5).setCell ⟨b7,0,none⟩ (.slice a2 n2 c2)).setCell ⟨b7,1,none⟩ (.int .i64 cr2)).setCell ⟨b7,2,none⟩ (.int .i64 du2)):=Keeps.trans hkr (hkz.mono λi _ e=> .inr (by have e':i=b7:=e;omega))
 revert z0 z1 z2' zf0 zf1 zf2 hbz hkz hk4z
 exact cZ.1):P:=h ⟨c⟩
theorem j1B(h:Bx T->P:=by
 intro cZ;refine j39 ?_;intro hkw;have hb1:=Hbx.o w1 ((Keeps.alloc _ _).nt hk1);refine j0O ?_;intro hrs;have b0:=Aa hb1 0;have b1:=Aa hb1 1;have b2:=Aa hb1 2
 revert hkw hb1 hrs b0 b1 b2
 exact cZ.1):P:=h ⟨c⟩
theorem j0d(h:Bx T->P:=by
 intro cZ;refine jk ?_;have hrow2:=(Hrow.o.keep hk1).keep hk2;have hkw:=(Hk.o.trans (hk1.mono (by simp))).trans (hk2.mono (by simp))
 revert hrow2 hkw
 exact cZ.1):P:=h ⟨c⟩
theorem jP(h:Bx T->P:=by
 intro cZ
 have hsd:Bq B (j+1)=day:=by
  exact j4A
 revert hsd
 exact cZ.1):P:=h ⟨c⟩
theorem ja(h:Bx T->P:=by
 intro cZ;refine Ag rfl (λK hK=> ?_);go_simp
 revert K hK
 exact cZ.1):P:=h ⟨c⟩
theorem j0r(h:Bx T->P:=by
 intro cZ;have hbx:∀W,K0 (w.alloc (.cells #[.slice ad n cap,.int .i64 cr,.int .i64 du] 51)) W->W.heap[w.heap.size]?=some (.cells #[.slice ad n cap,.int .i64 cr,.int .i64 du] 51 (0,0)):=λW hW=>Ad (heap_alloc_new w _) hW (by simp)
 revert hbx
 exact cZ.1):P:=h ⟨c⟩
theorem jV(h:Bx T->P:=by
 intro cZ;intro v4 w4 ho4 hk4 hf4;have hg4:=Hg.o.app rfl rfl ho4 hk4 hf4;have Hg4:=Lib.hid hg4;clear hg4;clear ho4 hk4 hf4
 revert v4 w4 Hg4
 exact cZ.1):P:=h ⟨c⟩
theorem j4o(h:Bx T->P:=by
 intro cZ;refine jc ?_;have hk02:=Hk0.o.nt (hk1.nt hk2);have hR:=Ad Hr0.o (hk1.nt hk2) (by simp);have hs3:=(hs1.keep hk2 (by simp) (by simp)).keep (Cg w2 (w.heap.size+1) #[.int .i64 12,.int .i64 0,.int .i64 0,.int .i64 0,.int .i64 0,.slice none 0 0,.int .i64 0,.int .i64 0,.slice none 0 0,.slice none 0 0,.int .i64 0,.int .i64 0,.int .i64 0,.int .i64 0,.int .i64 0,.slice none 0 0,.int .i64 0,.int .i64 0,.int .i64 0,.bool false]) nBR nCR;have hput:=setRow_heap w2 (w.heap.size+1) #[.int .i64 0,.int .i64 0,.int .i64 0,.int .i64 0,.int .i64 0,.slice none 0 0,.int .i64 0,.int .i64 0,.slice none 0 0,.slice none 0 0,.int .i64 0,.int .i64 0,.int .i64 0,.int .i64 0,.int .i64 0,.slice none 0 0,.int .i64 0,.int .i64 0,.int .i64 0,.bool false] #[.int .i64 12,.int .i64 0,.int .i64 0,.int .i64 0,.int .i64 0,.slice none 0 0,.int .i64 0,.int .i64 0,.slice none 0 0,.slice none 0 0,.int .i64 0,.int .i64 0,.int .i64 0,.int .i64 0,.int .i64 0,.slice none 0 0,.int .i64 0,.int .i64 0,.int .i64 0,.bool false] 61 _ hR;have hone:=Da 12 0 0;have hq:=(Ca.ret (V:= #[.int .i64 12,.int .i64 0,.int .i64 0,.int .i64 0,.int .i64 0,.slice none 0 0,.int .i64 0,.int .i64 0,.slice none 0 0,.slice none 0 0,.int .i64 0,.int .i64 0,.int .i64 0,.int .i64 0,.int .i64 0,.slice none 0 0,.int .i64 0,.int .i64 0,.int .i64 0,.bool false]) H.o hk02 (Ca.same (H.o.keep0 hk02) (Keeps.refl _ _)) hR (Nat.le_succ _)).2;have hans2:=(AnsIs.mk0 w w2 12 0 0).setRow (V:= #[.int .i64 12,.int .i64 0,.int .i64 0,.int .i64 0,.int .i64 0,.slice none 0 0,.int .i64 0,.int .i64 0,.slice none 0 0,.slice none 0 0,.int .i64 0,.int .i64 0,.int .i64 0,.int .i64 0,.int .i64 0,.slice none 0 0,.int .i64 0,.int .i64 0,.int .i64 0,.bool false]) hR
 revert hk02 hR hs3 hput hone hq hans2
 exact cZ.1):P:=h ⟨c⟩
theorem j04(h:Bx T->P:=by
 intro cZ;refine jc ?_;refine ja ?_;intro K hK;refine hK.out _ _ (by exact(HS3.o.keep (Keeps.alloc _ _)).keep (Keeps.alloc _ _)) ?_;clear hK K
 exact cZ.1):P:=h ⟨c⟩
theorem jp(h:Bx T->P:=by
 intro cZ;refine jj ?_;intro R0' R1' R2';have R3':=Sr3.o;have R4':=Sr4.o
 revert R0' R1' R2' R3' R4'
 exact cZ.1):P:=h ⟨c⟩
theorem j4i(h:Bx T->P:=by
 intro cZ;have z0:=Aa hz8 0;have z1:=Aa hz8 1;have z2':=Aa hz8 2;have zf0:=Ab hz8 0;have zf1:=Ab hz8 1;have zf2:=Ab hz8 2;obtain⟨hbz,hkz⟩:=Cb hz8 (.slice a2 n2 c2) (.int .i64 cr2) (.int .i64 du2);have hk4z:K0 W2 ((((w8).setCell ⟨b7,0,none⟩ (.slice a2 n2 c2)).setCell ⟨b7,1,none⟩ (.int .i64 cr2)).setCell ⟨b7,2,none⟩ (.int .i64 du2)):=Keeps.trans hka8 (hkz.mono λi _ e=> .inr (by have e':i=b7:=e;omega));have hrel:CnRun W2 n Z (.pointer (some ⟨b7,0,none⟩)) vr2 vo2 (.int .i64 z2) ((((w8).setCell ⟨b7,0,none⟩ (.slice a2 n2 c2)).setCell ⟨b7,1,none⟩ (.int .i64 cr2)).setCell ⟨b7,2,none⟩ (.int .i64 du2)):=⟨b7,_,_,_,cr2,du2,z2,rfl,rfl,rfl,rfl,hb7l,hk4z,hbz,((hi2.up hkn).keep (hkA.trans (hkz.mono λi _ e=> .inr (by have e':i=b7:=e;omega)))),_,_,_,rfl⟩
 revert z0 z1 z2' zf0 zf1 zf2 hbz hkz hk4z hrel
 exact cZ.1):P:=h ⟨c⟩
theorem j2u(h:Bx T->P:=by
 intro cZ;have x0:wr.cell? ⟨g,o+k*9,none⟩=some (.int .i64 x.s.cycle):=hc 0 j7;have x1:wr.cell? ⟨g,o+k*9+1,none⟩=some (.int .i64 x.s.fr):=hc 1 j7;have x2:wr.cell? ⟨g,o+k*9+2,none⟩=some (.int .i64 x.s.te):=hc 2 j7;have x3:wr.cell? ⟨g,o+k*9+3,none⟩=some (.int .i64 x.s.due):=hc 3 j7;have x4:wr.cell? ⟨g,o+k*9+4,none⟩=some x.v:=hc 4 j7;have x5:wr.cell? ⟨g,o+k*9+5,none⟩=some (.int .i64 x.s.total):=hc 5 j7;have x6:wr.cell? ⟨g,o+k*9+6,none⟩=some (.int .i64 x.s.credit):=hc 6 j7;have x7:wr.cell? ⟨g,o+k*9+7,none⟩=some (.int .i64 x.s.min):=hc 7 j7;have x8:wr.cell? ⟨g,o+k*9+8,none⟩=some (.bool x.s.grace):=hc 8 j7
 revert x0 x1 x2 x3 x4 x5 x6 x7 x8
 exact cZ.1):P:=h ⟨c⟩
theorem j1e(h:Bx T->P:=by
 intro cZ
 repeat ((first|refine Br rfl (by rfl) ?_|refine Bc rfl (by rfl) ?_|(refine Bl (v:= ?_) rfl (by rfl) ?_ ?_;rotate_left;(· intro w' hSw;unfold tmB at hSw;go_simp;(try with_reducible rfl));rotate_right));try simp only [aps])
 exact cZ.1):P:=h ⟨c⟩
theorem j07(h:Bx T->P:=by
 intro cZ;refine Cu rfl (λK hK=> ?_);go_simp;refine hK.out _ _ ?_;clear hK K;refine jq ?_
 exact cZ.1):P:=h ⟨c⟩
theorem jy(h:Bx T->P:=by
 intro cZ;have Hr1:=Lib.hid hr1;have Hb1:=Lib.hid (Ad Hw0.o hk1 j6);have Hk1:=Lib.hid hk1
 revert Hr1 Hb1 Hk1
 exact cZ.1):P:=h ⟨c⟩
theorem j4n(h:Bx T->P:=by
 intro cZ;have hput:=setRow_heap W4 (w.heap.size+1) #[.int .i64 0,.int .i64 0,.int .i64 0,.int .i64 0,.int .i64 0,.slice none 0 0,.int .i64 0,.int .i64 0,.slice none 0 0,.slice none 0 0,.int .i64 0,.int .i64 0,.int .i64 0,.int .i64 0,.int .i64 0,.slice none 0 0,.int .i64 0,.int .i64 0,.int .i64 0,.bool false] #[.int .i64 0,.int .i64 0,.int .i64 0,.int .i64 0,.int .i64 0,.slice none 0 0,.int .i64 0,.int .i64 0,.slice none 0 0,.slice none 0 0,.int .i64 0,.int .i64 0,.int .i64 0,.int .i64 0,.int .i64 0,.slice none 0 0,.int .i64 0,.int .i64 0,.int .i64 0,.bool false] 61 _ hR4
 revert hput
 exact cZ.1):P:=h ⟨c⟩
theorem j0T(h:Bx T->P:=by
 intro cZ;have r0:=Aa hrs8 0;have r1:=Aa hrs8 1;have r2:=Aa hrs8 2;have rf0:=Ab hrs8 0;have rf1:=Ab hrs8 1;have rf2:=Ab hrs8 2;refine jT ?_;intro sr0 sr1 sr2
 revert r0 r1 r2 rf0 rf1 rf2 sr0 sr1 sr2
 exact cZ.1):P:=h ⟨c⟩
theorem j2O(h:Bx T->P:=by
 intro cZ;have Hk1:=Lib.hid ((by(repeat (first|exact Keeps.refl _ _|exact Keeps.alloc _ _|exact Keeps.drew _|exact Keeps.drewN _ _|refine Keeps.Ao ?_|refine Keeps.Al ?_|refine Keeps.Af ?_)):K0 w ((w.alloc (.cells #[.slice ad n cap,.int .i64 cr,.int .i64 du] 51)).alloc (.cells #[.slice none 0 0,.int .i64 0,.int .i64 0] 51))).nt hk1);refine j0O ?_;intro hrs
 revert Hk1 hrs
 exact cZ.1):P:=h ⟨c⟩
theorem jh(h:Bx T->P:=by
 intro cZ
 try simp only [aps]
 refine jR ?_
 exact cZ.1):P:=h ⟨c⟩
theorem jB(h:Bx T->P:=by
 intro cZ;have Hr2:=Lib.hid hr2;have Hb2:=Lib.hid (Ad Hb1.o hk2 j6);have Hk2:=Lib.hid hk2
 revert Hr2 Hb2 Hk2
 exact cZ.1):P:=h ⟨c⟩
theorem jj(h:Bx T->P:=by
 intro cZ;have R0':=Sr0.o;have R1':=Sr1.o;have R2':=Sr2.o
 revert R0' R1' R2'
 exact cZ.1):P:=h ⟨c⟩
theorem j2x(h:Bx T->P:=by
 intro cZ;have hfr2:=((hat.fr.set (g:=g) (j:=k) rfl (.int .i64 ((i:Int)+1))).set (g:=g) (j:=k+1) rfl (.int .i64 y)).keep (Keeps.drew _);have q2:y-1<(n:Int):=j8;have q3:(y-1).toNat=m:=j8;have q4:IntKind.i64.wrap (y-1)=y-1:=IntWalk.i64_in _ ⟨by omega,by omega⟩;have q5:IntKind.i64.wrap (k:Int)=(k:Int):=IntWalk.i64_in _ ⟨by omega,by omega⟩;have q6:(k:Int)+1<(i:Int)+1:=j8;have q7:(k:Int)<(i:Int)+1:=j8;have q8:((k:Int)+1).toNat=k+1:=j8;have q9:(0:Int)<=(k:Int)+1:=j8
 revert hfr2 q2 q3 q4 q5 q6 q7 q8 q9
 exact cZ.1):P:=h ⟨c⟩
theorem j1i(h:Bx T->P:=by
 intro cZ
 repeat ((first|refine Br rfl (by rfl) ?_|refine Bc rfl (by rfl) ?_|(refine Bl (v:= ?_) rfl (by rfl) ?_ ?_;rotate_left;(· intro w' hSw;unfold bwS at hSw;go_simp;(try with_reducible rfl));rotate_right));try simp only [aps])
 exact cZ.1):P:=h ⟨c⟩
theorem j3E(h:Bx T->P:=by
 intro cZ;have nx:∀{e:TypeId} {b:Nat} {c:Array Value},w4.heap[b]?=some (.cells c e (0,0))->e≠2->¬x.v.ownBlock=some b:=λhb hne=>Ah hrx hb hne;have nr:∀{e:TypeId} {sz m:Nat} {u:Value} {xs:List Value},w4.ownsRow 0 e sz u m xs->e≠2->∀b,u.ownBlock=some b->¬x.v.ownBlock=some b:=λhr' hne b hb e=>Fj hr' hrx hne hb e;have h5o0:=Ad h4.o0 hk5 (nx h4.o0 j7);have h5o1:=Ad h4.o1 hk5 (nx h4.o1 j7);have h5b:=Ad h4.blk hk5 (nx h4.blk j7)
 revert nx nr h5o0 h5o1 h5b
 exact cZ.1):P:=h ⟨c⟩
theorem jD(h:Bx T->P:=by
 intro cZ;have Hr3:=Lib.hid hr3;have Hb3:=Lib.hid (Ad Hb2.o hk3 j6);have Hk3:=Lib.hid hk3
 revert Hr3 Hb3 Hk3
 exact cZ.1):P:=h ⟨c⟩
theorem j21(h:Bx T->P:=by
 intro cZ
 repeat ((first|refine Br rfl (by rfl) ?_|refine Bc rfl (by rfl) ?_|(refine Bl (v:= ?_) rfl (by rfl) ?_ ?_;rotate_left;(· intro w' hSw;unfold wkS tbS at hSw;go_simp;(try with_reducible rfl));rotate_right));try simp only [aps])
 exact cZ.1):P:=h ⟨c⟩
theorem j0X(h:Bx T->P:=by
 intro cZ;have okx:ok _:=Hok.o _ (List.mem_of_getElem? hx);have oky:ok _:=Hok.o _ (List.mem_of_getElem? hy);have hS:=twoS.of (hrow.keep (Keeps.drew _)) hx hy;have hxd:=Fb hx;have hyd:=Fb hy
 revert okx oky hS hxd hyd
 exact cZ.1):P:=h ⟨c⟩
theorem j1J(h:Bx T->P:=by
 intro cZ;refine je ?_;intro K hK;refine hK.out _ _ (by exact hs8.keep (S:=λ_=>False) (Keeps.alloc _ _) (by simp) (by simp) (by simp)) ?_;clear hK K;refine jc ?_
 exact cZ.1):P:=h ⟨c⟩
theorem jU(h:Bx T->P:=by
 intro cZ;have sr0:=Aa hsr 0;have sr1:=Aa hsr 1;have sr2:=Aa hsr 2;have sr3:=Aa hsr 3;have sr4:=Aa hsr 4
 revert sr0 sr1 sr2 sr3 sr4
 exact cZ.1):P:=h ⟨c⟩
theorem j0W(h:Bx T->P:=by
 intro cZ;have hltI:(i:Int)<(j:Int):=j8;have hbhi:=hbs.hi';have hblo:=hbs.lo';obtain⟨h,hh⟩:∃h:Nat,((i:Int)+j) / 2=h:=⟨(i+j) / 2,by omega⟩;have hih:i<=h:=j8;have hhj:h<j:=j8
 revert hltI hbhi hblo h hh hih hhj
 exact cZ.1):P:=h ⟨c⟩
theorem j3g(h:Bx T->P:=by
 intro cZ;have sa0:=Aa (hr9') 0;have sa1:=Aa (hr9') 1;have sa2:=Aa (hr9') 2;have sa3:=Aa (hr9') 3;have sa4:=Aa (hr9') 4;have sa5:=Aa (hr9') 5;have sa6:=Aa (hr9') 6;have sa7:=Aa (hr9') 7;have sa8:=Aa (hr9') 8;have sb0:=Aa (hr10) 0;have sb1:=Aa (hr10) 1;have sb2:=Aa (hr10) 2;obtain⟨Sa0,Sa1,Sa2,Sa3,Sa4,Sa5,Sa6,Sa7,Sa8⟩:=hid9 sa0 sa1 sa2 sa3 sa4 sa5 sa6 sa7 sa8;clear sa8 sa7 sa6 sa5 sa4 sa3 sa2 sa1 sa0;obtain⟨Sb0,Sb1,Sb2⟩:=hid3 sb0 sb1 sb2;clear sb2 sb1 sb0
 revert Sa0 Sa1 Sa2 Sa3 Sa4 Sa5 Sa6 Sa7 Sa8 Sb0 Sb1 Sb2
 exact cZ.1):P:=h ⟨c⟩
theorem j1D(h:Bx T->P:=by
 intro cZ;have hS3:=j1u;obtain⟨hb9,k9⟩:=hS3;refine j0P ?_;intro r0 r1 r2 rf0 rf1 rf2;refine jT ?_;intro sr0 sr1 sr2
 revert hb9 k9 r0 r1 r2 rf0 rf1 rf2 sr0 sr1 sr2
 exact cZ.1):P:=h ⟨c⟩
theorem j0z(h:Bx T->P:=by
 intro cZ;have k:∀{p:Addr} {u:Value},W.cell? p=some u->W'.cell? p=some u:=λhc=>(hk.cell (Ai hc) (by simp)).trans hc
 revert k
 exact cZ.1):P:=h ⟨c⟩
theorem j3v(h:Bx T->P:=by
 intro cZ;have x0:wr.cell? ⟨g,o+j*5,none⟩=some (.int .i64 ki):=hc 0 j7;have x1:wr.cell? ⟨g,o+j*5+1,none⟩=some (.int .i64 da):=hc 1 j7;have x2:wr.cell? ⟨g,o+j*5+2,none⟩=some (.int .i64 tr):=hc 2 j7;have x3:wr.cell? ⟨g,o+j*5+3,none⟩=some (.int .i64 am):=hc 3 j7;have x4:wr.cell? ⟨g,o+j*5+4,none⟩=some (.int .i64 re):=hc 4 j7
 revert x0 x1 x2 x3 x4
 exact cZ.1):P:=h ⟨c⟩
theorem je(h:Bx T->P:=by
 intro cZ;refine jR ?_;refine ja ?_;intro K hK
 revert K hK
 exact cZ.1):P:=h ⟨c⟩
theorem j39(h:Bx T->P:=by
 intro cZ;have hkw:K0 w w1:=(by(repeat (first|exact Keeps.refl _ _|exact Keeps.alloc _ _|exact Keeps.drew _|exact Keeps.drewN _ _|refine Keeps.Ao ?_|refine Keeps.Al ?_|refine Keeps.Af ?_)):K0 w ((w.alloc (.cells #[.slice ad n cap,.int .i64 cr,.int .i64 du] 51)).alloc (.cells #[.slice none 0 0,.int .i64 0,.int .i64 0] 51))).nt hk1
 revert hkw
 exact cZ.1):P:=h ⟨c⟩
theorem j0t(h:Bx T->P:=by
 intro cZ;have hri:=λW (hW:K0 w W)=>Ga L cr du ad cap n W (hr.keeps hW (by simp)) hN hl
 revert hri
 exact cZ.1):P:=h ⟨c⟩
theorem jx(h:Bx T->P:=by
 intro cZ;refine(Be Ha0.o HB.o Hy0.o).mono ?_
 exact cZ.1):P:=h ⟨c⟩
theorem jc(h:Bx T->P:=by
 intro cZ
 try simp only [aps]
 exact cZ.1):P:=h ⟨c⟩
theorem j0O(h:Bx T->P:=by
 intro cZ;have hrs:w1.heap[w.heap.size+1]?=some (.cells #[.slice none 0 0,.int .i64 0,.int .i64 0] 51 (0,0)):=Ad (Aw _ _ (by simp)) hk1 (by simp)
 revert hrs
 exact cZ.1):P:=h ⟨c⟩
theorem jz(h:Bx T->P:=by
 intro cZ;refine(Be Hr1.o HB.o Hy1.o).mono ?_
 exact cZ.1):P:=h ⟨c⟩
theorem j2o(h:Bx T->P:=by
 intro cZ;have hrun:=Nl (P:=P) w dT sT o.type elem size g off dLen dCap ad sLen sCap cur.toArray t cs hu hsz hg hn hsrc (by simpa using hfit) h1;unfold Oper.wp execOp;simp only [ho,resolve,invoke,builtin,Sem.run_bind,Sem.run_pure,Result.andThen_ok,List.map_toArray,List.map_cons,List.map_nil,hd,hs,hrun]
 revert hrun
 exact cZ.1):P:=h ⟨c⟩
theorem j45(h:Bx T->P:=by
 intro cZ;have hAt:=H.o.keeps (S:=Foot b v) ((Hk0.o.mono (by simp)).trans (hk1.mono λi _ e=> .inl e)) λk hk e=>Hsep.o k e hk;have hRl:∀i,Foot b v i->i<w.heap.size:=Hb.o.lt;have hc1:=Ad Hc0.o hk1 (λe=>by have:=hRl _ e;omega);have hr1:=Ad Hr0.o hk1 (λe=>by have:=hRl _ e;omega);have c0:=Aa hc1 0;have cl:=lt_of_block hc1
 revert hAt hRl hc1 hr1 c0 cl
 exact cZ.1):P:=h ⟨c⟩
theorem j2S(h:Bx T->P:=by
 intro cZ;obtain⟨z,hz⟩:=eX (askE ⟨L,cr,du⟩ [k] a);have hask:=fun(W:World) (g:Nat) (hW:K0 w W) (hT:Reads W 1 (.slice (some ⟨g,0,none⟩) 1 1) 1 ([k].flatMap i64c))=>Jp L cr du a [k] ad (some ⟨g,0,none⟩) cap 1 n 1 W (hr.keeps hW (by simp)) hN hl hT rfl j7
 revert z hz hask
 exact cZ.1):P:=h ⟨c⟩
theorem j0c(h:Bx T->P:=by
 intro cZ;refine hK.out _ _ (by exact hs1.keep hk2 (by simp)) ?_
 exact cZ.1):P:=h ⟨c⟩
theorem j1q(h:Bx T->P:=by
 intro cZ;have hmk:=fun(W:World)=>run_makeSlice (P:=Tryz.prog) W 49 2 i0 (.int .i64 0) Tryz.underlying49 hi hi0 .i64 .i64 (n:Int) (n:Int) j6 j6 (by rw [hi1];omega) (by rw [hi2];omega) j6
 revert hmk
 exact cZ.1):P:=h ⟨c⟩
theorem j0C(h:Bx T->P:=by
 intro cZ;have hpo:=((Hst2.o).done (D:=a.D) (V:= #[.int .i64 0,.int .i64 0,.int .i64 0,.int .i64 0,.int .i64 0]) Hb.o)
 revert hpo
 exact cZ.1):P:=h ⟨c⟩
theorem j3M(h:Bx T->P:=by
 intro cZ;have hS4:=(show c4S B t.limit (.slice adT n cT) t.cyc t.due t.minFixed t.minPart t.start (.slice (some ⟨g0,0,none⟩) n n) (.slice (some ⟨g1,0,none⟩) n n) w2 from⟨Aa hr2.blk 0,Aa hr2.blk 1,Aa hr2.blk 2,Aa hr2.blk 3,Aa hr2.blk 4,Aa hr2.blk 5,Aa hr2.blk 6,Aa hr2.blk 14,Aa hr2.blk 15⟩).keep (Keeps.drew _)
 revert hS4
 exact cZ.1):P:=h ⟨c⟩
theorem jC(h:Bx T->P:=by
 intro cZ;refine(Be Hr2.o HB.o Hy2.o).mono ?_
 exact cZ.1):P:=h ⟨c⟩
theorem j17(h:Bx T->P:=by
 intro cZ;dsimp only;have hkr:K0 W2 w5:=Keeps.nt hkn hk7;refine hK.out _ _ (by exact HSk.o _ hkr) ?_
 revert hkr
 exact cZ.1):P:=h ⟨c⟩
theorem j38(h:Bx T->P:=by
 intro cZ;obtain⟨hb4,k4⟩:=Cb hb3 (.slice (some ⟨g,0,none⟩) n c) (.int .i64 cr) (.int .i64 du);have hS:∃W4,W4=(((w3.setCell ⟨w.heap.size,0,none⟩ (.slice (some ⟨g,0,none⟩) n c)).setCell ⟨w.heap.size,1,none⟩ (.int .i64 cr)).setCell ⟨w.heap.size,2,none⟩ (.int .i64 du)):=⟨_,rfl⟩;obtain⟨W4,hW4⟩:=hS
 revert hb4 k4 W4 hW4
 exact cZ.1):P:=h ⟨c⟩
theorem j47(h:Bx T->P:=by
 intro cZ;have hr2:=Ap hr1 (.cells #[.int .i64 dr,.int .i64 dt,.int .i64 dd,.int .i64 da2,.int .i64 ds] 148);have hpo:=λV=>Le.put (V:=V) Hb.o Hk0.o hb1 hk1 hf1 (Keeps.alloc w1 (.cells #[.int .i64 dr,.int .i64 dt,.int .i64 dd,.int .i64 da2,.int .i64 ds] 148)) (R:=w.heap.size+1) (Nat.le_succ _) hs0
 revert hr2 hpo
 exact cZ.1):P:=h ⟨c⟩
theorem j33(h:Bx T->P:=by
 intro cZ;obtain⟨p1,r1,hp⟩:∃p1 r1,intoL B (rankL false R) m=(p1,r1):=⟨_,_,rfl⟩;obtain⟨q1,r2,hq⟩:∃q1 r2,intoL (List.zipWith (· - ·) B p1) (rankL true R) (a-m+r1)=(q1,r2):=⟨_,_,rfl⟩;have hpay:payL B R du a=(List.zipWith (·+·) p1 q1,m,r2):=by unfold payL;rw [hmin];simp only;rw [hp];simp only;rw [hq]
 rw [hpay]
 revert p1 r1 hp q1 r2 hq hpay
 exact cZ.1):P:=h ⟨c⟩
theorem j2s(h:Bx T->P:=by
 intro cZ
 repeat ((first|refine Br rfl (by rfl) ?_|refine Bc rfl (by rfl) ?_|(refine Bl (v:= ?_) rfl (by rfl) ?_ ?_;rotate_left;(· intro w' hSw;unfold onS at hSw;go_simp;(try with_reducible rfl));rotate_right));try simp only [aps])
 exact cZ.1):P:=h ⟨c⟩
theorem jT(h:Bx T->P:=by
 intro cZ;have sr0:=Aa hb9 0;have sr1:=Aa hb9 1;have sr2:=Aa hb9 2
 revert sr0 sr1 sr2
 exact cZ.1):P:=h ⟨c⟩
theorem j4e(h:Bx T->P:=by
 intro cZ;have nce:=(hst6).ce;have nec:¬E=C:=λe=>nce e.symm;have c0:=Aa (hst6).c 0;have c1:=Aa (hst6).c 1;have c2:=Aa (hst6).c 2;have c3:=Aa (hst6).c 3;have e0:=Aa (hst6).e 0;have e1:=Aa (hst6).e 1;have e2:=Aa (hst6).e 2;have e4:=Aa (hst6).e 4;have f0:=Ab (hst6).e 0;have f1:=Ab (hst6).e 1;have f2:=Ab (hst6).e 2;have f4:=Ab (hst6).e 4
 revert nce nec c0 c1 c2 c3 e0 e1 e2 e4 f0 f1 f2 f4
 exact cZ.1):P:=h ⟨c⟩
theorem jE(h:Bx T->P:=by
 intro cZ;refine(Be Hr3.o HB.o Hy3.o).mono ?_
 exact cZ.1):P:=h ⟨c⟩
theorem jN(h:Bx T->P:=by
 intro cZ;refine hK _ _ ?_;refine Hfirst.o _ _ ?_
 exact cZ.1):P:=h ⟨c⟩
theorem j4j(h:Bx T->P:=by
 intro cZ;have hrel:CnRun W2 n Z (.pointer (some ⟨b7,0,none⟩)) vr2 vo2 (.int .i64 z2) ((((w5).setCell ⟨b7,0,none⟩ (.slice a2 n2 c2)).setCell ⟨b7,1,none⟩ (.int .i64 cr2)).setCell ⟨b7,2,none⟩ (.int .i64 du2)):=⟨b7,_,_,_,cr2,du2,z2,rfl,rfl,rfl,rfl,hb7l,hk4z,hbz,(hi2.lift hkz hl8 hka8 hb7l),_,_,_,rfl⟩
 revert hrel
 exact cZ.1):P:=h ⟨c⟩
theorem j48(h:Bx T->P:=by
 intro cZ;have hsr:=setRow_heap _ (w.heap.size+1) #[.int .i64 0,.int .i64 0,.int .i64 0,.int .i64 0,.int .i64 0] #[.int .i64 0,.int .i64 0,.int .i64 0,.int .i64 0,.int .i64 0] 186 _ Hr2.o;refine jU ?_;intro sr0 sr1 sr2 sr3 sr4;clear hsr;obtain⟨Sr0,Sr1,Sr2,Sr3,Sr4⟩:=hid5 sr0 sr1 sr2 sr3 sr4;clear sr4 sr3 sr2 sr1 sr0
 revert Sr0 Sr1 Sr2 Sr3 Sr4
 exact cZ.1):P:=h ⟨c⟩
theorem j0Q(h:Bx T->P:=by
 intro cZ;have hown:=λW (hW:K0 w W)=>Jk L cr du (.slice ad n cap) n W (hr.keeps hW (by simp)) hl
 revert hown
 exact cZ.1):P:=h ⟨c⟩
theorem j0P(h:Bx T->P:=by
 intro cZ;have r0:=Aa hrs 0;have r1:=Aa hrs 1;have r2:=Aa hrs 2;have rf0:=Ab hrs 0;have rf1:=Ab hrs 1;have rf2:=Ab hrs 2
 revert r0 r1 r2 rf0 rf1 rf2
 exact cZ.1):P:=h ⟨c⟩
theorem jk(h:Bx T->P:=by
 intro cZ;refine jh ?_;refine Aq ?_
 exact cZ.1):P:=h ⟨c⟩
theorem jM(h:Bx T->P:=by
 intro cZ;intro hfirst;have Hfirst:=Lib.hid hfirst;clear hfirst
 revert Hfirst
 exact cZ.1):P:=h ⟨c⟩
theorem j3B(h:Bx T->P:=by
 intro cZ;have hmk:=fun(W:World)=>run_makeSlice (P:=Tryz.prog) W 200 49 i0 (.slice none 0 0) Tryz.underlying200 hi hi0 .i64 .i64 (n:Int) (n:Int) j6 j6 (by rw [hi1];omega) (by rw [hi2];omega) j6
 revert hmk
 exact cZ.1):P:=h ⟨c⟩
theorem j4k(h:Bx T->P:=by
 intro cZ;have hrel:CnRun W2 n Z (.pointer (some ⟨b7,0,none⟩)) vr2 vo2 (.int .i64 z2) ((((w5).setCell ⟨b7,0,none⟩ (.slice a2 n2 c2)).setCell ⟨b7,1,none⟩ (.int .i64 cr2)).setCell ⟨b7,2,none⟩ (.int .i64 du2)):=⟨b7,_,_,_,cr2,du2,z2,rfl,rfl,rfl,rfl,hb7l,hk4z,hbz,(hi2.lift hkz hl4 hkn hb7l),_,_,_,rfl⟩
 revert hrel
 exact cZ.1):P:=h ⟨c⟩
theorem j4a(h:Bx T->P:=by
 intro cZ;have nce:=(Hst1.o).ce;have nec:¬E=C:=λe=>nce e.symm;have c0:=Aa (Hst1.o).c 0;have c1:=Aa (Hst1.o).c 1;have c2:=Aa (Hst1.o).c 2;have c3:=Aa (Hst1.o).c 3;have e0:=Aa (Hst1.o).e 0;have e1:=Aa (Hst1.o).e 1;have e2:=Aa (Hst1.o).e 2;have e4:=Aa (Hst1.o).e 4;have f0:=Ab (Hst1.o).e 0;have f1:=Ab (Hst1.o).e 1;have f2:=Ab (Hst1.o).e 2;have f4:=Ab (Hst1.o).e 4
 revert nce nec c0 c1 c2 c3 e0 e1 e2 e4 f0 f1 f2 f4
 exact cZ.1):P:=h ⟨c⟩
theorem j0f(h:Bx T->P:=by
 intro cZ;have hlnE:=hln.of_keeps k5E;have hbnE:=hbn2.of_keeps k5E;have hs5:=hk5.size
 revert hlnE hbnE hs5
 exact cZ.1):P:=h ⟨c⟩
theorem j4M(h:Bx T->P:=by
 intro cZ;refine jR ?_;refine Ee rfl (by rfl) w.heap.size rfl 33 #[.int .i64 ki,.int .i64 da,.int .i64 tr,.int .i64 am,.int .i64 re] _ _ (λw h=>h.2) Tryz.underlying33 rfl Wy ?_
 exact cZ.1):P:=h ⟨c⟩
theorem j4f(h:Bx T->P:=by
 intro cZ
 repeat ((first|refine Br rfl (by rfl) ?_|refine Bc rfl (by rfl) ?_|(refine Bl (v:= ?_) rfl (by rfl) ?_ ?_;rotate_left;(· intro w' hSw;unfold rfcS at hSw;go_simp;(try with_reducible rfl));rotate_right));try simp only [aps])
 exact cZ.1):P:=h ⟨c⟩
theorem j3N(h:Bx T->P:=by
 intro cZ;refine ja ?_;intro K hK;refine hK.out _ _ (by exact hs7.keep (Keeps.nt j1T (Keeps.alloc _ _))) ?_;clear hK K;refine jc ?_
 exact cZ.1):P:=h ⟨c⟩
theorem j4J(h:Bx T->P:=by
 intro cZ;refine ja ?_;intro K hK;refine hK.out _ _ (by exact Hs8.o.keep (Keeps.alloc (S:=λ_=>False) _ _) (by simp) (by simp)) ?_;clear hK K;refine jc ?_
 exact cZ.1):P:=h ⟨c⟩
theorem j1b(h:Bx T->P:=by
 intro cZ;refine hK.out _ _ (by exact hs1.keep hk2 (by simp) (by simp)) ?_
 exact cZ.1):P:=h ⟨c⟩
theorem j34(h:Bx T->P:=by
 intro cZ;have hqb:=Mf (B:=List.zipWith (· - ·) B p1) (O:=rankL true R) (a:=a-m+r1) (λx hx=>(hB2 x hx).1) j6 (by rw [hB2l];exact hokH);have hql:=Dn (List.zipWith (· - ·) B p1) (rankL true R) (a-m+r1)
 revert hqb hql
 exact cZ.1):P:=h ⟨c⟩
theorem j2l(h:Bx T->P:=by
 intro cZ;unfold Oper.wp execOp;simp only [ho,resolve,invoke,builtin,Sem.run_bind,Sem.run_pure,Result.andThen_ok,List.map_toArray,List.map_cons,List.map_nil,hs,hx,hr]
 exact cZ.1):P:=h ⟨c⟩
theorem j0F(h:Bx T->P:=by
 intro cZ;refine hK.out _ _ (by exact HS3.o.keep (Keeps.alloc _ _)) ?_
 exact cZ.1):P:=h ⟨c⟩
theorem j4O(h:Bx T->P:=by
 intro cZ;have hkw3:=Hkw2.o.nt hk3;have hC3:=Ad HC2.o hk3 (by simp);have hR3:=Ad HR2.o hk3 (by simp);have hT3:=Ad HT2.o hk3 (by simp);have c0:=Aa hC3 0;have c1:=Aa hC3 1;have c2:=Aa hC3 2;have c3:=Aa hC3 3;have c4:=Aa hC3 4;have hdo:=Ya F x' a ⟨ki,da,tr,am,re⟩ w3 hA3 hs hc
 revert hkw3 hC3 hR3 hT3 c0 c1 c2 c3 c4 hdo
 exact cZ.1):P:=h ⟨c⟩
theorem jm(h:Bx T->P:=by
 intro cZ;refine jR ?_;refine Aq ?_
 exact cZ.1):P:=h ⟨c⟩
theorem j3T(h:Bx T->P:=by
 intro cZ;refine ja ?_;intro K hK;refine hK.out _ _ (by exact hs7.keep (Keeps.nt j01 (Keeps.alloc _ _))) ?_;clear hK K;refine jc ?_
 exact cZ.1):P:=h ⟨c⟩
theorem j2h(h:Bx T->P:=by
 intro cZ;obtain⟨z1,hz1⟩:=eX (a.dz c);obtain⟨z2,hz2⟩:=eX (a.dr c);obtain⟨z3,hz3⟩:=eX (a.dc c)
 revert z1 hz1 z2 hz2 z3 hz3
 exact cZ.1):P:=h ⟨c⟩
theorem jq(h:Bx T->P:=by
 intro cZ;refine jc ?_;refine Aq ?_
 exact cZ.1):P:=h ⟨c⟩
theorem j0k(h:Bx T->P:=by
 intro cZ;refine hK.out _ _ (by exact HSk.o _ hka8) ?_
 exact cZ.1):P:=h ⟨c⟩
theorem j3A(h:Bx T->P:=by
 intro cZ;have hnil:∀x∈List.replicate n si0,x=si0:=λx hx=>(List.mem_replicate.1 hx).2;have hget:∀(j:Nat) (x:SI),(List.replicate n si0)[j]?=some x->x=si0:=λj x hx=>hnil x (List.mem_of_getElem? hx)
 revert hnil hget
 exact cZ.1):P:=h ⟨c⟩
theorem j4F(h:Bx T->P:=by
 intro cZ
 have hb0:W1.heap[w.heap.size]?=some (.cells (b48 (List.replicate 48 0)).toArray 118 (0,0)):=by
  rw [hW1];exact Ad (heap_alloc_new w _) (Keeps.alloc (S:=λ_=>False) _ _) (by simp)
 revert hb0
 exact cZ.1):P:=h ⟨c⟩
theorem j44(h:Bx T->P:=by
 intro cZ;obtain⟨W0,hW0⟩:=eY ((w.alloc (.cells #[.int .i64 ki,.int .i64 da,.int .i64 tr,.int .i64 am,.int .i64 re] 33)).alloc (.cells #[.int .i64 0,.int .i64 0,.int .i64 0,.int .i64 0,.int .i64 0] 186))
 revert W0 hW0
 exact cZ.1):P:=h ⟨c⟩
theorem j25(h:Bx T->P:=by
 intro cZ;have hpo:=((Hst3.o).done (D:=a.D) (V:= #[.int .i64 0,.int .i64 0,.int .i64 0,.int .i64 0,.int .i64 0]) Hb.o)
 revert hpo
 exact cZ.1):P:=h ⟨c⟩
theorem j0B(h:Bx T->P:=by
 intro cZ;have hev:=Ac.Ur hee;have hE0:=(Hstz.o).e;have hR0:=(Hstz.o).r
 revert hev hE0 hR0
 exact cZ.1):P:=h ⟨c⟩
theorem j0a(h:Bx T->P:=by
 intro cZ;refine hK.out _ _ (by exact hs3.keep hk4) ?_
 exact cZ.1):P:=h ⟨c⟩
end Go.Proofs.YtjkdnaljkdnomaaGreatDoor
