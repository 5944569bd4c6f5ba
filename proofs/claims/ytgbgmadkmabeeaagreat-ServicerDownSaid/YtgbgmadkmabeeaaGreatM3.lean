/- Blocks of tactics that come again in the proofs of this claim, each written once: the default of an argument. -/
import Derived.Deep.DeepCutAuto
import Derived.Lib.SliceRun
import Derived.Shelf.Abstract
import Derived.Deep.RegionHeld3
import Derived.Laws.BitsAllLaws
import Derived.ProofKit
import Derived.OpenShut
import Derived.ShutString
import Derived.ChangeOld
import Derived.Below
import Derived.Deep.Slices
import Derived.Laws.Cover3
import Derived.Lib.Strings
import Derived.RangeFuncNested
import Derived.RangeFuncBound
import Derived.RangeFuncCalls
import Derived.RangeFuncLeaves
import Derived.RangeFuncBox
import Derived.Shelf.RegionOpen
import Derived.WalkKit
import Derived.OwnWalkIn
import Derived.TacticsInMore
import Derived.LoopNIn
import Derived.LoopIn
import Derived.OrdersIn
import Derived.Laws.BytesString
import Derived.BigQuiet
import Derived.Shelf.Bits.Mul64
import Derived.Shelf.Spec.BitsCarry
import Derived.Test.YtgbgmadkmabeeaaGreatRows
import Derived.WalkSpells
import Derived.WalkLawsBesides
import Derived.Lib.Hide
import Derived.Deep.QuietTactic
import Derived.StillTailTactics
import Derived.Lib.Overlaps
import Derived.Lib.AppendZeros
import Derived.Laws.Externs
import Derived.Deep.RegionLaw
import Derived.Maps.RangeWalk
import Derived.Deep.WholeRow
namespace Go.Proofs.YtgbgmadkmabeeaaGreat
open Go.RowKit
open Go.RowKit Go.IntWalk
set_option maxRecDepth 100000
structure Bx(T:Prop):Prop where
  o:T
theorem _root_.Go.RowKit.Hid.o{p:Prop}(h:Go.RowKit.Hid p):p:=h
theorem eX{α:Sort _}(a:α):∃x,a=x:=⟨a,rfl⟩
theorem eY{α:Sort _}(a:α):∃x,x=a:=⟨a,rfl⟩
variable{P:Prop}
theorem jf(h:P:=by(repeat (first|exact Keeps.refl _ _|exact Keeps.alloc _ _|exact Keeps.drew _|exact Keeps.drewN _ _|refine Keeps.Am ?_|refine Keeps.Al ?_|refine Keeps.Af ?_))):P:=h
theorem j6(h:P:=by omega):P:=h
theorem j7(h:P:=by decide):P:=h
theorem j9(h:P:=by kernel_rfl):P:=h
theorem j0R(h:P:=by exact Keeps.nt (Keeps.refl (λ_=>False) w7) (Keeps.alloc (S:=λ_=>False) (w7) (.cells #[.int .i64 0,.int .i64 0,.int .i64 0,.int .i64 0,.slice none 0 0,.int .i64 0,.int .i64 0,.int .i64 0,.bool false] 60))):P:=h
theorem j45(h:P:=by exact Keeps.alloc (S:=λ_=>False) (w7) (.cells #[.int .i64 0,.int .i64 0,.int .i64 0,.int .i64 0,.slice none 0 0,.int .i64 0,.int .i64 0,.int .i64 0,.bool false] 60)):P:=h
theorem j8(h:P:=by omega):P:=h
theorem jd(h:P:=by unfold maxLen;omega):P:=h
theorem j0S(h:P:=by exact Keeps.nt (Keeps.refl (λ_=>False) w7) (Keeps.alloc (S:=λ_=>False) (w7) (.cells #[.slice none 0 0,.int .i64 0,.int .i64 0] 52))):P:=h
theorem j47(h:P:=by exact Keeps.alloc (S:=λ_=>False) (w7) (.cells #[.slice none 0 0,.int .i64 0,.int .i64 0] 52)):P:=h
theorem j48(h:P:=by exact Keeps.alloc (S:=λ_=>False) ((w7).alloc (.cells #[.slice none 0 0,.int .i64 0,.int .i64 0] 52)) (.cells #[.int .i64 0,.int .i64 0,.int .i64 0,.int .i64 0,.slice none 0 0,.int .i64 0,.int .i64 0,.int .i64 0,.bool false] 60)):P:=h
theorem j46(h:P:=by exact Keeps.alloc (S:=λ_=>False) ((w7).alloc (.cells #[.int .i64 0,.int .i64 0,.int .i64 0,.int .i64 0,.slice none 0 0,.int .i64 0,.int .i64 0,.int .i64 0,.bool false] 60)) (.cells #[.slice none 0 0,.int .i64 0,.int .i64 0] 52)):P:=h
theorem jM(h:P:=by exact Keeps.refl (λ_=>False) w7):P:=h
theorem j1O(h:P:=by exact Keeps.nt (Keeps.nt (Keeps.refl (λ_=>False) w7) (Keeps.alloc (S:=λ_=>False) (w7) (.cells #[.int .i64 0,.int .i64 0,.int .i64 0,.int .i64 0,.slice none 0 0,.int .i64 0,.int .i64 0,.int .i64 0,.bool false] 60))) (Keeps.alloc (S:=λ_=>False) ((w7).alloc (.cells #[.int .i64 0,.int .i64 0,.int .i64 0,.int .i64 0,.slice none 0 0,.int .i64 0,.int .i64 0,.int .i64 0,.bool false] 60)) (.cells #[.slice none 0 0,.int .i64 0,.int .i64 0] 52))):P:=h
theorem j1Q(h:P:=by exact Keeps.nt (Keeps.nt (Keeps.refl (λ_=>False) w7) (Keeps.alloc (S:=λ_=>False) (w7) (.cells #[.slice none 0 0,.int .i64 0,.int .i64 0] 52))) (Keeps.alloc (S:=λ_=>False) ((w7).alloc (.cells #[.slice none 0 0,.int .i64 0,.int .i64 0] 52)) (.cells #[.int .i64 0,.int .i64 0,.int .i64 0,.int .i64 0,.slice none 0 0,.int .i64 0,.int .i64 0,.int .i64 0,.bool false] 60))):P:=h
theorem jg(h:P:=by simp [Value.oneCell']):P:=h
theorem j1L(h:P:=by exact Keeps.alloc (S:=λ_=>False) (w5) (.cells #[.int .i64 0,.int .i64 0,.int .i64 0,.int .i64 0,.slice none 0 0,.int .i64 0,.int .i64 0,.int .i64 0,.bool false] 60)):P:=h
theorem jv(h:P:=by simp [results,Tryz.results134,go_sem,R0',R1',R2',R3',R4']):P:=h
theorem jp(h:P:=by have e':i=w.heap.size+1:=e;omega):P:=h
theorem j1N(h:P:=by exact Keeps.nt (Keeps.nt (Keeps.refl (λ_=>False) w7) (Keeps.alloc (S:=λ_=>False) (w7) (.cells #[.int .i64 0,.int .i64 0,.int .i64 0,.int .i64 0,.slice none 0 0,.int .i64 0,.int .i64 0,.int .i64 0,.bool false] 60))) hk5):P:=h
theorem j1M(h:P:=by exact Keeps.alloc (S:=λ_=>False) (w5) (.cells #[.slice none 0 0,.int .i64 0,.int .i64 0] 52)):P:=h
theorem j1P(h:P:=by exact Keeps.nt (Keeps.nt (Keeps.refl (λ_=>False) w7) (Keeps.alloc (S:=λ_=>False) (w7) (.cells #[.slice none 0 0,.int .i64 0,.int .i64 0] 52))) hk5):P:=h
theorem j4e(h:P:=by exact heap_alloc_new w (.cells #[.int .i64 0,.int .i64 0,.int .i64 0,.int .i64 0,.int .i64 0,.slice none 0 0,.int .i64 0,.int .i64 0,.slice none 0 0,.slice none 0 0,.int .i64 0,.int .i64 0,.int .i64 0,.int .i64 0,.int .i64 0,.slice none 0 0,.int .i64 0,.int .i64 0,.int .i64 0,.bool false] 62)):P:=h
theorem j1K(h:P:=by exact Keeps.nt (Keeps.refl (λ_=>False) w7) hk5):P:=h
theorem jn(h:P:=by first|rfl|simp):P:=h
theorem j43(h:P:=by exact Keeps.alloc (S:=λ_=>False) ((w5).alloc (.cells #[.slice none 0 0,.int .i64 0,.int .i64 0] 52)) (.cells #[.int .i64 0,.int .i64 0,.int .i64 0,.int .i64 0,.slice none 0 0,.int .i64 0,.int .i64 0,.int .i64 0,.bool false] 60)):P:=h
theorem j40(h:P:=by exact Keeps.alloc (S:=λ_=>False) ((w5).alloc (.cells #[.int .i64 0,.int .i64 0,.int .i64 0,.int .i64 0,.slice none 0 0,.int .i64 0,.int .i64 0,.int .i64 0,.bool false] 60)) (.cells #[.slice none 0 0,.int .i64 0,.int .i64 0] 52)):P:=h
theorem j3Z(h:P:=by exact Keeps.nt (Keeps.nt (Keeps.refl (λ_=>False) w7) hk5) (Keeps.alloc (S:=λ_=>False) (w5) (.cells #[.int .i64 0,.int .i64 0,.int .i64 0,.int .i64 0,.slice none 0 0,.int .i64 0,.int .i64 0,.int .i64 0,.bool false] 60))):P:=h
theorem jD(h:P:=by have:=Hk1.o.size;omega):P:=h
theorem ji(h:P:=by simp;omega):P:=h
theorem j0n(h:P:=by exact Bw hrs (.slice none 0 0) (.int .i64 0) (.int .i64 0)):P:=h
theorem j0U(h:P:=by simp [results,Tryz.results135,go_sem,R0',R1',R2',R3',R4']):P:=h
theorem jY(h:P:=by have e':i=w.heap.size:=e;omega):P:=h
theorem j0O(h:P:=by simp [results,Tryz.results218,go_sem,R0',R1',R2']):P:=h
theorem j0o(h:P:=by have e':i=w.heap.size+1+1:=e;omega):P:=h
theorem j2X(h:P:=by exact Ad (Aq (heap_alloc_new w (.cells #[.slice ad n cap,.int .i64 cr,.int .i64 du] 52)) (.cells #[.slice none 0 0,.int .i64 0,.int .i64 0] 52)) hk1 (by simp)):P:=h
theorem jy(h:P:=by simpa using hl):P:=h
theorem j42(h:P:=by exact Keeps.nt (Keeps.nt (Keeps.refl (λ_=>False) w7) hk5) (Keeps.alloc (S:=λ_=>False) (w5) (.cells #[.slice none 0 0,.int .i64 0,.int .i64 0] 52))):P:=h
theorem j1E(h:P:=by exact λW=>Hcall.o ⟨x0,x1,x2,x3,x4⟩ ⟨y0,y1,y2,y3,y4⟩ W okx oky):P:=h
theorem j0H(h:P:=by simp [results,Tryz.results298,go_sem]):P:=h
theorem j0T(h:P:=by simp [results,Tryz.results173,go_sem]):P:=h
theorem j0K(h:P:=by simp [results,Tryz.results166,go_sem]):P:=h
theorem jP(h:P:=by rw [Hn.o];exact hlt):P:=h
theorem jW(h:P:=by rw [HN.o];exact hlt):P:=h
theorem j3R(h:P:=by exact(hs8.keep (S:=λ_=>False) (Keeps.alloc _ _) (by simp) (by simp) (by simp)).keep hk9 hsb hsg hsv):P:=h
theorem j1t(h:P:=by simp [results,Tryz.results256,go_sem,R0',R1',R2']):P:=h
theorem j1u(h:P:=by simp [results,Tryz.results252,go_sem,R0',R1',R2']):P:=h
theorem j1s(h:P:=by simp [results,Tryz.results251,go_sem,R0',R1',R2']):P:=h
theorem j1k(h:P:=by simp [results,Tryz.results250,go_sem,R0',R1',R2']):P:=h
theorem jX(h:P:=by rw [Hpl.o,HN.o]):P:=h
theorem j3r(h:P:=by simp [results,Tryz.results221,go_sem,Sa0',Sa1',Sa2',Sa3',Sa4',Sa5',Sa6',Sa7',Sa8',Sb0',Sb1',Sb2']):P:=h
theorem j56(h:P:=by exact Keeps.alloc (S:=λ_=>False) w1 (.cells #[(.pointer (some ⟨P,0,none⟩)),.pointer none,.pointer none] 112)):P:=h
theorem j2w(h:P:=by exact λW (hW:K0 w W)=>Tp J P v p fl vl u W ⟨Ad hj.blk hW (by simp)⟩ (hp.keeps hW (by simp))):P:=h
theorem j57(h:P:=by exact Keeps.nt (Keeps.alloc wr (.cells #[.int .i64 ki,.int .i64 da,.int .i64 tr,.int .i64 am,.int .i64 re] 96)) hk2):P:=h
theorem j1w(h:P:=by exact Keeps.alloc wq (.cells #[.int .i64 ra,.bool gr] 120)):P:=h
theorem jQ(h:P:=by rw [Hn.o];omega):P:=h
theorem j4N(h:P:=by exact λW (hW:Reads W 2 (.slice ad t.trs.length cap) t.trs.length (t.trs.flatMap Tn.cells))=>Yo t _ W hW hre):P:=h
theorem j4n(h:P:=by exact ((Hst1.o).done (D:=a.D) (V:= #[.int .i64 0,.int .i64 0,.int .i64 0,.int .i64 0,.int .i64 0]) Hb.o)):P:=h
theorem j4s(h:P:=by rw [show Z.1.p.bal.length=n from g.nb];exact hK.row g.bal λb hb=>nw b (g.wb b hb)):P:=h
theorem j4M(h:P:=by exact λW (hW:K0 w W)=>Tp q.J q.P q.v p fl q.vl u W (h.keep0 hW).jrn (h.keep0 hW).pad):P:=h
theorem j4b(h:P:=by exact Keeps.alloc wr (.cells #[.int .i64 ki,.int .i64 da,.int .i64 tr,.int .i64 am,.int .i64 re] 96)):P:=h
theorem j11(h:P:=by exact Pt Hk.o Hkw3.o hk5 Hnew.o hf5):P:=h
theorem j1x(h:P:=by have e':i=w.heap.size+1+1+1+1+1:=e;omega):P:=h
theorem j4t(h:P:=by rw [show Z.1.R.length=n from g.nr];exact hK.row g.rts λb hb=>nw b (g.wr b hb)):P:=h
theorem j0I(h:P:=by exact Lib.hid ((Keeps.alloc w _).nt hk1)):P:=h
theorem j58(h:P:=by exact ((hat.row.set (k:=k) (by omega) ((i:Int)+1)).set (k:=k+1) (by omega) y).keep (Keeps.drew _)):P:=h
theorem j1o(h:P:=by simp [results,Tryz.results257,go_sem]):P:=h
theorem j1D(h:P:=by simp [results,Tryz.results131,go_sem]):P:=h
theorem j0h(h:P:=by rw [<-e];exact hg):P:=h
theorem j59(h:P:=by exact λW (hW:K0 w W)=>Nj t ad cap W (hr.keeps hW (λ_ _ h=>h)) (by omega)):P:=h
theorem j3v(h:P:=by exact Qi _ _ bl bd bi day v L false ((k+1:Nat):Int) fr F _ hfa (.inl rfl) (.inr (.inl rfl)) hbig):P:=h
theorem j1q(h:P:=by rw [hRn];exact hR.keeps hW (by simp)):P:=h
theorem j4K(h:P:=by exact Keeps.setCell (S:=λi=>i=F) w4 ⟨F,9,none⟩ (.pointer (some ⟨bl,0,none⟩)) rfl):P:=h
theorem j0t(h:P:=by rw [hvi'];exact e):P:=h
theorem j1v(h:P:=by rw [hn];exact hr.keeps hW (by simp)):P:=h
theorem j4V(h:P:=by exact Qc 0 zr zc t0 t1 t3 t4 t7 b0 b1 b2 b3 b5 b6 b7 g1 g2 g3 g4 o1 f1 o2 f2 o3 f3 o4 f4 gq):P:=h
theorem j0q(h:P:=by exact Ad Hr0.o hk1 (by simp)):P:=h
theorem j0P(h:P:=by exact Keeps.refl (λ_=>False) w5):P:=h
theorem j37(h:P:=by simp only [show((2 ^ 54:Nat):Int)=18014398509481984 from rfl];omega):P:=h
theorem j12(h:P:=by rw [hw1];exact heap_alloc_new w _):P:=h
theorem j0Y(h:P:=by rw [<-hlen];exact hr):P:=h
theorem j1I(h:P:=by exact hs1.keep (Keeps.alloc _ _)):P:=h
theorem j4z(h:P:=by exact fun(W:World) (hW:K0 w W)=>Qh a.D x.vb x.bb W ((h.keep0 hW).bk)):P:=h
theorem j1f(h:P:=by rw [Hn.o];exact Nat.le_refl _):P:=h
theorem j1J(h:P:=by rw [Hm.o];exact Nat.le_refl _):P:=h
theorem j1l(h:P:=by rw [HN.o];exact Nat.le_refl _):P:=h
theorem j36(h:P:=by simp only [show((2 ^ 34:Nat):Int)=17179869184 from rfl];omega):P:=h
theorem j13(h:P:=by rw [hw1];exact Keeps.alloc _ _):P:=h
theorem jK(h:P:=by simp [q10]):P:=h
theorem j0V(h:P:=by exact HSk.o _ hkn):P:=h
theorem j54(h:P:=by
 clear hb8e hb9e hwE hln hbn2 hk5 hol hob k5E hs5;have ya0:=Aa hb8 0;have yb0:=Ab hb8 0;have ya1:=Aa hb8 1;have yb1:=Ab hb8 1;have ya2:=Aa hb8 2;have yb2:=Ab hb8 2;have ya3:=Aa hb8 3;have yb3:=Ab hb8 3;have ya4:=Aa hb8 4;have yb4:=Ab hb8 4;have ya5:=Aa hb8 5;have yb5:=Ab hb8 5;have ya6:=Aa hb8 6;have yb6:=Ab hb8 6;have ya7:=Aa hb8 7;have yb7:=Ab hb8 7;have ya8:=Aa hb8 8;have yb8:=Ab hb8 8;have yc0:=Aa hb9 0;have yd0:=Ab hb9 0;have yc1:=Aa hb9 1;have yd1:=Ab hb9 1;have yc2:=Aa hb9 2;have yd2:=Ab hb9 2;have yl8:=lt_of_block hb8;have yl9:=lt_of_block hb9;have hne2:¬b9=b8:=λe=>hne e.symm;have hl8:∀b,(Value.slice al x.lines.length cl2).ownBlock=some b->¬b=b8:=λb hb e=>by subst e;exact Ai hlnE hb8 j7 hb
 have hl9:∀b,(Value.slice al x.lines.length cl2).ownBlock=some b->¬b=b9:=λb hb e=>by subst e;exact Ai hlnE hb9 j7 hb
 have hq8:∀b,(Value.slice ab2 q.bal.length cb2).ownBlock=some b->¬b=b8:=λb hb e=>by subst e;exact Ai hbnE hb8 j7 hb
 have hq9:∀b,(Value.slice ab2 q.bal.length cb2).ownBlock=some b->¬b=b9:=λb hb e=>by subst e;exact Ai hbnE hb9 j7 hb
 obtain⟨hb8',k8⟩:=Ki hb8 (.int .i64 x.cycle) (.int .i64 x.fr) (.int .i64 x.te) (.int .i64 x.due) (.slice al x.lines.length cl2) (.int .i64 x.total) (.int .i64 x.credit) (.int .i64 x.min) (.bool x.grace);obtain⟨hb9',k9⟩:=Bw (Ad hb9 k8 hne2) (.slice ab2 q.bal.length cb2) (.int .i64 q.cr) (.int .i64 q.du);have hb8F:=Ad hb8' k9 (λe=>hne e);have kE8:=k7E.trans (k8.mono λi _ e=> .inr (by have e':i=b8:=e;omega));have kEF:=kE8.trans (k9.mono λi _ e=> .inr (by have e':i=b9:=e;omega));have hlnF:=k9.row (k8.row hlnE hl8) hl9;have hbnF:=k9.row (k8.row hbnE hq8) hq9;have hsA:=hs7.keep kE8;have hsB:=hs7.keep kEF;obtain⟨Hb8,Hb9,Hb8',K8,K9,KE8,Hl8,Hl9,Hq8⟩:=hid9 hb8 hb9 hb8' k8 k9 kE8 hl8 hl9 hq8;clear hq8 hl9 hl8 kE8 k9 k8 hb8' hb9 hb8;obtain⟨Hq9,HlnE,HbnE,HsA⟩:=hid4 hq9 hlnE hbnE hsA;clear hsA hbnE hlnE hq9;refine ja ?_;intro K hK;refine hK.out _ _ (by exact HsA.o) ?_;clear hK K;refine jh ?_;have HsB:=Lib.hid hsB;clear hsB;refine ja ?_;intro K hK;refine hK.out _ _ (by exact HsB.o) ?_;clear hK K;refine jm ?_;clear ya0 yb0 ya1 yb1 ya2 yb2 ya3 yb3 ya4 yb4 ya5 yb5 ya6 yb6 ya7 yb7 ya8 yb8 yc0 yd0 yc1 yd1 yc2 yd2 yl8 yl9 hs7;obtain⟨wF,hwF⟩:=eY ((((((((((((wE.setCell ⟨b8,0,none⟩ (.int .i64 x.cycle)).setCell ⟨b8,1,none⟩ (.int .i64 x.fr)).setCell ⟨b8,2,none⟩ (.int .i64 x.te)).setCell ⟨b8,3,none⟩ (.int .i64 x.due)).setCell ⟨b8,4,none⟩ (.slice al x.lines.length cl2)).setCell ⟨b8,5,none⟩ (.int .i64 x.total)).setCell ⟨b8,6,none⟩ (.int .i64 x.credit)).setCell ⟨b8,7,none⟩ (.int .i64 x.min)).setCell ⟨b8,8,none⟩ (.bool x.grace)).setCell ⟨b9,0,none⟩ (.slice ab2 q.bal.length cb2)).setCell ⟨b9,1,none⟩ (.int .i64 q.cr)).setCell ⟨b9,2,none⟩ (.int .i64 q.du));rw [<-hwF] at hb8F hb9' kEF hlnF hbnF⊢;clear hwF;have Hn8:=Lib.hid hn8;clear hn8;have hr7:=Hr4.o.keep0 Hk7.o;have hrF:=hr7.keep0 kEF;have b19:=Aa hrF.blk 19;have hnil:∀w:World,(binOp .neq 219 .nilFunc .nilFunc).run Tryz.prog w= .ok (.bool false) w:=λ_=>by kernel_rfl
 rcases D with _|⟨x',q'⟩
 ·have hC':=HC.o;simp only at hC';subst hC';have hcv:=Hcv.o;simp only [Es,Prod.mk.injEq] at hcv;obtain⟨rfl,rfl,rfl⟩:=hcv;obtain⟨Hb8F,Hb9',KEF,HlnF,HbnF,Hr7,HrF,Hnil,HolE⟩:=hid9 hb8F hb9' kEF hlnF hbnF hr7 hrF hnil holE;clear holE hnil hrF hr7 hbnF hlnF kEF hb9' hb8F;have HobE:=Lib.hid hobE;clear hobE;go_wp2;go_ret;exact⟨rfl,HrF.o⟩
 ·have hC':=HC.o;simp only at hC';have hcv:=Hcv.o;simp only [Es,Prod.mk.injEq] at hcv;obtain⟨rfl,rfl,rfl⟩:=hcv;obtain⟨hql,_⟩:=Gb Hz.o Hpr.o (by rw [HVl.o];exact H.o.nb.symm) (List.all_eq_true.2 λy hy=>(Bo y).2 (HVb.o y hy)) HD.o;have hqn:x'.lines.length=x'.lines.length:=rfl;rw [H.o.nb] at hql;rw [hql] at hbnF hb9' hobE⊢;have u10:=(heap_setCell_same _ _ 10 _ _ (.slice ab2 n cb2) hrF.blk).trans rfl;have u11:=(heap_setCell_same _ _ 11 _ _ (.int .i64 q'.cr) u10).trans rfl;have u12:=(heap_setCell_same _ _ 12 _ _ (.int .i64 q'.du) u11).trans rfl;have kB:Keeps (λi=>i=B) wF (((wF.setCell ⟨B,10,none⟩ (.slice ab2 n cb2)).setCell ⟨B,11,none⟩ (.int .i64 q'.cr)).setCell ⟨B,12,none⟩ (.int .i64 q'.du)):=((Keeps.setCell (S:=λi=>i=B) _ _ _ rfl).trans (Keeps.setCell _ _ _ (.inl rfl))).trans (Keeps.setCell _ _ _ (.inl rfl));have hupd:=hr7.upd kEF kB u12 hbnF hrF.rts hql Hr4.o.nr (.inr hobE) (.inl rfl)
  have hB8:¬b8=B:=λe=>by
   have h1:=hb8F;rw [e,hrF.blk] at h1;exact j0p
  have hb8G:=Ad hb8F kB hB8;have hlnG:=kB.row hlnF (λi hi e=>by have e':i=B:=e;subst e';exact Ai hlnF hrF.blk j7 hi);have p0:=Aa hb9' 0;have p1:=Aa hb9' 1;have p2:=Aa hb9' 2;have pl:=lt_of_block hb9';have b10:=Aa hrF.blk 10;have b11:=Aa hrF.blk 11;have b12:=Aa hrF.blk 12;have f10:=Ab hrF.blk 10;have f11:=Ab hrF.blk 11;have f12:=Ab hrF.blk 12;have bl2:=lt_of_block hrF.blk;obtain⟨W12,hW12⟩:=eY (((wF.setCell ⟨B,10,none⟩ (.slice ab2 n cb2)).setCell ⟨B,11,none⟩ (.int .i64 q'.cr)).setCell ⟨B,12,none⟩ (.int .i64 q'.du));rw [<-hW12] at hupd hb8G hlnG;have hS13:=r13S.keep (r13S.of hupd.blk rfl hb8G) (Keeps.drew (S:=λ_=>False) _) (by simp) (by simp);have holX:Own w0 X (.slice al x'.lines.length cl2):=hr7.ownN holE;obtain⟨Hb8F,Hb9',KEF,HlnF,HbnF,Hr7,HrF,HolE,HobE⟩:=hid9 hb8F hb9' kEF hlnF hbnF hr7 hrF holE hobE;clear hobE holE hrF hr7 hbnF hlnF kEF hb9' hb8F;obtain⟨Hql,Hqn,U10,U11,U12,KB,Hupd,HB8,Hb8G⟩:=hid9 hql hqn u10 u11 u12 kB hupd hB8 hb8G;clear hb8G hB8 hupd kB u12 u11 u10 hqn hql;obtain⟨HlnG,HS13,HolX,HC'⟩:=hid4 hlnG hS13 holX hC';clear hC' holX hS13 hlnG;go_wp2_with fail;rw [<-hW12];clear hW12 p0 p1 p2 pl b10 b11 b12 f10 f11 f12 bl2 b19 hnil;refine Cy (r13S B b8 (.slice av m cv) x'.cycle x'.fr x'.te x'.due (.slice al x'.lines.length cl2) x'.total x'.credit x'.min x'.grace) 10 (.take 0 (.take 1 (.take 2 (.take 3 (.take 4 (.take 5 (.move 6 (.move 7 (.move 8 (.move 9 (.move 10 .done))))))))))) j9 j9 ?_ ?_
  ·exact HS13.o
  intro w13 hs13 hk13;refine je ?_;intro K hK;refine hK.out _ _ (by exact hs13.keep (S:=λ_=>False) (Keeps.alloc _ _) (by simp) (by simp)) ?_;clear hK K;refine jh ?_;have hk13a:=hk13.nt (Keeps.alloc w13 (.cells (SV.cells ⟨x',al,cl2⟩).toArray 60));have hrow13:=(Hupd.o.keep0 hk13a).out;rw [Hmm.o] at hrow13;refine Ah rfl (λK hK=> ?_);refine Ca rfl (.tmp 107) (.tmp 109) 84 rfl 0 60 i0 _ 9 88 Tryz.underlying84 Hi.o Hi0.o Hi1.o Hi2.o rfl j7 (.slice av m cv) m _ rfl hrow13 _ 1 _ rfl (Reads.litAt _ _ _ 9 1 _ jn rfl) jg jd j6 (Nat.zero_le _) ?_;intro v14 w14 hown14 hk14 hf14;obtain⟨a14,c14,rfl,_,_⟩:=Ae hown14;have hadd:=Hupd.o.Rj (x:=⟨x',al,cl2⟩) hk13a hk14 (by rw [Hmm.o,List.flatMap_append];exact hown14) (HlnG.o.of_keeps hk13a) HolX.o hf14;have h14b:=Ad (Hupd.o.keep0 hk13a).blk hk14 (λe=>Ai hrow13 (Hupd.o.keep0 hk13a).blk j7 e);have hb8n:W.heap.size<=b8:=by have h1:=Hk4w.o.size;have h2:=Hk7.o.size;have h3:=Hn8.o;omega
  have h14s:¬(Value.slice av m cv).ownBlock=some b8:=λe=>by have:=Ci H.o.out e;omega
  have o16:=Aa h14b 16;have of16:=Ab h14b 16;have ol16:=lt_of_block h14b;refine hK.out _ _ (by exact(hs13.keep (S:=λ_=>False) (Keeps.alloc _ _) (by simp) (by simp)).keep hk14 (λe=>Ai hrow13 (Hupd.o.keep0 hk13a).blk j7 e) h14s) ?_;clear hK K;refine jc ?_;obtain⟨Hk13a,Hrow13,Hown14,Hk14,Hadd,H14b,Hb8n,H14s,Hk13⟩:=hid9 hk13a hrow13 hown14 hk14 hadd h14b hb8n h14s hk13;clear hk13 h14s hb8n h14b hadd hk14 hown14 hrow13 hk13a;clear hs13 hf14
  repeat (refine Ee (v:= ?_) rfl (by rfl) ?_ ?_;rotate_left;(· intro w' hSw;unfold r13S at hSw;go_simp;(try with_reducible rfl));rotate_right;try simp only [aps])
  refine jT ?_;clear o16 of16 ol16;have hfr:=El Hadd.o j6;have Hfr:=Lib.hid hfr;clear hfr;go_wp2_with fail;refine Hfr.o.mono ?_;rintro e w16 ⟨rfl,a16,b16',hr16⟩;have hCC:=HC'.o;subst hCC;have Hr16:=Lib.hid hr16;clear hr16;go_wp2;go_ret
  exact⟨rfl,_,_,_,_,_,Hr16.o⟩):P:=h
theorem j26(h:P:=by
 have hrl:=Hrot.o.left Hsym.o H1.o H2.o;have hrr:=Hrot.o.right Hsym.o H1.o H2.o;have hcr:=Hrot.o.cross Hsym.o H1.o H2.o;obtain⟨Hrl,Hrr,Hcr⟩:=hid3 hrl hrr hcr;clear hcr hrr hrl;by_cases hA:a<j/\j<mid
 ·have hA1:(a:Int)<(j:Int):=j8;have hA2:(j:Int)<(mid:Int):=j8;have hcA:=Ih.o a j mid n cap g X w2 j6 Hrow2.o j6 j6 j6 (λx hx=>Hok.o x (Hrot.o.t.alike.mem hx)) hn Hrl.o.1 Hrl.o.2;have HcA:=Lib.hid hcA;clear hcA
  go_wp2_with (first|(go_at_call 270;(with_reducible refine HcA.o.mono ?_);rintro e w3 ⟨rfl,Y,htY,huY,hrow3,hk3⟩;have HtY:=Lib.hid htY;have HuY:=Lib.hid huY;have Hrow3:=Lib.hid hrow3;have Hk3:=Lib.hid (Hk2.o.same hk3);clear htY huY hrow3 hk3;refine halt ?_))
  refine Lib.hid ?_;exact j25
 ·have huY:Upto X a mid:=by
   by_cases hA3:a<j
   ·exact Hrl.o.1.sub (Nat.le_refl _) j6
   ·exact Hrl.o.2.sub j6 (Nat.le_refl _)
  obtain⟨Y,hY⟩:=eY X;obtain⟨w3,hw3⟩:=eY w2;have htY:Turned X Y a mid:=by rw [hY];exact Turned.refl _ _ _
  have hrow3:RowE w3 g n cap Y:=by rw [hY,hw3];exact Hrow2.o
  have hk3:Keeps (λi=>i=g) w w3:=by rw [hw3];exact Hk2.o
  rw [<-hY] at huY;rw [<-hw3];obtain⟨HuY,HtY,Hrow3,Hk3,HY,Hw3⟩:=hid6 huY htY hrow3 hk3 hY hw3;clear hw3 hY hk3 hrow3 htY huY;by_cases hA3:(a:Int)<(j:Int)
  ·have hA4:¬(j:Int)<(mid:Int):=j8;exact j25
  ·skip
   exact j25):P:=h
theorem j19(h:P:=by
 have hk2:Keeps (λi=>i=w.heap.size+1) W1 W2:=by
  rw [hW2]
  repeat (first|exact Keeps.setCell _ _ _ rfl|(refine Keeps.trans ?_ (Keeps.setCell _ _ _ (.inl rfl))))
 clear hW2;have hkw2:K0 w W2:=Hk1.o.trans (hk2.mono λi _ e=> .inr j6);obtain⟨HL2,HL2e,Hk2,Hkw2⟩:=hid4 hL2 hL2e hk2 hkw2;clear hkw2 hk2 hL2e hL2
 go_wp2_with (first|(refine wpList_load_row rfl 75 (.tmp 10) rfl (w.heap.size+1) rfl 75 (b48 LP).toArray _ _ HP3.o.blk Tryz.underlying75 rfl Ay ?_)|(go_at_call 151;(with_reducible refine(Hjs.o _).mono ?_);rintro e w5 ⟨⟨s0,s1,s2,s3,rfl,hs4⟩,hk5⟩;have Hs4:=Lib.hid hs4;have Hk5:=Lib.hid hk5;clear hs4 hk5)|(refine Ct rfl (.tmp 52) (.tmp 53) 24 24 rfl 5 1 Tryz.underlying24 Dn (w.heap.size+1) 6 42 42 ⟨gs,os,none⟩ _ cap rfl rfl (b48 L2) 75 HL2.o.blk (B.flatMap u8c) _ Hmin.o HBl.o (Hsrc.o W2 Hkw2.o) (by rw [HBl.o,Cs];omega) HBo.o ?_;intro w3 hb3 hk3;obtain⟨hP3,z47,c47,f47,l47⟩:=page3 Hm.o HL2.o HL2e.o hb3 j6 Hfl.o HmI.o;rw [HLP.o] at hP3;have HP3:=Lib.hid hP3;have Hk3:=Lib.hid hk3;clear hP3 hk3 hb3))
 refine Co λW6 hW6=> ?_;have hk35:K0 (w3.setCell ⟨w.heap.size+1,47,none⟩ (.int .u8 90)) W6:=by rw [hW6];exact Keeps.nt Hk5.o (Keeps.alloc _ _)
 have hP6:At48 W6 (w.heap.size+1) LP:=⟨Ad HP3.o.blk hk35 (by simp),HP3.o.len⟩;have hS6:W6.heap[w5.heap.size]?=some (.cells #[.int .u8 s0,.int .u8 s1,.int .u8 s2,.int .u8 s3] 223 (0,0)):=by rw [hW6];exact heap_alloc_new w5 _
 have hkw6:K0 w W6:=Keeps.nt (Hkw2.o.trans ((Hk3.o.trans (Keeps.setCell _ _ _ (.inl rfl))).mono λi _ e=> .inr j6)) hk35
 have hB6:W6.heap[w.heap.size]?=some (.cells (b48 (List.replicate 48 0)).toArray 75 (0,0)):=by
  rw [hk35.block _ (by simp;have:=lt_of_block Hb0.o;have:=Hk2.o.size;have:=Hk3.o.size;omega) (by simp),Below.heap_setCell _ _ _ _ (by simp),Hk3.o.block _ (by have:=lt_of_block Hb0.o;have:=Hk2.o.size;omega) j6,Hk2.o.block _ (lt_of_block Hb0.o) j6];exact Hb0.o
 clear hW6;obtain⟨Hk35,HP6,HS6,Hkw6,HB6⟩:=hid5 hk35 hP6 hS6 hkw6 hB6;clear hB6 hkw6 hS6 hP6 hk35;refine Ch (λW=>W=W6.drew) 2 (.take 0 (.take 1 (.move 2 .done))) j9 j9 ?_ ?_
 ·rfl
 intro w6 hs6 hk6;subst w6;have hd6:K0 W6 W6.drew:=Keeps.drew _;obtain⟨Hk6,Hd6⟩:=hid2 hk6 hd6;clear hd6 hk6;refine jR ?_;refine Cq rfl (λK hK=> ?_);refine Dj rfl (.tmp 59) (.tmp 60) 24 24 rfl 5 1 Tryz.underlying24 Dn (w.heap.size+1) 0 48 48 ⟨w5.heap.size,0,none⟩ 4 4 rfl rfl (b48 LP) 75 (Ad HP6.o.blk Hd6.o (by simp)) [.int .u8 s0,.int .u8 s1,.int .u8 s2,.int .u8 s3] 4 rfl rfl (λj v hj=>by rw [Dx,Nat.zero_add,Aa (Ad HS6.o Hd6.o (by simp))];simpa using hj) (by rw [Cs];simp) jg ?_;intro w7 hb7 hk7;refine hK.out _ _ ?_;clear hK K
 have hP7:w7.heap[w.heap.size+1]?=some (.cells (b48 R).toArray 75 (0,0)):=by
  have h:=Jd HP6.o.len (B:= [s0,s1,s2,s3]) (o:=0) (by simp);rw [show([s0,s1,s2,s3]:List Int).flatMap u8c= [.int .u8 s0,.int .u8 s1,.int .u8 s2,.int .u8 s3] from rfl] at h;rw [hb7,h,<-Hs4.o,<-HR.o,<-HLP.o,Jt]
 have hB7:w7.heap[w.heap.size]?=some (.cells (b48 (List.replicate 48 0)).toArray 75 (0,0)):=by
  rw [hk7.block _ (by have:=lt_of_block HB6.o;simpa using this) j6];exact Ad HB6.o Hd6.o (by simp)
 have hkw7:K0 w w7:=(Keeps.nt Hkw6.o Hd6.o).trans (hk7.mono λi _ e=> .inr j6);clear hb7 hk7;obtain⟨HP7,HB7,Hkw7⟩:=hid3 hP7 hB7 hkw7;clear hkw7 hB7 hP7;refine Ao ?_
 go_wp2_with (first|(refine wpList_store_row rfl 75 (.tmp 8) (.tmp 62) rfl w.heap.size (b48 R).toArray rfl rfl 75 (b48 (List.replicate 48 0)).toArray HB7.o Ay rfl (Dh _) ?_)|(refine wpList_load_row rfl 75 (.tmp 10) rfl (w.heap.size+1) rfl 75 (b48 R).toArray _ _ HP7.o Tryz.underlying75 rfl Ay ?_))
 exact bodyPost_ret (Cj rfl _ _ w.heap.size 75 (b48 R).toArray _ _ _ rfl rfl (setRow_heap _ _ _ _ _ _ HB7.o) Tryz.underlying75 rfl Ay) rfl ⟨rfl,Hkw7.o.trans ((Keeps.setRow _ _ _).mono λi _ e=> .inr (Nat.le_of_eq e.symm))⟩):P:=h
theorem j1F(h:P:=by
 rw [hq] at hcall;simp only at hA hcall;have p0:=Aa Hpb4.o 0;have p1:=Aa Hpb4.o 1;have p2:=Aa Hpb4.o 2;have pl4:=lt_of_block Hpb4.o;have e0:=Aa Hab4.o.e 0;have e2:=Aa Hab4.o.e 2;have e3:=Aa Hab4.o.e 3;have el4:=lt_of_block Hab4.o.e;obtain⟨Hq,Hcall⟩:=hid2 hq hcall;clear hcall hq;go_wp2_with fail;refine(Hcall.o _ (Keeps.refl _ _)).mono ?_;rintro e w5 ⟨v5,rfl,hrow5,hf5⟩;obtain⟨a5,m5,rfl⟩:∃a c,v5= .slice a q.bal.length c:=by obtain⟨a,c,h,_⟩:=Ae hrow5;exact⟨a,c,h⟩
 clear e0 e2 e3 el4 p0 p1 p2 pl4;have hab5:=Hab4.o.keep0 hf5.1;have hpb5:=Ad Hpb4.o hf5.1 (by simp);have hrr5:=Hrr4.o.of_keeps hf5.1;obtain⟨hpb6,k6⟩:=Bw hpb5 (.slice a5 q.bal.length m5) (.int .i64 q.cr) (.int .i64 q.du);have hab6:=hab5.keep k6;have hg5:∀i,(Value.slice a5 q.bal.length m5).ownBlock=some i->w.heap.size+1+1<i:=λi e=>by have:=hf5.2 i e;have:=lt_of_block Hab4.o.r;omega
 have hrow6:=k6.row hrow5 (λi hi e=>by have e':i=w.heap.size:=e;have:=hg5 i hi;omega);have hrr6:=k6.row hrr5 (λi hi e=>by have e':i=w.heap.size:=e;have:=Hg2.o i hi;omega);have p0:=Aa hpb5 0;have p1:=Aa hpb5 1;have p2:=Aa hpb5 2;have q0:=Ab hpb5 0;have q1:=Ab hpb5 1;have q2:=Ab hpb5 2;have pl:=lt_of_block hpb5;have r0:=Aa hab5.r 0;have r1:=Aa hab5.r 1;have r2:=Aa hab5.r 2;have rf0:=Ab hab5.r 0;have rf1:=Ab hab5.r 1;have rf2:=Ab hab5.r 2;have rl:=lt_of_block hab5.r;by_cases hz0:z=0
 ·subst hz0;rw [if_pos rfl] at hA;subst hA;have hS3:=Bw hab6.r (.slice a5 q.bal.length m5) (.int .i64 q.cr) (.int .i64 q.du);obtain⟨hb9,k9⟩:=hS3;have hkf:=hab6.kp.trans (k9.mono λi _ e=> .inr j0o);have hrow9:=k9.row hrow6 (λi hi e=>by have e':i=w.heap.size+1+1:=e;have:=hg5 i hi;omega);have hrr9:=k9.row hrr6 (λi hi e=>by have e':i=w.heap.size+1+1:=e;have:=Hg2.o i hi;omega);refine ju ?_;intro sr0 sr1 sr2;obtain⟨Hrow5,Hf5,Hab5,Hpb5,Hrr5,Hpb6,K6,Hab6,Hg5⟩:=hid9 hrow5 hf5 hab5 hpb5 hrr5 hpb6 k6 hab6 hg5;clear hg5 hab6 k6 hpb6 hrr5 hpb5 hab5 hf5 hrow5;obtain⟨Hrow6,Hrr6,Hb9,K9,Hkf,Hrow9,Hrr9,Sr0,Sr1⟩:=hid9 hrow6 hrr6 hb9 k9 hkf hrow9 hrr9 sr0 sr1;clear sr1 sr0 hrr9 hrow9 hkf k9 hb9 hrr6 hrow6;have Sr2:=Lib.hid sr2;clear sr2;go_wp2;refine jj ?_;intro R0' R1' R2';clear r0 r1 r2 p0 p1 p2;exact bodyPost_ret (v:= .tuple #[.agg #[.slice a5 q.bal.length m5,.int .i64 q.cr,.int .i64 q.du],.slice (some ⟨gr,0,none⟩) m cr2,.int .i64 0]) j0O rfl ⟨_,_,rfl,Hrow9.o,by rw [HRm.o];exact Hrr9.o,Hkf.o,λi hi=>by have:=Hg5.o i hi;omega,λi hi=>by have:=Hg2.o i hi;omega⟩
 ·rw [if_neg hz0] at hA;subst hA;have hz1:(z !=0)=true:=by simp [hz0]
  have hS3:=Bw hab6.r (.slice none 0 0) (.int .i64 0) (.int .i64 0);obtain⟨hb9,k9⟩:=hS3;have hkf:=hab6.kp.trans (k9.mono λi _ e=> .inr j0o);refine ju ?_;intro sr0 sr1 sr2;obtain⟨Hrow5,Hf5,Hab5,Hpb5,Hrr5,Hpb6,K6,Hab6,Hg5⟩:=hid9 hrow5 hf5 hab5 hpb5 hrr5 hpb6 k6 hab6 hg5;clear hg5 hab6 k6 hpb6 hrr5 hpb5 hab5 hf5 hrow5;obtain⟨Hrow6,Hrr6,Hb9,K9,Hkf,Sr0,Sr1,Sr2,Hz0⟩:=hid9 hrow6 hrr6 hb9 k9 hkf sr0 sr1 sr2 hz0;clear hz0 sr2 sr1 sr0 hkf k9 hb9 hrr6 hrow6;go_wp2;refine jj ?_;intro R0' R1' R2';clear r0 r1 r2 p0 p1 p2
  exact bodyPost_ret (v:= .tuple #[.agg #[.slice none 0 0,.int .i64 0,.int .i64 0],.slice none 0 0,.int .i64 z]) j0O rfl ⟨_,_,rfl,World.ownsRow_nil _ _ _ _,World.ownsRow_nil _ _ _ _,Hkf.o,by simp [Value.ownBlock],by simp [Value.ownBlock]⟩):P:=h
theorem j1c(h:P:=by
 refine j2J ?_;have hkT:K0 w6 (w8.alloc (.cells #[.slice a8 m c8] 24)):=Hk68.o.nt (Keeps.alloc _ _);have hJT:=Ad HJ6.o hkT (by simp);have hrT:=hkT.row Hrl6.o (λ_ _ h=>h);have hsT:=Hs8.o.keep (Keeps.alloc (S:=λ_=>False) w8 (.cells #[.slice a8 m c8] 24)) (by simp) (by simp);clear c2' l8;obtain⟨HkT,HJT,HrT,HsT⟩:=hid4 hkT hJT hrT hsT;clear hsT hrT hJT hkT;refine Ah rfl (λK hK=> ?_);refine Ca rfl (.tmp 84) (.tmp 87) 107 rfl 0 24 i0 _ 1 24 Tryz.underlying107 Hi.o Hi0.o Hi1.o Hi2.o rfl j7 vl nr RL rfl HrT.o _ 1 _ rfl (Reads.lit _ _ _ _ _ rfl) jg jd j6 j6 ?_;intro v9 w9 hown9 hk9 hf9;obtain⟨a9,c9,rfl,_,_⟩:=Ae hown9;dsimp only;have hs9:=HsT.o.keep hk9 nv1 nv2;refine hK.out _ _ (by exact hs9) ?_;clear hK K;refine jc ?_;have hJ9:=Ad HJT.o hk9 hnvJ;have j2:=Aa hJ9 2;have j3:=Aa hJ9 3;have f2:=Ab hJ9 2;have f3:=Ab hJ9 3;have lJ9:=lt_of_block hJ9;have Hs9:=Lib.hid hs9;clear hs9;obtain⟨HJ9,Hk9,Hown9,Hf9⟩:=hid4 hJ9 hk9 hown9 hf9;clear hf9 hown9 hk9 hJ9;refine je ?_;intro K hK;refine hK.out _ _ (by exact Hs9.o.keep (Keeps.setCell (S:=λi=>i=J) _ _ _ rfl) nj1 nj2) ?_;clear hK K;refine jh ?_;refine ja ?_;intro K hK;refine hK.out _ _ (by exact(Hs9.o.keep (Keeps.setCell (S:=λi=>i=J) _ _ _ rfl) nj1 nj2).keep (Keeps.setCell (S:=λi=>i=J) _ _ _ rfl) nj1 nj2) ?_;clear hK K;refine js ?_;refine Gz λW10 hW10=> ?_
 have hk610:Keeps (λi=>i=J\/vl.ownBlock=some i) w6 W10:=by
  rw [hW10];exact(HkT.o.mono (by simp)).trans ((Hk9.o.mono λi _ e=> .inl (.inr e)).trans (((Keeps.setCell (S:=λi=>i=J) _ _ _ rfl).mono λi _ e=> .inl (.inl (.inl e))).trans ((Keeps.setCell (S:=λi=>i=J) _ _ _ rfl).mono λi _ e=> .inl (.inl (.inl (.inl e))))))
 have hJ10:W10.heap[J]?=some (.cells #[(.pointer (some ⟨P,0,none⟩)),.int .i64 fl,.slice a9 (nr+1) c9,.int .i64 nI] 168 (0,0)):=by
  rw [hW10];exact(heap_setCell_same _ _ 3 _ _ _ (heap_setCell_same _ _ 2 _ _ (.slice a9 (nr+1) c9) HJ9.o)).trans rfl
 obtain⟨R9,hR9⟩:∃R9,w9.ownsRow 0 24 1 (.slice a9 (nr+1) c9) (nr+1) R9:=⟨_,Hown9.o⟩
 have hrow10:W10.ownsRow 0 24 1 (.slice a9 (nr+1) c9) (nr+1) R9:=by
  rw [hW10];exact(Keeps.setCell (S:=λi=>i=J) _ _ _ rfl).row ((Keeps.setCell (S:=λi=>i=J) _ _ _ rfl).row hR9 (λk hk e=>Ai hR9 HJ9.o j7 (e▸hk))) (λk hk e=>Ai hR9 HJ9.o j7 (e▸hk))
 have hv10:∀g,(Value.slice a9 (nr+1) c9).ownBlock=some g->vl.ownBlock=some g\/w6.heap.size<=g:=λg hg=>by
  rcases Hf9.o with e|⟨g',e,h⟩
  ·exact .inl (e.symm.trans hg)
  ·rw [e] at hg;have e':g'=g:=Option.some.inj hg;have:=HkT.o.size;exact .inr j6
 have hR10:=Ad HR6.o hk610 (λe=>e.elim (λe=>by have:=hJw;omega) λe=>by have:=hvlt _ e;omega);rw [<-HnI.o] at hJ10;obtain⟨r1,r2,r3,r4,r5,r6,r7⟩:=Aaa hfw hJw hvlt hnJ0 hvP HkB.o Hk6.o Hp6.o hk610 hJ10 hrow10 hv10 HR6.o (Nat.le_succ _) (by have:=Hkw1.o.size;omega) HK6.o;have c10:=Aa hR10 0;have g10:=Ab hR10 0;have l10:=lt_of_block hR10;clear hW10 j2 j3 f2 f3 lJ9;obtain⟨R1,R2,R3,R4,R5,R6,R7,Hk610,HJ10⟩:=hid9 r1 r2 r3 r4 r5 r6 r7 hk610 hJ10;clear hJ10 hk610 r7 r6 r5 r4 r3 r2 r1;obtain⟨Hrow10,Hv10,HR10⟩:=hid3 hrow10 hv10 hR10;clear hR10 hv10 hrow10;go_wp2;refine⟨by simp,.inl ⟨_,_,rfl,run_takeDeferred R1.o, ?_⟩⟩
 exact⟨.int .i64 0,by simp [results,Tryz.results60,go_sem,R2.o],rfl,_,_,R3.o,R4.o,by rw [HL1.o];exact R5.o,R6.o,R7.o⟩):P:=h
theorem j52(h:P:=by
 go_enter Tryz.func249,Tryz.ntmps249
 go_wp2_with (first|(go_at_call 204;(with_reducible refine(Hri.o _ ((Keeps.alloc _ _).Af)).mono ?_);rintro e w1 ⟨rfl,hk1⟩;have hkw1:=(((Keeps.alloc (S:=λ_=>False) w _).Af).nt hk1);have hb1:=Hbx.o _ hk1;obtain⟨x0,x2,x3,p0,xl,pl⟩:=hb1;have Hk1:=Lib.hid hkw1;clear hk1 hkw1)|(go_at_call 267;(with_reducible refine(Hco.o _ Hk1.o).mono ?_);rintro e w2 ⟨rfl,rfl⟩))
 go_ret
 exact⟨rfl,Hk1.o⟩):P:=h
theorem j05(h:P:=by
 obtain⟨Hno,Hpo,Hee,HR0⟩:=hid4 hno hpo hee hR0;clear hR0 hee hpo hno;go_wp2_with fail;go_step3;go_wp2;refine j08 ?_;intro Hsr Sr0 Sr1 Sr2 Sr3 Sr4
 go_wp2_with (refine wpList_store_row rfl 96 (.tmp 6) (.tmp 138) rfl R #[.int .i64 0,.int .i64 0,.int .i64 0,.int .i64 0,.int .i64 0] rfl rfl 96 #[.int .i64 0,.int .i64 0,.int .i64 0,.int .i64 0,.int .i64 0] HR0.o Br rfl (Dt _ _ _ _ _) ?_)
 refine jq ?_;intro R0' R1' R2' R3' R4';rw [Exit.noGoto_ret]
 exact bodyPost_ret (v:= .tuple #[.agg #[.int .i64 0,.int .i64 0,.int .i64 0,.int .i64 0,.int .i64 0],.int .i64 8]) jv rfl ⟨by rw [Hno.o.1,Hee.o];rfl,by rw [Hno.o.2];exact Hpo.o⟩):P:=h
theorem j0B(h:P:=by
 obtain⟨Hs,Hra,Hrb,Hn,Hws,Hend,Hm,Hrow⟩:=hid8 hs hra hrb hn hws hend hm hrow;clear hrow hm hend hws hn hrb hra hs
 go_wp2_with (at_builtin;refine Ap rfl (.tmp 89) (.tmp 91) 85 rfl 0 90 i0 _ 9 72 Tryz.underlying85 Hi.o Hi0.o Hi1.o Hi2.o rfl j7 (.slice adv m cv) m _ rfl (Hrow.o.alloc _) _ 1 _ rfl (Reads.litAt _ _ _ 9 1 _ jn rfl) jg jd j6 (Nat.zero_le _) ?_)
 intro v' w' hown hk' hf
 have hz:Nf w seq a b (.returned v') w':=by
  have hn1:∀g,(Value.slice adv m cv).ownBlock=some g->w.heap.size<=g:=λg hg=>by have:=Hs.o.nw g hg;have:=Hs.o.w0;omega
  refine⟨v',rfl, ?_,(Hs.o.kp.Cb (Keeps.alloc _ _)).trans (hk'.mono λi _ e=> .inr (hn1 i e)),λg hg=> ?_⟩
  ·rw [Hend.o];simp only [List.length_append,List.length_singleton,List.flatMap_append,List.flatMap_cons,List.flatMap_nil,List.append_nil,Hm.o];exact hown
  ·rcases hf with e|⟨g',e,h'⟩
   ·exact hn1 g j0h
   ·rw [e] at hg;simp only [Option.some.injEq] at hg;have:=Hs.o.kp.size;try simp at h'
    omega
 have Hz:=Lib.hid hz;clear hz hown hk' hf;go_wp2_with fail;refine Bq ?_;go_ret
 exact Hz.o):P:=h
theorem j3m(h:P:=by
 go_enter Tryz.func256,Tryz.ntmps256;go_wp2_with fail;refine(Hri.o _ jf).mono ?_;rintro e w1 ⟨rfl,hk1⟩;refine j1r ?_;intro hkw hb1 hrs b0 b1 b2 bl;have hS3:=j0n;obtain⟨hb9,k9⟩:=hS3;refine jV ?_;intro r0 r1 r2 rf0 rf1 rf2 rl;refine ju ?_;intro sr0 sr1 sr2;obtain⟨Hrs,Hb9,K9,Sr0,Sr1,Sr2⟩:=hid6 hrs hb9 k9 sr0 sr1 sr2;clear sr2 sr1 sr0 k9 hb9 hrs;obtain⟨Hk1,Hkw,Hb1⟩:=hid3 hk1 hkw hb1;clear hb1 hkw hk1
 go_wp2_with (go_at_call 267;(with_reducible refine(Hco.o _ Hkw.o).mono ?_);rintro e w2 ⟨rfl,rfl⟩)
 refine jj ?_;intro R0' R1' R2';clear r0 r1 r2
 exact bodyPost_ret (v:= .tuple #[.agg #[.slice none 0 0,.int .i64 0,.int .i64 0],.int .i64 1]) j1t rfl ⟨_,rfl,⟨by simp [ps0],.inl ⟨rfl,rfl⟩⟩,Hkw.o.trans (K9.o.mono λi _ e=> .inr jp),λg hg=>by simp [Value.ownBlock] at hg⟩):P:=h
theorem j3S(h:P:=by
 have r0:=Aa hbx5 0;have r1:=Aa hbx5 1;have r2:=Aa hbx5 2;have rf0:=Ab hbx5 0;have rf1:=Ab hbx5 1;have rf2:=Ab hbx5 2;have rl:=lt_of_block hbx5;obtain⟨hbx6,k6⟩:=Bw hbx5 (.slice a5 q.bal.length c5) (.int .i64 q.cr) (.int .i64 q.du);have k2W:K0 w2 (((w6.setCell ⟨b4,0,none⟩ (.slice a5 q.bal.length c5)).setCell ⟨b4,1,none⟩ (.int .i64 q.cr)).setCell ⟨b4,2,none⟩ (.int .i64 q.du)):=k26.trans (k6.mono λi _ e=> .inr (by have e':i=b4:=e;omega));have hrb6:=k6.row hrb5 (λi hi e=>by have e':i=b4:=e;exact hneb i hi e');have hrr6:=k6.row hrr5 (λi hi e=>by have e':i=b4:=e;exact hner i hi e');have hkA6:=hk2.nt k2W;refine ja ?_;intro K hK;refine hK.out _ _ (by exact hs2.keep k2W) ?_;clear hK K;refine jm ?_;clear r0 r1 r2 rf0 rf1 rf2 rl;obtain⟨W6,hW6⟩:=eY (((w6.setCell ⟨b4,0,none⟩ (.slice a5 q.bal.length c5)).setCell ⟨b4,1,none⟩ (.int .i64 q.cr)).setCell ⟨b4,2,none⟩ (.int .i64 q.du));rw [<-hW6] at hkA6 hrb6 hrr6 hbx6⊢;clear hW6 k6 k2W hneb hner hrb5 hrr5 hbx5 k26 hs2 hk2;have hkq6:=Hk1x.o.nt hkA6;have hrv6:=Hrv.o.keep0 hkq6;by_cases hz0:z=0
 ·subst hz0;obtain⟨ok1,ok2,_,_⟩:=Hok.o rfl;simp only at ok1 ok2;have hev2:=Hev.o;rw [if_pos rfl] at hev2;have hq1:q.bal.length=n:=by rw [ok1];exact Hrv.o.nb
  have hq2:R'.length=n:=by rw [ok2];exact Hrv.o.nr
  rw [hq1] at hrb6 hbx6 hgb6⊢;rw [hq2] at hrr6 hgr6⊢;have hset:=Hrv.o.setP hkq6 hrb6 hrr6 hq1 hq2 hgb6 hgr6;have hset2:=hset.setI (i+1);have t0:=Aa hbx6 0;have t1:=Aa hbx6 1;have t2:=Aa hbx6 2;have tl:=lt_of_block hbx6;have b8:=Aa hrv6.blk 8;have b10:=Aa hrv6.blk 10;have b11:=Aa hrv6.blk 11;have b12:=Aa hrv6.blk 12;have b13:=Aa hrv6.blk 13;have b17:=Aa hrv6.blk 17;have q8:=Ab hrv6.blk 8;have q10:=Ab hrv6.blk 10;have q11:=Ab hrv6.blk 11;have q12:=Ab hrv6.blk 12;have q13:=Ab hrv6.blk 13;have bl:=lt_of_block hrv6.blk;have hil:(i:Int)+1<=1000000:=j8;have hnil2:=Hnil.o;obtain⟨W8,hW8⟩:=eY (((((W6.setCell ⟨B,10,none⟩ (.slice a5 n c5)).setCell ⟨B,11,none⟩ (.int .i64 q.cr)).setCell ⟨B,12,none⟩ (.int .i64 q.du)).setCell ⟨B,13,none⟩ (.slice a6 n c6)).setCell ⟨B,8,none⟩ (.int .i64 ((i+1:Nat):Int)));rw [<-hW8] at hset2;rw [show((i+1:Nat):Int)=(i:Int)+1 by omega] at hW8;have hci8:Dc W8 B 8=((i+1:Nat):Int):=Dg (Aa hset2.blk 8);obtain⟨HkA6,Hrb6,Hrr6,Hbx6,Hkq6,Hrv6,Hset,Hset2,Hev2⟩:=hid9 hkA6 hrb6 hrr6 hbx6 hkq6 hrv6 hset hset2 hev2;clear hev2 hset2 hset hrv6 hkq6 hbx6 hrr6 hrb6 hkA6;obtain⟨Hgb6,Hgr6,Hci8,Hnil2,Ok1,Ok2,Hq1,Hq2,Hb4n⟩:=hid9 hgb6 hgr6 hci8 hnil2 ok1 ok2 hq1 hq2 hb4n;clear hb4n hq2 hq1 ok2 ok1 hnil2 hci8 hgr6 hgb6;have hnil2:=Hnil.o;go_wp2;rw [<-hW8];clear hW8;go_roundw
  case rel=>exact⟨i+1,q,R',_,_,rfl,by omega,Hev2.o,Hset2.o⟩
  case measure=>rw [Hci.o,Hci8.o];omega
 ·have hev2:=Hev.o;rw [if_neg hz0] at hev2;have hz1:(z !=0)=true:=by simp [hz0]
  subst hev2;obtain⟨HkA6,Hrb6,Hrr6,Hbx6,Hkq6,Hrv6,Hgb6,Hgr6,Hz0⟩:=hid9 hkA6 hrb6 hrr6 hbx6 hkq6 hrv6 hgb6 hgr6 hz0;clear hz0 hgr6 hgb6 hrv6 hkq6 hbx6 hrr6 hrb6 hkA6;have Hb4n:=Lib.hid hb4n;clear hb4n;go_wp2;go_ret
  exact⟨rfl,_,_,Hrv6.o⟩):P:=h
theorem j1n(h:P:=by
 subst hzz;obtain⟨Hr,Hz,Htm,Hsh,Hq,B0,Hn⟩:=hid7 hr hz htm hsh hq b0 hn;clear hn b0 hq hsh htm hz hr;go_enter Tryz.func257,Tryz.ntmps257;go_wp2_with fail;refine Az 0 rfl ?_;go_wp2_with fail;refine(Htm.o _ (Keeps.alloc _ _)).mono ?_;rintro e w1 ⟨rfl,hk1⟩;have hb:=B0.o _ hk1;have c5:=Aa hb 5;have cl:=lt_of_block hb;have Hk1:=j0I;clear hk1 hb;go_wp2_with fail;refine(Hsh.o _).mono ?_;rintro e w2 ⟨rfl,hk2⟩;have Hk2:=Lib.hid (Hk1.o.nt hk2);clear hk2;go_wp2;refine Bq ?_
 exact bodyPost_ret (v:= .tuple #[.int .i64 total,.int .i64 0]) j1o rfl ⟨rfl,Hk2.o⟩):P:=h
theorem j25(h:P:=by
 by_cases hB:fin<b/\mid<fin
 ·have hB1:(mid:Int)<(fin:Int):=j8;have hB2:(fin:Int)<(b:Int):=j8
  have hcB:=Ih.o mid fin b n cap g Y w3 j6 Hrow3.o j6 j6 hbn (λx hx=>Hok.o x (Hrot.o.t.alike.mem (HtY.o.alike.mem hx))) hn
   ((Hrr.o.1.eq λt h1 h2=>HtY.o.out t (.inr h1))) ((Hrr.o.2.eq λt h1 h2=>HtY.o.out t (.inr j6)))
  have HcB:=Lib.hid hcB;clear hcB
  go_wp2_with (go_at_call 270;(with_reducible refine HcB.o.mono ?_);rintro e w4 ⟨rfl,Z,htZ,huZ,hrow4,hk4⟩;have HtZ:=Lib.hid htZ;have HuZ:=Lib.hid huZ;have Hrow4:=Lib.hid hrow4;have Hk4:=Lib.hid hk4;clear htZ huZ hrow4 hk4)
  go_end0;have hd:=Bg (X:=X) j6 j6 (by have:=Hrot.o.t.len;omega) Hcr.o HtY.o HuY.o HtZ.o HuZ.o;exact⟨rfl,Z,Hrot.o.t.trans hd.1,hd.2,Hrow4.o,Hk3.o.same Hk4.o⟩
 ·have huZ:Upto Y mid b:=by
   have e1:=Hrr.o;by_cases hB3:mid<fin
   ·exact(e1.1.sub (Nat.le_refl _) j6).eq λt h1 h2=>HtY.o.out t (.inr h1)
   ·exact(e1.2.sub j6 (Nat.le_refl _)).eq λt h1 h2=>HtY.o.out t (.inr h1)
  have HuZ:=Lib.hid huZ;clear huZ;by_cases hB3:(mid:Int)<(fin:Int)
  ·have hB4:¬(fin:Int)<(b:Int):=j8;exact j4X
  ·exact j4X):P:=h
theorem j3A(h:P:=by
 rw [Hp.o] at hmono;have hcl:=j1E;simp only at hcl;obtain⟨Hbs,Hrow,Hk,Hx,Hy,Okx,Oky,HS,Hxd⟩:=hid9 hbs hrow hk hx hy okx oky hS hxd;clear hxd hS oky okx hy hx hk hrow hbs;obtain⟨Hyd,Hmono,Hcl,Hq⟩:=hid4 hyd hmono hcl hq;clear hq hcl hmono hyd;go_wp2_with fail
 try rw [hh]
 clear hh;by_cases hlt2:x1<y1
 ·skip
  refine Ak (twoS g q h x0 x1 x2 x3 x4 y0 y1 y2 y3 y4) (.take 0 (.take 1 (.take 2 (.take 3 (.take 4 (.take 5 (.take 6 (.take 7 (.take 8 (.take 9 (.take 10 (.move 11 (.take 12 (.take 13 .done)))))))))))))) j9 j9 ?_ ?_
  ·exact HS.o
  intro w1 hs1 hk1;refine je ?_;intro K hK
  go_at_fn f
  ((with_reducible refine(Hcl.o w1).mono ?_);rintro e w2 ⟨z,rfl,hz,hk2⟩;dsimp only)
  have hz':z<0:=hz.2 hlt2;refine j01 ?_;clear hK K;refine j02 ?_;intro hrow2 hkw;have hb2:=Hbs.o.down Hmono.o hih hhj (by rw [Hq.o,Hxd.o,Hyd.o];omega);exact j4Y
 ·skip
  refine Ak (twoS g q h x0 x1 x2 x3 x4 y0 y1 y2 y3 y4) (.take 0 (.take 1 (.take 2 (.take 3 (.take 4 (.take 5 (.take 6 (.take 7 (.take 8 (.take 9 (.take 10 (.move 11 (.take 12 (.take 13 .done)))))))))))))) j9 j9 ?_ ?_
  ·exact HS.o
  intro w1 hs1 hk1;refine je ?_;intro K hK
  go_at_fn f
  ((with_reducible refine(Hcl.o w1).mono ?_);rintro e w2 ⟨z,rfl,hz,hk2⟩;dsimp only)
  have hz':¬z<0:=λh=>by have:=hz.1 h;omega
  refine j01 ?_;clear hK K;refine j02 ?_;intro hrow2 hkw;have hb2:=Hbs.o.up Hmono.o hih hhj (by rw [Hq.o,Hxd.o,Hyd.o];omega)
  exact j4Z):P:=h
theorem j4F(h:P:=by
 clear hd;have hc:=te_arg (a:=a) (d:=d) j6;refine j1X ?_;intro hb0 hk0;obtain⟨H,Hb0,Hk0,Hc⟩:=hid4 h hb0 hk0 hc;clear hc hk0 hb0 h;go_enter Tryz.func78,Tryz.ntmps78;go_wp2_with fail;refine(De 1 _).mono ?_;rintro e w1 ⟨rfl,hk1⟩;have hb1:=Ad Hb0.o hk1 (by simp);have hk01:=Hk0.o.nt hk1;clear hk1;obtain⟨Hb1,Hk01⟩:=hid2 hb1 hk01;clear hk01 hb1;obtain⟨hput1,hput2⟩:=putRow (V:= #[.int .i64 1,.int .i64 0,.int .i64 0,.int .i64 0,.int .i64 0,.slice none 0 0,.int .i64 0,.int .i64 0,.slice none 0 0,.slice none 0 0,.int .i64 0,.int .i64 0,.int .i64 0,.int .i64 0,.int .i64 0,.slice none 0 0,.int .i64 0,.int .i64 0,.int .i64 0,.bool false]) Hb1.o Hk01.o (Nat.le_refl _);obtain⟨Hput1,Hput2⟩:=hid2 hput1 hput2;clear hput2 hput1
 go_wp2_with (refine wpList_store_row rfl 62 (.tmp 4) (.tmp 18) rfl w.heap.size #[.int .i64 1,.int .i64 0,.int .i64 0,.int .i64 0,.int .i64 0,.slice none 0 0,.int .i64 0,.int .i64 0,.slice none 0 0,.slice none 0 0,.int .i64 0,.int .i64 0,.int .i64 0,.int .i64 0,.int .i64 0,.slice none 0 0,.int .i64 0,.int .i64 0,.int .i64 0,.bool false] rfl rfl 62 #[.int .i64 0,.int .i64 0,.int .i64 0,.int .i64 0,.int .i64 0,.slice none 0 0,.int .i64 0,.int .i64 0,.slice none 0 0,.slice none 0 0,.int .i64 0,.int .i64 0,.int .i64 0,.int .i64 0,.int .i64 0,.slice none 0 0,.int .i64 0,.int .i64 0,.int .i64 0,.bool false] Hb1.o Ar rfl (Cu 1 0 0) ?_)
 exact bodyPost_ret (results_cell_row rfl _ _ w.heap.size 62 #[.int .i64 1,.int .i64 0,.int .i64 0,.int .i64 0,.int .i64 0,.slice none 0 0,.int .i64 0,.int .i64 0,.slice none 0 0,.slice none 0 0,.int .i64 0,.int .i64 0,.int .i64 0,.int .i64 0,.int .i64 0,.slice none 0 0,.int .i64 0,.int .i64 0,.int .i64 0,.bool false] _ _ rfl Hput1.o Tryz.underlying62 rfl Ar) rfl ⟨by rw [Hc.o.1,Hc.o.2.1],by rw [Hc.o.2.2];exact Bv.same H.o Hput2.o⟩):P:=h
theorem j0k(h:P:=by
 have hf:Ps.Bj ⟨L,cr,du⟩=false:=by unfold Ps.Bj;simp only [hsc,hN,hs, *,decide_true,decide_false,Bool.and_true,Bool.true_and,Bool.false_and,Bool.and_false,Bool.or_true,Bool.true_or,Bool.or_false,Bool.or_self]
 obtain rfl:z=false:=Hz.o.symm.trans hf
 exact j50):P:=h
theorem j4f(h:P:=by
 clear h;refine j1X ?_;intro hb0 hk0;obtain⟨Hb0,Hk0⟩:=hid2 hb0 hk0;clear hk0 hb0;go_enter Tryz.func79,Tryz.ntmps79;go_wp2_with fail;refine(De 12 _).mono ?_;rintro e w1 ⟨rfl,hk1⟩;have hb1:=Ad Hb0.o hk1 (by simp);have hk01:=Hk0.o.nt hk1;clear hk1;obtain⟨Hb1,Hk01⟩:=hid2 hb1 hk01;clear hk01 hb1;obtain⟨hput1,hput2⟩:=putRow (V:= #[.int .i64 12,.int .i64 0,.int .i64 0,.int .i64 0,.int .i64 0,.slice none 0 0,.int .i64 0,.int .i64 0,.slice none 0 0,.slice none 0 0,.int .i64 0,.int .i64 0,.int .i64 0,.int .i64 0,.int .i64 0,.slice none 0 0,.int .i64 0,.int .i64 0,.int .i64 0,.bool false]) Hb1.o Hk01.o (Nat.le_refl _);obtain⟨Hput1,Hput2⟩:=hid2 hput1 hput2;clear hput2 hput1
 go_wp2_with (refine wpList_store_row rfl 62 (.tmp 4) (.tmp 13) rfl w.heap.size #[.int .i64 12,.int .i64 0,.int .i64 0,.int .i64 0,.int .i64 0,.slice none 0 0,.int .i64 0,.int .i64 0,.slice none 0 0,.slice none 0 0,.int .i64 0,.int .i64 0,.int .i64 0,.int .i64 0,.int .i64 0,.slice none 0 0,.int .i64 0,.int .i64 0,.int .i64 0,.bool false] rfl rfl 62 #[.int .i64 0,.int .i64 0,.int .i64 0,.int .i64 0,.int .i64 0,.slice none 0 0,.int .i64 0,.int .i64 0,.slice none 0 0,.slice none 0 0,.int .i64 0,.int .i64 0,.int .i64 0,.int .i64 0,.int .i64 0,.slice none 0 0,.int .i64 0,.int .i64 0,.int .i64 0,.bool false] Hb1.o Ar rfl (Cu 12 0 0) ?_)
 exact bodyPost_ret (results_cell_row rfl _ _ w.heap.size 62 #[.int .i64 12,.int .i64 0,.int .i64 0,.int .i64 0,.int .i64 0,.slice none 0 0,.int .i64 0,.int .i64 0,.slice none 0 0,.slice none 0 0,.int .i64 0,.int .i64 0,.int .i64 0,.int .i64 0,.int .i64 0,.slice none 0 0,.int .i64 0,.int .i64 0,.int .i64 0,.bool false] _ _ rfl Hput1.o Tryz.underlying62 rfl Ar) rfl ⟨rfl,Hput2.o⟩):P:=h
theorem jI(h:P:=by
 refine⟨by simpa using hown1,(Keeps.alloc w _).trans (hk1.mono λk _ hk=> ?_),λk hk=> ?_⟩
 ·simp only [Value.ownBlock,Option.some.injEq] at hk;omega
 ·rcases hfr with hf|⟨g,hg,hh⟩
  ·rw [hf] at hk;simp only [Value.ownBlock,Option.some.injEq] at hk;omega
  ·rw [hg] at hk;simp only [Option.some.injEq] at hk;omega):P:=h
theorem j2G(h:P:=by
 have lE:=lt_of_block hb8;have g0:=hs8.1.1.1;have Hs8:=Lib.hid hs8;have Hb8:=Lib.hid hb8;clear hs8 hb8
 gi_wp2_with fail
 obtain⟨hc1,hc2⟩:W8.cell? ⟨J,0,none⟩=some (.pointer (some ⟨P,0,none⟩))/\True:=⟨(Hs8.o.kept.cell l3 (by simp)).trans f4,trivial⟩;refine Dr (ja13 (PFoot P v) W8 nb w.heap.size J (.int .i64 q) (.pointer (some ⟨J,0,none⟩)) (.pointer (some ⟨P,0,none⟩)) E G) (.take 0 (.take 1 (.take 2 (.take 3 (.take 4 (.take 5 (.move 6 (.take 7 .done)))))))) j9 j9 ?_ ?_
 ·exact j51
 intro w9 hs9 hk9;have Hs9:=Lib.hid hs9;have Hk9:=Lib.hid hk9;clear hs9 hk9;refine jR ?_;refine Ea rfl (by rfl) E rfl 75 (b48 G).toArray _ _ (λw h=>h.1.2.2.2) Tryz.underlying75 rfl Ay ?_;refine je ?_;intro K hK
 go_at_call 112
 ((with_reducible refine(Hink.o _ (Hs8.o.kept.nt Hk9.o)).mono ?_);rintro e w10 ⟨rfl,hpp,hk10⟩)
 have hs10:=Hs9.o.keep hk10 np0 np1 np2 (λe=>by have:=hfoot _ e;omega);refine hK.out _ _ (by exact hs10) ?_;clear hK K;refine jh ?_;refine Ao (NoOut.normal ?_);obtain⟨⟨⟨j0,j1⟩,⟨j2,j3⟩,⟨j4,j5⟩,_⟩,hk810⟩:=hs10;have hb10:=Ad (Ad Hbq.o (Hs8.o.kept.nt Hk9.o) (by simp)) hk10 np0;have g10:=Ab hb10 0;have hkW10:Keeps (PFoot P v) W w10:=((Hs8.o.kept.nt Hk9.o).mono (by simp)).trans (hk10.mono λi _ e=> .inl e);obtain⟨Hpp,Hk10,Hk810,Hb10,HkW10⟩:=hid5 hpp hk10 hk810 hb10 hkW10;clear hkW10 hb10 hk810 hk10 hpp
 gi_wp2_with fail
 have hz:wrap64 (q+1)=((u+(pre++ [(⟨x,hx⟩:Ck m)]).length:Nat):Int):=by
  have hq':=Hq.o;rw [wrap64_in _ ⟨by omega,by omega⟩,List.length_append,hk];simp only [List.length_cons,List.length_nil];omega
 have hi:inkL u (chunks m) B 0 ((pre++ [(⟨x,hx⟩:Ck m)]).map Subtype.val) p.l=(inkL u (chunks m) B 0 (pre.map Subtype.val) p.l).set (u+k) ⟨1,G⟩:=by
  rw [List.map_append,List.map_cons,List.map_nil,Mx,List.length_map,hk,Nat.zero_add,HG.o]
 obtain⟨r1,r2,r3,r4,r5⟩:=Xr (z:=wrap64 (q+1)) hsz Hkk.o HkW10.o Hb10.o Hpp.o Hcl.o hfoot;refine⟨r1,r2, ?_, ?_,r5⟩
 ·rw [r3,hz]
 ·rw [hi];exact r4):P:=h
theorem j4J(h:P:=by
 have lE:=lt_of_block hb8;have g0:=hs8.1.1.1;have Hs8:=Lib.hid hs8;have Hb8:=Lib.hid hb8;clear hs8 hb8
 gi_wp2_with fail
 obtain⟨hc1,hc2⟩:W8.cell? ⟨J,0,none⟩=some (.pointer (some ⟨P,0,none⟩))/\True:=⟨(Hs8.o.kept.cell l3 (by simp)).trans f4,trivial⟩;refine Dr (ja13 (PFoot P v) W8 nb w.heap.size J (.int .i64 q) (.pointer (some ⟨J,0,none⟩)) (.pointer (some ⟨P,0,none⟩)) E G) (.take 0 (.take 1 (.take 2 (.take 3 (.take 4 (.take 5 (.move 6 (.take 7 .done)))))))) j9 j9 ?_ ?_
 ·exact j51
 intro w9 hs9 hk9;have Hs9:=Lib.hid hs9;have Hk9:=Lib.hid hk9;clear hs9 hk9;refine jR ?_;refine Ea rfl (by rfl) E rfl 75 (b48 G).toArray _ _ (λw h=>h.1.2.2.2) Tryz.underlying75 rfl Ay ?_;refine je ?_;intro K hK
 go_at_call 112
 ((with_reducible refine(Hink.o _ (Hs8.o.kept.nt Hk9.o)).mono ?_);rintro e w10 ⟨rfl,hpp,hk10⟩)
 have hs10:=Hs9.o.keep hk10 np0 np1 np2 (λe=>by have:=hfoot _ e;omega);refine hK.out _ _ (by exact hs10) ?_;clear hK K;refine jh ?_;refine Ao (NoOut.normal ?_);have hkW9:K0 W w9:=Hs8.o.kept.nt Hk9.o;have hR10:=Ad (Ad HRW.o hkW9 (by simp)) hk10 nfR;have hkW10:Keeps (PFoot P v) W w10:=(hkW9.mono (by simp)).trans (hk10.mono λi _ e=> .inl e);obtain⟨r1,r2⟩:=Aao Hkk.o hkW10 hR10 Hcl.o hpp nfR (B:=B) (u:=u) (by rw [HG.o]);have r0:=Aa hR10 0;have rf:=Ab hR10 0;have rl:=lt_of_block hR10;clear hs10 f0 f1 f2 f3 f4;obtain⟨Hpp,Hk10,HkW9,HR10,HkW10,R1,R2⟩:=hid7 hpp hk10 hkW9 hR10 hkW10 r1 r2;clear r2 r1 hkW10 hR10 hkW9 hk10 hpp
 gi_wp2_with fail
 exact⟨R1.o,R2.o,rfl⟩):P:=h
theorem j4i(h:P:=by
 skip
 have hne:(z !=0)=true:=by simp [hz0]
 have hend:=Hde1.o (by rw [Hz.o];exact hz0);rw [Hz.o] at hend;refine j4j ?_;intro hr2 hpo;clear hb1 hk1 hf1 hAt;obtain⟨Hc1,Hr1,Hr2,Hpo,Hend,Hz0⟩:=hid6 hc1 hr1 hr2 hpo hend hz0;clear hz0 hend hpo hr2 hr1 hc1;refine j4k ?_;intro Hsr Sr0 Sr1 Sr2 Sr3 Sr4
 go_wp2_with (refine wpList_store_row rfl 96 (.tmp 6) (.tmp 23) rfl (w.heap.size+1) #[.int .i64 0,.int .i64 0,.int .i64 0,.int .i64 0,.int .i64 0] rfl rfl 96 #[.int .i64 0,.int .i64 0,.int .i64 0,.int .i64 0,.int .i64 0] Hr2.o Br rfl (Dt _ _ _ _ _) ?_)
 refine jq ?_;intro R0' R1' R2' R3' R4'
 exact bodyPost_ret (v:= .tuple #[.agg #[.int .i64 0,.int .i64 0,.int .i64 0,.int .i64 0,.int .i64 0],.int .i64 z]) j0U rfl ⟨by rw [Hend.o.1,Hend.o.2];rfl,Hpo.o _⟩):P:=h
theorem jE(h:P:=by
 first|exact⟨congrArg Value.bool (decide_eq_false j6).symm,rfl⟩|exact⟨congrArg Value.bool ((show _=false by simp;omega).trans (decide_eq_false j6).symm),rfl⟩):P:=h
theorem j2v(h:P:=by
 have E1:=Lib.hid e1;clear e1;go_enter Tryz.func67,Tryz.ntmps67;go_wp2_with fail;refine Ak (λW=>(W.cell? ⟨J,0,none⟩=some (.pointer (some ⟨P,0,none⟩))/\W.cell? ⟨J,1,none⟩=some (.int .i64 fl)/\J<W.heap.size)/\K0 w W) (.take 0 (.take 1 (.take 2 (.take 3 (.take 4 (.take 5 (.take 6 (.take 7 (.take 8 (.take 9 (.take 10 (.take 11 (.take 12 (.take 13 (.take 14 (.take 15 (.take 16 (.take 17 .done)))))))))))))))))) j9 j9 ?_ ?_
 ·exact⟨⟨c0,c1,lt⟩,Keeps.drew _⟩
 intro w1 hs1 hk1;have Hk1:=Lib.hid hs1.2;clear hs1 hk1;refine jR ?_;refine Ey (v:= ?_) rfl (by rfl) ?_ ?_ ?_ ?_ ?_
 rotate_left 3
 ·exact j0f
 ·intro w' hSw;exact(Hd.o w' hSw.2)
 rotate_right 3
 try simp only [aps]
 refine jR ?_;refine Ey (v:= ?_) rfl (by rfl) ?_ ?_ ?_ ?_ ?_
 rotate_left 3
 ·exact j0f
 ·intro w' hSw;exact(Hf.o w' hSw.2)
 rotate_right 3
 try simp only [aps]
 refine jo ?_
 exact j0g):P:=h
theorem j2M(h:P:=by
 have hlin2:=Hlin.o;rw [hne] at hlin2;clear hne;obtain⟨adv,cv,rfl,_,_⟩:=Ae Hs5.o.row;obtain⟨m,hm⟩:=eX ((Da seq a.cycle a.lines b.lines k).length);have hrow5:=Hs5.o.row;have h55:=Hs5.o;rw [hm] at hlo hrow5 h55⊢;obtain⟨Hlin2,Hm,Hrow5,H55⟩:=hid4 hlin2 hm hrow5 h55;clear h55 hrow5 hm hlin2
 go_wp2_with (at_builtin;refine Ap rfl (.tmp 65) (.tmp 81) 85 rfl 0 90 i0 _ 9 72 Tryz.underlying85 Hi.o Hi0.o Hi1.o Hi2.o rfl j7 (.slice adv m cv) m _ rfl (Hrow5.o.alloc _) _ 1 _ rfl (Reads.litAt _ _ _ 9 1 _ jn rfl) jg jd j6 (Nat.zero_le _) ?_)
 intro v' w' hown hk' hf
 have happ:OneS w w' seq a b (.slice (some ⟨g,o,none⟩) n ca) (.slice (some ⟨g',o',none⟩) n cb) W0 v' (k+1):=
  (H55.o.keep (Keeps.alloc _ _)).app Hlin2.o (by rw [Hm.o]) (by first|rfl|simp [Adj.cells]) hown hk' (by simpa using hf)
 have Happ:=Lib.hid happ;clear happ hown hk' hf;go_wp2_with fail;go_step3;go_wp2
 exact Aw ⟨oneJ.mk W0 v' (k+1) rfl (by rw [Hn.o];exact Happ.o) jQ,by rw [Hn.o];simp [Tf];omega⟩):P:=h
theorem j18(h:P:=by
 gi_wp2
 gi_region
 all_goals
  gi_wp2
  refine hR.mono ?_;rintro e W3 (⟨rfl,hJ3,hk3⟩|⟨rfl,hJx3⟩)
  ·have c2':W3.cell? ⟨Bn,0,none⟩=some (.int .i64 41):=hk3.cell2.trans c2
   gi_wp2
   go_roundw
   case rel=>exact⟨k+1,by omega,by rw [show(k+1)*41=q+41 by omega];simp,by rw [List.range_succ];exact hJ3,hnx.trans ((Dm.drew _ _ _).trans hk3)⟩
   case measure=>simp [intOf];omega
  ·gi_wp2
   refine bodyPost_ret (results_none rfl _ _ _) rfl ?_
   exact⟨⟨_,rfl⟩,.inr ⟨_,⟨k+1,by omega,List.range_succ.symm⟩,hJx3⟩⟩):P:=h
theorem j00(h:P:=by
 have hr':=Hr.o;have hr2':=Hr2.o;simp only [*,decide_true,decide_false,Bool.and_true,Bool.and_false,Bool.true_and,Bool.false_and] at hr' hr2';subst hr' hr2';go_wp2;go_ret
 exact⟨rfl,Hpost.o.1,_,Hpost.o.2⟩):P:=h
theorem j3b(h:P:=by
 rcases Int.lt_trichotomy total mf with m2|m2|m2
 ·rw [show minI total mf=total by unfold minI;rw [if_pos j6]] at hzz;exact j1n
 ·exact j3a
 ·rw [show minI total mf=mf by unfold minI;rw [if_neg j6]] at hzz;subst hzz;obtain⟨Hr,Hz,Htm,Hsh,Hq,B0,Hn⟩:=hid7 hr hz htm hsh hq b0 hn;clear hn b0 hq hsh htm hz hr;go_enter Tryz.func257,Tryz.ntmps257;go_wp2_with fail;refine Az 0 rfl ?_;go_wp2_with fail;refine(Htm.o _ (Keeps.alloc _ _)).mono ?_;rintro e w1 ⟨rfl,hk1⟩;have hb:=B0.o _ hk1;have c5:=Aa hb 5;have cl:=lt_of_block hb;have Hk1:=j0I;clear hk1 hb;go_wp2_with fail;refine(Hsh.o _).mono ?_;rintro e w2 ⟨rfl,hk2⟩;have Hk2:=Lib.hid (Hk1.o.nt hk2);clear hk2;go_wp2;refine Bq ?_
  exact bodyPost_ret (v:= .tuple #[.int .i64 mf,.int .i64 0]) j1o rfl ⟨rfl,Hk2.o⟩):P:=h
theorem j3B(h:P:=by
 obtain⟨fin,hfin⟩:=eX (mid+m-j);rw [hfin] at hsym;have z1:=hsym.al;have z2:=hsym.sm;have z3:=hsym.mf;have z4:=hsym.fb;have z5:=hsym.smid;have z6:=hsym.midf;have z7:=hsym.sum;have hfI:(mid:Int)+m-j=fin:=j8;obtain⟨W1,hW1⟩:=eY wr;subst hW1;obtain⟨Hbs,Hrow,Hk,Hsym,Hfin⟩:=hid5 hbs hrow hk hsym hfin;clear hfin hsym hk hrow hbs;by_cases hR:j<m/\m<fin
 ·have hR1:(j:Int)<(m:Int):=j8;have hR2:(m:Int)<(fin:Int):=j8;obtain⟨X,hrot,hcR⟩:=Aaz (.func (.func f) #[] #[]) Hrow.o Hsym.o hR.1 hR.2 hn hbn;obtain⟨Hrot,HcR⟩:=hid2 hrot hcR;clear hcR hrot
  go_wp2_with (go_at_call 288;(with_reducible refine HcR.o.mono ?_);rintro e w2 ⟨rfl,hrow2,hk2⟩;have Hrow2:=Lib.hid hrow2;have Hk2:=Lib.hid (Hk.o.same hk2);clear hrow2 hk2;refine halt ?_)
  refine Lib.hid ?_;exact j26
 ·have hrot:=Aay Hsym.o j6;obtain⟨X,hX⟩:=eY L;obtain⟨w2,hw2⟩:=eY W1;have hrot':Rot L X a m b mid j fin:=by rw [hX];exact hrot
  have hrow2:RowE w2 g n cap X:=by rw [hX,hw2];exact Hrow.o
  have hk2:Keeps (λi=>i=g) w w2:=by rw [hw2];exact Hk.o
  have Hrot:=Lib.hid hrot';clear hrot hrot';rw [<-hw2];obtain⟨Hrow2,Hk2,HX,Hw2⟩:=hid4 hrow2 hk2 hX hw2;clear hw2 hX hk2 hrow2;by_cases hR3:(j:Int)<(m:Int)
  ·have hR4:¬(m:Int)<(fin:Int):=j8;exact j26
  ·skip
   exact j26):P:=h
theorem j0i(h:P:=by
 go_wp2_with fail;go_step3;go_wp2;refine Aw ?_;go_wp2;rw [Exit.noGoto_ret]
 exact j2U):P:=h
theorem jt(h:P:=by
 have Hm:=Lib.hid hm;clear hm;go_enter Tryz.func199,Tryz.ntmps199
 exact jk):P:=h
theorem j0C(h:P:=by
 have hf:Tm.err ⟨li,cy,du,mf,mp,st,L⟩=6:=by rw [hf1,hz];simp
 obtain⟨Hok,Hk,Hb,Hall,Hf,Hf1,Hz⟩:=hid7 hok hk hb hall hf hf1 hz;clear hz hf1 hf hall hb hk hok;go_wp2_with fail;go_step3;go_wp2;refine Aw ?_;go_wp2;rw [Exit.noGoto_ret];go_ret
 exact⟨by rw [Hf.o];rfl,Hk.o⟩):P:=h
theorem j1h(h:P:=by
 go_enter Tryz.func99,Tryz.ntmps99;go_wp2;refine Az 0 rfl ?_
 go_wp2_with (go_at_call 144;((with_reducible refine(Cg B1.o _).mono ?_);rintro e w1 ⟨rfl,rfl⟩))
 go_step3;go_wp2;refine Aw ?_;go_wp2;rw [Exit.noGoto_ret];go_ret
 exact⟨by rw [Hf.o];rfl,by(repeat (first|exact Keeps.refl _ _|exact Keeps.alloc _ _|exact Keeps.drew _|exact Keeps.drewN _ _|refine Keeps.Am ?_|refine Keeps.Al ?_|refine Keeps.Af ?_))⟩):P:=h
theorem jL(h:P:=by
 exact⟨congrArg Value.bool (decide_eq_true j6).symm,rfl⟩):P:=h
theorem jO(h:P:=by
 obtain rfl:z=false:=by rw [<-Hz.o];simp [mayA,Hbr.o,Hmn.o,HN.o, *]
 exact j52):P:=h
theorem j3J(h:P:=by
 subst h;have hla:=Hlate.o;rw [h5] at hla;obtain⟨Hall,Hk,Hkw,He,HoE,HoV,Hof2,H5,Hla⟩:=hid9 hall hk hkw he hoE hoV hof2 h5 hla;clear hla h5 hof2 hoV hoE he hkw hk hall;go_wp2_with fail;refine(Hof2.o _).mono ?_;rintro e w3 ⟨rfl,hk3⟩;have hkw3:=Hkw.o.nt hk3;have htd3:=Htb.o _ ((Hk1.o.nt Hk.o).nt hk3);clear b0 b1 b2 b3 b4 b5 b6 bbl d0 dl;obtain⟨tb,d0⟩:=htd3;obtain⟨b0,b1,b2,b3,b4,b5,b6⟩:=tb;have bbl:=Ag b0;have dl:=Ag d0;obtain⟨Hk3,Hkw3⟩:=hid2 hk3 hkw3;clear hkw3 hk3;go_wp2_with fail;refine(Hla.o _ d0 Hkw3.o).mono ?_;rintro e w4 ⟨rfl,hk4⟩;have Hk4:=Lib.hid (Hkw3.o.nt hk4);clear hk4;go_wp2;go_ret
 exact⟨rfl,Hk4.o⟩):P:=h
theorem jN(h:P:=by
 go_wp2;go_ret
 exact⟨by rw [Hf.o];rfl,rfl⟩):P:=h
theorem j2b(h:P:=by
 cases e with
 |normal=>exact⟨.normal,a₁,w₁,hq,Steps.trans harr (.one step_inScope)⟩
 |exit id=>exact⟨.exit id,a₁,w₁,hq,λk' hk=>harr k' (by simp [exitTo,hk])⟩
 |goto l'=>
  rcases hq with⟨rfl,hJ',hlt⟩|⟨rfl,hJ',hlt⟩
  ·obtain⟨e₂,a₂,w₂,hq₂,harr₂⟩:=(ih _ j6).1 a₁ w₁ rfl hJ';exact⟨e₂,a₂,w₂,hq₂,.of_steps (harr _ hg1) harr₂⟩
  ·obtain⟨e₂,a₂,w₂,hq₂,harr₂⟩:=(ih _ j6).2 a₁ w₁ rfl hJ';exact⟨e₂,a₂,w₂,hq₂,.of_steps (harr _ hg2) harr₂⟩
 |ret=>exact⟨_,a₁,w₁,hq,harr⟩
 |panic ch=>exact⟨_,a₁,w₁,hq,harr⟩
 |outgrown=>exact⟨_,a₁,w₁,hq,harr⟩):P:=h
theorem j0d(h:P:=by
 obtain rfl:j=L.length:=by omega
 rw [List.take_length] at hok;have Hok:=Lib.hid hok;clear hok;go_wp2_with fail;go_ret
 exact⟨_,rfl,by rw [Hok.o];rfl,rfl⟩):P:=h
theorem j1p(h:P:=by
 have hst:paidS f d (L.drop (k+1)) s=R:=by rw [<-HR2.o,Du Hx.o];simp only [paidS];rw [if_neg (by simp [payQ];omega)]
 have Hst:=Lib.hid hst;clear hst;go_wp2_with fail;go_step3;go_wp2
 exact Aw ⟨gpJ.mk (k+1) s rfl (Hk.o.trans (Keeps.alloc _ _)) j6 s0 s1 Hst.o,by simp [Gy];omega⟩):P:=h
theorem jH(h:P:=by
 go_wp2;go_ret
 exact⟨_,rfl,World.ownsRow_nil _ _ _ _,Keeps.refl _ _,by simp [Value.ownBlock]⟩):P:=h
theorem j4p(h:P:=by
 have Hin2:=Lib.hid hin;clear hin;refine Ak (rfdS B C da st td) (.take 0 (.take 1 (.take 2 (.take 3 (.take 4 (.take 5 (.take 6 (.take 7 (.take 8 (.take 9 (.take 10 (.take 11 (.take 12 (.take 13 (.take 14 (.take 15 (.take 16 .done))))))))))))))))) j9 j9 ?_ ?_
 ·exact j06
 intro w3 hs3 hk3;refine jo ?_;have hst3:=Hst2.o.keep hk3;clear hs3;have Hst3:=Lib.hid hst3;clear hst3;refine j07 ?_;intro nce nec c0 c1 c2 c3 cl e0 e1 e2 e3 e4 el f0 f1 f2 f4;have hno:=Ac.Jz (Hin2.o) j7;refine j1Y ?_;intro hpo;have hee:=Hin2.o;have hR0:=(Hst3.o).r;obtain⟨Hno,Hpo,Hee,HR0⟩:=hid4 hno hpo hee hR0;clear hR0 hee hpo hno;go_wp2_with fail;go_step3;go_wp2;refine j08 ?_;intro Hsr Sr0 Sr1 Sr2 Sr3 Sr4
 go_wp2_with (refine wpList_store_row rfl 96 (.tmp 6) (.tmp 138) rfl R #[.int .i64 0,.int .i64 0,.int .i64 0,.int .i64 0,.int .i64 0] rfl rfl 96 #[.int .i64 0,.int .i64 0,.int .i64 0,.int .i64 0,.int .i64 0] HR0.o Br rfl (Dt _ _ _ _ _) ?_)
 refine jq ?_;intro R0' R1' R2' R3' R4';rw [Exit.noGoto_ret]
 exact bodyPost_ret (v:= .tuple #[.agg #[.int .i64 0,.int .i64 0,.int .i64 0,.int .i64 0,.int .i64 0],.int .i64 10]) jv rfl ⟨by rw [Hno.o.1,Hee.o];rfl,by rw [Hno.o.2];exact Hpo.o⟩):P:=h
theorem j3n(h:P:=by
 have hfx:=hrow4.free k;have hnew:=hrow4.set hlt z;rw [Xh HPl.o hlt] at hnew;have hkn4:Keeps (λi=>i=g0) W2 (w4.setCell ⟨g0,k,none⟩ (.int .i64 z)):=hkg4.trans (Keeps.setCell _ _ _ (.inl rfl));obtain⟨old,hold⟩:=Au (L:=zeros n k P) (k:=k) (by rw [hrow4.2];exact hlt);have hcx:=hrow4.cell hold;have hlx:=hrow4.lt;clear hs3;obtain⟨Hk3,Hk4,Hkx4,Hkg4,Hrow4,H5,Hdr2,Hzv,HO3⟩:=hid9 hk3 hk4 hkx4 hkg4 hrow4 h5 hdr2 hzv hO3;clear hO3 hzv hdr2 h5 hrow4 hkg4 hkx4 hk4 hk3;obtain⟨Hnew,Hkn4,Hold⟩:=hid3 hnew hkn4 hold;clear hold hkn4 hnew;go_wp2;go_roundw
 case rel=>exact⟨k+1,P++ [z],by go_num,by omega,by rw [List.length_append,HPl.o];rfl,HO3.o,Hnew.o,Hkn4.o⟩
 case measure=>simp [intOf];omega):P:=h
theorem j20(h:P:=by
 have hSz:=HSk.o _ hk4z;obtain⟨Hrel,Hbz,Hkz,Hk4z,HSz,Hz8⟩:=hid6 hrel hbz hkz hk4z hSz hz8;clear hz8 hSz hk4z hkz hbz hrel;refine jw ?_;refine ja ?_;intro K hK;refine hK.out _ _ (by exact HSz.o) ?_;clear hK K;refine jc ?_;refine jw ?_
 exact j53):P:=h
theorem j22(h:P:=by
 have hSz:=HSk.o _ hk4z;obtain⟨Hrel,Hbz,Hkz,Hk4z,HSz,Hz8⟩:=hid6 hrel hbz hkz hk4z hSz hz8;clear hz8 hSz hk4z hkz hbz hrel;refine jx ?_;refine ja ?_;intro K hK;refine hK.out _ _ (by exact HSz.o) ?_;clear hK K;refine jc ?_;refine jx ?_
 exact j53):P:=h
theorem j2V(h:P:=by
 go_wp2_with (first|(go_at_call 241;(with_reducible refine(Ce m3 _).mono ?_);rintro e w1 ⟨rfl,rfl⟩)|(go_at_call 241;(with_reducible refine(Ce m4 _).mono ?_);rintro e w1 ⟨rfl,rfl⟩))
 go_ret
 exact⟨rfl,(Keeps.alloc w _).nt Hk.o⟩):P:=h
theorem j0Q(h:P:=by
 have hne:¬b8=b9:=by rw [hb8e,hb9e];omega
 have hn8:w7.heap.size<=b8:=by rw [hb8e];omega
 have hn9:w7.heap.size<=b9:=by rw [hb9e];omega
 rw [<-hb8e] at hb8⊢;rw [<-hb9e] at hb9⊢
 exact j54):P:=h
theorem jJ(h:P:=by
 have Hend:=Lib.hid hend;clear hend hown1 hk1 hfr;go_wp2;go_ret
 exact⟨_,rfl,Hend.o⟩):P:=h
theorem j2P(h:P:=by
 go_wp2_with (first|(go_at_call 144;((with_reducible refine(Cg Bf.o _).mono ?_);rintro e w1 ⟨rfl,rfl⟩))|(go_at_call 144;((with_reducible refine(Cg Bp.o _).mono ?_);rintro e w1 ⟨rfl,rfl⟩)))
 go_step3;go_wp2
 exact j1i):P:=h
theorem j1B(h:P:=by
 exact bodyPost_ret (v:= .tuple #[.int .i64 0,.int .i64 10]) j0K rfl ⟨rfl,Hk1.o.nt jf⟩):P:=h
theorem j4E(h:P:=by
 refine hK.out _ _ (by exact Hs3.o) ?_;clear hK K;refine js ?_;go_wp2_with fail
 exact bodyPost_ret (results_cell_row rfl _ _ (w.heap.size+1) 62 #[.int .i64 0,.int .i64 0,.int .i64 0,.int .i64 0,.int .i64 0,.slice none 0 0,.int .i64 0,.int .i64 0,.slice none 0 0,.slice none 0 0,.int .i64 0,.int .i64 cy,.int .i64 fr,.int .i64 te,.int .i64 du,.slice al m cl,.int .i64 tot,.int .i64 cre,.int .i64 mi,.bool gr] _ _ rfl Hput.o Tryz.underlying62 rfl Ar) rfl ⟨_,rfl,by rw [Hte.o.1,Hte.o.2];exact Hans2.o,Hq.o⟩):P:=h
theorem j1a(h:P:=by
 
 go_upto_region 9 with fail
 refine Co λW2 hW2=> ?_
 obtain⟨L2,hL2,hL2e⟩:∃L,At48 W2 (w.heap.size+1) L/\L= [0,0,0,0,fl,(mI:Int)]++List.replicate 42 0:=by
  rw [hW2];exact⟨_,(Hat1.o.set 4 _).set 5 _,by rw [<-Hfl.o,HmI.o];rfl⟩
 exact j19):P:=h
theorem j3V(h:P:=by
 go_enter Tryz.func207,Tryz.ntmps207
 go_wp2_with (at_builtin;refine Ap rfl (.tmp 23) (.tmp 24) 82 rfl 0 96 i0 _ 5 40 Tryz.underlying82 hi hz0 hz1 hz2 rfl j7 _ _ xs rfl (Hown.o.alloc _) _ 1 news.toList rfl (Reads.lit _ _ _ _ _ (by simpa using Hn.o)) H1n.o jd j6 j6 ?_)
 exact j3U):P:=h
theorem j4Z(h:P:=by
 clear hs1 hz;obtain⟨Hk1,Hk2,Hrow2,Hkw,Hb2⟩:=hid5 hk1 hk2 hrow2 hkw hb2;clear hb2 hkw hrow2 hk2 hk1;go_wp2_with fail;go_roundw
 case rel=>exact⟨h+1,j,by go_num,rfl,Hb2.o,Hrow2.o,Hkw.o⟩
 case measure=>simp [intOf];omega):P:=h
theorem j39(h:P:=by
 have hpos:0<q+1:=j8;obtain⟨Hdiv,HN,Hqq,Hrr⟩:=hid4 hdiv hN hqq hrr;clear hrr hqq hN hdiv;go_enter Tryz.func281,Tryz.ntmps281;go_wp2_with fail;refine Az 0 rfl ?_;go_wp2_with fail;refine(Hdiv.o _).mono ?_;rintro e w1 ⟨rfl,hk1⟩;have Hk1:=Lib.hid hk1;clear hk1;go_wp2_with fail;refine Bq ?_
 exact bodyPost_ret (v:= .tuple #[.int .u64 (q+1),.bool true]) (by simp [results,Tryz.results281,go_sem]) rfl ⟨rfl,Hk1.o⟩):P:=h
theorem jk(h:P:=by
 go_wp2;go_ret
 exact⟨rfl,rfl⟩):P:=h
theorem j1R(h:P:=by
 go_enter Tryz.func172,Tryz.ntmps172;go_wp2;refine Az 0 rfl ?_;go_wp2;go_step3;go_wp2;refine Aw ?_;go_wp2;rw [Exit.noGoto_ret];go_ret2
 exact⟨rfl,rfl⟩):P:=h
theorem j3s(h:P:=by
 rcases b6:(ki !=6) with _|_
 ·rcases b7:decide (0<=am) with _|_
  ·skip
   exact jO
  ·rcases b8:decide (am<=10000000) with _|_
   ·skip
    exact jO
   ·exact j55
 ·exact j55):P:=h
theorem j3o(h:P:=by
 have hdr2:=Hdr.o;rw [if_neg (by rw [h5];decide)] at hdr2;have hO3:O=none:=by rw [<-HO2.o,hdr2];rfl
 subst hO3;rw [h5];clear hs3;obtain⟨Hk3,Hk4,Hkx4,Hkg4,Hrow4,H5,H51,Hdr2⟩:=hid8 hk3 hk4 hkx4 hkg4 hrow4 h5 h51 hdr2;clear hdr2 h51 h5 hrow4 hkg4 hkx4 hk4 hk3;go_wp2
 exact bodyPost_ret (v:= .tuple #[.slice none 0 0,.int .i64 5]) (by simp [results,Tryz.results220,go_sem]) rfl ⟨rfl,Hkx4.o⟩):P:=h
theorem j15(h:P:=by
 refine Gn ?_;go_wp2;go_roundw
 case rel=>exact⟨i+1,by go_num,by omega,Hrow2.o,Hat.o.fr⟩
 case measure=>simp [intOf];omega):P:=h
theorem j3c(h:P:=by
 skip
 have hst:paidS f d (L.drop (k+1)) (1000000000000000)=R:=by rw [<-HR2.o,Du Hx.o];simp only [paidS];rw [if_pos (by simp [payQ];omega)];congr 1;unfold minI;split<;>omega
 have Hst:=Lib.hid hst;clear hst;go_wp2_with fail;go_step3;go_wp2
 exact Aw ⟨gpJ.mk (k+1) (1000000000000000) rfl (Hk.o.trans (Keeps.alloc _ _)) j6 j6 j6 Hst.o,by simp [Gy];omega⟩):P:=h
theorem j3E(h:P:=by
 skip
 have hA:=HA.o;clear HA;simp [Ga,Fz] at hA;obtain⟨⟨q,z⟩,hq⟩:=eX (giveR ⟨L,cr,du⟩ R tr am);rw [hq] at hA;have hcall:=λW (hW:K0 W4 W)=>Pw L R cr du tr am (some ⟨gb,0,none⟩) (some ⟨gr,0,none⟩) cb cr2 m W ((Reads.Bb Hrb4.o).keeps hW (by simp)) HN.o hl ((Reads.Bb Hrr4.o).keeps hW (by simp)) HRm.o
 exact j1F):P:=h
theorem j14(h:P:=by
 rcases h.1.2 with⟨h0,_⟩|⟨g1,cap1,cur,h0,_,hh,_⟩
 ·simp at h0
 ·simp only [Value.slice.injEq,Option.some.injEq,Addr.mk.injEq,and_true,true_and] at h0;obtain⟨rfl,_⟩:=h0
  exact Ab hh j):P:=h
theorem j0c(h:P:=by
 go_round
 case rel=>exact⟨j+1,by omega,by go_num,Hok'.o⟩
 case measure=>simp [intOf];omega):P:=h
theorem j4C(h:P:=by
 refine hK.out _ _ (by exact Hs3.o) ?_;clear hK K;refine js ?_;go_wp2_with fail
 exact bodyPost_ret (results_cell_row rfl _ _ (w.heap.size+1) 62 #[.int .i64 12,.int .i64 0,.int .i64 0,.int .i64 0,.int .i64 0,.slice none 0 0,.int .i64 0,.int .i64 0,.slice none 0 0,.slice none 0 0,.int .i64 0,.int .i64 0,.int .i64 0,.int .i64 0,.int .i64 0,.slice none 0 0,.int .i64 0,.int .i64 0,.int .i64 0,.bool false] _ _ rfl Hput.o Tryz.underlying62 rfl Ar) rfl ⟨_,rfl,by rw [Hte.o.1,Hte.o.2];exact Hans2.o,Hq.o⟩):P:=h
theorem j4Y(h:P:=by
 clear hs1 hz;obtain⟨Hk1,Hk2,Hrow2,Hkw,Hb2⟩:=hid5 hk1 hk2 hrow2 hkw hb2;clear hb2 hkw hrow2 hk2 hk1;go_wp2_with fail;go_roundw
 case rel=>exact⟨i,h,rfl,rfl,Hb2.o,Hrow2.o,Hkw.o⟩
 case measure=>simp [intOf];omega):P:=h
theorem j38(h:P:=by
 obtain⟨Hdiv,HN,Hqq,Hrr⟩:=hid4 hdiv hN hqq hrr;clear hrr hqq hN hdiv;go_enter Tryz.func281,Tryz.ntmps281;go_wp2_with fail;refine Az 0 rfl ?_;go_wp2_with fail;refine(Hdiv.o _).mono ?_;rintro e w1 ⟨rfl,hk1⟩;have Hk1:=Lib.hid hk1;clear hk1;go_wp2_with fail;refine Bq ?_
 exact bodyPost_ret (v:= .tuple #[.int .u64 q,.bool true]) (by simp [results,Tryz.results281,go_sem]) rfl ⟨rfl,Hk1.o⟩):P:=h
theorem j2W(h:P:=by
 have hf:Ps.Bj ⟨L,cr,du⟩=true:=by unfold Ps.Bj;simp only [hsc,hN,hs, *,decide_true,decide_false,Bool.and_true,Bool.true_and,Bool.false_and,Bool.and_false,Bool.or_true,Bool.true_or,Bool.or_false,Bool.or_self]
 obtain rfl:z=true:=Hz.o.symm.trans hf
 exact j50):P:=h
theorem j2L(h:P:=by
 obtain⟨h0,h1,h2,h3,h4,h5,h6,h7⟩:=h
 exact⟨(hk.cell (Ag h0) (by simp)).trans h0,(hk.cell (Ag h1) (by simp)).trans h1,(hk.cell (Ag h2) (by simp)).trans h2,(hk.cell (Ag h3) (by simp)).trans h3,(hk.cell (Ag h4) (by simp)).trans h4,(hk.cell (Ag h5) (by simp)).trans h5,(hk.cell (Ag h6) (by simp)).trans h6,(hk.cell (Ag h7) (by simp)).trans h7⟩):P:=h
theorem j2T(h:P:=by
 skip
 have hr:true=(decide (ki=4)||decide (ki=5)):=by simp [Q14.o,Q16.o]
 have HR:=Lib.hid hr;clear hr
 go_wp2_with (go_at_call 243;((with_reducible refine(Fh ki _ true HR.o).mono ?_);rintro e w2 ⟨rfl,rfl⟩))
 go_meet;have q14:=Q14.o;have q16:=Q16.o
 exact jL):P:=h
theorem j2Z(h:P:=by
 go_wp2_with fail;refine(Hri.o _ jf).mono ?_;rintro e w1 ⟨rfl,hk1⟩;have Hk1:=j0I;clear hk1
 exact j0g):P:=h
theorem j2q(h:P:=by
 go_wp2;refine Jw ?_
 exact bodyPost_ret (v:= .tuple #[.agg #[.int .i64 0,.int .i64 0,.int .i64 0],.int .i64 10]) (by simp [results,Tryz.results198,go_sem]) rfl ⟨rfl,by(repeat (first|exact Keeps.refl _ _|exact Keeps.alloc _ _|exact Keeps.drew _|exact Keeps.drewN _ _|refine Keeps.Am ?_|refine Keeps.Al ?_|refine Keeps.Af ?_))⟩):P:=h
theorem j4o(h:P:=by
 have hR0:=(Hst3.o).r;obtain⟨Hno,Hpo,Hee,HR0⟩:=hid4 hno hpo hee hR0;clear hR0 hee hpo hno;go_wp2_with fail;go_step3;go_wp2;refine j08 ?_;intro Hsr Sr0 Sr1 Sr2 Sr3 Sr4
 go_wp2_with (refine wpList_store_row rfl 96 (.tmp 6) (.tmp 138) rfl R #[.int .i64 0,.int .i64 0,.int .i64 0,.int .i64 0,.int .i64 0] rfl rfl 96 #[.int .i64 0,.int .i64 0,.int .i64 0,.int .i64 0,.int .i64 0] HR0.o Br rfl (Dt _ _ _ _ _) ?_)
 refine jq ?_;intro R0' R1' R2' R3' R4';rw [Exit.noGoto_ret]
 exact bodyPost_ret (v:= .tuple #[.agg #[.int .i64 0,.int .i64 0,.int .i64 0,.int .i64 0,.int .i64 0],.int .i64 9]) jv rfl ⟨by rw [Hno.o.1,Hee.o];rfl,by rw [Hno.o.2];exact Hpo.o⟩):P:=h
theorem j1H(h:P:=by
 split at hq
 ·rename_i ha;rw [if_pos ha]
  split at hq
  ·rename_i hr;rw [if_pos hr];exact hr
  ·cases hq
 ·rename_i ha;exact absurd hq ha):P:=h
theorem j1A(h:P:=by
 obtain⟨Hr,HR,Hri,Hco,Hz,Hbx,Hbr,HN,HRm⟩:=hid9 hr hR hri hco hz hbx hbr hN hRm;clear hRm hN hbr hbx hz hco hri hR hr;have Hmn:=Lib.hid hmn;clear hmn
 exact jO):P:=h
theorem j2l(h:P:=by
 refine rkJ.mk i g c (by rw [Hri.o];rfl) ⟨Nat.le_refl _,⟨?_, ?_⟩,rfl,Hfr4.o⟩
 ·rw [List.take_of_length_le j6,List.drop_eq_nil_of_le j6,List.append_nil,List.flatMap_append];exact Hown4.o
 ·rw [List.take_of_length_le j6,List.drop_eq_nil_of_le j6];simp [hlen]):P:=h
theorem j0f(h:P:=by
 intro w' hSw;(try dsimp only at hSw);go_simp;(first|done|(constructor<;>with_reducible rfl)|with_reducible rfl)):P:=h
theorem j4d(h:P:=by
 go_wp2_with fail;go_step3;go_wp2;refine Zh ⟨wkJ1.mk _ _ B (.slice (some ⟨g,o,none⟩) mA cS) (by first|exact hz0|rfl) rfl Hd6.o Hp5.o Hg5.o HJ5.o, ?_⟩;show max (td+1-Dc _ B 9) 0<td+1-Dc W B 9;rw [Dg Hd6.o.c9.1,Hcs.o];have hdt:=Hp.o.dt;have hdy:=Hday.o;show max (td+1-(sd+1)) 0<td+1-sd
 omega):P:=h
theorem j3D(h:P:=by
 skip
 have hA:=HA.o;clear HA;simp [Ga,Fz] at hA;obtain⟨⟨q,z⟩,hq⟩:=eX (Jk ⟨L,cr,du⟩ tr am);rw [hq] at hA;have hcall:=λW (hW:K0 W4 W)=>Lv L cr du tr am (some ⟨gb,0,none⟩) cb m W ((Reads.Bb Hrb4.o).keeps hW (by simp)) HN.o hl
 exact j1F):P:=h
theorem j2S(h:P:=by
 skip
 have hr:true=(decide (ki=4)||decide (ki=5)):=by simp [Q14.o]
 have HR:=Lib.hid hr;clear hr
 go_wp2_with (go_at_call 243;((with_reducible refine(Fh ki _ true HR.o).mono ?_);rintro e w2 ⟨rfl,rfl⟩))
 go_meet;have q14:=Q14.o
 exact jL):P:=h
theorem j3u(h:P:=by
 go_wp2
 exact bodyPost_ret (v:= .tuple #[.int .i64 0,.int .i64 1]) j0K rfl ⟨rfl,by(repeat (first|exact Keeps.refl _ _|exact Keeps.alloc _ _|exact Keeps.drew _|exact Keeps.drewN _ _|refine Keeps.Am ?_|refine Keeps.Al ?_|refine Keeps.Af ?_))⟩):P:=h
theorem j2u(h:P:=by
 
 go_upto_region 9 with fail
 refine Co λW2 hW2=> ?_
 obtain⟨L2,hL2,hL2e⟩:∃L,At48 W2 (w.heap.size+1) L/\L= [0,0,0,0,fl,(mI:Int)]++List.replicate 42 0:=by
  rw [hW2];exact⟨_,((Hat1.o.set 4 _).set 4 _).set 5 _,by rw [<-Hfl.o,HmI.o];rfl⟩
 exact j19):P:=h
theorem j1d(h:P:=by
 obtain⟨Hd,This⟩:=hid2 hd this;clear this hd;go_enter Tryz.func268,Tryz.ntmps268;go_wp2;go_ret
 exact⟨by rw [This.o];rfl,rfl⟩):P:=h
theorem j0p(h:P:=by
 injection h1 with h1;injection h1 with _ h1 _
 exact absurd h1 j7):P:=h
theorem j0u(h:P:=by
 rcases Nat.lt_or_ge k L.length with h'|h'
 ·exact h'
 ·simp [List.getElem?_eq_none h'] at hx):P:=h
theorem j2Q(h:P:=by
 have hz:inB st (-135140) 2922896=false:=by rw [F3.o];simp;omega
 have hf:Tm.err ⟨li,cy,du,mf,mp,st,L⟩=6:=by rw [hf1,hz];simp
 obtain⟨Hok,Hk,Hb,Hall,Hf,Hf1,Hz,Bf,Bp⟩:=hid9 hok hk hb hall hf hf1 hz bf bp;clear bp bf hz hf1 hf hall hb hk hok
 exact j2P):P:=h
theorem j31(h:P:=by
 obtain⟨Hb,Hrow,Hx,HxD,Hmin,K1,K2,Hrow1,Hpost⟩:=hid9 hb hrow hx hxD hmin k1 k2 hrow1 hpost;clear hpost hrow1 k2 k1 hmin hxD hx hrow hb;obtain⟨Hi,Hm⟩:=hid2 hi hm;clear hm hi;go_enter Tryz.func274,Tryz.ntmps274;go_wp2;go_end0
 exact⟨rfl,Hpost.o⟩):P:=h
theorem j1G(h:P:=by
 subst h;obtain⟨Hall,Hk,Hkw,He⟩:=hid4 hall hk hkw he;clear he hkw hk hall;go_wp2
 exact j0m):P:=h
theorem j3C(h:P:=by
 go_enter Tryz.func215,Tryz.ntmps215;go_wp2;go_ret
 exact⟨_,rfl,by simp;omega,by(repeat (first|exact Keeps.refl _ _|exact Keeps.alloc _ _|exact Keeps.drew _|exact Keeps.drewN _ _|refine Keeps.Am ?_|refine Keeps.Al ?_|refine Keeps.Af ?_))⟩):P:=h
theorem j1W(h:P:=by
 rw [hd];have Hd:=Lib.hid hd;clear hd;go_enter Tryz.func62,Tryz.ntmps62;go_wp2;go_ret
 exact⟨rfl,Keeps.alloc _ _⟩):P:=h
theorem j23(h:P:=by
 rw [hd];have Hd:=Lib.hid hd;clear hd;go_enter Tryz.func25,Tryz.ntmps25;go_wp2;go_ret
 exact⟨rfl,Keeps.alloc _ _⟩):P:=h
theorem j2s(h:P:=by
 unfold bs;by_cases hi:i<48
 ·rw [List.getElem?_map,List.getElem?_range hi];simp [List.getD_eq_getElem?_getD,List.getElem?_eq_getElem (show i<L.length by omega)]
 ·rw [List.getElem?_eq_none ji,List.getElem?_eq_none j6]):P:=h
theorem j1V(h:P:=by
 rw [hd];obtain⟨H,Hn,Hv,E1,Hd⟩:=hid5 h hn hv e1 hd;clear hd e1 hv hn h;go_enter Tryz.func169,Tryz.ntmps169
 exact jk):P:=h
theorem j2d(h:P:=by
 exact bodyPost_ret (Cj rfl _ _ w.heap.size 75 (b48 []).toArray _ _ _ rfl rfl (setRow_heap _ _ _ _ _ _ Hb1.o) Tryz.underlying75 rfl Ay) rfl ⟨rfl,Hk1.o.trans ((Keeps.setRow _ _ _).mono λk _ e=> .inr (Nat.le_of_eq e.symm))⟩):P:=h
theorem j3I(h:P:=by
 obtain rfl:j=n:=by omega
 have hf:=find_no (q:=q) (L:=L) (λi y hi hy=>hno i y (by rw [Hn.o] at hi;exact hi) hy);obtain⟨Hno,Hkx,Hf⟩:=hid3 hno hkx hf;clear hf hkx hno;go_wp2_with fail;go_ret
 exact⟨by rw [<-Hrr.o,Hf.o];rfl,Hkx.o⟩):P:=h
theorem j0E(h:P:=by
 skip
 go_wp2_with fail;go_meet;have q10:=Q10.o
 exact jL):P:=h
theorem j2k(h:P:=by
 go_region
 all_goals go_wp2_with fail
 all_goals go_step3
 all_goals go_wp2
 all_goals exact Aw ⟨rkJ.mk k g c (by rw [Hri.o];rfl) ⟨by omega,Hset.o,by rw [Hri.o];exact Hpl.o,Hfr2.o⟩,by simp [Dz]⟩):P:=h
theorem j1g(h:P:=by
 have H:=Lib.hid h;clear h;go_enter Tryz.func144,Tryz.ntmps144;go_wp2;go_ret
 exact⟨by rw [H.o];rfl,rfl⟩):P:=h
theorem j4l(h:P:=by
 obtain⟨h1,h2,h3,h4,h5⟩:=h
 exact⟨(hk.cell (Ag h1) (by simp)).trans h1,(hk.cell (Ag h2) (by simp)).trans h2,(hk.cell (Ag h3) (by simp)).trans h3,(hk.cell (Ag h4) (by simp)).trans h4,(hk.cell (Ag h5) (by simp)).trans h5⟩):P:=h
theorem j0w(h:P:=by
 have Hf:=Lib.hid hf;clear hf;go_enter Tryz.func239,Tryz.ntmps239
 exact jN):P:=h
theorem j30(h:P:=by
 subst h;obtain⟨Hall,Hk,Hkb,Hkw⟩:=hid4 hall hk hkb hkw;clear hkw hkb hk hall
 go_wp2_with (go_at_call 241;(with_reducible refine(Ce m3 _).mono ?_);rintro e w2 ⟨rfl,rfl⟩)
 exact j0m):P:=h
theorem j2n(h:P:=by
 go_wp2_with fail;refine Hc.o.mono ?_;rintro e w1 ⟨v,rfl,hr1,hf1⟩;have Hr1:=Lib.hid hr1;have Hf1:=Lib.hid hf1;obtain⟨adv,cv,rfl,_,_⟩:=Ae hr1;clear hr1 hf1;go_wp2;go_ret
 exact⟨_,rfl,Hr1.o,Hf1.o⟩):P:=h
theorem j24(h:P:=by
 simp only [List.mem_cons,List.not_mem_nil,or_false] at e
 rcases e with rfl|rfl|rfl<;>exact absurd h4 j7):P:=h
theorem j2o(h:P:=by
 obtain⟨Hlp,Hf⟩:=hid2 hlp hf;clear hf hlp;go_enter Tryz.func199,Tryz.ntmps199
 go_wp2_with (go_at_call 239;(refine Hlp.o.mono ?_);rintro e w1 ⟨rfl,rfl⟩)
 go_ret
 exact⟨by rw [Hf.o];rfl,rfl⟩):P:=h
theorem j2h(h:P:=by
 obtain⟨h1,h2⟩:=h;obtain⟨y,hy⟩:=Au (L:=O) (k:=k) j6;subst h2;have:=Ja Dq h1 hy 0 j7 (y:=x) (u:= .int .i64 x) rfl;simp only [Nat.mul_one,Nat.add_zero] at this
 exact⟨this,by simp⟩):P:=h
theorem j3k(h:P:=by
 have Hf:=Lib.hid hf;clear hf;go_enter Tryz.func282,Tryz.ntmps282
 go_wp2_with (go_at_call 241;(with_reducible refine(Ce m3 _).mono ?_);rintro e w1 ⟨rfl,rfl⟩)
 go_ret
 exact⟨by rw [Hf.o];rfl,rfl⟩):P:=h
theorem j4X(h:P:=by
 go_wp2;go_end0;have hd:=Bg (X:=X) j6 j6 (by have:=Hrot.o.t.len;omega) Hcr.o HtY.o HuY.o (Turned.refl _ _ _) HuZ.o
 exact⟨rfl,Y,Hrot.o.t.trans hd.1,hd.2,Hrow3.o,Hk3.o⟩):P:=h
theorem j2U(h:P:=by
 go_ret
 exact⟨rfl,Keeps.nt jf Hk1.o⟩):P:=h
theorem j4H(h:P:=by
 have hnb5:=Hnb4.o.put hg5;have hC2':=HC2.o;simp only [if_true,Bool.false_eq_true,if_false] at hC2'
 refine⟨⟨k+1,v5,by omega,by go_num,rfl,by rw [hC2'];exact hnb5⟩,by simp [intOf];omega⟩):P:=h
theorem j3P(h:P:=by
 by_cases e:j=k
 ·subst e;rw [List.getElem?_set_self hkl] at hy;simp only [Option.some.injEq] at hy;exact .inl ⟨rfl,hy.symm⟩
 ·rw [List.getElem?_set_ne (λh=>e h.symm)] at hy;exact .inr ⟨e,hy⟩):P:=h
theorem j49(h:P:=by
 obtain⟨Hfin,Z0,Z1,Hka,Hfb,Hfk,KBB⟩:=hid7 hfin z0 z1 hka hfb hfk kBB;clear kBB hfk hfb hka z1 z0 hfin;refine jC ?_;refine Ao ?_;clear s14 s15 s16 s17 sl;go_wp2;go_end0
 exact⟨rfl,Hfin.o⟩):P:=h
theorem j2r(h:P:=by
 rcases h.row.2 with⟨e,e2⟩|⟨g',cap',cur,hv',_⟩
 ·rw [e] at hv;simp [Value.ownBlock] at hv
 ·have:=(Value.slice.inj hv').1;subst this;simp only [Value.ownBlock,Option.some.injEq] at hv;rw [hv]):P:=h
theorem j35(h:P:=by
 go_step3;go_wp2;refine Aw ?_;go_wp2;rw [Exit.noGoto_ret]
 exact bodyPost_ret (v:= .tuple #[.int .i64 0,.int .i64 5]) (by simp [results,Tryz.results205,go_sem]) rfl ⟨rfl,rfl⟩):P:=h
theorem j2f(h:P:=by
 refine Lg l J M hf (λa w hJ=>wp_seq (wp_skip (round a w hJ))) λ_=>first λa w hJ=>Code.wp_mono ?_ (round a w hJ);intro e a' w' h
 cases e with
 |goto k=>exact⟨h.1,h.2.1⟩
 |_=>exact h):P:=h
theorem j4T(h:P:=by
 go_wp2_with fail
 go_loopw [70] (λa wr=>a= .int .i64 0/\wr=w7) (λ_ _=>0)
 case atStart=>exact⟨rfl,rfl⟩
 case round=>
  obtain⟨rfl,rfl⟩:=hrel;go_wp2
  exact HR.o):P:=h
theorem j2i(h:P:=by
 have hrow2:=hat.row.1;rw [<-hend] at hrow2;obtain⟨Hat,Hend,Hrow2,Hpl,Hlen,Hp0⟩:=hid6 hat hend hrow2 hpl hlen hp0;clear hp0 hlen hpl hrow2 hend hat;go_wp2
 exact j15):P:=h
theorem j0Z(h:P:=by
 exact HS.o.keep (Keeps.drew (S:=λ_=>False) _) (by simp) (by simp)):P:=h
theorem j3T(h:P:=by
 refine jo ?_;have hrv1:=Hrv.o.keep0 hk1;clear hs1;obtain⟨Hk1,Hrv1⟩:=hid2 hk1 hrv1;clear hrv1 hk1;go_wp2;go_ret
 exact⟨rfl,_,_,Hrv1.o⟩):P:=h
theorem j0L(h:P:=by
 repeat' split
 all_goals first|(exfalso;omega)|rfl|(congr 1;omega)):P:=h
theorem j2g(h:P:=by
 rcases h.2 with⟨rfl,_⟩|⟨g',cap,cur,rfl,_,hh,_⟩
 ·simp [Value.ownBlock] at hv
 ·simp only [Value.ownBlock,Option.some.injEq] at hv;subst hv;exact lt_of_block hh):P:=h
theorem j2p(h:P:=by
 intro a' w' h;refine⟨h.1,Nat.lt_of_lt_of_le h.2 ?_⟩;have e1:=Dg (Aa Hd2.o.box 1);show(20-Dc _ _ 1).toNat<=(20000-Dc _ _ 0).toNat+100
 rw [e1];omega):P:=h
theorem j3M(h:P:=by
 obtain⟨Hren,Z0,Z1⟩:=hid3 hren z0 z1;clear z1 z0 hren;refine jC ?_;refine Ao ?_;clear s14 s15 s16 s17 sl;go_wp2;go_end0
 exact⟨rfl,_,_,Hren.o⟩):P:=h
theorem j33(h:P:=by
 have h1':decide (-1000000000000000<=v)=true:=by rw [decide_eq_true_iff];omega
 have Hf:=Lib.hid hf;clear hf;go_enter Tryz.func242,Tryz.ntmps242
 exact jN):P:=h
theorem j3U(h:P:=by
 intro v' w1 hown1 hk1 hf1;have hend:=Ux hown1 hk1 hf1;have Hend:=Lib.hid hend;clear hend;clear hown1 hk1 hf1;go_wp2;go_ret
 exact⟨_,rfl,Hend.o⟩):P:=h
theorem j3z(h:P:=by
 obtain⟨Ht,E1,E2,E3,Hrow,Hk,Hup⟩:=hid7 ht e1 e2 e3 hrow hk hup;clear hup hk hrow e3 e2 e1 ht;go_wp2;go_end0
 exact⟨rfl,Y,Ht.o,Hup.o,Hrow.o,Hk.o⟩):P:=h
theorem j0b(h:P:=by
 rw [Nat.mul_one,Nat.add_zero] at this;exact this):P:=h
theorem j3W(h:P:=by
 go_roundw
 case rel=>exact⟨k+1,by omega,by go_num,(Hkp.o.trans ((Keeps.drew _).trans (Hk2.o.mono (by simp))))⟩
 case measure=>simp [intOf];omega):P:=h
theorem j4I(h:P:=by
 exact bodyPost_ret (v:= .tuple #[v5,.int .i64 ((n:Int)+1),.bool true]) (by simp [results,Tryz.results103,go_sem]) rfl ⟨v5,by rw [hend],hown5,hst.1,hst.2⟩):P:=h
theorem j0D(h:P:=by
 skip
 go_wp2_with fail;go_meet
 exact jL):P:=h
theorem j3t(h:P:=by
 have:=hn.same (k-1) j6 j6
 exact⟨_,_,by rwa [show 1+(k-1)=k by omega,show n+(mlen y m-d)+1+(k-1)=n-d+mlen y m+k by omega] at this⟩):P:=h
theorem j16(h:P:=by
 have Hf:=Lib.hid hf;clear hf;go_enter Tryz.func300,Tryz.ntmps300
 exact jN):P:=h
theorem j1j(h:P:=by
 have Hf:=Lib.hid hf;clear hf;go_enter Tryz.func241,Tryz.ntmps241
 exact jN):P:=h
theorem j1m(h:P:=by
 have Hf:=Lib.hid hf;clear hf;go_enter Tryz.func302,Tryz.ntmps302
 exact jN):P:=h
theorem j1z(h:P:=by
 have Hf:=Lib.hid hf;clear hf;go_enter Tryz.func271,Tryz.ntmps271
 exact jN):P:=h
theorem j2e(h:P:=by
 rcases h.row.2 with⟨e,e2⟩|⟨g',cap',cur,hv,_⟩
 ·exact absurd (Value.slice.inj e).2.1 j6
 ·exact⟨g',(Value.slice.inj hv).1⟩):P:=h
theorem j4U(h:P:=by
 obtain⟨Hat,Hk,Ho,Hrow⟩:=hid4 hat hk ho hrow;clear hrow ho hk hat;go_wp2;go_ret
 exact⟨_,_,rfl,Hat.o,by rw [Ho.o];exact hom⟩):P:=h
theorem j41(h:P:=by
 have hne:¬b8=b9:=by rw [hb8e,hb9e];omega
 have hn8:w7.heap.size<=b8:=by rw [hb8e];omega
 have hn9:w7.heap.size<=b9:=by rw [hb9e];omega
 rw [<-hb9e] at hb9⊢;rw [<-hb8e] at hb8⊢
 exact j54):P:=h
theorem j3y(h:P:=by
 refine j01 ?_;clear hK K;refine j02 ?_;intro hrow2 hkw;have hb2:=Hbs.o.down Hmono.o hih hhj (by rw [Hxd.o,Hyd.o];omega)
 exact j4Y):P:=h
theorem j0e(h:P:=by
 go_ret
 exact⟨by rw [<-Hd.o];rfl,rfl⟩):P:=h
theorem j0z(h:P:=by
 rw [e] at hg;simp only [Option.some.injEq] at hg;omega):P:=h
theorem j3w(h:P:=by
 simp only [Value.slice.injEq,Option.some.injEq,Addr.mk.injEq,and_true,true_and] at h0;obtain⟨rfl,rfl⟩:=h0
 exact Ab hh o):P:=h
theorem j0x(h:P:=by
 go_ret
 exact⟨_,rfl,by rw [Hf.o,Hj0.o],rfl⟩):P:=h
theorem j3x(h:P:=by
 refine j01 ?_;clear hK K;refine j02 ?_;intro hrow2 hkw;have hb2:=Hbs.o.up Hmono.o hih hhj (by rw [Hxd.o,Hyd.o];omega)
 exact j4Z):P:=h
theorem j3N(h:P:=by
 rcases hf with hf|⟨g,hg,hh⟩
 ·exact .inl (hf▸hb)
 ·rw [hg] at hb;simp only [Option.some.injEq] at hb;exact .inr j6):P:=h
theorem j4W(h:P:=by
 go_wp2_with fail;go_roundw
 case rel=>exact⟨i+1,by omega,by go_num,HI12.o _ Hk12.o⟩
 case measure=>simp [intOf];omega):P:=h
theorem j2E(h:P:=by
 rcases Hpad.o.row.2 with⟨hv,_⟩|⟨g,c,cur,hv,_,hg,_⟩
 ·rw [hv] at hi;simp [Value.ownBlock] at hi
 ·rw [hv] at hi;simp only [Value.ownBlock,Option.some.injEq] at hi;subst hi
  rw [hg] at ho;cases ho;rfl):P:=h
theorem j2m(h:P:=by
 obtain rfl:i=n:=by omega
 obtain⟨Hrow,Hfr⟩:=hid2 hrow hfr;clear hfr hrow;go_wp2;go_ret
 exact⟨_,rfl,Hrow.o,Hfr.o⟩):P:=h
theorem j3h(h:P:=by
 go_wp2;go_roundw
 case rel=>exact⟨j+1,by go_num,by omega,Hnew.o,Hkn.o⟩
 case measure=>simp [intOf];omega):P:=h
theorem j3G(h:P:=by
 rcases Nat.lt_or_ge i j with h|h
 ·exact hno i y h hy
 ·obtain rfl:i=j:=by omega
  rw [hx] at hy;cases hy;exact hqx):P:=h
theorem j1S(h:P:=by
 injection hg with h1;injection h1 with _ h1 _
 exact absurd h1 hne'):P:=h
theorem j3l(h:P:=by
 obtain⟨Hr,HX,Hri,Hco,Hb,Hbx,He,HN,HM⟩:=hid9 hr hX hri hco hb hbx he hN hM;clear hM hN he hbx hb hco hri hX hr
 exact j3m):P:=h
theorem j2c(h:P:=by
 obtain⟨H,Hend⟩:=hid2 h hend;clear hend h;go_enter Tryz.func86,Tryz.ntmps86;go_wp2;go_end0
 exact⟨rfl,Hend.o⟩):P:=h
theorem j0g(h:P:=by
 go_wp2;go_ret
 exact⟨rfl,Hk1.o⟩):P:=h
theorem j2K(h:P:=by
 rw [Bool.eq_false_iff];intro hm;have:=List.all_eq_true.1 hm x (List.mem_of_getElem? h)
 rw [hx] at this;simp at this):P:=h
theorem j4x(h:P:=by
 have h1:y.s∈Z.1.out:=by rw [<-g.lp];exact List.mem_map.2 ⟨y,hy,rfl⟩
 have h2:=o1 _ h1;have h3:=Hn.o.n8;rw [Ht.o] at h3
 omega):P:=h
theorem j3p(h:P:=by
 go_wp2_with fail;go_roundw
 case rel=>exact⟨k+1,_,by go_num,by omega,Happ.o⟩
 case measure=>simp [intOf];omega):P:=h
theorem j3H(h:P:=by
 go_roundw
 case rel=>exact⟨j+1,by omega,by go_num,Hno'.o,Keeps.nt Hkx.o Hk1.o⟩
 case measure=>simp [intOf];omega):P:=h
theorem j3g(h:P:=by
 go_wp2;go_roundw
 case rel=>exact⟨i+1,by go_num,by omega,Hnew.o,Hkn.o⟩
 case measure=>simp [intOf];omega):P:=h
theorem j3Q(h:P:=by
 obtain⟨j,hj⟩:=List.getElem?_of_mem hy;rcases hmem j y hj with h|h
 ·exact .inl h.2
 ·exact .inr ⟨j,h⟩):P:=h
theorem j1i(h:P:=by
 refine Bq ?_;go_ret
 exact⟨by rw [Hf.o];rfl,Hk.o⟩):P:=h
theorem j27(h:P:=by
 rw [hr2] at hr;injection hr with hv hw
 right
 exact⟨w.heap.size,by rw [<-hv];rfl,Nat.le_refl _⟩):P:=h
theorem j29(h:P:=by
 simp only [Value.slice.injEq,true_and] at he
 exact⟨g,o,he.1,by have:=hc 0 j7;simpa using this⟩):P:=h
theorem j2R(h:P:=by
 have h:r=true:=by rw [hr];rfl
 subst h;clear hr;go_enter Tryz.func243,Tryz.ntmps243
 exact jk):P:=h
theorem j3a(h:P:=by
 subst m2;rw [show minI total total=total by unfold minI;rw [if_pos j6]] at hzz
 exact j1n):P:=h
theorem j4c(h:P:=by
 have c1:w.cell? ⟨b,1,none⟩=some (.int .i64 held):=Aa hb 1;have Hb:=Lib.hid hb;clear hb
 exact j1R):P:=h
theorem j4a(h:P:=by
 show walkD t T n (td-(s.day+1)).toNat _ _=Z;rw [show(td-(s.day+1)).toNat=d by omega]
 exact hw):P:=h
theorem j4y(h:P:=by
 go_ret
 exact⟨rfl,((Keeps.alloc _ _).trans (Keeps.alloc _ _)).trans (Hk1.o.mono (by simp))⟩):P:=h
theorem j1Z(h:P:=by
 exact .inl (.inr (.inr (.inr (.inr (.inr (.inl hb))))))):P:=h
theorem j55(h:P:=by
 skip
 obtain rfl:z=true:=by rw [<-Hz.o];simp [mayA,Hbr.o,Hmn.o,HN.o, *]
 exact j52):P:=h
theorem j0m(h:P:=by
 go_ret
 exact⟨rfl,Hkw.o⟩):P:=h
theorem j2C(h:P:=by
 obtain⟨x0,hx0⟩:=Au (show 0<B.length by omega);obtain⟨gs,os,hads,_⟩:=Reads.int (k:= .u8) Hr.o hx0
 exact⟨gs,os,hads⟩):P:=h
theorem j06(h:P:=by
 exact HS.o.keep (Keeps.drew _)):P:=h
theorem j4G(h:P:=by
 have e':b=B:=e;rcases hvi14 b hb with h1|h1
 ·exact HA3.o.si b h1 (.inl e')
 ·omega):P:=h
theorem j3f(h:P:=by
 have Hmn:=Lib.hid hmn;clear hmn;go_wp2_with fail;go_meet
 exact⟨by rw [Hmn.o],rfl⟩):P:=h
theorem j0v(h:P:=by
 unfold insR
 rw [hlen,Hri.o,hpl]):P:=h
theorem j34(h:P:=by
 obtain⟨h1,h2⟩:=List.getElem?_eq_some_iff.1 hx
 rw [List.drop_eq_getElem_cons h1,h2]):P:=h
theorem j51(h:P:=by
 exact⟨⟨Hs8.o.1.1,Hs8.o.1.2.1,⟨hc1,Hs8.o.1.2.2.1.2⟩,Hb8.o⟩,Keeps.drew _⟩):P:=h
theorem j50(h:P:=by
 obtain⟨Hf,Hsc,HN,Hall,Hk⟩:=hid5 hf hsc hN hall hk;clear hk hall hN hsc hf
 exact j2V):P:=h
theorem j21(h:P:=by
 go_wp2_with fail;go_meet
 exact⟨rfl,rfl⟩):P:=h
theorem j53(h:P:=by
 refine Ao ?_;clear z0 z1 z2' zf0 zf1 zf2 hlz;go_wp2_with fail;go_meet
 exact Hrel.o):P:=h
theorem j2A(h:P:=by
 exact⟨⟨⟨k0,kl⟩,⟨k1,by have:=Hk12.o.size;simp;omega⟩,k2,by have:=Hk12.o.size;simp;omega⟩,Keeps.drew _⟩):P:=h
theorem j1b(h:P:=by
 obtain⟨l0,sn0,fl0,dn0⟩:=p;simp only at hs;subst hs
 rfl):P:=h
variable{T:Prop}(c:T)
include c
theorem jx(h:Bx T->P:=by
 intro cZ
 repeat ((first|refine Bl rfl (by rfl) ?_|refine Be rfl (by rfl) ?_|(refine Bh (v:= ?_) rfl (by rfl) ?_ ?_;rotate_left;(· intro w' hSw;unfold acT9 tbS at hSw;go_simp;(try with_reducible rfl));rotate_right));try simp only [aps])
 exact cZ.1):P:=h ⟨c⟩
theorem jw(h:Bx T->P:=by
 intro cZ
 repeat ((first|refine Bl rfl (by rfl) ?_|refine Be rfl (by rfl) ?_|(refine Bh (v:= ?_) rfl (by rfl) ?_ ?_;rotate_left;(· intro w' hSw;unfold acT tbS at hSw;go_simp;(try with_reducible rfl));rotate_right));try simp only [aps])
 exact cZ.1):P:=h ⟨c⟩
theorem j07(h:Bx T->P:=by
 intro cZ;have nce:=(Hst3.o).ce;have nec:¬E=C:=λe=>nce e.symm;have c0:=Aa (Hst3.o).c 0;have c1:=Aa (Hst3.o).c 1;have c2:=Aa (Hst3.o).c 2;have c3:=Aa (Hst3.o).c 3;have cl:=lt_of_block (Hst3.o).c;have e0:=Aa (Hst3.o).e 0;have e1:=Aa (Hst3.o).e 1;have e2:=Aa (Hst3.o).e 2;have e3:=Aa (Hst3.o).e 3;have e4:=Aa (Hst3.o).e 4;have el:=lt_of_block (Hst3.o).e;have f0:=Ab (Hst3.o).e 0;have f1:=Ab (Hst3.o).e 1;have f2:=Ab (Hst3.o).e 2;have f4:=Ab (Hst3.o).e 4
 revert nce nec c0 c1 c2 c3 cl e0 e1 e2 e3 e4 el f0 f1 f2 f4
 exact cZ.1):P:=h ⟨c⟩
theorem jC(h:Bx T->P:=by
 intro cZ;refine ja ?_;intro K hK;refine hK.out _ _ (by trivial) ?_;clear hK K;refine jh ?_
 exact cZ.1):P:=h ⟨c⟩
theorem j0X(h:Bx T->P:=by
 intro cZ;have hlz:=lt_of_block hz5;have z0:=Aa hz5 0;have z1:=Aa hz5 1;have z2':=Aa hz5 2;have zf0:=Ab hz5 0;have zf1:=Ab hz5 1;have zf2:=Ab hz5 2;obtain⟨hbz,hkz⟩:=Bw hz5 (.slice a2 n2 c2) (.int .i64 cr2) (.int .i64 du2);have hk4z:K0 W2 ((((w5).setCell ⟨b7,0,none⟩ (.slice a2 n2 c2)).setCell ⟨b7,1,none⟩ (.int .i64 cr2)).setCell ⟨b7,2,none⟩ (.int .i64 du2)):=Keeps.trans hkr (hkz.mono λi _ e=> .inr (by have e':i=b7:=e;omega))
 revert hlz z0 z1 z2' zf0 zf1 zf2 hbz hkz hk4z
 exact cZ.1):P:=h ⟨c⟩
theorem j1r(h:Bx T->P:=by
 intro cZ;refine j3j ?_;intro hkw;have hb1:=Hbx.o w1 ((Keeps.alloc _ _).nt hk1);refine j0F ?_;intro hrs;have b0:=Aa hb1 0;have b1:=Aa hb1 1;have b2:=Aa hb1 2;have bl:=lt_of_block hb1
 revert hkw hb1 hrs b0 b1 b2 bl
 exact cZ.1):P:=h ⟨c⟩
theorem j08(h:Bx T->P:=by
 intro cZ;refine Aw ?_;have hsr:=setRow_heap _ R #[.int .i64 0,.int .i64 0,.int .i64 0,.int .i64 0,.int .i64 0] #[.int .i64 0,.int .i64 0,.int .i64 0,.int .i64 0,.int .i64 0] 96 _ HR0.o;refine jF ?_;intro sr0 sr1 sr2 sr3 sr4;obtain⟨Hsr,Sr0,Sr1,Sr2,Sr3,Sr4⟩:=hid6 hsr sr0 sr1 sr2 sr3 sr4;clear sr4 sr3 sr2 sr1 sr0 hsr
 revert Hsr Sr0 Sr1 Sr2 Sr3 Sr4
 exact cZ.1):P:=h ⟨c⟩
theorem j0a(h:Bx T->P:=by
 intro cZ;obtain⟨W0,hW0⟩:=eY ((w.alloc (.cells #[.int .i64 ki,.int .i64 da,.int .i64 tr,.int .i64 am,.int .i64 re] 23)).alloc (.cells #[.int .i64 0,.int .i64 0,.int .i64 0,.int .i64 0,.int .i64 0,.slice none 0 0,.int .i64 0,.int .i64 0,.slice none 0 0,.slice none 0 0,.int .i64 0,.int .i64 0,.int .i64 0,.int .i64 0,.int .i64 0,.slice none 0 0,.int .i64 0,.int .i64 0,.int .i64 0,.bool false] 62))
 revert W0 hW0
 exact cZ.1):P:=h ⟨c⟩
theorem j1X(h:Bx T->P:=by
 intro cZ;have hb0:=j4e;have hk0:K0 w (w.alloc (.cells #[.int .i64 0,.int .i64 0,.int .i64 0,.int .i64 0,.int .i64 0,.slice none 0 0,.int .i64 0,.int .i64 0,.slice none 0 0,.slice none 0 0,.int .i64 0,.int .i64 0,.int .i64 0,.int .i64 0,.int .i64 0,.slice none 0 0,.int .i64 0,.int .i64 0,.int .i64 0,.bool false] 62)):=Keeps.alloc _ _
 revert hb0 hk0
 exact cZ.1):P:=h ⟨c⟩
theorem j02(h:Bx T->P:=by
 intro cZ;refine jm ?_;have hrow2:=(Hrow.o.keep hk1).keep hk2;have hkw:=(Hk.o.trans (hk1.mono (by simp))).trans (hk2.mono (by simp))
 revert hrow2 hkw
 exact cZ.1):P:=h ⟨c⟩
theorem ja(h:Bx T->P:=by
 intro cZ;refine Ah rfl (λK hK=> ?_);go_simp
 revert K hK
 exact cZ.1):P:=h ⟨c⟩
theorem j0j(h:Bx T->P:=by
 intro cZ;have hbx:∀W,K0 (w.alloc (.cells #[.slice ad n cap,.int .i64 cr,.int .i64 du] 52)) W->W.heap[w.heap.size]?=some (.cells #[.slice ad n cap,.int .i64 cr,.int .i64 du] 52 (0,0)):=λW hW=>Ad (heap_alloc_new w _) hW (by simp)
 revert hbx
 exact cZ.1):P:=h ⟨c⟩
theorem jG(h:Bx T->P:=by
 intro cZ;intro v4 w4 ho4 hk4 hf4;have hg4:=Hg.o.app rfl rfl ho4 hk4 hf4;have Hg4:=Lib.hid hg4;clear hg4;clear ho4 hk4 hf4
 revert v4 w4 Hg4
 exact cZ.1):P:=h ⟨c⟩
theorem j4B(h:Bx T->P:=by
 intro cZ;refine jc ?_;have hk02:=Hk0.o.nt (hk1.nt hk2);have hR:=Ad Hr0.o (hk1.nt hk2) (by simp);have hs3:=(hs1.keep hk2 (by simp) (by simp)).keep (Cc w2 (w.heap.size+1) #[.int .i64 12,.int .i64 0,.int .i64 0,.int .i64 0,.int .i64 0,.slice none 0 0,.int .i64 0,.int .i64 0,.slice none 0 0,.slice none 0 0,.int .i64 0,.int .i64 0,.int .i64 0,.int .i64 0,.int .i64 0,.slice none 0 0,.int .i64 0,.int .i64 0,.int .i64 0,.bool false]) nBR nCR;have hput:=setRow_heap w2 (w.heap.size+1) #[.int .i64 0,.int .i64 0,.int .i64 0,.int .i64 0,.int .i64 0,.slice none 0 0,.int .i64 0,.int .i64 0,.slice none 0 0,.slice none 0 0,.int .i64 0,.int .i64 0,.int .i64 0,.int .i64 0,.int .i64 0,.slice none 0 0,.int .i64 0,.int .i64 0,.int .i64 0,.bool false] #[.int .i64 12,.int .i64 0,.int .i64 0,.int .i64 0,.int .i64 0,.slice none 0 0,.int .i64 0,.int .i64 0,.slice none 0 0,.slice none 0 0,.int .i64 0,.int .i64 0,.int .i64 0,.int .i64 0,.int .i64 0,.slice none 0 0,.int .i64 0,.int .i64 0,.int .i64 0,.bool false] 62 _ hR;have hone:=Cu 12 0 0;have hq:=(Bv.ret (V:= #[.int .i64 12,.int .i64 0,.int .i64 0,.int .i64 0,.int .i64 0,.slice none 0 0,.int .i64 0,.int .i64 0,.slice none 0 0,.slice none 0 0,.int .i64 0,.int .i64 0,.int .i64 0,.int .i64 0,.int .i64 0,.slice none 0 0,.int .i64 0,.int .i64 0,.int .i64 0,.bool false]) H.o hk02 (Bv.same (H.o.keep0 hk02) (Keeps.refl _ _)) hR (Nat.le_succ _)).2;have hans2:=(AnsIs.mk0 w w2 12 0 0).setRow (V:= #[.int .i64 12,.int .i64 0,.int .i64 0,.int .i64 0,.int .i64 0,.slice none 0 0,.int .i64 0,.int .i64 0,.slice none 0 0,.slice none 0 0,.int .i64 0,.int .i64 0,.int .i64 0,.int .i64 0,.int .i64 0,.slice none 0 0,.int .i64 0,.int .i64 0,.int .i64 0,.bool false]) hR
 revert hk02 hR hs3 hput hone hq hans2
 exact cZ.1):P:=h ⟨c⟩
theorem jU(h:Bx T->P:=by
 intro cZ;refine jc ?_;refine ja ?_;intro K hK;refine hK.out _ _ (by exact(HS3.o.keep (Keeps.alloc _ _)).keep (Keeps.alloc _ _)) ?_;clear hK K
 exact cZ.1):P:=h ⟨c⟩
theorem jq(h:Bx T->P:=by
 intro cZ;refine jj ?_;intro R0' R1' R2';have R3':=Sr3.o;have R4':=Sr4.o
 revert R0' R1' R2' R3' R4'
 exact cZ.1):P:=h ⟨c⟩
theorem j4u(h:Bx T->P:=by
 intro cZ;have hlz:=lt_of_block hz8;have z0:=Aa hz8 0;have z1:=Aa hz8 1;have z2':=Aa hz8 2;have zf0:=Ab hz8 0;have zf1:=Ab hz8 1;have zf2:=Ab hz8 2;obtain⟨hbz,hkz⟩:=Bw hz8 (.slice a2 n2 c2) (.int .i64 cr2) (.int .i64 du2);have hk4z:K0 W2 ((((w8).setCell ⟨b7,0,none⟩ (.slice a2 n2 c2)).setCell ⟨b7,1,none⟩ (.int .i64 cr2)).setCell ⟨b7,2,none⟩ (.int .i64 du2)):=Keeps.trans hka8 (hkz.mono λi _ e=> .inr (by have e':i=b7:=e;omega));have hrel:CnRun W2 n Z (.pointer (some ⟨b7,0,none⟩)) vr2 vo2 (.int .i64 z2) ((((w8).setCell ⟨b7,0,none⟩ (.slice a2 n2 c2)).setCell ⟨b7,1,none⟩ (.int .i64 cr2)).setCell ⟨b7,2,none⟩ (.int .i64 du2)):=⟨b7,_,_,_,cr2,du2,z2,rfl,rfl,rfl,rfl,hb7l,hk4z,hbz,((hi2.up hkn).keep (hkA.trans (hkz.mono λi _ e=> .inr (by have e':i=b7:=e;omega)))),_,_,_,rfl⟩
 revert hlz z0 z1 z2' zf0 zf1 zf2 hbz hkz hk4z hrel
 exact cZ.1):P:=h ⟨c⟩
theorem j2O(h:Bx T->P:=by
 intro cZ;have x0:wr.cell? ⟨g,o+k*9,none⟩=some (.int .i64 x.s.cycle):=hc 0 j7;have x1:wr.cell? ⟨g,o+k*9+1,none⟩=some (.int .i64 x.s.fr):=hc 1 j7;have x2:wr.cell? ⟨g,o+k*9+2,none⟩=some (.int .i64 x.s.te):=hc 2 j7;have x3:wr.cell? ⟨g,o+k*9+3,none⟩=some (.int .i64 x.s.due):=hc 3 j7;have x4:wr.cell? ⟨g,o+k*9+4,none⟩=some x.v:=hc 4 j7;have x5:wr.cell? ⟨g,o+k*9+5,none⟩=some (.int .i64 x.s.total):=hc 5 j7;have x6:wr.cell? ⟨g,o+k*9+6,none⟩=some (.int .i64 x.s.credit):=hc 6 j7;have x7:wr.cell? ⟨g,o+k*9+7,none⟩=some (.int .i64 x.s.min):=hc 7 j7;have x8:wr.cell? ⟨g,o+k*9+8,none⟩=some (.bool x.s.grace):=hc 8 j7
 revert x0 x1 x2 x3 x4 x5 x6 x7 x8
 exact cZ.1):P:=h ⟨c⟩
theorem jT(h:Bx T->P:=by
 intro cZ;refine Cq rfl (λK hK=> ?_);go_simp;refine hK.out _ _ ?_;clear hK K;refine js ?_
 exact cZ.1):P:=h ⟨c⟩
theorem j2B(h:Bx T->P:=by
 intro cZ;refine jo ?_;have hk23:K0 W2 w3:=Hk3.o;have b0:w3.cell? ⟨w1.heap.size,0,none⟩=some (.int .i64 la):=(hk23.cell kl (by simp)).trans k0;have b1:w3.cell? ⟨w.heap.size,0,none⟩=some (.pointer (some ⟨J,0,none⟩)):=(hk23.cell (by have:=Hk12.o.size;simp;omega) (by simp)).trans k1;have b2:w3.cell? ⟨J,0,none⟩=some (.pointer (some ⟨P,0,none⟩)):=(hk23.cell (by have:=Hk12.o.size;simp;omega) (by simp)).trans k2;have b3:w3.cell? ⟨J,3,none⟩=some (.int .i64 (u:Int)):=((Keeps.nt Hk12.o hk23).cell lj (by simp)).trans a3;have Hk23:=Lib.hid hk23;clear hk23
 revert b0 b1 b2 b3 Hk23
 exact cZ.1):P:=h ⟨c⟩
theorem j4A(h:Bx T->P:=by
 intro cZ;have hput:=setRow_heap W4 (w.heap.size+1) #[.int .i64 0,.int .i64 0,.int .i64 0,.int .i64 0,.int .i64 0,.slice none 0 0,.int .i64 0,.int .i64 0,.slice none 0 0,.slice none 0 0,.int .i64 0,.int .i64 0,.int .i64 0,.int .i64 0,.int .i64 0,.slice none 0 0,.int .i64 0,.int .i64 0,.int .i64 0,.bool false] #[.int .i64 0,.int .i64 0,.int .i64 0,.int .i64 0,.int .i64 0,.slice none 0 0,.int .i64 0,.int .i64 0,.slice none 0 0,.slice none 0 0,.int .i64 0,.int .i64 0,.int .i64 0,.int .i64 0,.int .i64 0,.slice none 0 0,.int .i64 0,.int .i64 0,.int .i64 0,.bool false] 62 _ hR4
 revert hput
 exact cZ.1):P:=h ⟨c⟩
theorem j0J(h:Bx T->P:=by
 intro cZ;have r0:=Aa hrs8 0;have r1:=Aa hrs8 1;have r2:=Aa hrs8 2;have rf0:=Ab hrs8 0;have rf1:=Ab hrs8 1;have rf2:=Ab hrs8 2;have rl:=lt_of_block hrs8;refine ju ?_;intro sr0 sr1 sr2
 revert r0 r1 r2 rf0 rf1 rf2 rl sr0 sr1 sr2
 exact cZ.1):P:=h ⟨c⟩
theorem j4Q(h:Bx T->P:=by
 intro cZ;have hS3:=Ad hS2 hk3 nS;have hkw3:Keeps (PFoot P v) w w3:=(hkw2.mono (by simp)).trans (hk3.mono λi _ e=> .inl e);have hT3:=Ad (Ad HT1.o j56 (by simp)) hk3 (λe=>by have:=hfw _ e;omega);have hrow3:=hk3.row ((Keeps.alloc (S:=λ_=>False) w1 (.cells #[(.pointer (some ⟨P,0,none⟩)),.pointer none,.pointer none] 112)).row Hrow1.o (by simp)) (λk hk e=>by have:=Hnw.o k hk;have:=hfw k e;omega);have s1:=Aa hS3 1;have f1:=Ab hS3 1;have sl:=lt_of_block hS3
 revert hS3 hkw3 hT3 hrow3 s1 f1 sl
 exact cZ.1):P:=h ⟨c⟩
theorem j2Y(h:Bx T->P:=by
 intro cZ;have Hk1:=Lib.hid ((by(repeat (first|exact Keeps.refl _ _|exact Keeps.alloc _ _|exact Keeps.drew _|exact Keeps.drewN _ _|refine Keeps.Am ?_|refine Keeps.Al ?_|refine Keeps.Af ?_)):K0 w ((w.alloc (.cells #[.slice ad n cap,.int .i64 cr,.int .i64 du] 52)).alloc (.cells #[.slice none 0 0,.int .i64 0,.int .i64 0] 52))).nt hk1);refine j0F ?_;intro hrs
 revert Hk1 hrs
 exact cZ.1):P:=h ⟨c⟩
theorem j03(h:Bx T->P:=by
 intro cZ;have k:∀{p:Addr} {u:Value},W.cell? p=some u->W'.cell? p=some u:=λhc=>(hk.cell (Ag hc) (by simp)).trans hc
 revert k
 exact cZ.1):P:=h ⟨c⟩
theorem jh(h:Bx T->P:=by
 intro cZ
 try simp only [aps]
 refine jR ?_
 exact cZ.1):P:=h ⟨c⟩
theorem j2j(h:Bx T->P:=by
 intro cZ;have hfr2:=((hat.fr.set (g:=g) (j:=k) rfl (.int .i64 ((i:Int)+1))).set (g:=g) (j:=k+1) rfl (.int .i64 y)).keep (Keeps.drew _);have q1:(0:Int)<=y-1:=j8;have q2:y-1<(n:Int):=j8;have q3:(y-1).toNat=m:=j8;have q4:IntKind.i64.wrap (y-1)=y-1:=IntWalk.i64_in _ ⟨by omega,by omega⟩;have q5:IntKind.i64.wrap (k:Int)=(k:Int):=IntWalk.i64_in _ ⟨by omega,by omega⟩;have q6:(k:Int)+1<(i:Int)+1:=j8;have q7:(k:Int)<(i:Int)+1:=j8;have q8:((k:Int)+1).toNat=k+1:=j8;have q9:(0:Int)<=(k:Int)+1:=j8
 revert hfr2 q1 q2 q3 q4 q5 q6 q7 q8 q9
 exact cZ.1):P:=h ⟨c⟩
theorem jV(h:Bx T->P:=by
 intro cZ;have r0:=Aa hrs 0;have r1:=Aa hrs 1;have r2:=Aa hrs 2;have rf0:=Ab hrs 0;have rf1:=Ab hrs 1;have rf2:=Ab hrs 2;have rl:=lt_of_block hrs
 revert r0 r1 r2 rf0 rf1 rf2 rl
 exact cZ.1):P:=h ⟨c⟩
theorem j1e(h:Bx T->P:=by
 intro cZ
 repeat ((first|refine Bl rfl (by rfl) ?_|refine Be rfl (by rfl) ?_|(refine Bh (v:= ?_) rfl (by rfl) ?_ ?_;rotate_left;(· intro w' hSw;unfold bwS at hSw;go_simp;(try with_reducible rfl));rotate_right));try simp only [aps])
 exact cZ.1):P:=h ⟨c⟩
theorem j4R(h:Bx T->P:=by
 intro cZ;have hp4:=Hp3.o.keeps hk4 (λk hk e=>by have e':k=S:=e;exact nS (e'▸hk));have hrow4:=hk4.row Hrow3.o (λk hk e=>by have e':k=S:=e;exact Ai Hrow3.o HS3.o j7 (e'▸hk));have hkw4:Keeps (PFoot P v) w w4:=Hkw3.o.trans (hk4.mono λi _ e=> .inr j6);have hrd4:Reads w4 2 (.slice ad n cap) n (trs.flatMap Tn.cells):=Hr.o.keepB hkw4 (λg hg _ e=>Hsp.o g hg e);have t0:=Aa hT4 0;have t1:=Aa hT4 1;have t2:=Aa hT4 2;have t3:=Aa hT4 3;have t4:=Aa hT4 4;have t5:=Aa hT4 5;have t6:=Aa hT4 6;have tl:=lt_of_block hT4
 revert hp4 hrow4 hkw4 hrd4 t0 t1 t2 t3 t4 t5 t6 tl
 exact cZ.1):P:=h ⟨c⟩
theorem j3O(h:Bx T->P:=by
 intro cZ;have nx:∀{e:TypeId} {b:Nat} {c:Array Value},w4.heap[b]?=some (.cells c e (0,0))->e≠2->¬x.v.ownBlock=some b:=λhb hne=>Ai hrx hb hne;have nr:∀{e:TypeId} {sz m:Nat} {u:Value} {xs:List Value},w4.ownsRow 0 e sz u m xs->e≠2->∀b,u.ownBlock=some b->¬x.v.ownBlock=some b:=λhr' hne b hb e=>Ef hr' hrx hne hb e;have h5o0:=Ad h4.o0 hk5 (nx h4.o0 j7);have h5o1:=Ad h4.o1 hk5 (nx h4.o1 j7);have h5b:=Ad h4.blk hk5 (nx h4.blk j7)
 revert nx nr h5o0 h5o1 h5b
 exact cZ.1):P:=h ⟨c⟩
theorem j2I(h:Bx T->P:=by
 intro cZ;refine jR ?_;refine Ah rfl (λK hK=> ?_);rw [if_pos (by rfl)];refine wp_store_row 75 (.tmp 9) (.tmp 57) rfl w6.heap.size (b48 G).toArray rfl rfl 75 (b48 (List.replicate 48 0)).toArray Hb7.o Ay rfl (Dh _) ?_;have hs8:=Hs6.o.keep (Keeps.trans ((Keeps.alloc (S:=λ_=>False) w6 _).nt Hk7.o) ((Keeps.setRow w7 w6.heap.size (b48 G).toArray).mono λi _ e=> .inr (Nat.le_of_eq e.symm)));have hb8':=setRow_heap _ _ _ (b48 G).toArray _ _ Hb7.o;refine hK.out _ _ (by exact hs8) ?_;clear hK K;refine jh ?_
 revert hs8 hb8'
 exact cZ.1):P:=h ⟨c⟩
theorem j1U(h:Bx T->P:=by
 intro cZ
 repeat ((first|refine Bl rfl (by rfl) ?_|refine Be rfl (by rfl) ?_|(refine Bh (v:= ?_) rfl (by rfl) ?_ ?_;rotate_left;(· intro w' hSw;unfold wkS tbS at hSw;go_simp;(try with_reducible rfl));rotate_right));try simp only [aps])
 exact cZ.1):P:=h ⟨c⟩
theorem jj(h:Bx T->P:=by
 intro cZ;have R0':=Sr0.o;have R1':=Sr1.o;have R2':=Sr2.o
 revert R0' R1' R2'
 exact cZ.1):P:=h ⟨c⟩
theorem j0N(h:Bx T->P:=by
 intro cZ;have okx:ok _:=Hok.o _ (List.mem_of_getElem? hx);have oky:ok _:=Hok.o _ (List.mem_of_getElem? hy);have hS:=twoS.of (hrow.keep (Keeps.drew _)) hx hy;have hxd:=Er hx;have hyd:=Er hy
 revert okx oky hS hxd hyd
 exact cZ.1):P:=h ⟨c⟩
theorem j1y(h:Bx T->P:=by
 intro cZ;refine je ?_;intro K hK;refine hK.out _ _ (by exact hs8.keep (S:=λ_=>False) (Keeps.alloc _ _) (by simp) (by simp) (by simp)) ?_;clear hK K;refine jc ?_
 exact cZ.1):P:=h ⟨c⟩
theorem jF(h:Bx T->P:=by
 intro cZ;have sr0:=Aa hsr 0;have sr1:=Aa hsr 1;have sr2:=Aa hsr 2;have sr3:=Aa hsr 3;have sr4:=Aa hsr 4
 revert sr0 sr1 sr2 sr3 sr4
 exact cZ.1):P:=h ⟨c⟩
theorem j0M(h:Bx T->P:=by
 intro cZ;have hltI:(i:Int)<(j:Int):=j8;have hbhi:=hbs.hi';have hblo:=hbs.lo';obtain⟨h,hh⟩:∃h:Nat,((i:Int)+j) / 2=h:=⟨(i+j) / 2,by omega⟩;have hih:i<=h:=j8;have hhj:h<j:=j8
 revert hltI hbhi hblo h hh hih hhj
 exact cZ.1):P:=h ⟨c⟩
theorem j3q(h:Bx T->P:=by
 intro cZ;have sa0:=Aa (hr9') 0;have sa1:=Aa (hr9') 1;have sa2:=Aa (hr9') 2;have sa3:=Aa (hr9') 3;have sa4:=Aa (hr9') 4;have sa5:=Aa (hr9') 5;have sa6:=Aa (hr9') 6;have sa7:=Aa (hr9') 7;have sa8:=Aa (hr9') 8;have sb0:=Aa (hr10) 0;have sb1:=Aa (hr10) 1;have sb2:=Aa (hr10) 2;obtain⟨Sa0,Sa1,Sa2,Sa3,Sa4,Sa5,Sa6,Sa7,Sa8⟩:=hid9 sa0 sa1 sa2 sa3 sa4 sa5 sa6 sa7 sa8;clear sa8 sa7 sa6 sa5 sa4 sa3 sa2 sa1 sa0;obtain⟨Sb0,Sb1,Sb2⟩:=hid3 sb0 sb1 sb2;clear sb2 sb1 sb0
 revert Sa0 Sa1 Sa2 Sa3 Sa4 Sa5 Sa6 Sa7 Sa8 Sb0 Sb1 Sb2
 exact cZ.1):P:=h ⟨c⟩
theorem j3j(h:Bx T->P:=by
 intro cZ;have hkw:K0 w w1:=(by(repeat (first|exact Keeps.refl _ _|exact Keeps.alloc _ _|exact Keeps.drew _|exact Keeps.drewN _ _|refine Keeps.Am ?_|refine Keeps.Al ?_|refine Keeps.Af ?_)):K0 w ((w.alloc (.cells #[.slice ad n cap,.int .i64 cr,.int .i64 du] 52)).alloc (.cells #[.slice none 0 0,.int .i64 0,.int .i64 0] 52))).nt hk1
 revert hkw
 exact cZ.1):P:=h ⟨c⟩
theorem j3F(h:Bx T->P:=by
 intro cZ;have x0:wr.cell? ⟨g,o+j*5,none⟩=some (.int .i64 ki):=hc 0 j7;have x1:wr.cell? ⟨g,o+j*5+1,none⟩=some (.int .i64 da):=hc 1 j7;have x2:wr.cell? ⟨g,o+j*5+2,none⟩=some (.int .i64 tr):=hc 2 j7;have x3:wr.cell? ⟨g,o+j*5+3,none⟩=some (.int .i64 am):=hc 3 j7;have x4:wr.cell? ⟨g,o+j*5+4,none⟩=some (.int .i64 re):=hc 4 j7
 revert x0 x1 x2 x3 x4
 exact cZ.1):P:=h ⟨c⟩
theorem je(h:Bx T->P:=by
 intro cZ;refine jR ?_;refine ja ?_;intro K hK
 revert K hK
 exact cZ.1):P:=h ⟨c⟩
theorem j0F(h:Bx T->P:=by
 intro cZ;have hrs:w1.heap[w.heap.size+1]?=some (.cells #[.slice none 0 0,.int .i64 0,.int .i64 0] 52 (0,0)):=Ad (Av _ _ (by simp)) hk1 (by simp)
 revert hrs
 exact cZ.1):P:=h ⟨c⟩
theorem j4O(h:Bx T->P:=by
 intro cZ;have hrow1:=hnb.row;have hkw1:=Keeps.nt (Keeps.alloc (S:=λ_=>False) w (.cells #[.int .i64 li,.slice ad n cap,.int .i64 cy,.int .i64 du,.int .i64 mf,.int .i64 mp,.int .i64 st] 44)) hnb.kp;have hT1:=Ad (heap_alloc_new w (.cells #[.int .i64 li,.slice ad n cap,.int .i64 cy,.int .i64 du,.int .i64 mf,.int .i64 mp,.int .i64 st] 44)) hnb.kp (by simp)
 revert hrow1 hkw1 hT1
 exact cZ.1):P:=h ⟨c⟩
theorem j0l(h:Bx T->P:=by
 intro cZ;have hri:=λW (hW:K0 w W)=>Fq L cr du ad cap n W (hr.keeps hW (by simp)) hN hl
 revert hri
 exact cZ.1):P:=h ⟨c⟩
theorem j2F(h:Bx T->P:=by
 intro cZ;refine jc ?_;refine Ah rfl (λK hK=> ?_);rw [if_pos (by rfl)];refine wp_store_row 75 (.tmp 9) (.tmp 57) rfl w7.heap.size (b48 G).toArray rfl rfl 75 (b48 (List.replicate 48 0)).toArray (heap_alloc_new w7 _) Ay rfl (Dh _) ?_;refine hK.out _ _ (by exact Hs7.o.keep ((Keeps.alloc _ _).trans ((Keeps.setRow _ _ _).mono λi _ e=> .inr (Nat.le_of_eq e.symm)))) ?_;clear hK K;refine jh ?_
 exact cZ.1):P:=h ⟨c⟩
theorem j4q(h:Bx T->P:=by
 intro cZ;have nce:=(hst6).ce;have nec:¬E=C:=λe=>nce e.symm;have c0:=Aa (hst6).c 0;have c1:=Aa (hst6).c 1;have c2:=Aa (hst6).c 2;have c3:=Aa (hst6).c 3;have cl:=lt_of_block (hst6).c;have e0:=Aa (hst6).e 0;have e1:=Aa (hst6).e 1;have e2:=Aa (hst6).e 2;have e3:=Aa (hst6).e 3;have e4:=Aa (hst6).e 4;have el:=lt_of_block (hst6).e;have f0:=Ab (hst6).e 0;have f1:=Ab (hst6).e 1;have f2:=Ab (hst6).e 2;have f4:=Ab (hst6).e 4
 revert nce nec c0 c1 c2 c3 cl e0 e1 e2 e3 e4 el f0 f1 f2 f4
 exact cZ.1):P:=h ⟨c⟩
theorem j17(h:Bx T->P:=by
 intro cZ;have hmk:=fun(W:World)=>run_makeSlice (P:=Tryz.prog) W 50 2 i0 (.int .i64 0) Tryz.underlying50 hi hi0 .i64 .i64 (n:Int) (n:Int) j6 j6 (by rw [hi1];omega) (by rw [hi2];omega) j6
 revert hmk
 exact cZ.1):P:=h ⟨c⟩
theorem j01(h:Bx T->P:=by
 intro cZ;refine hK.out _ _ (by exact hs1.keep hk2 (by simp)) ?_
 exact cZ.1):P:=h ⟨c⟩
theorem j3X(h:Bx T->P:=by
 intro cZ;have hS4:=(show c4S B t.limit (.slice adT n cT) t.cyc t.due t.minFixed t.minPart t.start (.slice (some ⟨g0,0,none⟩) n n) (.slice (some ⟨g1,0,none⟩) n n) w2 from⟨Aa hr2.blk 0,Aa hr2.blk 1,Aa hr2.blk 2,Aa hr2.blk 3,Aa hr2.blk 4,Aa hr2.blk 5,Aa hr2.blk 6,Aa hr2.blk 14,Aa hr2.blk 15⟩).keep (Keeps.drew _)
 revert hS4
 exact cZ.1):P:=h ⟨c⟩
theorem j0W(h:Bx T->P:=by
 intro cZ;dsimp only;have hkr:K0 W2 w5:=Keeps.nt hkn hk7;refine hK.out _ _ (by exact HSk.o _ hkr) ?_
 revert hkr
 exact cZ.1):P:=h ⟨c⟩
theorem ju(h:Bx T->P:=by
 intro cZ;have sr0:=Aa hb9 0;have sr1:=Aa hb9 1;have sr2:=Aa hb9 2
 revert sr0 sr1 sr2
 exact cZ.1):P:=h ⟨c⟩
theorem j2a(h:Bx T->P:=by
 intro cZ;have hrun:=Nk (P:=P) w dT sT o.type elem size g off dLen dCap ad sLen sCap cur.toArray t cs hu hsz hg hn hsrc (by simpa using hfit) h1;unfold Oper.wp execOp;simp only [ho,resolve,invoke,builtin,Sem.run_bind,Sem.run_pure,Result.andThen_ok,List.map_toArray,List.map_cons,List.map_nil,hd,hs,hrun]
 revert hrun
 exact cZ.1):P:=h ⟨c⟩
theorem j4h(h:Bx T->P:=by
 intro cZ;have hAt:=H.o.keeps (S:=Foot b v) ((Hk0.o.mono (by simp)).trans (hk1.mono λi _ e=> .inl e)) λk hk e=>Hsep.o k e hk;have hRl:∀i,Foot b v i->i<w.heap.size:=Hb.o.lt;have hc1:=Ad Hc0.o hk1 (λe=>by have:=hRl _ e;omega);have hr1:=Ad Hr0.o hk1 (λe=>by have:=hRl _ e;omega);have c0:=Aa hc1 0;have cl:=lt_of_block hc1
 revert hAt hRl hc1 hr1 c0 cl
 exact cZ.1):P:=h ⟨c⟩
theorem j3d(h:Bx T->P:=by
 intro cZ;obtain⟨p1,r1,hp⟩:∃p1 r1,intoL B (rankL false R) m=(p1,r1):=⟨_,_,rfl⟩;obtain⟨q1,r2,hq⟩:∃q1 r2,intoL (List.zipWith (· - ·) B p1) (rankL true R) (a-m+r1)=(q1,r2):=⟨_,_,rfl⟩;have hpay:payL B R du a=(List.zipWith (·+·) p1 q1,m,r2):=by unfold payL;rw [hmin];simp only;rw [hp];simp only;rw [hq]
 rw [hpay]
 revert p1 r1 hp q1 r2 hq hpay
 exact cZ.1):P:=h ⟨c⟩
theorem j2N(h:Bx T->P:=by
 intro cZ
 repeat ((first|refine Bl rfl (by rfl) ?_|refine Be rfl (by rfl) ?_|(refine Bh (v:= ?_) rfl (by rfl) ?_ ?_;rotate_left;(· intro w' hSw;unfold onS at hSw;go_simp;(try with_reducible rfl));rotate_right));try simp only [aps])
 exact cZ.1):P:=h ⟨c⟩
theorem jc(h:Bx T->P:=by
 intro cZ
 try simp only [aps]
 exact cZ.1):P:=h ⟨c⟩
theorem j3i(h:Bx T->P:=by
 intro cZ;obtain⟨hb4,k4⟩:=Bw hb3 (.slice (some ⟨g,0,none⟩) n c) (.int .i64 cr) (.int .i64 du);have hS:∃W4,W4=(((w3.setCell ⟨w.heap.size,0,none⟩ (.slice (some ⟨g,0,none⟩) n c)).setCell ⟨w.heap.size,1,none⟩ (.int .i64 cr)).setCell ⟨w.heap.size,2,none⟩ (.int .i64 du)):=⟨_,rfl⟩;obtain⟨W4,hW4⟩:=hS
 revert hb4 k4 W4 hW4
 exact cZ.1):P:=h ⟨c⟩
theorem j4j(h:Bx T->P:=by
 intro cZ;have hr2:=Aq hr1 (.cells #[.int .i64 dr,.int .i64 dt,.int .i64 dd,.int .i64 da2,.int .i64 ds] 132);have hpo:=λV=>Le.put (V:=V) Hb.o Hk0.o hb1 hk1 hf1 (Keeps.alloc w1 (.cells #[.int .i64 dr,.int .i64 dt,.int .i64 dd,.int .i64 da2,.int .i64 ds] 132)) (R:=w.heap.size+1) (Nat.le_succ _) hs0
 revert hr2 hpo
 exact cZ.1):P:=h ⟨c⟩
theorem j32(h:Bx T->P:=by
 intro cZ;obtain⟨z,hz⟩:=eX (askE ⟨L,cr,du⟩ [k] a);have hask:=fun(W:World) (g:Nat) (hW:K0 w W) (hT:Reads W 1 (.slice (some ⟨g,0,none⟩) 1 1) 1 ([k].flatMap i64c))=>Jm L cr du a [k] ad (some ⟨g,0,none⟩) cap 1 n 1 W (hr.keeps hW (by simp)) hN hl hT rfl j7
 revert z hz hask
 exact cZ.1):P:=h ⟨c⟩
theorem j4P(h:Bx T->P:=by
 intro cZ;have hS2:=heap_alloc_new w1 (.cells #[(.pointer (some ⟨P,0,none⟩)),.pointer none,.pointer none] 112);have hkw2:=Keeps.nt Hkw1.o j56;refine(Hjo.o _ hkw2).mono ?_
 revert hS2 hkw2
 exact cZ.1):P:=h ⟨c⟩
theorem j0s(h:Bx T->P:=by
 intro cZ;have hpo:=((Hst2.o).done (D:=a.D) (V:= #[.int .i64 0,.int .i64 0,.int .i64 0,.int .i64 0,.int .i64 0]) Hb.o)
 revert hpo
 exact cZ.1):P:=h ⟨c⟩
theorem j0y(h:Bx T->P:=by
 intro cZ
 have hfw:∀k,PFoot P v k->k<w.heap.size:=by
  rintro k (rfl|hk)
  ·exact lt_of_block Hp.o.blk
  ·exact(Hp.o.row.lt k hk).2
 revert hfw
 exact cZ.1):P:=h ⟨c⟩
theorem jB(h:Bx T->P:=by
 intro cZ;refine hK _ _ ?_;refine Hfirst.o _ _ ?_
 exact cZ.1):P:=h ⟨c⟩
theorem j4v(h:Bx T->P:=by
 intro cZ;have hrel:CnRun W2 n Z (.pointer (some ⟨b7,0,none⟩)) vr2 vo2 (.int .i64 z2) ((((w5).setCell ⟨b7,0,none⟩ (.slice a2 n2 c2)).setCell ⟨b7,1,none⟩ (.int .i64 cr2)).setCell ⟨b7,2,none⟩ (.int .i64 du2)):=⟨b7,_,_,_,cr2,du2,z2,rfl,rfl,rfl,rfl,hb7l,hk4z,hbz,(hi2.lift hkz hl8 hka8 hb7l),_,_,_,rfl⟩
 revert hrel
 exact cZ.1):P:=h ⟨c⟩
theorem j0G(h:Bx T->P:=by
 intro cZ;have hown:=λW (hW:K0 w W)=>Jg L cr du (.slice ad n cap) n W (hr.keeps hW (by simp)) hl
 revert hown
 exact cZ.1):P:=h ⟨c⟩
theorem j4k(h:Bx T->P:=by
 intro cZ;have hsr:=setRow_heap _ (w.heap.size+1) #[.int .i64 0,.int .i64 0,.int .i64 0,.int .i64 0,.int .i64 0] #[.int .i64 0,.int .i64 0,.int .i64 0,.int .i64 0,.int .i64 0] 96 _ Hr2.o;refine jF ?_;intro sr0 sr1 sr2 sr3 sr4;obtain⟨Hsr,Sr0,Sr1,Sr2,Sr3,Sr4⟩:=hid6 hsr sr0 sr1 sr2 sr3 sr4;clear sr4 sr3 sr2 sr1 sr0 hsr
 revert Hsr Sr0 Sr1 Sr2 Sr3 Sr4
 exact cZ.1):P:=h ⟨c⟩
theorem j4m(h:Bx T->P:=by
 intro cZ;have nce:=(Hst1.o).ce;have nec:¬E=C:=λe=>nce e.symm;have c0:=Aa (Hst1.o).c 0;have c1:=Aa (Hst1.o).c 1;have c2:=Aa (Hst1.o).c 2;have c3:=Aa (Hst1.o).c 3;have cl:=lt_of_block (Hst1.o).c;have e0:=Aa (Hst1.o).e 0;have e1:=Aa (Hst1.o).e 1;have e2:=Aa (Hst1.o).e 2;have e3:=Aa (Hst1.o).e 3;have e4:=Aa (Hst1.o).e 4;have el:=lt_of_block (Hst1.o).e;have f0:=Ab (Hst1.o).e 0;have f1:=Ab (Hst1.o).e 1;have f2:=Ab (Hst1.o).e 2;have f4:=Ab (Hst1.o).e 4
 revert nce nec c0 c1 c2 c3 cl e0 e1 e2 e3 e4 el f0 f1 f2 f4
 exact cZ.1):P:=h ⟨c⟩
theorem j2z(h:Bx T->P:=by
 intro cZ;have k0:W2.cell? ⟨w1.heap.size,0,none⟩=some (.int .i64 la):=Aa hs6 0;have k1:W2.cell? ⟨w.heap.size,0,none⟩=some (.pointer (some ⟨J,0,none⟩)):=(hk12.cell lJ (by simp)).trans a0;have k2:W2.cell? ⟨J,0,none⟩=some (.pointer (some ⟨P,0,none⟩)):=(hk12.cell lj (by simp)).trans a2;have kl:=lt_of_block hs6;have hkw2:K0 w W2:=Keeps.nt Hkw1.o hk12
 revert k0 k1 k2 kl hkw2
 exact cZ.1):P:=h ⟨c⟩
theorem j4w(h:Bx T->P:=by
 intro cZ;have hrel:CnRun W2 n Z (.pointer (some ⟨b7,0,none⟩)) vr2 vo2 (.int .i64 z2) ((((w5).setCell ⟨b7,0,none⟩ (.slice a2 n2 c2)).setCell ⟨b7,1,none⟩ (.int .i64 cr2)).setCell ⟨b7,2,none⟩ (.int .i64 du2)):=⟨b7,_,_,_,cr2,du2,z2,rfl,rfl,rfl,rfl,hb7l,hk4z,hbz,(hi2.lift hkz hl4 hkn hb7l),_,_,_,rfl⟩
 revert hrel
 exact cZ.1):P:=h ⟨c⟩
theorem jz(h:Bx T->P:=by
 intro cZ;intro hfirst;have Hfirst:=Lib.hid hfirst;clear hfirst
 revert Hfirst
 exact cZ.1):P:=h ⟨c⟩
theorem j4S(h:Bx T->P:=by
 intro cZ;have hkw6:Keeps (PFoot P v) w w6:=Hkw4.o.trans (hk46.mono λi _ e=> .inr j6)
 have hA6:=HA5.o.keeps hk6 λb hb e=>by
  have e':b=S:=e;have hy:TyAt w5 b 112:=by rw [e'];exact⟨_,_,HS5.o⟩
  exact absurd (HA5.o.ty hb hy) j7
 revert hkw6 hA6
 exact cZ.1):P:=h ⟨c⟩
theorem j04(h:Bx T->P:=by
 intro cZ;have hlnE:=hln.of_keeps k5E;have hbnE:=hbn2.of_keeps k5E;have hs5:=hk5.size
 revert hlnE hbnE hs5
 exact cZ.1):P:=h ⟨c⟩
theorem jm(h:Bx T->P:=by
 intro cZ;refine jh ?_;refine Ao ?_
 exact cZ.1):P:=h ⟨c⟩
theorem j1C(h:Bx T->P:=by
 intro cZ;have b0':=Aa (Hbx.o w1 hk1) 0;have b1':=Aa (Hbx.o w1 hk1) 1;have bf:=Ab (Hbx.o w1 hk1) 1;have bll:=lt_of_block (Hbx.o w1 hk1)
 revert b0' b1' bf bll
 exact cZ.1):P:=h ⟨c⟩
theorem j3L(h:Bx T->P:=by
 intro cZ;have hmk:=fun(W:World)=>run_makeSlice (P:=Tryz.prog) W 186 50 i0 (.slice none 0 0) Tryz.underlying186 hi hi0 .i64 .i64 (n:Int) (n:Int) j6 j6 (by rw [hi1];omega) (by rw [hi2];omega) j6
 revert hmk
 exact cZ.1):P:=h ⟨c⟩
theorem j2y(h:Bx T->P:=by
 intro cZ;simp only [Tryz.ntmps60,List.size_toArray,List.length_cons,List.length_nil,Nat.reduceAdd,Nat.reduceSub,Array.replicate_succ,Array.replicate_zero,List.push_toArray,List.append_toArray,List.nil_append,List.cons_append];refine wpIn_wide.2 ?_
 exact cZ.1):P:=h ⟨c⟩
theorem j4r(h:Bx T->P:=by
 intro cZ
 repeat ((first|refine Bl rfl (by rfl) ?_|refine Be rfl (by rfl) ?_|(refine Bh (v:= ?_) rfl (by rfl) ?_ ?_;rotate_left;(· intro w' hSw;unfold rfcS at hSw;go_simp;(try with_reducible rfl));rotate_right));try simp only [aps])
 exact cZ.1):P:=h ⟨c⟩
theorem j3Y(h:Bx T->P:=by
 intro cZ;refine ja ?_;intro K hK;refine hK.out _ _ (by exact hs7.keep (Keeps.nt j1K (Keeps.alloc _ _))) ?_;clear hK K;refine jc ?_
 exact cZ.1):P:=h ⟨c⟩
theorem j4L(h:Bx T->P:=by
 intro cZ;refine jR ?_;refine Ea rfl (by rfl) w.heap.size rfl 23 #[.int .i64 ki,.int .i64 da,.int .i64 tr,.int .i64 am,.int .i64 re] _ _ (λw h=>h.2) Tryz.underlying23 rfl Xp ?_
 exact cZ.1):P:=h ⟨c⟩
theorem j10(h:Bx T->P:=by
 intro cZ;refine hK.out _ _ (by exact hs1.keep hk2 (by simp) (by simp)) ?_
 exact cZ.1):P:=h ⟨c⟩
theorem j28(h:Bx T->P:=by
 intro cZ;unfold Oper.wp execOp;simp only [ho,resolve,invoke,builtin,Sem.run_bind,Sem.run_pure,Result.andThen_ok,List.map_toArray,List.map_cons,List.map_nil,hs,hx,hr]
 exact cZ.1):P:=h ⟨c⟩
theorem j2x(h:Bx T->P:=by
 intro cZ;have hlen:∀W,K0 w W->Calls Tryz.prog 26 #[(.pointer (some ⟨P,0,none⟩))] W λe w'=>e= .returned (.int .i64 p.l.length)/\W=w':=λW hW=>(Kr P v p W (hp.keeps hW (by simp))).mono λe w' h=>⟨h.1,h.2.symm⟩;have m1:(1:Int)<=(m:Int):=j8
 revert hlen m1
 exact cZ.1):P:=h ⟨c⟩
theorem jo(h:Bx T->P:=by
 intro cZ;refine jR ?_;refine Ao ?_
 exact cZ.1):P:=h ⟨c⟩
theorem j44(h:Bx T->P:=by
 intro cZ;refine ja ?_;intro K hK;refine hK.out _ _ (by exact hs7.keep (Keeps.nt jM (Keeps.alloc _ _))) ?_;clear hK K;refine jc ?_
 exact cZ.1):P:=h ⟨c⟩
theorem j0A(h:Bx T->P:=by
 intro cZ;refine hK.out _ _ (by exact HS3.o.keep (Keeps.alloc _ _)) ?_
 exact cZ.1):P:=h ⟨c⟩
theorem js(h:Bx T->P:=by
 intro cZ;refine jc ?_;refine Ao ?_
 exact cZ.1):P:=h ⟨c⟩
theorem j2D(h:Bx T->P:=by
 intro cZ;have hJw:J<w.heap.size:=lt_of_block Hj.o.blk
 have hnJ0:¬PFoot P v J:=by
  rintro(e|e)
  ·have h1:=Hj.o.blk;rw [e,Hp.o.blk] at h1;simp at h1
  ·exact Ai Hp.o.row Hj.o.blk j7 e
 obtain⟨nb,hnb⟩:=eX w3.heap.size
 revert hJw hnJ0 nb hnb
 exact cZ.1):P:=h ⟨c⟩
theorem j09(h:Bx T->P:=by
 intro cZ;refine hK.out _ _ (by exact HSk.o _ hka8) ?_
 exact cZ.1):P:=h ⟨c⟩
theorem j3e(h:Bx T->P:=by
 intro cZ;have hqb:=Mg (B:=List.zipWith (· - ·) B p1) (O:=rankL true R) (a:=a-m+r1) (λx hx=>(hB2 x hx).1) j6 (by rw [hB2l];exact hokH);have hql:=Di (List.zipWith (· - ·) B p1) (rankL true R) (a-m+r1)
 revert hqb hql
 exact cZ.1):P:=h ⟨c⟩
theorem j3K(h:Bx T->P:=by
 intro cZ;have hnil:∀x∈List.replicate n si0,x=si0:=λx hx=>(List.mem_replicate.1 hx).2;have hget:∀(j:Nat) (x:SI),(List.replicate n si0)[j]?=some x->x=si0:=λj x hx=>hnil x (List.mem_of_getElem? hx)
 revert hnil hget
 exact cZ.1):P:=h ⟨c⟩
theorem j2t(h:Bx T->P:=by
 intro cZ
 have hb0:W1.heap[w.heap.size]?=some (.cells (b48 (List.replicate 48 0)).toArray 75 (0,0)):=by
  rw [hW1];exact Ad (heap_alloc_new w _) (Keeps.alloc (S:=λ_=>False) _ _) (by simp)
 revert hb0
 exact cZ.1):P:=h ⟨c⟩
theorem j1T(h:Bx T->P:=by
 intro cZ;have d0:=Aa hb 0;have d1:=Aa hb 1;have d2:=Aa hb 2;have e0:=Ab hb 0;have e1:=Ab hb 1;have e2:=Ab hb 2;have dl:=lt_of_block hb
 revert d0 d1 d2 e0 e1 e2 dl
 exact cZ.1):P:=h ⟨c⟩
theorem j2H(h:Bx T->P:=by
 intro cZ;have hs7:=(Hs6.o.keep (Keeps.alloc _ _)).keep hk7;have hb7:w7.heap[w6.heap.size]?=some (.cells (b48 (List.replicate 48 0)).toArray 75 (0,0)):=Ad (heap_alloc_new w6 _) hk7 (by simp);refine hK.out _ _ (by exact hs7) ?_
 revert hs7 hb7
 exact cZ.1):P:=h ⟨c⟩
theorem j4g(h:Bx T->P:=by
 intro cZ;obtain⟨W0,hW0⟩:=eY ((w.alloc (.cells #[.int .i64 ki,.int .i64 da,.int .i64 tr,.int .i64 am,.int .i64 re] 23)).alloc (.cells #[.int .i64 0,.int .i64 0,.int .i64 0,.int .i64 0,.int .i64 0] 96))
 revert W0 hW0
 exact cZ.1):P:=h ⟨c⟩
theorem j1Y(h:Bx T->P:=by
 intro cZ;have hpo:=((Hst3.o).done (D:=a.D) (V:= #[.int .i64 0,.int .i64 0,.int .i64 0,.int .i64 0,.int .i64 0]) Hb.o)
 revert hpo
 exact cZ.1):P:=h ⟨c⟩
theorem j0r(h:Bx T->P:=by
 intro cZ;have hev:=Ac.Vf hee;have hE0:=(Hstz.o).e;have hR0:=(Hstz.o).r
 revert hev hE0 hR0
 exact cZ.1):P:=h ⟨c⟩
theorem j2J(h:Bx T->P:=by
 intro cZ;refine ja ?_;intro K hK;refine hK.out _ _ (by exact Hs8.o.keep (Keeps.alloc (S:=λ_=>False) _ _) (by simp) (by simp)) ?_;clear hK K;refine jc ?_
 exact cZ.1):P:=h ⟨c⟩
theorem jZ(h:Bx T->P:=by
 intro cZ;refine hK.out _ _ (by exact hs3.keep hk4) ?_
 exact cZ.1):P:=h ⟨c⟩
end Go.Proofs.YtgbgmadkmabeeaaGreat
