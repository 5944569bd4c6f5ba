/- Part 14 of the proof of ReplayRuns: walks and plain laws. -/
import Derived.Test.YtgfkeeicjjbnpaaGreatReplayRunsQ13
set_option maxRecDepth 100000
set_option maxHeartbeats 3200000
namespace Go.Proofs.YtgfkeeicjjbnpaaGreat
open Go.RowKit
theorem Vl(g cap:Nat)(e:Ev)(L:List Ev)(w:World)(hr:w.ownsRow 0 32 5 (.slice (some ⟨g,0,none⟩) L.length cap) L.length (L.flatMap Ev.cells))(hl:L.length<=1000000):Calls Tryz.prog 172 #[.slice (some ⟨g,0,none⟩) L.length cap,e.agg] w (Ey w (putL L e)):=by
 obtain⟨i0,hi,hi0,hi1,hi2⟩:=info_parts Es;obtain⟨ki,da,tr,am,re⟩:=e;refine j1z ?_;intro hbS;obtain⟨n,hn⟩:∃n,L.length=n:=⟨_,rfl⟩;rw [hn] at hr hl⊢;have hnc:n<=cap:=by obtain⟨ad,c,he,h1,_⟩:=Ad hr;cases he;exact h1
 simp only [Ev.agg];obtain⟨Hi,Hi0,Hi1,Hi2,HbS,Hn,Hr⟩:=hid7 hi hi0 hi1 hi2 hbS hn hr;clear hr hn hbS hi2 hi1 hi0 hi;go_enter Tryz.func172,Tryz.ntmps172;go_wp2
 go_loopw [5] (λx wx=>∃k:Nat,x= .int .i64 (k:Nat)/\k<=n/\placeOf da L n=placeOf da L k/\Keeps (λ_=>False) (w.alloc (.cells #[.int .i64 ki,.int .i64 da,.int .i64 tr,.int .i64 am,.int .i64 re] 32)) wx) (λx _=>(intOf x).toNat)
 case atStart=>exact⟨n,rfl,Nat.le_refl _,rfl,Keeps.refl _ _⟩
 case round=>
  obtain⟨k,rfl,hkn,hp,hk⟩:=hrel;rcases k with _|k
  ·have h0:placeOf da L 0=0:=by cases L<;>rfl
   rw [h0] at hp;obtain⟨Hp,Hk,H0⟩:=hid3 hp hk h0;clear h0 hk hp;go_wp2_with fail;refine Ak (bxS w.heap.size ki da tr am re) (.take 0 (.take 1 (.take 2 (.take 3 (.take 4 (.take 5 (.take 6 (.take 7 (.take 8 (.take 9 (.take 10 (.take 11 (.take 12 .done))))))))))))) j4 j4 ?_ ?_
   ·exact HbS.out _ (Hk.out.nt (Keeps.drew _))
   intro w1 hs1 hk1;refine jf ?_;have Hk:=jW;clear hs1 hk1;go_wp2_with fail;by_cases hck:cap=0
   ·obtain rfl:n=0:=by omega
    subst hck;refine j6g ?_;intro hkn hlm hkI hkI0 hkI2 hend;have hsuf:Reads (w.alloc (.cells #[.int .i64 ki,.int .i64 da,.int .i64 tr,.int .i64 am,.int .i64 re] 32)) 5 (.slice (some ⟨g,0,none⟩) 0 0) (0) ((L.drop 0).flatMap Ev.cells):=by rw [List.drop_eq_nil_of_le jS];exact Reads.Ph (by simp)
    obtain⟨Hend,Hsuf,Hkn⟩:=hid3 hend hsuf hkn;clear hkn hsuf hend;refine Ak (bxS w.heap.size ki da tr am re) (.take 0 (.take 1 (.take 2 (.take 4 (.take 7 (.take 8 (.take 9 (.fork 3 (.move 5 (.move 6 (.move 10 (.take 11 .done)))) 5 (.move 3 (.move 6 (.move 10 (.take 11 .done)))))))))))) j4 j4 ?_ ?_
    ·exact j0z
    intro w1 hs1 hk1;refine j0A ?_;intro Hkw Hread;clear hs1 hk1;refine jR ?_;refine Bz ?_ ?_ (HbS.out _ Hkw.out)
    ·skip
     refine j2T ?_;intro K hK v2 w2 hown2 hk2 hf2 hfr2 hbs2;obtain⟨ad2,c2,rfl,_,_⟩:=Ad hown2;simp only [Nat.zero_add,List.nil_append] at hown2 hfr2⊢;refine jC ?_;clear hK K;refine j5 ?_;obtain⟨Hown2,Hfr2,Hbs2⟩:=hid3 hown2 hfr2 hbs2;clear hbs2 hfr2 hown2;clear hf2 hk2;refine j0B ?_;refine j2U ?_;intro K hK v3 w3 hown3 hk3 hf3 hfr3;exact j6i
    ·skip
     refine j0C ?_;refine j2V ?_;intro K hK v2 w2 hown2 hk2 hf2 hfr2 hbs2;obtain⟨ad2,c2,rfl,_,_⟩:=Ad hown2;refine j0D ?_;intro hbx2;simp only [Nat.zero_add,List.nil_append] at hown2 hfr2 hbx2⊢;refine jC ?_;clear hK K;refine j5 ?_;obtain⟨Hown2,Hfr2,Hbs2,Hbx2⟩:=hid4 hown2 hfr2 hbs2 hbx2;clear hbx2 hbs2 hfr2 hown2;clear hf2 hk2;refine j2W ?_;intro K hK v3 w3 hown3 hk3 hf3 hfr3;exact j6i
   ·have hck2:¬(cap:Int)=(0:Int):=j3;have hkn:0<=n:=j3;have hlm:0+1+(n-0)<=1000001:=j3;have hkI:(0:Int)<=(n:Int):=j3;have hkI0:(0:Int)<=(0:Int):=j3;have hkI2:(0:Int)<=(cap:Int):=j3
    have hend:∀v4 w4,World.ownsRow w4 0 32 5 v4 (0+1+(n-0)) ((L.take 0).flatMap Ev.cells++ [.int .i64 ki,.int .i64 da,.int .i64 tr,.int .i64 am,.int .i64 re]++(L.drop 0).flatMap Ev.cells)->Fresh (w.alloc (.cells #[.int .i64 ki,.int .i64 da,.int .i64 tr,.int .i64 am,.int .i64 re] 32)) w4 v4->Ey w (putL L ⟨ki,da,tr,am,re⟩) (.returned v4) w4:=by
     intro v4 w4 ho hf;have hp':=Hp.out;refine⟨v4,rfl, ?_,hf.up⟩;refine j1A ?_;intro hL;have hm:0+1+(n-0)=n+1:=j3;rw [hm] at ho;exact ho
    have hsuf:Reads (w.alloc (.cells #[.int .i64 ki,.int .i64 da,.int .i64 tr,.int .i64 am,.int .i64 re] 32)) 5 (.slice (some ⟨g,0*5,none⟩) (n-0) (cap-0)) (n-0) ((L.drop 0).flatMap Ev.cells):=by have:=((Reads.Ay Hr.out).sufL Ev.Aq 0 j1).alloc (.cells #[.int .i64 ki,.int .i64 da,.int .i64 tr,.int .i64 am,.int .i64 re] 32);rwa [Nat.zero_add] at this
    obtain⟨Hend,Hsuf,Hkn⟩:=hid3 hend hsuf hkn;clear hkn hsuf hend;refine Ak (bxS w.heap.size ki da tr am re) (.take 0 (.take 1 (.take 2 (.take 4 (.take 7 (.take 8 (.take 9 (.fork 3 (.move 5 (.move 6 (.move 10 (.take 11 .done)))) 5 (.move 3 (.move 6 (.move 10 (.take 11 .done)))))))))))) j4 j4 ?_ ?_
    ·exact j0z
    intro w1 hs1 hk1;refine j0A ?_;intro Hkw Hread;clear hs1 hk1;refine jR ?_;refine Bz ?_ ?_ (HbS.out _ Hkw.out)
    ·skip
     refine j2T ?_;intro K hK v2 w2 hown2 hk2 hf2 hfr2 hbs2;obtain⟨ad2,c2,rfl,_,_⟩:=Ad hown2;simp only [Nat.zero_add,List.nil_append] at hown2 hfr2⊢;refine jC ?_;clear hK K;refine j5 ?_;obtain⟨Hown2,Hfr2,Hbs2⟩:=hid3 hown2 hfr2 hbs2;clear hbs2 hfr2 hown2;clear hf2 hk2;refine j0B ?_;refine j2U ?_;intro K hK v3 w3 hown3 hk3 hf3 hfr3;exact j6j
    ·skip
     refine j0C ?_;refine j2V ?_;intro K hK v2 w2 hown2 hk2 hf2 hfr2 hbs2;obtain⟨ad2,c2,rfl,_,_⟩:=Ad hown2;refine j0D ?_;intro hbx2;simp only [Nat.zero_add,List.nil_append] at hown2 hfr2 hbx2⊢;refine jC ?_;clear hK K;refine j5 ?_;obtain⟨Hown2,Hfr2,Hbs2,Hbx2⟩:=hid4 hown2 hfr2 hbs2 hbx2;clear hbx2 hbs2 hfr2 hown2;clear hf2 hk2;refine j2W ?_;intro K hK v3 w3 hown3 hk3 hf3 hfr3;exact j6j
  ·obtain⟨⟨xk,xd,xt,xa,xf⟩,hx⟩:=Aj (L:=L) (k:=k) jG;have hgx:Keeps (λ_=>False) w wr:=(Keeps.alloc w _).nt hk;obtain⟨g',o',c',he,hc⟩:=((Reads.Ay Hr.out).keeps hgx (by simp)).elem Ev.Aq hx j2;simp only [Value.slice.injEq,true_and,Option.some.injEq,Addr.mk.injEq,and_true] at he;obtain⟨⟨rfl,rfl⟩,rfl⟩:=he;have x1:wr.cell? ⟨g,k*5+1,none⟩=some (.int .i64 xd):=by have:=hc 1 j2;rwa [Nat.zero_add] at this
   have hp2:placeOf da L (k+1)=if da<xd then placeOf da L k else k+1:=by simp only [placeOf,hx]
   have q1:IntKind.i64.wrap (((k+1:Nat):Int)-1)=(k:Int):=by rw [show((k+1:Nat):Int)-1=(k:Int) by omega];exact IntWalk.i64_in _ ⟨by omega,by omega⟩
   have q2:(0:Int)<((k+1:Nat):Int):=j3;have q3:(k:Int)<(n:Int):=j3;have q4:((k:Int)+1)-1=k:=j3;have q9:IntKind.i64.wrap (k:Int)=(k:Int):=IntWalk.i64_in _ ⟨by omega,by omega⟩;have hS:bxS1 w.heap.size ki da tr am re g (k*5+1) xd wr.drew:=⟨x1,(HbS.out _ hk).2.1⟩;clear hc x1;by_cases hd:da<xd
   ·rw [hp2,if_pos hd] at hp;have hdd:decide (da<xd)=true:=by simp [hd]
    obtain⟨Hp,Hk,Hp2,Hx,HS,Hgx⟩:=hid6 hp hk hp2 hx hS hgx;clear hgx hS hx hp2 hk hp;go_wp2_with fail;refine Ak (bxS1 w.heap.size ki da tr am re g (k*5+1) xd) (.take 0 (.take 1 (.take 2 (.take 3 (.take 4 (.take 5 (.take 6 (.take 7 (.take 8 (.take 9 (.take 10 (.take 11 (.take 12 .done))))))))))))) j4 j4 ?_ ?_
    ·exact HS.out
    intro w1 hs1 hk1;refine jf ?_;have Hk:=jW;clear hs1 hk1;go_wp2_with fail;go_roundw
    case rel=>exact⟨k,by go_num,by omega,Hp.out,Hk.out⟩
    case measure=>simp [intOf]
   ·rw [hp2,if_neg hd] at hp;have hdd:decide (da<xd)=false:=by simp;omega
    obtain⟨Hp,Hk,Hp2,Hx,HS,Hgx⟩:=hid6 hp hk hp2 hx hS hgx;clear hgx hS hx hp2 hk hp;go_wp2_with fail;refine Ak (bxS1 w.heap.size ki da tr am re g (k*5+1) xd) (.take 0 (.take 1 (.take 2 (.take 3 (.take 4 (.take 5 (.take 6 (.take 7 (.take 8 (.take 9 (.take 10 (.take 11 (.take 12 .done))))))))))))) j4 j4 ?_ ?_
    ·exact HS.out
    intro w1 hs1 hk1;refine jf ?_;have Hk:=jW;clear hs1 hk1;go_wp2_with fail;by_cases hck:cap=(k+1)
    ·obtain rfl:n=(k+1):=by omega
     subst hck;have hkn:(k+1)<=(k+1):=j3;have hlm:(k+1)+1+(0)<=1000001:=j3;have hkI:((k+1):Int)<=((k+1):Int):=j3;have hkI0:(0:Int)<=((k+1):Int):=j3;have hkI2:((k+1):Int)<=((k+1):Int):=j3
     have hend:∀v4 w4,World.ownsRow w4 0 32 5 v4 ((k+1)+1+(0)) ((L.take (k+1)).flatMap Ev.cells++ [.int .i64 ki,.int .i64 da,.int .i64 tr,.int .i64 am,.int .i64 re]++(L.drop (k+1)).flatMap Ev.cells)->Fresh (w.alloc (.cells #[.int .i64 ki,.int .i64 da,.int .i64 tr,.int .i64 am,.int .i64 re] 32)) w4 v4->Ey w (putL L ⟨ki,da,tr,am,re⟩) (.returned v4) w4:=by
      intro v4 w4 ho hf;have hp':=Hp.out;refine⟨v4,rfl, ?_,hf.up⟩;refine j1A ?_;intro hL;have hm:(k+1)+1+(0)=(k+1)+1:=j3;rw [hm] at ho;exact ho
     have hsuf:Reads (w.alloc (.cells #[.int .i64 ki,.int .i64 da,.int .i64 tr,.int .i64 am,.int .i64 re] 32)) 5 (.slice (some ⟨g,0,none⟩) 0 0) (0) ((L.drop (k+1)).flatMap Ev.cells):=by rw [List.drop_eq_nil_of_le jS];exact Reads.Ph (by simp)
     obtain⟨Hend,Hsuf,Hkn⟩:=hid3 hend hsuf hkn;clear hkn hsuf hend;refine Ak (bxS w.heap.size ki da tr am re) (.take 0 (.take 1 (.take 2 (.take 4 (.take 7 (.take 8 (.take 9 (.fork 3 (.move 5 (.move 6 (.move 10 (.take 11 .done)))) 5 (.move 3 (.move 6 (.move 10 (.take 11 .done)))))))))))) j4 j4 ?_ ?_
     ·exact j0z
     intro w1 hs1 hk1;refine j0A ?_;intro Hkw Hread;clear hs1 hk1;refine jR ?_;refine Bz ?_ ?_ (HbS.out _ Hkw.out)
     ·skip
      refine j6k ?_;intro K hK v2 w2 hown2 hk2 hf2 hfr2 hbs2;obtain⟨ad2,c2,rfl,_,_⟩:=Ad hown2;simp only [Nat.zero_add,List.nil_append] at hown2 hfr2⊢;refine jC ?_;clear hK K;refine j5 ?_;obtain⟨Hown2,Hfr2,Hbs2⟩:=hid3 hown2 hfr2 hbs2;clear hbs2 hfr2 hown2;clear hf2 hk2;refine j0B ?_;refine j6l ?_;intro K hK v3 w3 hown3 hk3 hf3 hfr3;exact j6m
     ·skip
      refine j0C ?_;refine j6n ?_;intro K hK v2 w2 hown2 hk2 hf2 hfr2 hbs2;obtain⟨ad2,c2,rfl,_,_⟩:=Ad hown2;refine j0D ?_;intro hbx2;simp only [Nat.zero_add,List.nil_append] at hown2 hfr2 hbx2⊢;refine jC ?_;clear hK K;refine j5 ?_;obtain⟨Hown2,Hfr2,Hbs2,Hbx2⟩:=hid4 hown2 hfr2 hbs2 hbx2;clear hbx2 hbs2 hfr2 hown2;clear hf2 hk2;refine jk ?_;intro K hK;refine j6o ?_;intro v3 w3 hown3 hk3 hf3;have hfr3:=Hfr2.out.app hk3 hf3;exact j6m
    ·have hck2:¬(cap:Int)=((k+1):Int):=j3;have hkn:(k+1)<=n:=j3;have hlm:(k+1)+1+(n-(k+1))<=1000001:=j3;have hkI:((k+1):Int)<=(n:Int):=j3;have hkI0:(0:Int)<=((k+1):Int):=j3;have hkI2:((k+1):Int)<=(cap:Int):=j3
     have hend:∀v4 w4,World.ownsRow w4 0 32 5 v4 ((k+1)+1+(n-(k+1))) ((L.take (k+1)).flatMap Ev.cells++ [.int .i64 ki,.int .i64 da,.int .i64 tr,.int .i64 am,.int .i64 re]++(L.drop (k+1)).flatMap Ev.cells)->Fresh (w.alloc (.cells #[.int .i64 ki,.int .i64 da,.int .i64 tr,.int .i64 am,.int .i64 re] 32)) w4 v4->Ey w (putL L ⟨ki,da,tr,am,re⟩) (.returned v4) w4:=by
      intro v4 w4 ho hf;have hp':=Hp.out;refine⟨v4,rfl, ?_,hf.up⟩;refine j1A ?_;intro hL;have hm:(k+1)+1+(n-(k+1))=n+1:=j3;rw [hm] at ho;exact ho
     have hsuf:Reads (w.alloc (.cells #[.int .i64 ki,.int .i64 da,.int .i64 tr,.int .i64 am,.int .i64 re] 32)) 5 (.slice (some ⟨g,(k+1)*5,none⟩) (n-(k+1)) (cap-(k+1))) (n-(k+1)) ((L.drop (k+1)).flatMap Ev.cells):=by have:=((Reads.Ay Hr.out).sufL Ev.Aq (k+1) j1).alloc (.cells #[.int .i64 ki,.int .i64 da,.int .i64 tr,.int .i64 am,.int .i64 re] 32);rwa [Nat.zero_add] at this
     obtain⟨Hend,Hsuf,Hkn⟩:=hid3 hend hsuf hkn;clear hkn hsuf hend;refine Ak (bxS w.heap.size ki da tr am re) (.take 0 (.take 1 (.take 2 (.take 4 (.take 7 (.take 8 (.take 9 (.fork 3 (.move 5 (.move 6 (.move 10 (.take 11 .done)))) 5 (.move 3 (.move 6 (.move 10 (.take 11 .done)))))))))))) j4 j4 ?_ ?_
     ·exact j0z
     intro w1 hs1 hk1;refine j0A ?_;intro Hkw Hread;clear hs1 hk1;refine jR ?_;refine Bz ?_ ?_ (HbS.out _ Hkw.out)
     ·skip
      refine j6k ?_;intro K hK v2 w2 hown2 hk2 hf2 hfr2 hbs2;obtain⟨ad2,c2,rfl,_,_⟩:=Ad hown2;simp only [Nat.zero_add,List.nil_append] at hown2 hfr2⊢;refine jC ?_;clear hK K;refine j5 ?_;obtain⟨Hown2,Hfr2,Hbs2⟩:=hid3 hown2 hfr2 hbs2;clear hbs2 hfr2 hown2;clear hf2 hk2;refine j0B ?_;refine j6l ?_;intro K hK v3 w3 hown3 hk3 hf3 hfr3;exact j6p
     ·skip
      refine j0C ?_;refine j6n ?_;intro K hK v2 w2 hown2 hk2 hf2 hfr2 hbs2;obtain⟨ad2,c2,rfl,_,_⟩:=Ad hown2;refine j0D ?_;intro hbx2;simp only [Nat.zero_add,List.nil_append] at hown2 hfr2 hbx2⊢;refine jC ?_;clear hK K;refine j5 ?_;obtain⟨Hown2,Hfr2,Hbs2,Hbx2⟩:=hid4 hown2 hfr2 hbs2 hbx2;clear hbx2 hbs2 hfr2 hown2;clear hf2 hk2;refine jk ?_;intro K hK;refine j6o ?_;intro v3 w3 hown3 hk3 hf3;have hfr3:=Hfr2.out.app hk3 hf3;exact j6p
theorem Vn(e:Ev)(L:List Ev)(v:Value)(w:World)(hr:w.ownsRow 0 32 5 v L.length (L.flatMap Ev.cells))(hl:L.length<=1000000):Calls Tryz.prog 172 #[v,e.agg] w (Ey w (putL L e)):=by
 rcases id hr.2 with⟨h1,h2⟩|⟨g,cap,cur,rfl,_⟩
 ·obtain rfl:L= []:=List.eq_nil_of_length_eq_zero h2;subst h1;exact Vm e w
 ·exact Vl g cap e L w hr hl
def Gath(w:World)(M:List Ev)(v:Value)(W:World):Prop:=W.ownsRow 0 32 5 v M.length (M.flatMap Ev.cells)/\Fresh w W v
theorem Gath.nil(w:World):Gath w [] (.slice none 0 0) w:=⟨World.ownsRow_nil _ _ _ _,Fresh.nil w⟩
theorem Gath.keep{w W W':World}{M:List Ev}{v:Value}(h:Gath w M v W)(hk:Keeps (λ_=>False) W W'):Gath w M v W':=⟨h.1.of_keeps hk,h.2.keep hk⟩
theorem Tj(L:List Ev)(ad:Option Addr)(cap:Nat)(w:World)(hr:Reads w 5 (.slice ad L.length cap) L.length (L.flatMap Ev.cells))(hl:L.length<=1000000):Calls Tryz.prog 110 #[.slice ad L.length cap] w (Ey w (sortL L)):=by
 obtain⟨n,hn⟩:∃n,L.length=n:=⟨_,rfl⟩;rw [hn] at hr hl⊢;obtain⟨Hn,Hr⟩:=hid2 hn hr;clear hr hn;go_enter Tryz.func110,Tryz.ntmps110;go_wp2
 go_loopw [3,4] (λx y wx=>∃(i:Nat) (M:List Ev),y= .int .i64 (i:Nat)/\i<=n/\sortL (L.take i)=M/\M.length=i/\Gath w M x wx) (λ_ y _=>n-(intOf y).toNat)
 case atStart=>exact⟨0, [],rfl,Nat.zero_le _,rfl,rfl,Gath.nil w⟩
 case round=>
  obtain⟨i,M,rfl,hin,hM,hq,hg⟩:=hrel;by_cases hlt:i<n
  ·obtain⟨x,hx⟩:=Aj (L:=L) (k:=i) jy;obtain⟨g,o,c',he,hc⟩:=(Hr.out.keeps hg.2.1 (by simp)).elem Ev.Aq hx j2;simp only [Value.slice.injEq,true_and] at he;obtain⟨rfl,rfl⟩:=he;have hput:=Vn x M _ wr hg.1 j1;have hp2:=Xj (L.take i) x;rw [<-take_snoc' hx,hM] at hp2;obtain⟨xk,xd,xt,xa,xf⟩:=x;have x0:wr.cell? ⟨g,o+i*5,none⟩=some (.int .i64 xk):=hc 0 j2;have x1:wr.cell? ⟨g,o+i*5+1,none⟩=some (.int .i64 xd):=hc 1 j2;have x2:wr.cell? ⟨g,o+i*5+2,none⟩=some (.int .i64 xt):=hc 2 j2;have x3:wr.cell? ⟨g,o+i*5+3,none⟩=some (.int .i64 xa):=hc 3 j2;have x4:wr.cell? ⟨g,o+i*5+4,none⟩=some (.int .i64 xf):=hc 4 j2;have hgl:=Ai x0;obtain⟨adv,cv,rfl,_,_⟩:=Ad hg.1;have hlen:(putL M ⟨xk,xd,xt,xa,xf⟩).length=i+1:=by rw [Dj,hq]
   clear hc;rw [hq] at hput⊢;simp only [Ev.agg] at hput;obtain⟨Hg,HM,Hx,Hq,Hp2,Hput,Hlen⟩:=hid7 hg hM hx hq hp2 hput hlen;clear hlen hput hp2 hq hx hM hg
   go_wp2_with (go_at_call 172;(with_reducible refine Hput.out.mono ?_);rintro e w4 ⟨v4,rfl,hown4,hfr4⟩;have hg4:Gath w _ v4 w4:=⟨hown4,Hg.out.2.1.nt hfr4.1,λg hg=>by have:=hfr4.2 g hg;have:=Hg.out.2.1.size;omega⟩;obtain⟨ad4,c4,rfl,_,_⟩:=Ad hown4;have Hg4:=Lib.hid hg4;clear hown4 hfr4 hg4)
   go_roundw
   case rel=>exact⟨i+1,_,by go_num,by omega,Hp2.out,Hlen.out,Hg4.out⟩
   case measure=>simp [intOf];omega
  ·obtain rfl:i=n:=by omega
   rw [List.take_of_length_le jS] at hM;obtain⟨adv,cv,rfl,_,_⟩:=Ad hg.1;obtain⟨Hg,HM,Hq⟩:=hid3 hg hM hq;clear hq hM hg;go_wp2;go_ret;exact⟨_,rfl,by rw [HM.out];exact Hg.out.1,Hg.out.2⟩
structure AllAt(A:List (Int×Int))(cd day:Int)(i:Nat)(fr:Int):Prop where
 le:i<=A.length
 more:i<A.length->i<300/\A.drop i=(findW cd day (300-i) fr).1
theorem AllAt.next{A:List (Int×Int)}{cd day:Int}{i:Nat}{fr:Int}(h:AllAt A cd day i fr)(hi:i<A.length):lastE fr cd=0/\A[i]?=some (fr,lastF fr cd)/\AllAt A cd day (i+1) (lastF fr cd+1):=by
 obtain⟨le,more⟩:=h;obtain⟨h3,hd⟩:=more hi;obtain⟨f,hf⟩:∃f,300-i=f+1:=⟨300-i-1,by omega⟩;rw [hf] at hd;have hcons:A.drop i=A[i]::A.drop (i+1):=List.drop_eq_getElem_cons hi;rw [hcons] at hd;by_cases he:lastE fr cd=0
 ·by_cases hg:lastF fr cd<day/\f≠0
  ·rw [Jp he hg] at hd;simp only [List.cons.injEq] at hd;refine⟨he,by rw [List.getElem?_eq_getElem hi,hd.1],hi,λh=>⟨by omega, ?_⟩⟩;rw [hd.2,show 300-(i+1)=f by omega]
  ·rw [Dy he hg] at hd;simp only [List.cons.injEq] at hd;have hl:=congrArg List.length hd.2;rw [List.length_drop] at hl;simp only [List.length_nil] at hl;exact⟨he,by rw [List.getElem?_eq_getElem hi,hd.1],hi,λh=>by omega⟩
 ·rw [Jw he] at hd
  cases hd
theorem Vo(st cd day:Int)(w:World):Calls Tryz.prog 112 #[.int .i64 st,.int .i64 cd,.int .i64 day] w λe w'=>∃v,e= .returned v/\w'.ownsRow 0 55 2 v (if ofE st cd day=0 then allL st cd day else []).length ((if ofE st cd day=0 then allL st cd day else []).flatMap spc)/\Fresh w w' v:=by
 obtain⟨i0,hi,hi0,hi1,hi2⟩:=info_parts Qm;obtain⟨R,hR⟩:∃R,findW cd day 300 st=R:=⟨_,rfl⟩;have hof:=Pz st cd day w;have hV:=ofV_R hR;have hEd:ofE st cd day=if lastE st cd=0 then(if R.2=true then 0 else 10) else lastE st cd:=by unfold ofE;rw [hR]
 have hAd:allL st cd day=if R.2=true then R.1 else []:=by unfold allL;rw [hR]
 obtain⟨E,hE⟩:∃z,ofE st cd day=z:=⟨_,rfl⟩;obtain⟨V,hVv⟩:∃z,ofV st cd day=z:=⟨_,rfl⟩;rw [hE] at hof hV hEd⊢;rw [hVv] at hof hV;rw [hAd];by_cases h0:E=0
 ·subst h0;rw [if_pos rfl] at hV⊢;subst hV
  have hb:R.2=true:=by
   by_cases h1:lastE st cd=0
   ·rw [if_pos h1] at hEd;rcases hh:R.2 with _|_
    ·rw [hh] at hEd;cases hEd
    ·rfl
   ·rw [if_neg h1] at hEd;exact absurd hEd.symm h1
  rw [if_pos hb];obtain⟨A,hA⟩:∃A,R.1=A:=⟨_,rfl⟩;rw [hA] at hof⊢;obtain⟨m,hm⟩:∃m,A.length=m:=⟨_,rfl⟩;have hall:AllAt A cd day 0 st:=⟨Nat.zero_le _,λ_=>⟨by omega,by rw [<-hA,<-hR];rfl⟩⟩
  have hm3:m<=1000000:=by
   have h1:∀f fr,(findW cd day f fr).1.length<=f:=by
    intro f
    induction f with
    |zero=>intro fr;exact Nat.le_refl _
    |succ f ih=>
     intro fr;by_cases he:lastE fr cd=0
     ·by_cases hg:lastF fr cd<day/\f≠0
      ·rw [Jp he hg,List.length_cons];have:=ih (lastF fr cd+1);omega
      ·rw [Dy he hg];simp
     ·rw [Jw he];simp
   have:=h1 300 st;rw [hR,hA,hm] at this;omega
  rw [hm] at hof⊢;obtain⟨Hof,HE,HEd,HAd,HVv,HR,Hb,HA,Hm⟩:=hid9 hof hE hEd hAd hVv hR hb hA hm;clear hm hA hb hR hVv hAd hEd hE hof;obtain⟨Hall,Hi,Hi0,Hi1,Hi2⟩:=hid5 hall hi hi0 hi1 hi2;clear hi2 hi1 hi0 hi hall;go_enter Tryz.func112,Tryz.ntmps112;go_wp2_with fail;refine Hof.out.mono ?_;rintro e w1 ⟨rfl,hk1⟩;have Hk1:=Lib.hid hk1;clear hk1;go_wp2
  go_loopw [9,10,11] (λx y z wx=>∃(i:Nat) (fr:Int),y= .int .i64 fr/\z= .int .i64 (i:Nat)/\AllAt A cd day i fr/\wx.ownsRow 0 55 2 x i ((A.take i).flatMap spc)/\Fresh w wx x) (λ_ _ z _=>m-(intOf z).toNat)
  case atStart=>exact⟨0,st,rfl,rfl,Hall.out,World.ownsRow_nil _ _ _ _,Hk1.out,by simp [Value.ownBlock]⟩
  case round=>
   obtain⟨i,fr,rfl,rfl,hat,hrow,hfr⟩:=hrel;have him:=hat.le;rw [Hm.out] at him;obtain⟨ad,cap,hv,_,_⟩:=Ad hrow;subst hv;refine jc ?_;intro wq hwq;subst hwq;by_cases hlt:i<m
   ·have hltI:(i:Int)<(m:Int):=j3;obtain⟨he,hx,hnx⟩:=hat.next (by rw [Hm.out];exact hlt);have hla:=Lg fr cd wq;obtain⟨F,hF⟩:∃F,lastF fr cd=F:=⟨_,rfl⟩;have hv:lastV fr cd=F:=by unfold lastV;rw [if_pos he,hF]
    obtain⟨o1,o2,o3,o4,o5,o6⟩:=Qj he;rw [hv,he] at hla;rw [hF] at hx hnx o5 o6;have htk:=take_snoc' hx;clear o1 o2;obtain⟨Hat,Hrow,Hfr,He,Hx,Hnx,Hla,HF,Hv⟩:=hid9 hat hrow hfr he hx hnx hla hF hv;clear hv hF hla hnx hx he hfr hrow hat;have Htk:=Lib.hid htk;clear htk;go_wp2_with fail
    with_reducible refine Hla.out.mono ?_
    rintro e w2 ⟨rfl,hk2⟩;have Hrow2:=Lib.hid (Hrow.out.of_keeps hk2);have Hfr2:=Lib.hid (Hfr.out.keep hk2);clear hk2
    go_wp2_with (at_builtin;refine Ba rfl (.tmp 35) (.tmp 39) 173 rfl 0 55 i0 _ 2 16 Tryz.underlying173 Hi.out Hi0.out Hi1.out Hi2.out rfl j2 _ i _ rfl (Hrow2.out.alloc _) _ 1 _ rfl (Reads.litAt _ _ _ 2 1 _ jd rfl) j9 j6 j1 (Nat.zero_le _) ?_;intro v4 w4 hown4 hk4 hf4;have hfr4:=(Hfr2.out.keep (Keeps.alloc _ _)).app hk4 hf4;obtain⟨ad4,c4,rfl,_,_⟩:=Ad hown4;have Hown4:=Lib.hid hown4;have Hfr4:=Lib.hid hfr4;clear hown4 hk4 hf4 hfr4)
    go_roundw
    case rel=>exact⟨i+1,F+1,rfl,by go_num,Hnx.out,by rw [Htk.out,List.flatMap_append];exact Hown4.out,Hfr4.out⟩
    case measure=>simp [intOf];omega
   ·obtain rfl:i=m:=by omega
    rw [List.take_of_length_le (by rw [Hm.out];exact Nat.le_refl _)] at hrow;obtain⟨Hat,Hrow,Hfr⟩:=hid3 hat hrow hfr;clear hfr hrow hat;exact j2A
 ·rw [if_neg h0] at hV⊢;subst hV;have hEI:(E !=0)=true:=by simp [h0]
  obtain⟨Hof,HE,HEd,HAd,HVv,HR⟩:=hid6 hof hE hEd hAd hVv hR;clear hR hVv hAd hEd hE hof;go_enter Tryz.func112,Tryz.ntmps112;go_wp2_with fail;refine Hof.out.mono ?_;rintro e w1 ⟨rfl,hk1⟩;have Hk1:=Lib.hid hk1;clear hk1;go_wp2;go_ret;exact⟨_,rfl,World.ownsRow_nil _ _ _ _,Hk1.out,by simp [Value.ownBlock]⟩
def j10S(B g o b3:Nat)(vr vt:Value)(x:Int)(W:World):Prop:=W.cell? ⟨B,3,none⟩=some vr/\W.cell? ⟨b3,1,none⟩=some vt/\W.cell? ⟨g,o,none⟩=some (.int .i64 x)
theorem j10S.keep{B g o b3:Nat}{vr vt:Value}{x:Int}{W W':World}{S:Nat->Prop}(h:j10S B g o b3 vr vt x W)(hk:Keeps S W W')(h1:¬S B)(h2:¬S b3)(h3:¬S g):j10S B g o b3 vr vt x W':=
 ⟨(hk.cell (Ai h.1) h1).trans h.1,(hk.cell (Ai h.2.1) h2).trans h.2.1,(hk.cell (Ai h.2.2) h3).trans h.2.2⟩
theorem extL_mem{D:List (List Int)}{V:List Int}{n:Nat}(h1:V.length=n)(h2:D.length=n):(extL D V n).length=n/\∀r∈extL D V n,∃r0∈D,∃v,r=r0++ [v]:=by
 rw [Jy h1 h2];refine⟨by rw [List.length_zipWith];omega,λr hr=> ?_⟩;obtain⟨k,hk,rfl⟩:=List.getElem_of_mem hr;rw [List.getElem_zipWith];exact⟨_,List.getElem_mem _,_,rfl⟩
theorem Ws{α:Type}{L:List α}{i:Nat}{x:α}(h:L[i]?=some x):L.drop i=x::L.drop (i+1):=by
 obtain⟨h1,h2⟩:=List.getElem?_eq_some_iff.1 h;rw [List.drop_eq_getElem_cons h1,h2]
theorem Xo{t:Tm}{L:List Ev}{td:Int}(h:Cs t L td=0):ofE t.start t.cyc td=0:=by
 rw [Rs] at h;by_cases h0:ofE t.start t.cyc td=0
 ·exact h0
 ·exfalso;rw [if_pos h0] at h
  split at h
  ·split at h
   ·omega
   ·split at h<;>omega
  ·rename_i h1;exact h1 h
def j19S(B g o:Nat)(vb vr:Value)(cr du:Int)(x:Ev)(W:World):Prop:=W.cell? ⟨B,0,none⟩=some vb/\W.cell? ⟨B,1,none⟩=some (.int .i64 cr)/\W.cell? ⟨B,2,none⟩=some (.int .i64 du)/\W.cell? ⟨B,3,none⟩=some vr/\W.cell? ⟨g,o,none⟩=some (.int .i64 x.kind)/\W.cell? ⟨g,o+1,none⟩=some (.int .i64 x.day)/\W.cell? ⟨g,o+2,none⟩=some (.int .i64 x.tranche)/\W.cell? ⟨g,o+3,none⟩=some (.int .i64 x.amount)/\W.cell? ⟨g,o+4,none⟩=some (.int .i64 x.ref)
theorem j19S.keep{B g o:Nat}{vb vr:Value}{cr du:Int}{x:Ev}{W W':World}(h:j19S B g o vb vr cr du x W)(hk:Keeps (λ_=>False) W W'):j19S B g o vb vr cr du x W':=by
 exact j2o
theorem j19S.keepS{B g o:Nat}{vb vr:Value}{cr du:Int}{x:Ev}{W W':World}{S:Nat->Prop}(h:j19S B g o vb vr cr du x W)(hk:Keeps S W W')(n1:¬S B)(n2:¬S g):j19S B g o vb vr cr du x W':=by
 obtain⟨h1,h2,h3,h4,h5,h6,h7,h8,h9⟩:=h;have k:∀{p:Addr} {u:Value},W.cell? p=some u->¬S p.block->W'.cell? p=some u:=λhc hn=>(hk.cell (Ai hc) hn).trans hc;exact⟨k h1 n1,k h2 n1,k h3 n1,k h4 n1,k h5 n2,k h6 n2,k h7 n2,k h8 n2,k h9 n2⟩
def Ap19(wx:World)(q:Ps)(S:List Int)(z:Int)(p14 r15 z16:Value)(wz:World):Prop:=∃(b:Nat) (vb vr:Value),p14=(.pointer (some ⟨b,0,none⟩))/\r15=vr/\z16= .int .i64 z/\wz.heap[b]?=some (.cells #[vb,.int .i64 q.cr,.int .i64 q.du] 35 (0,0))/\wz.ownsRow 0 2 1 vb q.bal.length (q.bal.flatMap i64c)/\wz.ownsRow 0 2 1 vr S.length (S.flatMap i64c)/\Keeps (λ_=>False) wx wz/\
 (∀i,vb.ownBlock=some i->wx.heap.size<=i)/\(∀i,vr.ownBlock=some i->wx.heap.size<=i)/\wx.heap.size<=b
theorem DocV.setPR2{w0 Z:World}{B:Nat}{p:Ps}{R:List Int}{E:Nat->List (List Int)}{vb vr vo vp:Value}{vs:Nat->Value}{F:Nat->List SI}{P:List SV}{m:Nat}{Q:List Value}{W:World}(h:DocV w0 Z B p R E vb vr vo vp vs F P m Q W){p':Ps}{R':List Int}{vb' vr':Value}
  (hvb:W.ownsRow 0 2 1 vb' p'.bal.length (p'.bal.flatMap i64c)) (hvr:W.ownsRow 0 2 1 vr' R'.length (R'.flatMap i64c))
  (qb:∀b,vb'.ownBlock=some b->w0.heap.size<=b) (qr:∀b,vr'.ownBlock=some b->w0.heap.size<=b) (db:∀a,a<3->∀x∈F a,∀g,x.v.ownBlock=some g->vb'.ownBlock≠some g/\vr'.ownBlock≠some g):
  DocV w0 Z B p' R' E vb' vr' vo vp vs F P m Q ((((W.setCell ⟨B,0,none⟩ vb').setCell ⟨B,1,none⟩ (.int .i64 p'.cr)).setCell ⟨B,2,none⟩ (.int .i64 p'.du)).setCell ⟨B,3,none⟩ vr'):=by
 have h10:=(heap_setCell_same _ _ 0 _ _ vb' h.blk).trans rfl;have h11:=(heap_setCell_same _ _ 1 _ _ (.int .i64 p'.cr) h10).trans rfl;have h12:=(heap_setCell_same _ _ 2 _ _ (.int .i64 p'.du) h11).trans rfl;have h13:=(heap_setCell_same _ _ 3 _ _ vr' h12).trans rfl
 have k:Keeps (λi=>i=B) W ((((W.setCell ⟨B,0,none⟩ vb').setCell ⟨B,1,none⟩ (.int .i64 p'.cr)).setCell ⟨B,2,none⟩ (.int .i64 p'.du)).setCell ⟨B,3,none⟩ vr'):=
  (((Keeps.setCell (S:=λi=>i=B) _ _ _ rfl).trans (Keeps.setCell _ _ _ (.inl rfl))).trans (Keeps.setCell _ _ _ (.inl rfl))).trans (Keeps.setCell _ _ _ (.inl rfl))
 have hne:∀{e:TypeId} {sz j:Nat} {v:Value} {xs:List Value},W.ownsRow 0 e sz v j xs->115≠e->∀i,v.ownBlock=some i->¬i=B:=λhr hne i hi e=>by subst e;exact Ag hr h.blk hne hi
 exact { h with
  blk:=h13
  bal:=k.row hvb (hne hvb j2)
  rts:=k.row hvr (hne hvr j2)
  out:=k.row h.out (hne h.out j2)
  ln:=λx hx=>k.row (h.ln x hx) (hne (h.ln x hx) j2)
  pst:=k.row h.pst (hne h.pst j2)
  o:=λa ha=>k.row (h.o a ha) (hne (h.o a ha) j2)
  i:=λa ha x hx=>k.row (h.i a ha x hx) (hne (h.i a ha x hx) j2)
  db:=db
  wb:=qb
  wr:=qr
  kp:=h.kp.trans (k.mono λi _ e=> .inr j1r)
  fz:=h.fz.step k (λi e=>by have e':i=B:=e;subst e';exact⟨_,_,_,h.blk,.inl rfl⟩) }
def Pp23(wA w10:World)(n:Nat)(p:Ps)(R:List Int)(E:Nat->List (List Int))(vb vr vo:Value)(vs:Nat->Value)(F:Nat->List SI)(P:List SV)(m:Nat)(v1 v2:Value)(L1 L2:List Int)(wx:World):Prop:=∃(vp:Value) (m':Nat) (Q':List Value),DocV wA w10 wA.heap.size p R E vb vr vo vp vs F P m' Q' wx/\m'<=m+(n+2)/\wx.ownsRow 0 2 1 v1 L1.length (L1.flatMap i64c)/\wx.ownsRow 0 2 1 v2 L2.length (L2.flatMap i64c)
def GoDay(wA w13:World)(t:Tm)(T:List Ev)(n:Nat)(td:Int)(A:List (Int×Int))(Z:St×Int)(DD:List (List Int))(x12 x13:Value)(wx:World):Prop:=∃(s:St) (E:Nat->List (List Int)) (vb vr vo vp:Value) (vs:Nat->Value) (F:Nat->List SI) (P:List SV) (m:Nat) (Q:List Value),DayP t T n td A s Z/\x12= .int .i64 (s.i:Nat)/\x13= .int .i64 s.day/\
 DocV wA w13 wA.heap.size s.p s.R E vb vr vo vp vs F P m Q wx/\E 1=s.e0/\E 2=s.e1/\P.map SV.s=s.out/\(E 0).length=n/\(∀r∈E 0,(r.length:Int)+t.start<=s.day)/\m<=(n+2)*(s.i+s.out.length)/\DayE t T n td A s (E 0) DD
def GoEv(wA w13:World)(T:List Ev)(n:Nat)(s:St)(Y:Nat×Ps×List Int×Int)(E:Nat->List (List Int))(vo:Value)(vs:Nat->Value)(F:Nat->List SI)(P:List SV)(x12:Value)(wx:World):Prop:=∃(i:Nat) (p:Ps) (R:List Int) (vb vr vp:Value) (m:Nat) (Q:List Value),x12= .int .i64 (i:Nat)/\i<=T.length/\s.i<=i/\evR s.day (T.drop i) i p R=Y/\
 p.Ar=true/\p.bal.length=n/\R.length=n/\(∀x∈R,0<=x/\x<=10000000)/\m<=(n+2)*(i+s.out.length)/\DocV wA w13 wA.heap.size p R E vb vr vo vp vs F P m Q wx
def GoPost(n:Nat)(Z:St×Int)(DD:List (List Int))(w:World)(e:Ending)(w':World):Prop:=
 (Z.2=0->∃wA E vb vr vo vp vs F P m Q,e= .returned (.tuple #[(.pointer (some ⟨wA.heap.size,0,none⟩)),.int .i64 0])/\Keeps (λ_=>False) w wA/\DocV wA w' wA.heap.size Z.1.p Z.1.R E vb vr vo vp vs F P m Q w'/\P.map SV.s=Z.1.out/\E 0=DD/\Z.1.p.bal.length=n/\Z.1.R.length=n/\DD.length=n)/\
 (Z.2≠0->e= .returned (.tuple #[.pointer none,.int .i64 Z.2])/\Keeps (λ_=>False) w w')
def Go0(wA:World)(t:Tm)(k:Nat)(wx:World):Prop:=∃vb vr vd,DocV wA wA wA.heap.size ⟨List.replicate k 0,0,0⟩ ((t.trs.map Tn.rate).take k) (upd (λ_=> []) 0 (List.replicate k [])) vb vr (.slice none 0 0) (.slice none 0 0) (upd (λ_=> .slice none 0 0) 0 vd) (upd (λ_=> []) 0 (List.replicate k si0)) [] 0 [] wx/\(∀g,vb.ownBlock=some g->vr.ownBlock≠some g)
theorem r19Go_any(t:Tm)(adT:Option Addr)(cT n:Nat)(L:List Ev)(ad:Option Addr)(cap N:Nat)(td:Int)(w:World)(hn:t.trs.length=n)(htr:Reads w 2 (.slice adT n cT) n (t.trs.flatMap Tn.cells))(hLN:L.length=N)(hL:Reads w 5 (.slice ad N cap) N (L.flatMap Ev.cells))(hN:N<=1000000)(hnl:n<=1000)(hz:Cs t L td=0):
  Calls Tryz.prog 54 #[.agg #[.int .i64 t.limit,.slice adT n cT,.int .i64 t.cyc,.int .i64 t.due,.int .i64 t.minFixed,.int .i64 t.minPart,.int .i64 t.start],.slice ad N cap,.int .i64 td] w (GoPost n (walkR t L td) (daysR t L td) w):=by
 obtain⟨i0,hi,hi0,hi1,hi2⟩:=info_parts Ca;obtain⟨j0,ht,ht0,ht1,ht2⟩:=info_parts Ja;have her:=λW (hW:Keeps (λ_=>False) w W)=>Kg t adT cT n L ad cap N td W hn (htr.keeps hW (by simp)) hLN (hL.keeps hW (by simp)) hN j1;rw [hz] at her;have hso:=λW (hW:Keeps (λ_=>False) w W)=>Tj L ad cap W (by rw [hLN];exact hL.keeps hW (by simp)) j1;rw [hLN] at hso;have hb3:=j6q;refine j2X ?_;intro hk0;obtain⟨Hi,Hi0,Hi1,Hi2,Ht,Ht0,Ht1,Ht2,Hn⟩:=hid9 hi hi0 hi1 hi2 ht ht0 ht1 ht2 hn;clear hn ht2 ht1 ht0 ht hi2 hi1 hi0 hi;obtain⟨Htr,HLN,HL,Hz,Her,Hso,Hb3,Hk0⟩:=hid8 htr hLN hL hz her hso hb3 hk0;clear hk0 hb3 hso her hz hL hLN htr;go_enter Tryz.func54,Tryz.ntmps54;go_wp2_with fail;refine(Her.out _ Hk0.out).mono ?_;rintro e w1 ⟨rfl,hk1⟩;have hk01:=Hk0.out.nt hk1;have hb31:=Ac Hb3.out hk1 (by simp);obtain⟨Hk1,Hk01,Hb31⟩:=hid3 hk1 hk01 hb31;clear hb31 hk01 hk1;go_wp2_with fail;refine(Hso.out _ Hk01.out).mono ?_;rintro e w2 ⟨vE,rfl,hrE,hfE⟩;rw [Ec,HLN.out] at hrE;obtain⟨aE,cE,rfl,_,_⟩:=Ad hrE;have hk02:=Hk01.out.nt hfE.1;have hb32:=Ac Hb31.out hfE.1 (by simp);obtain⟨wA,hwA⟩:∃x,x=w2:=⟨_,rfl⟩;subst hwA;have hnew:=DocV.new wA;have c1:=Aa (Ap hb32 (.cells #[.slice none 0 0,.int .i64 0,.int .i64 0,.slice none 0 0,.slice none 0 0,.slice none 0 0,.slice none 0 0,.slice none 0 0,.slice none 0 0] 115)) 1;have tl:=lt_of_block hb32;obtain⟨wN,hwN⟩:∃x,x=wA.alloc (.cells #[.slice none 0 0,.int .i64 0,.int .i64 0,.slice none 0 0,.slice none 0 0,.slice none 0 0,.slice none 0 0,.slice none 0 0,.slice none 0 0] 115):=⟨_,rfl⟩;rw [<-hwN] at hnew c1;have hkN:Keeps (λ_=>False) wA wN:=by rw [hwN];exact Keeps.alloc _ _
 obtain⟨HrE,HfE,Hk02,Hb32,Hnew,HkN⟩:=hid6 hrE hfE hk02 hb32 hnew hkN;clear hkN hnew hb32 hk02 hfE hrE
 go_upto_region 7 with fail
 rw [<-hwN];have HwN:=Lib.hid hwN;clear hwN c1 tl
 have hst:Go0 wA t 0 wN:=⟨.slice none 0 0,.slice none 0 0,.slice none 0 0,by
  have h1:upd (λ_=>([]:List (List Int))) 0 (List.replicate 0 [])=λ_=> []:=by funext b;unfold upd;split<;>rfl
  have h2:upd (λ_=>Value.slice none 0 0) 0 (.slice none 0 0)=λ_=> .slice none 0 0:=by funext b;unfold upd;split<;>rfl
  have h3:upd (λ_=>([]:List SI)) 0 (List.replicate 0 si0)=λ_=> []:=by funext b;unfold upd;split<;>rfl
  rw [h1,h2,h3]
  exact Hnew.out,λg hg=>by cases hg⟩
 have Hst:=Lib.hid hst;clear hst
 go_loopw [10] (λx wx=>∃k:Nat,x= .int .i64 (k:Nat)/\k<=n/\Go0 wA t k wx) (λx _=>n-(intOf x).toNat)
 case atStart=>exact⟨0,rfl,Nat.zero_le _,Hst.out⟩
 case round=>
  obtain⟨k,rfl,hkn,hg0⟩:=hrel;refine jc ?_;intro wq hwq;subst hwq;unfold Go0 at hg0;obtain⟨vb,vr,vd,hd,hne⟩:=hg0;have hb3q:=hd.fz _ _ _ _ Hb32.out jF;have c1:=Aa hb3q 1;have tl:=lt_of_block hb3q;by_cases hlt:k<n
  ·have hltI:(k:Int)<(n:Int):=j3;obtain⟨x,hx⟩:=Aj (L:=t.trs) (k:=k) jy;have hnb:(List.replicate k (0:Int)).length=k:=List.length_replicate;obtain⟨ab,cb,rfl⟩:∃a c,vb= .slice a k c:=by obtain⟨a,c,h,_⟩:=Ad hd.bal;exact⟨a,c,by rw [h];simp⟩
   have b0:=Aa hd.blk 0;have bl:=lt_of_block hd.blk;have hbal:=hd.bal;simp only [List.length_replicate] at hbal;obtain⟨Hd,Hne,Hb3q,Hx,Hnb,Hbal⟩:=hid6 hd hne hb3q hx hnb hbal;clear hbal hnb hx hb3q hne hd
   go_wp2_with (at_builtin;refine Ba rfl (.tmp 41) (.tmp 42) 33 rfl 0 2 i0 _ 1 8 Tryz.underlying33 Hi.out Hi0.out Hi1.out Hi2.out rfl j2 (.slice ab k cb) k _ rfl ((Hbal.out).alloc _) _ 1 _ rfl (Reads.litAt _ _ _ 1 1 _ jd rfl) j9 j6 j1 (Nat.zero_le _) ?_;intro v4 w4 hown4 hk4 hf4;refine haltG ?_)
   refine Lib.hid ?_;have hgr:=Hd.out.growB Hne.out (v:=0) (Keeps.alloc _ _) hk4 (by simpa [i64c] using hown4) hf4;obtain⟨a4,c4,rfl,_,_⟩:=Ad hown4;have hb4:=Ac (Ap Hd.out.blk _) hk4 (λe=>Ag Hbal.out Hd.out.blk j2 e);simp only [Le] at hgr;obtain⟨hd5,hne5⟩:=hgr;clear b0 bl c1 tl hown4 hk4 hf4;have f0:=Ab hb4 0;have c0:=Aa hb4 0;have bl:=lt_of_block hb4;obtain⟨W6,hW6⟩:∃W6,W6=w4.setCell ⟨wA.heap.size,0,none⟩ (.slice a4 (k+1) c4):=⟨_,rfl⟩;rw [<-hW6] at hd5;have hb36:=hd5.fz _ _ _ _ Hb32.out jF;obtain⟨ar,cr,rfl⟩:∃a c,vr= .slice a k c:=by obtain⟨a,c,h,_⟩:=Ad hd5.rts;exact⟨a,c,by rw [h,List.length_take,List.length_map,Hn.out,Nat.min_eq_left j1]⟩
   have hrts:=hd5.rts;rw [List.length_take,List.length_map,Hn.out,Nat.min_eq_left j1] at hrts;obtain⟨g,o,cc,he,hc⟩:=(Htr.out.keeps ((Hk02.out.nt hd5.kp)) (by simp)).elem Tn.Aq Hx.out j2;simp only [Value.slice.injEq,true_and] at he;obtain⟨rfl,rfl⟩:=he;have x0:W6.cell? ⟨g,o+k*2,none⟩=some (.int .i64 x.rate):=hc 0 j2;have hS10:j10S wA.heap.size g (o+k*2) w.heap.size (.slice ar k cr) (.slice (some ⟨g,o,none⟩) n cT) x.rate W6.drew:=(show j10S wA.heap.size g (o+k*2) w.heap.size (.slice ar k cr) (.slice (some ⟨g,o,none⟩) n cT) x.rate W6 from⟨Aa hd5.blk 3,Aa hb36 1,x0⟩).keep (S:=λ_=>False) (Keeps.drew _) (by simp) (by simp) (by simp)
   have hgw:g<wA.heap.size:=by
    obtain⟨g1,o1,c1,he1,hc1⟩:=(Htr.out.keeps Hk02.out (by simp)).elem Tn.Aq Hx.out j2;simp only [Value.slice.injEq,Option.some.injEq,Addr.mk.injEq,and_true,true_and] at he1;have h0:=Ai (hc1 0 j2);simp only [] at h0;rw [he1.1.1];exact h0
   clear hc x0;obtain⟨Hb4,Hd5,Hne5,Hb36,Hrts,HS10,Hgw⟩:=hid7 hb4 hd5 hne5 hb36 hrts hS10 hgw;clear hgw hS10 hrts hb36 hne5 hd5 hb4
   go_upto_region 10 with fail
   rw [<-hW6];have HW6:=Lib.hid hW6;clear hW6 f0 c0 bl;refine Cf (j10S wA.heap.size g (o+k*2) w.heap.size (.slice ar k cr) (.slice (some ⟨g,o,none⟩) n cT) x.rate) 15 (.take 0 (.take 1 (.take 2 (.take 3 (.take 4 (.take 5 (.take 6 (.take 7 (.take 8 (.take 9 (.take 10 (.move 11 (.move 12 (.move 13 (.move 14 (.move 15 .done)))))))))))))))) j4 j4 ?_ ?_
   ·exact HS10.out
   intro w8 hs8 hk8;refine jB ?_;have hk8a:=hk8.nt (Keeps.alloc w8 (.cells #[.int .i64 x.rate] 2));refine Ae rfl (λK hK=> ?_);refine Ah rfl (.tmp 51) (.tmp 58) 33 rfl 0 2 i0 _ 1 8 Tryz.underlying33 Hi.out Hi0.out Hi1.out Hi2.out rfl j2 (.slice ar k cr) k _ rfl (Hrts.out.of_keeps hk8a) _ 1 _ rfl (Reads.litAt _ _ _ 1 1 _ jd rfl) j9 j6 j1 (Nat.zero_le _) ?_;intro v9 w9 hown9 hk9 hf9;have hrx:=Hrts.out.of_keeps hk8a;have hbx:=Ac Hd5.out.blk hk8a (by simp);have nB:¬(Value.slice ar k cr).ownBlock=some wA.heap.size:=Ag hrx hbx j2;have n3:¬(Value.slice ar k cr).ownBlock=some w.heap.size:=Ag hrx (Ac Hb36.out hk8a (by simp)) j2;have ng:¬(Value.slice ar k cr).ownBlock=some g:=λe=>by have h1:=Hd5.out.wr _ e;have h2:=Hgw.out;omega
   have hb9:=Ac hbx hk9 nB;have hlk:((t.trs.map Tn.rate).take k).length=k:=by rw [List.length_take,List.length_map,Hn.out,Nat.min_eq_left j1]
   have hgr:=Hd5.out.growR Hne5.out (v:=x.rate) hk8a hk9 (by rw [hlk,List.flatMap_append];simpa [i64c] using hown9) hf9;obtain⟨a9,c9,rfl,_,_⟩:=Ad hown9;rw [<-take_snoc' (show(t.trs.map Tn.rate)[k]?=some x.rate by rw [List.getElem?_map,Hx.out];rfl)] at hgr;obtain⟨hd10,hne10⟩:=hgr;have of9:=Ab hb9 3;have oc9:=Aa hb9 3;have ol9:=lt_of_block hb9;obtain⟨W10,hW10⟩:∃y,y=w9.setCell ⟨wA.heap.size,3,none⟩ (.slice a9 (k+1) c9):=⟨_,rfl⟩;rw [<-hW10] at hd10;refine hK.out _ _ (by exact(hs8.keep (S:=λ_=>False) (Keeps.alloc _ _) (by simp) (by simp) (by simp)).keep hk9 nB n3 ng) ?_;clear hK K;refine j5 ?_;clear hs8 hk8 hf9 nB n3 ng;obtain⟨Hk8a,Hk9,Hown9,Hrx,Hbx,Hb9,Hlk,Hd10,Hne10⟩:=hid9 hk8a hk9 hown9 hrx hbx hb9 hlk hd10 hne10;clear hne10 hd10 hlk hb9 hbx hrx hown9 hk9 hk8a
   repeat (refine Df (v:= ?_) rfl (by rfl) ?_ ?_;rotate_left;(· intro w' hSw;unfold j10S at hSw;go_simp;(try with_reducible rfl));rotate_right;try simp only [aps])
   refine jh ?_;rw [<-hW10];have HW10:=Lib.hid hW10;clear hW10 of9 oc9 ol9;have ho:=Hd10.out.o 0 j2;have ho1:W10.ownsRow 0 33 1 vd k ((List.replicate k si0).map SI.v):=by simpa [upd] using ho
   obtain⟨ad0,cd0,rfl,_,_⟩:=Ad ho1;have hb10:=Hd10.out.blk;have b5:W10.cell? ⟨wA.heap.size,5,none⟩=some (.slice ad0 k cd0):=Aa hb10 5;have bl:=lt_of_block hb10;obtain⟨Ho,Ho1,Hb10⟩:=hid3 ho ho1 hb10;clear hb10 ho1 ho
   go_wp2_with (at_builtin;refine Ba rfl (.tmp 66) (.tmp 67) 113 rfl 0 33 j0 _ 1 24 Tryz.underlying113 Ht.out Ht0.out Ht1.out Ht2.out rfl j2 (.slice ad0 k cd0) k _ rfl ((Ho1.out).alloc _) _ 1 _ rfl (Reads.litAt _ _ _ 1 1 _ jd rfl) j9 j6 j1 (Nat.zero_le _) ?_;intro v4 w4 hown4 hk4 hf4;refine haltG ?_)
   refine Lib.hid ?_
   have hput:=Hd10.out.putS (a:=0) j2 (Keeps.alloc _ _) hk4 (v':=v4) (F':=List.replicate (k+1) si0) (E':=List.replicate (k+1) []) (by rw [List.length_replicate,<-Le,List.map_append];exact hown4) (by rw [List.map_replicate];rfl) (λg hg=>by
    rcases hf4 with e|⟨g',e,hg'⟩
    ·exact .inl (by rw [<-hg,e];rfl)
    ·rw [e] at hg;simp only [Option.some.injEq] at hg;exact .inr (by omega)) (λk x hx=> .inr ((List.mem_replicate.1 (List.mem_of_getElem? hx)).2))
   rw [upd_same,upd_same,upd_same] at hput;obtain⟨a5,c5,rfl,_,_⟩:=Ad hown4;have hb5:=Ac (Ap Hb10.out _) hk4 (λe=>Ag Ho1.out Hb10.out j2 e);clear b5 bl hown4 hk4 hf4;have f5:=Ab hb5 5;have c5':=Aa hb5 5;have bl:=lt_of_block hb5;have hfin:Go0 wA t (k+1) (w4.setCell ⟨wA.heap.size,5,none⟩ (.slice a5 (k+1) c5)):=⟨_,_,_,hput,Hne10.out⟩;obtain⟨Hput,Hb5,Hfin⟩:=hid3 hput hb5 hfin;clear hfin hb5 hput;go_wp2;go_roundw
   case rel=>exact⟨k+1,by go_num,by omega,Hfin.out⟩
   case measure=>simp [intOf];omega
  ·obtain rfl:n=k:=by omega
   rw [List.take_of_length_le (by rw [List.length_map,Hn.out];exact Nat.le_refl _)] at hd;have hcl:=Li hd n j1;obtain⟨Hd,Hne,Hb3q,Hcl⟩:=hid4 hd hne hb3q hcl;clear hcl hb3q hne hd;go_wp2_with fail;refine Hcl.out.mono ?_;rintro e w12 ⟨rfl,v1,v2,hdC⟩;have hb312:=DocV.fz hdC _ _ _ _ Hb32.out jF;clear c1 tl;have c2:=Aa hb312 2;have c6:=Aa hb312 6;have tl:=lt_of_block hb312;have hall:=Vo t.start t.cyc td w12;rw [if_pos (Xo Hz.out)] at hall;obtain⟨HdC,Hb312,Hall⟩:=hid3 hdC hb312 hall;clear hall hb312 hdC;go_wp2_with fail;refine Hall.out.mono ?_;rintro e w13 ⟨vS,rfl,hrS,hfS⟩;have hd13:=DocV.keep0 HdC.out hfS.1;have hb313:=Ac Hb312.out hfS.1 (by simp);clear c2 c6 tl;have c6:=Aa hb313 6;have tl:=lt_of_block hb313;obtain⟨HrS,HfS,Hd13,Hb313⟩:=hid4 hrS hfS hd13 hb313;clear hb313 hd13 hfS hrS
   go_upto_region 16 with fail
   obtain⟨A,hA⟩:∃A,allL t.start t.cyc td=A:=⟨_,rfl⟩;obtain⟨T,hT⟩:∃T,sortL L=T:=⟨_,rfl⟩;obtain⟨ZZ,hZZ⟩:∃z,walkR t L td=z:=⟨_,rfl⟩;obtain⟨DD,hDD⟩:∃d,daysR t L td=d:=⟨_,rfl⟩;have hps:=DayP.start Hz.out Hn.out;have hes:=DayE.start (L:=L) (td:=td) Hn.out;rw [hA,hT,hZZ] at hps;rw [hA,hT,hDD] at hes;have hd14:=DocV.here Hd13.out;have hp0:(st0 t).p=⟨List.replicate n 0,0,0⟩:=by rw [<-Hn.out];rfl
   rw [<-hp0] at hd14
   have hfst:GoDay wA w13 t T n td A ZZ DD (.int .i64 0) (.int .i64 t.start) w13:=
    ⟨st0 t,_,_,_,_,_,_,_,_,_,_,hps,rfl,rfl,hd14,by show List.replicate n []=List.replicate t.trs.length [];rw [Hn.out],by show List.replicate n []=List.replicate t.trs.length [];rw [Hn.out],rfl,List.length_replicate,λr hr=>by
     have h1:r= []:=(List.mem_replicate.1 (show r∈List.replicate n [] from hr)).2;subst h1;show(0:Int)+t.start<=t.start
     omega,Nat.zero_le _,hes⟩
   clear c6 tl hd14 hp0 hps hes;obtain⟨Hfst,HA,HT,HZZ,HDD⟩:=hid5 hfst hA hT hZZ hDD;clear hDD hZZ hT hA hfst
   go_loopw [12,13,8,14,15,16,17] (λx12 x13 _ _ _ _ _ wx=>GoDay wA w13 t T n td A ZZ DD x12 x13 wx) (λ_ x13 _ _ _ _ _ _=>(td+1-intOf x13).toNat)
   case atStart=>exact Hfst.out
   case round=>
    unfold GoDay at hrel;obtain⟨s,E,vb,vr,vo,vp,vs,F,P,m,Q,hdp,rfl,rfl,hdv,hE1,hE2,hlp,hE0,hEl,hm,hde⟩:=hrel;refine jc ?_;intro wq hwq;subst hwq;have hdt:=hdp.dt;have hdI:decide (s.day<=td)=true:=by simp [hdt]
    obtain⟨Y,hY⟩:∃Y,evR s.day (T.drop s.i) s.i s.p s.R=Y:=⟨_,rfl⟩;obtain⟨fr,te,S',hsp1,hsp2,hsp3,hsp4,hsp5,hok,hwd⟩:=hdp.sp;have hst:GoEv wA w13 T n s Y E vo vs F P (.int .i64 (s.i:Nat)) wq:=⟨s.i,s.p,s.R,vb,vr,vp,m,Q,rfl,hdp.i,Nat.le_refl _,hY,hok.pr,hok.nb,hok.nr,hok.rt,hm,hdv⟩;have hTl:T.length=N:=by rw [<-HT.out,Ec,HLN.out]
    obtain⟨Hdp,Hdv,HE1,HE2,Hlp,HE0,HEl,Hm,Hde⟩:=hid9 hdp hdv hE1 hE2 hlp hE0 hEl hm hde;clear hde hm hEl hE0 hlp hE2 hE1 hdv hdp;obtain⟨Hdt,HY,Hsp1,Hsp2,Hsp3,Hsp4,Hsp5,Hok,Hwd⟩:=hid9 hdt hY hsp1 hsp2 hsp3 hsp4 hsp5 hok hwd;clear hwd hok hsp5 hsp4 hsp3 hsp2 hsp1 hY hdt;obtain⟨Hst,HTl⟩:=hid2 hst hTl;clear hTl hst
    go_upto_region 18 with fail
    go_loopw [12,14,15,16] (λx12 _ _ _ wx=>GoEv wA w13 T n s Y E vo vs F P x12 wx) (λx12 _ _ _ _=>N-(intOf x12).toNat)
    case atStart=>exact Hst.out
    case round=>
     unfold GoEv at hrel;obtain⟨i,p,R,vb,vr,vp,m,Q,rfl,hi1,hi2,hev,hpr,hbn,hrn,hrt,hm2,hdv⟩:=hrel;obtain⟨wx,hwx⟩:∃x,x=wr:=⟨_,rfl⟩;subst hwx;rw [HTl.out] at hi1;have hrE13:=HrE.out.of_keeps Hd13.out.kp;have hrEx:=hdv.fz.row hrE13 jF;obtain⟨q,hq⟩:∃q:Bool,(match T[i]? with|none=>false|some x=>decide (x.day=s.day))=q:=⟨_,rfl⟩
     obtain⟨Hi2,Hev,Hpr,Hbn,Hrn,Hrt,Hm2,Hdv,HrE13⟩:=hid9 hi2 hev hpr hbn hrn hrt hm2 hdv hrE13;clear hrE13 hdv hm2 hrt hrn hbn hpr hev hi2;have HrEx:=Lib.hid hrEx;clear hrEx
     go_upto_region 18 with fail
     go_cut [101] (λb wz=>b= .bool q/\wz=wx)
     case first=>
      by_cases hlt:i<N
      ·have hltI:(i:Int)<(N:Int):=j3;obtain⟨x,hx⟩:=Aj (L:=T) (k:=i) (by rw [HTl.out];exact hlt);rw [hx] at hq;simp only at hq;have hrd:=Reads.Ay HrEx.out;rw [HT.out] at hrd;obtain⟨g,o,cc,he,hc⟩:=hrd.elem Ev.Aq hx j2;simp only [Value.slice.injEq,true_and] at he;obtain⟨rfl,rfl⟩:=he;have x1:wx.cell? ⟨g,o+i*5+1,none⟩=some (.int .i64 x.day):=hc 1 j2;have xl:=Ai x1;have hqI:(x.day==s.day)=q:=by rw [<-hq];rfl
       clear hc hq;obtain⟨Hrd,Hx⟩:=hid2 hrd hx;clear hx hrd;go_wp2_with fail;go_meet;exact⟨rfl,rfl⟩
      ·have hge:¬(i:Int)<(N:Int):=j3;have hx:T[i]?=none:=List.getElem?_eq_none (by rw [HTl.out];omega);rw [hx] at hq;simp only at hq;subst hq;go_wp2_with fail;go_meet;exact⟨rfl,rfl⟩
     obtain⟨rfl,rfl⟩:=hcut
     cases q with
     |true=>
      obtain⟨x,hx,hxd⟩:∃x,T[i]?=some x/\x.day=s.day:=by
       rcases h:T[i]? with _|x
       ·rw [h] at hq;cases hq
       ·rw [h] at hq;exact⟨x,rfl,by simpa using hq⟩
      have hlt:i<N:=by rw [<-HTl.out];exact Cj hx
      have hltI:(i:Int)<(N:Int):=j3;have hrd:=Reads.Ay HrEx.out;rw [HT.out] at hrd;obtain⟨g,o,cc,he,hc⟩:=hrd.elem Ev.Aq hx j2;simp only [Value.slice.injEq,true_and] at he;obtain⟨rfl,rfl⟩:=he;obtain⟨ab,cb,rfl⟩:∃a c,vb= .slice a n c:=by obtain⟨a,c,h,_⟩:=Ad Hdv.out.bal;exact⟨a,c,by rw [h,Hbn.out]⟩
      obtain⟨ar,cr,rfl⟩:∃a c,vr= .slice a n c:=by obtain⟨a,c,h,_⟩:=Ad Hdv.out.rts;exact⟨a,c,by rw [h,Hrn.out]⟩
      obtain⟨w7,hw7⟩:∃x,x=wc:=⟨_,rfl⟩;subst hw7;obtain⟨p9,R9,z9,hYY⟩:∃a b c,Ch p R x=(a,b,c):=⟨_,_,_,rfl⟩
      have happ:∀W,Keeps (λ_=>False) w7 W->Calls Tryz.prog 113 #[.agg #[.slice ab n cb,.int .i64 p.cr,.int .i64 p.du],.slice ar n cr,.agg #[.int .i64 x.kind,.int .i64 x.day,.int .i64 x.tranche,.int .i64 x.amount,.int .i64 x.ref]] W (λe w'=>∃vb vr,e= .returned (.tuple #[.agg #[vb,.int .i64 p9.cr,.int .i64 p9.du],vr,.int .i64 z9])/\w'.ownsRow 0 2 1 vb p9.bal.length (p9.bal.flatMap i64c)/\w'.ownsRow 0 2 1 vr R9.length (R9.flatMap i64c)/\Keeps (λ_=>False) W w'/\(∀i,vb.ownBlock=some i->W.heap.size<=i)/\(∀i,vr.ownBlock=some i->W.heap.size<=i)):=λW hW=>by
       have h1:=Tq p.bal R p.cr p.du x.kind x.day x.tranche x.amount x.ref ab ar cb cr n n W (by have h1:=Reads.Ay (Hdv.out.keep0 hW).bal;rw [Hbn.out] at h1;exact h1) Hbn.out hnl (by have h1:=Reads.Ay (Hdv.out.keep0 hW).rts;rw [Hrn.out] at h1;exact h1) Hrn.out hnl;rw [show(⟨p.bal,p.cr,p.du⟩:Ps)=p from rfl,show(⟨x.kind,x.day,x.tranche,x.amount,x.ref⟩:Ev)=x from rfl,hYY] at h1;exact h1
      have hS19:=(show j19S wA.heap.size g (o+i*5) (.slice ab n cb) (.slice ar n cr) p.cr p.du x w7 from⟨Aa Hdv.out.blk 0,Aa Hdv.out.blk 1,Aa Hdv.out.blk 2,Aa Hdv.out.blk 3,hc 0 j2,hc 1 j2,hc 2 j2,hc 3 j2,hc 4 j2⟩).keep (Keeps.drew _);clear hc;obtain⟨Hx,Hxd,Hq,Hrd,Happ,HS19,HYY⟩:=hid7 hx hxd hq hrd happ hS19 hYY;clear hYY hS19 happ hrd hq hxd hx
      go_upto_region 19 with fail
      go_cut [14,15,16] (λp14 r15 z16 wz=>Ap19 w7 p9 R9 z9 p14 r15 z16 wz)
      case first=>
       refine Ak (j19S wA.heap.size g (o+i*5) (.slice ab n cb) (.slice ar n cr) p.cr p.du x) (.take 0 (.take 1 (.take 2 (.take 3 (.take 4 (.take 5 (.take 6 (.take 7 (.take 8 (.take 9 (.take 10 (.take 11 (.fork 12 (.take 13 (.take 14 (.take 15 (.take 16 (.move 17 (.move 18 (.take 19 (.take 20 .done)))))))) 17 (.move 12 (.take 13 (.take 14 (.take 15 (.take 16 (.move 18 (.take 19 (.take 20 .done))))))))))))))))))))) j4 j4 ?_ ?_
       ·exact HS19.out
       intro w8 hs8 hk8;refine jR ?_;refine Bz ?_ ?_ hs8
       ·skip
        refine j7 ?_;intro K hK
        go_at_call 113
        ((with_reducible refine(Happ.out _ hk8).mono ?_);rintro e w9 ⟨vb9,vr9,rfl,hb9,hr9,hk9,ho9,hp9⟩)
        obtain⟨ab9,cb9,rfl,_,_⟩:=Ad hb9;refine hK.out _ _ (by exact hs8.keep hk9) ?_;clear hK K;refine jm ?_;intro K hK;refine hK.out _ _ (by exact(hs8.keep hk9).keep (Keeps.alloc _ _)) ?_;clear hK K;refine jm ?_;intro K hK;refine hK.out _ _ (by exact(hs8.keep hk9).keep (Keeps.alloc _ _)) ?_;clear hK K;refine jg ?_;have ka:=Keeps.alloc (S:=λ_=>False) w9 (.cells #[.slice ab9 p9.bal.length cb9,.int .i64 p9.cr,.int .i64 p9.du] 35);have hfin:Ap19 w7 p9 R9 z9 ((.pointer (some ⟨w9.heap.size,0,none⟩))) vr9 (.int .i64 z9) (w9.alloc (.cells #[.slice ab9 p9.bal.length cb9,.int .i64 p9.cr,.int .i64 p9.du] 35)):=⟨_,_,vr9,rfl,rfl,rfl,heap_alloc_new _ _,hb9.of_keeps ka,hr9.of_keeps ka,(hk8.nt hk9).nt ka,λi e=>by have h1:=ho9 i e;have h2:=hk8.size;omega,λi e=>by have h1:=hp9 i e;have h2:=hk8.size;omega,by have h1:=hk8.size;have h2:=hk9.size;omega⟩;clear hs8 hb9 hr9 hk9 ho9 hp9 ka hk8;exact j6r
       ·skip
        refine j7 ?_;intro K hK;refine hK.out _ _ (by exact hs8.keep (Keeps.alloc _ _)) ?_;clear hK K;refine j5 ?_;have hk8a:=hk8.nt (Keeps.alloc w8 (.cells #[.slice none 0 0,.int .i64 0,.int .i64 0] 35));have hb8:=heap_alloc_new w8 (.cells #[.slice none 0 0,.int .i64 0,.int .i64 0] 35);refine j7 ?_;intro K hK
        go_at_call 113
        ((with_reducible refine(Happ.out _ hk8a).mono ?_);rintro e w9 ⟨vb9,vr9,rfl,hb9,hr9,hk9,ho9,hp9⟩)
        obtain⟨ab9,cb9,rfl,_,_⟩:=Ad hb9;have hb89:=Ac hb8 hk9 (by simp);have hs9:=(hs8.keep (Keeps.alloc w8 (.cells #[.slice none 0 0,.int .i64 0,.int .i64 0] 35))).keep hk9;refine hK.out _ _ (by exact hs9) ?_;clear hK K;refine ji ?_;have f0:=Ab hb89 0;have f1:=Ab hb89 1;have f2:=Ab hb89 2;have c0:=Aa hb89 0;have c1:=Aa hb89 1;have c2:=Aa hb89 2;have bl:=lt_of_block hb89;refine j7 ?_;intro K hK;have ks:Keeps (λi=>i=w8.heap.size) w9 (((w9.setCell ⟨w8.heap.size,0,none⟩ (.slice ab9 p9.bal.length cb9)).setCell ⟨w8.heap.size,1,none⟩ (.int .i64 p9.cr)).setCell ⟨w8.heap.size,2,none⟩ (.int .i64 p9.du)):=((Keeps.setCell (S:=λi=>i=w8.heap.size) _ _ _ rfl).trans (Keeps.setCell _ _ _ (.inl rfl))).trans (Keeps.setCell _ _ _ (.inl rfl));have hl1:=Ai hs8.1;have hl2:=Ai hs8.2.2.2.2.1;refine hK.out _ _ (by exact hs9.keepS ks (by simp only at hl1;omega) (by simp only at hl2;omega)) ?_;clear hK K;refine jg ?_
        have hfin:Ap19 w7 p9 R9 z9 ((.pointer (some ⟨w8.heap.size,0,none⟩))) vr9 (.int .i64 z9) (((w9.setCell ⟨w8.heap.size,0,none⟩ (.slice ab9 p9.bal.length cb9)).setCell ⟨w8.heap.size,1,none⟩ (.int .i64 p9.cr)).setCell ⟨w8.heap.size,2,none⟩ (.int .i64 p9.du)):=
         ⟨_,_,vr9,rfl,rfl,rfl,heap_setCell_same _ _ 2 _ _ _ (heap_setCell_same _ _ 1 _ _ _ (heap_setCell_same _ _ 0 _ _ _ hb89)),ks.row hb9 (λi e=>by have h1:=ho9 i e;simp at h1;omega),ks.row hr9 (λi e=>by have h1:=hp9 i e;simp at h1;omega),
          (hk8a.nt hk9).trans (ks.mono λi _ e=> .inr (by have h1:=hk8.size;omega)),λi e=>by have h1:=ho9 i e;have h2:=hk8.size;simp at h1;omega,λi e=>by have h1:=hp9 i e;have h2:=hk8.size;simp at h1;omega,hk8.size⟩
        clear hs8 hs9 hb9 hr9 hk9 ho9 hp9 hk8a hk8 ks hb8 hb89 f0 f1 f2 c0 c1 c2 bl hl1 hl2;exact j6r
      obtain⟨b14,vb9,vr9,rfl,h15,rfl,hb14,hrb,hrr,hk79,hob,hor,hbn14⟩:=hcut;obtain rfl:=h15.symm;obtain⟨w10,hw10⟩:∃x,x=wc:=⟨_,rfl⟩;subst hw10;have hev:=Hev.out;rw [Ws Hx.out] at hev;unfold evR at hev;rw [if_pos Hxd.out,HYY.out] at hev;by_cases hz0:z9=0
      ·subst hz0;rw [if_pos rfl] at hev;have hao:=Mx (p:=p) (R:=R) (e:=x) (by rw [HYY.out]);rw [HYY.out,Hbn.out,Hrn.out] at hao;obtain⟨ha1,ha2,ha3,ha4⟩:=hao;have hd10:=Hdv.out.keep0 hk79;have hdz:=hd10.fz;have hd10:=hd10.here;have hrE10:=HrEx.out.of_keeps hk79;have hrd10:=Hrd.out.keeps hk79 (by simp);obtain⟨g',o',cc,he,hc⟩:=hrd10.elem Ev.Aq Hx.out j2;simp only [Value.slice.injEq,true_and,Option.some.injEq,Addr.mk.injEq,and_true] at he;obtain⟨⟨rfl,rfl⟩,rfl⟩:=he;have x0:w10.cell? ⟨g,o+i*5,none⟩=some (.int .i64 x.kind):=hc 0 j2;have xl:=Ai x0;obtain⟨ab9,cb9,rfl⟩:∃a c,vb9= .slice a n c:=by obtain⟨a,c,h,_⟩:=Ad hrb;exact⟨a,c,by rw [h,ha1]⟩
       obtain⟨ar9,cr9,rfl⟩:∃a c,vr9= .slice a n c:=by obtain⟨a,c,h,_⟩:=Ad hrr;exact⟨a,c,by rw [h,ha2]⟩
       clear hc;obtain⟨Hev,Ha1,Ha2,Ha3,Ha4,Hb14,Hrb,Hrr,Hk79⟩:=hid9 hev ha1 ha2 ha3 ha4 hb14 hrb hrr hk79;clear hk79 hrr hrb hb14 ha4 ha3 ha2 ha1 hev;obtain⟨Hob,Hor,Hbn14,Hdz,Hd10,HrE10,Hrd10⟩:=hid7 hob hor hbn14 hdz hd10 hrE10 hrd10;clear hrd10 hrE10 hd10 hdz hbn14 hor hob
       go_upto_if 127 with fail
       go_cut [] (λwz=>Pp23 wA w10 n p R E (.slice ab n cb) (.slice ar n cr) vo vs F P m (.slice ab9 n cb9) (.slice ar9 n cr9) p9.bal R9 wz)
       case first=>
        by_cases h6:x.kind=6
        ·go_wp2_with fail;go_meet;exact⟨_,m,Q,Hd10.out,by omega,Hrb.out,Hrr.out⟩
        ·have hn6:(x.kind !=6)=true:=by simp [h6]
         obtain⟨k0,hk0,hk1,hk2,hk3⟩:=info_parts Gi;obtain⟨ap,cp,rfl⟩:∃a c,vp= .slice a m c:=by obtain⟨a,c,h,_⟩:=Ad Hd10.out.pst;exact⟨a,c,h⟩
         have hml:m<=1000000:=by
          have hrp:=Cn Hz.out;have h1:=Hm2.out;have h0:=(Ck hrp.tm).1.2;rw [Hn.out] at h0;have h4:N<=2000:=by rw [<-HLN.out];exact hrp.ln
          have h6:(n+2)*(i+s.out.length)<=10*(i+s.out.length):=Nat.mul_le_mul_right _ j1
          have h7:s.out.length<300:=by
           have h8:(A.drop s.out.length).length<=300-s.out.length:=by
            rw [List.length_drop];have h2:A.length<=300:=by rw [<-HA.out];exact Gf _ _ _
            omega
           rw [Hsp1.out] at h8;simp only [List.length_cons] at h8;omega
          omega
         have hpost:=fun(W':World) (hW:Keeps (λ_=>False) w10 W')=>Jf p.bal p9.bal p.cr p.du p9.cr p9.du 0 ab ab9 cb cb9 n W' (by have h1:=Reads.Ay (Hd10.out.keep0 hW).bal;rw [Hbn.out] at h1;exact h1) Hbn.out (by have h1:=Reads.Ay (Hrb.out.of_keeps hW);rw [Ha1.out] at h1;exact h1) Ha1.out j1 Hpr.out Ha3.out;have hS15:c15S wA.heap.size b14 (.slice ap m cp) (.slice ab n cb) p.cr p.du (.slice ab9 n cb9) p9.cr p9.du w10.drew:=(show c15S wA.heap.size b14 (.slice ap m cp) (.slice ab n cb) p.cr p.du (.slice ab9 n cb9) p9.cr p9.du w10 from⟨Aa Hd10.out.blk 6,Aa Hd10.out.blk 0,Aa Hd10.out.blk 1,Aa Hd10.out.blk 2,Aa Hb14.out 0,Aa Hb14.out 1,Aa Hb14.out 2⟩).keep (S:=λ_=>False) (Keeps.drew _) (by simp) (by simp);obtain⟨Hk0,Hk1,Hk2,Hk3,Hpost,HS15⟩:=hid6 hk0 hk1 hk2 hk3 hpost hS15;clear hS15 hpost hk3 hk2 hk1 hk0
         go_upto_region 23 with fail
         clear x0 xl;refine Cf (c15S wA.heap.size b14 (.slice ap m cp) (.slice ab n cb) p.cr p.du (.slice ab9 n cb9) p9.cr p9.du) 14 (.take 0 (.take 1 (.take 2 (.take 3 (.take 4 (.take 5 (.take 6 (.take 7 (.take 8 (.take 9 (.move 10 (.move 11 (.move 12 (.move 13 (.move 14 .done))))))))))))))) j4 j4 ?_ ?_
         ·exact HS15.out
         intro w15 hs15 hk15;refine je ?_;intro K hK
         go_at_call 114
         ((with_reducible refine(Hpost.out _ hk15).mono ?_);rintro e w16 ⟨vq,mq,xq,rfl,hmq,hrq,hoq,hfq⟩)
         obtain⟨aq,cq,rfl,_,_⟩:=Ad hrq;dsimp only;refine hK.out _ _ (by exact hs15.keep hfq.1 (by simp) (by simp)) ?_;clear hK K;refine ji ?_;have hkq:=hk15.nt hfq.1;have hdq:=Hd10.out.keep0 hkq;refine Ae rfl (λK hK=> ?_);refine Ah rfl (.tmp 132) (.tmp 138) 84 rfl 0 97 k0 _ 2 24 Tryz.underlying84 Hk0.out Hk1.out Hk2.out Hk3.out rfl j2 (.slice ap m cp) m _ rfl hdq.pst _ mq _ rfl (Reads.Ay hrq) hoq j6 j1 j1 ?_;intro v17 w17 hown17 hk17 hf17;obtain⟨a17,c17,rfl,_,_⟩:=Ad hown17;have h9q:=Ac Hb14.out hkq (by simp);have nB:¬(Value.slice ap m cp).ownBlock=some wA.heap.size:=Ag hdq.pst hdq.blk j2;have n9:¬(Value.slice ap m cp).ownBlock=some b14:=Ag hdq.pst h9q j2;have hb17:=Ac hdq.blk hk17 nB
         have hadd:=Hd10.out.addPst hkq hk17 hown17 (λb hb=>by
          rcases hf17 with e|⟨g,e,hg⟩
          ·exact .inl (e▸hb)
          ·rw [e] at hb;simp only [Option.some.injEq] at hb;have:=hkq.size;exact .inr (by omega))
         have o6:=Aa hb17 6;have of6:=Ab hb17 6;have ol6:=lt_of_block hb17;refine hK.out _ _ j5V ?_;clear hK K;refine j5 ?_;obtain⟨W18,hW18⟩:∃y,y=w17.setCell ⟨wA.heap.size,6,none⟩ (.slice a17 (m+mq) c17):=⟨_,rfl⟩;have k18:Keeps (λi=>i=wA.heap.size) w17 W18:=by rw [hW18];exact Keeps.setCell _ _ _ rfl
         rw [<-hW18] at hadd;have hkk:Keeps (λi=>i=wA.heap.size\/vo.ownBlock=some i\/(Value.slice ap m cp).ownBlock=some i) w16 W18:=(hk17.mono λi _ e=> .inr (.inr e)).trans (k18.mono λi _ e=> .inl (.inl e));have hb18:=Hd10.out.rowk hkq hkk (Hrb.out.of_keeps hkq) j2 j2 j2;have hr18:=Hd10.out.rowk hkq hkk (Hrr.out.of_keeps hkq) j2 j2 j2;clear hs15 hf17 hk15 hfq;obtain⟨Hmq,Hrq,Hoq,Hkq,Hdq,Hown17,Hk17,H9q,Hb17⟩:=hid9 hmq hrq hoq hkq hdq hown17 hk17 h9q hb17;clear hb17 h9q hk17 hown17 hdq hkq hoq hrq hmq;obtain⟨Hadd,K18,Hkk,Hb18,Hr18⟩:=hid5 hadd k18 hkk hb18 hr18;clear hr18 hb18 hkk k18 hadd;clear nB n9;refine j5W ?_;refine jh ?_;rw [<-hW18];clear hW18 o6 of6 ol6;go_wp2_with fail;go_meet;exact⟨_,m+mq,_,Hadd.out,by have:=Hmq.out;omega,Hb18.out,Hr18.out⟩
       obtain⟨vp',m',Q',hd11,hm11,hb11,hr11⟩:=hcut;obtain⟨w11,hw11⟩:∃x,x=wc:=⟨_,rfl⟩;subst hw11;have hb14k:=hd11.fz _ _ _ _ Hb14.out jF
       have hdn:=hd11.setPR2 hb11 hr11 (λb e=>by have h1:=Hob.out b e;have h2:=Hdv.out.kp.size;omega) (λb e=>by have h1:=Hor.out b e;have h2:=Hdv.out.kp.size;omega)
        (λa ha y hy g hg=>⟨λe=>by have h1:=Hob.out g e;have h2:=Bh (Hdv.out.i a ha y hy) hg;omega,λe=>by have h1:=Hor.out g e;have h2:=Bh (Hdv.out.i a ha y hy) hg;omega⟩)
       have hdn:=hdn.rez Hdz.out;have c0:=Aa hb14k 0;have c1:=Aa hb14k 1;have c2:=Aa hb14k 2;have cl:=lt_of_block hb14k;have f0:=Ab hd11.blk 0;have f1:=Ab hd11.blk 1;have f2:=Ab hd11.blk 2;have f3:=Ab hd11.blk 3;have d0:=Aa hd11.blk 0;have d1:=Aa hd11.blk 1;have d2:=Aa hd11.blk 2;have d3:=Aa hd11.blk 3;have dl:=lt_of_block hd11.blk
       have hml:m'<=(n+2)*(i+1+s.out.length):=by
        have h1:=Hm2.out
        have h2:(n+2)*(i+1+s.out.length)=(n+2)*(i+s.out.length)+(n+2):=by
         rw [show i+1+s.out.length=(i+s.out.length)+1 by omega,Nat.mul_succ]
        omega
       have hfin:GoEv wA w13 T n s Y E vo vs F P (.int .i64 ((i:Int)+1)) ((((w11.setCell ⟨wA.heap.size,0,none⟩ (.slice ab9 n cb9)).setCell ⟨wA.heap.size,1,none⟩ (.int .i64 p9.cr)).setCell ⟨wA.heap.size,2,none⟩ (.int .i64 p9.du)).setCell ⟨wA.heap.size,3,none⟩ (.slice ar9 n cr9)):=
        ⟨i+1,p9,R9,_,_,vp',m',Q',by go_num,by rw [HTl.out];omega,by have:=Hi2.out;omega,Hev.out,Ha3.out,Ha1.out,Ha2.out,Ha4.out,hml,hdn⟩
       clear hm11 hml;obtain⟨Hd11,Hb11,Hr11,Hb14k,Hdn,Hfin⟩:=hid6 hd11 hb11 hr11 hb14k hdn hfin;clear hfin hdn hb14k hr11 hb11 hd11;go_wp2_with fail;go_roundw
       case rel=>exact Hfin.out
       case measure=>simp [intOf];omega
      ·rw [if_neg hz0] at hev;have hne:Y.2.2.2=z9:=by rw [<-hev]
       have hze:=Hdp.out.err (by rw [HY.out,hne];exact hz0);rw [HY.out,hne] at hze;have hz1:(z9 !=0)=true:=by simp [hz0]
       have hkx:=(Hk02.out.nt Hdv.out.kp).nt hk79;clear hz0;obtain⟨Hev,Hne,Hze,Hb14,Hrb,Hrr,Hk79,Hob,Hor⟩:=hid9 hev hne hze hb14 hrb hrr hk79 hob hor;clear hor hob hk79 hrr hrb hb14 hze hne hev;obtain⟨Hbn14,Hkx⟩:=hid2 hbn14 hkx;clear hkx hbn14;go_wp2_with fail;exact bodyPost_ret (v:= .tuple #[.pointer none,.int .i64 z9]) j1B rfl ⟨λh=>by rw [HZZ.out,Hze.out] at h;simp [h] at hz1,λ_=>⟨by rw [HZZ.out,Hze.out],Hkx.out⟩⟩
     |false=>
      have hY0:Y=(i,p,R,0):=by
       rw [<-Hev.out];rcases h:T[i]? with _|x
       ·rw [List.drop_eq_nil_of_le (by rw [List.getElem?_eq_none_iff] at h;exact h)];rfl
       ·rw [h] at hq;rw [Ws h];unfold evR;rw [if_neg (by simpa using hq)]
      have hevs:=HY.out.trans hY0;have he0:(evR s.day (T.drop s.i) s.i s.p s.R).2.2.2=0:=by rw [hevs]
      obtain⟨w20,hw20⟩:∃x,x=wc:=⟨_,rfl⟩;subst hw20;by_cases hdd:s.day=td
      ·have hZ:=Hdp.out.last hdd;rw [hevs] at hZ;have hDl:=Hde.out.last hdd;have hb1:(s.day==td)=true:=by simp [hdd]
       clear hdd;obtain⟨HY0,Hevs,He0,Hq,HZ,HDl⟩:=hid6 hY0 hevs he0 hq hZ hDl;clear hDl hZ hq he0 hevs hY0;go_wp2_with fail;refine bodyPost_ret (v:= .tuple #[(.pointer (some ⟨wA.heap.size,0,none⟩)),.int .i64 0]) j1B rfl ⟨λ_=>⟨wA,E,vb,vr,vo,vp,vs,F,P,m,Q,rfl,Hk02.out, ?_, ?_, ?_, ?_, ?_, ?_⟩,λh=>by rw [HZZ.out,HZ.out] at h;exact absurd rfl h⟩
       ·rw [HZZ.out,HZ.out];exact Hdv.out.here
       ·rw [HZZ.out,HZ.out];exact Hlp.out
       ·rw [HDD.out];exact HDl.out
       ·rw [HZZ.out,HZ.out];exact Hbn.out
       ·rw [HZZ.out,HZ.out];exact Hrn.out
       ·rw [HDD.out,<-HDl.out];exact HE0.out
      ·have hb1:(s.day==td)=false:=by simp [hdd]
       have hdl:s.day<td:=by have:=Hdt.out;omega
       obtain⟨fr1,te1,hA1,hso,hok1,hf1,ht1,hlA,hn1,hn2,hn3⟩:=Hdp.out.go he0 hdd (Cn Hz.out).tm Hn.out;obtain⟨hg1,hg2⟩:=Hde.out.go he0 hdl hA1;rw [hevs] at hok1 hn1 hn2 hn3 hg1 hg2;have hmm:=Hm2.out;have hcl:=λs2 (h:Dh t T n (endSt (evSt s (i,p,R,0)) n n) fr1 te1=some s2)=>Jz (Cn Hz.out).tm Hn.out hok1 h
       have hlen0:∀a,a<3->(E a).length=n:=λa ha=>by
        rcases(show a=0\/a=1\/a=2 by omega) with rfl|rfl|rfl
        ·exact HE0.out
        ·rw [HE1.out];exact Hok.out.n0
        ·rw [HE2.out];exact Hok.out.n1
       have hsd:=Hsp4.out;have htd1:=(Cn Hz.out).d1;have hst1: -135140<=t.start:=(Ck (Cn Hz.out).tm).2.2.2.2.2.2.1
       have hend:=Xp Hdv.out n hnl Hbn.out Hrn.out hlen0 (λa ha r hr=>by
        rcases(show a=0\/a=1\/a=2 by omega) with rfl|rfl|rfl
        ·have h1:=HEl.out r hr;omega
        ·rw [HE1.out] at hr;rw [(Hok.out.m0 r hr).1];have h2:=Hsp2.out;have h3:=h2.sh;have h4:=Hsp5.out;omega
        ·rw [HE2.out] at hr;rw [(Hok.out.m1 r hr).1];have h2:=Hsp2.out;have h3:=h2.sh;have h4:=Hsp5.out;omega)
       clear hdd;obtain⟨HY0,Hevs,He0,Hq,Hdl,HA1,Hso,Hok1,Hf1⟩:=hid9 hY0 hevs he0 hq hdl hA1 hso hok1 hf1;clear hf1 hok1 hso hA1 hdl hq he0 hevs hY0;obtain⟨Ht1,HlA,Hn1,Hn2,Hn3,Hg1,Hg2,Hmm,Hcl⟩:=hid9 ht1 hlA hn1 hn2 hn3 hg1 hg2 hmm hcl;clear hcl hmm hg2 hg1 hn3 hn2 hn1 hlA ht1;obtain⟨Hlen0,Hend⟩:=hid2 hlen0 hend;clear hend hlen0;go_wp2_with fail;refine Hend.out.mono ?_;rintro e w21 ⟨rfl,E',F',hd21,hE0',hE1',hE2'⟩;have hrS21:=hd21.fz.row HrS.out jF;rw [HA.out] at hrS21;obtain⟨aS,cS,hvS,hcS,_⟩:=Ad hrS21;subst hvS;have hPl:P.length=s.out.length:=by rw [<-Hlp.out,List.length_map]
       have hro:=hd21.out;obtain⟨ao,co,hvo,_,_⟩:=Ad hro;rw [hPl] at hvo hro;subst hvo;obtain⟨g2,o2,c2,he2,hc2⟩:=(Reads.Ay hrS21).elem Xi HA1.out j2;simp only [Value.slice.injEq,true_and] at he2;obtain⟨rfl,rfl⟩:=he2;have y0:w21.cell? ⟨g2,o2+s.out.length*2,none⟩=some (.int .i64 fr1):=hc2 0 j2;have y1:w21.cell? ⟨g2,o2+s.out.length*2+1,none⟩=some (.int .i64 te1):=hc2 1 j2;have yl:=Ai y0;have z4:=Aa hd21.blk 4;have zl:=lt_of_block hd21.blk;have hAI:(s.out.length:Int)<(A.length:Int):=by have:=HlA.out;omega
       clear hc2;obtain⟨Hd21,HE0',HE1',HE2',HrS21,HPl,Hro⟩:=hid7 hd21 hE0' hE1' hE2' hrS21 hPl hro;clear hro hPl hrS21 hE2' hE1' hE0' hd21
       go_upto_region 29 with fail
       obtain⟨w22,hw22⟩:∃y,y=w21.alloc (.cells #[.int .i64 fr1,.int .i64 te1] 55):=⟨_,rfl⟩;have hk22:Keeps (λ_=>False) w21 w22:=by rw [hw22];exact Keeps.alloc _ _
       have hb17:w22.heap[w21.heap.size]?=some (.cells #[.int .i64 fr1,.int .i64 te1] 55 (0,0)):=by rw [hw22];exact heap_alloc_new w21 _
       rw [<-hw22];have Hw22:=Lib.hid hw22;clear hw22 y0 y1 yl z4 zl;have hd22:=Hd21.out.keep0 hk22;have s1c:=Aa hb17 0;have s2c:=Aa hb17 1;have sl:=lt_of_block hb17;obtain⟨hx1,hx2⟩:=extL_mem Hbn.out HE0.out;rw [<-HE0'.out] at hx1 hx2
       have hEl2:∀r∈E' 0,(r.length:Int)+t.start<=s.day+1:=λr hr=>by
        obtain⟨r0,hr0,v,rfl⟩:=hx2 r hr;have h1:=HEl.out r0 hr0;rw [List.length_append];simp only [List.length_cons,List.length_nil];omega
       have hday1: -135140<=s.day:=by have h1:=Hso.out.lo;have h2:=Hf1.out;omega
       have hday2:s.day<=2932896:=by have h1:=(Cn Hz.out).d1;have h2:=Hdl.out;omega
       obtain⟨Hk22,Hb17,Hd22,Hx1,Hx2,HEl2⟩:=hid6 hk22 hb17 hd22 hx1 hx2 hEl2;clear hEl2 hx2 hx1 hd22 hb17 hk22;by_cases hte:te1=s.day
       ·have hb2:(s.day==te1)=true:=by simp [hte]
        have hC2:=Hn2.out hte;have hC3:=Hn3.out hte;have hG2:=Hg2.out hte;have hrp:=Cn Hz.out;have htl8:=(Ck hrp.tm).1.2;rw [Hn.out] at htl8
        have hmK:m<=100000:=by
         have h1:=Hmm.out;have h2:A.length<=300:=(by rw [<-HA.out];exact Gf _ _ _);have h3:=HlA.out;have h4:N<=2000:=by rw [<-HLN.out];exact hrp.ln
         have h5:=hi1;have h6:(n+2)*(i+s.out.length)<=10*(i+s.out.length):=Nat.mul_le_mul_right _ j1;omega
        obtain⟨C,hC⟩:∃C,Dh t T n (endSt (evSt s (i,p,R,0)) n n) fr1 te1=C:=⟨_,rfl⟩
        have hcl0:=Tp (s:=endSt (evSt s (i,p,R,0)) n n) Hd22.out.here t adT cT n T aE cE N hrp.tm Hn.out (Htr.out.keeps ((Hk02.out.nt Hd22.out.kp)) (by simp))
         (by have h1:=Reads.Ay (Hd22.out.fz.row HrE13.out jF);rw [HT.out] at h1;exact h1) HTl.out hN (λx hx=>Sb (hrp.ev x (by rw [<-HT.out] at hx;exact(Gt L).2.mem hx)))
         (by rw [HE1'.out,HE1.out];rfl) (by rw [HE2'.out,HE2.out];rfl) Hlp.out Hbn.out Hrn.out (λa ha=>by
          rcases(show a=0\/a=1\/a=2 by omega) with rfl|rfl|rfl
          ·exact Hx1.out
          ·rw [HE1'.out,HE1.out];exact Hok1.out.n0
          ·rw [HE2'.out,HE2.out];exact Hok1.out.n1) Hpr.out Hrt.out (λr hr=>(Hok1.out.m0 r hr).2) (λr hr=>(Hok1.out.m1 r hr).2)
         (λk a b ha hb=>by
          have h1:=(Hok1.out.m0 a (List.mem_of_getElem? ha)).1;have h2:=(Hok1.out.m1 b (List.mem_of_getElem? hb)).1;have h3:=Hso.out.sh;have h4:=Ht1.out;have h5:=Hf1.out
          omega) (by have h2:A.length<=300:=(by rw [<-HA.out];exact Gf _ _ _);have h3:=HlA.out;show s.out.length+1<=300;omega) (by omega) fr1 te1 ⟨Hso.out.lo,Hso.out.le,Hso.out.hi⟩ C hC
        rw [hC] at hC2 hC3 hG2;have hb322:=Hd22.out.fz _ _ _ _ Hb313.out jF;have c0:=Aa hb322 0;have c1:=Aa hb322 1;have c2:=Aa hb322 2;have c3:=Aa hb322 3;have c4:=Aa hb322 4;have c5:=Aa hb322 5;have c6:=Aa hb322 6;have cl:=lt_of_block hb322;clear hte hmK htl8;have Hb322:=Lib.hid hb322;clear hb322;obtain⟨HC2,HC3,HG2,Hrp,Hcl0,HC⟩:=hid6 hC2 hC3 hG2 hrp hcl0 hC;clear hC hcl0 hrp hG2 hC3 hC2;have hkx:=Hk02.out.nt Hd22.out.kp;have Hkx:=Lib.hid hkx;clear hkx;go_wp2_with fail;rcases C with _|s2
        ·refine Hcl0.out.mono ?_;rintro e w23 ⟨rfl,hk23⟩;have hkz:=Hkx.out.nt hk23;obtain⟨Hk23,Hkz⟩:=hid2 hk23 hkz;clear hkz hk23;go_wp2_with fail;exact bodyPost_ret (v:= .tuple #[.pointer none,.int .i64 5]) j1B rfl ⟨λh=>by rw [HZZ.out,HC2.out (by trivial)] at h;exact absurd h j2,λ_=>⟨by rw [HZZ.out,HC2.out (by trivial)],Hkz.out⟩⟩
        ·refine Hcl0.out.mono ?_;rintro e w23 ⟨rfl,vb',vo',vp',v1,v2,P',m',Q',hdC,hP',hm'⟩;obtain⟨k1,k2,k3,k4⟩:=Hcl.out s2 HC.out;have hdp3:=HC3.out s2 rfl;have hde3:=HG2.out s2 rfl k2;have hdz3:=DocV.rez hdC Hd22.out.fz;have he0:s2.e0=List.replicate n []:=List.eq_replicate_iff.2 ⟨k1.n0,λr hr=>List.eq_nil_of_length_eq_zero (k1.m0 r hr).1⟩;have he1:s2.e1=List.replicate n []:=List.eq_replicate_iff.2 ⟨k1.n1,λr hr=>List.eq_nil_of_length_eq_zero (k1.m1 r hr).1⟩;have hi':s2.i=i:=k3;have ho':s2.out.length=s.out.length+1:=k2
         have hmn:m'<=(n+2)*(s2.i+s2.out.length):=by
          have h1:=Hmm.out
          have h2:(n+2)*(s2.i+s2.out.length)=(n+2)*(i+s.out.length)+(n+2):=by
           rw [hi',ho',show i+(s.out.length+1)=(i+s.out.length)+1 by omega,Nat.mul_succ]
          omega
         have hfin:GoDay wA w13 t T n td A ZZ DD (.int .i64 (i:Nat)) (.int .i64 (s.day+1)) w23:=
          ⟨{ s2 with day:=s.day+1 },_,vb',_,vo',vp',_,_,P',m',Q',hdp3,by show Value.int .i64 ((i:Nat):Int)= .int .i64 ((s2.i:Nat):Int);rw [hi'],rfl,hdz3,by show(upd (upd E' 1 (List.replicate n [])) 2 (List.replicate n [])) 1=s2.e0;rw [he0];rfl,by show(upd (upd E' 1 (List.replicate n [])) 2 (List.replicate n [])) 2=s2.e1;rw [he1];rfl,hP',Hx1.out,HEl2.out,hmn,by rw [show(upd (upd E' 1 (List.replicate n [])) 2 (List.replicate n [])) 0=E' 0 from rfl,HE0'.out];exact hde3⟩
         clear hdC hP' hm' k1 k2 k3 k4 he0 he1 hi' ho' hmn;obtain⟨Hdp3,Hde3,Hdz3,Hfin⟩:=hid4 hdp3 hde3 hdz3 hfin;clear hfin hdz3 hde3 hdp3;exact j6s
       ·have hb2:(s.day==te1)=false:=by rw [beq_eq_false_iff_ne];exact λe=>hte e.symm
        have hdn:=Hn1.out hte;have hen:=Hg1.out hte
        have hfin:GoDay wA w13 t T n td A ZZ DD (.int .i64 (i:Nat)) (.int .i64 (s.day+1)) w22:=
         ⟨{ endSt (evSt s (i,p,R,0)) n n with day:=s.day+1 },E',_,_,_,_,_,F',P,m,Q,hdn,rfl,rfl,Hd22.out,by rw [HE1'.out,HE1.out];rfl,by rw [HE2'.out,HE2.out];rfl,Hlp.out,Hx1.out,HEl2.out,Hmm.out,by rw [HE0'.out];exact hen⟩
        clear hte;obtain⟨Hdn,Hen,Hfin⟩:=hid3 hdn hen hfin;clear hfin hen hdn;exact j6s
theorem r19Go_bad(t:Tm)(adT:Option Addr)(cT n:Nat)(L:List Ev)(ad:Option Addr)(cap N:Nat)(td:Int)(w:World)(hn:t.trs.length=n)(htr:Reads w 2 (.slice adT n cT) n (t.trs.flatMap Tn.cells))(hLN:L.length=N)(hL:Reads w 5 (.slice ad N cap) N (L.flatMap Ev.cells))(hN:N<=1000000)(hnl:n<=1000000)(hz:¬Cs t L td=0):
  Calls Tryz.prog 54 #[.agg #[.int .i64 t.limit,.slice adT n cT,.int .i64 t.cyc,.int .i64 t.due,.int .i64 t.minFixed,.int .i64 t.minPart,.int .i64 t.start],.slice ad N cap,.int .i64 td] w λe w'=>e= .returned (.tuple #[.pointer none,.int .i64 (Cs t L td)])/\Keeps (λ_=>False) w w':=by
 have her:=λW (hW:Keeps (λ_=>False) w W)=>Kg t adT cT n L ad cap N td W hn (htr.keeps hW (by simp)) hLN (hL.keeps hW (by simp)) hN hnl;refine j2X ?_;intro hk0;obtain⟨z,hzz⟩:∃z,Cs t L td=z:=⟨_,rfl⟩;rw [hzz] at her hz⊢;have hzI:(z !=0)=true:=by simp [hz]
 obtain⟨Hn,Htr,HLN,HL,Hz,Her,Hk0,Hzz⟩:=hid8 hn htr hLN hL hz her hk0 hzz;clear hzz hk0 her hz hL hLN htr hn;go_enter Tryz.func54,Tryz.ntmps54;go_wp2_with fail;refine(Her.out _ Hk0.out).mono ?_;rintro e w1 ⟨rfl,hk1⟩;have Hk:=Lib.hid (Hk0.out.nt hk1);clear hk1;go_wp2;exact bodyPost_ret (v:= .tuple #[.pointer none,.int .i64 z]) j1B rfl ⟨rfl,Hk.out⟩
theorem Rt(t:Tm)(adT:Option Addr)(cT n:Nat)(L:List Ev)(ad:Option Addr)(cap N:Nat)(td:Int)(w:World)(hn:t.trs.length=n)(htr:Reads w 2 (.slice adT n cT) n (t.trs.flatMap Tn.cells))(hLN:L.length=N)(hL:Reads w 5 (.slice ad N cap) N (L.flatMap Ev.cells))(hN:N<=1000000)(hnl:n<=1000000):
  Calls Tryz.prog 54 #[.agg #[.int .i64 t.limit,.slice adT n cT,.int .i64 t.cyc,.int .i64 t.due,.int .i64 t.minFixed,.int .i64 t.minPart,.int .i64 t.start],.slice ad N cap,.int .i64 td] w (GoPost n (walkR t L td) (daysR t L td) w):=by
 by_cases hz:Cs t L td=0
 ·have h8:=(Ck (Cn hz).tm).1.2;exact r19Go_any t adT cT n L ad cap N td w hn htr hLN hL hN j1 hz
 ·refine(r19Go_bad t adT cT n L ad cap N td w hn htr hLN hL hN hnl hz).mono ?_;rintro e w' ⟨rfl,hk⟩;have hw:(walkR t L td).2=Cs t L td:=by unfold walkR;rw [if_neg hz]
  exact⟨λh=>absurd (hw.symm.trans h) hz,λ_=>⟨by rw [hw],hk⟩⟩
def k4S(B:Nat)(vb vr vo:Value)(cr du:Int)(W:World):Prop:=W.cell? ⟨B,0,none⟩=some vb/\W.cell? ⟨B,1,none⟩=some (.int .i64 cr)/\W.cell? ⟨B,2,none⟩=some (.int .i64 du)/\W.cell? ⟨B,3,none⟩=some vr/\W.cell? ⟨B,4,none⟩=some vo
theorem k4S.keep{B:Nat}{vb vr vo:Value}{cr du:Int}{W W':World}{S:Nat->Prop}(h:k4S B vb vr vo cr du W)(hk:Keeps S W W')(hB:¬S B):k4S B vb vr vo cr du W':=by
 obtain⟨h1,h2,h3,h4,h5⟩:=h;have k:∀{p:Addr} {u:Value},W.cell? p=some u->p.block=B->W'.cell? p=some u:=λhc hb=>(hk.cell (Ai hc) (by rw [hb];exact hB)).trans hc;exact⟨k h1 rfl,k h2 rfl,k h3 rfl,k h4 rfl,k h5 rfl⟩
theorem Xq(t:Tm)(adT:Option Addr)(cT n:Nat)(L:List Ev)(ad:Option Addr)(cap N:Nat)(td:Int)(w:World)(hn:t.trs.length=n)(htr:Reads w 2 (.slice adT n cT) n (t.trs.flatMap Tn.cells))(hLN:L.length=N)(hL:Reads w 5 (.slice ad N cap) N (L.flatMap Ev.cells))(hN:N<=1000000)(hnl:n<=1000000):
  Calls Tryz.prog 16 #[.agg #[.int .i64 t.limit,.slice adT n cT,.int .i64 t.cyc,.int .i64 t.due,.int .i64 t.minFixed,.int .i64 t.minPart,.int .i64 t.start],.slice ad N cap,.int .i64 td] w (Mg w n (walkR t L td)):=by
 have hgo:=j6t;obtain⟨Z,hZ⟩:∃z,walkR t L td=z:=⟨_,rfl⟩;rw [hZ] at hgo⊢;obtain⟨W0,hW0⟩:∃x,x=(w.alloc (.cells #[.int .i64 t.limit,.slice adT n cT,.int .i64 t.cyc,.int .i64 t.due,.int .i64 t.minFixed,.int .i64 t.minPart,.int .i64 t.start] 24)).alloc (.cells #[.slice none 0 0,.int .i64 0,.int .i64 0] 35):=⟨_,rfl⟩;have hk0:Keeps (λ_=>False) w W0:=by rw [hW0];exact(Keeps.alloc _ _).nt (Keeps.alloc _ _)
 have hb6:W0.heap[w.heap.size+1]?=some (.cells #[.slice none 0 0,.int .i64 0,.int .i64 0] 35 (0,0)):=by rw [hW0];exact Av _ _ (by simp)
 obtain⟨Hn,Htr,HLN,HL,Hgo,HZ,Hk0,Hb6⟩:=hid8 hn htr hLN hL hgo hZ hk0 hb6;clear hb6 hk0 hZ hgo hL hLN htr hn;go_enter Tryz.func16,Tryz.ntmps16;go_wp2_with fail;rw [<-hW0];have HW0:=Lib.hid hW0;clear hW0;refine(Hgo.out _ Hk0.out).mono ?_;rintro e w1 ⟨hg1,hg2⟩;by_cases hz:Z.2=0
 ·obtain⟨wA,E,vb,vr,vo,vp,vs,F,P,m,Q,rfl,hkA,hd,hlp,hE0,hbn,hrn,_⟩:=hg1 hz;clear hg1 hg2;have hb61:=Ac Hb6.out (hkA.nt hd.kp) (by simp);have hS:k4S wA.heap.size vb vr vo Z.1.p.cr Z.1.p.du w1:=⟨Aa hd.blk 0,Aa hd.blk 1,Aa hd.blk 2,Aa hd.blk 3,Aa hd.blk 4⟩;have hlt:w.heap.size+1<wA.heap.size:=by have h1:=lt_of_block Hb6.out;have h2:=hkA.size;omega
  obtain⟨HkA,Hd,Hlp,HE0,Hbn,Hrn,Hb61,HS,Hlt⟩:=hid9 hkA hd hlp hE0 hbn hrn hb61 hS hlt;clear hlt hS hb61 hrn hbn hE0 hlp hd hkA;obtain⟨ab,cb,rfl⟩:∃a c,vb= .slice a n c:=by obtain⟨a,c,h,_⟩:=Ad Hd.out.bal;exact⟨a,c,by rw [h,Hbn.out]⟩
  obtain⟨ar,cr,rfl⟩:∃a c,vr= .slice a n c:=by obtain⟨a,c,h,_⟩:=Ad Hd.out.rts;exact⟨a,c,by rw [h,Hrn.out]⟩
  obtain⟨ao,co,rfl⟩:∃a c,vo= .slice a P.length c:=by obtain⟨a,c,h,_⟩:=Ad Hd.out.out;exact⟨a,c,h⟩
  go_upto_region 4 with fail
  refine Ak (k4S wA.heap.size (.slice ab n cb) (.slice ar n cr) (.slice ao P.length co) Z.1.p.cr Z.1.p.du) (.take 0 (.take 1 (.take 2 (.take 3 (.take 4 (.take 5 (.take 6 (.take 7 (.take 8 (.take 9 (.take 10 (.take 11 (.move 12 (.take 13 (.take 14 (.take 15 .done)))))))))))))))) j4 j4 ?_ ?_
  ·exact HS.out.keep (S:=λ_=>False) (Keeps.drew _) (by simp)
  intro w2 hs2 hk2;refine jR ?_;have hb2:=Ac Hb61.out hk2 (by simp);have c0:=Aa hb2 0;have c1:=Aa hb2 1;have c2:=Aa hb2 2;have f0:=Ab hb2 0;have f1:=Ab hb2 1;have f2:=Ab hb2 2;have bl:=lt_of_block hb2;have hks:=((Keeps.setCell (S:=λi=>i=w.heap.size+1) w2 ⟨w.heap.size+1,0,none⟩ (.slice ab n cb) rfl).trans (Keeps.setCell (S:=λi=>i=w.heap.size+1\/w2.heap.size<=i) _ ⟨w.heap.size+1,1,none⟩ (.int .i64 Z.1.p.cr) (.inl rfl))).trans (Keeps.setCell (S:=λi=>i=w.heap.size+1\/w2.heap.size<=i) _ ⟨w.heap.size+1,2,none⟩ (.int .i64 Z.1.p.du) (.inl rfl));have hbw:=heap_setCell_same _ _ 2 _ _ (.int .i64 Z.1.p.du) (heap_setCell_same _ _ 1 _ _ (.int .i64 Z.1.p.cr) (heap_setCell_same _ _ 0 _ _ (.slice ab n cb) hb2));refine j7 ?_;intro K hK;refine hK.out _ _ (by exact hs2.keep hks (by have:=Hlt.out;omega)) ?_;clear hK K;refine jg ?_;have hcw0:=Aa hbw 0;have hcw1:=Aa hbw 1;have hcw2:=Aa hbw 2;obtain⟨wF,hwF⟩:∃x,x=((w2.setCell ⟨w.heap.size+1,0,none⟩ (.slice ab n cb)).setCell ⟨w.heap.size+1,1,none⟩ (.int .i64 Z.1.p.cr)).setCell ⟨w.heap.size+1,2,none⟩ (.int .i64 Z.1.p.du):=⟨_,rfl⟩;have hd2:=Hd.out.keep0 hk2;have hsz:=(Hk0.out.nt HkA.out).size;have ne:∀{v:Value},(∀g,v.ownBlock=some g->wA.heap.size<=g)->∀g,v.ownBlock=some g->¬g=w.heap.size+1:=λh g hg e=>by have h1:=h g hg;have h2:=Hlt.out;omega
  have hres:Je w n Z.1 (.slice ab n cb) (.slice ar n cr) (.slice ao P.length co) P wF:=by
   rw [hwF];refine⟨?_, ?_, ?_,λx hx=> ?_,Hlp.out,Hbn.out,Hrn.out,λb e=>Nat.le_trans hsz (hd2.wb b e),λb e=>Nat.le_trans hsz (hd2.wr b e),λb e=>Nat.le_trans hsz (hd2.wo b e),λx hx b e=>Nat.le_trans hsz (hd2.wl x hx b e), ?_⟩
   ·have h1:=hks.row hd2.bal (ne hd2.wb);rwa [Hbn.out] at h1
   ·have h1:=hks.row hd2.rts (ne hd2.wr);rwa [Hrn.out] at h1
   ·exact hks.row hd2.out (ne hd2.wo)
   ·exact hks.row (hd2.ln x hx) (ne (hd2.wl x hx))
   ·exact((Hk0.out.nt HkA.out).nt hd2.kp).trans (hks.mono λi _ e=> .inr j1)
  rw [<-hwF] at hcw0 hcw1 hcw2;rw [<-hwF];clear hwF c0 c1 c2 f0 f1 f2 bl hs2 ne;obtain⟨Hk2,Hb2,Hks,Hbw,Hcw0,Hcw1,Hcw2,Hd2,Hsz⟩:=hid9 hk2 hb2 hks hbw hcw0 hcw1 hcw2 hd2 hsz;clear hsz hd2 hcw2 hcw1 hcw0 hbw hks hb2 hk2;have Hres:=Lib.hid hres;clear hres;go_wp2_with fail;exact bodyPost_ret (v:= .tuple #[.agg #[.slice ab n cb,.int .i64 Z.1.p.cr,.int .i64 Z.1.p.du],.slice ar n cr,.slice ao P.length co,.int .i64 0]) j6u rfl (.inl ⟨hz,_,_,_,P,rfl,Hres.out⟩)
 ·obtain⟨rfl,hk1⟩:=hg2 hz;have hb61:=Ac Hb6.out hk1 (by simp);have hzb:(Z.2 !=0)=true:=by simp [hz]
  have c0:=Aa hb61 0;have c1:=Aa hb61 1;have c2:=Aa hb61 2;have f0:=Ab hb61 0;have f1:=Ab hb61 1;have f2:=Ab hb61 2;have bl:=lt_of_block hb61;clear hg1 hg2;have hks:=((Keeps.setCell (S:=λi=>i=w.heap.size+1) w1 ⟨w.heap.size+1,0,none⟩ (.slice none 0 0) rfl).trans (Keeps.setCell (S:=λi=>i=w.heap.size+1\/w1.heap.size<=i) _ ⟨w.heap.size+1,1,none⟩ (.int .i64 0) (.inl rfl))).trans (Keeps.setCell (S:=λi=>i=w.heap.size+1\/w1.heap.size<=i) _ ⟨w.heap.size+1,2,none⟩ (.int .i64 0) (.inl rfl));have hkw:=(Hk0.out.nt hk1).trans (hks.mono λi _ e=> .inr j1);have hbw:=heap_setCell_same _ _ 2 _ _ (.int .i64 0) (heap_setCell_same _ _ 1 _ _ (.int .i64 0) (heap_setCell_same _ _ 0 _ _ (.slice none 0 0) hb61));have hcw0:=Aa hbw 0;have hcw1:=Aa hbw 1;have hcw2:=Aa hbw 2;obtain⟨wF,hwF⟩:∃x,x=((w1.setCell ⟨w.heap.size+1,0,none⟩ (.slice none 0 0)).setCell ⟨w.heap.size+1,1,none⟩ (.int .i64 0)).setCell ⟨w.heap.size+1,2,none⟩ (.int .i64 0):=⟨_,rfl⟩;rw [<-hwF] at hkw hcw0 hcw1 hcw2;obtain⟨Hk1,Hb61,Hz,Hks,Hkw,Hbw,Hcw0,Hcw1,Hcw2⟩:=hid9 hk1 hb61 hz hks hkw hbw hcw0 hcw1 hcw2;clear hcw2 hcw1 hcw0 hbw hkw hks hz hb61 hk1;go_wp2_with fail;rw [<-hwF];exact bodyPost_ret (v:= .tuple #[.agg #[.slice none 0 0,.int .i64 0,.int .i64 0],.slice none 0 0,.slice none 0 0,.int .i64 Z.2]) j6u rfl (.inr ⟨Hz.out,rfl,Hkw.out⟩)
def Ur(w:World)(n:Nat)(tr:Int)(Z:St×Int)(DD:List (List Int))(e:Ending)(w':World):Prop:=
 (∃(X:List Int) (v:Value),Z.2=0/\1<=tr/\tr<=n/\DD[(tr-1).toNat]?=some X/\e= .returned (.tuple #[v,.int .i64 0])/\w'.ownsRow 0 2 1 v X.length (X.flatMap i64c)/\Keeps (λ_=>False) w w')\/
 (∃z,z≠0/\(z=if Z.2=0 then 7 else Z.2)/\(Z.2=0->tr<1\/n<tr)/\e= .returned (.tuple #[.slice none 0 0,.int .i64 z])/\Keeps (λ_=>False) w w')
theorem Rh(t:Tm)(adT:Option Addr)(cT n:Nat)(L:List Ev)(ad:Option Addr)(cap N:Nat)(td tr:Int)(w:World)(hn:t.trs.length=n)(htr:Reads w 2 (.slice adT n cT) n (t.trs.flatMap Tn.cells))(hLN:L.length=N)(hL:Reads w 5 (.slice ad N cap) N (L.flatMap Ev.cells))(hN:N<=1000000)(hnl:n<=1000000)(htr2: -9223372036854775808<=tr/\tr<=9223372036854775807):
  Calls Tryz.prog 18 #[.agg #[.int .i64 t.limit,.slice adT n cT,.int .i64 t.cyc,.int .i64 t.due,.int .i64 t.minFixed,.int .i64 t.minPart,.int .i64 t.start],.slice ad N cap,.int .i64 td,.int .i64 tr] w (Ur w n tr (walkR t L td) (daysR t L td)):=by
 have hgo:=j6t;obtain⟨Z,hZ⟩:∃z,walkR t L td=z:=⟨_,rfl⟩;obtain⟨DD,hDD⟩:∃z,daysR t L td=z:=⟨_,rfl⟩;rw [hZ,hDD] at hgo⊢;refine j2X ?_;intro hk0;have hb0:=j6q;obtain⟨Hn,Htr,HLN,HL,Hgo,HZ,HDD,Hk0,Hb0⟩:=hid9 hn htr hLN hL hgo hZ hDD hk0 hb0;clear hb0 hk0 hDD hZ hgo hL hLN htr hn;go_enter Tryz.func18,Tryz.ntmps18;go_wp2_with fail;refine(Hgo.out _ Hk0.out).mono ?_;rintro e w1 ⟨hg1,hg2⟩;by_cases hz:Z.2=0
 ·obtain⟨wA,E,vb,vr,vo,vp,vs,F,P,m,Q,rfl,hkA,hd,hlp,hE0,hbn,hrn,hDn⟩:=hg1 hz;clear hg1 hg2;have hkw:=(Hk0.out.nt hkA).nt hd.kp;have hb1:=Ac (Ac Hb0.out hkA (by simp)) hd.kp (by simp);have c1:=Aa hb1 1;have bl:=lt_of_block hb1;by_cases ht1:tr<1
  ·obtain⟨HkA,Hd,Hlp,HE0,Hbn,Hrn,HDn,Hkw,Hb1⟩:=hid9 hkA hd hlp hE0 hbn hrn hDn hkw hb1;clear hb1 hkw hDn hrn hbn hE0 hlp hd hkA;go_wp2_with fail;exact bodyPost_ret (v:= .tuple #[.slice none 0 0,.int .i64 7]) j1C rfl (.inr ⟨7,by decide,by rw [if_pos hz],λ_=> .inl ht1,rfl,Hkw.out⟩)
  ·by_cases ht2:(n:Int)<tr
   ·obtain⟨HkA,Hd,Hlp,HE0,Hbn,Hrn,HDn,Hkw,Hb1⟩:=hid9 hkA hd hlp hE0 hbn hrn hDn hkw hb1;clear hb1 hkw hDn hrn hbn hE0 hlp hd hkA;go_wp2_with fail;exact bodyPost_ret (v:= .tuple #[.slice none 0 0,.int .i64 7]) j1C rfl (.inr ⟨7,by decide,by rw [if_pos hz],λ_=> .inr ht2,rfl,Hkw.out⟩)
   ·obtain⟨k,hk⟩:∃k:Nat,tr-1=(k:Int):=⟨(tr-1).toNat,by omega⟩;have hkn:k<n:=j3;have hF0:=hd.l 0 j2;rw [hE0] at hF0;have hFn:(F 0).length=n:=by rw [<-hDn,<-hF0,List.length_map]
    obtain⟨x,hx⟩:=Aj (L:=F 0) (k:=k) j1;have hxr:=hd.i 0 j2 x (List.mem_of_getElem? hx);have hXD:DD[(tr-1).toNat]?=some x.L:=by rw [<-hF0,List.getElem?_map,hk,Int.toNat_natCast,hx];rfl
    obtain⟨ax,cx,hxv,_,_⟩:=Ad hxr;have ho:=hd.o 0 j2;rw [hFn] at ho;obtain⟨aF,cF,hF⟩:∃a c,vs 0= .slice a n c:=by obtain⟨a,c,h,_⟩:=Ad ho;exact⟨a,c,h⟩
    rw [hF] at ho;obtain⟨ad',c',he,_,_,_,hcs⟩:=Reads.Ay ho;simp only [Value.slice.injEq,true_and] at he;obtain⟨rfl,rfl⟩:=he;obtain⟨g,o,rfl,hc⟩:=hcs k x.v (by rw [List.getElem?_map,hx];rfl);rw [hxv] at hc hxr;have x0l:=Ai hc;have b5:=Aa hd.blk 5;have hb5:w1.cell? ⟨wA.heap.size,5,none⟩=some (.slice (some ⟨g,o,none⟩) n cF):=by rw [b5,<-hF];rfl
    have bl2:=lt_of_block hd.blk;have hkI:(k:Int)<(n:Int):=j3;have hlo:1<=tr:=j3;have hhi:tr<=(n:Int):=j3;have hwr:IntKind.i64.wrap (tr-1)=(k:Int):=by rw [hk];simp [IntKind.wrap,IntKind.signed,IntKind.bits];omega
    have hwr2:wrap64 (tr-1)=(k:Int):=by rw [hk];unfold wrap64;omega
    clear b5 ht1 ht2 hcs;obtain⟨XL,hXL⟩:∃l,x.L=l:=⟨_,rfl⟩;rw [hXL] at hc hxr hXD;obtain⟨HkA,Hd,Hlp,HE0,Hbn,Hrn,HDn,Hkw,Hb1⟩:=hid9 hkA hd hlp hE0 hbn hrn hDn hkw hb1;clear hb1 hkw hDn hrn hbn hE0 hlp hd hkA;obtain⟨HF0,HFn,Hx,Hxr,HXD,Hxv,Ho,HF,HXL⟩:=hid9 hF0 hFn hx hxr hXD hxv ho hF hXL;clear hXL hF ho hxv hXD hxr hx hFn hF0;have Hk:=Lib.hid hk;clear hk;go_wp2_with fail;exact bodyPost_ret (v:= .tuple #[.slice ax XL.length cx,.int .i64 0]) j1C rfl (.inl ⟨XL,_,hz,hlo,hhi,HXD.out,rfl,Hxr.out,Hkw.out⟩)
 ·obtain⟨rfl,hk1⟩:=hg2 hz;have hzb:(Z.2 !=0)=true:=by simp [hz]
  have hkw:=Hk0.out.nt hk1;clear hg1 hg2;obtain⟨Hk1,Hz,Hkw⟩:=hid3 hk1 hz hkw;clear hkw hz hk1;go_wp2_with fail;exact bodyPost_ret (v:= .tuple #[.slice none 0 0,.int .i64 Z.2]) j1C rfl (.inr ⟨Z.2,Hz.out,by rw [if_neg Hz.out],λh=>absurd h Hz.out,rfl,Hkw.out⟩)
def w4S(t:Tm)(v:Value)(tr:Int)(b:Bool)(w:World):World:=(((w.alloc (.cells #[.int .i64 t.limit,v,.int .i64 t.cyc,.int .i64 t.due,.int .i64 t.minFixed,.int .i64 t.minPart,.int .i64 t.start] 24)).alloc (.cells #[.int .i64 tr] 3)).alloc (.cells #[.slice none 0 0] 33)).alloc (.cells #[.bool b] 4)
def g4S(w:World):Nat->Prop:=λi=>i=w.heap.size+1\/i=w.heap.size+1+1\/i=w.heap.size+1+1+1
theorem Ff(t:Tm)(v:Value)(tr:Int)(b:Bool)(w:World):Keeps (λ_=>False) w (w4S t v tr b w):=((Keeps.alloc _ _).Af).Af.Af
theorem w4S_I(t:Tm)(v:Value)(tr:Int)(b:Bool)(w:World)(k n:Nat)(h:b=true->tr=(k:Int)+1/\k<n):SerI w.heap.size (w.heap.size+1+1+1) (w.heap.size+1+1) (w.heap.size+1) b k n (List.replicate n []) (g4S w) (w4S t v tr b w) where
 gI:= .inr (.inr rfl)
 gO:= .inr (.inl rfl)
 gT:= .inl rfl
 gl:=λi hi=>by
  have hs:(w4S t v tr b w).heap[w.heap.size+1+1+1]?=some (.cells #[.bool b] 4 (0,0)):=Av _ _ (by simp);have hs:=lt_of_block hs;rcases hi with rfl|rfl|rfl<;>omega
 cI:=Av _ _ (by simp)
 dn:=by simp
 row:=⟨_, [],Ap (Av _ _ (by simp)) _,World.ownsRow_nil _ _ _ _,λb hb=>by simp [Value.ownBlock] at hb,λe=>⟨by rw [(h e).1.symm];exact Ap (Ap (Av _ _ (by simp)) _) _,(h e).2,by rw [List.getElem?_replicate,if_pos (h e).2]⟩⟩
theorem Sv(t:Tm)(adt:Option Addr)(ct n:Nat)(L:List Ev)(ad:Option Addr)(cap N:Nat)(td tr:Int)(w:World)(hn:t.trs.length=n)(htr:Reads w 2 (.slice adt n ct) n (t.trs.flatMap Tn.cells))(hN:L.length=N)(hr:Reads w 5 (.slice ad N cap) N (L.flatMap Ev.cells))(hl:N<=1000000)(htl:n<=1000000)(b:Bool)(k:Nat)(h:b=true->tr=(k:Int)+1/\k<n):
  Calls Tryz.prog 53 #[.agg #[.int .i64 t.limit,.slice adt n ct,.int .i64 t.cyc,.int .i64 t.due,.int .i64 t.minFixed,.int .i64 t.minPart,.int .i64 t.start],.slice ad N cap,.int .i64 td,.agg #[.nilFunc,.func (.func 55) #[] #[(.pointer (some ⟨w.heap.size+1+1+1,0,none⟩)),(.pointer (some ⟨w.heap.size+1+1,0,none⟩)),(.pointer (some ⟨w.heap.size+1,0,none⟩))],.nilFunc]] (w4S t (.slice adt n ct) tr b w)
   (Sk (wtS w.heap.size (w.heap.size+1+1+1) (w.heap.size+1+1) (w.heap.size+1) b k n) (w4S t (.slice adt n ct) tr b w) n (walkR t L td) (daysR t L td)):=by
 have hk:=Ff t (.slice adt n ct) tr b w;have hd:daysR t L td=ghR (ghE n) t L td (List.replicate n []):=by rw [<-hn];rfl
 rw [hd];refine Ni _ (ghE n) serJ (serJ_ok n) (List.replicate n []) (g4S w) t adt ct n L ad cap N td _ _ _ _ hn (htr.keeps hk (by simp)) hN (hr.keeps hk (by simp)) hl htl (λ_=>⟨Wq _ (λ_ _ _ _=>rfl) _ _ _,endOk_ser _ _ _ _ _ _ _,Wz _ (λ_ _ _=>rfl) _ _ _⟩) (λhz r hr=> ?_) (w4S_I t (.slice adt n ct) tr b w k n h) (λhz i hi hg=> ?_)
 ·obtain⟨_,_,_,_,_,_,⟨sa,sb⟩⟩:=Ck (Cn hz).tm;rw [(List.mem_replicate.1 hr).2];show(0:Int)<=t.start+135140;omega
 ·obtain⟨⟨l0,l1⟩,_⟩:=Ck (Cn hz).tm
  have hne:t.trs.flatMap Tn.cells≠ []:=λe=>by
   have h1:=congrArg List.length e;rw [Gd t.trs] at h1;simp at h1;omega
  obtain⟨g,hg2,hl2⟩:=htr.lt hne
  cases adt with
  |none=>cases hi
  |some x=>
   have e:x.block=i:=by injection hi
   have hg3:some x.block=some g:=hg2;injection hg3 with hg3;rcases hg with hg|hg|hg<;>omega
theorem Qz(t:Tm)(adt:Option Addr)(ct n:Nat)(L:List Ev)(ad:Option Addr)(cap N:Nat)(td tr:Int)(w:World)(hn:t.trs.length=n)(htr:Reads w 2 (.slice adt n ct) n (t.trs.flatMap Tn.cells))(hN:L.length=N)(hr:Reads w 5 (.slice ad N cap) N (L.flatMap Ev.cells))(hl:N<=1000000)(htl:n<=1000000):
  Calls Tryz.prog 17 #[.agg #[.int .i64 t.limit,.slice adt n ct,.int .i64 t.cyc,.int .i64 t.due,.int .i64 t.minFixed,.int .i64 t.minPart,.int .i64 t.start],.slice ad N cap,.int .i64 td,.int .i64 tr] w (Ur w n tr (walkR t L td) (daysR t L td)):=by
 obtain⟨R,hR⟩:∃R,walkR t L td=R:=⟨_,rfl⟩;obtain⟨DD,hDD⟩:∃z,daysR t L td=z:=⟨_,rfl⟩;by_cases h1:1<=tr
 ·by_cases h2:tr<=(n:Int)
  ·have hwk:=Sv t adt ct n L ad cap N td tr w hn htr hN hr hl htl true (tr-1).toNat (λ_=>⟨by omega,by omega⟩);rw [hR,hDD] at hwk⊢;obtain⟨Htr,Hr,HR,HDD,HN,Hn,Hwk⟩:=hid7 htr hr hR hDD hN hn hwk;clear hwk hn hN hDD hR hr htr;go_enter Tryz.func17,Tryz.ntmps17;go_wp2_with fail;change Calls _ _ _ (w4S t (.slice adt n ct) tr _ w) _;refine(Hwk.out).mono ?_;rintro e w3 (⟨hz,vb,vr,vo,P,G,rfl,hres,hI⟩|⟨hz,rfl,aI,G,hI,hk⟩)
   ·obtain⟨vq,X,hO,hrow,hg,ht⟩:=hI.row;have hkw:=j2Y;obtain⟨ab,cb,rfl⟩:∃a c,vb= .slice a n c:=by obtain⟨a,c,h,_⟩:=Ad hres.bal;exact⟨a,c,h⟩
    refine j2Z ?_;intro c0 bl0 c1 bl1 hrow2;obtain⟨Hz,Hres,HI,HO,Hrow,Hg,Ht,Hkw,Hrow2⟩:=hid9 hz hres hI hO hrow hg ht hkw hrow2;clear hrow2 hkw ht hg hrow hO hI hres hz;go_wp2_with fail;exact bodyPost_ret (v:= .tuple #[vq,.int .i64 0]) j1D rfl (.inl ⟨X,vq,Hz.out,h1,h2,(Ht.out (by simp)).2.2,rfl,Hrow2.out,Hkw.out.Af⟩)
   ·exact j30
  ·have h2':(n:Int)<tr:=j3;have hwk:=j6v;rw [hR,hDD] at hwk⊢;obtain⟨Htr,Hr,HR,HDD,HN,Hn,Hwk⟩:=hid7 htr hr hR hDD hN hn hwk;clear hwk hn hN hDD hR hr htr;go_enter Tryz.func17,Tryz.ntmps17;go_wp2_with fail;change Calls _ _ _ (w4S t (.slice adt n ct) tr _ w) _;refine(Hwk.out).mono ?_;rintro e w3 (⟨hz,vb,vr,vo,P,G,rfl,hres,hI⟩|⟨hz,rfl,aI,G,hI,hk⟩)
   ·obtain⟨vq,X,hO,hrow,hg,ht⟩:=hI.row;have hkw:=j2Y;obtain⟨ab,cb,rfl⟩:∃a c,vb= .slice a n c:=by obtain⟨a,c,h,_⟩:=Ad hres.bal;exact⟨a,c,h⟩
    refine j2Z ?_;intro c0 bl0 c1 bl1 hrow2;obtain⟨Hz,Hres,HI,HO,Hrow,Hg,Ht,Hkw,Hrow2⟩:=hid9 hz hres hI hO hrow hg ht hkw hrow2;clear hrow2 hkw ht hg hrow hO hI hres hz;go_wp2_with fail;exact bodyPost_ret (v:= .tuple #[.slice none 0 0,.int .i64 7]) j1D rfl (.inr ⟨7,by decide,by rw [if_pos Hz.out],λ_=> .inr h2',rfl,Hkw.out.Af⟩)
   ·exact j30
 ·have h1':tr<1:=j3;have hwk:=j6v;rw [hR,hDD] at hwk⊢;obtain⟨Htr,Hr,HR,HDD,HN,Hn,Hwk⟩:=hid7 htr hr hR hDD hN hn hwk;clear hwk hn hN hDD hR hr htr;go_enter Tryz.func17,Tryz.ntmps17;go_wp2_with fail;change Calls _ _ _ (w4S t (.slice adt n ct) tr _ w) _;refine(Hwk.out).mono ?_;rintro e w3 (⟨hz,vb,vr,vo,P,G,rfl,hres,hI⟩|⟨hz,rfl,aI,G,hI,hk⟩)
  ·obtain⟨vq,X,hO,hrow,hg,ht⟩:=hI.row;have hkw:=j2Y;obtain⟨ab,cb,rfl⟩:∃a c,vb= .slice a n c:=by obtain⟨a,c,h,_⟩:=Ad hres.bal;exact⟨a,c,h⟩
   refine j2Z ?_;intro c0 bl0 c1 bl1 hrow2;obtain⟨Hz,Hres,HI,HO,Hrow,Hg,Ht,Hkw,Hrow2⟩:=hid9 hz hres hI hO hrow hg ht hkw hrow2;clear hrow2 hkw ht hg hrow hO hI hres hz;go_wp2_with fail;exact bodyPost_ret (v:= .tuple #[.slice none 0 0,.int .i64 7]) j1D rfl (.inr ⟨7,by decide,by rw [if_pos Hz.out],λ_=> .inl h1',rfl,Hkw.out.Af⟩)
  ·exact j30
inductive RunIs (w0:World) (m:Nat) (Z:St×Int) (W:World):Value->Int->Int->Value->Value->Int->Prop
 |ok {vb vr vo:Value} {P:List SV}:Z.2=0->Je w0 m Z.1 vb vr vo P W->RunIs w0 m Z W vb Z.1.p.cr Z.1.p.du vr vo 0
 |bad:¬Z.2=0->RunIs w0 m Z W (.slice none 0 0) 0 0 (.slice none 0 0) (.slice none 0 0) Z.2
theorem run_is{m:Nat}{Z:St×Int}{w W:World}{e:Ending}(h:Mg w m Z e W):∃vb cr du vr vo z,e= .returned (.tuple #[.agg #[vb,.int .i64 cr,.int .i64 du],vr,vo,.int .i64 z])/\RunIs w m Z W vb cr du vr vo z/\Keeps (λ_=>False) w W/\∃a n c,vb= .slice a n c:=by
 rcases h with⟨hz,vb,vr,vo,P,rfl,hres⟩|⟨hz,rfl,hk⟩
 ·obtain⟨a,c,h,_⟩:=Ad hres.bal;exact⟨_,_,_,_,_,_,rfl,.ok hz hres,hres.kp,a,_,c,h⟩
 ·exact⟨_,_,_,_,_,_,rfl,.bad hz,hk,none,0,0,rfl⟩
theorem RunIs.keep{w0:World}{m:Nat}{Z:St×Int}{W W':World}{vb vr vo:Value}{cr du z:Int}(h:RunIs w0 m Z W vb cr du vr vo z)(hk:Keeps (λ_=>False) W W'):RunIs w0 m Z W' vb cr du vr vo z:=by
 cases h with
 |ok e g=>exact .ok e ⟨g.bal.of_keeps hk,g.rts.of_keeps hk,g.out.of_keeps hk,λx hx=>(g.ln x hx).of_keeps hk,g.lp,g.nb,g.nr,g.wb,g.wr,g.wo,g.wl,g.kp.nt hk⟩
 |bad e=>exact .bad e
theorem RunIs.lift{w w2:World}{m b:Nat}{Z:St×Int}{W W':World}{vb vr vo:Value}{cr du z:Int}(h:RunIs w2 m Z W vb cr du vr vo z)(hk:Keeps (λi=>i=b) W W')(hb:b<w2.heap.size)(hkw:Keeps (λ_=>False) w w2)(hwb:w.heap.size<=b):RunIs w m Z W' vb cr du vr vo z:=by
 cases h with
 |ok e g=>exact .ok e (g.lift hk hb hkw hwb)
 |bad e=>exact .bad e
structure RunEq(w:World)(v1:Value)(c1 d1:Int)(r1 o1:Value)(z1:Int)(v2:Value)(c2 d2:Int)(r2 o2:Value)(z2:Int):Prop where
 ez:z1=z2
 pos:∀W,Keeps (λ_=>False) w W->Calls Tryz.prog 19 #[.agg #[v1,.int .i64 c1,.int .i64 d1],.agg #[v2,.int .i64 c2,.int .i64 d2]] W λe w'=>e= .returned (.bool true)/\Keeps (λ_=>False) W w'
 rts:∀W,Keeps (λ_=>False) w W->Calls Tryz.prog 20 #[r1,r2] W λe w'=>e= .returned (.bool true)/\Keeps (λ_=>False) W w'
 pgs:∀W,Keeps (λ_=>False) w W->Calls Tryz.prog 21 #[o1,o2] W λe w'=>e= .returned (.bool true)/\Keeps (λ_=>False) W w'
theorem run_eq{m:Nat}{Z:St×Int}{wx wy wa w:World}{v1 v2 r1 r2 o1 o2:Value}{c1 d1 z1 c2 d2 z2:Int}(h1:RunIs wx m Z wa v1 c1 d1 r1 o1 z1)(h2:RunIs wy m Z w v2 c2 d2 r2 o2 z2)(hk:Keeps (λ_=>False) wa w)(hm:m<=12)(hx:Z.2=0->(∀x∈Z.1.out,x.lines.length<=8)/\Z.1.out.length<=300):
  RunEq w v1 c1 d1 r1 o1 z1 v2 c2 d2 r2 o2 z2:=by
 cases h1 with
 | @ok _ _ _ P1 e1 g1=>
  cases h2 with
  | @ok _ _ _ P2 e2 g2=>
   obtain⟨x1,x2⟩:=hx e1;have q1:=(Dv.of g1 x1 x2).keeps hk;have q2:=Dv.of g2 x1 x2;obtain⟨a1,k1,s1,_⟩:=Ad g1.bal;obtain⟨a2,k2,s2,_⟩:=Ad g2.bal;subst s1 s2;refine⟨rfl,λW hW=>Nh Z.1.p.bal m _ _ _ _ _ _ W g1.nb (Reads.Ay ((g1.bal.of_keeps hk).of_keeps hW)) (Reads.Ay (g2.bal.of_keeps hW)) j1,λW hW=> ?_,λW hW=>Nq P1 P2 _ _ W (q1.keeps hW) (q2.keeps hW) (g1.lp.trans g2.lp.symm)⟩;refine Dt Z.1.R _ _ W ?_ ?_ (by rw [g1.nr];omega)
   ·rw [g1.nr];exact Reads.Ay ((g1.rts.of_keeps hk).of_keeps hW)
   ·rw [g1.nr];exact Reads.Ay (g2.rts.of_keeps hW)
  |bad e2=>exact absurd e1 e2
 |bad e1=>
  cases h2 with
  |ok e2 g2=>exact absurd e2 e1
  |bad e2=>
   have hp:∀W,Dv W (.slice none 0 0) []:=λW=>⟨Reads.nil W 9,by simp,by simp,by decide⟩;exact⟨rfl,λW _=>Nh [] 0 none none 0 0 0 0 W rfl (Reads.nil W 1) (Reads.nil W 1) j2,λW _=>Dt [] _ _ W (Reads.nil W 1) (Reads.nil W 1) j2,λW _=>Nq [] [] _ _ W (hp W) (hp W) rfl⟩
def SerIs(n:Nat)(tr:Int)(Z:St×Int)(DD:List (List Int))(v:Value)(z:Int)(W:World):Prop:=
 (∃X:List Int,Z.2=0/\1<=tr/\tr<=n/\DD[(tr-1).toNat]?=some X/\z=0/\W.ownsRow 0 2 1 v X.length (X.flatMap i64c))\/(z=(if Z.2=0 then 7 else Z.2)/\(Z.2=0->tr<1\/n<tr)/\v= .slice none 0 0)
theorem ser_is{w W:World}{n:Nat}{tr:Int}{Z:St×Int}{DD:List (List Int)}{e:Ending}(h:Ur w n tr Z DD e W):∃v z,e= .returned (.tuple #[v,.int .i64 z])/\SerIs n tr Z DD v z W/\Keeps (λ_=>False) w W:=by
 rcases h with⟨X,v,h1,h2,h3,h4,rfl,h6,h7⟩|⟨z,h1,h2,h3,rfl,h5⟩
 ·exact⟨v,0,rfl,.inl ⟨X,h1,h2,h3,h4,rfl,h6⟩,h7⟩
 ·exact⟨_,z,rfl,.inr ⟨h2,h3,rfl⟩,h5⟩
theorem ser_eq{n:Nat}{tr:Int}{Z:St×Int}{DD:List (List Int)}{v1 v2:Value}{z1 z2:Int}{W1 W2:World}(h1:SerIs n tr Z DD v1 z1 W1)(h2:SerIs n tr Z DD v2 z2 W2)(hk:Keeps (λ_=>False) W1 W2)(hD:Z.2=0->∀r∈DD,r.length<=4000000):
  z1=z2/\∀W,Keeps (λ_=>False) W2 W->Calls Tryz.prog 20 #[v1,v2] W λe w'=>e= .returned (.bool true)/\Keeps (λ_=>False) W w':=by
 rcases h1 with⟨X,a1,a2,a3,a4,rfl,a6⟩|⟨rfl,a2,rfl⟩
 ·rcases h2 with⟨Y,b1,b2,b3,b4,rfl,b6⟩|⟨_,b2,_⟩
  ·rw [a4] at b4;injection b4 with b4;subst b4;have hl:=hD a1 X (List.mem_of_getElem? a4);exact⟨rfl,λW hW=>Dt X _ _ W (Reads.Ay ((a6.of_keeps hk).of_keeps hW)) (Reads.Ay (b6.of_keeps hW)) j1⟩
  ·have:=b2 a1;omega
 ·rcases h2 with⟨Y,b1,b2,b3,b4,rfl,b6⟩|⟨rfl,b2,rfl⟩
  ·have:=a2 b1;omega
  ·exact⟨rfl,λW _=>Dt [] _ _ W (Reads.nil W 1) (Reads.nil W 1) j2⟩
theorem Kq(n:Nat)(t:Tm)(T:List Ev):∀(d:Nat) (S:List (Int×Int)) (s:St) (a:List (List Int)),serJ s.day a->serJ (s.day+d) (walkG (ghE n) t T n d S s a)
 |0,_,s,a,h=>by
  unfold walkG;rw [evG_E];intro r hr;have:=h r hr;omega
 |d+1,S,s,a,h=>by
  have h0:serJ (s.day+(d+1:Nat)) a:=λr hr=>by have:=h r hr;omega
  have h1:=(serJ_ok n).day s.day a (evR s.day (T.drop s.i) s.i s.p s.R).2.1 h;unfold walkG;rw [evG_E]
  split
  ·split
   ·exact h0
   ·split
    ·split
     ·exact h0
     ·rename_i s2 _;have h2:=Kq n t T d (by assumption) { s2 with day:=s.day+1 } _ h1;have e:s.day+(d+1:Nat)=s.day+1+d:=by omega
      rw [e];exact h2
    ·have e:s.day+(d+1:Nat)=s.day+1+d:=by omega
     rw [e];exact Kq n t T d _ { endSt (evSt s (evR s.day (T.drop s.i) s.i s.p s.R)) n n with day:=s.day+1 } _ h1
  ·exact h0
theorem Ym{t:Tm}{L:List Ev}{td:Int}(h:(walkR t L td).2=0):∀r∈daysR t L td,r.length<=4000000:=by
 have hz:Cs t L td=0:=by
  unfold walkR at h
  split at h
  ·assumption
  ·exact h
 have hok:=Cn hz;obtain⟨_,_,_,_,_,_,⟨sa,sb⟩⟩:=Ck hok.tm
 have h1:=Kq t.trs.length t (sortL L) (td-t.start).toNat (allL t.start t.cyc td) (st0 t) (List.replicate t.trs.length []) (λr hr=>by
  rw [(List.mem_replicate.1 hr).2];show(0:Int)<=t.start+135140
  omega)
 intro r hr;have h2:=h1 r hr;have h3:=hok.d1;have e:(st0 t).day=t.start:=rfl;have h4:=hok.d0;omega
def uq(x m:Int):Int:=IntKind.u64.wrap x % m
theorem Ei(x:Int){m:Int}(hm:0<m):0<=uq x m/\uq x m<m:=⟨Int.emod_nonneg _ (by omega),Int.emod_lt_of_pos _ hm⟩
def Jt(L:List Tn):List Tn:=if((L.take 8).map λx=>(⟨uq x.rate 3000000,x.grace⟩:Tn))= [] then [⟨500000,false⟩] else(L.take 8).map λx=>⟨uq x.rate 3000000,x.grace⟩
def playT(t:Tm):Tm:=if({ t with start:=10957+uq t.start 400 }:Tm).err=0 then { t with start:=10957+uq t.start 400 } else⟨uq t.limit 100000,1+uq t.cyc 28,1+uq t.due 25,uq t.minFixed 100,uq t.minPart 101,10957+uq t.start 400,Jt t.trs⟩
theorem inB_iff(v a b:Int):inB v a b=true↔a<=v/\v<=b:=by simp [inB]
theorem Ya(L:List Tn):1<=(Jt L).length/\(Jt L).length<=8/\∀x∈Jt L,x.okB=true:=by
 unfold Jt
 split
 ·refine⟨by simp,by simp,λx hx=> ?_⟩;obtain rfl:x=⟨500000,false⟩:=by simpa using hx
  rfl
 ·rename_i h;have hl:((L.take 8).map λx=>(⟨uq x.rate 3000000,x.grace⟩:Tn)).length≠0:=λe=>h (List.eq_nil_of_length_eq_zero e);have hl2:((L.take 8).map λx=>(⟨uq x.rate 3000000,x.grace⟩:Tn)).length<=8:=by rw [List.length_map,List.length_take];omega
  refine⟨by omega,hl2,λx hx=> ?_⟩;obtain⟨y,_,rfl⟩:=List.mem_map.1 hx;have:=Ei y.rate (m:=3000000) j2;exact(inB_iff _ _ _).2 ⟨this.1,by show uq y.rate 3000000<=_;omega⟩
theorem playT_ok(t:Tm):(playT t).err=0/\10957<=(playT t).start/\(playT t).start<=11356:=by
 have hs:=Ei t.start (m:=400) j2;unfold playT
 split
 ·rename_i h;exact⟨h,by show 10957<=10957+uq t.start 400;omega,by show 10957+uq t.start 400<=11356;omega⟩
 ·refine⟨?_,by show 10957<=10957+uq t.start 400;omega,by show 10957+uq t.start 400<=11356;omega⟩;obtain⟨h1,h2,h3⟩:=Ya t.trs;have l:=Ei t.limit (m:=100000) j2;have c:=Ei t.cyc (m:=28) j2;have d:=Ei t.due (m:=25) j2;have f:=Ei t.minFixed (m:=100) j2;have p:=Ei t.minPart (m:=101) j2;unfold Tm.err;rw [if_pos];simp only [Tm.okB,Bool.and_eq_true,inB_iff,List.all_eq_true];refine⟨⟨⟨?_, ?_⟩,h3⟩,⟨⟨⟨?_, ?_⟩, ?_⟩, ?_⟩, ?_⟩<;>constructor<;>omega
def playE(t:Tm)(days:Int)(e:Ev):Ev:=⟨e.kind,t.start+uq e.day (days+1),e.tranche,if e.kind=6 then(uq e.amount 100000000) % 3000000 else uq e.amount 100000000,e.ref⟩
def playL(t:Tm)(days:Int)(n:Nat):List Ev->List Ev->List Ev
 | [],O=>O
 |e::L,O=>if O.length<n then(if evErr t (playE t days e)=0 then playL t days n L (O++ [playE t days e]) else playL t days n L O) else O
theorem playL_ok{t:Tm}{days:Int}{n:Nat}(hd:0<=days):∀(L O:List Ev),(∀x∈O,evErr t x=0/\x.day<=t.start+days)->O.length<=n->(∀x∈playL t days n L O,evErr t x=0/\x.day<=t.start+days)/\(playL t days n L O).length<=n:=by
 intro L
 induction L with
 |nil=>intro O h hn;exact⟨h,hn⟩
 |cons e L ih=>
  intro O h hn;unfold playL
  split
  ·rename_i hlt
   split
   ·rename_i h0;refine ih _ (λx hx=> ?_) (by rw [List.length_append,List.length_singleton];omega);rcases List.mem_append.1 hx with hx|hx
    ·exact h x hx
    ·obtain rfl:x=playE t days e:=by simpa using hx
     refine⟨h0, ?_⟩;have:=(Ei e.day (m:=days+1) j1).2;show t.start+uq e.day (days+1)<=_;omega
   ·exact ih _ h hn
  ·exact⟨h,hn⟩
def peS(B b:Nat)(st da:Int)(W:World):Prop:=W.cell? ⟨B,6,none⟩=some (.int .i64 st)/\W.cell? ⟨b,1,none⟩=some (.int .i64 da)
theorem peS.keep{B b:Nat}{st da:Int}{W W':World}(h:peS B b st da W)(hk:Keeps (λ_=>False) W W'):peS B b st da W':=⟨(hk.cell (Ai h.1) (by simp)).trans h.1,(hk.cell (Ai h.2) (by simp)).trans h.2⟩
def Us(w:World)(O:List Ev)(v:Value)(W:World):Prop:=W.ownsRow 0 32 5 v O.length (O.flatMap Ev.cells)/\Fresh w W v
end Go.Proofs.YtgfkeeicjjbnpaaGreat
