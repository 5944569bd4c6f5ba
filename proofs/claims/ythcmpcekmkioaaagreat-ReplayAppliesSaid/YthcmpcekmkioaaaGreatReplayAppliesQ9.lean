/- Part 9 of the proof of ReplayApplies: walks and plain laws. -/
import Derived.Test.YthcmpcekmkioaaaGreatReplayAppliesQ8
namespace Go.Proofs.YthcmpcekmkioaaaGreat
open Go.RowKit
set_option maxRecDepth 100000
set_option maxHeartbeats 3200000
theorem r09order_any(R:List Int)(hi0:Bool)(ad:Option Addr)(cap n:Nat)(w:World)(hr:Reads w 1 (.slice ad n cap) n (R.flatMap i64c))(hN:R.length=n)(hl:n≤1000):
  Calls Tryz.prog 91 #[.slice ad n cap, .bool hi0] w fun e w'=>∃v,e= .returned v∧OrdR w hi0 R n v w':=by
 obtain⟨i0,hi,hi0',hi1,hi2⟩:=info_parts info_tInt
 have Hi0:=Lib.hid hi0'
 clear hi0'
 obtain⟨Hr,HN,Hi,Hi1,Hi2⟩:=hid5 hr hN hi hi1 hi2;clear hi2 hi1 hi hN hr
 go_enter Tryz.func91,Tryz.ntmps91
 go_wp2
 go_loopw [5,6] (fun x y wx=>∃(i:Nat) (v:Value),v=x∧y= .int .i64 (i:Nat)∧i≤n∧(i=0→v= .slice none 0 0)∧OrdR w hi0 R i v wx) (fun _ y _=>n-(intOf y).toNat)
 case atStart=>exact⟨0,_,rfl,rfl,Nat.zero_le _,fun _=>rfl,World.ownsRow_nil _ _ _ _,Keeps.refl _ _,by simp [Value.ownBlock]⟩
 case round=>
  obtain⟨i,v,rfl,rfl,hin,hv0,hrow,hfr⟩:=hrel
  obtain⟨wq,hwq⟩:∃x,x=wr:=⟨_,rfl⟩
  subst hwq
  have hlen:=rankN_length hi0 R i
  by_cases hlt:i<n
  ·have hltI:(i:Int)<(n:Int):=by omega
   obtain⟨O,hO⟩:∃O,rankN hi0 R i=O:=⟨_,rfl⟩
   obtain⟨r,hx⟩:=get_some (L:=R) (k:=i) (by rw [HN.out];exact hlt)
   have hwi1:IntKind.i64.wrap ((i:Int)+1)=(i:Int)+1:=by rw [IntKind.wrap_i64];omega
   have hget:R.getD i 0=r:=by rw [List.getD_eq_getElem?_getD,hx];rfl
   rw [hO] at hrow hlen
   by_cases hi00:i=0
   ·subst hi00
    obtain rfl:=hv0 rfl
    have hpl:plR hi0 R r O 0=0:=rfl
    have hO0:O= []:=List.eq_nil_of_length_eq_zero hlen
    obtain⟨Hrow,Hfr,Hlen,HO,Hx,Hget,Hv0⟩:=hid7 hrow hfr hlen hO hx hget hv0;clear hv0 hget hx hO hlen hfr hrow
    go_wp2
    go_loopw [7] (fun x wx=>x= .int .i64 0∧Keeps (fun _=>False) wq wx) (fun x _=>(intOf x).toNat)
    case atStart=>exact⟨rfl,Keeps.refl _ _⟩
    case round=>
     obtain⟨rfl,hkq⟩:=hrel
     obtain⟨wi,hwi⟩:∃x,x=wr:=⟨_,rfl⟩
     subst hwi
     have hk0:decide ((0:Int)<0)=false:=by decide
     have hkw6':=Hfr.out.1.nt hkq
     obtain⟨Hpl,Hkq⟩:=hid2 hpl hkq;clear hkq hpl
     go_wp2_with fail
     refine wp_region_mixw (fun _=>True) (.take 0 (.take 1 (.take 2 (.take 3 (.take 4 (.take 5 (.take 6 (.take 7 (.take 8 (.take 9 (.take 10 (.take 11 (.take 12 (.take 13 (.take 14 (.take 15 (.take 16 (.take 17 (.take 18 (.take 19 (.take 20 (.take 21 (.take 22 (.take 23 (.take 24 (.take 25 (.take 26 (.take 27 (.take 28 (.take 29 (.take 30 (.take 31 (.take 32 (.take 33 (.take 34 (.take 35 (.take 36 (.take 37 (.take 38 (.take 39 (.take 40 .done))))))))))))))))))))))))))))))))))))))))) (by kernel_rfl) (by kernel_rfl) ?_ ?_
     ·trivial
     intro w6 hs6 hk6
     repeat (first
      |(refine mix_skip rfl (by rfl) ?_;try simp only [Act.put,List.setIfInBounds_toArray,List.set_cons_zero,List.set_cons_succ])
      |(refine mix_skipm rfl (by rfl) ?_;try simp only [Act.put,List.setIfInBounds_toArray,List.set_cons_zero,List.set_cons_succ])
      |(refine mix_take (v:= ?_) rfl (by rfl) ?_ ?_;rotate_left;(· intro w' hSw;unfold id at hSw;go_simp;(try with_reducible rfl));rotate_right;try simp only [Act.put,List.setIfInBounds_toArray,List.set_cons_zero,List.set_cons_succ]))
     refine mix_done ?_
     clear hs6
     have hkq6:=Hkq.out.nt hk6
     have hrow6:=Hrow.out.of_keeps hkq6
     have hkw6:=Hfr.out.1.nt hkq6
     obtain⟨Hkq6,Hrow6,Hkw6,Hk6,Hkw6'⟩:=hid5 hkq6 hrow6 hkw6 hk6 hkw6';clear hkw6' hk6 hkw6 hrow6 hkq6
     go_wp2_with fail
     have hkn:0≤0:=by omega
     have hlm:0+1+(0)≤1000001:=by omega
     have hlm2:0+1+(0)=0+1:=by omega
     have hkI:(0:Int)≤((0:Nat):Int):=by omega
     have hkI0:(0:Int)≤(0:Int):=by omega
     have hkI2:(0:Int)≤(0:Int):=by omega
     have hend:∀v4 W4,World.ownsRow W4 0 3 1 v4 (0+1+(0)) ((O.take 0).flatMap i64c++ [.int .i64 (((0:Nat):Int)+1)]++(O.drop 0).flatMap i64c)→Fresh w6 W4 v4→OrdR w hi0 R (0+1+(0)) v4 W4:=by
      intro v4 W4 ho hf
      refine⟨?_,Hkw6.out.nt hf.1,fun g hg=>Nat.le_trans Hkw6.out.size (hf.2 g hg)⟩
      rw [hlm2] at ho⊢
      show W4.ownsRow 0 _ 1 v4 (0+1) ((insR hi0 R (0) (rankN hi0 R (0))).flatMap i64c)
      unfold insR
      rw [HO.out,Hget.out,Hlen.out,Hpl.out,List.flatMap_append,List.flatMap_append]
      exact ho
     have hsuf:Reads w6 1 (.slice none 0 0) (0) ((O.drop 0).flatMap i64c):=by rw [List.drop_zero];exact Reads.of_owns Hrow6.out
     obtain⟨Hend,Hsuf,Hkn,Hlm2⟩:=hid4 hend hsuf hkn hlm2;clear hlm2 hkn hsuf hend
     refine wp_region_mixw (fun _=>True) (.take 0 (.take 1 (.take 2 (.take 4 (.take 5 (.take 8 (.take 9 (.take 10 (.fork 3 (.move 6 (.move 7 (.move 11 (.take 12 .done)))) 6 (.move 3 (.move 7 (.move 11 (.take 12 .done))))))))))))) (by kernel_rfl) (by kernel_rfl) ?_ ?_
     ·trivial
     intro w7 hs7 hk7
     have hread:=(Reads.of_owns Hrow6.out).keeps hk7 (by simp)
     have hkw:=hk7
     obtain⟨Hkw,Hread⟩:=hid2 hkw hread;clear hread hkw
     clear hs7 hk7
     repeat (first
      |(refine mix_skip rfl (by rfl) ?_;try simp only [Act.put,List.setIfInBounds_toArray,List.set_cons_zero,List.set_cons_succ])
      |(refine mix_skipm rfl (by rfl) ?_;try simp only [Act.put,List.setIfInBounds_toArray,List.set_cons_zero,List.set_cons_succ])
      |(refine mix_take (v:= ?_) rfl (by rfl) ?_ ?_;rotate_left;(· intro w' hSw;unfold id at hSw;go_simp;(try with_reducible rfl));rotate_right;try simp only [Act.put,List.setIfInBounds_toArray,List.set_cons_zero,List.set_cons_succ]))
     refine mix_fork ?_ ?_ trivial
     ·skip
      refine mix_move rfl (fun K hK=> ?_)
      refine step_append_row rfl (.const (.slice none 0 0)) (.tmp 61) 99 rfl 0 3 i0 _ 1 8 Tryz.underlying99 Hi.out Hi0.out Hi1.out Hi2.out rfl (by decide) (.slice none 0 0) 0 [] rfl (World.ownsRow_nil _ _ _ _) _ 0 _ rfl (Hread.out.preL i64c_length 0 Hkn.out) (i64c_one _) (by unfold maxLen;omega) (by omega) (Nat.zero_le _) ?_
      intro v2 w2 hown2 hk2 hf2
      have hfr2:=((Fresh.nil _).keep Hkw.out).app hk2 hf2
      obtain⟨ad2,c2,rfl,_,_⟩:=ownsRow_shape hown2
      simp only [Nat.zero_add,List.nil_append] at hown2 hfr2⊢
      refine hK.out _ _ (by trivial) ?_
      clear hK K
      try simp only [Act.put,List.setIfInBounds_toArray,List.set_cons_zero,List.set_cons_succ]
      obtain⟨Hown2,Hfr2⟩:=hid2 hown2 hfr2;clear hfr2 hown2
      clear hf2 hk2
      repeat (first
       |(refine mix_skip rfl (by rfl) ?_;try simp only [Act.put,List.setIfInBounds_toArray,List.set_cons_zero,List.set_cons_succ])
       |(refine mix_skipm rfl (by rfl) ?_;try simp only [Act.put,List.setIfInBounds_toArray,List.set_cons_zero,List.set_cons_succ])
       |(refine mix_take (v:= ?_) rfl (by rfl) ?_ ?_;rotate_left;(· intro w' hSw;unfold id at hSw;go_simp;(try with_reducible rfl));rotate_right;try simp only [Act.put,List.setIfInBounds_toArray,List.set_cons_zero,List.set_cons_succ]))
      refine mix_move rfl (fun K hK=> ?_)
      go_simp
      refine hK.out _ _ (by trivial) ?_
      clear hK K
      try simp only [Act.put,List.setIfInBounds_toArray,List.set_cons_zero,List.set_cons_succ]
      refine mix_move rfl (fun K hK=> ?_)
      refine step_append_row rfl (.tmp 62) (.tmp 65) 99 rfl 0 3 i0 _ 1 8 Tryz.underlying99 Hi.out Hi0.out Hi1.out Hi2.out rfl (by decide) _ 0 _ rfl (Hown2.out.alloc _) _ 1 _ rfl (Reads.litAt _ _ _ 1 1 _ (by first|rfl|simp) rfl) (by simp [Value.oneCell']) (by unfold maxLen;omega) (by omega) (Nat.zero_le _) ?_
      intro v3 w3 hown3 hk3 hf3
      have hfr3:=(Hfr2.out.keep (Keeps.alloc _ _)).app hk3 hf3
      obtain⟨ad3,c3,rfl,_,_⟩:=ownsRow_shape hown3
      refine hK.out _ _ (by trivial) ?_
      clear hK K
      try simp only [Act.put,List.setIfInBounds_toArray,List.set_cons_zero,List.set_cons_succ]
      obtain⟨Hown3,Hfr3⟩:=hid2 hown3 hfr3;clear hfr3 hown3
      clear hf3 hk3
      repeat (first
       |(refine mix_skip rfl (by rfl) ?_;try simp only [Act.put,List.setIfInBounds_toArray,List.set_cons_zero,List.set_cons_succ])
       |(refine mix_skipm rfl (by rfl) ?_;try simp only [Act.put,List.setIfInBounds_toArray,List.set_cons_zero,List.set_cons_succ])
       |(refine mix_take (v:= ?_) rfl (by rfl) ?_ ?_;rotate_left;(· intro w' hSw;unfold id at hSw;go_simp;(try with_reducible rfl));rotate_right;try simp only [Act.put,List.setIfInBounds_toArray,List.set_cons_zero,List.set_cons_succ]))
      refine mix_move rfl (fun K hK=> ?_)
      refine step_append_row rfl (.tmp 66) (.tmp 69) 99 rfl 0 3 i0 _ 1 8 Tryz.underlying99 Hi.out Hi0.out Hi1.out Hi2.out rfl (by decide) _ (0+1) _ rfl Hown3.out (.slice none 0 0) (0) _ rfl (Hsuf.out.keeps Hfr3.out.1 (by simp)) (i64c_one _) (by unfold maxLen;omega) (by omega) (Nat.zero_le _) ?_
      intro v4 w4 hown4 hk4 hf4
      have hfr4:=Hfr3.out.app hk4 hf4
      have hpost:=Hend.out v4 w4 hown4 hfr4
      obtain⟨ad4,c4,rfl,_,_⟩:=ownsRow_shape hown4
      refine hK.out _ _ (by trivial) ?_
      clear hK K
      try simp only [Act.put,List.setIfInBounds_toArray,List.set_cons_zero,List.set_cons_succ]
      have Hpost:=Lib.hid hpost;clear hpost
      clear hown4 hk4 hf4 hfr4
      repeat (first
       |(refine mix_skip rfl (by rfl) ?_;try simp only [Act.put,List.setIfInBounds_toArray,List.set_cons_zero,List.set_cons_succ])
       |(refine mix_skipm rfl (by rfl) ?_;try simp only [Act.put,List.setIfInBounds_toArray,List.set_cons_zero,List.set_cons_succ])
       |(refine mix_take (v:= ?_) rfl (by rfl) ?_ ?_;rotate_left;(· intro w' hSw;unfold id at hSw;go_simp;(try with_reducible rfl));rotate_right;try simp only [Act.put,List.setIfInBounds_toArray,List.set_cons_zero,List.set_cons_succ]))
      refine mix_done ?_
      go_wp2_with fail
      rw [Hlm2.out] at Hpost
      try rw [Hlm2.out]
      go_roundw
      case rel=>exact⟨0+1,_,rfl,by go_num,by omega,fun h=>by omega,Hpost.out⟩
      case measure=>simp [intOf];omega
     ·skip
      refine mix_move rfl (fun K hK=> ?_)
      go_simp
      refine hK.out _ _ (by trivial) ?_
      clear hK K
      try simp only [Act.put,List.setIfInBounds_toArray,List.set_cons_zero,List.set_cons_succ]
      repeat (first
       |(refine mix_skip rfl (by rfl) ?_;try simp only [Act.put,List.setIfInBounds_toArray,List.set_cons_zero,List.set_cons_succ])
       |(refine mix_skipm rfl (by rfl) ?_;try simp only [Act.put,List.setIfInBounds_toArray,List.set_cons_zero,List.set_cons_succ])
       |(refine mix_take (v:= ?_) rfl (by rfl) ?_ ?_;rotate_left;(· intro w' hSw;unfold id at hSw;go_simp;(try with_reducible rfl));rotate_right;try simp only [Act.put,List.setIfInBounds_toArray,List.set_cons_zero,List.set_cons_succ]))
      refine mix_move rfl (fun K hK=> ?_)
      refine step_append_row rfl (.const (.slice none 0 0)) (.tmp 61) 99 rfl 0 3 i0 _ 1 8 Tryz.underlying99 Hi.out Hi0.out Hi1.out Hi2.out rfl (by decide) (.slice none 0 0) 0 [] rfl (World.ownsRow_nil _ _ _ _) _ 0 _ rfl ((Hread.out.preL i64c_length 0 Hkn.out).alloc _) (i64c_one _) (by unfold maxLen;omega) (by omega) (Nat.zero_le _) ?_
      intro v2 w2 hown2 hk2 hf2
      have hfr2:=((Fresh.nil _).keep (Hkw.out.nt (Keeps.alloc _ _))).app hk2 hf2
      obtain⟨ad2,c2,rfl,_,_⟩:=ownsRow_shape hown2
      have hbx2:=Reads.blk (size:=1) (n:=1) (box_old (heap_alloc_new w7 _) hk2 (by simp [Value.ownBlock])) rfl
      simp only [Nat.zero_add,List.nil_append] at hown2 hfr2 hbx2⊢
      refine hK.out _ _ (by trivial) ?_
      clear hK K
      try simp only [Act.put,List.setIfInBounds_toArray,List.set_cons_zero,List.set_cons_succ]
      obtain⟨Hown2,Hfr2,Hbx2⟩:=hid3 hown2 hfr2 hbx2;clear hbx2 hfr2 hown2
      clear hf2 hk2
      repeat (first
       |(refine mix_skip rfl (by rfl) ?_;try simp only [Act.put,List.setIfInBounds_toArray,List.set_cons_zero,List.set_cons_succ])
       |(refine mix_skipm rfl (by rfl) ?_;try simp only [Act.put,List.setIfInBounds_toArray,List.set_cons_zero,List.set_cons_succ])
       |(refine mix_take (v:= ?_) rfl (by rfl) ?_ ?_;rotate_left;(· intro w' hSw;unfold id at hSw;go_simp;(try with_reducible rfl));rotate_right;try simp only [Act.put,List.setIfInBounds_toArray,List.set_cons_zero,List.set_cons_succ]))
      refine mix_move rfl (fun K hK=> ?_)
      refine step_append_row rfl (.tmp 62) (.tmp 65) 99 rfl 0 3 i0 _ 1 8 Tryz.underlying99 Hi.out Hi0.out Hi1.out Hi2.out rfl (by decide) _ 0 _ rfl Hown2.out _ 1 _ rfl Hbx2.out (by simp [Value.oneCell']) (by unfold maxLen;omega) (by omega) (Nat.zero_le _) ?_
      intro v3 w3 hown3 hk3 hf3
      have hfr3:=Hfr2.out.app hk3 hf3
      obtain⟨ad3,c3,rfl,_,_⟩:=ownsRow_shape hown3
      refine hK.out _ _ (by trivial) ?_
      clear hK K
      try simp only [Act.put,List.setIfInBounds_toArray,List.set_cons_zero,List.set_cons_succ]
      obtain⟨Hown3,Hfr3⟩:=hid2 hown3 hfr3;clear hfr3 hown3
      clear hf3 hk3
      repeat (first
       |(refine mix_skip rfl (by rfl) ?_;try simp only [Act.put,List.setIfInBounds_toArray,List.set_cons_zero,List.set_cons_succ])
       |(refine mix_skipm rfl (by rfl) ?_;try simp only [Act.put,List.setIfInBounds_toArray,List.set_cons_zero,List.set_cons_succ])
       |(refine mix_take (v:= ?_) rfl (by rfl) ?_ ?_;rotate_left;(· intro w' hSw;unfold id at hSw;go_simp;(try with_reducible rfl));rotate_right;try simp only [Act.put,List.setIfInBounds_toArray,List.set_cons_zero,List.set_cons_succ]))
      refine mix_move rfl (fun K hK=> ?_)
      refine step_append_row rfl (.tmp 66) (.tmp 69) 99 rfl 0 3 i0 _ 1 8 Tryz.underlying99 Hi.out Hi0.out Hi1.out Hi2.out rfl (by decide) _ (0+1) _ rfl Hown3.out (.slice none 0 0) (0) _ rfl (Hsuf.out.keeps Hfr3.out.1 (by simp)) (i64c_one _) (by unfold maxLen;omega) (by omega) (Nat.zero_le _) ?_
      intro v4 w4 hown4 hk4 hf4
      have hfr4:=Hfr3.out.app hk4 hf4
      have hpost:=Hend.out v4 w4 hown4 hfr4
      obtain⟨ad4,c4,rfl,_,_⟩:=ownsRow_shape hown4
      refine hK.out _ _ (by trivial) ?_
      clear hK K
      try simp only [Act.put,List.setIfInBounds_toArray,List.set_cons_zero,List.set_cons_succ]
      have Hpost:=Lib.hid hpost;clear hpost
      clear hown4 hk4 hf4 hfr4
      repeat (first
       |(refine mix_skip rfl (by rfl) ?_;try simp only [Act.put,List.setIfInBounds_toArray,List.set_cons_zero,List.set_cons_succ])
       |(refine mix_skipm rfl (by rfl) ?_;try simp only [Act.put,List.setIfInBounds_toArray,List.set_cons_zero,List.set_cons_succ])
       |(refine mix_take (v:= ?_) rfl (by rfl) ?_ ?_;rotate_left;(· intro w' hSw;unfold id at hSw;go_simp;(try with_reducible rfl));rotate_right;try simp only [Act.put,List.setIfInBounds_toArray,List.set_cons_zero,List.set_cons_succ]))
      refine mix_done ?_
      go_wp2_with fail
      rw [Hlm2.out] at Hpost
      try rw [Hlm2.out]
      go_roundw
      case rel=>exact⟨0+1,_,rfl,by go_num,by omega,fun h=>by omega,Hpost.out⟩
      case measure=>simp [intOf];omega
   ·obtain⟨g,cap,rfl,hgl⟩:=owns_some hrow (by omega)
    obtain⟨_,_,hsh,hic,_⟩:=ownsRow_shape hrow
    simp only [Value.slice.injEq,true_and] at hsh
    obtain⟨hx9,rfl⟩:=hsh
    clear hx9
    have hicI:(i:Int)≤(cap:Int):=by omega
    obtain⟨Hrow,Hfr,Hlen,HO,Hx,Hget,Hv0⟩:=hid7 hrow hfr hlen hO hx hget hv0;clear hv0 hget hx hO hlen hfr hrow
    go_wp2
    go_loopw [7] (fun x wx=>∃k:Nat,x= .int .i64 (k:Nat)∧k≤i∧plR hi0 R r O i=plR hi0 R r O k∧Keeps (fun _=>False) wq wx) (fun x _=>(intOf x).toNat)
    case atStart=>exact⟨i,rfl,Nat.le_refl _,rfl,Keeps.refl _ _⟩
    case round=>
     obtain⟨k,rfl,hki,hpl,hkq⟩:=hrel
     obtain⟨wi,hwi⟩:∃x,x=wr:=⟨_,rfl⟩
     subst hwi
     by_cases hkz:k=0
     ·have hk0:decide (0<k)=false:=by rw [decide_eq_false_iff_not];omega
      have hpl:plR hi0 R r O i=k:=by rw [hpl,hkz];rfl
      obtain⟨Hpl,Hkq,Hkz⟩:=hid3 hpl hkq hkz;clear hkz hkq hpl
      go_wp2_with fail
      refine wp_region_mixw (fun _=>True) (.take 0 (.take 1 (.take 2 (.take 3 (.take 4 (.take 5 (.take 6 (.take 7 (.take 8 (.take 9 (.take 10 (.take 11 (.take 12 (.take 13 (.take 14 (.take 15 (.take 16 (.take 17 (.take 18 (.take 19 (.take 20 (.take 21 (.take 22 (.take 23 (.take 24 (.take 25 (.take 26 (.take 27 (.take 28 (.take 29 (.take 30 (.take 31 (.take 32 (.take 33 (.take 34 (.take 35 (.take 36 (.take 37 (.take 38 (.take 39 (.take 40 .done))))))))))))))))))))))))))))))))))))))))) (by kernel_rfl) (by kernel_rfl) ?_ ?_
      ·trivial
      intro w6 hs6 hk6
      repeat (first
       |(refine mix_skip rfl (by rfl) ?_;try simp only [Act.put,List.setIfInBounds_toArray,List.set_cons_zero,List.set_cons_succ])
       |(refine mix_skipm rfl (by rfl) ?_;try simp only [Act.put,List.setIfInBounds_toArray,List.set_cons_zero,List.set_cons_succ])
       |(refine mix_take (v:= ?_) rfl (by rfl) ?_ ?_;rotate_left;(· intro w' hSw;unfold id at hSw;go_simp;(try with_reducible rfl));rotate_right;try simp only [Act.put,List.setIfInBounds_toArray,List.set_cons_zero,List.set_cons_succ]))
      refine mix_done ?_
      clear hs6
      have hkq6:=Hkq.out.nt hk6
      have hrow6:=Hrow.out.of_keeps hkq6
      have hkw6:=Hfr.out.1.nt hkq6
      obtain⟨Hkq6,Hrow6,Hkw6,Hk6⟩:=hid4 hkq6 hrow6 hkw6 hk6;clear hk6 hkw6 hrow6 hkq6
      go_wp2_with fail
      have hck2:¬(cap:Int)=(k:Int):=by have:=Hkz.out;omega
      have hck:¬cap=k:=by have:=Hkz.out;omega
      have hkn:k≤i:=by omega
      have hlm:k+1+(i-k)≤1000001:=by omega
      have hlm2:k+1+(i-k)=i+1:=by omega
      have hkI:(k:Int)≤((i:Nat):Int):=by omega
      have hkI0:(0:Int)≤(k:Int):=by omega
      have hkI2:(k:Int)≤(cap:Int):=by omega
      have hend:∀v4 W4,World.ownsRow W4 0 3 1 v4 (k+1+(i-k)) ((O.take k).flatMap i64c++ [.int .i64 (((i:Nat):Int)+1)]++(O.drop k).flatMap i64c)→Fresh w6 W4 v4→OrdR w hi0 R (k+1+(i-k)) v4 W4:=by
       intro v4 W4 ho hf
       refine⟨?_,Hkw6.out.nt hf.1,fun g hg=>Nat.le_trans Hkw6.out.size (hf.2 g hg)⟩
       rw [hlm2] at ho⊢
       show W4.ownsRow 0 _ 1 v4 (i+1) ((insR hi0 R (i) (rankN hi0 R (i))).flatMap i64c)
       unfold insR
       rw [HO.out,Hget.out,Hlen.out,Hpl.out,List.flatMap_append,List.flatMap_append]
       exact ho
      have hsuf:Reads w6 1 (.slice (some ⟨g,k,none⟩) (i-k) (cap-k)) (i-k) ((O.drop k).flatMap i64c):=by have:=(Reads.of_owns Hrow6.out).sufL i64c_length k (by omega);rwa [Nat.zero_add,Nat.mul_one] at this
      obtain⟨Hend,Hsuf,Hkn,Hlm2⟩:=hid4 hend hsuf hkn hlm2;clear hlm2 hkn hsuf hend
      refine wp_region_mixw (fun _=>True) (.take 0 (.take 1 (.take 2 (.take 4 (.take 5 (.take 8 (.take 9 (.take 10 (.fork 3 (.move 6 (.move 7 (.move 11 (.take 12 .done)))) 6 (.move 3 (.move 7 (.move 11 (.take 12 .done))))))))))))) (by kernel_rfl) (by kernel_rfl) ?_ ?_
      ·trivial
      intro w7 hs7 hk7
      have hread:=(Reads.of_owns Hrow6.out).keeps hk7 (by simp)
      have hkw:=hk7
      obtain⟨Hkw,Hread⟩:=hid2 hkw hread;clear hread hkw
      clear hs7 hk7
      repeat (first
       |(refine mix_skip rfl (by rfl) ?_;try simp only [Act.put,List.setIfInBounds_toArray,List.set_cons_zero,List.set_cons_succ])
       |(refine mix_skipm rfl (by rfl) ?_;try simp only [Act.put,List.setIfInBounds_toArray,List.set_cons_zero,List.set_cons_succ])
       |(refine mix_take (v:= ?_) rfl (by rfl) ?_ ?_;rotate_left;(· intro w' hSw;unfold id at hSw;go_simp;(try with_reducible rfl));rotate_right;try simp only [Act.put,List.setIfInBounds_toArray,List.set_cons_zero,List.set_cons_succ]))
      refine mix_fork ?_ ?_ trivial
      ·skip
       refine mix_move rfl (fun K hK=> ?_)
       refine step_append_row rfl (.const (.slice none 0 0)) (.tmp 61) 99 rfl 0 3 i0 _ 1 8 Tryz.underlying99 Hi.out Hi0.out Hi1.out Hi2.out rfl (by decide) (.slice none 0 0) 0 [] rfl (World.ownsRow_nil _ _ _ _) _ k _ rfl (Hread.out.preL i64c_length k Hkn.out) (i64c_one _) (by unfold maxLen;omega) (by omega) (Nat.zero_le _) ?_
       intro v2 w2 hown2 hk2 hf2
       have hfr2:=((Fresh.nil _).keep Hkw.out).app hk2 hf2
       obtain⟨ad2,c2,rfl,_,_⟩:=ownsRow_shape hown2
       simp only [Nat.zero_add,List.nil_append] at hown2 hfr2⊢
       refine hK.out _ _ (by trivial) ?_
       clear hK K
       try simp only [Act.put,List.setIfInBounds_toArray,List.set_cons_zero,List.set_cons_succ]
       obtain⟨Hown2,Hfr2⟩:=hid2 hown2 hfr2;clear hfr2 hown2
       clear hf2 hk2
       repeat (first
        |(refine mix_skip rfl (by rfl) ?_;try simp only [Act.put,List.setIfInBounds_toArray,List.set_cons_zero,List.set_cons_succ])
        |(refine mix_skipm rfl (by rfl) ?_;try simp only [Act.put,List.setIfInBounds_toArray,List.set_cons_zero,List.set_cons_succ])
        |(refine mix_take (v:= ?_) rfl (by rfl) ?_ ?_;rotate_left;(· intro w' hSw;unfold id at hSw;go_simp;(try with_reducible rfl));rotate_right;try simp only [Act.put,List.setIfInBounds_toArray,List.set_cons_zero,List.set_cons_succ]))
       refine mix_move rfl (fun K hK=> ?_)
       go_simp
       refine hK.out _ _ (by trivial) ?_
       clear hK K
       try simp only [Act.put,List.setIfInBounds_toArray,List.set_cons_zero,List.set_cons_succ]
       refine mix_move rfl (fun K hK=> ?_)
       refine step_append_row rfl (.tmp 62) (.tmp 65) 99 rfl 0 3 i0 _ 1 8 Tryz.underlying99 Hi.out Hi0.out Hi1.out Hi2.out rfl (by decide) _ k _ rfl (Hown2.out.alloc _) _ 1 _ rfl (Reads.litAt _ _ _ 1 1 _ (by first|rfl|simp) rfl) (by simp [Value.oneCell']) (by unfold maxLen;omega) (by omega) (Nat.zero_le _) ?_
       intro v3 w3 hown3 hk3 hf3
       have hfr3:=(Hfr2.out.keep (Keeps.alloc _ _)).app hk3 hf3
       obtain⟨ad3,c3,rfl,_,_⟩:=ownsRow_shape hown3
       refine hK.out _ _ (by trivial) ?_
       clear hK K
       try simp only [Act.put,List.setIfInBounds_toArray,List.set_cons_zero,List.set_cons_succ]
       obtain⟨Hown3,Hfr3⟩:=hid2 hown3 hfr3;clear hfr3 hown3
       clear hf3 hk3
       repeat (first
        |(refine mix_skip rfl (by rfl) ?_;try simp only [Act.put,List.setIfInBounds_toArray,List.set_cons_zero,List.set_cons_succ])
        |(refine mix_skipm rfl (by rfl) ?_;try simp only [Act.put,List.setIfInBounds_toArray,List.set_cons_zero,List.set_cons_succ])
        |(refine mix_take (v:= ?_) rfl (by rfl) ?_ ?_;rotate_left;(· intro w' hSw;unfold id at hSw;go_simp;(try with_reducible rfl));rotate_right;try simp only [Act.put,List.setIfInBounds_toArray,List.set_cons_zero,List.set_cons_succ]))
       refine mix_move rfl (fun K hK=> ?_)
       refine step_append_row rfl (.tmp 66) (.tmp 69) 99 rfl 0 3 i0 _ 1 8 Tryz.underlying99 Hi.out Hi0.out Hi1.out Hi2.out rfl (by decide) _ (k+1) _ rfl Hown3.out (.slice (some ⟨g,k,none⟩) (i-k) (cap-k)) (i-k) _ rfl (Hsuf.out.keeps Hfr3.out.1 (by simp)) (i64c_one _) (by unfold maxLen;omega) (by omega) (Nat.zero_le _) ?_
       intro v4 w4 hown4 hk4 hf4
       have hfr4:=Hfr3.out.app hk4 hf4
       have hpost:=Hend.out v4 w4 hown4 hfr4
       obtain⟨ad4,c4,rfl,_,_⟩:=ownsRow_shape hown4
       refine hK.out _ _ (by trivial) ?_
       clear hK K
       try simp only [Act.put,List.setIfInBounds_toArray,List.set_cons_zero,List.set_cons_succ]
       have Hpost:=Lib.hid hpost;clear hpost
       clear hown4 hk4 hf4 hfr4
       repeat (first
        |(refine mix_skip rfl (by rfl) ?_;try simp only [Act.put,List.setIfInBounds_toArray,List.set_cons_zero,List.set_cons_succ])
        |(refine mix_skipm rfl (by rfl) ?_;try simp only [Act.put,List.setIfInBounds_toArray,List.set_cons_zero,List.set_cons_succ])
        |(refine mix_take (v:= ?_) rfl (by rfl) ?_ ?_;rotate_left;(· intro w' hSw;unfold id at hSw;go_simp;(try with_reducible rfl));rotate_right;try simp only [Act.put,List.setIfInBounds_toArray,List.set_cons_zero,List.set_cons_succ]))
       refine mix_done ?_
       go_wp2_with fail
       rw [Hlm2.out] at Hpost
       try rw [Hlm2.out]
       go_roundw
       case rel=>exact⟨i+1,_,rfl,by go_num,by omega,fun h=>by omega,Hpost.out⟩
       case measure=>simp [intOf];omega
      ·skip
       refine mix_move rfl (fun K hK=> ?_)
       go_simp
       refine hK.out _ _ (by trivial) ?_
       clear hK K
       try simp only [Act.put,List.setIfInBounds_toArray,List.set_cons_zero,List.set_cons_succ]
       repeat (first
        |(refine mix_skip rfl (by rfl) ?_;try simp only [Act.put,List.setIfInBounds_toArray,List.set_cons_zero,List.set_cons_succ])
        |(refine mix_skipm rfl (by rfl) ?_;try simp only [Act.put,List.setIfInBounds_toArray,List.set_cons_zero,List.set_cons_succ])
        |(refine mix_take (v:= ?_) rfl (by rfl) ?_ ?_;rotate_left;(· intro w' hSw;unfold id at hSw;go_simp;(try with_reducible rfl));rotate_right;try simp only [Act.put,List.setIfInBounds_toArray,List.set_cons_zero,List.set_cons_succ]))
       refine mix_move rfl (fun K hK=> ?_)
       refine step_append_row rfl (.const (.slice none 0 0)) (.tmp 61) 99 rfl 0 3 i0 _ 1 8 Tryz.underlying99 Hi.out Hi0.out Hi1.out Hi2.out rfl (by decide) (.slice none 0 0) 0 [] rfl (World.ownsRow_nil _ _ _ _) _ k _ rfl ((Hread.out.preL i64c_length k Hkn.out).alloc _) (i64c_one _) (by unfold maxLen;omega) (by omega) (Nat.zero_le _) ?_
       intro v2 w2 hown2 hk2 hf2
       have hfr2:=((Fresh.nil _).keep (Hkw.out.nt (Keeps.alloc _ _))).app hk2 hf2
       obtain⟨ad2,c2,rfl,_,_⟩:=ownsRow_shape hown2
       have hbx2:=Reads.blk (size:=1) (n:=1) (box_old (heap_alloc_new w7 _) hk2 (by simp [Value.ownBlock])) rfl
       simp only [Nat.zero_add,List.nil_append] at hown2 hfr2 hbx2⊢
       refine hK.out _ _ (by trivial) ?_
       clear hK K
       try simp only [Act.put,List.setIfInBounds_toArray,List.set_cons_zero,List.set_cons_succ]
       obtain⟨Hown2,Hfr2,Hbx2⟩:=hid3 hown2 hfr2 hbx2;clear hbx2 hfr2 hown2
       clear hf2 hk2
       repeat (first
        |(refine mix_skip rfl (by rfl) ?_;try simp only [Act.put,List.setIfInBounds_toArray,List.set_cons_zero,List.set_cons_succ])
        |(refine mix_skipm rfl (by rfl) ?_;try simp only [Act.put,List.setIfInBounds_toArray,List.set_cons_zero,List.set_cons_succ])
        |(refine mix_take (v:= ?_) rfl (by rfl) ?_ ?_;rotate_left;(· intro w' hSw;unfold id at hSw;go_simp;(try with_reducible rfl));rotate_right;try simp only [Act.put,List.setIfInBounds_toArray,List.set_cons_zero,List.set_cons_succ]))
       refine mix_move rfl (fun K hK=> ?_)
       refine step_append_row rfl (.tmp 62) (.tmp 65) 99 rfl 0 3 i0 _ 1 8 Tryz.underlying99 Hi.out Hi0.out Hi1.out Hi2.out rfl (by decide) _ k _ rfl Hown2.out _ 1 _ rfl Hbx2.out (by simp [Value.oneCell']) (by unfold maxLen;omega) (by omega) (Nat.zero_le _) ?_
       intro v3 w3 hown3 hk3 hf3
       have hfr3:=Hfr2.out.app hk3 hf3
       obtain⟨ad3,c3,rfl,_,_⟩:=ownsRow_shape hown3
       refine hK.out _ _ (by trivial) ?_
       clear hK K
       try simp only [Act.put,List.setIfInBounds_toArray,List.set_cons_zero,List.set_cons_succ]
       obtain⟨Hown3,Hfr3⟩:=hid2 hown3 hfr3;clear hfr3 hown3
       clear hf3 hk3
       repeat (first
        |(refine mix_skip rfl (by rfl) ?_;try simp only [Act.put,List.setIfInBounds_toArray,List.set_cons_zero,List.set_cons_succ])
        |(refine mix_skipm rfl (by rfl) ?_;try simp only [Act.put,List.setIfInBounds_toArray,List.set_cons_zero,List.set_cons_succ])
        |(refine mix_take (v:= ?_) rfl (by rfl) ?_ ?_;rotate_left;(· intro w' hSw;unfold id at hSw;go_simp;(try with_reducible rfl));rotate_right;try simp only [Act.put,List.setIfInBounds_toArray,List.set_cons_zero,List.set_cons_succ]))
       refine mix_move rfl (fun K hK=> ?_)
       refine step_append_row rfl (.tmp 66) (.tmp 69) 99 rfl 0 3 i0 _ 1 8 Tryz.underlying99 Hi.out Hi0.out Hi1.out Hi2.out rfl (by decide) _ (k+1) _ rfl Hown3.out (.slice (some ⟨g,k,none⟩) (i-k) (cap-k)) (i-k) _ rfl (Hsuf.out.keeps Hfr3.out.1 (by simp)) (i64c_one _) (by unfold maxLen;omega) (by omega) (Nat.zero_le _) ?_
       intro v4 w4 hown4 hk4 hf4
       have hfr4:=Hfr3.out.app hk4 hf4
       have hpost:=Hend.out v4 w4 hown4 hfr4
       obtain⟨ad4,c4,rfl,_,_⟩:=ownsRow_shape hown4
       refine hK.out _ _ (by trivial) ?_
       clear hK K
       try simp only [Act.put,List.setIfInBounds_toArray,List.set_cons_zero,List.set_cons_succ]
       have Hpost:=Lib.hid hpost;clear hpost
       clear hown4 hk4 hf4 hfr4
       repeat (first
        |(refine mix_skip rfl (by rfl) ?_;try simp only [Act.put,List.setIfInBounds_toArray,List.set_cons_zero,List.set_cons_succ])
        |(refine mix_skipm rfl (by rfl) ?_;try simp only [Act.put,List.setIfInBounds_toArray,List.set_cons_zero,List.set_cons_succ])
        |(refine mix_take (v:= ?_) rfl (by rfl) ?_ ?_;rotate_left;(· intro w' hSw;unfold id at hSw;go_simp;(try with_reducible rfl));rotate_right;try simp only [Act.put,List.setIfInBounds_toArray,List.set_cons_zero,List.set_cons_succ]))
       refine mix_done ?_
       go_wp2_with fail
       rw [Hlm2.out] at Hpost
       try rw [Hlm2.out]
       go_roundw
       case rel=>exact⟨i+1,_,rfl,by go_num,by omega,fun h=>by omega,Hpost.out⟩
       case measure=>simp [intOf];omega
     ·obtain⟨j,hj⟩:∃j,k=j+1:=⟨k-1,by omega⟩
      subst hj
      obtain⟨x,hxj⟩:=get_some (L:=O) (k:=j) (by rw [Hlen.out];omega)
      have hxm:=rankN_mem (hi:=hi0) (R:=R) (n:=i) (x:=x) (by rw [HO.out];exact List.mem_of_getElem? hxj)
      obtain⟨q,hq⟩:∃q:Nat,x=(q:Int)+1:=⟨(x-1).toNat,by omega⟩
      subst hq
      obtain⟨r',hr'⟩:=get_some (L:=R) (k:=q) (by rw [HN.out];omega)
      have hrt:rt R (O.getD j 0)=r':=by
       unfold rt
       simp only [List.getD_eq_getElem?_getD,hxj,Option.getD_some]
       rw [show((q:Int)+1-1).toNat=q by omega,hr']
       rfl
      have hkwi:=Hfr.out.1.nt hkq
      obtain⟨gR,oR,heR,c1⟩:=(Hr.out.keeps hkwi (by simp)).int (k:= .i64) Hx.out
      obtain⟨gR',oR',heR',c2⟩:=(Hr.out.keeps hkwi (by simp)).int (k:= .i64) hr'
      subst heR
      simp only [Option.some.injEq,Addr.mk.injEq,and_true] at heR'
      obtain⟨rfl,rfl⟩:=heR'
      have c3:=(show RowI wi g i cap O from⟨Hrow.out.of_keeps hkq,Hlen.out⟩).cell hxj
      have hS:ro6 gR oR i q g j r r' ((q:Int)+1) wi.drew:=⟨c1,c3,c2⟩
      have hlR:=cell_lt c1
      have hlg:=cell_lt c3
      have hj1:(((j+1:Nat)):Int)-1=j:=by omega
      have hwj2:IntKind.i64.wrap ((j:Int)+1+1)=(j:Int)+1+1:=by rw [IntKind.wrap_i64];omega
      have hj2:decide ((0:Int)<((j+1:Nat):Int))=true:=by rw [decide_eq_true_iff];omega
      have hj3:decide ((0:Int)<(j:Int)+1)=true:=by rw [decide_eq_true_iff];omega
      have hq1:(q:Int)+1-1=q:=by omega
      have hqn:(q:Int)<(n:Int):=by omega
      have hji:(j:Int)<(i:Int):=by omega
      have hwj:IntKind.i64.wrap (j:Int)=j:=by rw [IntKind.wrap_i64];omega
      have hwq:IntKind.i64.wrap (q:Int)=q:=by rw [IntKind.wrap_i64];omega
      have hpl2:plR hi0 R r O i=if aheadB hi0 r r'=true then plR hi0 R r O j else j+1:=by rw [hpl];conv=>lhs;unfold plR;rw [hrt]
      clear c1 c2 c3 hxm hpl
      obtain⟨Hxj,Hr',Hrt,Hkwi,HS,Hkq,Hpl2⟩:=hid7 hxj hr' hrt hkwi hS hkq hpl2;clear hpl2 hkq hS hkwi hrt hr' hxj
      rcases hi0 with _|_
      ·rcases hc:decide (r<r') with _|_
       ·have hpl:plR false R r O i=j+1:=by rw [Hpl2.out];simp [aheadB,hc]
        have Hpl:=Lib.hid hpl;clear hpl
        go_wp2_with fail
        refine wp_region_mixw (ro6 gR oR i q g j r r' ((q:Int)+1)) (.take 0 (.take 1 (.take 2 (.take 3 (.take 4 (.take 5 (.take 6 (.take 7 (.take 8 (.take 9 (.take 10 (.take 11 (.take 12 (.take 13 (.take 14 (.take 15 (.take 16 (.take 17 (.take 18 (.take 19 (.take 20 (.take 21 (.take 22 (.take 23 (.take 24 (.take 25 (.take 26 (.take 27 (.take 28 (.take 29 (.take 30 (.take 31 (.take 32 (.take 33 (.take 34 (.take 35 (.take 36 (.take 37 (.take 38 (.take 39 (.take 40 .done))))))))))))))))))))))))))))))))))))))))) (by kernel_rfl) (by kernel_rfl) ?_ ?_
        ·exact HS.out
        intro w6 hs6 hk6
        repeat (first
         |(refine mix_skip rfl (by rfl) ?_;try simp only [Act.put,List.setIfInBounds_toArray,List.set_cons_zero,List.set_cons_succ])
         |(refine mix_skipm rfl (by rfl) ?_;try simp only [Act.put,List.setIfInBounds_toArray,List.set_cons_zero,List.set_cons_succ])
         |(refine mix_take (v:= ?_) rfl (by rfl) ?_ ?_;rotate_left;(· intro w' hSw;unfold ro6 at hSw;go_simp;(try with_reducible rfl));rotate_right;try simp only [Act.put,List.setIfInBounds_toArray,List.set_cons_zero,List.set_cons_succ]))
        refine mix_done ?_
        clear hs6
        have hkq6:=Hkq.out.nt hk6
        have hrow6:=Hrow.out.of_keeps hkq6
        have hkw6:=Hfr.out.1.nt hkq6
        obtain⟨Hkq6,Hrow6,Hkw6,Hk6⟩:=hid4 hkq6 hrow6 hkw6 hk6;clear hk6 hkw6 hrow6 hkq6
        go_wp2_with fail
        by_cases hck:cap=(j+1)
        ·obtain rfl:i=(j+1):=by omega
         subst hck
         have hkn:(j+1)≤(j+1):=by omega
         have hlm:(j+1)+1+(0)≤1000001:=by omega
         have hlm2:(j+1)+1+(0)=(j+1)+1:=by omega
         have hkI:((j+1):Int)≤(((j+1):Nat):Int):=by omega
         have hkI0:(0:Int)≤((j+1):Int):=by omega
         have hkI2:((j+1):Int)≤((j+1):Int):=by omega
         have hend:∀v4 W4,World.ownsRow W4 0 3 1 v4 ((j+1)+1+(0)) ((O.take (j+1)).flatMap i64c++ [.int .i64 ((((j+1):Nat):Int)+1)]++(O.drop (j+1)).flatMap i64c)→Fresh w6 W4 v4→OrdR w false R ((j+1)+1+(0)) v4 W4:=by
          intro v4 W4 ho hf
          refine⟨?_,Hkw6.out.nt hf.1,fun g hg=>Nat.le_trans Hkw6.out.size (hf.2 g hg)⟩
          rw [hlm2] at ho⊢
          show W4.ownsRow 0 _ 1 v4 ((j+1)+1) ((insR false R ((j+1)) (rankN false R ((j+1)))).flatMap i64c)
          unfold insR
          rw [HO.out,Hget.out,Hlen.out,Hpl.out,List.flatMap_append,List.flatMap_append]
          exact ho
         have hsuf:Reads w6 1 (.slice (some ⟨g,0,none⟩) 0 0) (0) ((O.drop (j+1)).flatMap i64c):=by rw [List.drop_eq_nil_of_le (by rw [Hlen.out];exact Nat.le_refl _)];exact Reads.none_of (by simp)
         obtain⟨Hend,Hsuf,Hkn,Hlm2⟩:=hid4 hend hsuf hkn hlm2;clear hlm2 hkn hsuf hend
         refine wp_region_mixw (fun _=>True) (.take 0 (.take 1 (.take 2 (.take 4 (.take 5 (.take 8 (.take 9 (.take 10 (.fork 3 (.move 6 (.move 7 (.move 11 (.take 12 .done)))) 6 (.move 3 (.move 7 (.move 11 (.take 12 .done))))))))))))) (by kernel_rfl) (by kernel_rfl) ?_ ?_
         ·trivial
         intro w7 hs7 hk7
         have hread:=(Reads.of_owns Hrow6.out).keeps hk7 (by simp)
         have hkw:=hk7
         obtain⟨Hkw,Hread⟩:=hid2 hkw hread;clear hread hkw
         clear hs7 hk7
         repeat (first
          |(refine mix_skip rfl (by rfl) ?_;try simp only [Act.put,List.setIfInBounds_toArray,List.set_cons_zero,List.set_cons_succ])
          |(refine mix_skipm rfl (by rfl) ?_;try simp only [Act.put,List.setIfInBounds_toArray,List.set_cons_zero,List.set_cons_succ])
          |(refine mix_take (v:= ?_) rfl (by rfl) ?_ ?_;rotate_left;(· intro w' hSw;unfold id at hSw;go_simp;(try with_reducible rfl));rotate_right;try simp only [Act.put,List.setIfInBounds_toArray,List.set_cons_zero,List.set_cons_succ]))
         refine mix_fork ?_ ?_ trivial
         ·skip
          refine mix_move rfl (fun K hK=> ?_)
          refine step_append_row rfl (.const (.slice none 0 0)) (.tmp 61) 99 rfl 0 3 i0 _ 1 8 Tryz.underlying99 Hi.out Hi0.out Hi1.out Hi2.out rfl (by decide) (.slice none 0 0) 0 [] rfl (World.ownsRow_nil _ _ _ _) _ (j+1) _ rfl (Hread.out.preL i64c_length (j+1) Hkn.out) (i64c_one _) (by unfold maxLen;omega) (by omega) (Nat.zero_le _) ?_
          intro v2 w2 hown2 hk2 hf2
          have hfr2:=((Fresh.nil _).keep Hkw.out).app hk2 hf2
          obtain⟨ad2,c2,rfl,_,_⟩:=ownsRow_shape hown2
          simp only [Nat.zero_add,List.nil_append] at hown2 hfr2⊢
          refine hK.out _ _ (by trivial) ?_
          clear hK K
          try simp only [Act.put,List.setIfInBounds_toArray,List.set_cons_zero,List.set_cons_succ]
          obtain⟨Hown2,Hfr2⟩:=hid2 hown2 hfr2;clear hfr2 hown2
          clear hf2 hk2
          repeat (first
           |(refine mix_skip rfl (by rfl) ?_;try simp only [Act.put,List.setIfInBounds_toArray,List.set_cons_zero,List.set_cons_succ])
           |(refine mix_skipm rfl (by rfl) ?_;try simp only [Act.put,List.setIfInBounds_toArray,List.set_cons_zero,List.set_cons_succ])
           |(refine mix_take (v:= ?_) rfl (by rfl) ?_ ?_;rotate_left;(· intro w' hSw;unfold id at hSw;go_simp;(try with_reducible rfl));rotate_right;try simp only [Act.put,List.setIfInBounds_toArray,List.set_cons_zero,List.set_cons_succ]))
          refine mix_move rfl (fun K hK=> ?_)
          go_simp
          refine hK.out _ _ (by trivial) ?_
          clear hK K
          try simp only [Act.put,List.setIfInBounds_toArray,List.set_cons_zero,List.set_cons_succ]
          refine mix_move rfl (fun K hK=> ?_)
          refine step_append_row rfl (.tmp 62) (.tmp 65) 99 rfl 0 3 i0 _ 1 8 Tryz.underlying99 Hi.out Hi0.out Hi1.out Hi2.out rfl (by decide) _ (j+1) _ rfl (Hown2.out.alloc _) _ 1 _ rfl (Reads.litAt _ _ _ 1 1 _ (by first|rfl|simp) rfl) (by simp [Value.oneCell']) (by unfold maxLen;omega) (by omega) (Nat.zero_le _) ?_
          intro v3 w3 hown3 hk3 hf3
          have hfr3:=(Hfr2.out.keep (Keeps.alloc _ _)).app hk3 hf3
          obtain⟨ad3,c3,rfl,_,_⟩:=ownsRow_shape hown3
          refine hK.out _ _ (by trivial) ?_
          clear hK K
          try simp only [Act.put,List.setIfInBounds_toArray,List.set_cons_zero,List.set_cons_succ]
          obtain⟨Hown3,Hfr3⟩:=hid2 hown3 hfr3;clear hfr3 hown3
          clear hf3 hk3
          repeat (first
           |(refine mix_skip rfl (by rfl) ?_;try simp only [Act.put,List.setIfInBounds_toArray,List.set_cons_zero,List.set_cons_succ])
           |(refine mix_skipm rfl (by rfl) ?_;try simp only [Act.put,List.setIfInBounds_toArray,List.set_cons_zero,List.set_cons_succ])
           |(refine mix_take (v:= ?_) rfl (by rfl) ?_ ?_;rotate_left;(· intro w' hSw;unfold id at hSw;go_simp;(try with_reducible rfl));rotate_right;try simp only [Act.put,List.setIfInBounds_toArray,List.set_cons_zero,List.set_cons_succ]))
          refine mix_move rfl (fun K hK=> ?_)
          refine step_append_row rfl (.tmp 66) (.tmp 69) 99 rfl 0 3 i0 _ 1 8 Tryz.underlying99 Hi.out Hi0.out Hi1.out Hi2.out rfl (by decide) _ ((j+1)+1) _ rfl Hown3.out (.slice (some ⟨g,0,none⟩) 0 0) (0) _ rfl (Hsuf.out.keeps Hfr3.out.1 (by simp)) (i64c_one _) (by unfold maxLen;omega) (by omega) (Nat.zero_le _) ?_
          intro v4 w4 hown4 hk4 hf4
          have hfr4:=Hfr3.out.app hk4 hf4
          have hpost:=Hend.out v4 w4 hown4 hfr4
          obtain⟨ad4,c4,rfl,_,_⟩:=ownsRow_shape hown4
          refine hK.out _ _ (by trivial) ?_
          clear hK K
          try simp only [Act.put,List.setIfInBounds_toArray,List.set_cons_zero,List.set_cons_succ]
          have Hpost:=Lib.hid hpost;clear hpost
          clear hown4 hk4 hf4 hfr4
          repeat (first
           |(refine mix_skip rfl (by rfl) ?_;try simp only [Act.put,List.setIfInBounds_toArray,List.set_cons_zero,List.set_cons_succ])
           |(refine mix_skipm rfl (by rfl) ?_;try simp only [Act.put,List.setIfInBounds_toArray,List.set_cons_zero,List.set_cons_succ])
           |(refine mix_take (v:= ?_) rfl (by rfl) ?_ ?_;rotate_left;(· intro w' hSw;unfold id at hSw;go_simp;(try with_reducible rfl));rotate_right;try simp only [Act.put,List.setIfInBounds_toArray,List.set_cons_zero,List.set_cons_succ]))
          refine mix_done ?_
          go_wp2_with fail
          rw [Hlm2.out] at Hpost
          try rw [Hlm2.out]
          go_roundw
          case rel=>exact⟨(j+1)+1,_,rfl,by go_num,by omega,fun h=>by omega,Hpost.out⟩
          case measure=>simp [intOf];omega
         ·skip
          refine mix_move rfl (fun K hK=> ?_)
          go_simp
          refine hK.out _ _ (by trivial) ?_
          clear hK K
          try simp only [Act.put,List.setIfInBounds_toArray,List.set_cons_zero,List.set_cons_succ]
          repeat (first
           |(refine mix_skip rfl (by rfl) ?_;try simp only [Act.put,List.setIfInBounds_toArray,List.set_cons_zero,List.set_cons_succ])
           |(refine mix_skipm rfl (by rfl) ?_;try simp only [Act.put,List.setIfInBounds_toArray,List.set_cons_zero,List.set_cons_succ])
           |(refine mix_take (v:= ?_) rfl (by rfl) ?_ ?_;rotate_left;(· intro w' hSw;unfold id at hSw;go_simp;(try with_reducible rfl));rotate_right;try simp only [Act.put,List.setIfInBounds_toArray,List.set_cons_zero,List.set_cons_succ]))
          refine mix_move rfl (fun K hK=> ?_)
          refine step_append_row rfl (.const (.slice none 0 0)) (.tmp 61) 99 rfl 0 3 i0 _ 1 8 Tryz.underlying99 Hi.out Hi0.out Hi1.out Hi2.out rfl (by decide) (.slice none 0 0) 0 [] rfl (World.ownsRow_nil _ _ _ _) _ (j+1) _ rfl ((Hread.out.preL i64c_length (j+1) Hkn.out).alloc _) (i64c_one _) (by unfold maxLen;omega) (by omega) (Nat.zero_le _) ?_
          intro v2 w2 hown2 hk2 hf2
          have hfr2:=((Fresh.nil _).keep (Hkw.out.nt (Keeps.alloc _ _))).app hk2 hf2
          obtain⟨ad2,c2,rfl,_,_⟩:=ownsRow_shape hown2
          have hbx2:=Reads.blk (size:=1) (n:=1) (box_old (heap_alloc_new w7 _) hk2 (by simp [Value.ownBlock])) rfl
          simp only [Nat.zero_add,List.nil_append] at hown2 hfr2 hbx2⊢
          refine hK.out _ _ (by trivial) ?_
          clear hK K
          try simp only [Act.put,List.setIfInBounds_toArray,List.set_cons_zero,List.set_cons_succ]
          obtain⟨Hown2,Hfr2,Hbx2⟩:=hid3 hown2 hfr2 hbx2;clear hbx2 hfr2 hown2
          clear hf2 hk2
          repeat (first
           |(refine mix_skip rfl (by rfl) ?_;try simp only [Act.put,List.setIfInBounds_toArray,List.set_cons_zero,List.set_cons_succ])
           |(refine mix_skipm rfl (by rfl) ?_;try simp only [Act.put,List.setIfInBounds_toArray,List.set_cons_zero,List.set_cons_succ])
           |(refine mix_take (v:= ?_) rfl (by rfl) ?_ ?_;rotate_left;(· intro w' hSw;unfold id at hSw;go_simp;(try with_reducible rfl));rotate_right;try simp only [Act.put,List.setIfInBounds_toArray,List.set_cons_zero,List.set_cons_succ]))
          refine mix_move rfl (fun K hK=> ?_)
          refine step_append_row rfl (.tmp 62) (.tmp 65) 99 rfl 0 3 i0 _ 1 8 Tryz.underlying99 Hi.out Hi0.out Hi1.out Hi2.out rfl (by decide) _ (j+1) _ rfl Hown2.out _ 1 _ rfl Hbx2.out (by simp [Value.oneCell']) (by unfold maxLen;omega) (by omega) (Nat.zero_le _) ?_
          intro v3 w3 hown3 hk3 hf3
          have hfr3:=Hfr2.out.app hk3 hf3
          obtain⟨ad3,c3,rfl,_,_⟩:=ownsRow_shape hown3
          refine hK.out _ _ (by trivial) ?_
          clear hK K
          try simp only [Act.put,List.setIfInBounds_toArray,List.set_cons_zero,List.set_cons_succ]
          obtain⟨Hown3,Hfr3⟩:=hid2 hown3 hfr3;clear hfr3 hown3
          clear hf3 hk3
          repeat (first
           |(refine mix_skip rfl (by rfl) ?_;try simp only [Act.put,List.setIfInBounds_toArray,List.set_cons_zero,List.set_cons_succ])
           |(refine mix_skipm rfl (by rfl) ?_;try simp only [Act.put,List.setIfInBounds_toArray,List.set_cons_zero,List.set_cons_succ])
           |(refine mix_take (v:= ?_) rfl (by rfl) ?_ ?_;rotate_left;(· intro w' hSw;unfold id at hSw;go_simp;(try with_reducible rfl));rotate_right;try simp only [Act.put,List.setIfInBounds_toArray,List.set_cons_zero,List.set_cons_succ]))
          refine mix_move rfl (fun K hK=> ?_)
          refine step_append_row rfl (.tmp 66) (.tmp 69) 99 rfl 0 3 i0 _ 1 8 Tryz.underlying99 Hi.out Hi0.out Hi1.out Hi2.out rfl (by decide) _ ((j+1)+1) _ rfl Hown3.out (.slice (some ⟨g,0,none⟩) 0 0) (0) _ rfl (Hsuf.out.keeps Hfr3.out.1 (by simp)) (i64c_one _) (by unfold maxLen;omega) (by omega) (Nat.zero_le _) ?_
          intro v4 w4 hown4 hk4 hf4
          have hfr4:=Hfr3.out.app hk4 hf4
          have hpost:=Hend.out v4 w4 hown4 hfr4
          obtain⟨ad4,c4,rfl,_,_⟩:=ownsRow_shape hown4
          refine hK.out _ _ (by trivial) ?_
          clear hK K
          try simp only [Act.put,List.setIfInBounds_toArray,List.set_cons_zero,List.set_cons_succ]
          have Hpost:=Lib.hid hpost;clear hpost
          clear hown4 hk4 hf4 hfr4
          repeat (first
           |(refine mix_skip rfl (by rfl) ?_;try simp only [Act.put,List.setIfInBounds_toArray,List.set_cons_zero,List.set_cons_succ])
           |(refine mix_skipm rfl (by rfl) ?_;try simp only [Act.put,List.setIfInBounds_toArray,List.set_cons_zero,List.set_cons_succ])
           |(refine mix_take (v:= ?_) rfl (by rfl) ?_ ?_;rotate_left;(· intro w' hSw;unfold id at hSw;go_simp;(try with_reducible rfl));rotate_right;try simp only [Act.put,List.setIfInBounds_toArray,List.set_cons_zero,List.set_cons_succ]))
          refine mix_done ?_
          go_wp2_with fail
          rw [Hlm2.out] at Hpost
          try rw [Hlm2.out]
          go_roundw
          case rel=>exact⟨(j+1)+1,_,rfl,by go_num,by omega,fun h=>by omega,Hpost.out⟩
          case measure=>simp [intOf];omega
        ·have hck2:¬(cap:Int)=((j+1):Int):=by omega
         have hkn:(j+1)≤i:=by omega
         have hlm:(j+1)+1+(i-(j+1))≤1000001:=by omega
         have hlm2:(j+1)+1+(i-(j+1))=i+1:=by omega
         have hkI:((j+1):Int)≤((i:Nat):Int):=by omega
         have hkI0:(0:Int)≤((j+1):Int):=by omega
         have hkI2:((j+1):Int)≤(cap:Int):=by omega
         have hend:∀v4 W4,World.ownsRow W4 0 3 1 v4 ((j+1)+1+(i-(j+1))) ((O.take (j+1)).flatMap i64c++ [.int .i64 (((i:Nat):Int)+1)]++(O.drop (j+1)).flatMap i64c)→Fresh w6 W4 v4→OrdR w false R ((j+1)+1+(i-(j+1))) v4 W4:=by
          intro v4 W4 ho hf
          refine⟨?_,Hkw6.out.nt hf.1,fun g hg=>Nat.le_trans Hkw6.out.size (hf.2 g hg)⟩
          rw [hlm2] at ho⊢
          show W4.ownsRow 0 _ 1 v4 (i+1) ((insR false R (i) (rankN false R (i))).flatMap i64c)
          unfold insR
          rw [HO.out,Hget.out,Hlen.out,Hpl.out,List.flatMap_append,List.flatMap_append]
          exact ho
         have hsuf:Reads w6 1 (.slice (some ⟨g,(j+1),none⟩) (i-(j+1)) (cap-(j+1))) (i-(j+1)) ((O.drop (j+1)).flatMap i64c):=by have:=(Reads.of_owns Hrow6.out).sufL i64c_length (j+1) (by omega);rwa [Nat.zero_add,Nat.mul_one] at this
         obtain⟨Hend,Hsuf,Hkn,Hlm2⟩:=hid4 hend hsuf hkn hlm2;clear hlm2 hkn hsuf hend
         refine wp_region_mixw (fun _=>True) (.take 0 (.take 1 (.take 2 (.take 4 (.take 5 (.take 8 (.take 9 (.take 10 (.fork 3 (.move 6 (.move 7 (.move 11 (.take 12 .done)))) 6 (.move 3 (.move 7 (.move 11 (.take 12 .done))))))))))))) (by kernel_rfl) (by kernel_rfl) ?_ ?_
         ·trivial
         intro w7 hs7 hk7
         have hread:=(Reads.of_owns Hrow6.out).keeps hk7 (by simp)
         have hkw:=hk7
         obtain⟨Hkw,Hread⟩:=hid2 hkw hread;clear hread hkw
         clear hs7 hk7
         repeat (first
          |(refine mix_skip rfl (by rfl) ?_;try simp only [Act.put,List.setIfInBounds_toArray,List.set_cons_zero,List.set_cons_succ])
          |(refine mix_skipm rfl (by rfl) ?_;try simp only [Act.put,List.setIfInBounds_toArray,List.set_cons_zero,List.set_cons_succ])
          |(refine mix_take (v:= ?_) rfl (by rfl) ?_ ?_;rotate_left;(· intro w' hSw;unfold id at hSw;go_simp;(try with_reducible rfl));rotate_right;try simp only [Act.put,List.setIfInBounds_toArray,List.set_cons_zero,List.set_cons_succ]))
         refine mix_fork ?_ ?_ trivial
         ·skip
          refine mix_move rfl (fun K hK=> ?_)
          refine step_append_row rfl (.const (.slice none 0 0)) (.tmp 61) 99 rfl 0 3 i0 _ 1 8 Tryz.underlying99 Hi.out Hi0.out Hi1.out Hi2.out rfl (by decide) (.slice none 0 0) 0 [] rfl (World.ownsRow_nil _ _ _ _) _ (j+1) _ rfl (Hread.out.preL i64c_length (j+1) Hkn.out) (i64c_one _) (by unfold maxLen;omega) (by omega) (Nat.zero_le _) ?_
          intro v2 w2 hown2 hk2 hf2
          have hfr2:=((Fresh.nil _).keep Hkw.out).app hk2 hf2
          obtain⟨ad2,c2,rfl,_,_⟩:=ownsRow_shape hown2
          simp only [Nat.zero_add,List.nil_append] at hown2 hfr2⊢
          refine hK.out _ _ (by trivial) ?_
          clear hK K
          try simp only [Act.put,List.setIfInBounds_toArray,List.set_cons_zero,List.set_cons_succ]
          obtain⟨Hown2,Hfr2⟩:=hid2 hown2 hfr2;clear hfr2 hown2
          clear hf2 hk2
          repeat (first
           |(refine mix_skip rfl (by rfl) ?_;try simp only [Act.put,List.setIfInBounds_toArray,List.set_cons_zero,List.set_cons_succ])
           |(refine mix_skipm rfl (by rfl) ?_;try simp only [Act.put,List.setIfInBounds_toArray,List.set_cons_zero,List.set_cons_succ])
           |(refine mix_take (v:= ?_) rfl (by rfl) ?_ ?_;rotate_left;(· intro w' hSw;unfold id at hSw;go_simp;(try with_reducible rfl));rotate_right;try simp only [Act.put,List.setIfInBounds_toArray,List.set_cons_zero,List.set_cons_succ]))
          refine mix_move rfl (fun K hK=> ?_)
          go_simp
          refine hK.out _ _ (by trivial) ?_
          clear hK K
          try simp only [Act.put,List.setIfInBounds_toArray,List.set_cons_zero,List.set_cons_succ]
          refine mix_move rfl (fun K hK=> ?_)
          refine step_append_row rfl (.tmp 62) (.tmp 65) 99 rfl 0 3 i0 _ 1 8 Tryz.underlying99 Hi.out Hi0.out Hi1.out Hi2.out rfl (by decide) _ (j+1) _ rfl (Hown2.out.alloc _) _ 1 _ rfl (Reads.litAt _ _ _ 1 1 _ (by first|rfl|simp) rfl) (by simp [Value.oneCell']) (by unfold maxLen;omega) (by omega) (Nat.zero_le _) ?_
          intro v3 w3 hown3 hk3 hf3
          have hfr3:=(Hfr2.out.keep (Keeps.alloc _ _)).app hk3 hf3
          obtain⟨ad3,c3,rfl,_,_⟩:=ownsRow_shape hown3
          refine hK.out _ _ (by trivial) ?_
          clear hK K
          try simp only [Act.put,List.setIfInBounds_toArray,List.set_cons_zero,List.set_cons_succ]
          obtain⟨Hown3,Hfr3⟩:=hid2 hown3 hfr3;clear hfr3 hown3
          clear hf3 hk3
          repeat (first
           |(refine mix_skip rfl (by rfl) ?_;try simp only [Act.put,List.setIfInBounds_toArray,List.set_cons_zero,List.set_cons_succ])
           |(refine mix_skipm rfl (by rfl) ?_;try simp only [Act.put,List.setIfInBounds_toArray,List.set_cons_zero,List.set_cons_succ])
           |(refine mix_take (v:= ?_) rfl (by rfl) ?_ ?_;rotate_left;(· intro w' hSw;unfold id at hSw;go_simp;(try with_reducible rfl));rotate_right;try simp only [Act.put,List.setIfInBounds_toArray,List.set_cons_zero,List.set_cons_succ]))
          refine mix_move rfl (fun K hK=> ?_)
          refine step_append_row rfl (.tmp 66) (.tmp 69) 99 rfl 0 3 i0 _ 1 8 Tryz.underlying99 Hi.out Hi0.out Hi1.out Hi2.out rfl (by decide) _ ((j+1)+1) _ rfl Hown3.out (.slice (some ⟨g,(j+1),none⟩) (i-(j+1)) (cap-(j+1))) (i-(j+1)) _ rfl (Hsuf.out.keeps Hfr3.out.1 (by simp)) (i64c_one _) (by unfold maxLen;omega) (by omega) (Nat.zero_le _) ?_
          intro v4 w4 hown4 hk4 hf4
          have hfr4:=Hfr3.out.app hk4 hf4
          have hpost:=Hend.out v4 w4 hown4 hfr4
          obtain⟨ad4,c4,rfl,_,_⟩:=ownsRow_shape hown4
          refine hK.out _ _ (by trivial) ?_
          clear hK K
          try simp only [Act.put,List.setIfInBounds_toArray,List.set_cons_zero,List.set_cons_succ]
          have Hpost:=Lib.hid hpost;clear hpost
          clear hown4 hk4 hf4 hfr4
          repeat (first
           |(refine mix_skip rfl (by rfl) ?_;try simp only [Act.put,List.setIfInBounds_toArray,List.set_cons_zero,List.set_cons_succ])
           |(refine mix_skipm rfl (by rfl) ?_;try simp only [Act.put,List.setIfInBounds_toArray,List.set_cons_zero,List.set_cons_succ])
           |(refine mix_take (v:= ?_) rfl (by rfl) ?_ ?_;rotate_left;(· intro w' hSw;unfold id at hSw;go_simp;(try with_reducible rfl));rotate_right;try simp only [Act.put,List.setIfInBounds_toArray,List.set_cons_zero,List.set_cons_succ]))
          refine mix_done ?_
          go_wp2_with fail
          rw [Hlm2.out] at Hpost
          try rw [Hlm2.out]
          go_roundw
          case rel=>exact⟨i+1,_,rfl,by go_num,by omega,fun h=>by omega,Hpost.out⟩
          case measure=>simp [intOf];omega
         ·skip
          refine mix_move rfl (fun K hK=> ?_)
          go_simp
          refine hK.out _ _ (by trivial) ?_
          clear hK K
          try simp only [Act.put,List.setIfInBounds_toArray,List.set_cons_zero,List.set_cons_succ]
          repeat (first
           |(refine mix_skip rfl (by rfl) ?_;try simp only [Act.put,List.setIfInBounds_toArray,List.set_cons_zero,List.set_cons_succ])
           |(refine mix_skipm rfl (by rfl) ?_;try simp only [Act.put,List.setIfInBounds_toArray,List.set_cons_zero,List.set_cons_succ])
           |(refine mix_take (v:= ?_) rfl (by rfl) ?_ ?_;rotate_left;(· intro w' hSw;unfold id at hSw;go_simp;(try with_reducible rfl));rotate_right;try simp only [Act.put,List.setIfInBounds_toArray,List.set_cons_zero,List.set_cons_succ]))
          refine mix_move rfl (fun K hK=> ?_)
          refine step_append_row rfl (.const (.slice none 0 0)) (.tmp 61) 99 rfl 0 3 i0 _ 1 8 Tryz.underlying99 Hi.out Hi0.out Hi1.out Hi2.out rfl (by decide) (.slice none 0 0) 0 [] rfl (World.ownsRow_nil _ _ _ _) _ (j+1) _ rfl ((Hread.out.preL i64c_length (j+1) Hkn.out).alloc _) (i64c_one _) (by unfold maxLen;omega) (by omega) (Nat.zero_le _) ?_
          intro v2 w2 hown2 hk2 hf2
          have hfr2:=((Fresh.nil _).keep (Hkw.out.nt (Keeps.alloc _ _))).app hk2 hf2
          obtain⟨ad2,c2,rfl,_,_⟩:=ownsRow_shape hown2
          have hbx2:=Reads.blk (size:=1) (n:=1) (box_old (heap_alloc_new w7 _) hk2 (by simp [Value.ownBlock])) rfl
          simp only [Nat.zero_add,List.nil_append] at hown2 hfr2 hbx2⊢
          refine hK.out _ _ (by trivial) ?_
          clear hK K
          try simp only [Act.put,List.setIfInBounds_toArray,List.set_cons_zero,List.set_cons_succ]
          obtain⟨Hown2,Hfr2,Hbx2⟩:=hid3 hown2 hfr2 hbx2;clear hbx2 hfr2 hown2
          clear hf2 hk2
          repeat (first
           |(refine mix_skip rfl (by rfl) ?_;try simp only [Act.put,List.setIfInBounds_toArray,List.set_cons_zero,List.set_cons_succ])
           |(refine mix_skipm rfl (by rfl) ?_;try simp only [Act.put,List.setIfInBounds_toArray,List.set_cons_zero,List.set_cons_succ])
           |(refine mix_take (v:= ?_) rfl (by rfl) ?_ ?_;rotate_left;(· intro w' hSw;unfold id at hSw;go_simp;(try with_reducible rfl));rotate_right;try simp only [Act.put,List.setIfInBounds_toArray,List.set_cons_zero,List.set_cons_succ]))
          refine mix_move rfl (fun K hK=> ?_)
          refine step_append_row rfl (.tmp 62) (.tmp 65) 99 rfl 0 3 i0 _ 1 8 Tryz.underlying99 Hi.out Hi0.out Hi1.out Hi2.out rfl (by decide) _ (j+1) _ rfl Hown2.out _ 1 _ rfl Hbx2.out (by simp [Value.oneCell']) (by unfold maxLen;omega) (by omega) (Nat.zero_le _) ?_
          intro v3 w3 hown3 hk3 hf3
          have hfr3:=Hfr2.out.app hk3 hf3
          obtain⟨ad3,c3,rfl,_,_⟩:=ownsRow_shape hown3
          refine hK.out _ _ (by trivial) ?_
          clear hK K
          try simp only [Act.put,List.setIfInBounds_toArray,List.set_cons_zero,List.set_cons_succ]
          obtain⟨Hown3,Hfr3⟩:=hid2 hown3 hfr3;clear hfr3 hown3
          clear hf3 hk3
          repeat (first
           |(refine mix_skip rfl (by rfl) ?_;try simp only [Act.put,List.setIfInBounds_toArray,List.set_cons_zero,List.set_cons_succ])
           |(refine mix_skipm rfl (by rfl) ?_;try simp only [Act.put,List.setIfInBounds_toArray,List.set_cons_zero,List.set_cons_succ])
           |(refine mix_take (v:= ?_) rfl (by rfl) ?_ ?_;rotate_left;(· intro w' hSw;unfold id at hSw;go_simp;(try with_reducible rfl));rotate_right;try simp only [Act.put,List.setIfInBounds_toArray,List.set_cons_zero,List.set_cons_succ]))
          refine mix_move rfl (fun K hK=> ?_)
          refine step_append_row rfl (.tmp 66) (.tmp 69) 99 rfl 0 3 i0 _ 1 8 Tryz.underlying99 Hi.out Hi0.out Hi1.out Hi2.out rfl (by decide) _ ((j+1)+1) _ rfl Hown3.out (.slice (some ⟨g,(j+1),none⟩) (i-(j+1)) (cap-(j+1))) (i-(j+1)) _ rfl (Hsuf.out.keeps Hfr3.out.1 (by simp)) (i64c_one _) (by unfold maxLen;omega) (by omega) (Nat.zero_le _) ?_
          intro v4 w4 hown4 hk4 hf4
          have hfr4:=Hfr3.out.app hk4 hf4
          have hpost:=Hend.out v4 w4 hown4 hfr4
          obtain⟨ad4,c4,rfl,_,_⟩:=ownsRow_shape hown4
          refine hK.out _ _ (by trivial) ?_
          clear hK K
          try simp only [Act.put,List.setIfInBounds_toArray,List.set_cons_zero,List.set_cons_succ]
          have Hpost:=Lib.hid hpost;clear hpost
          clear hown4 hk4 hf4 hfr4
          repeat (first
           |(refine mix_skip rfl (by rfl) ?_;try simp only [Act.put,List.setIfInBounds_toArray,List.set_cons_zero,List.set_cons_succ])
           |(refine mix_skipm rfl (by rfl) ?_;try simp only [Act.put,List.setIfInBounds_toArray,List.set_cons_zero,List.set_cons_succ])
           |(refine mix_take (v:= ?_) rfl (by rfl) ?_ ?_;rotate_left;(· intro w' hSw;unfold id at hSw;go_simp;(try with_reducible rfl));rotate_right;try simp only [Act.put,List.setIfInBounds_toArray,List.set_cons_zero,List.set_cons_succ]))
          refine mix_done ?_
          go_wp2_with fail
          rw [Hlm2.out] at Hpost
          try rw [Hlm2.out]
          go_roundw
          case rel=>exact⟨i+1,_,rfl,by go_num,by omega,fun h=>by omega,Hpost.out⟩
          case measure=>simp [intOf];omega
       ·have hpl:plR false R r O i=plR false R r O j:=by rw [Hpl2.out];simp [aheadB,hc]
        have Hpl:=Lib.hid hpl;clear hpl
        go_wp2_with fail
        refine wp_region_mixw (ro6 gR oR i q g j r r' ((q:Int)+1)) (.take 0 (.take 1 (.take 2 (.take 3 (.take 4 (.take 5 (.take 6 (.take 7 (.take 8 (.take 9 (.take 10 (.take 11 (.take 12 (.take 13 (.take 14 (.take 15 (.take 16 (.take 17 (.take 18 (.take 19 (.take 20 (.take 21 (.take 22 (.take 23 (.take 24 (.take 25 (.take 26 (.take 27 (.take 28 (.take 29 (.take 30 (.take 31 (.take 32 (.take 33 (.take 34 (.take 35 (.take 36 (.take 37 (.take 38 (.take 39 (.take 40 .done))))))))))))))))))))))))))))))))))))))))) (by kernel_rfl) (by kernel_rfl) ?_ ?_
        ·exact HS.out
        intro w6 hs6 hk6
        repeat (first
         |(refine mix_skip rfl (by rfl) ?_;try simp only [Act.put,List.setIfInBounds_toArray,List.set_cons_zero,List.set_cons_succ])
         |(refine mix_skipm rfl (by rfl) ?_;try simp only [Act.put,List.setIfInBounds_toArray,List.set_cons_zero,List.set_cons_succ])
         |(refine mix_take (v:= ?_) rfl (by rfl) ?_ ?_;rotate_left;(· intro w' hSw;unfold ro6 at hSw;go_simp;(try with_reducible rfl));rotate_right;try simp only [Act.put,List.setIfInBounds_toArray,List.set_cons_zero,List.set_cons_succ]))
        refine mix_done ?_
        clear hs6
        go_wp2_with fail
        go_roundw
        case rel=>exact⟨j,by go_num,by omega,Hpl.out,Hkq.out.nt hk6⟩
        case measure=>simp [intOf]
      ·rcases hc:decide (r'<r) with _|_
       ·have hpl:plR true R r O i=j+1:=by rw [Hpl2.out];simp [aheadB,hc]
        have Hpl:=Lib.hid hpl;clear hpl
        go_wp2_with fail
        refine wp_region_mixw (ro6 gR oR i q g j r r' ((q:Int)+1)) (.take 0 (.take 1 (.take 2 (.take 3 (.take 4 (.take 5 (.take 6 (.take 7 (.take 8 (.take 9 (.take 10 (.take 11 (.take 12 (.take 13 (.take 14 (.take 15 (.take 16 (.take 17 (.take 18 (.take 19 (.take 20 (.take 21 (.take 22 (.take 23 (.take 24 (.take 25 (.take 26 (.take 27 (.take 28 (.take 29 (.take 30 (.take 31 (.take 32 (.take 33 (.take 34 (.take 35 (.take 36 (.take 37 (.take 38 (.take 39 (.take 40 .done))))))))))))))))))))))))))))))))))))))))) (by kernel_rfl) (by kernel_rfl) ?_ ?_
        ·exact HS.out
        intro w6 hs6 hk6
        repeat (first
         |(refine mix_skip rfl (by rfl) ?_;try simp only [Act.put,List.setIfInBounds_toArray,List.set_cons_zero,List.set_cons_succ])
         |(refine mix_skipm rfl (by rfl) ?_;try simp only [Act.put,List.setIfInBounds_toArray,List.set_cons_zero,List.set_cons_succ])
         |(refine mix_take (v:= ?_) rfl (by rfl) ?_ ?_;rotate_left;(· intro w' hSw;unfold ro6 at hSw;go_simp;(try with_reducible rfl));rotate_right;try simp only [Act.put,List.setIfInBounds_toArray,List.set_cons_zero,List.set_cons_succ]))
        refine mix_done ?_
        clear hs6
        have hkq6:=Hkq.out.nt hk6
        have hrow6:=Hrow.out.of_keeps hkq6
        have hkw6:=Hfr.out.1.nt hkq6
        obtain⟨Hkq6,Hrow6,Hkw6,Hk6⟩:=hid4 hkq6 hrow6 hkw6 hk6;clear hk6 hkw6 hrow6 hkq6
        go_wp2_with fail
        by_cases hck:cap=(j+1)
        ·obtain rfl:i=(j+1):=by omega
         subst hck
         have hkn:(j+1)≤(j+1):=by omega
         have hlm:(j+1)+1+(0)≤1000001:=by omega
         have hlm2:(j+1)+1+(0)=(j+1)+1:=by omega
         have hkI:((j+1):Int)≤(((j+1):Nat):Int):=by omega
         have hkI0:(0:Int)≤((j+1):Int):=by omega
         have hkI2:((j+1):Int)≤((j+1):Int):=by omega
         have hend:∀v4 W4,World.ownsRow W4 0 3 1 v4 ((j+1)+1+(0)) ((O.take (j+1)).flatMap i64c++ [.int .i64 ((((j+1):Nat):Int)+1)]++(O.drop (j+1)).flatMap i64c)→Fresh w6 W4 v4→OrdR w true R ((j+1)+1+(0)) v4 W4:=by
          intro v4 W4 ho hf
          refine⟨?_,Hkw6.out.nt hf.1,fun g hg=>Nat.le_trans Hkw6.out.size (hf.2 g hg)⟩
          rw [hlm2] at ho⊢
          show W4.ownsRow 0 _ 1 v4 ((j+1)+1) ((insR true R ((j+1)) (rankN true R ((j+1)))).flatMap i64c)
          unfold insR
          rw [HO.out,Hget.out,Hlen.out,Hpl.out,List.flatMap_append,List.flatMap_append]
          exact ho
         have hsuf:Reads w6 1 (.slice (some ⟨g,0,none⟩) 0 0) (0) ((O.drop (j+1)).flatMap i64c):=by rw [List.drop_eq_nil_of_le (by rw [Hlen.out];exact Nat.le_refl _)];exact Reads.none_of (by simp)
         obtain⟨Hend,Hsuf,Hkn,Hlm2⟩:=hid4 hend hsuf hkn hlm2;clear hlm2 hkn hsuf hend
         refine wp_region_mixw (fun _=>True) (.take 0 (.take 1 (.take 2 (.take 4 (.take 5 (.take 8 (.take 9 (.take 10 (.fork 3 (.move 6 (.move 7 (.move 11 (.take 12 .done)))) 6 (.move 3 (.move 7 (.move 11 (.take 12 .done))))))))))))) (by kernel_rfl) (by kernel_rfl) ?_ ?_
         ·trivial
         intro w7 hs7 hk7
         have hread:=(Reads.of_owns Hrow6.out).keeps hk7 (by simp)
         have hkw:=hk7
         obtain⟨Hkw,Hread⟩:=hid2 hkw hread;clear hread hkw
         clear hs7 hk7
         repeat (first
          |(refine mix_skip rfl (by rfl) ?_;try simp only [Act.put,List.setIfInBounds_toArray,List.set_cons_zero,List.set_cons_succ])
          |(refine mix_skipm rfl (by rfl) ?_;try simp only [Act.put,List.setIfInBounds_toArray,List.set_cons_zero,List.set_cons_succ])
          |(refine mix_take (v:= ?_) rfl (by rfl) ?_ ?_;rotate_left;(· intro w' hSw;unfold id at hSw;go_simp;(try with_reducible rfl));rotate_right;try simp only [Act.put,List.setIfInBounds_toArray,List.set_cons_zero,List.set_cons_succ]))
         refine mix_fork ?_ ?_ trivial
         ·skip
          refine mix_move rfl (fun K hK=> ?_)
          refine step_append_row rfl (.const (.slice none 0 0)) (.tmp 61) 99 rfl 0 3 i0 _ 1 8 Tryz.underlying99 Hi.out Hi0.out Hi1.out Hi2.out rfl (by decide) (.slice none 0 0) 0 [] rfl (World.ownsRow_nil _ _ _ _) _ (j+1) _ rfl (Hread.out.preL i64c_length (j+1) Hkn.out) (i64c_one _) (by unfold maxLen;omega) (by omega) (Nat.zero_le _) ?_
          intro v2 w2 hown2 hk2 hf2
          have hfr2:=((Fresh.nil _).keep Hkw.out).app hk2 hf2
          obtain⟨ad2,c2,rfl,_,_⟩:=ownsRow_shape hown2
          simp only [Nat.zero_add,List.nil_append] at hown2 hfr2⊢
          refine hK.out _ _ (by trivial) ?_
          clear hK K
          try simp only [Act.put,List.setIfInBounds_toArray,List.set_cons_zero,List.set_cons_succ]
          obtain⟨Hown2,Hfr2⟩:=hid2 hown2 hfr2;clear hfr2 hown2
          clear hf2 hk2
          repeat (first
           |(refine mix_skip rfl (by rfl) ?_;try simp only [Act.put,List.setIfInBounds_toArray,List.set_cons_zero,List.set_cons_succ])
           |(refine mix_skipm rfl (by rfl) ?_;try simp only [Act.put,List.setIfInBounds_toArray,List.set_cons_zero,List.set_cons_succ])
           |(refine mix_take (v:= ?_) rfl (by rfl) ?_ ?_;rotate_left;(· intro w' hSw;unfold id at hSw;go_simp;(try with_reducible rfl));rotate_right;try simp only [Act.put,List.setIfInBounds_toArray,List.set_cons_zero,List.set_cons_succ]))
          refine mix_move rfl (fun K hK=> ?_)
          go_simp
          refine hK.out _ _ (by trivial) ?_
          clear hK K
          try simp only [Act.put,List.setIfInBounds_toArray,List.set_cons_zero,List.set_cons_succ]
          refine mix_move rfl (fun K hK=> ?_)
          refine step_append_row rfl (.tmp 62) (.tmp 65) 99 rfl 0 3 i0 _ 1 8 Tryz.underlying99 Hi.out Hi0.out Hi1.out Hi2.out rfl (by decide) _ (j+1) _ rfl (Hown2.out.alloc _) _ 1 _ rfl (Reads.litAt _ _ _ 1 1 _ (by first|rfl|simp) rfl) (by simp [Value.oneCell']) (by unfold maxLen;omega) (by omega) (Nat.zero_le _) ?_
          intro v3 w3 hown3 hk3 hf3
          have hfr3:=(Hfr2.out.keep (Keeps.alloc _ _)).app hk3 hf3
          obtain⟨ad3,c3,rfl,_,_⟩:=ownsRow_shape hown3
          refine hK.out _ _ (by trivial) ?_
          clear hK K
          try simp only [Act.put,List.setIfInBounds_toArray,List.set_cons_zero,List.set_cons_succ]
          obtain⟨Hown3,Hfr3⟩:=hid2 hown3 hfr3;clear hfr3 hown3
          clear hf3 hk3
          repeat (first
           |(refine mix_skip rfl (by rfl) ?_;try simp only [Act.put,List.setIfInBounds_toArray,List.set_cons_zero,List.set_cons_succ])
           |(refine mix_skipm rfl (by rfl) ?_;try simp only [Act.put,List.setIfInBounds_toArray,List.set_cons_zero,List.set_cons_succ])
           |(refine mix_take (v:= ?_) rfl (by rfl) ?_ ?_;rotate_left;(· intro w' hSw;unfold id at hSw;go_simp;(try with_reducible rfl));rotate_right;try simp only [Act.put,List.setIfInBounds_toArray,List.set_cons_zero,List.set_cons_succ]))
          refine mix_move rfl (fun K hK=> ?_)
          refine step_append_row rfl (.tmp 66) (.tmp 69) 99 rfl 0 3 i0 _ 1 8 Tryz.underlying99 Hi.out Hi0.out Hi1.out Hi2.out rfl (by decide) _ ((j+1)+1) _ rfl Hown3.out (.slice (some ⟨g,0,none⟩) 0 0) (0) _ rfl (Hsuf.out.keeps Hfr3.out.1 (by simp)) (i64c_one _) (by unfold maxLen;omega) (by omega) (Nat.zero_le _) ?_
          intro v4 w4 hown4 hk4 hf4
          have hfr4:=Hfr3.out.app hk4 hf4
          have hpost:=Hend.out v4 w4 hown4 hfr4
          obtain⟨ad4,c4,rfl,_,_⟩:=ownsRow_shape hown4
          refine hK.out _ _ (by trivial) ?_
          clear hK K
          try simp only [Act.put,List.setIfInBounds_toArray,List.set_cons_zero,List.set_cons_succ]
          have Hpost:=Lib.hid hpost;clear hpost
          clear hown4 hk4 hf4 hfr4
          repeat (first
           |(refine mix_skip rfl (by rfl) ?_;try simp only [Act.put,List.setIfInBounds_toArray,List.set_cons_zero,List.set_cons_succ])
           |(refine mix_skipm rfl (by rfl) ?_;try simp only [Act.put,List.setIfInBounds_toArray,List.set_cons_zero,List.set_cons_succ])
           |(refine mix_take (v:= ?_) rfl (by rfl) ?_ ?_;rotate_left;(· intro w' hSw;unfold id at hSw;go_simp;(try with_reducible rfl));rotate_right;try simp only [Act.put,List.setIfInBounds_toArray,List.set_cons_zero,List.set_cons_succ]))
          refine mix_done ?_
          go_wp2_with fail
          rw [Hlm2.out] at Hpost
          try rw [Hlm2.out]
          go_roundw
          case rel=>exact⟨(j+1)+1,_,rfl,by go_num,by omega,fun h=>by omega,Hpost.out⟩
          case measure=>simp [intOf];omega
         ·skip
          refine mix_move rfl (fun K hK=> ?_)
          go_simp
          refine hK.out _ _ (by trivial) ?_
          clear hK K
          try simp only [Act.put,List.setIfInBounds_toArray,List.set_cons_zero,List.set_cons_succ]
          repeat (first
           |(refine mix_skip rfl (by rfl) ?_;try simp only [Act.put,List.setIfInBounds_toArray,List.set_cons_zero,List.set_cons_succ])
           |(refine mix_skipm rfl (by rfl) ?_;try simp only [Act.put,List.setIfInBounds_toArray,List.set_cons_zero,List.set_cons_succ])
           |(refine mix_take (v:= ?_) rfl (by rfl) ?_ ?_;rotate_left;(· intro w' hSw;unfold id at hSw;go_simp;(try with_reducible rfl));rotate_right;try simp only [Act.put,List.setIfInBounds_toArray,List.set_cons_zero,List.set_cons_succ]))
          refine mix_move rfl (fun K hK=> ?_)
          refine step_append_row rfl (.const (.slice none 0 0)) (.tmp 61) 99 rfl 0 3 i0 _ 1 8 Tryz.underlying99 Hi.out Hi0.out Hi1.out Hi2.out rfl (by decide) (.slice none 0 0) 0 [] rfl (World.ownsRow_nil _ _ _ _) _ (j+1) _ rfl ((Hread.out.preL i64c_length (j+1) Hkn.out).alloc _) (i64c_one _) (by unfold maxLen;omega) (by omega) (Nat.zero_le _) ?_
          intro v2 w2 hown2 hk2 hf2
          have hfr2:=((Fresh.nil _).keep (Hkw.out.nt (Keeps.alloc _ _))).app hk2 hf2
          obtain⟨ad2,c2,rfl,_,_⟩:=ownsRow_shape hown2
          have hbx2:=Reads.blk (size:=1) (n:=1) (box_old (heap_alloc_new w7 _) hk2 (by simp [Value.ownBlock])) rfl
          simp only [Nat.zero_add,List.nil_append] at hown2 hfr2 hbx2⊢
          refine hK.out _ _ (by trivial) ?_
          clear hK K
          try simp only [Act.put,List.setIfInBounds_toArray,List.set_cons_zero,List.set_cons_succ]
          obtain⟨Hown2,Hfr2,Hbx2⟩:=hid3 hown2 hfr2 hbx2;clear hbx2 hfr2 hown2
          clear hf2 hk2
          repeat (first
           |(refine mix_skip rfl (by rfl) ?_;try simp only [Act.put,List.setIfInBounds_toArray,List.set_cons_zero,List.set_cons_succ])
           |(refine mix_skipm rfl (by rfl) ?_;try simp only [Act.put,List.setIfInBounds_toArray,List.set_cons_zero,List.set_cons_succ])
           |(refine mix_take (v:= ?_) rfl (by rfl) ?_ ?_;rotate_left;(· intro w' hSw;unfold id at hSw;go_simp;(try with_reducible rfl));rotate_right;try simp only [Act.put,List.setIfInBounds_toArray,List.set_cons_zero,List.set_cons_succ]))
          refine mix_move rfl (fun K hK=> ?_)
          refine step_append_row rfl (.tmp 62) (.tmp 65) 99 rfl 0 3 i0 _ 1 8 Tryz.underlying99 Hi.out Hi0.out Hi1.out Hi2.out rfl (by decide) _ (j+1) _ rfl Hown2.out _ 1 _ rfl Hbx2.out (by simp [Value.oneCell']) (by unfold maxLen;omega) (by omega) (Nat.zero_le _) ?_
          intro v3 w3 hown3 hk3 hf3
          have hfr3:=Hfr2.out.app hk3 hf3
          obtain⟨ad3,c3,rfl,_,_⟩:=ownsRow_shape hown3
          refine hK.out _ _ (by trivial) ?_
          clear hK K
          try simp only [Act.put,List.setIfInBounds_toArray,List.set_cons_zero,List.set_cons_succ]
          obtain⟨Hown3,Hfr3⟩:=hid2 hown3 hfr3;clear hfr3 hown3
          clear hf3 hk3
          repeat (first
           |(refine mix_skip rfl (by rfl) ?_;try simp only [Act.put,List.setIfInBounds_toArray,List.set_cons_zero,List.set_cons_succ])
           |(refine mix_skipm rfl (by rfl) ?_;try simp only [Act.put,List.setIfInBounds_toArray,List.set_cons_zero,List.set_cons_succ])
           |(refine mix_take (v:= ?_) rfl (by rfl) ?_ ?_;rotate_left;(· intro w' hSw;unfold id at hSw;go_simp;(try with_reducible rfl));rotate_right;try simp only [Act.put,List.setIfInBounds_toArray,List.set_cons_zero,List.set_cons_succ]))
          refine mix_move rfl (fun K hK=> ?_)
          refine step_append_row rfl (.tmp 66) (.tmp 69) 99 rfl 0 3 i0 _ 1 8 Tryz.underlying99 Hi.out Hi0.out Hi1.out Hi2.out rfl (by decide) _ ((j+1)+1) _ rfl Hown3.out (.slice (some ⟨g,0,none⟩) 0 0) (0) _ rfl (Hsuf.out.keeps Hfr3.out.1 (by simp)) (i64c_one _) (by unfold maxLen;omega) (by omega) (Nat.zero_le _) ?_
          intro v4 w4 hown4 hk4 hf4
          have hfr4:=Hfr3.out.app hk4 hf4
          have hpost:=Hend.out v4 w4 hown4 hfr4
          obtain⟨ad4,c4,rfl,_,_⟩:=ownsRow_shape hown4
          refine hK.out _ _ (by trivial) ?_
          clear hK K
          try simp only [Act.put,List.setIfInBounds_toArray,List.set_cons_zero,List.set_cons_succ]
          have Hpost:=Lib.hid hpost;clear hpost
          clear hown4 hk4 hf4 hfr4
          repeat (first
           |(refine mix_skip rfl (by rfl) ?_;try simp only [Act.put,List.setIfInBounds_toArray,List.set_cons_zero,List.set_cons_succ])
           |(refine mix_skipm rfl (by rfl) ?_;try simp only [Act.put,List.setIfInBounds_toArray,List.set_cons_zero,List.set_cons_succ])
           |(refine mix_take (v:= ?_) rfl (by rfl) ?_ ?_;rotate_left;(· intro w' hSw;unfold id at hSw;go_simp;(try with_reducible rfl));rotate_right;try simp only [Act.put,List.setIfInBounds_toArray,List.set_cons_zero,List.set_cons_succ]))
          refine mix_done ?_
          go_wp2_with fail
          rw [Hlm2.out] at Hpost
          try rw [Hlm2.out]
          go_roundw
          case rel=>exact⟨(j+1)+1,_,rfl,by go_num,by omega,fun h=>by omega,Hpost.out⟩
          case measure=>simp [intOf];omega
        ·have hck2:¬(cap:Int)=((j+1):Int):=by omega
         have hkn:(j+1)≤i:=by omega
         have hlm:(j+1)+1+(i-(j+1))≤1000001:=by omega
         have hlm2:(j+1)+1+(i-(j+1))=i+1:=by omega
         have hkI:((j+1):Int)≤((i:Nat):Int):=by omega
         have hkI0:(0:Int)≤((j+1):Int):=by omega
         have hkI2:((j+1):Int)≤(cap:Int):=by omega
         have hend:∀v4 W4,World.ownsRow W4 0 3 1 v4 ((j+1)+1+(i-(j+1))) ((O.take (j+1)).flatMap i64c++ [.int .i64 (((i:Nat):Int)+1)]++(O.drop (j+1)).flatMap i64c)→Fresh w6 W4 v4→OrdR w true R ((j+1)+1+(i-(j+1))) v4 W4:=by
          intro v4 W4 ho hf
          refine⟨?_,Hkw6.out.nt hf.1,fun g hg=>Nat.le_trans Hkw6.out.size (hf.2 g hg)⟩
          rw [hlm2] at ho⊢
          show W4.ownsRow 0 _ 1 v4 (i+1) ((insR true R (i) (rankN true R (i))).flatMap i64c)
          unfold insR
          rw [HO.out,Hget.out,Hlen.out,Hpl.out,List.flatMap_append,List.flatMap_append]
          exact ho
         have hsuf:Reads w6 1 (.slice (some ⟨g,(j+1),none⟩) (i-(j+1)) (cap-(j+1))) (i-(j+1)) ((O.drop (j+1)).flatMap i64c):=by have:=(Reads.of_owns Hrow6.out).sufL i64c_length (j+1) (by omega);rwa [Nat.zero_add,Nat.mul_one] at this
         obtain⟨Hend,Hsuf,Hkn,Hlm2⟩:=hid4 hend hsuf hkn hlm2;clear hlm2 hkn hsuf hend
         refine wp_region_mixw (fun _=>True) (.take 0 (.take 1 (.take 2 (.take 4 (.take 5 (.take 8 (.take 9 (.take 10 (.fork 3 (.move 6 (.move 7 (.move 11 (.take 12 .done)))) 6 (.move 3 (.move 7 (.move 11 (.take 12 .done))))))))))))) (by kernel_rfl) (by kernel_rfl) ?_ ?_
         ·trivial
         intro w7 hs7 hk7
         have hread:=(Reads.of_owns Hrow6.out).keeps hk7 (by simp)
         have hkw:=hk7
         obtain⟨Hkw,Hread⟩:=hid2 hkw hread;clear hread hkw
         clear hs7 hk7
         repeat (first
          |(refine mix_skip rfl (by rfl) ?_;try simp only [Act.put,List.setIfInBounds_toArray,List.set_cons_zero,List.set_cons_succ])
          |(refine mix_skipm rfl (by rfl) ?_;try simp only [Act.put,List.setIfInBounds_toArray,List.set_cons_zero,List.set_cons_succ])
          |(refine mix_take (v:= ?_) rfl (by rfl) ?_ ?_;rotate_left;(· intro w' hSw;unfold id at hSw;go_simp;(try with_reducible rfl));rotate_right;try simp only [Act.put,List.setIfInBounds_toArray,List.set_cons_zero,List.set_cons_succ]))
         refine mix_fork ?_ ?_ trivial
         ·skip
          refine mix_move rfl (fun K hK=> ?_)
          refine step_append_row rfl (.const (.slice none 0 0)) (.tmp 61) 99 rfl 0 3 i0 _ 1 8 Tryz.underlying99 Hi.out Hi0.out Hi1.out Hi2.out rfl (by decide) (.slice none 0 0) 0 [] rfl (World.ownsRow_nil _ _ _ _) _ (j+1) _ rfl (Hread.out.preL i64c_length (j+1) Hkn.out) (i64c_one _) (by unfold maxLen;omega) (by omega) (Nat.zero_le _) ?_
          intro v2 w2 hown2 hk2 hf2
          have hfr2:=((Fresh.nil _).keep Hkw.out).app hk2 hf2
          obtain⟨ad2,c2,rfl,_,_⟩:=ownsRow_shape hown2
          simp only [Nat.zero_add,List.nil_append] at hown2 hfr2⊢
          refine hK.out _ _ (by trivial) ?_
          clear hK K
          try simp only [Act.put,List.setIfInBounds_toArray,List.set_cons_zero,List.set_cons_succ]
          obtain⟨Hown2,Hfr2⟩:=hid2 hown2 hfr2;clear hfr2 hown2
          clear hf2 hk2
          repeat (first
           |(refine mix_skip rfl (by rfl) ?_;try simp only [Act.put,List.setIfInBounds_toArray,List.set_cons_zero,List.set_cons_succ])
           |(refine mix_skipm rfl (by rfl) ?_;try simp only [Act.put,List.setIfInBounds_toArray,List.set_cons_zero,List.set_cons_succ])
           |(refine mix_take (v:= ?_) rfl (by rfl) ?_ ?_;rotate_left;(· intro w' hSw;unfold id at hSw;go_simp;(try with_reducible rfl));rotate_right;try simp only [Act.put,List.setIfInBounds_toArray,List.set_cons_zero,List.set_cons_succ]))
          refine mix_move rfl (fun K hK=> ?_)
          go_simp
          refine hK.out _ _ (by trivial) ?_
          clear hK K
          try simp only [Act.put,List.setIfInBounds_toArray,List.set_cons_zero,List.set_cons_succ]
          refine mix_move rfl (fun K hK=> ?_)
          refine step_append_row rfl (.tmp 62) (.tmp 65) 99 rfl 0 3 i0 _ 1 8 Tryz.underlying99 Hi.out Hi0.out Hi1.out Hi2.out rfl (by decide) _ (j+1) _ rfl (Hown2.out.alloc _) _ 1 _ rfl (Reads.litAt _ _ _ 1 1 _ (by first|rfl|simp) rfl) (by simp [Value.oneCell']) (by unfold maxLen;omega) (by omega) (Nat.zero_le _) ?_
          intro v3 w3 hown3 hk3 hf3
          have hfr3:=(Hfr2.out.keep (Keeps.alloc _ _)).app hk3 hf3
          obtain⟨ad3,c3,rfl,_,_⟩:=ownsRow_shape hown3
          refine hK.out _ _ (by trivial) ?_
          clear hK K
          try simp only [Act.put,List.setIfInBounds_toArray,List.set_cons_zero,List.set_cons_succ]
          obtain⟨Hown3,Hfr3⟩:=hid2 hown3 hfr3;clear hfr3 hown3
          clear hf3 hk3
          repeat (first
           |(refine mix_skip rfl (by rfl) ?_;try simp only [Act.put,List.setIfInBounds_toArray,List.set_cons_zero,List.set_cons_succ])
           |(refine mix_skipm rfl (by rfl) ?_;try simp only [Act.put,List.setIfInBounds_toArray,List.set_cons_zero,List.set_cons_succ])
           |(refine mix_take (v:= ?_) rfl (by rfl) ?_ ?_;rotate_left;(· intro w' hSw;unfold id at hSw;go_simp;(try with_reducible rfl));rotate_right;try simp only [Act.put,List.setIfInBounds_toArray,List.set_cons_zero,List.set_cons_succ]))
          refine mix_move rfl (fun K hK=> ?_)
          refine step_append_row rfl (.tmp 66) (.tmp 69) 99 rfl 0 3 i0 _ 1 8 Tryz.underlying99 Hi.out Hi0.out Hi1.out Hi2.out rfl (by decide) _ ((j+1)+1) _ rfl Hown3.out (.slice (some ⟨g,(j+1),none⟩) (i-(j+1)) (cap-(j+1))) (i-(j+1)) _ rfl (Hsuf.out.keeps Hfr3.out.1 (by simp)) (i64c_one _) (by unfold maxLen;omega) (by omega) (Nat.zero_le _) ?_
          intro v4 w4 hown4 hk4 hf4
          have hfr4:=Hfr3.out.app hk4 hf4
          have hpost:=Hend.out v4 w4 hown4 hfr4
          obtain⟨ad4,c4,rfl,_,_⟩:=ownsRow_shape hown4
          refine hK.out _ _ (by trivial) ?_
          clear hK K
          try simp only [Act.put,List.setIfInBounds_toArray,List.set_cons_zero,List.set_cons_succ]
          have Hpost:=Lib.hid hpost;clear hpost
          clear hown4 hk4 hf4 hfr4
          repeat (first
           |(refine mix_skip rfl (by rfl) ?_;try simp only [Act.put,List.setIfInBounds_toArray,List.set_cons_zero,List.set_cons_succ])
           |(refine mix_skipm rfl (by rfl) ?_;try simp only [Act.put,List.setIfInBounds_toArray,List.set_cons_zero,List.set_cons_succ])
           |(refine mix_take (v:= ?_) rfl (by rfl) ?_ ?_;rotate_left;(· intro w' hSw;unfold id at hSw;go_simp;(try with_reducible rfl));rotate_right;try simp only [Act.put,List.setIfInBounds_toArray,List.set_cons_zero,List.set_cons_succ]))
          refine mix_done ?_
          go_wp2_with fail
          rw [Hlm2.out] at Hpost
          try rw [Hlm2.out]
          go_roundw
          case rel=>exact⟨i+1,_,rfl,by go_num,by omega,fun h=>by omega,Hpost.out⟩
          case measure=>simp [intOf];omega
         ·skip
          refine mix_move rfl (fun K hK=> ?_)
          go_simp
          refine hK.out _ _ (by trivial) ?_
          clear hK K
          try simp only [Act.put,List.setIfInBounds_toArray,List.set_cons_zero,List.set_cons_succ]
          repeat (first
           |(refine mix_skip rfl (by rfl) ?_;try simp only [Act.put,List.setIfInBounds_toArray,List.set_cons_zero,List.set_cons_succ])
           |(refine mix_skipm rfl (by rfl) ?_;try simp only [Act.put,List.setIfInBounds_toArray,List.set_cons_zero,List.set_cons_succ])
           |(refine mix_take (v:= ?_) rfl (by rfl) ?_ ?_;rotate_left;(· intro w' hSw;unfold id at hSw;go_simp;(try with_reducible rfl));rotate_right;try simp only [Act.put,List.setIfInBounds_toArray,List.set_cons_zero,List.set_cons_succ]))
          refine mix_move rfl (fun K hK=> ?_)
          refine step_append_row rfl (.const (.slice none 0 0)) (.tmp 61) 99 rfl 0 3 i0 _ 1 8 Tryz.underlying99 Hi.out Hi0.out Hi1.out Hi2.out rfl (by decide) (.slice none 0 0) 0 [] rfl (World.ownsRow_nil _ _ _ _) _ (j+1) _ rfl ((Hread.out.preL i64c_length (j+1) Hkn.out).alloc _) (i64c_one _) (by unfold maxLen;omega) (by omega) (Nat.zero_le _) ?_
          intro v2 w2 hown2 hk2 hf2
          have hfr2:=((Fresh.nil _).keep (Hkw.out.nt (Keeps.alloc _ _))).app hk2 hf2
          obtain⟨ad2,c2,rfl,_,_⟩:=ownsRow_shape hown2
          have hbx2:=Reads.blk (size:=1) (n:=1) (box_old (heap_alloc_new w7 _) hk2 (by simp [Value.ownBlock])) rfl
          simp only [Nat.zero_add,List.nil_append] at hown2 hfr2 hbx2⊢
          refine hK.out _ _ (by trivial) ?_
          clear hK K
          try simp only [Act.put,List.setIfInBounds_toArray,List.set_cons_zero,List.set_cons_succ]
          obtain⟨Hown2,Hfr2,Hbx2⟩:=hid3 hown2 hfr2 hbx2;clear hbx2 hfr2 hown2
          clear hf2 hk2
          repeat (first
           |(refine mix_skip rfl (by rfl) ?_;try simp only [Act.put,List.setIfInBounds_toArray,List.set_cons_zero,List.set_cons_succ])
           |(refine mix_skipm rfl (by rfl) ?_;try simp only [Act.put,List.setIfInBounds_toArray,List.set_cons_zero,List.set_cons_succ])
           |(refine mix_take (v:= ?_) rfl (by rfl) ?_ ?_;rotate_left;(· intro w' hSw;unfold id at hSw;go_simp;(try with_reducible rfl));rotate_right;try simp only [Act.put,List.setIfInBounds_toArray,List.set_cons_zero,List.set_cons_succ]))
          refine mix_move rfl (fun K hK=> ?_)
          refine step_append_row rfl (.tmp 62) (.tmp 65) 99 rfl 0 3 i0 _ 1 8 Tryz.underlying99 Hi.out Hi0.out Hi1.out Hi2.out rfl (by decide) _ (j+1) _ rfl Hown2.out _ 1 _ rfl Hbx2.out (by simp [Value.oneCell']) (by unfold maxLen;omega) (by omega) (Nat.zero_le _) ?_
          intro v3 w3 hown3 hk3 hf3
          have hfr3:=Hfr2.out.app hk3 hf3
          obtain⟨ad3,c3,rfl,_,_⟩:=ownsRow_shape hown3
          refine hK.out _ _ (by trivial) ?_
          clear hK K
          try simp only [Act.put,List.setIfInBounds_toArray,List.set_cons_zero,List.set_cons_succ]
          obtain⟨Hown3,Hfr3⟩:=hid2 hown3 hfr3;clear hfr3 hown3
          clear hf3 hk3
          repeat (first
           |(refine mix_skip rfl (by rfl) ?_;try simp only [Act.put,List.setIfInBounds_toArray,List.set_cons_zero,List.set_cons_succ])
           |(refine mix_skipm rfl (by rfl) ?_;try simp only [Act.put,List.setIfInBounds_toArray,List.set_cons_zero,List.set_cons_succ])
           |(refine mix_take (v:= ?_) rfl (by rfl) ?_ ?_;rotate_left;(· intro w' hSw;unfold id at hSw;go_simp;(try with_reducible rfl));rotate_right;try simp only [Act.put,List.setIfInBounds_toArray,List.set_cons_zero,List.set_cons_succ]))
          refine mix_move rfl (fun K hK=> ?_)
          refine step_append_row rfl (.tmp 66) (.tmp 69) 99 rfl 0 3 i0 _ 1 8 Tryz.underlying99 Hi.out Hi0.out Hi1.out Hi2.out rfl (by decide) _ ((j+1)+1) _ rfl Hown3.out (.slice (some ⟨g,(j+1),none⟩) (i-(j+1)) (cap-(j+1))) (i-(j+1)) _ rfl (Hsuf.out.keeps Hfr3.out.1 (by simp)) (i64c_one _) (by unfold maxLen;omega) (by omega) (Nat.zero_le _) ?_
          intro v4 w4 hown4 hk4 hf4
          have hfr4:=Hfr3.out.app hk4 hf4
          have hpost:=Hend.out v4 w4 hown4 hfr4
          obtain⟨ad4,c4,rfl,_,_⟩:=ownsRow_shape hown4
          refine hK.out _ _ (by trivial) ?_
          clear hK K
          try simp only [Act.put,List.setIfInBounds_toArray,List.set_cons_zero,List.set_cons_succ]
          have Hpost:=Lib.hid hpost;clear hpost
          clear hown4 hk4 hf4 hfr4
          repeat (first
           |(refine mix_skip rfl (by rfl) ?_;try simp only [Act.put,List.setIfInBounds_toArray,List.set_cons_zero,List.set_cons_succ])
           |(refine mix_skipm rfl (by rfl) ?_;try simp only [Act.put,List.setIfInBounds_toArray,List.set_cons_zero,List.set_cons_succ])
           |(refine mix_take (v:= ?_) rfl (by rfl) ?_ ?_;rotate_left;(· intro w' hSw;unfold id at hSw;go_simp;(try with_reducible rfl));rotate_right;try simp only [Act.put,List.setIfInBounds_toArray,List.set_cons_zero,List.set_cons_succ]))
          refine mix_done ?_
          go_wp2_with fail
          rw [Hlm2.out] at Hpost
          try rw [Hlm2.out]
          go_roundw
          case rel=>exact⟨i+1,_,rfl,by go_num,by omega,fun h=>by omega,Hpost.out⟩
          case measure=>simp [intOf];omega
       ·have hpl:plR true R r O i=plR true R r O j:=by rw [Hpl2.out];simp [aheadB,hc]
        have Hpl:=Lib.hid hpl;clear hpl
        go_wp2_with fail
        refine wp_region_mixw (ro6 gR oR i q g j r r' ((q:Int)+1)) (.take 0 (.take 1 (.take 2 (.take 3 (.take 4 (.take 5 (.take 6 (.take 7 (.take 8 (.take 9 (.take 10 (.take 11 (.take 12 (.take 13 (.take 14 (.take 15 (.take 16 (.take 17 (.take 18 (.take 19 (.take 20 (.take 21 (.take 22 (.take 23 (.take 24 (.take 25 (.take 26 (.take 27 (.take 28 (.take 29 (.take 30 (.take 31 (.take 32 (.take 33 (.take 34 (.take 35 (.take 36 (.take 37 (.take 38 (.take 39 (.take 40 .done))))))))))))))))))))))))))))))))))))))))) (by kernel_rfl) (by kernel_rfl) ?_ ?_
        ·exact HS.out
        intro w6 hs6 hk6
        repeat (first
         |(refine mix_skip rfl (by rfl) ?_;try simp only [Act.put,List.setIfInBounds_toArray,List.set_cons_zero,List.set_cons_succ])
         |(refine mix_skipm rfl (by rfl) ?_;try simp only [Act.put,List.setIfInBounds_toArray,List.set_cons_zero,List.set_cons_succ])
         |(refine mix_take (v:= ?_) rfl (by rfl) ?_ ?_;rotate_left;(· intro w' hSw;unfold ro6 at hSw;go_simp;(try with_reducible rfl));rotate_right;try simp only [Act.put,List.setIfInBounds_toArray,List.set_cons_zero,List.set_cons_succ]))
        refine mix_done ?_
        clear hs6
        go_wp2_with fail
        go_roundw
        case rel=>exact⟨j,by go_num,by omega,Hpl.out,Hkq.out.nt hk6⟩
        case measure=>simp [intOf]
  ·obtain rfl:i=n:=by omega
   obtain⟨Hrow,Hfr,Hv0⟩:=hid3 hrow hfr hv0;clear hv0 hfr hrow
   obtain⟨av,cv,rfl⟩:∃a c,v= .slice a i c:=by obtain⟨a,c,h,_⟩:=ownsRow_shape Hrow.out;exact⟨a,c,h⟩
   go_wp2
   go_ret
   exact⟨_,rfl,Hrow.out,Hfr.out⟩
set_option maxHeartbeats 400000
theorem helpIn_no(L:List Int)(x:Int)(ad:Option Addr)(cap m:Nat)(w:World)(hr:Reads w 1 (.slice ad m cap) m (L.flatMap i64c))(hM:L.length=m)(hm:m≤1000)(hx:∀y∈L,¬y=x):
  Calls Tryz.prog 90 #[.slice ad m cap, .int .i64 x] w fun e w'=>e= .returned (.bool false)∧w=w':=by
 have Hno:=Lib.hid hx
 clear hx
 obtain⟨Hr,HM⟩:=hid2 hr hM;clear hM hr
 go_enter Tryz.func90,Tryz.ntmps90
 go_wp2
 go_loopw [5] (fun y wx=>∃k:Nat,y= .int .i64 (k:Nat)∧k≤m∧w=wx) (fun y _=>m-(intOf y).toNat)
 case atStart=>exact⟨0,rfl,Nat.zero_le _,rfl⟩
 case round=>
  obtain⟨k,rfl,hkm,hk⟩:=hrel
  by_cases hlt:k<m
  ·have hltI:(k:Int)<(m:Int):=by omega
   obtain⟨y,hy⟩:=get_some (L:=L) (k:=k) (by rw [HM.out];exact hlt)
   have hne:=Hno.out y (List.mem_of_getElem? hy)
   have hneI:(y==x)=false:=beq_eq_false_iff_ne.2 hne
   obtain⟨g,o,he,c0⟩:=Hr.out.int (k:= .i64) hy
   subst he
   rw [hk] at c0
   have cl:=cell_lt c0
   have hx:=hy
   obtain⟨Hx,Hne,Hk⟩:=hid3 hx hne hk;clear hk hne hx
   go_wp2
   go_roundw
   case rel=>exact⟨k+1,by go_num,by omega,Hk.out⟩
   case measure=>simp [intOf];omega
  ·obtain rfl:m=k:=by omega
   have Hk:=Lib.hid hk;clear hk
   go_wp2
   go_ret
   exact⟨rfl,Hk.out⟩
theorem r10may_any(v:Int)(w:World):Calls Tryz.prog 88 #[.int .i64 v] w fun e w'=>e= .returned (.bool (moneyP v))∧w=w':=by
 by_cases h1:v<0
 ·have hf:moneyP v=false:=by simp [moneyP];omega
  have h1':¬0≤v:=by omega
  have Hf:=Lib.hid hf;clear hf
  go_enter Tryz.func88,Tryz.ntmps88
  go_wp2
  go_ret
  exact⟨by rw [Hf.out];rfl,rfl⟩
 ·by_cases h2:1000000000000000<v
  ·have hf:moneyP v=false:=by simp [moneyP];omega
   have hd:decide (v≤1000000000000000)=false:=by rw [decide_eq_false_iff_not];omega
   have h1':0≤v:=by omega
   have Hf:=Lib.hid hf;clear hf
   go_enter Tryz.func88,Tryz.ntmps88
   go_wp2
   go_ret
   exact⟨by rw [Hf.out];rfl,rfl⟩
  ·have hf:moneyP v=true:=by simp [moneyP];omega
   have h1':0≤v:=by omega
   have Hf:=Lib.hid hf;clear hf
   go_enter Tryz.func88,Tryz.ntmps88
   go_wp2
   go_ret
   exact⟨by rw [Hf.out];rfl,rfl⟩
theorem r10may_at{v:Int}{b:Bool}(h:moneyP v=b)(w:World):Calls Tryz.prog 88 #[.int .i64 v] w fun e w'=>e= .returned (.bool b)∧w=w':=by subst h;exact r10may_any v w
def r4S(v:Value)(m:Nat)(O:List Int)(g i:Nat)(x:Int)(W:World):Prop:=Hid (Reads W 1 v m (O.flatMap i64c))∧W.cell? ⟨g,i,none⟩=some (.int .i64 x)
set_option maxHeartbeats 3200000
theorem r10Into_any(B O:List Int)(a:Int)(adB adO:Option Addr)(cB cO n m:Nat)(w:World)(hB:Reads w 1 (.slice adB n cB) n (B.flatMap i64c))(hN:B.length=n)(hO:Reads w 1 (.slice adO m cO) m (O.flatMap i64c))(hM:O.length=m)(hm:B.all moneyP=true)(ha:moneyP a=true)
  (hord:OrdOk n O) (hl:n≤1000) (hl2:m≤1000):Calls Tryz.prog 59 #[.slice adB n cB, .slice adO m cO, .int .i64 a] w fun e w'=>∃g,e= .returned (.tuple #[.slice (some ⟨g,0,none⟩) n n, .int .i64 (intoL B O a).2, .int .i64 0])∧RowZ w' 2 g n n (intoL B O a).1∧Keeps (fun _=>False) w w'∧w.heap.size≤g:=by
 obtain⟨i0,hi,hi0,hi1,hi2⟩:=info_parts info_tInt64
 have hmb:∀x∈B,0≤x∧x≤1000000000000000:=fun x hx=>(moneyP_iff x).1 (List.all_eq_true.1 hm x hx)
 have hab:=(moneyP_iff a).1 ha
 obtain⟨r,hr⟩:∃r,intoL B O a=r:=⟨_,rfl⟩
 rw [hr]
 have hmk:=fun(W:World)=>run_makeSlice (P:=Tryz.prog) W 22 2 i0 (.int .i64 0) Tryz.underlying22 hi hi0 .i64 .i64 (n:Int) (n:Int) (by omega) (by omega) (by rw [hi1];omega) (by rw [hi2];omega) (by omega)
 simp only [Int.toNat_natCast,hi1,Nat.mul_one] at hmk
 obtain⟨Z,hZ⟩:∃Z,Z=madeCells (Value.int .i64 0).cells n:=⟨_,rfl⟩
 rw [←hZ] at hmk
 obtain⟨ha0,ha1⟩:=hab
 have hno:∀k x,O[k]?=some x→∀y∈O.take k,¬y=x:=fun k x hx y hy e=>by
  subst e
  have h1:=hord.nd
  have h2:O=O.take k++y::O.drop (k+1):=by rw [←drop_cons' hx,List.take_append_drop]
  rw [h2,List.nodup_append] at h1
  exact h1.2.2 y hy y (List.mem_cons_self ..) rfl
 obtain⟨HB,HO,Hm,Ha,HN,HM,Hr,Hi,Hi0⟩:=hid9 hB hO hm ha hN hM hr hi hi0;clear hi0 hi hr hM hN ha hm hO hB;obtain⟨Hi1,Hi2,HZ,Hmb,Hord,Hno⟩:=hid6 hi1 hi2 hZ hmb hord hno;clear hno hord hmb hZ hi2 hi1
 go_enter Tryz.func59,Tryz.ntmps59
 go_wp2
 go_loopw [9] (fun x wx=>∃k:Nat,x= .int .i64 (k:Nat)∧k≤m∧Keeps (fun _=>False) w wx) (fun x _=>m-(intOf x).toNat)
 case atStart=>exact⟨0,rfl,Nat.zero_le _,Keeps.refl _ _⟩
 case round=>
  obtain⟨k,rfl,hkm,hk⟩:=hrel
  obtain⟨wq,hwq⟩:∃x,x=wr:=⟨_,rfl⟩
  subst hwq
  by_cases hlt:k<m
  ·have hltI:(k:Int)<(m:Int):=by omega
   obtain⟨x,hx⟩:=get_some (L:=O) (k:=k) (by rw [HM.out];exact hlt)
   obtain⟨x1,x2⟩:=Hord.out.ok x (List.mem_of_getElem? hx)
   obtain⟨g,o,he,c0⟩:=(HO.out.keeps hk (by simp)).int (k:= .i64) hx
   subst he
   have hx1:decide (x<1)=false:=by rw [decide_eq_false_iff_not];omega
   have hx2:decide ((n:Int)<x)=false:=by rw [decide_eq_false_iff_not];omega
   have hS:r4S (.slice (some ⟨g,o,none⟩) m cO) m O g (o+k) x wq.drew:=⟨Lib.hid ((HO.out.keeps hk (by simp)).drew),c0⟩
   have cl:=cell_lt c0
   have hkI:(k:Int)≤(cO:Int):=by
    obtain⟨_,_,e,hc,_⟩:=HO.out
    simp only [Value.slice.injEq,true_and] at e
    omega
   have hin:=fun W (hW:r4S (.slice (some ⟨g,o,none⟩) m cO) m O g (o+k) x W)=>helpIn_no (O.take k) x (some ⟨g,o,none⟩) cO k W (Reads.preL i64c_length hW.1.out k hkm) (by rw [List.length_take,HM.out];omega) (by omega) (Hno.out k x hx)
   clear c0
   obtain⟨Hk,Hx,HS,Hin⟩:=hid4 hk hx hS hin;clear hin hS hx hk
   go_wp2_with fail
   refine wp_region_mixw (r4S (.slice (some ⟨g,o,none⟩) m cO) m O g (o+k) x) (.take 0 (.take 1 (.take 2 (.take 3 (.take 4 (.take 5 (.take 6 (.take 7 (.take 8 (.take 9 (.take 10 (.take 11 (.take 12 (.take 13 (.take 14 (.take 15 (.take 16 (.take 17 (.take 18 (.take 19 (.take 20 (.take 21 (.take 22 (.take 23 .done)))))))))))))))))))))))) (by kernel_rfl) (by kernel_rfl) ?_ ?_
   ·exact HS.out
   intro w5 hs5 hk5
   repeat (first
    |(refine mix_skip rfl (by rfl) ?_;try simp only [Act.put,List.setIfInBounds_toArray,List.set_cons_zero,List.set_cons_succ])
    |(refine mix_skipm rfl (by rfl) ?_;try simp only [Act.put,List.setIfInBounds_toArray,List.set_cons_zero,List.set_cons_succ])
    |(refine mix_take (v:= ?_) rfl (by rfl) ?_ ?_;rotate_left;(· intro w' hSw;unfold r4S at hSw;go_simp;(try with_reducible rfl));rotate_right;try simp only [Act.put,List.setIfInBounds_toArray,List.set_cons_zero,List.set_cons_succ]))
   refine mix_pure (v:= ?_) rfl (by rfl) ?_ ?_ ?_ ?_ ?_
   rotate_left 3
   ·intro w' hSw;unfold id at hSw;go_simp;(first|done|(constructor<;>with_reducible rfl)|with_reducible rfl)
   ·intro w' hSw;exact(Hin.out _ hSw)
   rotate_right 3
   try simp only [Act.put,List.setIfInBounds_toArray,List.set_cons_zero,List.set_cons_succ]
   repeat (first
    |(refine mix_skip rfl (by rfl) ?_;try simp only [Act.put,List.setIfInBounds_toArray,List.set_cons_zero,List.set_cons_succ])
    |(refine mix_skipm rfl (by rfl) ?_;try simp only [Act.put,List.setIfInBounds_toArray,List.set_cons_zero,List.set_cons_succ])
    |(refine mix_take (v:= ?_) rfl (by rfl) ?_ ?_;rotate_left;(· intro w' hSw;unfold r4S at hSw;go_simp;(try with_reducible rfl));rotate_right;try simp only [Act.put,List.setIfInBounds_toArray,List.set_cons_zero,List.set_cons_succ]))
   refine mix_done ?_
   clear hs5
   go_wp2
   go_roundw
   case rel=>exact⟨k+1,by go_num,by omega,Hk.out.nt hk5⟩
   case measure=>simp [intOf];omega
  ·obtain rfl:m=k:=by omega
   have Hk0:=Lib.hid hk
   clear hk
   go_wp2
   go_loopw [10] (fun x wx=>∃k:Nat,x= .int .i64 (k:Nat)∧k≤n∧Keeps (fun _=>False) w wx) (fun x _=>n-(intOf x).toNat)
   case atStart=>exact⟨0,rfl,Nat.zero_le _,Hk0.out⟩
   case round=>
    obtain⟨k,rfl,hkn,hk⟩:=hrel
    by_cases hlt:k<n
    ·have hltI:(k:Int)<(n:Int):=by omega
     obtain⟨x,hx⟩:=get_some (L:=B) (k:=k) (by rw [HN.out];exact hlt)
     obtain⟨g,o,he,c0⟩:=(HB.out.keeps hk (by simp)).int (k:= .i64) hx
     subst he
     have cl:=cell_lt c0
     have m1:=List.all_eq_true.1 Hm.out x (List.mem_of_getElem? hx)
     obtain⟨Hk,Hx⟩:=hid2 hk hx;clear hx hk
     go_wp2_with (go_at_call 88;(with_reducible refine(r10may_at m1 _).mono ?_);rintro e w1 ⟨rfl,rfl⟩)
     go_roundw
     case rel=>exact⟨k+1,by go_num,by omega,Hk.out⟩
     case measure=>simp [intOf];omega
    ·obtain rfl:n=k:=by omega
     have Hk1:=Lib.hid hk
     clear hk
     have m2:=Ha.out
     go_wp2_with (go_at_call 88;(with_reducible refine(r10may_at m2 _).mono ?_);rintro e w1 ⟨rfl,rfl⟩)
     obtain⟨wa,hwa⟩:∃x,x=wr:=⟨_,rfl⟩
     subst hwa
     have hmade:=RowZ.made wa 2 n (by unfold maxLen;omega)
     rw [←HZ.out] at hmade
     obtain⟨wb,hwb⟩:∃x,x=wa.alloc (.cells Z 2):=⟨_,rfl⟩
     have hkb:Keeps (fun _=>False) w wb:=by rw [hwb];exact Hk1.out.nt (Keeps.alloc _ _)
     obtain⟨g,hge⟩:∃x,x=wa.heap.size:=⟨_,rfl⟩
     have hgg:w.heap.size≤g:=by rw [hge];exact Hk1.out.size
     rw [←hwb,←hge] at hmade
     rw [←hwb,←hge]
     clear hwb hge
     have hst:InAt B O a w g 0 (List.replicate n 0) a wb:=⟨Nat.zero_le _,ha0,ha1,by rw [HN.out];exact hmade,by unfold intoL;rw [HN.out];rfl,hkb,hgg⟩
     obtain⟨Hmade,Hkb,Hgg,Hst⟩:=hid4 hmade hkb hgg hst;clear hst hgg hkb hmade
     go_loopw [2,12] (fun x y wx=>∃(j:Nat) (out:List Int) (b:Int),x= .int .i64 b∧y= .int .i64 (j:Nat)∧InAt B O a w g j out b wx) (fun _ y _=>m-(intOf y).toNat)
     case atStart=>exact⟨0,_,_,rfl,rfl,Hst.out⟩
     case round=>
      obtain⟨j,out,b,rfl,rfl,hat⟩:=hrel
      obtain⟨W,hW⟩:∃x,x=wr:=⟨_,rfl⟩
      subst hW
      have hjl:=hat.jl
      have hb0:=hat.a0
      have hb1:=hat.a1
      have hrow:=hat.row
      rw [HN.out] at hrow
      rw [HM.out] at hjl
      by_cases hlt:j<m
      ·have hltI:(j:Int)<(m:Int):=by omega
       obtain⟨k,hk⟩:=get_some (L:=O) (k:=j) (by rw [HM.out];exact hlt)
       obtain⟨k1,k2⟩:=Hord.out.ok k (List.mem_of_getElem? hk)
       obtain⟨i,hi⟩:∃i:Nat,(i:Int)=k-1:=⟨(k-1).toNat,by omega⟩
       obtain⟨x,hx⟩:=get_some (L:=B) (k:=i) (by rw [HN.out];omega)
       obtain⟨x1,x2⟩:=Hmb.out x (List.mem_of_getElem? hx)
       obtain⟨gO,oO,he,hcO⟩:=(HO.out.keeps hat.kp (by simp)).int (k:= .i64) hk
       subst he
       obtain⟨gB,oB,he,hcB⟩:=(HB.out.keeps hat.kp (by simp)).int (k:= .i64) hx
       subst he
       obtain⟨y,hy⟩:=get_some (L:=out) (k:=i) (by rw [hrow.2];omega)
       have cy:=hrow.cell hy
       have fy:=hrow.free i
       have lO:=cell_lt hcO
       have lB:=cell_lt hcB
       have lg:=hrow.lt
       have q1:(0:Int)≤k-1:=by omega
       have q2:k-1<(n:Int):=by omega
       have q3:(k-1).toNat=i:=by omega
       have q4:IntKind.i64.wrap (k-1)=k-1:=IntWalk.i64_in _ ⟨by omega,by omega⟩
       have hstep:intoS B (O.drop j) (out,b)=intoS B (O.drop (j+1)) (out.set i (minI b x),b-minI b x):=by
        obtain⟨h1,h2⟩:=List.getElem?_eq_some_iff.1 hk
        rw [List.drop_eq_getElem_cons h1,h2]
        show intoS B (O.drop (j+1)) _=_
        rw [q3,List.getD_eq_getElem?_getD,hx]
        rfl
       have hat2:∀v:Int,minI b x=v→0≤v→v≤b→InAt B O a w g (j+1) (out.set i v) (b-v) (W.setCell ⟨g,i,none⟩ (.int .i64 v)):=fun v hv h0 h1=>
        ⟨by rw [HM.out];omega,by omega,by omega,by rw [HN.out];exact hrow.set (by omega) v,by rw [hat.eq,hstep,hv],hat.kp.trans (Keeps.setCell _ _ _ (.inr hat.gg)),hat.gg⟩
       rcases Int.lt_trichotomy b x with m1|m1|m1
       ·have h2:=hat2 b (by unfold minI;rw [if_pos (by omega)]) (by omega) (by omega)
        rw [Int.sub_self] at h2
        clear hat2
        obtain⟨Hat,Hrow,Hk,Hx,Hy,Hstep,Hi,H2⟩:=hid8 hat hrow hk hx hy hstep hi h2;clear h2 hi hstep hy hx hk hrow hat
        go_wp2
        go_roundw
        case rel=>exact⟨j+1,_,_,rfl,by go_num,H2.out⟩
        case measure=>simp [intOf];omega
       ·have h2:=hat2 b (by unfold minI;rw [if_pos (by omega)]) (by omega) (by omega)
        rw [Int.sub_self] at h2
        subst m1
        clear hat2
        obtain⟨Hat,Hrow,Hk,Hx,Hy,Hstep,Hi,H2⟩:=hid8 hat hrow hk hx hy hstep hi h2;clear h2 hi hstep hy hx hk hrow hat
        go_wp2
        go_roundw
        case rel=>exact⟨j+1,_,_,rfl,by go_num,H2.out⟩
        case measure=>simp [intOf];omega
       ·have h2:=hat2 x (by unfold minI;rw [if_neg (by omega)]) (by omega) (by omega)
        clear hat2
        obtain⟨Hat,Hrow,Hk,Hx,Hy,Hstep,Hi,H2⟩:=hid8 hat hrow hk hx hy hstep hi h2;clear h2 hi hstep hy hx hk hrow hat
        go_wp2
        go_roundw
        case rel=>exact⟨j+1,_,_,rfl,by go_num,H2.out⟩
        case measure=>simp [intOf];omega
      ·obtain rfl:j=m:=by omega
       have he:=hat.eq
       rw [Hr.out,List.drop_eq_nil_of_le (by rw [HM.out];exact Nat.le_refl _)] at he
       have he2:r=(out,b):=he
       subst he2
       have hkp:=hat.kp
       have hgg:=hat.gg
       obtain⟨Hat,He,Hrow,Hkp,Hgg⟩:=hid5 hat he hrow hkp hgg;clear hgg hkp hrow he hat
       go_wp2
       exact bodyPost_ret (v:= .tuple #[.slice (some ⟨g,0,none⟩) n n, .int .i64 b, .int .i64 0]) (by simp [results,Tryz.results59,go_sem]) rfl ⟨g,rfl,Hrow.out,Hkp.out,Hgg.out⟩
set_option maxHeartbeats 800000
theorem r09High_any(R:List Int)(ad:Option Addr)(cap n:Nat)(w:World)(hr:Reads w 1 (.slice ad n cap) n (R.flatMap i64c))(hN:R.length=n)(hl:n≤1000):
  Calls Tryz.prog 60 #[.slice ad n cap] w fun e w'=>∃a c,e= .returned (.slice a n c)∧Reads w' 1 (.slice a n c) n ((rankL true R).flatMap i64c)∧Keeps (fun _=>False) w w':=by
 have hc:=r09order_any R true ad cap n w hr hN hl
 have hrk:rankL true R=rankN true R n:=by rw [←hN];rfl
 obtain⟨Hc,Hr,HN,Hrk⟩:=hid4 hc hr hN hrk;clear hrk hN hr hc
 go_enter Tryz.func60,Tryz.ntmps60
 go_wp2_with fail
 refine Hc.out.mono ?_
 rintro e w1 ⟨v,rfl,hr1,hf1⟩
 obtain⟨adv,cv,rfl,_,_⟩:=ownsRow_shape hr1
 obtain⟨Hr1,Hf1⟩:=hid2 hr1 hf1;clear hf1 hr1
 go_wp2
 go_ret
 exact⟨_,_,rfl,by rw [Hrk.out];exact Reads.of_owns Hr1.out,Hf1.out.1⟩
theorem r09Low_any(R:List Int)(ad:Option Addr)(cap n:Nat)(w:World)(hr:Reads w 1 (.slice ad n cap) n (R.flatMap i64c))(hN:R.length=n)(hl:n≤1000):
  Calls Tryz.prog 89 #[.slice ad n cap] w fun e w'=>∃a c,e= .returned (.slice a n c)∧Reads w' 1 (.slice a n c) n ((rankL false R).flatMap i64c)∧Keeps (fun _=>False) w w':=by
 have hc:=r09order_any R false ad cap n w hr hN hl
 have hrk:rankL false R=rankN false R n:=by rw [←hN];rfl
 obtain⟨Hc,Hr,HN,Hrk⟩:=hid4 hc hr hN hrk;clear hrk hN hr hc
 go_enter Tryz.func89,Tryz.ntmps89
 go_wp2_with fail
 refine Hc.out.mono ?_
 rintro e w1 ⟨v,rfl,hr1,hf1⟩
 obtain⟨adv,cv,rfl,_,_⟩:=ownsRow_shape hr1
 obtain⟨Hr1,Hf1⟩:=hid2 hr1 hf1;clear hf1 hr1
 go_wp2
 go_ret
 exact⟨_,_,rfl,by rw [Hrk.out];exact Reads.of_owns Hr1.out,Hf1.out.1⟩
def r10S(T:Nat)(vB:Value)(gb ob gp op:Nat)(x y:Int)(W:World):Prop:=W.cell? ⟨T,0,none⟩=some vB∧W.cell? ⟨gb,ob,none⟩=some (.int .i64 x)∧W.cell? ⟨gp,op,none⟩=some (.int .i64 y)
theorem r10S.keep{T gb ob gp op:Nat}{vB:Value}{x y:Int}{S:Nat→Prop}{W W':World}(h:r10S T vB gb ob gp op x y W)(hk:Keeps S W W')(h1:¬S T)(h2:¬S gb)(h3:¬S gp):r10S T vB gb ob gp op x y W':=
 ⟨(hk.cell (cell_lt h.1) h1).trans h.1,(hk.cell (cell_lt h.2.1) h2).trans h.2.1,(hk.cell (cell_lt h.2.2) h3).trans h.2.2⟩
def r10T(gb ob gp op:Nat)(x y:Int)(W:World):Prop:=W.cell? ⟨gb,ob,none⟩=some (.int .i64 x)∧W.cell? ⟨gp,op,none⟩=some (.int .i64 y)
theorem r10T.keep{gb ob gp op:Nat}{x y:Int}{S:Nat→Prop}{W W':World}(h:r10T gb ob gp op x y W)(hk:Keeps S W W')(h2:¬S gb)(h3:¬S gp):r10T gb ob gp op x y W':=
 ⟨(hk.cell (cell_lt h.1) h2).trans h.1,(hk.cell (cell_lt h.2) h3).trans h.2⟩
theorem stepL_take{f:Int→Int→Int}{B P:List Int}{i:Nat}{x y:Int}(hx:B[i]?=some x)(hy:P[i]?=some y):(List.zipWith f B P).take i++ [f x y]=(List.zipWith f B P).take (i+1):=by
 rw [List.take_add_one]
 congr 1
 rw [List.getElem?_zipWith,hx,hy]
 rfl
set_option maxHeartbeats 6400000
theorem r10Pay_any(B R:List Int)(cr du a:Int)(adB adR:Option Addr)(cB cR n:Nat)(w:World)(hB:Reads w 1 (.slice adB n cB) n (B.flatMap i64c))(hN:B.length=n)(hR:Reads w 1 (.slice adR n cR) n (R.flatMap i64c))(hRn:R.length=n)
  (hm:B.all moneyP=true) (hcr:moneyP cr=true) (hdu:moneyP du=true) (ha:moneyP a=true) (hl:n≤8):
  Calls Tryz.prog 57 #[.agg #[.slice adB n cB, .int .i64 cr, .int .i64 du], .slice adR n cR, .int .i64 a] w fun e w'=>∃g,e= .returned (.tuple #[.slice (some ⟨g,0,none⟩) n n, .int .i64 (payL B R du a).2.1, .int .i64 (payL B R du a).2.2, .int .i64 0])∧RowZ w' 2 g n n (payL B R du a).1∧Keeps (fun _=>False) w w'∧w.heap.size≤g:=by
 obtain⟨i0,hi,hi0,hi1,hi2⟩:=info_parts info_tInt64
 have hBb:∀x∈B,0≤x∧x≤1000000000000000:=fun x hx=>(moneyP_iff x).1 (List.all_eq_true.1 hm x hx)
 obtain⟨a0,a1⟩:=(moneyP_iff a).1 ha
 obtain⟨du0,du1⟩:=(moneyP_iff du).1 hdu
 obtain⟨m,hmin⟩:∃m,minI a du=m:=⟨_,rfl⟩
 have hm2:0≤m∧m≤a∧m≤du:=by rw [←hmin];unfold minI;split<;>omega
 obtain⟨m0,m1,m2⟩:=hm2
 obtain⟨p1,r1,hp⟩:∃p1 r1,intoL B (rankL false R) m=(p1,r1):=⟨_,_,rfl⟩
 obtain⟨q1,r2,hq⟩:∃q1 r2,intoL (List.zipWith (· - ·) B p1) (rankL true R) (a-m+r1)=(q1,r2):=⟨_,_,rfl⟩
 have hpay:payL B R du a=(List.zipWith (·+·) p1 q1,m,r2):=by unfold payL;rw [hmin];simp only;rw [hp];simp only;rw [hq]
 rw [hpay]
 have hokL:=rank_ok false hRn
 have hokH:=rank_ok true hRn
 have hpb:=intoL_bd (B:=B) (O:=rankL false R) (a:=m) (fun x hx=>(hBb x hx).1) m0 (by rw [hN];exact hokL.ok)
 have hpl:=intoL_length B (rankL false R) m
 rw [hp] at hpb hpl
 simp only at hpb hpl
 obtain⟨r10,r11,hpe⟩:=hpb
 have hB2:=zip_sub_bd hpe hBb
 have hB2l:(List.zipWith (fun x y:Int=>x-y) B p1).length=n:=by rw [List.length_zipWith];omega
 have hB2m:(List.zipWith (fun x y:Int=>x-y) B p1).all moneyP=true:=List.all_eq_true.2 fun x hx=>(moneyP_iff x).2 (hB2 x hx)
 have hqb:=intoL_bd (B:=List.zipWith (· - ·) B p1) (O:=rankL true R) (a:=a-m+r1) (fun x hx=>(hB2 x hx).1) (by omega) (by rw [hB2l];exact hokH.ok)
 have hql:=intoL_length (List.zipWith (· - ·) B p1) (rankL true R) (a-m+r1)
 rw [hq] at hqb hql
 simp only at hqb hql
 obtain⟨r20,r21,hqe⟩:=hqb
 rw [hN] at hpl
 rw [hB2l] at hql
 have hmm:moneyP m=true:=(moneyP_iff m).2 ⟨m0,by omega⟩
 have ham:moneyP (r1+a-m)=true:=(moneyP_iff _).2 ⟨by omega,by omega⟩
 have hsum:r1+a-m=a-m+r1:=by omega
 have hq':intoL (List.zipWith (· - ·) B p1) (rankL true R) (r1+a-m)=(q1,r2):=by rw [hsum];exact hq
 have hrkl:=rankL_length false R
 have hrkh:=rankL_length true R
 rw [hRn] at hrkl hrkh
 have hlow:=fun W (hW:Keeps (fun _=>False) w W)=>r09Low_any R adR cR n W (hR.keeps hW (by simp)) hRn (by omega)
 have hhigh:=fun W (hW:Keeps (fun _=>False) w W)=>r09High_any R adR cR n W (hR.keeps hW (by simp)) hRn (by omega)
 have hin1:=fun W (ad:Option Addr) (c:Nat) (hW:Keeps (fun _=>False) w W) (hO:Reads W 1 (.slice ad n c) n ((rankL false R).flatMap i64c))=>r10Into_any B (rankL false R) m adB ad cB c n n W (hB.keeps hW (by simp)) hN hO hrkl hm hmm hokL (by omega) (by omega)
 rw [hp] at hin1
 have hin2:=fun W (ad:Option Addr) (c g cg:Nat) (hr:RowZ W 2 g n cg (List.zipWith (fun x y:Int=>x-y) B p1)) (hO:Reads W 1 (.slice ad n c) n ((rankL true R).flatMap i64c))=>r10Into_any (List.zipWith (fun x y:Int=>x-y) B p1) (rankL true R) (r1+a-m) (some ⟨g,0,none⟩) ad cg c n n W hr.reads hB2l hO hrkh hB2m ham hokH (by omega) (by omega)
 rw [hq'] at hin2
 have hbx:∀W,Keeps (fun _=>False) (w.alloc (.cells #[.slice adB n cB, .int .i64 cr, .int .i64 du] 24)) W→W.heap[w.heap.size]?=some (.cells #[.slice adB n cB, .int .i64 cr, .int .i64 du] 24 (0,0)):=fun W hW=>box_old (heap_alloc_new w _) hW (by simp)
 have hmk:=fun(W:World)=>run_makeSlice (P:=Tryz.prog) W 22 2 i0 (.int .i64 0) Tryz.underlying22 hi hi0 .i64 .i64 (n:Int) (n:Int) (by omega) (by omega) (by rw [hi1];omega) (by rw [hi2];omega) (by omega)
 simp only [Int.toNat_natCast,hi1,Nat.mul_one] at hmk
 obtain⟨Z,hZ⟩:∃Z,Z=madeCells (Value.int .i64 0).cells n:=⟨_,rfl⟩
 rw [←hZ] at hmk
 simp only at hin1 hin2
 obtain⟨HB,HR,Hm,Hcr,Hdu,Ha,HBb,Hmin,Hp⟩:=hid9 hB hR hm hcr hdu ha hBb hmin hp;clear hp hmin hBb ha hdu hcr hm hR hB;obtain⟨Hq,Hq',Hpay,HokL,HokH,Hpe,HB2,HB2l,HB2m⟩:=hid9 hq hq' hpay hokL hokH hpe hB2 hB2l hB2m;clear hB2m hB2l hB2 hpe hokH hokL hpay hq' hq;obtain⟨Hqe,Hpl,Hql,Hlow,Hhigh,Hin1,Hin2,Hbx,HN⟩:=hid9 hqe hpl hql hlow hhigh hin1 hin2 hbx hN;clear hN hbx hin2 hin1 hhigh hlow hql hpl hqe;obtain⟨HRn,Hmm,Ham,Hsum,Hrkl,Hrkh,Hi,Hi0,Hi1⟩:=hid9 hRn hmm ham hsum hrkl hrkh hi hi0 hi1;clear hi1 hi0 hi hrkh hrkl hsum ham hmm hRn;obtain⟨Hi2,HZ⟩:=hid2 hi2 hZ;clear hZ hi2
 have q1:=Hcr.out
 have q2:=Hdu.out
 have q3:=Ha.out
 go_enter Tryz.func57,Tryz.ntmps57
 go_wp2_with (first|(go_at_call 88;(with_reducible refine(r10may_at q1 _).mono ?_);rintro e w1 ⟨rfl,rfl⟩)|(go_at_call 88;(with_reducible refine(r10may_at q2 _).mono ?_);rintro e w1 ⟨rfl,rfl⟩)|(go_at_call 88;(with_reducible refine(r10may_at q3 _).mono ?_);rintro e w1 ⟨rfl,rfl⟩))
 clear q1 q2 q3
 go_loopw [10,11] (fun b x wx=>∃k:Nat,b= .bool true∧x= .int .i64 (k:Nat)∧k≤n∧Keeps (fun _=>False) (w.alloc (.cells #[.slice adB n cB, .int .i64 cr, .int .i64 du] 24)) wx) (fun _ x _=>n-(intOf x).toNat)
 case atStart=>exact⟨0,rfl,rfl,Nat.zero_le _,Keeps.refl _ _⟩
 case round=>
  obtain⟨k,rfl,rfl,hkn,hk⟩:=hrel
  have hb0:=Hbx.out _ hk
  have hk0:=(Keeps.alloc w (.cells #[.slice adB n cB, .int .i64 cr, .int .i64 du] 24)).nt hk
  have b0:=cell_of_cells hb0 0
  have b2:=cell_of_cells hb0 2
  have bl:=lt_of_block hb0
  by_cases hlt:k<n
  ·have hltI:(k:Int)<(n:Int):=by omega
   obtain⟨x,hx⟩:=get_some (L:=B) (k:=k) (by rw [HN.out];exact hlt)
   obtain⟨g,o,he,c0⟩:=(HB.out.keeps hk0 (by simp)).int (k:= .i64) hx
   subst he
   have cl:=cell_lt c0
   have m1':=List.all_eq_true.1 Hm.out x (List.mem_of_getElem? hx)
   clear b2
   obtain⟨Hk,Hx,Hk0,Hb0⟩:=hid4 hk hx hk0 hb0;clear hb0 hk0 hx hk
   go_wp2_with (go_at_call 88;(with_reducible refine(r10may_at m1' _).mono ?_);rintro e w1 ⟨rfl,rfl⟩)
   go_roundw
   case rel=>exact⟨k+1,rfl,by go_num,by omega,Hk.out⟩
   case measure=>simp [intOf];omega
  ·obtain rfl:n=k:=by omega
   obtain⟨W0,hW0⟩:∃x,x=wr:=⟨_,rfl⟩
   subst hW0
   clear hk
   obtain⟨Hb0,Hk0⟩:=hid2 hb0 hk0;clear hk0 hb0
   go_upto_region 8 with fail
   go_cut [12] (fun x wx=>x= .int .i64 m∧W0=wx)
   case first=>
    have hmn:=Hmin.out
    unfold minI at hmn
    rcases Int.lt_trichotomy a du with hle|hle|hle
    ·rw [if_pos (by omega)] at hmn
     have Hmn:=Lib.hid hmn;clear hmn
     go_wp2_with fail
     go_meet
     exact⟨by rw [Hmn.out],rfl⟩
    ·rw [if_pos (by omega)] at hmn
     have Hmn:=Lib.hid hmn;clear hmn
     subst hle
     go_wp2_with fail
     go_meet
     exact⟨by rw [Hmn.out],rfl⟩
    ·rw [if_neg (by omega)] at hmn
     have Hmn:=Lib.hid hmn;clear hmn
     go_wp2_with fail
     go_meet
     exact⟨by rw [Hmn.out],rfl⟩
   obtain⟨rfl,rfl⟩:=hcut
   go_wp2_with fail
   refine wp_region_mixw (fun w'=>w'.cell? ⟨w.heap.size,0,none⟩=some (.slice adB n cB)) (.take 0 (.take 1 (.take 2 (.take 4 (.move 3 (.move 5 (.take 6 (.take 7 (.take 8 (.take 9 (.take 10 (.take 11 (.take 12 .done))))))))))))) (by kernel_rfl) (by kernel_rfl) ?_ ?_
   ·exact cell_of_cells (box_old (S:=fun _=>False) Hb0.out (Keeps.drew _) (by simp)) 0
   intro w3 hs3 hk3
   have hk3w:Keeps (fun _=>False) w w3:=Hk0.out.nt hk3
   have hlt3:=cell_lt hs3
   obtain⟨Hs3,Hk3,Hk3w,Hlt3⟩:=hid4 hs3 hk3 hk3w hlt3;clear hlt3 hk3w hk3 hs3
   repeat (first
    |(refine mix_skip rfl (by rfl) ?_;try simp only [Act.put,List.setIfInBounds_toArray,List.set_cons_zero,List.set_cons_succ])
    |(refine mix_skipm rfl (by rfl) ?_;try simp only [Act.put,List.setIfInBounds_toArray,List.set_cons_zero,List.set_cons_succ])
    |(refine mix_take (v:= ?_) rfl (by rfl) ?_ ?_;rotate_left;(· intro w' hSw;(try dsimp only at hSw);go_simp;(try with_reducible rfl));rotate_right;try simp only [Act.put,List.setIfInBounds_toArray,List.set_cons_zero,List.set_cons_succ]))
   refine mix_move rfl (fun K hK=> ?_)
   go_simp
   go_at_call 89
   ((with_reducible refine(Hlow.out _ Hk3w.out).mono ?_);rintro e w4 ⟨a4,c4,rfl,hrow4,hf4⟩;dsimp only)
   refine hK.out _ _ (by exact(hf4.cell (p:=⟨w.heap.size,0,none⟩) Hlt3.out (by simp)).trans Hs3.out) ?_
   clear hK K
   try simp only [Act.put,List.setIfInBounds_toArray,List.set_cons_zero,List.set_cons_succ]
   have hk4w:Keeps (fun _=>False) w w4:=Hk3w.out.nt hf4
   have hs4:=(hf4.cell (p:=⟨w.heap.size,0,none⟩) Hlt3.out (by simp)).trans Hs3.out
   have hb4:=box_old (box_old Hb0.out Hk3.out (by simp)) hf4 (by simp)
   have hlt4:=cell_lt hs4
   obtain⟨Hrow4,Hf4,Hk4w,Hs4,Hlt4,Hb4⟩:=hid6 hrow4 hf4 hk4w hs4 hlt4 hb4;clear hb4 hlt4 hs4 hk4w hf4 hrow4
   repeat (first
    |(refine mix_skip rfl (by rfl) ?_;try simp only [Act.put,List.setIfInBounds_toArray,List.set_cons_zero,List.set_cons_succ])
    |(refine mix_skipm rfl (by rfl) ?_;try simp only [Act.put,List.setIfInBounds_toArray,List.set_cons_zero,List.set_cons_succ])
    |(refine mix_take (v:= ?_) rfl (by rfl) ?_ ?_;rotate_left;(· intro w' hSw;(try dsimp only at hSw);go_simp;(try with_reducible rfl));rotate_right;try simp only [Act.put,List.setIfInBounds_toArray,List.set_cons_zero,List.set_cons_succ]))
   refine mix_move rfl (fun K hK=> ?_)
   go_simp
   go_at_call 59
   ((with_reducible refine(Hin1.out _ _ _ Hk4w.out Hrow4.out).mono ?_);rintro e w5 ⟨g1,rfl,hrow5,hk5,hg5⟩;dsimp only)
   refine hK.out _ _ (by exact(hk5.cell (p:=⟨w.heap.size,0,none⟩) Hlt4.out (by simp)).trans Hs4.out) ?_
   clear hK K
   try simp only [Act.put,List.setIfInBounds_toArray,List.set_cons_zero,List.set_cons_succ]
   have hk5w:Keeps (fun _=>False) w w5:=Hk4w.out.nt hk5
   have hb5:=box_old Hb4.out hk5 (by simp)
   have hg5w:w.heap.size≤g1:=by have:=Hk4w.out.size;omega
   have hg5n:¬g1=w.heap.size:=by have:=Hlt4.out;simp only at this;omega
   clear b0 b2 bl
   obtain⟨Hrow5,Hk5,Hg5,Hk5w,Hb5,Hg5w,Hg5n⟩:=hid7 hrow5 hk5 hg5 hk5w hb5 hg5w hg5n;clear hg5n hg5w hb5 hk5w hg5 hk5 hrow5
   repeat (first
    |(refine mix_skip rfl (by rfl) ?_;try simp only [Act.put,List.setIfInBounds_toArray,List.set_cons_zero,List.set_cons_succ])
    |(refine mix_skipm rfl (by rfl) ?_;try simp only [Act.put,List.setIfInBounds_toArray,List.set_cons_zero,List.set_cons_succ])
    |(refine mix_take (v:= ?_) rfl (by rfl) ?_ ?_;rotate_left;(· intro w' hSw;(try dsimp only at hSw);go_simp;(try with_reducible rfl));rotate_right;try simp only [Act.put,List.setIfInBounds_toArray,List.set_cons_zero,List.set_cons_succ]))
   refine mix_done ?_
   have b50:=cell_of_cells Hb5.out 0
   have b5l:=lt_of_block Hb5.out
   go_wp2
   have hmade:=RowZ.made w5 2 n (by unfold maxLen;omega)
   rw [←HZ.out] at hmade
   have hg15:=Hrow5.out.lt
   have hr15:=Hrow5.out.keep (Keeps.alloc w5 (.cells Z 2))
   have hb6:=box_old (S:=fun _=>False) Hb5.out (Keeps.alloc w5 (.cells Z 2)) (by simp)
   obtain⟨w6,hw6⟩:∃x,x=w5.alloc (.cells Z 2):=⟨_,rfl⟩
   have hk6w:Keeps (fun _=>False) w w6:=by rw [hw6];exact Hk5w.out.nt (Keeps.alloc _ _)
   obtain⟨g2,hg2⟩:∃x,x=w5.heap.size:=⟨_,rfl⟩
   have hg2w:w.heap.size≤g2:=by rw [hg2];exact Hk5w.out.size
   have hg12:¬g1=g2:=by omega
   have hg2T:¬w.heap.size=g2:=by omega
   rw [←hw6,←hg2] at hmade
   rw [←hw6] at hr15 hb6
   rw [←hw6,←hg2]
   clear hw6 hg2 hg15 b50 b5l
   obtain⟨Hmade,Hr15,Hb6,Hk6w,Hg2w,Hg12,Hg2T⟩:=hid7 hmade hr15 hb6 hk6w hg2w hg12 hg2T;clear hg2T hg12 hg2w hk6w hb6 hr15 hmade
   go_loopw [17] (fun x wx=>∃i:Nat,x= .int .i64 (i:Nat)∧i≤n∧RowZ wx 2 g2 n n (zeros n i ((List.zipWith (fun x y:Int=>x-y) B p1).take i))∧Keeps (fun k=>k=g2) w6 wx) (fun x _=>n-(intOf x).toNat)
   case atStart=>exact⟨0,rfl,Nat.zero_le _,by simpa [zeros] using Hmade.out,Keeps.refl _ _⟩
   case round=>
    obtain⟨i,rfl,hin,hrow,hk⟩:=hrel
    obtain⟨wq,hwq⟩:∃x,x=wr:=⟨_,rfl⟩
    subst hwq
    have hrp:RowZ wq 2 g1 n n p1:=⟨hk.row Hr15.out.1 (fun g' hg e=>by simp only [Value.ownBlock,Option.some.injEq] at hg;subst hg;exact Hg12.out e),Hr15.out.2⟩
    have hbq:=box_old Hb6.out hk (fun e=>Hg2T.out e)
    by_cases hlt:i<n
    ·have hltI:(i:Int)<(n:Int):=by omega
     obtain⟨x,hx⟩:=get_some (L:=B) (k:=i) (by rw [HN.out];exact hlt)
     obtain⟨y,hy⟩:=get_some (L:=p1) (k:=i) (by rw [Hpl.out];exact hlt)
     obtain⟨x0,x1⟩:=HBb.out x (List.mem_of_getElem? hx)
     have hxy:=Hpe.out i y hy
     rw [List.getD_eq_getElem?_getD,hx] at hxy
     obtain⟨y0,y1⟩:=hxy
     simp only [Option.getD_some] at y1
     have hkq:Keeps (fun _=>False) w wq:=Hk6w.out.trans (hk.mono fun k _ e=> .inr (by subst e;exact Hg2w.out))
     obtain⟨gB,oB,he,hcB⟩:=(HB.out.keeps hkq (by simp)).int (k:= .i64) hx
     subst he
     have hS:r10S w.heap.size (.slice (some ⟨gB,oB,none⟩) n cB) gB (oB+i) g1 i x y wq:=⟨cell_of_cells hbq 0,hcB,hrp.cell hy⟩
     have hSd:=hS.keep (S:=fun _=>False) (Keeps.drew wq) (by simp) (by simp) (by simp)
     obtain⟨v0,hv0⟩:=get_some (L:=zeros n i ((List.zipWith (fun x y:Int=>x-y) B p1).take i)) (k:=i) (by rw [hrow.2];exact hlt)
     have hzl:((List.zipWith (fun x y:Int=>x-y) B p1).take i).length=i:=by rw [List.length_take,HB2l.out];omega
     have hq1:IntKind.i64.wrap (x-y)=x-y:=IntWalk.i64_in _ ⟨by omega,by omega⟩
     have hrd:∀w1,Keeps (fun _=>False) wq w1→RowZ w1 2 g2 n n (zeros n i ((List.zipWith (fun x y:Int=>x-y) B p1).take i)):=fun w1 h=>hrow.keep h
     have hnewr:∀w1,Keeps (fun _=>False) wq w1→RowZ (w1.setCell ⟨g2,i,none⟩ (.int .i64 (x-y))) 2 g2 n n (zeros n (i+1) ((List.zipWith (fun x y:Int=>x-y) B p1).take (i+1))):=fun w1 h=>by
      have:=(hrow.keep h).set hlt (x-y)
      rwa [zeros_set hzl hlt,stepL_take hx hy] at this
     have hnk:∀w1,Keeps (fun _=>False) wq w1→Keeps (fun k=>k=g2) w6 (w1.setCell ⟨g2,i,none⟩ (.int .i64 (x-y))):=fun w1 h=>(hk.trans (h.mono fun k _ e=> .inl e.elim)).trans (Keeps.setCell _ _ _ (.inl rfl))
     clear hcB
     obtain⟨Hrow,Hk,Hrp,Hbq,Hx,Hy,HS,HSd,Hkq⟩:=hid9 hrow hk hrp hbq hx hy hS hSd hkq;clear hkq hSd hS hy hx hbq hrp hk hrow;obtain⟨Hzl,Hrd,Hnewr,Hnk⟩:=hid4 hzl hrd hnewr hnk;clear hnk hnewr hrd hzl
     go_wp2_with fail
     refine wp_region_mixz (r10S w.heap.size (.slice (some ⟨gB,oB,none⟩) n cB) gB (oB+i) g1 i x y) 13 (.take 0 (.take 1 (.take 2 (.take 3 (.take 4 (.take 5 (.take 6 (.take 7 (.take 8 (.take 9 (.take 10 (.take 11 (.take 12 (.move 13 .done)))))))))))))) (by kernel_rfl) (by kernel_rfl) ?_ ?_
     ·exact HSd.out
     intro w8 hs8 hk8
     have r8:=Hrd.out _ hk8
     have c8:=r8.cell hv0
     have f8:=r8.free i
     have l8:=r8.lt
     obtain⟨Hs8,Hk8,R8⟩:=hid3 hs8 hk8 r8;clear r8 hk8 hs8
     repeat (first
      |(refine mix_skip rfl (by rfl) ?_;try simp only [Act.put,List.setIfInBounds_toArray,List.set_cons_zero,List.set_cons_succ])
      |(refine mix_skipm rfl (by rfl) ?_;try simp only [Act.put,List.setIfInBounds_toArray,List.set_cons_zero,List.set_cons_succ])
      |(refine mix_take (v:= ?_) rfl (by rfl) ?_ ?_;rotate_left;(· intro w' hSw;unfold r10S at hSw;go_simp;(try with_reducible rfl));rotate_right;try simp only [Act.put,List.setIfInBounds_toArray,List.set_cons_zero,List.set_cons_succ]))
     refine mix_last rfl (fun K hK=> ?_)
     go_simp
     refine hK.out _ _ ?_
     clear hK K
     try simp only [Act.put,List.setIfInBounds_toArray,List.set_cons_zero,List.set_cons_succ]
     refine mix_done ?_
     have hn8:=Hnewr.out _ Hk8.out
     have hn9:=Hnk.out _ Hk8.out
     clear c8 f8 l8
     obtain⟨Hn8,Hn9⟩:=hid2 hn8 hn9;clear hn9 hn8
     go_wp2
     go_roundw
     case rel=>exact⟨i+1,by go_num,by omega,Hn8.out,Hn9.out⟩
     case measure=>simp [intOf];omega
    ·obtain rfl:i=n:=by omega
     have hrz:RowZ wq 2 g2 i i (List.zipWith (fun x y:Int=>x-y) B p1):=by
      have:=hrow
      rw [List.take_of_length_le (by rw [HB2l.out];exact Nat.le_refl _)] at this
      simpa [zeros] using this
     have hkw:Keeps (fun _=>False) w wq:=Hk6w.out.trans (hk.mono fun k _ e=> .inr (by subst e;exact Hg2w.out))
     have w1:IntKind.i64.wrap (r1+a)=r1+a:=IntWalk.i64_in _ ⟨by omega,by omega⟩
     have w2:IntKind.i64.wrap (r1+a-m)=r1+a-m:=IntWalk.i64_in _ ⟨by omega,by omega⟩
     clear hrow
     obtain⟨Hk,Hrp,Hbq,Hrz,Hkw⟩:=hid5 hk hrp hbq hrz hkw;clear hkw hrz hbq hrp hk
     go_wp2_with fail
     refine(Hhigh.out _ Hkw.out).mono ?_
     rintro e w7 ⟨a7,c7,rfl,hrow7,hf7⟩
     have hk7w:=Hkw.out.nt hf7
     have hrB7:=Hrz.out.keep hf7
     have hrp7:=Hrp.out.keep hf7
     obtain⟨Hrow7,Hf7,Hk7w,HrB7,Hrp7⟩:=hid5 hrow7 hf7 hk7w hrB7 hrp7;clear hrp7 hrB7 hk7w hf7 hrow7
     go_wp2_with fail
     refine(Hin2.out _ _ _ _ _ HrB7.out Hrow7.out).mono ?_
     rintro e w8 ⟨g3,rfl,hrow8,hk8,hg3⟩
     have hlt1:=Hrp7.out.lt
     have hg13:¬g1=g3:=by omega
     have hk8w:=Hk7w.out.nt hk8
     have hrp8:=Hrp7.out.keep hk8
     clear hlt1
     obtain⟨Hrow8,Hk8,Hg3,Hg13,Hk8w,Hrp8⟩:=hid6 hrow8 hk8 hg3 hg13 hk8w hrp8;clear hrp8 hk8w hg13 hg3 hk8 hrow8
     go_wp2
     go_loopw [20] (fun x wx=>∃j:Nat,x= .int .i64 (j:Nat)∧j≤i∧RowZ wx 2 g1 i i (stepL (fun x y=>x+y) p1 q1 j)∧Keeps (fun k=>k=g1) w8 wx) (fun x _=>i-(intOf x).toNat)
     case atStart=>exact⟨0,rfl,Nat.zero_le _,by rw [stepL_zero];exact Hrp8.out,Keeps.refl _ _⟩
     case round=>
      obtain⟨j,rfl,hjn,hrowj,hkj⟩:=hrel
      obtain⟨wz,hwz⟩:∃x,x=wr:=⟨_,rfl⟩
      subst hwz
      have hrq:RowZ wz 2 g3 i i q1:=⟨hkj.row Hrow8.out.1 (fun g' hg e=>by simp only [Value.ownBlock,Option.some.injEq] at hg;subst hg;exact Hg13.out e.symm),Hrow8.out.2⟩
      by_cases hltj:j<i
      ·have hltI:(j:Int)<(i:Int):=by omega
       obtain⟨x,hx⟩:=get_some (L:=p1) (k:=j) (by rw [Hpl.out];exact hltj)
       obtain⟨y,hy⟩:=get_some (L:=q1) (k:=j) (by rw [Hql.out];exact hltj)
       obtain⟨x0,x1⟩:=p1bd Hpe.out HBb.out hx
       obtain⟨y0,y1⟩:=p1bd Hqe.out HB2.out hy
       have hex:=stepL_get (f:=fun x y=>x+y) (P:=q1) (by rw [Hpl.out,Hql.out]) hx
       have hS:r10T g1 j g3 j x y wz:=⟨hrowj.cell hex,hrq.cell hy⟩
       have hSd:=hS.keep (S:=fun _=>False) (Keeps.drew wz) (by simp) (by simp)
       have hst:=stepL_set (f:=fun x y=>x+y) (P:=q1) (by rw [Hpl.out,Hql.out]) hx hy
       have hq1:IntKind.i64.wrap (x+y)=x+y:=IntWalk.i64_in _ ⟨by omega,by omega⟩
       have hrd:∀w1,Keeps (fun _=>False) wz w1→RowZ w1 2 g1 i i (stepL (fun x y=>x+y) p1 q1 j):=fun w1 h=>hrowj.keep h
       have hnewr:∀w1,Keeps (fun _=>False) wz w1→RowZ (w1.setCell ⟨g1,j,none⟩ (.int .i64 (x+y))) 2 g1 i i (stepL (fun x y=>x+y) p1 q1 (j+1)):=fun w1 h=>by
        have:=(hrowj.keep h).set hltj (x+y)
        rwa [hst] at this
       have hnk:∀w1,Keeps (fun _=>False) wz w1→Keeps (fun k=>k=g1) w8 (w1.setCell ⟨g1,j,none⟩ (.int .i64 (x+y))):=fun w1 h=>(hkj.trans (h.mono fun k _ e=> .inl e.elim)).trans (Keeps.setCell _ _ _ (.inl rfl))
       obtain⟨Hrowj,Hkj,Hrq,Hx,Hy,Hex,HS,HSd,Hst⟩:=hid9 hrowj hkj hrq hx hy hex hS hSd hst;clear hst hSd hS hex hy hx hrq hkj hrowj;obtain⟨Hrd,Hnewr,Hnk⟩:=hid3 hrd hnewr hnk;clear hnk hnewr hrd
       go_wp2_with fail
       refine wp_region_mixz (r10T g1 j g3 j x y) 12 (.take 0 (.take 1 (.take 2 (.take 3 (.take 4 (.take 5 (.take 6 (.take 7 (.take 8 (.take 9 (.take 10 (.take 11 (.move 12 .done))))))))))))) (by kernel_rfl) (by kernel_rfl) ?_ ?_
       ·exact HSd.out
       intro w9 hs9 hk9
       have r9:=Hrd.out _ hk9
       have c9:=r9.cell Hex.out
       have f9:=r9.free j
       have l9:=r9.lt
       obtain⟨Hs9,Hk9,R9⟩:=hid3 hs9 hk9 r9;clear r9 hk9 hs9
       repeat (first
        |(refine mix_skip rfl (by rfl) ?_;try simp only [Act.put,List.setIfInBounds_toArray,List.set_cons_zero,List.set_cons_succ])
        |(refine mix_skipm rfl (by rfl) ?_;try simp only [Act.put,List.setIfInBounds_toArray,List.set_cons_zero,List.set_cons_succ])
        |(refine mix_take (v:= ?_) rfl (by rfl) ?_ ?_;rotate_left;(· intro w' hSw;unfold r10T at hSw;go_simp;(try with_reducible rfl));rotate_right;try simp only [Act.put,List.setIfInBounds_toArray,List.set_cons_zero,List.set_cons_succ]))
       refine mix_last rfl (fun K hK=> ?_)
       go_simp
       refine hK.out _ _ ?_
       clear hK K
       try simp only [Act.put,List.setIfInBounds_toArray,List.set_cons_zero,List.set_cons_succ]
       refine mix_done ?_
       have hn8:=Hnewr.out _ Hk9.out
       have hn9:=Hnk.out _ Hk9.out
       clear c9 f9 l9
       obtain⟨Hn8,Hn9⟩:=hid2 hn8 hn9;clear hn9 hn8
       go_wp2
       go_roundw
       case rel=>exact⟨j+1,by go_num,by omega,Hn8.out,Hn9.out⟩
       case measure=>simp [intOf];omega
      ·obtain rfl:j=i:=by omega
       rw [stepL_full (by rw [Hpl.out,Hql.out]) Hpl.out] at hrowj
       have hkz:Keeps (fun _=>False) w wz:=Hk8w.out.trans (hkj.mono fun k _ e=> .inr (by subst e;exact Hg5w.out))
       obtain⟨Hrowj,Hkj,Hrq,Hkz⟩:=hid4 hrowj hkj hrq hkz;clear hkz hrq hkj hrowj
       go_wp2
       exact bodyPost_ret (v:= .tuple #[.slice (some ⟨g1,0,none⟩) j j, .int .i64 m, .int .i64 r2, .int .i64 0]) (by simp [results,Tryz.results57,go_sem]) rfl ⟨g1,rfl,Hrowj.out,Hkz.out,Hg5w.out⟩
set_option maxHeartbeats 1600000
theorem r11Copy_any(L:List Int)(cr du:Int)(ad:Option Addr)(cap n:Nat)(w:World)(hr:Reads w 1 (.slice ad n cap) n (L.flatMap i64c))(hl:n≤1000):
  Calls Tryz.prog 29 #[.agg #[.slice ad n cap, .int .i64 cr, .int .i64 du]] w fun e w'=>∃v',e= .returned (.agg #[v', .int .i64 cr, .int .i64 du])∧w'.ownsRow 0 2 1 v' n (L.flatMap i64c)∧Fresh w w' v':=by
 obtain⟨i0,hi,hi0,hi1,hi2⟩:=info_parts info_tInt64
 obtain⟨w0,hw0⟩:∃x,x=(w.alloc (.cells #[.slice ad n cap, .int .i64 cr, .int .i64 du] 24)).alloc (.cells #[.slice none 0 0, .int .i64 0, .int .i64 0] 24):=⟨_,rfl⟩
 have hk0:Keeps (fun _=>False) w w0:=by rw [hw0];(repeat (first|exact Keeps.refl _ _|exact Keeps.alloc _ _|exact Keeps.drew _|exact Keeps.drewN _ _|refine Keeps.trans_drew ?_|refine Keeps.trans_drewN ?_|refine Keeps.trans_alloc ?_))
 have hb0:w0.heap[w.heap.size]?=some (.cells #[.slice ad n cap, .int .i64 cr, .int .i64 du] 24 (0,0)):=by rw [hw0];exact box_alloc (heap_alloc_new w _) _
 have hs0:w0.heap[w.heap.size+1]?=some (.cells #[.slice none 0 0, .int .i64 0, .int .i64 0] 24 (0,0)):=by rw [hw0];exact halloc_at2 _ _ (by simp)
 have hz0:w0.heap.size=w.heap.size+1+1:=by rw [hw0];simp
 have b0:=cell_of_cells hb0 0
 have bl:=lt_of_block hb0
 obtain⟨Hr,Hi,Hi0,Hi1,Hi2,Hk0,Hb0,Hs0,Hz0⟩:=hid9 hr hi hi0 hi1 hi2 hk0 hb0 hs0 hz0;clear hz0 hs0 hb0 hk0 hi2 hi1 hi0 hi hr
 go_enter Tryz.func29,Tryz.ntmps29
 go_upto_region 1 with fail
 rw [←hw0]
 have Hw0:=Lib.hid hw0
 clear hw0
 go_wp2_with (at_builtin;refine wpList_append_row rfl (.const (.slice none 0 0)) (.tmp 4) 22 rfl 0 2 i0 _ 1 8 Tryz.underlying22 Hi.out Hi0.out Hi1.out Hi2.out rfl (by decide) _ 0 [] rfl (World.ownsRow_nil _ _ _ _) _ n (L.flatMap i64c) rfl (Hr.out.keeps Hk0.out (by simp)) (i64c_one _) (by unfold maxLen;omega) (by omega) (by omega) ?_;intro v1 w1 hown1 hk1 hf1;refine haltD ?_)
 refine Lib.hid ?_
 have hrow:w1.ownsRow 0 2 1 v1 n (L.flatMap i64c):=by simpa using hown1
 have hfw:Fresh w0 w1 v1:=(Fresh.nil w0).app hk1 hf1
 have hnew:∀g,v1.ownBlock=some g→w0.heap.size≤g:=hfw.2
 have hkw:=Hk0.out.nt hfw.1
 have hb:=box_old Hb0.out hfw.1 (by simp)
 have hrs:=box_old Hs0.out hfw.1 (by simp)
 have hnew2:∀g,v1.ownBlock=some g→w.heap.size+1+1≤g:=fun g hg=>by have:=hnew g hg;rw [Hz0.out] at this;exact this
 clear hnew hown1 hf1 b0 bl
 have hnew:=hnew2
 clear hnew2
 have k0:Keeps (fun i=>i=w.heap.size) w1 (w1.setCell ⟨w.heap.size,0,none⟩ v1):=Keeps.setCell _ _ _ rfl
 have hrs2:=box_old hrs k0 (by simp)
 have hb3:((((w1.setCell ⟨w.heap.size,0,none⟩ v1).setCell ⟨w.heap.size+1,0,none⟩ v1).setCell ⟨w.heap.size+1,1,none⟩ (.int .i64 cr)).setCell ⟨w.heap.size+1,2,none⟩ (.int .i64 du)).heap[w.heap.size+1]?=some (.cells #[v1, .int .i64 cr, .int .i64 du] 24 (0,0)):=(heap_setCell_same _ _ 2 _ _ _ ((heap_setCell_same _ _ 1 _ _ _ ((heap_setCell_same _ _ 0 _ _ _ hrs2).trans rfl)).trans rfl)).trans rfl
 have k3:Keeps (fun i=>w.heap.size≤i) w1 ((((w1.setCell ⟨w.heap.size,0,none⟩ v1).setCell ⟨w.heap.size+1,0,none⟩ v1).setCell ⟨w.heap.size+1,1,none⟩ (.int .i64 cr)).setCell ⟨w.heap.size+1,2,none⟩ (.int .i64 du)):=
  (((Keeps.setCell (S:=fun i=>w.heap.size≤i) _ _ _ (Nat.le_refl _)).trans (Keeps.setCell _ _ _ (.inl (by simp)))).trans (Keeps.setCell _ _ _ (.inl (by simp)))).trans (Keeps.setCell _ _ _ (.inl (by simp)))
 have k4:Keeps (fun i=>i=w.heap.size∨i=w.heap.size+1) w1 ((((w1.setCell ⟨w.heap.size,0,none⟩ v1).setCell ⟨w.heap.size+1,0,none⟩ v1).setCell ⟨w.heap.size+1,1,none⟩ (.int .i64 cr)).setCell ⟨w.heap.size+1,2,none⟩ (.int .i64 du)):=
  (((Keeps.setCell (S:=fun i=>i=w.heap.size∨i=w.heap.size+1) _ _ _ (.inl rfl)).trans (Keeps.setCell _ _ _ (.inl (.inr rfl)))).trans (Keeps.setCell _ _ _ (.inl (.inr rfl)))).trans (Keeps.setCell _ _ _ (.inl (.inr rfl)))
 have hrow3:=k4.row hrow (fun g hg e=>by have:=hnew g hg;(try simp at this);omega)
 have hfin:Fresh w ((((w1.setCell ⟨w.heap.size,0,none⟩ v1).setCell ⟨w.heap.size+1,0,none⟩ v1).setCell ⟨w.heap.size+1,1,none⟩ (.int .i64 cr)).setCell ⟨w.heap.size+1,2,none⟩ (.int .i64 du)) v1:=⟨hkw.trans (k3.mono fun i _ e=> .inr e),fun g hg=>by have:=hnew g hg;(try simp at this);omega⟩
 have b0:=cell_of_cells hb 0
 have b1:=cell_of_cells hb 1
 have b2:=cell_of_cells hb 2
 have bf:=free_of_cells hb 0
 have bl:=lt_of_block hb
 have r0:=cell_of_cells hrs 0
 have r1:=cell_of_cells hrs 1
 have r2:=cell_of_cells hrs 2
 have rf0:=free_of_cells hrs 0
 have rf1:=free_of_cells hrs 1
 have rf2:=free_of_cells hrs 2
 have rl:=lt_of_block hrs
 have sr0:=cell_of_cells hb3 0
 have sr1:=cell_of_cells hb3 1
 have sr2:=cell_of_cells hb3 2
 obtain⟨ad1,c1,rfl,_,_⟩:=ownsRow_shape hrow
 obtain⟨Hrow,Hk1,Hfw,Hnew,Hkw,Hb,Hrs,K0,Hrs2⟩:=hid9 hrow hk1 hfw hnew hkw hb hrs k0 hrs2;clear hrs2 k0 hrs hb hkw hnew hfw hk1 hrow;obtain⟨Hb3,K3,K4,Hrow3,Hfin,Sr0,Sr1,Sr2⟩:=hid8 hb3 k3 k4 hrow3 hfin sr0 sr1 sr2;clear sr2 sr1 sr0 hfin hrow3 k4 k3 hb3
 go_wp2
 have R0':=Sr0.out
 have R1':=Sr1.out
 have R2':=Sr2.out
 clear r0 r1 r2 b0 b1 b2
 exact bodyPost_ret (v:= .agg #[.slice ad1 n c1, .int .i64 cr, .int .i64 du]) (by simp [results,Tryz.results29,go_sem,R0',R1',R2']) rfl ⟨_,rfl,Hrow3.out,Hfin.out⟩
theorem r11Right_at(L:List Int)(cr du:Int)(ad:Option Addr)(cap n:Nat)(w:World)(hr:Reads w 1 (.slice ad n cap) n (L.flatMap i64c))(hN:L.length=n)(hl:n≤1000)(b:Bool)(hb:Ps.rightB ⟨L,cr,du⟩=b):
  Calls Tryz.prog 18 #[.agg #[.slice ad n cap, .int .i64 cr, .int .i64 du]] w fun e w'=>e= .returned (.bool b)∧Keeps (fun _=>False) w w':=by
 have:=r11Right_any L cr du ad cap n w hr hN (by omega)
 rw [hb] at this
 exact this
theorem r11asked_any(L:List Int)(cr du a k:Int)(ad:Option Addr)(cap n:Nat)(w:World)(hr:Reads w 1 (.slice ad n cap) n (L.flatMap i64c))(hN:L.length=n)(hl:n≤1000):
  Calls Tryz.prog 55 #[.agg #[.slice ad n cap, .int .i64 cr, .int .i64 du], .int .i64 k, .int .i64 a] w fun e w'=>e= .returned (.int .i64 (askE ⟨L,cr,du⟩ [k] a))∧Keeps (fun _=>False) w w':=by
 obtain⟨z,hz⟩:∃z,askE ⟨L,cr,du⟩ [k] a=z:=⟨_,rfl⟩
 have hz':=hz
 unfold askE at hz'
 simp only [List.all_cons,List.all_nil,Bool.and_true] at hz'
 rw [hN] at hz'
 rw [hz]
 have hbx:∀W,Keeps (fun _=>False) (w.alloc (.cells #[.slice ad n cap, .int .i64 cr, .int .i64 du] 24)) W→W.heap[w.heap.size]?=some (.cells #[.slice ad n cap, .int .i64 cr, .int .i64 du] 24 (0,0)):=fun W hW=>box_old (heap_alloc_new w _) hW (by simp)
 rcases hb:Ps.rightB ⟨L,cr,du⟩ with _|_
 ·have hri:=fun W (hW:Keeps (fun _=>False) w W)=>r11Right_at L cr du ad cap n W (hr.keeps hW (by simp)) hN hl _ hb
  rw [hb] at hz'
  rw [if_neg (by decide)] at hz'
  subst hz'
  obtain⟨Hr,Hri,Hb,Hz,Hbx⟩:=hid5 hr hri hb hz hbx;clear hbx hz hb hri hr
  go_enter Tryz.func55,Tryz.ntmps55
  go_wp2_with fail
  refine(Hri.out _ (by(repeat (first|exact Keeps.refl _ _|exact Keeps.alloc _ _|exact Keeps.drew _|exact Keeps.drewN _ _|refine Keeps.trans_drew ?_|refine Keeps.trans_drewN ?_|refine Keeps.trans_alloc ?_)))).mono ?_
  rintro e w1 ⟨rfl,hk1⟩
  have Hk1:=Lib.hid ((Keeps.alloc w _).nt hk1)
  clear hk1
  go_wp2
  go_ret
  exact⟨rfl,Hk1.out⟩
 ·have hri:=fun W (hW:Keeps (fun _=>False) w W)=>r11Right_at L cr du ad cap n W (hr.keeps hW (by simp)) hN hl _ hb
  rw [hb] at hz'
  rw [if_pos rfl] at hz'
  by_cases k1:k<1
  ·rw [if_neg (by simp [trB];omega)] at hz'
   subst hz'
   obtain⟨Hr,Hri,Hb,Hz,Hbx⟩:=hid5 hr hri hb hz hbx;clear hbx hz hb hri hr
   go_enter Tryz.func55,Tryz.ntmps55
   go_wp2_with fail
   refine(Hri.out _ (by(repeat (first|exact Keeps.refl _ _|exact Keeps.alloc _ _|exact Keeps.drew _|exact Keeps.drewN _ _|refine Keeps.trans_drew ?_|refine Keeps.trans_drewN ?_|refine Keeps.trans_alloc ?_)))).mono ?_
   rintro e w1 ⟨rfl,hk1⟩
   have Hk1:=Lib.hid ((Keeps.alloc w _).nt hk1)
   clear hk1
   go_wp2
   go_ret
   exact⟨rfl,Hk1.out⟩
  ·by_cases k2:(n:Int)<k
   ·rw [if_neg (by simp [trB];omega)] at hz'
    subst hz'
    obtain⟨Hr,Hri,Hb,Hz,Hbx⟩:=hid5 hr hri hb hz hbx;clear hbx hz hb hri hr
    go_enter Tryz.func55,Tryz.ntmps55
    go_wp2_with fail
    refine(Hri.out _ (by(repeat (first|exact Keeps.refl _ _|exact Keeps.alloc _ _|exact Keeps.drew _|exact Keeps.drewN _ _|refine Keeps.trans_drew ?_|refine Keeps.trans_drewN ?_|refine Keeps.trans_alloc ?_)))).mono ?_
    rintro e w1 ⟨rfl,hk1⟩
    have hbb:=Hbx.out _ hk1
    have b0:=cell_of_cells hbb 0
    have bl:=lt_of_block hbb
    have Hk1:=Lib.hid ((Keeps.alloc w _).nt hk1)
    clear hk1 hbb
    go_wp2
    go_ret
    exact⟨rfl,Hk1.out⟩
   ·rw [if_pos (by simp [trB];omega)] at hz'
    rcases m3:moneyP a with _|_
    ·rw [m3,if_neg (by decide)] at hz'
     subst hz'
     obtain⟨Hr,Hri,Hb,Hz,Hbx⟩:=hid5 hr hri hb hz hbx;clear hbx hz hb hri hr
     go_enter Tryz.func55,Tryz.ntmps55
     go_wp2_with fail
     refine(Hri.out _ (by(repeat (first|exact Keeps.refl _ _|exact Keeps.alloc _ _|exact Keeps.drew _|exact Keeps.drewN _ _|refine Keeps.trans_drew ?_|refine Keeps.trans_drewN ?_|refine Keeps.trans_alloc ?_)))).mono ?_
     rintro e w1 ⟨rfl,hk1⟩
     have hbb:=Hbx.out _ hk1
     have b0:=cell_of_cells hbb 0
     have bl:=lt_of_block hbb
     have Hk1:=Lib.hid ((Keeps.alloc w _).nt hk1)
     clear hk1 hbb
     go_wp2_with (go_at_call 41;(with_reducible refine(r11may_at m3 _).mono ?_);rintro e w2 ⟨rfl,rfl⟩)
     go_ret
     exact⟨rfl,Hk1.out⟩
    ·rw [m3,if_pos rfl] at hz'
     subst hz'
     obtain⟨Hr,Hri,Hb,Hz,Hbx⟩:=hid5 hr hri hb hz hbx;clear hbx hz hb hri hr
     go_enter Tryz.func55,Tryz.ntmps55
     go_wp2_with fail
     refine(Hri.out _ (by(repeat (first|exact Keeps.refl _ _|exact Keeps.alloc _ _|exact Keeps.drew _|exact Keeps.drewN _ _|refine Keeps.trans_drew ?_|refine Keeps.trans_drewN ?_|refine Keeps.trans_alloc ?_)))).mono ?_
     rintro e w1 ⟨rfl,hk1⟩
     have hbb:=Hbx.out _ hk1
     have b0:=cell_of_cells hbb 0
     have bl:=lt_of_block hbb
     have Hk1:=Lib.hid ((Keeps.alloc w _).nt hk1)
     clear hk1 hbb
     go_wp2_with (go_at_call 41;(with_reducible refine(r11may_at m3 _).mono ?_);rintro e w2 ⟨rfl,rfl⟩)
     go_ret
     exact⟨rfl,Hk1.out⟩
structure P11(w:World)(T R g c n:Nat)(L:List Int)(cr du:Int)(W:World):Prop where
 box:W.heap[T]?=some (.cells #[.slice (some ⟨g,0,none⟩) n c, .int .i64 cr, .int .i64 du] 24 (0,0))
 res:W.heap[R]?=some (.cells #[.slice none 0 0, .int .i64 0, .int .i64 0] 24 (0,0))
 row:RowZ W 2 g n c L
 kp:Keeps (fun _=>False) w W
 hT:w.heap.size≤T
 hR:w.heap.size≤R
 hg:w.heap.size≤g
 tr:¬T=R
 tg:¬T=g
 rg:¬R=g
theorem own_ne{g g' n c:Nat}(h:(Value.slice (some ⟨g,0,none⟩) n c).ownBlock=some g'):g'=g:=by simp only [Value.ownBlock,Option.some.injEq] at h;exact h.symm
theorem P11.keep{w:World}{T R g c n:Nat}{L:List Int}{cr du:Int}{W W':World}(h:P11 w T R g c n L cr du W)(hk:Keeps (fun _=>False) W W'):P11 w T R g c n L cr du W':=
 ⟨box_old h.box hk (by simp),box_old h.res hk (by simp),h.row.keep hk,h.kp.nt hk,h.hT,h.hR,h.hg,h.tr,h.tg,h.rg⟩
theorem P11.setcr{w:World}{T R g c n:Nat}{L:List Int}{cr du:Int}{W:World}(h:P11 w T R g c n L cr du W)(v:Int):P11 w T R g c n L v du (W.setCell ⟨T,1,none⟩ (.int .i64 v)):=
 have k:Keeps (fun i=>i=T) W (W.setCell ⟨T,1,none⟩ (.int .i64 v)):=Keeps.setCell _ _ _ rfl
 ⟨(heap_setCell_same _ _ 1 _ _ _ h.box).trans rfl,box_old h.res k (fun e=>h.tr e.symm),⟨k.row h.row.1 (fun g' hg e=>h.tg ((own_ne hg)▸e.symm)),h.row.2⟩,h.kp.trans (k.mono fun i _ e=> .inr (by subst e;exact h.hT)),h.hT,h.hR,h.hg,h.tr,h.tg,h.rg⟩
theorem P11.setrow{w:World}{T R g c n i:Nat}{L:List Int}{cr du:Int}{W:World}(h:P11 w T R g c n L cr du W)(hi:i<n)(v:Int):P11 w T R g c n (L.set i v) cr du (W.setCell ⟨g,i,none⟩ (.int .i64 v)):=
 have k:Keeps (fun i=>i=g) W (W.setCell ⟨g,i,none⟩ (.int .i64 v)):=Keeps.setCell _ _ _ rfl
 ⟨box_old h.box k h.tg,box_old h.res k h.rg,h.row.set hi v,h.kp.trans (k.mono fun i _ e=> .inr (by subst e;exact h.hg)),h.hT,h.hR,h.hg,h.tr,h.tg,h.rg⟩
theorem P11.ok{w:World}{T R g c n:Nat}{L:List Int}{cr du:Int}{W:World}(h:P11 w T R g c n L cr du W):
  (((W.setCell ⟨R,0,none⟩ (.slice (some ⟨g,0,none⟩) n c)).setCell ⟨R,1,none⟩ (.int .i64 cr)).setCell ⟨R,2,none⟩ (.int .i64 du)).heap[R]?=some (.cells #[.slice (some ⟨g,0,none⟩) n c, .int .i64 cr, .int .i64 du] 24 (0,0))
  ∧GivesP ⟨L,cr,du⟩ 0 w (.returned (.tuple #[.agg #[.slice (some ⟨g,0,none⟩) n c, .int .i64 cr, .int .i64 du], .int .i64 0])) (((W.setCell ⟨R,0,none⟩ (.slice (some ⟨g,0,none⟩) n c)).setCell ⟨R,1,none⟩ (.int .i64 cr)).setCell ⟨R,2,none⟩ (.int .i64 du)):=by
 obtain⟨h1,k⟩:=store3 h.res (.slice (some ⟨g,0,none⟩) n c) (.int .i64 cr) (.int .i64 du)
 refine⟨h1,_,rfl, ?_, ?_, ?_⟩
 ·show World.ownsRow _ 0 _ 1 _ L.length _
  rw [h.row.2]
  exact k.row h.row.1 (fun g' hg e=>h.rg ((own_ne hg)▸e.symm))
 ·exact h.kp.trans (k.mono fun i _ e=> .inr (by subst e;exact h.hR))
 ·intro g' hg
  rw [own_ne hg]
  exact h.hg
theorem P11.bad{w:World}{R:Nat}{W:World}(z:Int)(hres:W.heap[R]?=some (.cells #[.slice none 0 0, .int .i64 0, .int .i64 0] 24 (0,0)))(kp:Keeps (fun _=>False) w W)(hR:w.heap.size≤R):
  (((W.setCell ⟨R,0,none⟩ (.slice none 0 0)).setCell ⟨R,1,none⟩ (.int .i64 0)).setCell ⟨R,2,none⟩ (.int .i64 0)).heap[R]?=some (.cells #[.slice none 0 0, .int .i64 0, .int .i64 0] 24 (0,0))
  ∧GivesP ps0 z w (.returned (.tuple #[.agg #[.slice none 0 0, .int .i64 0, .int .i64 0], .int .i64 z])) (((W.setCell ⟨R,0,none⟩ (.slice none 0 0)).setCell ⟨R,1,none⟩ (.int .i64 0)).setCell ⟨R,2,none⟩ (.int .i64 0)):=by
 obtain⟨h1,k⟩:=store3 hres (.slice none 0 0) (.int .i64 0) (.int .i64 0)
 exact⟨h1,_,rfl,World.ownsRow_nil _ _ _ _,kp.trans (k.mono fun i _ e=> .inr (by subst e;exact hR)),by simp [Value.ownBlock]⟩
theorem P11.mk0{w w1:World}{ad:Option Addr}{cap n g c:Nat}{L:List Int}{cr du:Int}(hN:L.length=n)
  (hown:w1.ownsRow 0 2 1 (.slice (some ⟨g,0,none⟩) n c) n (L.flatMap i64c)) (hf:Fresh ((w.alloc (.cells #[.slice ad n cap, .int .i64 cr, .int .i64 du] 24)).alloc (.cells #[.slice none 0 0, .int .i64 0, .int .i64 0] 24)) w1 (.slice (some ⟨g,0,none⟩) n c)):
  P11 w w.heap.size (w.heap.size+1) g c n L cr du (((w1.setCell ⟨w.heap.size,0,none⟩ (.slice (some ⟨g,0,none⟩) n c)).setCell ⟨w.heap.size,1,none⟩ (.int .i64 cr)).setCell ⟨w.heap.size,2,none⟩ (.int .i64 du)):=by
 have hb:=box_old (box_alloc (heap_alloc_new w (.cells #[.slice ad n cap, .int .i64 cr, .int .i64 du] 24)) (.cells #[.slice none 0 0, .int .i64 0, .int .i64 0] 24)) hf.1 (by simp)
 have hrs:w1.heap[w.heap.size+1]?=some (.cells #[.slice none 0 0, .int .i64 0, .int .i64 0] 24 (0,0)):=box_old (halloc_at2 _ _ (by simp)) hf.1 (by simp)
 have hg:=hf.2 g rfl
 simp only [World.size_alloc] at hg
 obtain⟨h1,k⟩:=store3 hb (.slice (some ⟨g,0,none⟩) n c) (.int .i64 cr) (.int .i64 du)
 have kp:Keeps (fun _=>False) w w1:=((Keeps.alloc w _).nt (Keeps.alloc _ _)).nt hf.1
 exact⟨h1,box_old hrs k (by omega),⟨k.row hown (fun g' hg' e=>by have:=own_ne hg';omega),hN⟩,kp.trans (k.mono fun i _ e=> .inr (by omega)),by omega,by omega,by omega,by omega,by omega,by omega⟩
def p11S(T:Nat)(vr:Value)(g i:Nat)(x:Int)(W:World):Prop:=W.cell? ⟨T,0,none⟩=some vr∧W.cell? ⟨g,i,none⟩=some (.int .i64 x)
theorem P11.s{w:World}{T R g c n i:Nat}{L:List Int}{cr du x:Int}{W:World}(h:P11 w T R g c n L cr du W)(hx:L[i]?=some x):p11S T (.slice (some ⟨g,0,none⟩) n c) g i x W:=⟨cell_of_cells h.box 0,h.row.cell hx⟩
end Go.Proofs.YthcmpcekmkioaaaGreat
