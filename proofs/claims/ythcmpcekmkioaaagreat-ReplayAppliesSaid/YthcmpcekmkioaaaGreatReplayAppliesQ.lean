/-
  ReplayApplies: for every input the law returns true, and each argument reads behind the call as it read before. No condition.
-/
import Derived.Test.YthcmpcekmkioaaaGreatReplayAppliesQ9
namespace Go.Proofs.YthcmpcekmkioaaaGreat
open Go.RowKit
set_option maxRecDepth 100000
set_option maxHeartbeats 3200000
theorem r11add_any(L:List Int)(cr du k a:Int)(ad:Option Addr)(cap n:Nat)(w:World)(hr:Reads w 1 (.slice ad n cap) n (L.flatMap i64c))(hN:L.length=n)(hl:n≤1000)(hright:Ps.rightB ⟨L,cr,du⟩=true)(hk:1≤k∧k≤n)(hmon:moneyP a=true):
  Calls Tryz.prog 56 #[.agg #[.slice ad n cap, .int .i64 cr, .int .i64 du], .int .i64 k, .int .i64 a] w (GivesP (if(chargeP ⟨L,cr,du⟩ k a).rightB=true then(chargeP ⟨L,cr,du⟩ k a,(0:Int)) else(ps0,5)).1 (if(chargeP ⟨L,cr,du⟩ k a).rightB=true then(chargeP ⟨L,cr,du⟩ k a,(0:Int)) else(ps0,5)).2 w):=by
 obtain⟨hbal,⟨cr0,cr1⟩,hdu,hn1,hn8⟩:=right_nums hright
 simp only at hbal cr0 cr1 hdu hn1 hn8
 rw [hN] at hn1 hn8
 obtain⟨a0,a1⟩:=(moneyP_iff a).1 hmon
 obtain⟨k1,k2⟩:=hk
 obtain⟨m,hm⟩:∃m,minI a cr=m:=⟨_,rfl⟩
 have hm2:0≤m∧m≤a∧m≤cr:=by rw [←hm];unfold minI;split<;>omega
 obtain⟨m0,m1,m2⟩:=hm2
 obtain⟨i,hi⟩:∃i:Nat,(i:Int)=k-1:=⟨(k-1).toNat,by omega⟩
 have hin:i<n:=by omega
 have hiN:(k-1).toNat=i:=by omega
 obtain⟨x,hx⟩:=get_some (L:=L) (k:=i) (by omega)
 obtain⟨x0,x1⟩:=hbal x (List.mem_of_getElem? hx)
 have hq:chargeP ⟨L,cr,du⟩ k a=⟨L.set i (x+a-m),cr-m,du⟩:=by
  unfold chargeP
  simp only
  rw [hm,hiN,List.getD_eq_getElem?_getD,hx]
  simp only [Option.getD_some]
  rw [show x+(a-m)=x+a-m by omega]
 rw [hq]
 obtain⟨G,hG⟩:∃G:Ps×Int,(if Ps.rightB ⟨L.set i (x+a-m),cr-m,du⟩=true then((⟨L.set i (x+a-m),cr-m,du⟩:Ps),(0:Int)) else(ps0,5))=G:=⟨_,rfl⟩
 rw [hG]
 have hcopy:=fun W (hW:Keeps (fun _=>False) w W)=>r11Copy_any L cr du ad cap n W (hr.keeps hW (by simp)) hl
 have hri:=fun W g c (hW:RowZ W 2 g n c (L.set i (x+a-m))) b (hb:Ps.rightB ⟨L.set i (x+a-m),cr-m,du⟩=b)=>r11Right_at _ (cr-m) du (some ⟨g,0,none⟩) c n W hW.reads (by rw [List.length_set];exact hN) hl b hb
 have q1:(0:Int)≤k-1:=by omega
 have q2:k-1<(n:Int):=by omega
 have q4:IntKind.i64.wrap (k-1)=k-1:=IntWalk.i64_in _ ⟨by omega,by omega⟩
 have q5:IntKind.i64.wrap (x+a)=x+a:=IntWalk.i64_in _ ⟨by omega,by omega⟩
 have q6:IntKind.i64.wrap (x+a-m)=x+a-m:=IntWalk.i64_in _ ⟨by omega,by omega⟩
 have q7:IntKind.i64.wrap (cr-m)=cr-m:=IntWalk.i64_in _ ⟨by omega,by omega⟩
 obtain⟨Hr,HN,Hright,Hbal,Hdu,Hm,Hi,Hx,Hq⟩:=hid9 hr hN hright hbal hdu hm hi hx hq;clear hq hx hi hm hdu hbal hright hN hr;obtain⟨Hcopy,Hri,Hmon,HG⟩:=hid4 hcopy hri hmon hG;clear hG hmon hri hcopy
 go_enter Tryz.func56,Tryz.ntmps56
 go_wp2_with fail
 refine(Hcopy.out _ (by(repeat (first|exact Keeps.refl _ _|exact Keeps.alloc _ _|exact Keeps.drew _|exact Keeps.drewN _ _|refine Keeps.trans_drew ?_|refine Keeps.trans_drewN ?_|refine Keeps.trans_alloc ?_)))).mono ?_
 rintro e w1 ⟨v1,rfl,hown,hf⟩
 obtain⟨g,c,rfl⟩:=owns_head hown hn1
 have hp:=P11.mk0 HN.out hown hf
 have hbb:=box_old (box_alloc (heap_alloc_new w (.cells #[.slice ad n cap, .int .i64 cr, .int .i64 du] 24)) (.cells #[.slice none 0 0, .int .i64 0, .int .i64 0] 24)) hf.1 (by simp)
 have b0:=cell_of_cells hbb 0
 have b1:=cell_of_cells hbb 1
 have b2:=cell_of_cells hbb 2
 have bf0:=free_of_cells hbb 0
 have bf1:=free_of_cells hbb 1
 have bf2:=free_of_cells hbb 2
 have bl:=lt_of_block hbb
 obtain⟨Hown,Hf,Hp,Hbb⟩:=hid4 hown hf hp hbb;clear hbb hp hf hown
 go_upto_region 2 with fail
 obtain⟨W2,hW2⟩:∃y,y=(((w1.setCell ⟨w.heap.size,0,none⟩ (.slice (some ⟨g,0,none⟩) n c)).setCell ⟨w.heap.size,1,none⟩ (.int .i64 cr)).setCell ⟨w.heap.size,2,none⟩ (.int .i64 du)):=⟨_,rfl⟩
 have hp2:=Hp.out
 rw [←hW2] at hp2⊢
 clear b0 b1 b2 bf0 bf1 bf2 bl hW2 Hp
 have b1:=cell_of_cells hp2.box 1
 have bf1:=free_of_cells hp2.box 1
 have bl:=lt_of_block hp2.box
 have hp3:=hp2.setcr (cr-m)
 have Hp2:=Lib.hid hp2
 clear hp2
 go_cut [8] (fun y wx=>y= .int .i64 m∧W2=wx)
 case first=>
  have hmn:=Hm.out
  unfold minI at hmn
  rcases Int.lt_trichotomy cr a with hle|hle|hle
  ·rw [if_neg (by omega)] at hmn
   have Hmn:=Lib.hid hmn;clear hmn
   clear hp3
   go_wp2_with fail
   go_meet
   exact⟨by rw [Hmn.out],rfl⟩
  ·rw [if_pos (by omega)] at hmn
   have Hmn:=Lib.hid hmn;clear hmn
   clear hp3
   subst hle
   go_wp2_with fail
   go_meet
   exact⟨by rw [Hmn.out],rfl⟩
  ·rw [if_pos (by omega)] at hmn
   have Hmn:=Lib.hid hmn;clear hmn
   clear hp3
   go_wp2_with fail
   go_meet
   exact⟨by rw [Hmn.out],rfl⟩
 obtain⟨rfl,rfl⟩:=hcut
 have Hp3:=Lib.hid hp3;clear hp3
 go_upto_region 4 with fail
 obtain⟨W3,hW3⟩:∃y,y=W2.setCell ⟨w.heap.size,1,none⟩ (.int .i64 (cr-m)):=⟨_,rfl⟩
 have hp4:=Hp3.out
 rw [←hW3] at hp4⊢
 clear hW3 Hp3 Hp2 b1 bf1 bl
 have hs4:p11S w.heap.size (.slice (some ⟨g,0,none⟩) n c) g i x W3.drew:=(hp4.keep (Keeps.drew _)).s Hx.out
 obtain⟨Hp4,Hs4⟩:=hid2 hp4 hs4;clear hs4 hp4
 go_wp2_with fail
 refine wp_region_mixz (p11S w.heap.size (.slice (some ⟨g,0,none⟩) n c) g i x) 15 (.take 0 (.take 1 (.take 2 (.take 3 (.take 4 (.take 5 (.take 6 (.take 7 (.take 8 (.take 9 (.take 10 (.take 11 (.take 12 (.take 13 (.take 14 (.move 15 .done)))))))))))))))) (by kernel_rfl) (by kernel_rfl) ?_ ?_
 ·exact Hs4.out
 intro w5 hs5 hk5
 have hp5:=Hp4.out.keep hk5
 have c5:=hp5.row.cell Hx.out
 have f5:=hp5.row.free i
 have l5:=hp5.row.lt
 have hiT:(k-1).toNat=i:=by omega
 obtain⟨Hs5,Hk5,Hp5⟩:=hid3 hs5 hk5 hp5;clear hp5 hk5 hs5
 repeat (first
  |(refine mix_skip rfl (by rfl) ?_;try simp only [Act.put,List.setIfInBounds_toArray,List.set_cons_zero,List.set_cons_succ])
  |(refine mix_skipm rfl (by rfl) ?_;try simp only [Act.put,List.setIfInBounds_toArray,List.set_cons_zero,List.set_cons_succ])
  |(refine mix_take (v:= ?_) rfl (by rfl) ?_ ?_;rotate_left;(· intro w' hSw;unfold p11S at hSw;go_simp;(try with_reducible rfl));rotate_right;try simp only [Act.put,List.setIfInBounds_toArray,List.set_cons_zero,List.set_cons_succ]))
 refine mix_last rfl (fun K hK=> ?_)
 go_simp
 refine hK.out _ _ ?_
 clear hK K
 try simp only [Act.put,List.setIfInBounds_toArray,List.set_cons_zero,List.set_cons_succ]
 refine mix_done ?_
 have hp6:=Hp5.out.setrow hin (x+a-m)
 obtain⟨W6,hW6⟩:∃y,y=w5.setCell ⟨g,i,none⟩ (.int .i64 (x+a-m)):=⟨_,rfl⟩
 rw [←hW6] at hp6⊢
 clear hW6 c5 f5 l5 Hp5 Hp4
 have b0:=cell_of_cells hp6.box 0
 have b1:=cell_of_cells hp6.box 1
 have b2:=cell_of_cells hp6.box 2
 have bl:=lt_of_block hp6.box
 have Hp6:=Lib.hid hp6;clear hp6
 rcases hb:Ps.rightB ⟨L.set i (x+a-m),cr-m,du⟩ with _|_
 ·have h:=HG.out
  rw [hb,if_neg (by decide)] at h
  subst h
  have Hb:=Lib.hid hb;clear hb
  go_wp2_with fail
  refine(Hri.out _ _ _ Hp6.out.row _ Hb.out).mono ?_
  rintro e w7 ⟨rfl,hk7⟩
  have hp7:=Hp6.out.keep hk7
  have hres:=hp7.res
  have hend:=P11.bad 5 hres hp7.kp hp7.hR
  clear b0 b1 b2 bl
  obtain⟨Hk7,Hp7⟩:=hid2 hk7 hp7;clear hp7 hk7
  have r0:=cell_of_cells hres 0
  have r1:=cell_of_cells hres 1
  have r2:=cell_of_cells hres 2
  have rf0:=free_of_cells hres 0
  have rf1:=free_of_cells hres 1
  have rf2:=free_of_cells hres 2
  have rl:=lt_of_block hres
  have sr0:=cell_of_cells hend.1 0
  have sr1:=cell_of_cells hend.1 1
  have sr2:=cell_of_cells hend.1 2
  have hgv:=hend.2
  obtain⟨Hres,Hend,Sr0,Sr1,Sr2,Hgv⟩:=hid6 hres hend sr0 sr1 sr2 hgv;clear hgv sr2 sr1 sr0 hend hres
  go_wp2
  have R0':=Sr0.out
  have R1':=Sr1.out
  have R2':=Sr2.out
  clear r0 r1 r2
  exact bodyPost_ret (v:= .tuple #[.agg #[.slice none 0 0, .int .i64 0, .int .i64 0], .int .i64 5]) (by simp [results,Tryz.results56,go_sem,R0',R1',R2']) rfl Hgv.out
 ·have h:=HG.out
  rw [hb,if_pos rfl] at h
  subst h
  have Hb:=Lib.hid hb;clear hb
  go_wp2_with fail
  refine(Hri.out _ _ _ Hp6.out.row _ Hb.out).mono ?_
  rintro e w7 ⟨rfl,hk7⟩
  have hp7:=Hp6.out.keep hk7
  have hres:=hp7.res
  have hend:=hp7.ok
  clear b0 b1 b2 bl
  have b0:=cell_of_cells hp7.box 0
  have b1:=cell_of_cells hp7.box 1
  have b2:=cell_of_cells hp7.box 2
  have bl:=lt_of_block hp7.box
  obtain⟨Hk7,Hp7⟩:=hid2 hk7 hp7;clear hp7 hk7
  have r0:=cell_of_cells hres 0
  have r1:=cell_of_cells hres 1
  have r2:=cell_of_cells hres 2
  have rf0:=free_of_cells hres 0
  have rf1:=free_of_cells hres 1
  have rf2:=free_of_cells hres 2
  have rl:=lt_of_block hres
  have sr0:=cell_of_cells hend.1 0
  have sr1:=cell_of_cells hend.1 1
  have sr2:=cell_of_cells hend.1 2
  have hgv:=hend.2
  obtain⟨Hres,Hend,Sr0,Sr1,Sr2,Hgv⟩:=hid6 hres hend sr0 sr1 sr2 hgv;clear hgv sr2 sr1 sr0 hend hres
  go_wp2
  have R0':=Sr0.out
  have R1':=Sr1.out
  have R2':=Sr2.out
  clear r0 r1 r2
  exact bodyPost_ret (v:= .tuple #[.agg #[.slice (some ⟨g,0,none⟩) n c, .int .i64 (cr-m), .int .i64 du], .int .i64 0]) (by simp [results,Tryz.results56,go_sem,R0',R1',R2']) rfl Hgv.out
theorem r11less_any(L Q:List Int)(cr du x:Int)(ad adQ:Option Addr)(cap cQ n:Nat)(w:World)(hr:Reads w 1 (.slice ad n cap) n (L.flatMap i64c))(hN:L.length=n)(hl:n≤1000)(hn1:1≤n)(hQ:Reads w 1 (.slice adQ n cQ) n (Q.flatMap i64c))(hQn:Q.length=n)
  (hbal:∀x∈L,0≤x∧x≤1000000000000000) (hQb:∀x∈Q,0≤x∧x≤2000000000000000) (hcr:0≤cr∧cr≤1000000000000000) (hxb:0≤x∧x≤1000000000000000):
  Calls Tryz.prog 58 #[.agg #[.slice ad n cap, .int .i64 cr, .int .i64 du], .slice adQ n cQ, .int .i64 x] w (GivesP (if Ps.rightB ⟨List.zipWith (fun x y=>x-y) L Q,cr+x,du⟩=true then((⟨List.zipWith (fun x y=>x-y) L Q,cr+x,du⟩:Ps),(0:Int)) else(ps0,5)).1 (if Ps.rightB ⟨List.zipWith (fun x y=>x-y) L Q,cr+x,du⟩=true then((⟨List.zipWith (fun x y=>x-y) L Q,cr+x,du⟩:Ps),(0:Int)) else(ps0,5)).2 w):=by
 obtain⟨cr0,cr1⟩:=hcr
 obtain⟨x0,x1⟩:=hxb
 obtain⟨Z,hZ⟩:∃Z,List.zipWith (fun x y:Int=>x-y) L Q=Z:=⟨_,rfl⟩
 have hZl:Z.length=n:=by rw [←hZ,List.length_zipWith];omega
 rw [hZ]
 obtain⟨G,hG⟩:∃G:Ps×Int,(if Ps.rightB ⟨Z,cr+x,du⟩=true then((⟨Z,cr+x,du⟩:Ps),(0:Int)) else(ps0,5))=G:=⟨_,rfl⟩
 rw [hG]
 have hcopy:=fun W (hW:Keeps (fun _=>False) w W)=>r11Copy_any L cr du ad cap n W (hr.keeps hW (by simp)) hl
 have hri:=fun W g c (hW:RowZ W 2 g n c Z) b (hb:Ps.rightB ⟨Z,cr+x,du⟩=b)=>r11Right_at _ (cr+x) du (some ⟨g,0,none⟩) c n W hW.reads hZl hl b hb
 have q7:IntKind.i64.wrap (cr+x)=cr+x:=IntWalk.i64_in _ ⟨by omega,by omega⟩
 obtain⟨Hr,HN,Hbal,HQ,HQn,HQb,Hcopy,Hri,HG⟩:=hid9 hr hN hbal hQ hQn hQb hcopy hri hG;clear hG hri hcopy hQb hQn hQ hbal hN hr;obtain⟨HZ,HZl⟩:=hid2 hZ hZl;clear hZl hZ
 go_enter Tryz.func58,Tryz.ntmps58
 go_wp2_with fail
 refine(Hcopy.out _ (by(repeat (first|exact Keeps.refl _ _|exact Keeps.alloc _ _|exact Keeps.drew _|exact Keeps.drewN _ _|refine Keeps.trans_drew ?_|refine Keeps.trans_drewN ?_|refine Keeps.trans_alloc ?_)))).mono ?_
 rintro e w1 ⟨v1,rfl,hown,hf⟩
 obtain⟨g,c,rfl⟩:=owns_head hown hn1
 have hp:=P11.mk0 HN.out hown hf
 have hbb:=box_old (box_alloc (heap_alloc_new w (.cells #[.slice ad n cap, .int .i64 cr, .int .i64 du] 24)) (.cells #[.slice none 0 0, .int .i64 0, .int .i64 0] 24)) hf.1 (by simp)
 have b0:=cell_of_cells hbb 0
 have b1:=cell_of_cells hbb 1
 have b2:=cell_of_cells hbb 2
 have bf0:=free_of_cells hbb 0
 have bf1:=free_of_cells hbb 1
 have bf2:=free_of_cells hbb 2
 have bl:=lt_of_block hbb
 obtain⟨Hown,Hf,Hp,Hbb⟩:=hid4 hown hf hp hbb;clear hbb hp hf hown
 go_upto_region 2 with fail
 obtain⟨W2,hW2⟩:∃y,y=(((w1.setCell ⟨w.heap.size,0,none⟩ (.slice (some ⟨g,0,none⟩) n c)).setCell ⟨w.heap.size,1,none⟩ (.int .i64 cr)).setCell ⟨w.heap.size,2,none⟩ (.int .i64 du)):=⟨_,rfl⟩
 have hp2:=Hp.out
 rw [←hW2] at hp2⊢
 clear b0 b1 b2 bf0 bf1 bf2 bl hW2 Hp
 have Hp2:=Lib.hid hp2;clear hp2
 go_wp2
 go_loopw [8] (fun y wx=>∃i:Nat,y= .int .i64 (i:Nat)∧i≤n∧P11 w w.heap.size (w.heap.size+1) g c n (stepL (fun x y=>x-y) L Q i) cr du wx) (fun y _=>n-(intOf y).toNat)
 case atStart=>exact⟨0,rfl,Nat.zero_le _,by rw [stepL_zero];exact Hp2.out⟩
 case round=>
  obtain⟨i,rfl,hin,hpi⟩:=hrel
  obtain⟨wq,hwq⟩:∃y,y=wr:=⟨_,rfl⟩
  subst hwq
  by_cases hlt:i<n
  ·have hltI:(i:Int)<(n:Int):=by omega
   obtain⟨a,ha⟩:=get_some (L:=L) (k:=i) (by rw [HN.out];exact hlt)
   obtain⟨b,hb⟩:=get_some (L:=Q) (k:=i) (by rw [HQn.out];exact hlt)
   obtain⟨a0,a1⟩:=Hbal.out a (List.mem_of_getElem? ha)
   obtain⟨b0,b1⟩:=HQb.out b (List.mem_of_getElem? hb)
   obtain⟨gQ,oQ,he,cQ0⟩:=(HQ.out.keeps hpi.kp (by simp)).int (k:= .i64) hb
   subst he
   have hex:=stepL_get (f:=fun x y=>x-y) (P:=Q) (by rw [HQn.out,HN.out]) ha
   have hst:=stepL_set (f:=fun x y=>x-y) (P:=Q) (by rw [HQn.out,HN.out]) ha hb
   have hS:r10S w.heap.size (.slice (some ⟨g,0,none⟩) n c) g i gQ (oQ+i) a b wq:=⟨cell_of_cells hpi.box 0,hpi.row.cell hex,cQ0⟩
   have hSd:=hS.keep (S:=fun _=>False) (Keeps.drew wq) (by simp) (by simp) (by simp)
   have hq1:IntKind.i64.wrap (a-b)=a-b:=IntWalk.i64_in _ ⟨by omega,by omega⟩
   have hnew:∀W,Keeps (fun _=>False) wq W→P11 w w.heap.size (w.heap.size+1) g c n (stepL (fun x y=>x-y) L Q (i+1)) cr du (W.setCell ⟨g,i,none⟩ (.int .i64 (a-b))):=fun W h=>by
    have:=(hpi.keep h).setrow hlt (a-b)
    rwa [hst] at this
   clear cQ0
   obtain⟨Hpi,Ha,Hb,Hex,Hst,HS,HSd,Hnew⟩:=hid8 hpi ha hb hex hst hS hSd hnew;clear hnew hSd hS hst hex hb ha hpi
   go_wp2_with fail
   refine wp_region_mixz (r10S w.heap.size (.slice (some ⟨g,0,none⟩) n c) g i gQ (oQ+i) a b) 14 (.take 0 (.take 1 (.take 2 (.take 3 (.take 4 (.take 5 (.take 6 (.take 7 (.take 8 (.take 9 (.take 10 (.take 11 (.take 12 (.take 13 (.move 14 .done))))))))))))))) (by kernel_rfl) (by kernel_rfl) ?_ ?_
   ·exact HSd.out
   intro w8 hs8 hk8
   have r8:=(Hpi.out.keep hk8).row
   have c8:=r8.cell Hex.out
   have f8:=r8.free i
   have l8:=r8.lt
   obtain⟨Hs8,Hk8,R8⟩:=hid3 hs8 hk8 r8;clear r8 hk8 hs8
   repeat (first
    |(refine mix_skip rfl (by rfl) ?_;try simp only [Act.put,List.setIfInBounds_toArray,List.set_cons_zero,List.set_cons_succ])
    |(refine mix_skipm rfl (by rfl) ?_;try simp only [Act.put,List.setIfInBounds_toArray,List.set_cons_zero,List.set_cons_succ])
    |(refine mix_take (v:= ?_) rfl (by rfl) ?_ ?_;rotate_left;(· intro w' hSw;unfold r10S at hSw;go_simp;(try with_reducible rfl));rotate_right;try simp only [Act.put,List.setIfInBounds_toArray,List.set_cons_zero,List.set_cons_succ]))
   refine mix_last rfl (fun K hK=> ?_)
   go_simp
   refine hK.out _ _ ?_
   clear hK K
   try simp only [Act.put,List.setIfInBounds_toArray,List.set_cons_zero,List.set_cons_succ]
   refine mix_done ?_
   have hn8:=Hnew.out _ Hk8.out
   clear c8 f8 l8
   have Hn8:=Lib.hid hn8;clear hn8
   go_wp2
   go_roundw
   case rel=>exact⟨i+1,by go_num,by omega,Hn8.out⟩
   case measure=>simp [intOf];omega
  ·obtain rfl:i=n:=by omega
   rw [stepL_full (by rw [HQn.out,HN.out]) HN.out,HZ.out] at hpi
   have b1:=cell_of_cells hpi.box 1
   have bf1:=free_of_cells hpi.box 1
   have bl:=lt_of_block hpi.box
   have hp3:=hpi.setcr (cr+x)
   obtain⟨Hpi,Hp3⟩:=hid2 hpi hp3;clear hp3 hpi
   go_upto_region 7 with fail
   obtain⟨W6,hW6⟩:∃y,y=wq.setCell ⟨w.heap.size,1,none⟩ (.int .i64 (cr+x)):=⟨_,rfl⟩
   have hp6:=Hp3.out
   rw [←hW6] at hp6⊢
   clear hW6 Hp3 b1 bf1 bl
   have b0:=cell_of_cells hp6.box 0
   have b1:=cell_of_cells hp6.box 1
   have b2:=cell_of_cells hp6.box 2
   have bl:=lt_of_block hp6.box
   have Hp6:=Lib.hid hp6;clear hp6
   rcases hb:Ps.rightB ⟨Z,cr+x,du⟩ with _|_
   ·have h:=HG.out
    rw [hb,if_neg (by decide)] at h
    subst h
    have Hb:=Lib.hid hb;clear hb
    go_wp2_with fail
    refine(Hri.out _ _ _ Hp6.out.row _ Hb.out).mono ?_
    rintro e w7 ⟨rfl,hk7⟩
    have hp7:=Hp6.out.keep hk7
    have hres:=hp7.res
    have hend:=P11.bad 5 hres hp7.kp hp7.hR
    clear b0 b1 b2 bl
    obtain⟨Hk7,Hp7⟩:=hid2 hk7 hp7;clear hp7 hk7
    have r0:=cell_of_cells hres 0
    have r1:=cell_of_cells hres 1
    have r2:=cell_of_cells hres 2
    have rf0:=free_of_cells hres 0
    have rf1:=free_of_cells hres 1
    have rf2:=free_of_cells hres 2
    have rl:=lt_of_block hres
    have sr0:=cell_of_cells hend.1 0
    have sr1:=cell_of_cells hend.1 1
    have sr2:=cell_of_cells hend.1 2
    have hgv:=hend.2
    obtain⟨Hres,Hend,Sr0,Sr1,Sr2,Hgv⟩:=hid6 hres hend sr0 sr1 sr2 hgv;clear hgv sr2 sr1 sr0 hend hres
    go_wp2
    have R0':=Sr0.out
    have R1':=Sr1.out
    have R2':=Sr2.out
    clear r0 r1 r2
    exact bodyPost_ret (v:= .tuple #[.agg #[.slice none 0 0, .int .i64 0, .int .i64 0], .int .i64 5]) (by simp [results,Tryz.results58,go_sem,R0',R1',R2']) rfl Hgv.out
   ·have h:=HG.out
    rw [hb,if_pos rfl] at h
    subst h
    have Hb:=Lib.hid hb;clear hb
    go_wp2_with fail
    refine(Hri.out _ _ _ Hp6.out.row _ Hb.out).mono ?_
    rintro e w7 ⟨rfl,hk7⟩
    have hp7:=Hp6.out.keep hk7
    have hres:=hp7.res
    have hend:=hp7.ok
    clear b0 b1 b2 bl
    have b0:=cell_of_cells hp7.box 0
    have b1:=cell_of_cells hp7.box 1
    have b2:=cell_of_cells hp7.box 2
    have bl:=lt_of_block hp7.box
    obtain⟨Hk7,Hp7⟩:=hid2 hk7 hp7;clear hp7 hk7
    have r0:=cell_of_cells hres 0
    have r1:=cell_of_cells hres 1
    have r2:=cell_of_cells hres 2
    have rf0:=free_of_cells hres 0
    have rf1:=free_of_cells hres 1
    have rf2:=free_of_cells hres 2
    have rl:=lt_of_block hres
    have sr0:=cell_of_cells hend.1 0
    have sr1:=cell_of_cells hend.1 1
    have sr2:=cell_of_cells hend.1 2
    have hgv:=hend.2
    obtain⟨Hres,Hend,Sr0,Sr1,Sr2,Hgv⟩:=hid6 hres hend sr0 sr1 sr2 hgv;clear hgv sr2 sr1 sr0 hend hres
    go_wp2
    have R0':=Sr0.out
    have R1':=Sr1.out
    have R2':=Sr2.out
    clear r0 r1 r2
    exact bodyPost_ret (v:= .tuple #[.agg #[.slice (some ⟨g,0,none⟩) i c, .int .i64 (cr+x), .int .i64 du], .int .i64 0]) (by simp [results,Tryz.results58,go_sem,R0',R1',R2']) rfl Hgv.out
theorem GivesP.up{w W W':World}{R:Nat}{p:Ps}{z:Int}{e:Ending}(h:GivesP p z W e W')(hk:Keeps (fun _=>False) w W)(hres:W.heap[R]?=some (.cells #[.slice none 0 0, .int .i64 0, .int .i64 0] 24 (0,0)))(hR:w.heap.size≤R):
  ∃a n c,e= .returned (.tuple #[.agg #[.slice a n c, .int .i64 p.cr, .int .i64 p.du], .int .i64 z])∧W'.heap[R]?=some (.cells #[.slice none 0 0, .int .i64 0, .int .i64 0] 24 (0,0))∧
   (((W'.setCell ⟨R,0,none⟩ (.slice a n c)).setCell ⟨R,1,none⟩ (.int .i64 p.cr)).setCell ⟨R,2,none⟩ (.int .i64 p.du)).heap[R]?=some (.cells #[.slice a n c, .int .i64 p.cr, .int .i64 p.du] 24 (0,0))∧
   GivesP p z w (.returned (.tuple #[.agg #[.slice a n c, .int .i64 p.cr, .int .i64 p.du], .int .i64 z])) (((W'.setCell ⟨R,0,none⟩ (.slice a n c)).setCell ⟨R,1,none⟩ (.int .i64 p.cr)).setCell ⟨R,2,none⟩ (.int .i64 p.du)):=by
 obtain⟨v,rfl,hrow,hf⟩:=h
 obtain⟨ad,c,rfl,_,_⟩:=ownsRow_shape hrow
 have hlt:=lt_of_block hres
 have hres':=box_old hres hf.1 (by simp)
 obtain⟨h1,k⟩:=store3 hres' (.slice ad p.bal.length c) (.int .i64 p.cr) (.int .i64 p.du)
 refine⟨ad,_,c,rfl,hres',h1,_,rfl, ?_, ?_, ?_⟩
 ·exact k.row hrow (fun g hg e=>by have:=hf.2 g hg;omega)
 ·exact(hk.nt hf.1).trans (k.mono fun i _ e=> .inr (by subst e;exact hR))
 ·intro g hg
  have:=hf.2 g hg
  have:=hk.size
  omega
set_option maxHeartbeats 1600000
theorem r11Charge_any(L:List Int)(cr du k a:Int)(ad:Option Addr)(cap n:Nat)(w:World)(hr:Reads w 1 (.slice ad n cap) n (L.flatMap i64c))(hN:L.length=n)(hl:n≤1000):
  Calls Tryz.prog 30 #[.agg #[.slice ad n cap, .int .i64 cr, .int .i64 du], .int .i64 k, .int .i64 a] w (GivesP (chargeR ⟨L,cr,du⟩ k a).1 (chargeR ⟨L,cr,du⟩ k a).2 w):=by
 obtain⟨z,hz⟩:∃z,askE ⟨L,cr,du⟩ [k] a=z:=⟨_,rfl⟩
 have hask:=fun(W:World) (hW:Keeps (fun _=>False) w W)=>r11asked_any L cr du a k ad cap n W (hr.keeps hW (by simp)) hN hl
 rw [hz] at hask
 unfold chargeR
 rw [hz]
 by_cases h0:z=0
 ·subst h0
  rw [if_pos rfl]
  obtain⟨hright,htr,hmon⟩:=askE_zero hz
  have hkk:1≤k∧k≤n:=by simpa [trB,hN] using htr
  have hadd:=fun W (hW:Keeps (fun _=>False) w W)=>r11add_any L cr du k a ad cap n W (hr.keeps hW (by simp)) hN hl hright hkk hmon
  obtain⟨⟨q,z⟩,hG⟩:∃G:Ps×Int,(if(chargeP ⟨L,cr,du⟩ k a).rightB=true then(chargeP ⟨L,cr,du⟩ k a,(0:Int)) else(ps0,5))=G:=⟨_,rfl⟩
  rw [hG] at hadd⊢
  simp only at hadd⊢
  obtain⟨Hr,Hask,Hadd,Hz,Hright,Htr,Hmon,Hkk,HG⟩:=hid9 hr hask hadd hz hright htr hmon hkk hG;clear hG hkk hmon htr hright hz hadd hask hr
  go_enter Tryz.func30,Tryz.ntmps30
  go_wp2_with fail
  refine(Hask.out _ (by(repeat (first|exact Keeps.refl _ _|exact Keeps.alloc _ _|exact Keeps.drew _|exact Keeps.drewN _ _|refine Keeps.trans_drew ?_|refine Keeps.trans_drewN ?_|refine Keeps.trans_alloc ?_)))).mono ?_
  rintro e w1 ⟨rfl,hk1⟩
  have hbx:=box_old (box_alloc (heap_alloc_new w (.cells #[.slice ad n cap, .int .i64 cr, .int .i64 du] 24)) (.cells #[.slice none 0 0, .int .i64 0, .int .i64 0] 24)) hk1 (by simp)
  have hrs:w1.heap[w.heap.size+1]?=some (.cells #[.slice none 0 0, .int .i64 0, .int .i64 0] 24 (0,0)):=box_old (halloc_at2 _ _ (by simp)) hk1 (by simp)
  have hkw:=((Keeps.alloc w (.cells #[.slice ad n cap, .int .i64 cr, .int .i64 du] 24)).nt (Keeps.alloc _ (.cells #[.slice none 0 0, .int .i64 0, .int .i64 0] 24))).nt hk1
  have b0:=cell_of_cells hbx 0
  have b1:=cell_of_cells hbx 1
  have b2:=cell_of_cells hbx 2
  have bl:=lt_of_block hbx
  obtain⟨Hbx,Hrs,Hkw,Hk1⟩:=hid4 hbx hrs hkw hk1;clear hk1 hkw hrs hbx
  go_wp2_with fail
  refine(Hadd.out _ Hkw.out).mono ?_
  intro e w2 hg
  obtain⟨a2,n2,c2,rfl,hres,hend⟩:=hg.up Hkw.out Hrs.out (by omega)
  clear hg b0 b1 b2 bl
  have r0:=cell_of_cells hres 0
  have r1:=cell_of_cells hres 1
  have r2:=cell_of_cells hres 2
  have rf0:=free_of_cells hres 0
  have rf1:=free_of_cells hres 1
  have rf2:=free_of_cells hres 2
  have rl:=lt_of_block hres
  have sr0:=cell_of_cells hend.1 0
  have sr1:=cell_of_cells hend.1 1
  have sr2:=cell_of_cells hend.1 2
  have hgv:=hend.2
  obtain⟨Hres,Hend,Sr0,Sr1,Sr2,Hgv⟩:=hid6 hres hend sr0 sr1 sr2 hgv;clear hgv sr2 sr1 sr0 hend hres
  go_wp2
  have R0':=Sr0.out
  have R1':=Sr1.out
  have R2':=Sr2.out
  clear r0 r1 r2
  exact bodyPost_ret (v:= .tuple #[.agg #[.slice a2 n2 c2, .int .i64 q.cr, .int .i64 q.du], .int .i64 z]) (by simp [results,Tryz.results30,go_sem,R0',R1',R2']) rfl Hgv.out
 ·rw [if_neg h0]
  have hne:decide (z=0)=false:=by rw [decide_eq_false_iff_not];exact h0
  obtain⟨Hr,Hask,Hz⟩:=hid3 hr hask hz;clear hz hask hr
  go_enter Tryz.func30,Tryz.ntmps30
  go_wp2_with fail
  refine(Hask.out _ (by(repeat (first|exact Keeps.refl _ _|exact Keeps.alloc _ _|exact Keeps.drew _|exact Keeps.drewN _ _|refine Keeps.trans_drew ?_|refine Keeps.trans_drewN ?_|refine Keeps.trans_alloc ?_)))).mono ?_
  rintro e w1 ⟨rfl,hk1⟩
  have hres:w1.heap[w.heap.size+1]?=some (.cells #[.slice none 0 0, .int .i64 0, .int .i64 0] 24 (0,0)):=box_old (halloc_at2 _ _ (by simp)) hk1 (by simp)
  have hkw:=((Keeps.alloc w (.cells #[.slice ad n cap, .int .i64 cr, .int .i64 du] 24)).nt (Keeps.alloc _ (.cells #[.slice none 0 0, .int .i64 0, .int .i64 0] 24))).nt hk1
  have hend:=P11.bad z hres hkw (by omega)
  obtain⟨Hkw,Hk1⟩:=hid2 hkw hk1;clear hk1 hkw
  have r0:=cell_of_cells hres 0
  have r1:=cell_of_cells hres 1
  have r2:=cell_of_cells hres 2
  have rf0:=free_of_cells hres 0
  have rf1:=free_of_cells hres 1
  have rf2:=free_of_cells hres 2
  have rl:=lt_of_block hres
  have sr0:=cell_of_cells hend.1 0
  have sr1:=cell_of_cells hend.1 1
  have sr2:=cell_of_cells hend.1 2
  have hgv:=hend.2
  obtain⟨Hres,Hend,Sr0,Sr1,Sr2,Hgv⟩:=hid6 hres hend sr0 sr1 sr2 hgv;clear hgv sr2 sr1 sr0 hend hres
  go_wp2
  have R0':=Sr0.out
  have R1':=Sr1.out
  have R2':=Sr2.out
  clear r0 r1 r2
  exact bodyPost_ret (v:= .tuple #[.agg #[.slice none 0 0, .int .i64 0, .int .i64 0], .int .i64 z]) (by simp [results,Tryz.results30,go_sem,R0',R1',R2']) rfl Hgv.out
set_option maxHeartbeats 3200000
theorem r11Pay_any(L R:List Int)(cr du a:Int)(ad adR:Option Addr)(cap cR n:Nat)(w:World)(hr:Reads w 1 (.slice ad n cap) n (L.flatMap i64c))(hN:L.length=n)(hl:n≤1000)(hR:Reads w 1 (.slice adR n cR) n (R.flatMap i64c))(hRn:R.length=n):
  Calls Tryz.prog 31 #[.agg #[.slice ad n cap, .int .i64 cr, .int .i64 du], .slice adR n cR, .int .i64 a] w (GivesP (payR ⟨L,cr,du⟩ R a).1 (payR ⟨L,cr,du⟩ R a).2 w):=by
 rcases hb:Ps.rightB ⟨L,cr,du⟩ with _|_
 ·have hri:=fun W (hW:Keeps (fun _=>False) w W)=>r11Right_at L cr du ad cap n W (hr.keeps hW (by simp)) hN hl _ hb
  have hz:payR ⟨L,cr,du⟩ R a=(ps0,1):=by unfold payR askE;simp [hb]
  rw [hz]
  simp only
  obtain⟨Hr,HR,Hri,Hb,Hz⟩:=hid5 hr hR hri hb hz;clear hz hb hri hR hr
  go_enter Tryz.func31,Tryz.ntmps31
  go_wp2_with fail
  refine(Hri.out _ (by(repeat (first|exact Keeps.refl _ _|exact Keeps.alloc _ _|exact Keeps.drew _|exact Keeps.drewN _ _|refine Keeps.trans_drew ?_|refine Keeps.trans_drewN ?_|refine Keeps.trans_alloc ?_)))).mono ?_
  rintro e w1 ⟨rfl,hk1⟩
  have hres:w1.heap[w.heap.size+1]?=some (.cells #[.slice none 0 0, .int .i64 0, .int .i64 0] 24 (0,0)):=box_old (halloc_at2 _ _ (by simp)) hk1 (by simp)
  have hkw:=((Keeps.alloc w (.cells #[.slice ad n cap, .int .i64 cr, .int .i64 du] 24)).nt (Keeps.alloc _ (.cells #[.slice none 0 0, .int .i64 0, .int .i64 0] 24))).nt hk1
  have hend:=P11.bad 1 hres hkw (by omega)
  obtain⟨Hkw,Hk1⟩:=hid2 hkw hk1;clear hk1 hkw
  have r0:=cell_of_cells hres 0
  have r1:=cell_of_cells hres 1
  have r2:=cell_of_cells hres 2
  have rf0:=free_of_cells hres 0
  have rf1:=free_of_cells hres 1
  have rf2:=free_of_cells hres 2
  have rl:=lt_of_block hres
  have sr0:=cell_of_cells hend.1 0
  have sr1:=cell_of_cells hend.1 1
  have sr2:=cell_of_cells hend.1 2
  have hgv:=hend.2
  obtain⟨Hres,Hend,Sr0,Sr1,Sr2,Hgv⟩:=hid6 hres hend sr0 sr1 sr2 hgv;clear hgv sr2 sr1 sr0 hend hres
  go_wp2
  have R0':=Sr0.out
  have R1':=Sr1.out
  have R2':=Sr2.out
  clear r0 r1 r2
  exact bodyPost_ret (v:= .tuple #[.agg #[.slice none 0 0, .int .i64 0, .int .i64 0], .int .i64 1]) (by simp [results,Tryz.results31,go_sem,R0',R1',R2']) rfl Hgv.out
 ·have hri:=fun W (hW:Keeps (fun _=>False) w W)=>r11Right_at L cr du ad cap n W (hr.keeps hW (by simp)) hN hl _ hb
  rcases hmon:moneyP a with _|_
  ·have hz:payR ⟨L,cr,du⟩ R a=(ps0,8):=by unfold payR askE;simp [hb,hmon]
   rw [hz]
   simp only
   obtain⟨Hr,HR,Hri,Hb,Hz⟩:=hid5 hr hR hri hb hz;clear hz hb hri hR hr
   go_enter Tryz.func31,Tryz.ntmps31
   go_wp2_with fail
   refine(Hri.out _ (by(repeat (first|exact Keeps.refl _ _|exact Keeps.alloc _ _|exact Keeps.drew _|exact Keeps.drewN _ _|refine Keeps.trans_drew ?_|refine Keeps.trans_drewN ?_|refine Keeps.trans_alloc ?_)))).mono ?_
   rintro e w1 ⟨rfl,hk1⟩
   have hres:w1.heap[w.heap.size+1]?=some (.cells #[.slice none 0 0, .int .i64 0, .int .i64 0] 24 (0,0)):=box_old (halloc_at2 _ _ (by simp)) hk1 (by simp)
   have hkw:=((Keeps.alloc w (.cells #[.slice ad n cap, .int .i64 cr, .int .i64 du] 24)).nt (Keeps.alloc _ (.cells #[.slice none 0 0, .int .i64 0, .int .i64 0] 24))).nt hk1
   have hend:=P11.bad 8 hres hkw (by omega)
   obtain⟨Hkw,Hk1⟩:=hid2 hkw hk1;clear hk1 hkw
   go_wp2_with fail
   refine(r11may_at hmon _).mono ?_
   rintro e w2 ⟨rfl,rfl⟩
   have r0:=cell_of_cells hres 0
   have r1:=cell_of_cells hres 1
   have r2:=cell_of_cells hres 2
   have rf0:=free_of_cells hres 0
   have rf1:=free_of_cells hres 1
   have rf2:=free_of_cells hres 2
   have rl:=lt_of_block hres
   have sr0:=cell_of_cells hend.1 0
   have sr1:=cell_of_cells hend.1 1
   have sr2:=cell_of_cells hend.1 2
   have hgv:=hend.2
   obtain⟨Hres,Hend,Sr0,Sr1,Sr2,Hgv⟩:=hid6 hres hend sr0 sr1 sr2 hgv;clear hgv sr2 sr1 sr0 hend hres
   go_wp2
   have R0':=Sr0.out
   have R1':=Sr1.out
   have R2':=Sr2.out
   clear r0 r1 r2
   exact bodyPost_ret (v:= .tuple #[.agg #[.slice none 0 0, .int .i64 0, .int .i64 0], .int .i64 8]) (by simp [results,Tryz.results31,go_sem,R0',R1',R2']) rfl Hgv.out
  ·obtain⟨hbal,hcr,hdu,hn1,hn8⟩:=right_nums hb
   simp only at hbal hcr hdu hn1 hn8
   rw [hN] at hn1 hn8
   have ham:=(moneyP_iff a).1 hmon
   have hall:L.all moneyP=true:=List.all_eq_true.2 fun x hx=>(moneyP_iff x).2 (hbal x hx)
   have hpay:=fun W (hW:Keeps (fun _=>False) w W)=>r10Pay_any L R cr du a ad adR cap cR n W (hr.keeps hW (by simp)) hN (hR.keeps hW (by simp)) hRn hall ((moneyP_iff cr).2 hcr) ((moneyP_iff du).2 hdu) hmon hn8
   have hpb:=payL_bd (R:=R) hbal hdu ham (by omega)
   have hz:payR ⟨L,cr,du⟩ R a=if Ps.rightB (payP ⟨L,cr,du⟩ R a)=true then(payP ⟨L,cr,du⟩ R a,0) else(ps0,5):=by unfold payR askE;simp [hb,hmon]
   rw [hz]
   unfold payP
   simp only
   obtain⟨⟨p,m,rest⟩,hp⟩:∃p,payL L R du a=p:=⟨_,rfl⟩
   rw [hp] at hpay hpb⊢
   simp only at hpay hpb⊢
   obtain⟨hpe,⟨m0,m1⟩,ht,hpl⟩:=hpb
   rw [hN] at hpl
   obtain⟨cr0,cr1⟩:=id hcr
   obtain⟨du0,du1⟩:=hdu
   have hpm:∀x∈p,0≤x∧x≤2000000000000000:=fun x hx=>by
    obtain⟨j,hj⟩:=List.getElem?_of_mem hx
    exact hpe j x hj
   have hless:=fun W g (hW:Keeps (fun _=>False) w W) (hg:RowZ W 2 g n n p)=>r11less_any L p cr (du-m) rest ad (some ⟨g,0,none⟩) cap n n W (hr.keeps hW (by simp)) hN hl hn1 hg.reads hpl hbal hpm hcr ht
   obtain⟨⟨q,z⟩,hG⟩:∃G:Ps×Int,(if Ps.rightB ⟨List.zipWith (fun x y=>x-y) L p,cr+rest,du-m⟩=true then((⟨List.zipWith (fun x y=>x-y) L p,cr+rest,du-m⟩:Ps),(0:Int)) else(ps0,5))=G:=⟨_,rfl⟩
   rw [hG] at hless⊢
   simp only at hless⊢
   have q7:IntKind.i64.wrap (du-m)=du-m:=IntWalk.i64_in _ ⟨by omega,by omega⟩
   obtain⟨Hr,HR,Hri,Hb,Hz,Hbal,Hcr,Hall,Hpay⟩:=hid9 hr hR hri hb hz hbal hcr hall hpay;clear hpay hall hcr hbal hz hb hri hR hr;obtain⟨Hless,Hpe,Ht,Hpl,Hpm,HG,Hp⟩:=hid7 hless hpe ht hpl hpm hG hp;clear hp hG hpm hpl ht hpe hless
   go_enter Tryz.func31,Tryz.ntmps31
   go_wp2_with fail
   refine(Hri.out _ (by(repeat (first|exact Keeps.refl _ _|exact Keeps.alloc _ _|exact Keeps.drew _|exact Keeps.drewN _ _|refine Keeps.trans_drew ?_|refine Keeps.trans_drewN ?_|refine Keeps.trans_alloc ?_)))).mono ?_
   rintro e w1 ⟨rfl,hk1⟩
   have hbx:=box_old (box_alloc (heap_alloc_new w (.cells #[.slice ad n cap, .int .i64 cr, .int .i64 du] 24)) (.cells #[.slice none 0 0, .int .i64 0, .int .i64 0] 24)) hk1 (by simp)
   have hrs:w1.heap[w.heap.size+1]?=some (.cells #[.slice none 0 0, .int .i64 0, .int .i64 0] 24 (0,0)):=box_old (halloc_at2 _ _ (by simp)) hk1 (by simp)
   have hkw:=((Keeps.alloc w (.cells #[.slice ad n cap, .int .i64 cr, .int .i64 du] 24)).nt (Keeps.alloc _ (.cells #[.slice none 0 0, .int .i64 0, .int .i64 0] 24))).nt hk1
   have b0:=cell_of_cells hbx 0
   have b1:=cell_of_cells hbx 1
   have b2:=cell_of_cells hbx 2
   have bl:=lt_of_block hbx
   obtain⟨Hbx,Hrs,Hkw,Hk1⟩:=hid4 hbx hrs hkw hk1;clear hk1 hkw hrs hbx
   go_wp2_with fail
   refine(r11may_at hmon _).mono ?_
   rintro e w2 ⟨rfl,rfl⟩
   go_wp2_with fail
   refine(Hpay.out _ Hkw.out).mono ?_
   rintro e w3 ⟨g,rfl,hrow,hk3,hg3⟩
   have hbx3:=box_old Hbx.out hk3 (by simp)
   have hrs3:=box_old Hrs.out hk3 (by simp)
   have hkw3:=Hkw.out.nt hk3
   have hgT:¬w.heap.size=g:=by have:=lt_of_block Hrs.out;omega
   clear b0 b1 b2 bl
   have b2:=cell_of_cells hbx3 2
   have bf2:=free_of_cells hbx3 2
   have bl:=lt_of_block hbx3
   obtain⟨Hbx3,Hrs3,Hkw3,Hrow,Hk3,Hg3,HgT⟩:=hid7 hbx3 hrs3 hkw3 hrow hk3 hg3 hgT;clear hgT hg3 hk3 hrow hkw3 hrs3 hbx3
   go_upto_region 9 with fail
   have k4:Keeps (fun i=>i=w.heap.size) w3 (w3.setCell ⟨w.heap.size,2,none⟩ (.int .i64 (du-m))):=Keeps.setCell _ _ _ rfl
   obtain⟨w4,hw4⟩:∃y,y=w3.setCell ⟨w.heap.size,2,none⟩ (.int .i64 (du-m)):=⟨_,rfl⟩
   have hbx4:w4.heap[w.heap.size]?=some (.cells #[.slice ad n cap, .int .i64 cr, .int .i64 (du-m)] 24 (0,0)):=by rw [hw4];exact(heap_setCell_same _ _ 2 _ _ _ Hbx3.out).trans rfl
   rw [←hw4] at k4⊢
   have hrs4:=box_old Hrs3.out k4 (by omega)
   have hkw4:=Hkw3.out.trans (k4.mono fun i _ e=> .inr (by omega))
   have hrow4:RowZ w4 2 g n n p:=⟨k4.row Hrow.out.1 (fun g' hg' e=>by have:=own_ne hg';have:=HgT.out;omega),Hrow.out.2⟩
   clear b2 bf2 bl hw4 k4
   have b0:=cell_of_cells hbx4 0
   have b1:=cell_of_cells hbx4 1
   have b2:=cell_of_cells hbx4 2
   have bl:=lt_of_block hbx4
   obtain⟨Hbx4,Hrs4,Hkw4,Hrow4⟩:=hid4 hbx4 hrs4 hkw4 hrow4;clear hrow4 hkw4 hrs4 hbx4
   go_wp2_with fail
   refine(Hless.out _ _ Hkw4.out Hrow4.out).mono ?_
   intro e w5 hg
   obtain⟨a2,n2,c2,rfl,hres,hend⟩:=hg.up Hkw4.out Hrs4.out (by omega)
   clear hg b0 b1 b2 bl
   have r0:=cell_of_cells hres 0
   have r1:=cell_of_cells hres 1
   have r2:=cell_of_cells hres 2
   have rf0:=free_of_cells hres 0
   have rf1:=free_of_cells hres 1
   have rf2:=free_of_cells hres 2
   have rl:=lt_of_block hres
   have sr0:=cell_of_cells hend.1 0
   have sr1:=cell_of_cells hend.1 1
   have sr2:=cell_of_cells hend.1 2
   have hgv:=hend.2
   obtain⟨Hres,Hend,Sr0,Sr1,Sr2,Hgv⟩:=hid6 hres hend sr0 sr1 sr2 hgv;clear hgv sr2 sr1 sr0 hend hres
   go_wp2
   have R0':=Sr0.out
   have R1':=Sr1.out
   have R2':=Sr2.out
   clear r0 r1 r2
   exact bodyPost_ret (v:= .tuple #[.agg #[.slice a2 n2 c2, .int .i64 q.cr, .int .i64 q.du], .int .i64 z]) (by simp [results,Tryz.results31,go_sem,R0',R1',R2']) rfl Hgv.out
theorem intoS_skip{B:List Int}{k b mn:Int}{i n:Nat}(hi:(i:Int)=k-1)(hin:i<n)(hBn:B.length=n)(hB:∀x∈B,0≤x)(hb:B.getD i 0=b)(hmb:0≤b-mn):
  ∀(O:List Int) (u:List Int) (r:Int),(∀x∈O,1≤x∧x≤n)→0≤r→(b-mn=0∨r=0)→u[i]?=some 0→u.length=n→
  intoS B (O.filter (fun x=>decide (x≠k))) (u.set i mn,r)=((intoS (B.set i (b-mn)) O (u,r)).1.set i mn,(intoS (B.set i (b-mn)) O (u,r)).2)∧(intoS (B.set i (b-mn)) O (u,r)).1[i]?=some 0:=by
 intro O
 induction O with
 |nil=>intro u r _ _ _ hu _;exact⟨rfl,hu⟩
 |cons x O ih=>
  intro u r hO hr0 hor hu hul
  have hx:=hO x (List.mem_cons_self ..)
  have hO':∀y∈O,1≤y∧y≤n:=fun y hy=>hO y (List.mem_cons_of_mem _ hy)
  by_cases hxk:x=k
  ·subst hxk
   have hidx:(x-1).toNat=i:=by omega
   have hg:(B.set i (b-mn)).getD i 0=b-mn:=by
    rw [List.getD_eq_getElem?_getD,List.getElem?_set_self (by omega)];rfl
   have hmin:minI r (b-mn)=0:=by unfold minI;split<;>omega
   have hset:u.set i 0=u:=by
    apply List.ext_getElem?
    intro j
    rw [List.getElem?_set]
    split
    ·rename_i h
     subst h
     rw [if_pos (by omega),hu]
    ·rfl
   have hf:(x::O).filter (fun y=>decide (y≠x))=O.filter (fun y=>decide (y≠x)):=by simp
   rw [hf]
   have hs:intoS (B.set i (b-mn)) (x::O) (u,r)=intoS (B.set i (b-mn)) O (u,r):=by
    conv=>lhs;unfold intoS
    simp only
    rw [hidx,hg,hmin,hset,Int.sub_zero]
   rw [hs]
   exact ih u r hO' hr0 hor hu hul
  ·obtain⟨j,hj⟩:∃j:Nat,(j:Int)=x-1:=⟨(x-1).toNat,by omega⟩
   have hidx:(x-1).toNat=j:=by omega
   have hji:¬i=j:=by omega
   have hg:(B.set i (b-mn)).getD j 0=B.getD j 0:=by
    rw [List.getD_eq_getElem?_getD,List.getD_eq_getElem?_getD,List.getElem?_set_ne hji]
   have hf:(x::O).filter (fun y=>decide (y≠k))=x::O.filter (fun y=>decide (y≠k)):=by simp [hxk]
   rw [hf]
   have hBj:0≤B.getD j 0:=by
    rw [List.getD_eq_getElem?_getD]
    rcases h:B[j]? with _|y
    ·simp
    ·exact hB y (List.mem_of_getElem? h)
   obtain⟨q,hq⟩:∃q,minI r (B.getD j 0)=q:=⟨_,rfl⟩
   have hq0:0≤q∧q≤r:=by rw [←hq];unfold minI;split<;>omega
   have hs:intoS (B.set i (b-mn)) (x::O) (u,r)=intoS (B.set i (b-mn)) O (u.set j q,r-q):=by
    conv=>lhs;unfold intoS
    simp only
    rw [hidx,hg,hq]
   have hs2:intoS B (x::O.filter (fun y=>decide (y≠k))) (u.set i mn,r)=intoS B (O.filter (fun y=>decide (y≠k))) ((u.set j q).set i mn,r-q):=by
    conv=>lhs;unfold intoS
    simp only
    rw [hidx,hq,List.set_comm _ _ hji]
   rw [hs,hs2]
   exact ih (u.set j q) (r-q) hO' (by omega) (by omega) (by rw [List.getElem?_set_ne (fun e=>hji e.symm)];exact hu) (by simpa using hul)
theorem zip_add_set{n i:Nat}{mn:Int}:∀{u:List Int},u.length=n→u[i]?=some 0→i<n→List.zipWith (fun x y=>x+y) ((List.replicate n 0).set i mn) u=u.set i mn:=by
 intro u hu h0 hi
 apply List.ext_getElem?
 intro j
 rw [List.getElem?_zipWith,List.getElem?_set,List.getElem?_set]
 by_cases hj:i=j
 ·subst hj
  rw [if_pos rfl,if_pos rfl,if_pos (by simpa using hi),if_pos (by omega),h0]
  simp
 ·rw [if_neg hj,if_neg hj,List.getElem?_replicate]
  by_cases hjn:j<n
  ·rw [if_pos hjn]
   obtain⟨y,hy⟩:=get_some (L:=u) (k:=j) (by omega)
   rw [hy]
   simp
  ·rw [if_neg hjn,List.getElem?_eq_none (by omega)]
theorem give_doc{B O:List Int}{k a:Int}{i n:Nat}(hi:(i:Int)=k-1)(hin:i<n)(hBn:B.length=n)(hB:∀x∈B,0≤x)(hO:∀x∈O,1≤x∧x≤n)(ha:0≤a):
  intoL B (giveO k O) a=(List.zipWith (fun x y=>x+y) ((List.replicate n 0).set i (minI a (B.getD i 0))) (intoL (B.set i (B.getD i 0-minI a (B.getD i 0))) O (a-minI a (B.getD i 0))).1,(intoL (B.set i (B.getD i 0-minI a (B.getD i 0))) O (a-minI a (B.getD i 0))).2):=by
 obtain⟨b,hb⟩:∃b,B.getD i 0=b:=⟨_,rfl⟩
 have hb0:0≤b:=by
  rw [←hb,List.getD_eq_getElem?_getD,List.getElem?_eq_getElem (by omega)]
  exact hB _ (List.getElem_mem _)
 obtain⟨mn,hmn⟩:∃m,minI a b=m:=⟨_,rfl⟩
 have hm:0≤mn∧mn≤a∧mn≤b∧(b-mn=0∨a-mn=0):=by rw [←hmn];unfold minI;split<;>omega
 have hidx:(k-1).toNat=i:=by omega
 obtain⟨h1,h2⟩:=intoS_skip hi hin hBn hB hb (by omega) O (List.replicate n 0) (a-mn) hO (by omega) hm.2.2.2 (by rw [List.getElem?_replicate,if_pos hin]) (by simp)
 rw [hb,hmn]
 have e1:intoL B (giveO k O) a=intoS B (O.filter (fun x=>decide (x≠k))) ((List.replicate n 0).set i mn,a-mn):=by
  unfold intoL giveO
  conv=>lhs;unfold intoS
  simp only
  rw [hidx,hb,hmn,hBn]
 have e2:intoL (B.set i (b-mn)) O (a-mn)=intoS (B.set i (b-mn)) O (List.replicate n 0,a-mn):=by
  unfold intoL
  rw [List.length_set,hBn]
 rw [e1,e2,h1]
 have hlen:(intoS (B.set i (b-mn)) O (List.replicate n 0,a-mn)).1.length=n:=by rw [intoS_length];simp
 rw [zip_add_set hlen h2 hin]
set_option maxHeartbeats 6400000
theorem r11Give_ok(L R:List Int)(cr du k a:Int)(ad adR:Option Addr)(cap cR n:Nat)(w:World)(hr:Reads w 1 (.slice ad n cap) n (L.flatMap i64c))(hN:L.length=n)(hl:n≤1000)(hR:Reads w 1 (.slice adR n cR) n (R.flatMap i64c))(hRn:R.length=n)(hz:askE ⟨L,cr,du⟩ [k] a=0):
  Calls Tryz.prog 32 #[.agg #[.slice ad n cap, .int .i64 cr, .int .i64 du], .slice adR n cR, .int .i64 k, .int .i64 a] w (GivesP (giveR ⟨L,cr,du⟩ R k a).1 (giveR ⟨L,cr,du⟩ R k a).2 w):=by
 obtain⟨i0,hi,hi0,hi1,hi2⟩:=info_parts info_tInt64
 have hask:=fun(W:World) (hW:Keeps (fun _=>False) w W)=>r11asked_any L cr du a k ad cap n W (hr.keeps hW (by simp)) hN hl
 rw [hz] at hask
 unfold giveR
 rw [hz,if_pos rfl]
 obtain⟨hright,htr,hmon⟩:=askE_zero hz
 obtain⟨hbal,hcr,hdu,hn1,hn8⟩:=right_nums hright
 simp only at hbal hcr hdu hn1 hn8
 rw [hN] at hn1 hn8
 obtain⟨k1,k2⟩:1≤k∧k≤n:=by simpa [trB,hN] using htr
 obtain⟨a0,a1⟩:=(moneyP_iff a).1 hmon
 obtain⟨j,hj⟩:∃j:Nat,(j:Int)=k-1:=⟨(k-1).toNat,by omega⟩
 have hjn:j<n:=by omega
 have hjN:(k-1).toNat=j:=by omega
 obtain⟨b,hb⟩:=get_some (L:=L) (k:=j) (by omega)
 obtain⟨b0,b1⟩:=hbal b (List.mem_of_getElem? hb)
 obtain⟨m,hm⟩:∃m,minI a b=m:=⟨_,rfl⟩
 have hm2:0≤m∧m≤a∧m≤b:=by rw [←hm];unfold minI;split<;>omega
 obtain⟨m0,m1,m2⟩:=hm2
 have hbD:L.getD j 0=b:=by rw [List.getD_eq_getElem?_getD,hb];rfl
 have hokH:=rank_ok true hRn
 have hdoc:=give_doc (B:=L) (O:=rankL true R) (a:=a) hj hjn hN (fun x hx=>(hbal x hx).1) hokH.ok a0
 rw [hbD,hm] at hdoc
 have hordG:=giveO_ok hokH ⟨k1,k2⟩
 have hGb:=intoL_bd (B:=L) (O:=giveO k (rankL true R)) (a:=a) (fun x hx=>(hbal x hx).1) a0 (by rw [hN];exact hordG.ok)
 have hGl:=intoL_length L (giveO k (rankL true R)) a
 obtain⟨u,r,hu⟩:∃u r,intoL (L.set j (b-m)) (rankL true R) (a-m)=(u,r):=⟨_,_,rfl⟩
 rw [hu] at hdoc
 simp only at hdoc
 obtain⟨Q,hQ⟩:∃Q,List.zipWith (fun x y:Int=>x+y) ((List.replicate n 0).set j m) u=Q:=⟨_,rfl⟩
 rw [hQ] at hdoc
 rw [hdoc] at hGb hGl
 simp only at hGb hGl
 obtain⟨r0,r1,hQe⟩:=hGb
 rw [hN] at hGl
 have hLs:(L.set j (b-m)).length=n:=by rw [List.length_set];exact hN
 have hLsb:∀x∈L.set j (b-m),0≤x∧x≤1000000000000000:=fun x hx=>by
  rcases List.mem_or_eq_of_mem_set hx with h|h
  ·exact hbal x h
  ·omega
 have hLm:(L.set j (b-m)).all moneyP=true:=List.all_eq_true.2 fun x hx=>(moneyP_iff x).2 (hLsb x hx)
 have hub:=intoL_bd (B:=L.set j (b-m)) (O:=rankL true R) (a:=a-m) (fun x hx=>(hLsb x hx).1) (by omega) (by rw [hLs];exact hokH.ok)
 have hul:=intoL_length (L.set j (b-m)) (rankL true R) (a-m)
 rw [hu] at hub hul
 simp only at hub hul
 obtain⟨_,_,hue⟩:=hub
 rw [hLs] at hul
 have ham:moneyP (a-m)=true:=(moneyP_iff _).2 ⟨by omega,by omega⟩
 have hrk:=rankL_length true R
 rw [hRn] at hrk
 have hQb:∀x∈Q,0≤x∧x≤2000000000000000:=fun x hx=>by
  obtain⟨i,hi⟩:=List.getElem?_of_mem hx
  have:=p1bd hQe hbal hi
  omega
 have hhigh:=fun W (hW:Keeps (fun _=>False) w W)=>r09High_any R adR cR n W (hR.keeps hW (by simp)) hRn (by omega)
 have hin:=fun W (ad:Option Addr) (c g cg:Nat) (hr:RowZ W 2 g n cg (L.set j (b-m))) (hO:Reads W 1 (.slice ad n c) n ((rankL true R).flatMap i64c))=>r10Into_any (L.set j (b-m)) (rankL true R) (a-m) (some ⟨g,0,none⟩) ad cg c n n W hr.reads hLs hO hrk hLm ham hokH (by omega) (by omega)
 rw [hu] at hin
 simp only at hin
 have hless:=fun W g (hW:Keeps (fun _=>False) w W) (hg:RowZ W 2 g n n Q)=>r11less_any L Q cr du r ad (some ⟨g,0,none⟩) cap n n W (hr.keeps hW (by simp)) hN hl hn1 hg.reads hGl hbal hQb hcr ⟨r0,by omega⟩
 unfold giveP
 simp only
 rw [hdoc]
 simp only
 obtain⟨⟨q,z⟩,hG⟩:∃G:Ps×Int,(if Ps.rightB ⟨List.zipWith (fun x y=>x-y) L Q,cr+r,du⟩=true then((⟨List.zipWith (fun x y=>x-y) L Q,cr+r,du⟩:Ps),(0:Int)) else(ps0,5))=G:=⟨_,rfl⟩
 rw [hG] at hless⊢
 simp only at hless⊢
 have hmk:=fun(W:World)=>run_makeSlice (P:=Tryz.prog) W 22 2 i0 (.int .i64 0) Tryz.underlying22 hi hi0 .i64 .i64 (n:Int) (n:Int) (by omega) (by omega) (by rw [hi1];omega) (by rw [hi2];omega) (by omega)
 simp only [Int.toNat_natCast,hi1,Nat.mul_one] at hmk
 obtain⟨Z,hZ⟩:∃Z,Z=madeCells (Value.int .i64 0).cells n:=⟨_,rfl⟩
 rw [←hZ] at hmk
 have q1:(0:Int)≤k-1:=by omega
 have q2:k-1<(n:Int):=by omega
 have q4:IntKind.i64.wrap (k-1)=k-1:=IntWalk.i64_in _ ⟨by omega,by omega⟩
 have q5:IntKind.i64.wrap (b-m)=b-m:=IntWalk.i64_in _ ⟨by omega,by omega⟩
 have q6:IntKind.i64.wrap (a-m)=a-m:=IntWalk.i64_in _ ⟨by omega,by omega⟩
 obtain⟨Hr,HR,HRn,HN,Hask,Hz,Hi,Hi0,Hi1⟩:=hid9 hr hR hRn hN hask hz hi hi0 hi1;clear hi1 hi0 hi hz hask hN hRn hR hr;obtain⟨Hi2,Hright,Htr,Hmon,Hbal,Hcr,Hdu,Hj,Hb⟩:=hid9 hi2 hright htr hmon hbal hcr hdu hj hb;clear hb hj hdu hcr hbal hmon htr hright hi2;obtain⟨Hm,HbD,HokH,Hdoc,HordG,HGl,Hu,HQ,HQe⟩:=hid9 hm hbD hokH hdoc hordG hGl hu hQ hQe;clear hQe hQ hu hGl hordG hdoc hokH hbD hm;obtain⟨HLs,HLsb,HLm,Hue,Hul,Ham,Hrk,HQb,Hhigh⟩:=hid9 hLs hLsb hLm hue hul ham hrk hQb hhigh;clear hhigh hQb hrk ham hul hue hLm hLsb hLs;obtain⟨Hin,Hless,HG,HZ⟩:=hid4 hin hless hG hZ;clear hZ hG hless hin
 go_enter Tryz.func32,Tryz.ntmps32
 go_wp2_with fail
 refine(Hask.out _ (by(repeat (first|exact Keeps.refl _ _|exact Keeps.alloc _ _|exact Keeps.drew _|exact Keeps.drewN _ _|refine Keeps.trans_drew ?_|refine Keeps.trans_drewN ?_|refine Keeps.trans_alloc ?_)))).mono ?_
 rintro e w1 ⟨rfl,hk1⟩
 have hbx:=box_old (box_alloc (heap_alloc_new w (.cells #[.slice ad n cap, .int .i64 cr, .int .i64 du] 24)) (.cells #[.slice none 0 0, .int .i64 0, .int .i64 0] 24)) hk1 (by simp)
 have hrs:w1.heap[w.heap.size+1]?=some (.cells #[.slice none 0 0, .int .i64 0, .int .i64 0] 24 (0,0)):=box_old (halloc_at2 _ _ (by simp)) hk1 (by simp)
 have hkw:=((Keeps.alloc w (.cells #[.slice ad n cap, .int .i64 cr, .int .i64 du] 24)).nt (Keeps.alloc _ (.cells #[.slice none 0 0, .int .i64 0, .int .i64 0] 24))).nt hk1
 have b0':=cell_of_cells hbx 0
 have bl:=lt_of_block hbx
 obtain⟨Hbx,Hrs,Hkw,Hk1⟩:=hid4 hbx hrs hkw hk1;clear hk1 hkw hrs hbx
 go_upto_region 7 with fail
 have hmade:=RowZ.made w1 2 n (by unfold maxLen;omega)
 rw [←HZ.out] at hmade
 have ka:=Keeps.alloc (S:=fun _=>False) w1 (.cells Z 2)
 have hbx2:=box_old Hbx.out ka (by simp)
 have hrs2:=box_old Hrs.out ka (by simp)
 have hkw2:=Hkw.out.nt ka
 have hg1w:w.heap.size+1<w1.heap.size:=lt_of_block Hrs.out
 obtain⟨g1,hg1⟩:∃y,y=w1.heap.size:=⟨_,rfl⟩
 obtain⟨w2,hw2⟩:∃y,y=w1.alloc (.cells Z 2):=⟨_,rfl⟩
 rw [←hw2] at hmade hbx2 hrs2 hkw2⊢
 rw [←hg1] at hmade hg1w⊢
 have cL0:=(Hr.out.keeps hkw2 (by simp)).int (k:= .i64) Hb.out
 obtain⟨gL,oL,he,cL⟩:=cL0
 subst he
 clear b0' bl ka hw2 hg1
 have b0':=cell_of_cells hbx2 0
 have bl:=lt_of_block hbx2
 have lL:=cell_lt cL
 have hmd2:=hmade.set hjn m
 have hz0:(List.replicate n (0:Int))[j]?=some 0:=by rw [List.getElem?_replicate,if_pos hjn]
 have c1:=hmade.cell hz0
 have f1:=hmade.free j
 have l1:=hmade.lt
 obtain⟨Hmade,Hbx2,Hrs2,Hkw2,Hmd2,Hz0,Hg1w⟩:=hid7 hmade hbx2 hrs2 hkw2 hmd2 hz0 hg1w;clear hg1w hz0 hmd2 hkw2 hrs2 hbx2 hmade
 clear c1 f1 l1
 go_cut [12] (fun y wx=>y= .int .i64 m∧w2=wx)
 case first=>
  have hmn:=Hm.out
  unfold minI at hmn
  rcases Int.lt_trichotomy a b with hle|hle|hle
  ·rw [if_pos (by omega)] at hmn
   have Hmn:=Lib.hid hmn;clear hmn
   go_wp2_with fail
   go_meet
   exact⟨by rw [Hmn.out],rfl⟩
  ·rw [if_pos (by omega)] at hmn
   have Hmn:=Lib.hid hmn;clear hmn
   subst hle
   go_wp2_with fail
   go_meet
   exact⟨by rw [Hmn.out],rfl⟩
  ·rw [if_neg (by omega)] at hmn
   have Hmn:=Lib.hid hmn;clear hmn
   go_wp2_with fail
   go_meet
   exact⟨by rw [Hmn.out],rfl⟩
 obtain⟨rfl,rfl⟩:=hcut
 have c1:=Hmade.out.cell Hz0.out
 have f1:=Hmade.out.free j
 have l1:=Hmade.out.lt
 go_upto_region 9 with fail
 have k3:Keeps (fun i=>i=g1) w2 (w2.setCell ⟨g1,j,none⟩ (.int .i64 m)):=Keeps.setCell _ _ _ rfl
 have hmd3:=Hmd2.out
 obtain⟨w3,hw3⟩:∃y,y=w2.setCell ⟨g1,j,none⟩ (.int .i64 m):=⟨_,rfl⟩
 rw [←hw3] at hmd3 k3⊢
 have hg1w:=Hg1w.out
 have hbx3:=box_old Hbx2.out k3 (by omega)
 have hrs3:=box_old Hrs2.out k3 (by omega)
 have hkw3:=Hkw2.out.trans (k3.mono fun i _ e=> .inr (by omega))
 clear b0' bl c1 f1 l1 cL lL hw3 k3
 have b0':=cell_of_cells hbx3 0
 have bl:=lt_of_block hbx3
 obtain⟨Hmd3,Hbx3,Hrs3,Hkw3,Hg1w⟩:=hid5 hmd3 hbx3 hrs3 hkw3 hg1w;clear hg1w hkw3 hrs3 hbx3 hmd3
 go_wp2_with (at_builtin;refine wpList_append_row rfl (.const (.slice none 0 0)) (.tmp 51) 22 rfl 0 2 i0 _ 1 8 Tryz.underlying22 Hi.out Hi0.out Hi1.out Hi2.out rfl (by decide) _ 0 [] rfl (World.ownsRow_nil _ _ _ _) _ n (L.flatMap i64c) rfl (Hr.out.keeps Hkw3.out (by simp)) (i64c_one _) (by unfold maxLen;omega) (by omega) (by omega) ?_;intro v4 w4 hown4 hk4 hf4;refine haltD ?_)
 refine Lib.hid ?_
 have hrow4:w4.ownsRow 0 2 1 v4 n (L.flatMap i64c):=by simpa using hown4
 have hf4w:Fresh w3 w4 v4:=(Fresh.nil w3).app hk4 hf4
 obtain⟨g2,c2,rfl⟩:=owns_head hrow4 hn1
 have hg2:w3.heap.size≤g2:=hf4w.2 g2 rfl
 have hk4n:=hf4w.1
 have hbx4:=box_old Hbx3.out hk4n (by simp)
 have hrs4:=box_old Hrs3.out hk4n (by simp)
 have hkw4:=Hkw3.out.nt hk4n
 have hmd4:=Hmd3.out.keep hk4n
 have hr4:RowZ w4 2 g2 n c2 L:=⟨hrow4,HN.out⟩
 have hg12:g1<g2:=by have:=Hmd3.out.lt;omega
 clear hown4 hk4 hf4 b0' bl
 have c2':=hr4.cell Hb.out
 have f2':=hr4.free j
 have l2':=hr4.lt
 have hr5:=hr4.set hjn (b-m)
 obtain⟨Hrow4,Hf4w,Hg2,Hk4n,Hbx4,Hrs4,Hkw4,Hmd4,Hr4⟩:=hid9 hrow4 hf4w hg2 hk4n hbx4 hrs4 hkw4 hmd4 hr4;clear hr4 hmd4 hkw4 hrs4 hbx4 hk4n hg2 hf4w hrow4;obtain⟨Hg12,Hr5⟩:=hid2 hg12 hr5;clear hr5 hg12
 go_upto_region 11 with fail
 have k5:Keeps (fun i=>i=g2) w4 (w4.setCell ⟨g2,j,none⟩ (.int .i64 (b-m))):=Keeps.setCell _ _ _ rfl
 have hr5:=Hr5.out
 obtain⟨w5,hw5⟩:∃y,y=w4.setCell ⟨g2,j,none⟩ (.int .i64 (b-m)):=⟨_,rfl⟩
 rw [←hw5] at hr5 k5⊢
 have hg12:=Hg12.out
 have hg1w:=Hg1w.out
 have hbx5:=box_old Hbx4.out k5 (by omega)
 have hrs5:=box_old Hrs4.out k5 (by omega)
 have hkw5:=Hkw4.out.trans (k5.mono fun i _ e=> .inr (by omega))
 have hmd5:RowZ w5 2 g1 n n ((List.replicate n 0).set j m):=⟨k5.row Hmd4.out.1 (fun g' hg' e=>by have:=own_ne hg';omega),Hmd4.out.2⟩
 clear c2' f2' l2' hw5 k5
 obtain⟨Hr5,Hbx5,Hrs5,Hkw5,Hmd5,Hg12,Hg1w⟩:=hid7 hr5 hbx5 hrs5 hkw5 hmd5 hg12 hg1w;clear hg1w hg12 hmd5 hkw5 hrs5 hbx5 hr5
 go_wp2_with fail
 refine(Hhigh.out _ Hkw5.out).mono ?_
 rintro e w6 ⟨a6,c6,rfl,hrow6,hk6⟩
 have hr6:=Hr5.out.keep hk6
 have hmd6:=Hmd5.out.keep hk6
 have hbx6:=box_old Hbx5.out hk6 (by simp)
 have hrs6:=box_old Hrs5.out hk6 (by simp)
 have hkw6:=Hkw5.out.nt hk6
 obtain⟨Hr6,Hmd6,Hbx6,Hrs6,Hkw6,Hrow6,Hk6⟩:=hid7 hr6 hmd6 hbx6 hrs6 hkw6 hrow6 hk6;clear hk6 hrow6 hkw6 hrs6 hbx6 hmd6 hr6
 go_wp2_with fail
 refine(Hin.out _ _ _ _ _ Hr6.out Hrow6.out).mono ?_
 rintro e w7 ⟨g3,rfl,hrow7,hk7,hg3⟩
 have hmd7:=Hmd6.out.keep hk7
 have hbx7:=box_old Hbx6.out hk7 (by simp)
 have hrs7:=box_old Hrs6.out hk7 (by simp)
 have hkw7:=Hkw6.out.nt hk7
 have hg13:¬g1=g3:=by have:=Hmd6.out.lt;omega
 obtain⟨Hmd7,Hbx7,Hrs7,Hkw7,Hrow7,Hk7,Hg3,Hg13⟩:=hid8 hmd7 hbx7 hrs7 hkw7 hrow7 hk7 hg3 hg13;clear hg13 hg3 hk7 hrow7 hkw7 hrs7 hbx7 hmd7
 go_wp2
 have hP1l:((List.replicate n (0:Int)).set j m).length=n:=by simp
 have hP1b:∀(i:Nat) (x:Int),((List.replicate n (0:Int)).set j m)[i]?=some x→0≤x∧x≤1000000000000000:=fun i x hx=>by
  rcases List.mem_or_eq_of_mem_set (List.mem_of_getElem? hx) with h|h
  ·have:=(List.mem_replicate.1 h).2
   omega
  ·omega
 obtain⟨P1,hP1⟩:∃P,(List.replicate n (0:Int)).set j m=P:=⟨_,rfl⟩
 have hmd7:=Hmd7.out
 have hQ':=HQ.out
 rw [hP1] at hP1l hP1b hmd7 hQ'
 clear Hmd7 HQ
 obtain⟨Hmd7,HQ',HP1l,HP1b,HP1⟩:=hid5 hmd7 hQ' hP1l hP1b hP1;clear hP1 hP1b hP1l hQ' hmd7
 go_loopw [17] (fun x wx=>∃i:Nat,x= .int .i64 (i:Nat)∧i≤n∧RowZ wx 2 g1 n n (stepL (fun x y=>x+y) P1 u i)∧Keeps (fun k=>k=g1) w7 wx) (fun x _=>n-(intOf x).toNat)
 case atStart=>exact⟨0,rfl,Nat.zero_le _,by rw [stepL_zero];exact Hmd7.out,Keeps.refl _ _⟩
 case round=>
  obtain⟨i,rfl,hin,hrowj,hkj⟩:=hrel
  obtain⟨wz,hwz⟩:∃x,x=wr:=⟨_,rfl⟩
  subst hwz
  have hrq:RowZ wz 2 g3 n n u:=⟨hkj.row Hrow7.out.1 (fun g' hg e=>by simp only [Value.ownBlock,Option.some.injEq] at hg;subst hg;exact Hg13.out e.symm),Hrow7.out.2⟩
  by_cases hlt:i<n
  ·have hltI:(i:Int)<(n:Int):=by omega
   obtain⟨x,hx⟩:=get_some (L:=P1) (k:=i) (by rw [HP1l.out];exact hlt)
   obtain⟨y,hy⟩:=get_some (L:=u) (k:=i) (by rw [Hul.out];exact hlt)
   obtain⟨x0,x1⟩:=HP1b.out i x hx
   obtain⟨y0,y1⟩:=p1bd Hue.out HLsb.out hy
   have hex:=stepL_get (f:=fun x y=>x+y) (P:=u) (by rw [HP1l.out,Hul.out]) hx
   have hS:r10T g1 i g3 i x y wz:=⟨hrowj.cell hex,hrq.cell hy⟩
   have hSd:=hS.keep (S:=fun _=>False) (Keeps.drew wz) (by simp) (by simp)
   have hst:=stepL_set (f:=fun x y=>x+y) (P:=u) (by rw [HP1l.out,Hul.out]) hx hy
   have hq1:IntKind.i64.wrap (x+y)=x+y:=IntWalk.i64_in _ ⟨by omega,by omega⟩
   have hrd:∀w1,Keeps (fun _=>False) wz w1→RowZ w1 2 g1 n n (stepL (fun x y=>x+y) P1 u i):=fun w1 h=>hrowj.keep h
   have hnewr:∀w1,Keeps (fun _=>False) wz w1→RowZ (w1.setCell ⟨g1,i,none⟩ (.int .i64 (x+y))) 2 g1 n n (stepL (fun x y=>x+y) P1 u (i+1)):=fun w1 h=>by
    have:=(hrowj.keep h).set hlt (x+y)
    rwa [hst] at this
   have hnk:∀w1,Keeps (fun _=>False) wz w1→Keeps (fun k=>k=g1) w7 (w1.setCell ⟨g1,i,none⟩ (.int .i64 (x+y))):=fun w1 h=>(hkj.trans (h.mono fun k _ e=> .inl e.elim)).trans (Keeps.setCell _ _ _ (.inl rfl))
   obtain⟨Hrowj,Hkj,Hrq,Hx,Hy,Hex,HS,HSd,Hst⟩:=hid9 hrowj hkj hrq hx hy hex hS hSd hst;clear hst hSd hS hex hy hx hrq hkj hrowj;obtain⟨Hrd,Hnewr,Hnk⟩:=hid3 hrd hnewr hnk;clear hnk hnewr hrd
   go_wp2_with fail
   refine wp_region_mixz (r10T g1 i g3 i x y) 12 (.take 0 (.take 1 (.take 2 (.take 3 (.take 4 (.take 5 (.take 6 (.take 7 (.take 8 (.take 9 (.take 10 (.take 11 (.move 12 .done))))))))))))) (by kernel_rfl) (by kernel_rfl) ?_ ?_
   ·exact HSd.out
   intro w9 hs9 hk9
   have r9:=Hrd.out _ hk9
   have c9:=r9.cell Hex.out
   have f9:=r9.free i
   have l9:=r9.lt
   obtain⟨Hs9,Hk9,R9⟩:=hid3 hs9 hk9 r9;clear r9 hk9 hs9
   repeat (first
    |(refine mix_skip rfl (by rfl) ?_;try simp only [Act.put,List.setIfInBounds_toArray,List.set_cons_zero,List.set_cons_succ])
    |(refine mix_skipm rfl (by rfl) ?_;try simp only [Act.put,List.setIfInBounds_toArray,List.set_cons_zero,List.set_cons_succ])
    |(refine mix_take (v:= ?_) rfl (by rfl) ?_ ?_;rotate_left;(· intro w' hSw;unfold r10T at hSw;go_simp;(try with_reducible rfl));rotate_right;try simp only [Act.put,List.setIfInBounds_toArray,List.set_cons_zero,List.set_cons_succ]))
   refine mix_last rfl (fun K hK=> ?_)
   go_simp
   refine hK.out _ _ ?_
   clear hK K
   try simp only [Act.put,List.setIfInBounds_toArray,List.set_cons_zero,List.set_cons_succ]
   refine mix_done ?_
   have hn8:=Hnewr.out _ Hk9.out
   have hn9:=Hnk.out _ Hk9.out
   clear c9 f9 l9
   obtain⟨Hn8,Hn9⟩:=hid2 hn8 hn9;clear hn9 hn8
   go_wp2
   go_roundw
   case rel=>exact⟨i+1,by go_num,by omega,Hn8.out,Hn9.out⟩
   case measure=>simp [intOf];omega
  ·obtain rfl:i=n:=by omega
   rw [stepL_full (by rw [HP1l.out,Hul.out]) HP1l.out,HQ'.out] at hrowj
   have hg1w:=Hg1w.out
   have hkz:Keeps (fun _=>False) w wz:=Hkw7.out.trans (hkj.mono fun i _ e=> .inr (by omega))
   have hbx8:=box_old Hbx7.out hkj (by omega)
   have hrs8:=box_old Hrs7.out hkj (by omega)
   have c0:=cell_of_cells hbx8 0
   have c1:=cell_of_cells hbx8 1
   have c2:=cell_of_cells hbx8 2
   have bl:=lt_of_block hbx8
   obtain⟨Hrowj,Hkj,Hrq,Hkz,Hbx8,Hrs8,Hg1w⟩:=hid7 hrowj hkj hrq hkz hbx8 hrs8 hg1w;clear hg1w hrs8 hbx8 hkz hrq hkj hrowj
   go_wp2_with fail
   refine(Hless.out _ _ Hkz.out Hrowj.out).mono ?_
   intro e w10 hg
   obtain⟨a2,n2,c3,rfl,hres,hend⟩:=hg.up Hkz.out Hrs8.out (by omega)
   clear hg c0 c1 c2 bl
   have r0:=cell_of_cells hres 0
   have r1:=cell_of_cells hres 1
   have r2:=cell_of_cells hres 2
   have rf0:=free_of_cells hres 0
   have rf1:=free_of_cells hres 1
   have rf2:=free_of_cells hres 2
   have rl:=lt_of_block hres
   have sr0:=cell_of_cells hend.1 0
   have sr1:=cell_of_cells hend.1 1
   have sr2:=cell_of_cells hend.1 2
   have hgv:=hend.2
   obtain⟨Hres,Hend,Sr0,Sr1,Sr2,Hgv⟩:=hid6 hres hend sr0 sr1 sr2 hgv;clear hgv sr2 sr1 sr0 hend hres
   go_wp2
   have R0':=Sr0.out
   have R1':=Sr1.out
   have R2':=Sr2.out
   clear r0 r1 r2
   exact bodyPost_ret (v:= .tuple #[.agg #[.slice a2 n2 c3, .int .i64 q.cr, .int .i64 q.du], .int .i64 z]) (by simp [results,Tryz.results32,go_sem,R0',R1',R2']) rfl Hgv.out
theorem r11Give_bad(L R:List Int)(cr du k a:Int)(ad adR:Option Addr)(cap cR n:Nat)(w:World)(hr:Reads w 1 (.slice ad n cap) n (L.flatMap i64c))(hN:L.length=n)(hl:n≤1000)(z:Int)(hz:askE ⟨L,cr,du⟩ [k] a=z)(h0:¬z=0):
  Calls Tryz.prog 32 #[.agg #[.slice ad n cap, .int .i64 cr, .int .i64 du], .slice adR n cR, .int .i64 k, .int .i64 a] w (GivesP (giveR ⟨L,cr,du⟩ R k a).1 (giveR ⟨L,cr,du⟩ R k a).2 w):=by
 have hask:=fun(W:World) (hW:Keeps (fun _=>False) w W)=>r11asked_any L cr du a k ad cap n W (hr.keeps hW (by simp)) hN hl
 rw [hz] at hask
 unfold giveR
 rw [hz,if_neg h0]
 have hne:decide (z=0)=false:=by rw [decide_eq_false_iff_not];exact h0
 obtain⟨Hr,Hask,Hz⟩:=hid3 hr hask hz;clear hz hask hr
 go_enter Tryz.func32,Tryz.ntmps32
 go_wp2_with fail
 refine(Hask.out _ (by(repeat (first|exact Keeps.refl _ _|exact Keeps.alloc _ _|exact Keeps.drew _|exact Keeps.drewN _ _|refine Keeps.trans_drew ?_|refine Keeps.trans_drewN ?_|refine Keeps.trans_alloc ?_)))).mono ?_
 rintro e w1 ⟨rfl,hk1⟩
 have hres:w1.heap[w.heap.size+1]?=some (.cells #[.slice none 0 0, .int .i64 0, .int .i64 0] 24 (0,0)):=box_old (halloc_at2 _ _ (by simp)) hk1 (by simp)
 have hkw:=((Keeps.alloc w (.cells #[.slice ad n cap, .int .i64 cr, .int .i64 du] 24)).nt (Keeps.alloc _ (.cells #[.slice none 0 0, .int .i64 0, .int .i64 0] 24))).nt hk1
 have hend:=P11.bad z hres hkw (by omega)
 obtain⟨Hkw,Hk1⟩:=hid2 hkw hk1;clear hk1 hkw
 have r0:=cell_of_cells hres 0
 have r1:=cell_of_cells hres 1
 have r2:=cell_of_cells hres 2
 have rf0:=free_of_cells hres 0
 have rf1:=free_of_cells hres 1
 have rf2:=free_of_cells hres 2
 have rl:=lt_of_block hres
 have sr0:=cell_of_cells hend.1 0
 have sr1:=cell_of_cells hend.1 1
 have sr2:=cell_of_cells hend.1 2
 have hgv:=hend.2
 obtain⟨Hres,Hend,Sr0,Sr1,Sr2,Hgv⟩:=hid6 hres hend sr0 sr1 sr2 hgv;clear hgv sr2 sr1 sr0 hend hres
 go_wp2
 have R0':=Sr0.out
 have R1':=Sr1.out
 have R2':=Sr2.out
 clear r0 r1 r2
 exact bodyPost_ret (v:= .tuple #[.agg #[.slice none 0 0, .int .i64 0, .int .i64 0], .int .i64 z]) (by simp [results,Tryz.results32,go_sem,R0',R1',R2']) rfl Hgv.out
theorem r11Give_any(L R:List Int)(cr du k a:Int)(ad adR:Option Addr)(cap cR n:Nat)(w:World)(hr:Reads w 1 (.slice ad n cap) n (L.flatMap i64c))(hN:L.length=n)(hl:n≤1000)(hR:Reads w 1 (.slice adR n cR) n (R.flatMap i64c))(hRn:R.length=n):
  Calls Tryz.prog 32 #[.agg #[.slice ad n cap, .int .i64 cr, .int .i64 du], .slice adR n cR, .int .i64 k, .int .i64 a] w (GivesP (giveR ⟨L,cr,du⟩ R k a).1 (giveR ⟨L,cr,du⟩ R k a).2 w):=by
 by_cases h0:askE ⟨L,cr,du⟩ [k] a=0
 ·exact r11Give_ok L R cr du k a ad adR cap cR n w hr hN hl hR hRn h0
 ·exact r11Give_bad L R cr du k a ad adR cap cR n w hr hN hl _ rfl h0
theorem AB.keepB{E:Array Value}{w W W':World}{B:Nat}(h:AB E w W)(hk:Keeps (fun i=>i=B) W W')(hB:w.heap.size+1+1<B):AB E w W':=⟨box_old h.e hk (by omega),box_old h.r hk (by omega),h.kp.trans (hk.mono fun i _ e=> .inr (by have e':i=B:=e;omega))⟩
def okr(x:Int):Bool:=decide (0≤x)&&decide (x≤10000000)
def ok1(p:Ps)(R:List Int)(ki:Int):Bool:=p.rightB&&(decide (R.length=p.bal.length)&&(decide (1≤ki)&&decide (ki≤6)))
def ok3(p:Ps)(R:List Int)(ki tr:Int):Bool:=(ok1 p R ki&&R.all okr)&&(decide (ki=2)||(decide (1≤tr)&&decide (tr≤p.bal.length)))
theorem okr_not(x:Int):okr x= !(rateB x):=by
 rcases h:rateB x with _|_
 ·have:=(rateB_iff x).1 h
  simp [okr,this]
 ·rcases h2:okr x with _|_
  ·rfl
  ·simp only [okr,Bool.and_eq_true,decide_eq_true_eq] at h2
   rw [(rateB_iff x).2 h2] at h
   cases h
theorem mayA_ok3(p:Ps)(R:List Int)(e:Ev):mayA p R e=(ok3 p R e.kind e.tranche&& !(decide (e.kind=6)&&(decide (e.amount<0)||decide (10000000<e.amount)))):=by
 have hall:R.all okr= !(R.any rateB):=by
  rw [show okr=fun x=> !(rateB x) from funext okr_not]
  simp [List.not_any_eq_all_not]
 unfold mayA ok3 ok1
 rw [hall]
 rcases p.rightB with _|_
 ·simp
 ·by_cases hl:R.length=p.bal.length
  ·rcases R.any rateB with _|_
   ·have hl2:(R.length:Int)=(p.bal.length:Int):=by omega
    simp only [hl,decide_true,Bool.true_and,Bool.not_false,Bool.and_true]
    rw [Bool.eq_iff_iff]
    simp only [Bool.and_eq_true,Bool.or_eq_true,Bool.not_eq_true',Bool.or_eq_false_iff,Bool.and_eq_false_iff,decide_eq_true_eq,decide_eq_false_iff_not,bne_iff_ne,ne_eq,bne_eq_false_iff_eq]
    omega
   ·simp
  ·simp [hl]
theorem r19Apply_any(L R:List Int)(cr du ki da tr am re:Int)(ad adR:Option Addr)(cap cR n m:Nat)(w:World)(hr:Reads w 1 (.slice ad n cap) n (L.flatMap i64c))(hN:L.length=n)(hl:n≤1000)(hR:Reads w 1 (.slice adR m cR) m (R.flatMap i64c))(hRm:R.length=m)(hm:m≤1000):
  Calls Tryz.prog 9 #[.agg #[.slice ad n cap, .int .i64 cr, .int .i64 du], .slice adR m cR, .agg #[.int .i64 ki, .int .i64 da, .int .i64 tr, .int .i64 am, .int .i64 re]] w (ApplyPost (applyR ⟨L,cr,du⟩ R ⟨ki,da,tr,am,re⟩) w):=by
 obtain⟨i0,hi,hi0,hi1,hi2⟩:=info_parts info_tInt64
 have hst:=AB.start #[.slice ad n cap, .int .i64 cr, .int .i64 du] #[.int .i64 ki, .int .i64 da, .int .i64 tr, .int .i64 am, .int .i64 re] w
 have hpb:(((w.alloc (.cells #[.slice ad n cap, .int .i64 cr, .int .i64 du] 24)).alloc (.cells #[.int .i64 ki, .int .i64 da, .int .i64 tr, .int .i64 am, .int .i64 re] 26)).alloc (.cells #[.slice none 0 0, .int .i64 0, .int .i64 0] 24)).heap[w.heap.size]?=some (.cells #[.slice ad n cap, .int .i64 cr, .int .i64 du] 24 (0,0)):=box_alloc (box_alloc (heap_alloc_new w _) _) _
 obtain⟨W0,hW0⟩:∃W0,W0=(((w.alloc (.cells #[.slice ad n cap, .int .i64 cr, .int .i64 du] 24)).alloc (.cells #[.int .i64 ki, .int .i64 da, .int .i64 tr, .int .i64 am, .int .i64 re] 26)).alloc (.cells #[.slice none 0 0, .int .i64 0, .int .i64 0] 24)):=⟨_,rfl⟩
 rw [←hW0] at hst hpb
 obtain⟨A,hA⟩:∃A,applyR ⟨L,cr,du⟩ R ⟨ki,da,tr,am,re⟩=A:=⟨_,rfl⟩
 rw [hA]
 obtain⟨z1,hz1⟩:∃z,ok1 ⟨L,cr,du⟩ R ki=z:=⟨_,rfl⟩
 have hri:=fun W (hW:Keeps (fun _=>False) w W) b (hb:Ps.rightB ⟨L,cr,du⟩=b)=>r11Right_at L cr du ad cap n W (hr.keeps hW (by simp)) hN hl b hb
 have p0:=cell_of_cells hpb 0
 have p1:=cell_of_cells hpb 1
 have p2:=cell_of_cells hpb 2
 have pl:=lt_of_block hpb
 obtain⟨Hr,HN,HR,HRm,Hst,Hpb,HA,Hz1,Hri⟩:=hid9 hr hN hR hRm hst hpb hA hz1 hri;clear hri hz1 hA hpb hst hRm hR hN hr;obtain⟨Hi,Hi0,Hi1,Hi2⟩:=hid4 hi hi0 hi1 hi2;clear hi2 hi1 hi0 hi
 go_enter Tryz.func9,Tryz.ntmps9
 go_upto_region 1 with fail
 rw [←hW0]
 clear hW0
 go_cut [9] (fun y wx=>y= .bool z1∧Keeps (fun _=>False) W0 wx)
 case first=>
  have h:=Hz1.out
  unfold ok1 at h
  simp only at h
  rw [HN.out,HRm.out] at h
  rcases hb:Ps.rightB ⟨L,cr,du⟩ with _|_
  ·rw [hb,Bool.false_and] at h
   have Hzz:=Lib.hid h
   clear h
   have Hb:=Lib.hid hb;clear hb
   go_wp2_with fail
   refine(Hri.out _ Hst.out.kp _ Hb.out).mono ?_
   rintro e w1 ⟨rfl,hk1⟩
   clear p0 p1 p2 pl
   have Hk1:=Lib.hid hk1;clear hk1
   go_wp2_with fail
   go_meet
   exact⟨by rw [←Hzz.out]<;>first|rfl|(congr 1;rw [decide_eq_false_iff_not];omega),Hk1.out⟩
  ·by_cases hmn:m=n
   ·by_cases k1:1≤ki
    ·by_cases k6:ki≤6
     ·have hzt:true=z1:=by rw [←h,hb];simp [hmn,k1,k6]
      have Hzz:=Lib.hid hzt
      clear h hzt
      subst hmn
      have Hb:=Lib.hid hb;clear hb
      go_wp2_with fail
      refine(Hri.out _ Hst.out.kp _ Hb.out).mono ?_
      rintro e w1 ⟨rfl,hk1⟩
      clear p0 p1 p2 pl
      have hbx1:=box_old Hpb.out hk1 (by simp)
      have heb1:=box_old Hst.out.e hk1 (by simp)
      have p0:=cell_of_cells hbx1 0
      have pl:=lt_of_block hbx1
      have e0:=cell_of_cells heb1 0
      have el:=lt_of_block heb1
      obtain⟨Hk1,Hbx1,Heb1⟩:=hid3 hk1 hbx1 heb1;clear heb1 hbx1 hk1
      go_wp2_with fail
      go_meet
      exact⟨by rw [←Hzz.out]<;>first|rfl|(congr 1;rw [decide_eq_false_iff_not];omega),Hk1.out⟩
     ·have hzt:false=z1:=by rw [←h,hb];simp [k6]
      have Hzz:=Lib.hid hzt
      clear h hzt
      subst hmn
      have Hb:=Lib.hid hb;clear hb
      go_wp2_with fail
      refine(Hri.out _ Hst.out.kp _ Hb.out).mono ?_
      rintro e w1 ⟨rfl,hk1⟩
      clear p0 p1 p2 pl
      have hbx1:=box_old Hpb.out hk1 (by simp)
      have heb1:=box_old Hst.out.e hk1 (by simp)
      have p0:=cell_of_cells hbx1 0
      have pl:=lt_of_block hbx1
      have e0:=cell_of_cells heb1 0
      have el:=lt_of_block heb1
      obtain⟨Hk1,Hbx1,Heb1⟩:=hid3 hk1 hbx1 heb1;clear heb1 hbx1 hk1
      go_wp2_with fail
      go_meet
      exact⟨by rw [←Hzz.out]<;>first|rfl|(congr 1;rw [decide_eq_false_iff_not];omega),Hk1.out⟩
    ·have hzt:false=z1:=by rw [←h,hb];simp [k1]
     have Hzz:=Lib.hid hzt
     clear h hzt
     subst hmn
     have Hb:=Lib.hid hb;clear hb
     go_wp2_with fail
     refine(Hri.out _ Hst.out.kp _ Hb.out).mono ?_
     rintro e w1 ⟨rfl,hk1⟩
     clear p0 p1 p2 pl
     have hbx1:=box_old Hpb.out hk1 (by simp)
     have heb1:=box_old Hst.out.e hk1 (by simp)
     have p0:=cell_of_cells hbx1 0
     have pl:=lt_of_block hbx1
     have e0:=cell_of_cells heb1 0
     have el:=lt_of_block heb1
     obtain⟨Hk1,Hbx1,Heb1⟩:=hid3 hk1 hbx1 heb1;clear heb1 hbx1 hk1
     go_wp2_with fail
     go_meet
     exact⟨by rw [←Hzz.out]<;>first|rfl|(congr 1;rw [decide_eq_false_iff_not];omega),Hk1.out⟩
   ·have hzt:false=z1:=by rw [←h,hb];simp [hmn]
    have Hzz:=Lib.hid hzt
    have hmnI:¬(m:Int)=(n:Int):=by omega
    clear h hzt
    have Hb:=Lib.hid hb;clear hb
    go_wp2_with fail
    refine(Hri.out _ Hst.out.kp _ Hb.out).mono ?_
    rintro e w1 ⟨rfl,hk1⟩
    clear p0 p1 p2 pl
    have hbx1:=box_old Hpb.out hk1 (by simp)
    have heb1:=box_old Hst.out.e hk1 (by simp)
    have p0:=cell_of_cells hbx1 0
    have pl:=lt_of_block hbx1
    have e0:=cell_of_cells heb1 0
    have el:=lt_of_block heb1
    obtain⟨Hk1,Hbx1,Heb1⟩:=hid3 hk1 hbx1 heb1;clear heb1 hbx1 hk1
    go_wp2_with fail
    go_meet
    exact⟨by rw [←Hzz.out]<;>first|rfl|(congr 1;rw [decide_eq_false_iff_not];omega),Hk1.out⟩
 obtain⟨rfl,hkc⟩:=hcut
 have Hkc:=Lib.hid hkc
 clear hkc p0 p1 p2 pl
 go_wp2
 go_loopw [9,10] (fun b x wx=>∃i:Nat,b= .bool (z1&&(R.take i).all okr)∧x= .int .i64 (i:Nat)∧i≤m∧wc=wx) (fun _ x _=>m-(intOf x).toNat)
 case atStart=>exact⟨0,by simp,rfl,Nat.zero_le _,rfl⟩
 case round=>
  obtain⟨i,rfl,rfl,him,hwr⟩:=hrel
  subst hwr
  obtain⟨z,hz⟩:∃z,(z1&&(R.take i).all okr)=z:=⟨_,rfl⟩
  rw [hz]
  by_cases hlt:i<m
  ·have hltI:(i:Int)<(m:Int):=by omega
   obtain⟨x,hx⟩:=get_some (L:=R) (k:=i) (by rw [HRm.out];exact hlt)
   have hnx:(z1&&(R.take (i+1)).all okr)=(z&&okr x):=by rw [take_snoc' hx,List.all_append,←hz,Bool.and_assoc];simp
   rcases z with _|_
   ·rw [Bool.false_and] at hnx
    obtain⟨Hz,Hx,Hnx⟩:=hid3 hz hx hnx;clear hnx hx hz
    go_wp2
    go_roundw
    case rel=>exact⟨i+1,by rw [Hnx.out],by go_num,by omega,by first|rfl|trivial⟩
    case measure=>simp [intOf];omega
   ·rw [Bool.true_and] at hnx
    obtain⟨g,o,he,c0⟩:=(HR.out.keeps (Hst.out.kp.nt Hkc.out) (by simp)).int (k:= .i64) hx
    subst he
    have cl:=cell_lt c0
    by_cases x0:0≤x
    ·by_cases x1:x≤10000000
     ·have ho:okr x=true:=by simp [okr,x0,x1]
      rw [ho] at hnx
      obtain⟨Hz,Hx,Hnx,Ho⟩:=hid4 hz hx hnx ho;clear ho hnx hx hz
      go_wp2
      go_roundw
      case rel=>exact⟨i+1,by rw [Hnx.out],by go_num,by omega,by first|rfl|trivial⟩
      case measure=>simp [intOf];omega
     ·have ho:okr x=false:=by simp [okr,x1]
      rw [ho] at hnx
      obtain⟨Hz,Hx,Hnx,Ho⟩:=hid4 hz hx hnx ho;clear ho hnx hx hz
      go_wp2
      go_roundw
      case rel=>exact⟨i+1,by rw [Hnx.out],by go_num,by omega,by first|rfl|trivial⟩
      case measure=>simp [intOf];omega
    ·have ho:okr x=false:=by simp [okr,x0]
     rw [ho] at hnx
     obtain⟨Hz,Hx,Hnx,Ho⟩:=hid4 hz hx hnx ho;clear ho hnx hx hz
     go_wp2
     go_roundw
     case rel=>exact⟨i+1,by rw [Hnx.out],by go_num,by omega,by first|rfl|trivial⟩
     case measure=>simp [intOf];omega
  ·obtain rfl:i=m:=by omega
   rw [List.take_of_length_le (by rw [HRm.out];exact Nat.le_refl _)] at hz
   have hz3:ok3 ⟨L,cr,du⟩ R ki tr=(z&&(decide (ki=2)||(decide (1≤tr)&&decide (tr≤(n:Int))))):=by
    unfold ok3
    rw [Hz1.out,hz]
    simp only
    rw [HN.out]
   have hab1:=Hst.out.keep0 Hkc.out
   have hpb1:=box_old Hpb.out Hkc.out (by simp)
   have p0:=cell_of_cells hpb1 0
   have pl:=lt_of_block hpb1
   have e0:=cell_of_cells hab1.e 0
   have e2:=cell_of_cells hab1.e 2
   have el:=lt_of_block hab1.e
   obtain⟨z3,hz3'⟩:∃z,ok3 ⟨L,cr,du⟩ R ki tr=z:=⟨_,rfl⟩
   rw [hz3'] at hz3
   obtain⟨Hz,Hz3',Hab1,Hpb1⟩:=hid4 hz hz3' hab1 hpb1;clear hpb1 hab1 hz3' hz
   obtain⟨W1,hW1⟩:∃x,x=wc:=⟨_,rfl⟩
   subst hW1
   go_upto_region 6 with fail
   go_cut [9] (fun y wx=>y= .bool z3∧W1=wx)
   case first=>
    rcases z with _|_
    ·rw [Bool.false_and] at hz3
     subst hz3
     go_wp2_with fail
     go_meet
     exact⟨rfl,by first|rfl|trivial⟩
    ·rw [Bool.true_and] at hz3
     by_cases k2:ki=2
     ·have hzt:z3=true:=by rw [hz3];simp [k2]
      subst hzt
      subst k2
      clear hz3
      go_wp2_with fail
      go_meet
      exact⟨rfl,by first|rfl|trivial⟩
     ·have k2b:(ki==2)=false:=beq_eq_false_iff_ne.2 k2
      by_cases t1:1≤tr
      ·by_cases t2:tr≤(n:Int)
       ·have hzt:z3=true:=by rw [hz3];simp [t1,t2]
        subst hzt
        clear hz3
        go_wp2_with fail
        go_meet
        exact⟨rfl,by first|rfl|trivial⟩
       ·have hzt:z3=false:=by rw [hz3];simp [k2,t2]
        subst hzt
        clear hz3
        go_wp2_with fail
        go_meet
        exact⟨by first|rfl|(congr 1;first|assumption|(rw [decide_eq_false_iff_not];omega)|exact beq_eq_false_iff_ne.2 (by omega)),by first|rfl|trivial⟩
      ·have hzt:z3=false:=by rw [hz3];simp [k2,t1]
       subst hzt
       clear hz3
       go_wp2_with fail
       go_meet
       exact⟨by first|rfl|(congr 1;first|assumption|(rw [decide_eq_false_iff_not];omega)|exact beq_eq_false_iff_ne.2 (by omega)),by first|rfl|trivial⟩
   obtain⟨rfl,rfl⟩:=hcut
   have hmay:=mayA_ok3 ⟨L,cr,du⟩ R ⟨ki,da,tr,am,re⟩
   simp only at hmay
   rw [Hz3'.out] at hmay
   clear hz3
   have e3:=cell_of_cells Hab1.out.e 3
   rcases z3 with _|_
   ·rw [Bool.false_and] at hmay
    have hA:=HA.out
    unfold applyR at hA
    rw [hmay,if_neg (by decide)] at hA
    subst hA
    have hS3:=store3 Hab1.out.r (.slice none 0 0) (.int .i64 0) (.int .i64 0)
    obtain⟨hb9,k9⟩:=hS3
    have hkf:=Hab1.out.kp.trans (k9.mono fun i _ e=> .inr (by have e':i=w.heap.size+1+1:=e;omega))
    have r0:=cell_of_cells Hab1.out.r 0
    have r1:=cell_of_cells Hab1.out.r 1
    have r2:=cell_of_cells Hab1.out.r 2
    have rf0:=free_of_cells Hab1.out.r 0
    have rf1:=free_of_cells Hab1.out.r 1
    have rf2:=free_of_cells Hab1.out.r 2
    have rl:=lt_of_block Hab1.out.r
    have sr0:=cell_of_cells hb9 0
    have sr1:=cell_of_cells hb9 1
    have sr2:=cell_of_cells hb9 2
    clear p0 pl e2
    obtain⟨Hmay,Hb9,K9,Hkf,Sr0,Sr1,Sr2⟩:=hid7 hmay hb9 k9 hkf sr0 sr1 sr2;clear sr2 sr1 sr0 hkf k9 hb9 hmay
    go_wp2
    have R0':=Sr0.out
    have R1':=Sr1.out
    have R2':=Sr2.out
    clear r0 r1 r2
    exact bodyPost_ret (v:= .tuple #[.agg #[.slice none 0 0, .int .i64 0, .int .i64 0], .slice none 0 0, .int .i64 1]) (by simp [results,Tryz.results9,go_sem,R0',R1',R2']) rfl ⟨_,_,rfl,World.ownsRow_nil _ _ _ _,World.ownsRow_nil _ _ _ _,Hkf.out,by simp [Value.ownBlock],by simp [Value.ownBlock]⟩
   ·rw [Bool.true_and] at hmay
    by_cases k6:ki=6
    ·by_cases a0:am<0
     ·have hmf:mayA ⟨L,cr,du⟩ R ⟨ki,da,tr,am,re⟩=false:=by rw [hmay];simp [k6,a0]
      subst k6
      replace hmay:=hmf
      clear hmf
      have hA:=HA.out
      unfold applyR at hA
      rw [hmay,if_neg (by decide)] at hA
      subst hA
      have hS3:=store3 Hab1.out.r (.slice none 0 0) (.int .i64 0) (.int .i64 0)
      obtain⟨hb9,k9⟩:=hS3
      have hkf:=Hab1.out.kp.trans (k9.mono fun i _ e=> .inr (by have e':i=w.heap.size+1+1:=e;omega))
      have r0:=cell_of_cells Hab1.out.r 0
      have r1:=cell_of_cells Hab1.out.r 1
      have r2:=cell_of_cells Hab1.out.r 2
      have rf0:=free_of_cells Hab1.out.r 0
      have rf1:=free_of_cells Hab1.out.r 1
      have rf2:=free_of_cells Hab1.out.r 2
      have rl:=lt_of_block Hab1.out.r
      have sr0:=cell_of_cells hb9 0
      have sr1:=cell_of_cells hb9 1
      have sr2:=cell_of_cells hb9 2
      clear p0 pl e2
      obtain⟨Hmay,Hb9,K9,Hkf,Sr0,Sr1,Sr2⟩:=hid7 hmay hb9 k9 hkf sr0 sr1 sr2;clear sr2 sr1 sr0 hkf k9 hb9 hmay
      go_wp2
      have R0':=Sr0.out
      have R1':=Sr1.out
      have R2':=Sr2.out
      clear r0 r1 r2
      exact bodyPost_ret (v:= .tuple #[.agg #[.slice none 0 0, .int .i64 0, .int .i64 0], .slice none 0 0, .int .i64 1]) (by simp [results,Tryz.results9,go_sem,R0',R1',R2']) rfl ⟨_,_,rfl,World.ownsRow_nil _ _ _ _,World.ownsRow_nil _ _ _ _,Hkf.out,by simp [Value.ownBlock],by simp [Value.ownBlock]⟩
     ·by_cases a1:10000000<am
      ·have hmf:mayA ⟨L,cr,du⟩ R ⟨ki,da,tr,am,re⟩=false:=by rw [hmay];simp [k6,a1]
       subst k6
       replace hmay:=hmf
       clear hmf
       have hA:=HA.out
       unfold applyR at hA
       rw [hmay,if_neg (by decide)] at hA
       subst hA
       have hS3:=store3 Hab1.out.r (.slice none 0 0) (.int .i64 0) (.int .i64 0)
       obtain⟨hb9,k9⟩:=hS3
       have hkf:=Hab1.out.kp.trans (k9.mono fun i _ e=> .inr (by have e':i=w.heap.size+1+1:=e;omega))
       have r0:=cell_of_cells Hab1.out.r 0
       have r1:=cell_of_cells Hab1.out.r 1
       have r2:=cell_of_cells Hab1.out.r 2
       have rf0:=free_of_cells Hab1.out.r 0
       have rf1:=free_of_cells Hab1.out.r 1
       have rf2:=free_of_cells Hab1.out.r 2
       have rl:=lt_of_block Hab1.out.r
       have sr0:=cell_of_cells hb9 0
       have sr1:=cell_of_cells hb9 1
       have sr2:=cell_of_cells hb9 2
       clear p0 pl e2
       obtain⟨Hmay,Hb9,K9,Hkf,Sr0,Sr1,Sr2⟩:=hid7 hmay hb9 k9 hkf sr0 sr1 sr2;clear sr2 sr1 sr0 hkf k9 hb9 hmay
       go_wp2
       have R0':=Sr0.out
       have R1':=Sr1.out
       have R2':=Sr2.out
       clear r0 r1 r2
       exact bodyPost_ret (v:= .tuple #[.agg #[.slice none 0 0, .int .i64 0, .int .i64 0], .slice none 0 0, .int .i64 1]) (by simp [results,Tryz.results9,go_sem,R0',R1',R2']) rfl ⟨_,_,rfl,World.ownsRow_nil _ _ _ _,World.ownsRow_nil _ _ _ _,Hkf.out,by simp [Value.ownBlock],by simp [Value.ownBlock]⟩
      ·have hmt:mayA ⟨L,cr,du⟩ R ⟨ki,da,tr,am,re⟩=true:=by rw [hmay];simp [a0,a1]
       subst k6
       replace hmay:=hmt
       clear hmt
       have hA:=HA.out
       unfold applyR at hA
       rw [hmay,if_pos rfl] at hA
       obtain⟨hpr,hlen,hrt,hk1,hk6,htr,ham⟩:=mayA_ok hmay
       simp only at hlen hk1 hk6 htr ham
       obtain rfl:i=n:=by rw [←HRm.out,hlen,HN.out]
       obtain⟨hbal,hcr,hdu,hn1,hn8⟩:=right_nums hpr
       simp only at hbal hcr hdu hn1 hn8
       rw [HN.out] at hn1 hn8
       have hcp:=fun W (hW:Keeps (fun _=>False) w W)=>r11Copy_any L cr du ad cap i W (Hr.out.keeps hW (by simp)) hl
       clear p0 pl e0 e2 e3 el HA
       obtain⟨Hmay,Hpr,Hlen,Hrt,Hbal,Hcr,Hdu,Hcp,HA⟩:=hid9 hmay hpr hlen hrt hbal hcr hdu hcp hA;clear hA hcp hdu hcr hbal hrt hlen hpr hmay;obtain⟨Htr,Ham⟩:=hid2 htr ham;clear ham htr
       have e0:=cell_of_cells Hab1.out.e 0
       have e3:=cell_of_cells Hab1.out.e 3
       have el:=lt_of_block Hab1.out.e
       go_wp2_with (at_builtin;refine wpList_append_row rfl (.const (.slice none 0 0)) (.tmp 91) 22 rfl 0 2 i0 _ 1 8 Tryz.underlying22 Hi.out Hi0.out Hi1.out Hi2.out rfl (by decide) _ 0 [] rfl (World.ownsRow_nil _ _ _ _) _ i (R.flatMap i64c) rfl (HR.out.keeps Hab1.out.kp (by simp)) (i64c_one _) (by unfold maxLen;omega) (by omega) (by omega) ?_;intro v2 w2 hown2 hk2 hf2;refine haltD ?_)
       refine Lib.hid ?_
       have hrr2:w2.ownsRow 0 2 1 v2 i (R.flatMap i64c):=by simpa using hown2
       have hf2w:Fresh W1 w2 v2:=(Fresh.nil W1).app hk2 hf2
       obtain⟨gr,cr2,rfl⟩:=owns_head hrr2 hn1
       have hab2:=Hab1.out.keep0 hf2w.1
       have hpb2:=box_old Hpb1.out hf2w.1 (by simp)
       have hg2':∀j,(Value.slice (some ⟨gr,0,none⟩) i cr2).ownBlock=some j→w.heap.size+1+1<j:=fun j e=>by have:=hf2w.2 j e;have:=lt_of_block Hab1.out.r;omega
       clear hown2 hk2 hf2 e0 e3 el
       have p0:=cell_of_cells hpb2 0
       have p1:=cell_of_cells hpb2 1
       have p2:=cell_of_cells hpb2 2
       have pl:=lt_of_block hpb2
       obtain⟨Hrr2,Hf2w,Hab2,Hpb2,Hg2'⟩:=hid5 hrr2 hf2w hab2 hpb2 hg2';clear hg2' hpb2 hab2 hf2w hrr2
       go_wp2_with fail
       refine(Hcp.out _ Hab2.out.kp).mono ?_
       rintro e w3 ⟨v3,rfl,hrb3,hf3⟩
       obtain⟨gb,cb,rfl⟩:=owns_head hrb3 hn1
       clear p0 p1 p2 pl
       have hab3:=Hab2.out.keep0 hf3.1
       have hpb3:=box_old Hpb2.out hf3.1 (by simp)
       have hrr3:=Hrr2.out.of_keeps hf3.1
       obtain⟨Hab3,Hpb3,Hrr3,Hrb3,Hf3⟩:=hid5 hab3 hpb3 hrr3 hrb3 hf3;clear hf3 hrb3 hrr3 hpb3 hab3
       go_upto_region 12 with fail
       obtain⟨W4,hW4⟩:∃x,x=w3.alloc (.cells #[.slice (some ⟨gb,0,none⟩) i cb, .int .i64 cr, .int .i64 du] 24):=⟨_,rfl⟩
       rw [←hW4]
       obtain⟨B,hB⟩:∃x,x=w3.heap.size:=⟨_,rfl⟩
       rw [←hB]
       have hk4:Keeps (fun _=>False) w3 W4:=by rw [hW4];exact Keeps.alloc _ _
       have hcb4:W4.heap[B]?=some (.cells #[.slice (some ⟨gb,0,none⟩) i cb, .int .i64 cr, .int .i64 du] 24 (0,0)):=by rw [hW4,hB];exact heap_alloc_new _ _
       have hab4:=Hab3.out.keep0 hk4
       have hpb4:=box_old Hpb3.out hk4 (by simp)
       have hrr4:=Hrr3.out.of_keeps hk4
       have hrb4:=Hrb3.out.of_keeps hk4
       have hBl:w.heap.size+1+1<B:=by have:=lt_of_block Hab3.out.r;omega
       have hgB:∀j,(Value.slice (some ⟨gr,0,none⟩) i cr2).ownBlock=some j→j<B:=fun j e=>by have:=own_lt Hrr3.out e;omega
       clear hW4 hB
       obtain⟨Hk4,Hcb4,Hab4,Hpb4,Hrr4,Hrb4,HBl,HgB⟩:=hid8 hk4 hcb4 hab4 hpb4 hrr4 hrb4 hBl hgB;clear hgB hBl hrb4 hrr4 hpb4 hab4 hcb4 hk4
       have hA:=HA.out
       clear HA
       simp [applyQ,applyRt] at hA
       subst hA
       obtain⟨t0,t1⟩:=Htr.out (by decide)
       rw [HRm.out] at t1
       obtain⟨h,hh⟩:∃h:Nat,(h:Int)=tr-1:=⟨(tr-1).toNat,by omega⟩
       have hin:h<i:=by omega
       have hit:(tr-1).toNat=h:=by omega
       have hit2:tr.toNat-1=h:=by omega
       have hrz:RowZ W4 2 gr i cr2 R:=⟨Hrr4.out,HRm.out⟩
       obtain⟨x,hx⟩:=get_some (L:=R) (k:=h) (by rw [HRm.out];exact hin)
       have cx:=hrz.cell hx
       have fx:=hrz.free h
       have lx:=hrz.lt
       have hnew:=hrz.set hin am
       have hgl:w.heap.size+1+1<gr:=Hg2'.out gr rfl
       have hgB:gr<B:=HgB.out gr rfl
       have hg23:¬gb=gr:=fun e=>by have h1:=Hf3.out.2 gb rfl;have h2:=own_lt Hrr2.out (show(Value.slice (some ⟨gr,0,none⟩) i cr2).ownBlock=some gr from rfl);omega
       have hgbl:w.heap.size+1+1<gb:=by have h1:=Hf3.out.2 gb rfl;have h2:=lt_of_block Hab2.out.r;omega
       have k5:Keeps (fun j=>j=gr) W4 (W4.setCell ⟨gr,h,none⟩ (.int .i64 am)):=Keeps.setCell _ _ _ rfl
       have hab5:AB #[.int .i64 6, .int .i64 da, .int .i64 tr, .int .i64 am, .int .i64 re] w (W4.setCell ⟨gr,h,none⟩ (.int .i64 am)):=Hab4.out.keepB k5 hgl
       have hrb5:=k5.row Hrb4.out (fun j hj e=>by have e':j=gr:=e;simp only [Value.ownBlock,Option.some.injEq] at hj;exact hg23 (by omega))
       have p0:=cell_of_cells Hcb4.out 0
       have p1:=cell_of_cells Hcb4.out 1
       have p2:=cell_of_cells Hcb4.out 2
       have pl4:=lt_of_block Hcb4.out
       have e0:=cell_of_cells Hab4.out.e 0
       have e2:=cell_of_cells Hab4.out.e 2
       have e3:=cell_of_cells Hab4.out.e 3
       have el4:=lt_of_block Hab4.out.e
       have r0:=cell_of_cells Hab4.out.r 0
       have r1:=cell_of_cells Hab4.out.r 1
       have r2:=cell_of_cells Hab4.out.r 2
       have rf0:=free_of_cells Hab4.out.r 0
       have rf1:=free_of_cells Hab4.out.r 1
       have rf2:=free_of_cells Hab4.out.r 2
       have rl:=lt_of_block Hab4.out.r
       have hgrB:¬B=gr:=by omega
       have hgBr:¬gr=B:=by omega
       have hgre:¬w.heap.size+1=gr:=by omega
       have hger:¬gr=w.heap.size+1:=by omega
       have hgrr:¬w.heap.size+1+1=gr:=by omega
       have hgrr2:¬gr=w.heap.size+1+1:=by omega
       have q1:(0:Int)≤tr-1:=by omega
       have q2:tr-1<(i:Int):=by omega
       have q4:IntKind.i64.wrap (tr-1)=tr-1:=IntWalk.i64_in _ ⟨by omega,by omega⟩
       have hS3:=store3 hab5.r (.slice (some ⟨gb,0,none⟩) i cb) (.int .i64 cr) (.int .i64 du)
       obtain⟨hb9,k9⟩:=hS3
       have hkf:=hab5.kp.trans (k9.mono fun j _ e=> .inr (by have e':j=w.heap.size+1+1:=e;omega))
       have hrow9:=k9.row hrb5 (fun j hj e=>by have e':j=w.heap.size+1+1:=e;simp only [Value.ownBlock,Option.some.injEq] at hj;omega)
       have hrr9:=k9.row hnew.1 (fun j hj e=>by have e':j=w.heap.size+1+1:=e;simp only [Value.ownBlock,Option.some.injEq] at hj;omega)
       have sr0:=cell_of_cells hb9 0
       have sr1:=cell_of_cells hb9 1
       have sr2:=cell_of_cells hb9 2
       have hlen9:=hnew.2
       obtain⟨Hrz,Hx,Hnew,K5,Hab5,Hrb5,Hb9,K9,Hkf⟩:=hid9 hrz hx hnew k5 hab5 hrb5 hb9 k9 hkf;clear hkf k9 hb9 hrb5 hab5 k5 hnew hx hrz;obtain⟨Hrow9,Hrr9,Sr0,Sr1,Sr2,Hlen9,Hh,Hit2⟩:=hid8 hrow9 hrr9 sr0 sr1 sr2 hlen9 hh hit2;clear hit2 hh hlen9 sr2 sr1 sr0 hrr9 hrow9
       go_wp2
       have R0':=Sr0.out
       have R1':=Sr1.out
       have R2':=Sr2.out
       clear r0 r1 r2 p0 p1 p2
       exact bodyPost_ret (v:= .tuple #[.agg #[.slice (some ⟨gb,0,none⟩) i cb, .int .i64 cr, .int .i64 du], .slice (some ⟨gr,0,none⟩) i cr2, .int .i64 0]) (by simp [results,Tryz.results9,go_sem,R0',R1',R2']) rfl ⟨_,_,rfl,by rw [HN.out];exact Hrow9.out,by rw [Hit2.out,Hlen9.out];exact Hrr9.out,Hkf.out,fun j hj=>by simp only [Value.ownBlock,Option.some.injEq] at hj;omega,fun j hj=>by simp only [Value.ownBlock,Option.some.injEq] at hj;omega⟩
    ·have hmt:mayA ⟨L,cr,du⟩ R ⟨ki,da,tr,am,re⟩=true:=by rw [hmay];simp [k6]
     have k6b:(ki==6)=false:=beq_eq_false_iff_ne.2 k6
     replace hmay:=hmt
     clear hmt
     have hA:=HA.out
     unfold applyR at hA
     rw [hmay,if_pos rfl] at hA
     obtain⟨hpr,hlen,hrt,hk1,hk6,htr,ham⟩:=mayA_ok hmay
     simp only at hlen hk1 hk6 htr ham
     obtain rfl:i=n:=by rw [←HRm.out,hlen,HN.out]
     obtain⟨hbal,hcr,hdu,hn1,hn8⟩:=right_nums hpr
     simp only at hbal hcr hdu hn1 hn8
     rw [HN.out] at hn1 hn8
     have hcp:=fun W (hW:Keeps (fun _=>False) w W)=>r11Copy_any L cr du ad cap i W (Hr.out.keeps hW (by simp)) hl
     clear p0 pl e0 e2 e3 el HA
     obtain⟨Hmay,Hpr,Hlen,Hrt,Hbal,Hcr,Hdu,Hcp,HA⟩:=hid9 hmay hpr hlen hrt hbal hcr hdu hcp hA;clear hA hcp hdu hcr hbal hrt hlen hpr hmay;obtain⟨Htr,Ham⟩:=hid2 htr ham;clear ham htr
     have e0:=cell_of_cells Hab1.out.e 0
     have e3:=cell_of_cells Hab1.out.e 3
     have el:=lt_of_block Hab1.out.e
     go_wp2_with (at_builtin;refine wpList_append_row rfl (.const (.slice none 0 0)) (.tmp 91) 22 rfl 0 2 i0 _ 1 8 Tryz.underlying22 Hi.out Hi0.out Hi1.out Hi2.out rfl (by decide) _ 0 [] rfl (World.ownsRow_nil _ _ _ _) _ i (R.flatMap i64c) rfl (HR.out.keeps Hab1.out.kp (by simp)) (i64c_one _) (by unfold maxLen;omega) (by omega) (by omega) ?_;intro v2 w2 hown2 hk2 hf2;refine haltD ?_)
     refine Lib.hid ?_
     have hrr2:w2.ownsRow 0 2 1 v2 i (R.flatMap i64c):=by simpa using hown2
     have hf2w:Fresh W1 w2 v2:=(Fresh.nil W1).app hk2 hf2
     obtain⟨gr,cr2,rfl⟩:=owns_head hrr2 hn1
     have hab2:=Hab1.out.keep0 hf2w.1
     have hpb2:=box_old Hpb1.out hf2w.1 (by simp)
     have hg2':∀j,(Value.slice (some ⟨gr,0,none⟩) i cr2).ownBlock=some j→w.heap.size+1+1<j:=fun j e=>by have:=hf2w.2 j e;have:=lt_of_block Hab1.out.r;omega
     clear hown2 hk2 hf2 e0 e3 el
     have p0:=cell_of_cells hpb2 0
     have p1:=cell_of_cells hpb2 1
     have p2:=cell_of_cells hpb2 2
     have pl:=lt_of_block hpb2
     obtain⟨Hrr2,Hf2w,Hab2,Hpb2,Hg2'⟩:=hid5 hrr2 hf2w hab2 hpb2 hg2';clear hg2' hpb2 hab2 hf2w hrr2
     go_wp2_with fail
     refine(Hcp.out _ Hab2.out.kp).mono ?_
     rintro e w3 ⟨v3,rfl,hrb3,hf3⟩
     obtain⟨gb,cb,rfl⟩:=owns_head hrb3 hn1
     clear p0 p1 p2 pl
     have hab3:=Hab2.out.keep0 hf3.1
     have hpb3:=box_old Hpb2.out hf3.1 (by simp)
     have hrr3:=Hrr2.out.of_keeps hf3.1
     obtain⟨Hab3,Hpb3,Hrr3,Hrb3,Hf3⟩:=hid5 hab3 hpb3 hrr3 hrb3 hf3;clear hf3 hrb3 hrr3 hpb3 hab3
     go_upto_region 12 with fail
     obtain⟨W4,hW4⟩:∃x,x=w3.alloc (.cells #[.slice (some ⟨gb,0,none⟩) i cb, .int .i64 cr, .int .i64 du] 24):=⟨_,rfl⟩
     rw [←hW4]
     obtain⟨B,hB⟩:∃x,x=w3.heap.size:=⟨_,rfl⟩
     rw [←hB]
     have hk4:Keeps (fun _=>False) w3 W4:=by rw [hW4];exact Keeps.alloc _ _
     have hcb4:W4.heap[B]?=some (.cells #[.slice (some ⟨gb,0,none⟩) i cb, .int .i64 cr, .int .i64 du] 24 (0,0)):=by rw [hW4,hB];exact heap_alloc_new _ _
     have hab4:=Hab3.out.keep0 hk4
     have hpb4:=box_old Hpb3.out hk4 (by simp)
     have hrr4:=Hrr3.out.of_keeps hk4
     have hrb4:=Hrb3.out.of_keeps hk4
     have hBl:w.heap.size+1+1<B:=by have:=lt_of_block Hab3.out.r;omega
     have hgB:∀j,(Value.slice (some ⟨gr,0,none⟩) i cr2).ownBlock=some j→j<B:=fun j e=>by have:=own_lt Hrr3.out e;omega
     clear hW4 hB
     obtain⟨Hk4,Hcb4,Hab4,Hpb4,Hrr4,Hrb4,HBl,HgB⟩:=hid8 hk4 hcb4 hab4 hpb4 hrr4 hrb4 hBl hgB;clear hgB hBl hrb4 hrr4 hpb4 hab4 hcb4 hk4
     have hkk:ki=1∨ki=2∨ki=3∨ki=4∨ki=5:=by have:=k6;omega
     rcases hkk with rfl|rfl|rfl|rfl|rfl
     ·skip
      have hA:=HA.out
      clear HA
      simp [applyQ,applyRt] at hA
      obtain⟨⟨q,z⟩,hq⟩:∃q,chargeR ⟨L,cr,du⟩ tr am=q:=⟨_,rfl⟩
      rw [hq] at hA
      have hcall:=fun W (hW:Keeps (fun _=>False) W4 W)=>r11Charge_any L cr du tr am ad cap i W (Hr.out.keeps (Hab4.out.kp.nt hW) (by simp)) HN.out hl
      rw [hq] at hcall
      simp only at hA hcall
      have p0:=cell_of_cells Hpb4.out 0
      have p1:=cell_of_cells Hpb4.out 1
      have p2:=cell_of_cells Hpb4.out 2
      have pl4:=lt_of_block Hpb4.out
      have e0:=cell_of_cells Hab4.out.e 0
      have e2:=cell_of_cells Hab4.out.e 2
      have e3:=cell_of_cells Hab4.out.e 3
      have el4:=lt_of_block Hab4.out.e
      obtain⟨Hq,Hcall⟩:=hid2 hq hcall;clear hcall hq
      go_wp2_with fail
      refine(Hcall.out _ (Keeps.refl _ _)).mono ?_
      rintro e w5 ⟨v5,rfl,hrow5,hf5⟩
      obtain⟨a5,m5,rfl⟩:∃a c,v5= .slice a q.bal.length c:=by obtain⟨a,c,h,_⟩:=ownsRow_shape hrow5;exact⟨a,c,h⟩
      clear e0 e2 e3 el4 p0 p1 p2 pl4
      have hab5:=Hab4.out.keep0 hf5.1
      have hcb5:=box_old Hcb4.out hf5.1 (by simp)
      have hrr5:=Hrr4.out.of_keeps hf5.1
      obtain⟨hcb6,k6⟩:=store3 hcb5 (.slice a5 q.bal.length m5) (.int .i64 q.cr) (.int .i64 q.du)
      have hab6:=hab5.keepB k6 HBl.out
      have hg5:∀j,(Value.slice a5 q.bal.length m5).ownBlock=some j→B<j:=fun j e=>by have:=hf5.2 j e;have:=lt_of_block Hcb4.out;omega
      have hrow6:=k6.row hrow5 (fun j hj e=>by have e':j=B:=e;have:=hg5 j hj;omega)
      have hrr6:=k6.row hrr5 (fun j hj e=>by have e':j=B:=e;have:=HgB.out j hj;omega)
      have p0:=cell_of_cells hcb5 0
      have p1:=cell_of_cells hcb5 1
      have p2:=cell_of_cells hcb5 2
      have q0:=free_of_cells hcb5 0
      have q1:=free_of_cells hcb5 1
      have q2:=free_of_cells hcb5 2
      have pl:=lt_of_block hcb5
      have r0:=cell_of_cells hab5.r 0
      have r1:=cell_of_cells hab5.r 1
      have r2:=cell_of_cells hab5.r 2
      have rf0:=free_of_cells hab5.r 0
      have rf1:=free_of_cells hab5.r 1
      have rf2:=free_of_cells hab5.r 2
      have rl:=lt_of_block hab5.r
      have hBl1:¬w.heap.size+1+1=B:=by have:=HBl.out;omega
      have hBl2:¬B=w.heap.size+1+1:=by have:=HBl.out;omega
      by_cases hz0:z=0
      ·subst hz0
       rw [if_pos rfl] at hA
       subst hA
       have hS3:=store3 hab6.r (.slice a5 q.bal.length m5) (.int .i64 q.cr) (.int .i64 q.du)
       obtain⟨hb9,k9⟩:=hS3
       have hkf:=hab6.kp.trans (k9.mono fun j _ e=> .inr (by have e':j=w.heap.size+1+1:=e;omega))
       have hrow9:=k9.row hrow6 (fun j hj e=>by have e':j=w.heap.size+1+1:=e;have:=hg5 j hj;have:=HBl.out;omega)
       have hrr9:=k9.row hrr6 (fun j hj e=>by have e':j=w.heap.size+1+1:=e;have:=Hg2'.out j hj;omega)
       have sr0:=cell_of_cells hb9 0
       have sr1:=cell_of_cells hb9 1
       have sr2:=cell_of_cells hb9 2
       obtain⟨Hrow5,Hf5,Hab5,Hcb5,Hrr5,Hcb6,K6,Hab6,Hg5⟩:=hid9 hrow5 hf5 hab5 hcb5 hrr5 hcb6 k6 hab6 hg5;clear hg5 hab6 k6 hcb6 hrr5 hcb5 hab5 hf5 hrow5;obtain⟨Hrow6,Hrr6,Hb9,K9,Hkf,Hrow9,Hrr9,Sr0,Sr1⟩:=hid9 hrow6 hrr6 hb9 k9 hkf hrow9 hrr9 sr0 sr1;clear sr1 sr0 hrr9 hrow9 hkf k9 hb9 hrr6 hrow6;have Sr2:=Lib.hid sr2;clear sr2
       go_wp2
       have R0':=Sr0.out
       have R1':=Sr1.out
       have R2':=Sr2.out
       clear r0 r1 r2 p0 p1 p2
       exact bodyPost_ret (v:= .tuple #[.agg #[.slice a5 q.bal.length m5, .int .i64 q.cr, .int .i64 q.du], .slice (some ⟨gr,0,none⟩) i cr2, .int .i64 0]) (by simp [results,Tryz.results9,go_sem,R0',R1',R2']) rfl ⟨_,_,rfl,Hrow9.out,by rw [HRm.out];exact Hrr9.out,Hkf.out,fun j hj=>by have:=Hg5.out j hj;have:=HBl.out;omega,fun j hj=>by have:=Hg2'.out j hj;omega⟩
      ·rw [if_neg hz0] at hA
       subst hA
       have hz1:(z !=0)=true:=by simp [hz0]
       have hS3:=store3 hab6.r (.slice none 0 0) (.int .i64 0) (.int .i64 0)
       obtain⟨hb9,k9⟩:=hS3
       have hkf:=hab6.kp.trans (k9.mono fun j _ e=> .inr (by have e':j=w.heap.size+1+1:=e;omega))
       have sr0:=cell_of_cells hb9 0
       have sr1:=cell_of_cells hb9 1
       have sr2:=cell_of_cells hb9 2
       obtain⟨Hrow5,Hf5,Hab5,Hcb5,Hrr5,Hcb6,K6,Hab6,Hg5⟩:=hid9 hrow5 hf5 hab5 hcb5 hrr5 hcb6 k6 hab6 hg5;clear hg5 hab6 k6 hcb6 hrr5 hcb5 hab5 hf5 hrow5;obtain⟨Hrow6,Hrr6,Hb9,K9,Hkf,Sr0,Sr1,Sr2,Hz0⟩:=hid9 hrow6 hrr6 hb9 k9 hkf sr0 sr1 sr2 hz0;clear hz0 sr2 sr1 sr0 hkf k9 hb9 hrr6 hrow6
       go_wp2
       have R0':=Sr0.out
       have R1':=Sr1.out
       have R2':=Sr2.out
       clear r0 r1 r2 p0 p1 p2
       exact bodyPost_ret (v:= .tuple #[.agg #[.slice none 0 0, .int .i64 0, .int .i64 0], .slice none 0 0, .int .i64 z]) (by simp [results,Tryz.results9,go_sem,R0',R1',R2']) rfl ⟨_,_,rfl,World.ownsRow_nil _ _ _ _,World.ownsRow_nil _ _ _ _,Hkf.out,by simp [Value.ownBlock],by simp [Value.ownBlock]⟩
     ·skip
      have hA:=HA.out
      clear HA
      simp [applyQ,applyRt] at hA
      obtain⟨⟨q,z⟩,hq⟩:∃q,payR ⟨L,cr,du⟩ R am=q:=⟨_,rfl⟩
      rw [hq] at hA
      have hcall:=fun W (hW:Keeps (fun _=>False) W4 W)=>r11Pay_any L R cr du am ad (some ⟨gr,0,none⟩) cap cr2 i W (Hr.out.keeps (Hab4.out.kp.nt hW) (by simp)) HN.out hl ((Reads.of_owns Hrr4.out).keeps hW (by simp)) HRm.out
      rw [hq] at hcall
      simp only at hA hcall
      have p0:=cell_of_cells Hpb4.out 0
      have p1:=cell_of_cells Hpb4.out 1
      have p2:=cell_of_cells Hpb4.out 2
      have pl4:=lt_of_block Hpb4.out
      have e0:=cell_of_cells Hab4.out.e 0
      have e2:=cell_of_cells Hab4.out.e 2
      have e3:=cell_of_cells Hab4.out.e 3
      have el4:=lt_of_block Hab4.out.e
      obtain⟨Hq,Hcall⟩:=hid2 hq hcall;clear hcall hq
      go_wp2_with fail
      refine(Hcall.out _ (Keeps.refl _ _)).mono ?_
      rintro e w5 ⟨v5,rfl,hrow5,hf5⟩
      obtain⟨a5,m5,rfl⟩:∃a c,v5= .slice a q.bal.length c:=by obtain⟨a,c,h,_⟩:=ownsRow_shape hrow5;exact⟨a,c,h⟩
      clear e0 e2 e3 el4 p0 p1 p2 pl4
      have hab5:=Hab4.out.keep0 hf5.1
      have hcb5:=box_old Hcb4.out hf5.1 (by simp)
      have hrr5:=Hrr4.out.of_keeps hf5.1
      obtain⟨hcb6,k6⟩:=store3 hcb5 (.slice a5 q.bal.length m5) (.int .i64 q.cr) (.int .i64 q.du)
      have hab6:=hab5.keepB k6 HBl.out
      have hg5:∀j,(Value.slice a5 q.bal.length m5).ownBlock=some j→B<j:=fun j e=>by have:=hf5.2 j e;have:=lt_of_block Hcb4.out;omega
      have hrow6:=k6.row hrow5 (fun j hj e=>by have e':j=B:=e;have:=hg5 j hj;omega)
      have hrr6:=k6.row hrr5 (fun j hj e=>by have e':j=B:=e;have:=HgB.out j hj;omega)
      have p0:=cell_of_cells hcb5 0
      have p1:=cell_of_cells hcb5 1
      have p2:=cell_of_cells hcb5 2
      have q0:=free_of_cells hcb5 0
      have q1:=free_of_cells hcb5 1
      have q2:=free_of_cells hcb5 2
      have pl:=lt_of_block hcb5
      have r0:=cell_of_cells hab5.r 0
      have r1:=cell_of_cells hab5.r 1
      have r2:=cell_of_cells hab5.r 2
      have rf0:=free_of_cells hab5.r 0
      have rf1:=free_of_cells hab5.r 1
      have rf2:=free_of_cells hab5.r 2
      have rl:=lt_of_block hab5.r
      have hBl1:¬w.heap.size+1+1=B:=by have:=HBl.out;omega
      have hBl2:¬B=w.heap.size+1+1:=by have:=HBl.out;omega
      by_cases hz0:z=0
      ·subst hz0
       rw [if_pos rfl] at hA
       subst hA
       have hS3:=store3 hab6.r (.slice a5 q.bal.length m5) (.int .i64 q.cr) (.int .i64 q.du)
       obtain⟨hb9,k9⟩:=hS3
       have hkf:=hab6.kp.trans (k9.mono fun j _ e=> .inr (by have e':j=w.heap.size+1+1:=e;omega))
       have hrow9:=k9.row hrow6 (fun j hj e=>by have e':j=w.heap.size+1+1:=e;have:=hg5 j hj;have:=HBl.out;omega)
       have hrr9:=k9.row hrr6 (fun j hj e=>by have e':j=w.heap.size+1+1:=e;have:=Hg2'.out j hj;omega)
       have sr0:=cell_of_cells hb9 0
       have sr1:=cell_of_cells hb9 1
       have sr2:=cell_of_cells hb9 2
       obtain⟨Hrow5,Hf5,Hab5,Hcb5,Hrr5,Hcb6,K6,Hab6,Hg5⟩:=hid9 hrow5 hf5 hab5 hcb5 hrr5 hcb6 k6 hab6 hg5;clear hg5 hab6 k6 hcb6 hrr5 hcb5 hab5 hf5 hrow5;obtain⟨Hrow6,Hrr6,Hb9,K9,Hkf,Hrow9,Hrr9,Sr0,Sr1⟩:=hid9 hrow6 hrr6 hb9 k9 hkf hrow9 hrr9 sr0 sr1;clear sr1 sr0 hrr9 hrow9 hkf k9 hb9 hrr6 hrow6;have Sr2:=Lib.hid sr2;clear sr2
       go_wp2
       have R0':=Sr0.out
       have R1':=Sr1.out
       have R2':=Sr2.out
       clear r0 r1 r2 p0 p1 p2
       exact bodyPost_ret (v:= .tuple #[.agg #[.slice a5 q.bal.length m5, .int .i64 q.cr, .int .i64 q.du], .slice (some ⟨gr,0,none⟩) i cr2, .int .i64 0]) (by simp [results,Tryz.results9,go_sem,R0',R1',R2']) rfl ⟨_,_,rfl,Hrow9.out,by rw [HRm.out];exact Hrr9.out,Hkf.out,fun j hj=>by have:=Hg5.out j hj;have:=HBl.out;omega,fun j hj=>by have:=Hg2'.out j hj;omega⟩
      ·rw [if_neg hz0] at hA
       subst hA
       have hz1:(z !=0)=true:=by simp [hz0]
       have hS3:=store3 hab6.r (.slice none 0 0) (.int .i64 0) (.int .i64 0)
       obtain⟨hb9,k9⟩:=hS3
       have hkf:=hab6.kp.trans (k9.mono fun j _ e=> .inr (by have e':j=w.heap.size+1+1:=e;omega))
       have sr0:=cell_of_cells hb9 0
       have sr1:=cell_of_cells hb9 1
       have sr2:=cell_of_cells hb9 2
       obtain⟨Hrow5,Hf5,Hab5,Hcb5,Hrr5,Hcb6,K6,Hab6,Hg5⟩:=hid9 hrow5 hf5 hab5 hcb5 hrr5 hcb6 k6 hab6 hg5;clear hg5 hab6 k6 hcb6 hrr5 hcb5 hab5 hf5 hrow5;obtain⟨Hrow6,Hrr6,Hb9,K9,Hkf,Sr0,Sr1,Sr2,Hz0⟩:=hid9 hrow6 hrr6 hb9 k9 hkf sr0 sr1 sr2 hz0;clear hz0 sr2 sr1 sr0 hkf k9 hb9 hrr6 hrow6
       go_wp2
       have R0':=Sr0.out
       have R1':=Sr1.out
       have R2':=Sr2.out
       clear r0 r1 r2 p0 p1 p2
       exact bodyPost_ret (v:= .tuple #[.agg #[.slice none 0 0, .int .i64 0, .int .i64 0], .slice none 0 0, .int .i64 z]) (by simp [results,Tryz.results9,go_sem,R0',R1',R2']) rfl ⟨_,_,rfl,World.ownsRow_nil _ _ _ _,World.ownsRow_nil _ _ _ _,Hkf.out,by simp [Value.ownBlock],by simp [Value.ownBlock]⟩
     ·skip
      have hA:=HA.out
      clear HA
      simp [applyQ,applyRt] at hA
      obtain⟨⟨q,z⟩,hq⟩:∃q,giveR ⟨L,cr,du⟩ R tr am=q:=⟨_,rfl⟩
      rw [hq] at hA
      have hcall:=fun W (hW:Keeps (fun _=>False) W4 W)=>r11Give_any L R cr du tr am ad (some ⟨gr,0,none⟩) cap cr2 i W (Hr.out.keeps (Hab4.out.kp.nt hW) (by simp)) HN.out hl ((Reads.of_owns Hrr4.out).keeps hW (by simp)) HRm.out
      rw [hq] at hcall
      simp only at hA hcall
      have p0:=cell_of_cells Hpb4.out 0
      have p1:=cell_of_cells Hpb4.out 1
      have p2:=cell_of_cells Hpb4.out 2
      have pl4:=lt_of_block Hpb4.out
      have e0:=cell_of_cells Hab4.out.e 0
      have e2:=cell_of_cells Hab4.out.e 2
      have e3:=cell_of_cells Hab4.out.e 3
      have el4:=lt_of_block Hab4.out.e
      obtain⟨Hq,Hcall⟩:=hid2 hq hcall;clear hcall hq
      go_wp2_with fail
      refine(Hcall.out _ (Keeps.refl _ _)).mono ?_
      rintro e w5 ⟨v5,rfl,hrow5,hf5⟩
      obtain⟨a5,m5,rfl⟩:∃a c,v5= .slice a q.bal.length c:=by obtain⟨a,c,h,_⟩:=ownsRow_shape hrow5;exact⟨a,c,h⟩
      clear e0 e2 e3 el4 p0 p1 p2 pl4
      have hab5:=Hab4.out.keep0 hf5.1
      have hcb5:=box_old Hcb4.out hf5.1 (by simp)
      have hrr5:=Hrr4.out.of_keeps hf5.1
      obtain⟨hcb6,k6⟩:=store3 hcb5 (.slice a5 q.bal.length m5) (.int .i64 q.cr) (.int .i64 q.du)
      have hab6:=hab5.keepB k6 HBl.out
      have hg5:∀j,(Value.slice a5 q.bal.length m5).ownBlock=some j→B<j:=fun j e=>by have:=hf5.2 j e;have:=lt_of_block Hcb4.out;omega
      have hrow6:=k6.row hrow5 (fun j hj e=>by have e':j=B:=e;have:=hg5 j hj;omega)
      have hrr6:=k6.row hrr5 (fun j hj e=>by have e':j=B:=e;have:=HgB.out j hj;omega)
      have p0:=cell_of_cells hcb5 0
      have p1:=cell_of_cells hcb5 1
      have p2:=cell_of_cells hcb5 2
      have q0:=free_of_cells hcb5 0
      have q1:=free_of_cells hcb5 1
      have q2:=free_of_cells hcb5 2
      have pl:=lt_of_block hcb5
      have r0:=cell_of_cells hab5.r 0
      have r1:=cell_of_cells hab5.r 1
      have r2:=cell_of_cells hab5.r 2
      have rf0:=free_of_cells hab5.r 0
      have rf1:=free_of_cells hab5.r 1
      have rf2:=free_of_cells hab5.r 2
      have rl:=lt_of_block hab5.r
      have hBl1:¬w.heap.size+1+1=B:=by have:=HBl.out;omega
      have hBl2:¬B=w.heap.size+1+1:=by have:=HBl.out;omega
      by_cases hz0:z=0
      ·subst hz0
       rw [if_pos rfl] at hA
       subst hA
       have hS3:=store3 hab6.r (.slice a5 q.bal.length m5) (.int .i64 q.cr) (.int .i64 q.du)
       obtain⟨hb9,k9⟩:=hS3
       have hkf:=hab6.kp.trans (k9.mono fun j _ e=> .inr (by have e':j=w.heap.size+1+1:=e;omega))
       have hrow9:=k9.row hrow6 (fun j hj e=>by have e':j=w.heap.size+1+1:=e;have:=hg5 j hj;have:=HBl.out;omega)
       have hrr9:=k9.row hrr6 (fun j hj e=>by have e':j=w.heap.size+1+1:=e;have:=Hg2'.out j hj;omega)
       have sr0:=cell_of_cells hb9 0
       have sr1:=cell_of_cells hb9 1
       have sr2:=cell_of_cells hb9 2
       obtain⟨Hrow5,Hf5,Hab5,Hcb5,Hrr5,Hcb6,K6,Hab6,Hg5⟩:=hid9 hrow5 hf5 hab5 hcb5 hrr5 hcb6 k6 hab6 hg5;clear hg5 hab6 k6 hcb6 hrr5 hcb5 hab5 hf5 hrow5;obtain⟨Hrow6,Hrr6,Hb9,K9,Hkf,Hrow9,Hrr9,Sr0,Sr1⟩:=hid9 hrow6 hrr6 hb9 k9 hkf hrow9 hrr9 sr0 sr1;clear sr1 sr0 hrr9 hrow9 hkf k9 hb9 hrr6 hrow6;have Sr2:=Lib.hid sr2;clear sr2
       go_wp2
       have R0':=Sr0.out
       have R1':=Sr1.out
       have R2':=Sr2.out
       clear r0 r1 r2 p0 p1 p2
       exact bodyPost_ret (v:= .tuple #[.agg #[.slice a5 q.bal.length m5, .int .i64 q.cr, .int .i64 q.du], .slice (some ⟨gr,0,none⟩) i cr2, .int .i64 0]) (by simp [results,Tryz.results9,go_sem,R0',R1',R2']) rfl ⟨_,_,rfl,Hrow9.out,by rw [HRm.out];exact Hrr9.out,Hkf.out,fun j hj=>by have:=Hg5.out j hj;have:=HBl.out;omega,fun j hj=>by have:=Hg2'.out j hj;omega⟩
      ·rw [if_neg hz0] at hA
       subst hA
       have hz1:(z !=0)=true:=by simp [hz0]
       have hS3:=store3 hab6.r (.slice none 0 0) (.int .i64 0) (.int .i64 0)
       obtain⟨hb9,k9⟩:=hS3
       have hkf:=hab6.kp.trans (k9.mono fun j _ e=> .inr (by have e':j=w.heap.size+1+1:=e;omega))
       have sr0:=cell_of_cells hb9 0
       have sr1:=cell_of_cells hb9 1
       have sr2:=cell_of_cells hb9 2
       obtain⟨Hrow5,Hf5,Hab5,Hcb5,Hrr5,Hcb6,K6,Hab6,Hg5⟩:=hid9 hrow5 hf5 hab5 hcb5 hrr5 hcb6 k6 hab6 hg5;clear hg5 hab6 k6 hcb6 hrr5 hcb5 hab5 hf5 hrow5;obtain⟨Hrow6,Hrr6,Hb9,K9,Hkf,Sr0,Sr1,Sr2,Hz0⟩:=hid9 hrow6 hrr6 hb9 k9 hkf sr0 sr1 sr2 hz0;clear hz0 sr2 sr1 sr0 hkf k9 hb9 hrr6 hrow6
       go_wp2
       have R0':=Sr0.out
       have R1':=Sr1.out
       have R2':=Sr2.out
       clear r0 r1 r2 p0 p1 p2
       exact bodyPost_ret (v:= .tuple #[.agg #[.slice none 0 0, .int .i64 0, .int .i64 0], .slice none 0 0, .int .i64 z]) (by simp [results,Tryz.results9,go_sem,R0',R1',R2']) rfl ⟨_,_,rfl,World.ownsRow_nil _ _ _ _,World.ownsRow_nil _ _ _ _,Hkf.out,by simp [Value.ownBlock],by simp [Value.ownBlock]⟩
     ·skip
      have hA:=HA.out
      clear HA
      simp [applyQ,applyRt] at hA
      obtain⟨⟨q,z⟩,hq⟩:∃q,giveR ⟨L,cr,du⟩ R tr am=q:=⟨_,rfl⟩
      rw [hq] at hA
      have hcall:=fun W (hW:Keeps (fun _=>False) W4 W)=>r11Give_any L R cr du tr am ad (some ⟨gr,0,none⟩) cap cr2 i W (Hr.out.keeps (Hab4.out.kp.nt hW) (by simp)) HN.out hl ((Reads.of_owns Hrr4.out).keeps hW (by simp)) HRm.out
      rw [hq] at hcall
      simp only at hA hcall
      have p0:=cell_of_cells Hpb4.out 0
      have p1:=cell_of_cells Hpb4.out 1
      have p2:=cell_of_cells Hpb4.out 2
      have pl4:=lt_of_block Hpb4.out
      have e0:=cell_of_cells Hab4.out.e 0
      have e2:=cell_of_cells Hab4.out.e 2
      have e3:=cell_of_cells Hab4.out.e 3
      have el4:=lt_of_block Hab4.out.e
      obtain⟨Hq,Hcall⟩:=hid2 hq hcall;clear hcall hq
      go_wp2_with fail
      refine(Hcall.out _ (Keeps.refl _ _)).mono ?_
      rintro e w5 ⟨v5,rfl,hrow5,hf5⟩
      obtain⟨a5,m5,rfl⟩:∃a c,v5= .slice a q.bal.length c:=by obtain⟨a,c,h,_⟩:=ownsRow_shape hrow5;exact⟨a,c,h⟩
      clear e0 e2 e3 el4 p0 p1 p2 pl4
      have hab5:=Hab4.out.keep0 hf5.1
      have hcb5:=box_old Hcb4.out hf5.1 (by simp)
      have hrr5:=Hrr4.out.of_keeps hf5.1
      obtain⟨hcb6,k6⟩:=store3 hcb5 (.slice a5 q.bal.length m5) (.int .i64 q.cr) (.int .i64 q.du)
      have hab6:=hab5.keepB k6 HBl.out
      have hg5:∀j,(Value.slice a5 q.bal.length m5).ownBlock=some j→B<j:=fun j e=>by have:=hf5.2 j e;have:=lt_of_block Hcb4.out;omega
      have hrow6:=k6.row hrow5 (fun j hj e=>by have e':j=B:=e;have:=hg5 j hj;omega)
      have hrr6:=k6.row hrr5 (fun j hj e=>by have e':j=B:=e;have:=HgB.out j hj;omega)
      have p0:=cell_of_cells hcb5 0
      have p1:=cell_of_cells hcb5 1
      have p2:=cell_of_cells hcb5 2
      have q0:=free_of_cells hcb5 0
      have q1:=free_of_cells hcb5 1
      have q2:=free_of_cells hcb5 2
      have pl:=lt_of_block hcb5
      have r0:=cell_of_cells hab5.r 0
      have r1:=cell_of_cells hab5.r 1
      have r2:=cell_of_cells hab5.r 2
      have rf0:=free_of_cells hab5.r 0
      have rf1:=free_of_cells hab5.r 1
      have rf2:=free_of_cells hab5.r 2
      have rl:=lt_of_block hab5.r
      have hBl1:¬w.heap.size+1+1=B:=by have:=HBl.out;omega
      have hBl2:¬B=w.heap.size+1+1:=by have:=HBl.out;omega
      by_cases hz0:z=0
      ·subst hz0
       rw [if_pos rfl] at hA
       subst hA
       have hS3:=store3 hab6.r (.slice a5 q.bal.length m5) (.int .i64 q.cr) (.int .i64 q.du)
       obtain⟨hb9,k9⟩:=hS3
       have hkf:=hab6.kp.trans (k9.mono fun j _ e=> .inr (by have e':j=w.heap.size+1+1:=e;omega))
       have hrow9:=k9.row hrow6 (fun j hj e=>by have e':j=w.heap.size+1+1:=e;have:=hg5 j hj;have:=HBl.out;omega)
       have hrr9:=k9.row hrr6 (fun j hj e=>by have e':j=w.heap.size+1+1:=e;have:=Hg2'.out j hj;omega)
       have sr0:=cell_of_cells hb9 0
       have sr1:=cell_of_cells hb9 1
       have sr2:=cell_of_cells hb9 2
       obtain⟨Hrow5,Hf5,Hab5,Hcb5,Hrr5,Hcb6,K6,Hab6,Hg5⟩:=hid9 hrow5 hf5 hab5 hcb5 hrr5 hcb6 k6 hab6 hg5;clear hg5 hab6 k6 hcb6 hrr5 hcb5 hab5 hf5 hrow5;obtain⟨Hrow6,Hrr6,Hb9,K9,Hkf,Hrow9,Hrr9,Sr0,Sr1⟩:=hid9 hrow6 hrr6 hb9 k9 hkf hrow9 hrr9 sr0 sr1;clear sr1 sr0 hrr9 hrow9 hkf k9 hb9 hrr6 hrow6;have Sr2:=Lib.hid sr2;clear sr2
       go_wp2
       have R0':=Sr0.out
       have R1':=Sr1.out
       have R2':=Sr2.out
       clear r0 r1 r2 p0 p1 p2
       exact bodyPost_ret (v:= .tuple #[.agg #[.slice a5 q.bal.length m5, .int .i64 q.cr, .int .i64 q.du], .slice (some ⟨gr,0,none⟩) i cr2, .int .i64 0]) (by simp [results,Tryz.results9,go_sem,R0',R1',R2']) rfl ⟨_,_,rfl,Hrow9.out,by rw [HRm.out];exact Hrr9.out,Hkf.out,fun j hj=>by have:=Hg5.out j hj;have:=HBl.out;omega,fun j hj=>by have:=Hg2'.out j hj;omega⟩
      ·rw [if_neg hz0] at hA
       subst hA
       have hz1:(z !=0)=true:=by simp [hz0]
       have hS3:=store3 hab6.r (.slice none 0 0) (.int .i64 0) (.int .i64 0)
       obtain⟨hb9,k9⟩:=hS3
       have hkf:=hab6.kp.trans (k9.mono fun j _ e=> .inr (by have e':j=w.heap.size+1+1:=e;omega))
       have sr0:=cell_of_cells hb9 0
       have sr1:=cell_of_cells hb9 1
       have sr2:=cell_of_cells hb9 2
       obtain⟨Hrow5,Hf5,Hab5,Hcb5,Hrr5,Hcb6,K6,Hab6,Hg5⟩:=hid9 hrow5 hf5 hab5 hcb5 hrr5 hcb6 k6 hab6 hg5;clear hg5 hab6 k6 hcb6 hrr5 hcb5 hab5 hf5 hrow5;obtain⟨Hrow6,Hrr6,Hb9,K9,Hkf,Sr0,Sr1,Sr2,Hz0⟩:=hid9 hrow6 hrr6 hb9 k9 hkf sr0 sr1 sr2 hz0;clear hz0 sr2 sr1 sr0 hkf k9 hb9 hrr6 hrow6
       go_wp2
       have R0':=Sr0.out
       have R1':=Sr1.out
       have R2':=Sr2.out
       clear r0 r1 r2 p0 p1 p2
       exact bodyPost_ret (v:= .tuple #[.agg #[.slice none 0 0, .int .i64 0, .int .i64 0], .slice none 0 0, .int .i64 z]) (by simp [results,Tryz.results9,go_sem,R0',R1',R2']) rfl ⟨_,_,rfl,World.ownsRow_nil _ _ _ _,World.ownsRow_nil _ _ _ _,Hkf.out,by simp [Value.ownBlock],by simp [Value.ownBlock]⟩
     ·skip
      have hA:=HA.out
      clear HA
      simp [applyQ,applyRt] at hA
      obtain⟨⟨q,z⟩,hq⟩:∃q,chargeR ⟨L,cr,du⟩ tr am=q:=⟨_,rfl⟩
      rw [hq] at hA
      have hcall:=fun W (hW:Keeps (fun _=>False) W4 W)=>r11Charge_any L cr du tr am ad cap i W (Hr.out.keeps (Hab4.out.kp.nt hW) (by simp)) HN.out hl
      rw [hq] at hcall
      simp only at hA hcall
      have p0:=cell_of_cells Hpb4.out 0
      have p1:=cell_of_cells Hpb4.out 1
      have p2:=cell_of_cells Hpb4.out 2
      have pl4:=lt_of_block Hpb4.out
      have e0:=cell_of_cells Hab4.out.e 0
      have e2:=cell_of_cells Hab4.out.e 2
      have e3:=cell_of_cells Hab4.out.e 3
      have el4:=lt_of_block Hab4.out.e
      obtain⟨Hq,Hcall⟩:=hid2 hq hcall;clear hcall hq
      go_wp2_with fail
      refine(Hcall.out _ (Keeps.refl _ _)).mono ?_
      rintro e w5 ⟨v5,rfl,hrow5,hf5⟩
      obtain⟨a5,m5,rfl⟩:∃a c,v5= .slice a q.bal.length c:=by obtain⟨a,c,h,_⟩:=ownsRow_shape hrow5;exact⟨a,c,h⟩
      clear e0 e2 e3 el4 p0 p1 p2 pl4
      have hab5:=Hab4.out.keep0 hf5.1
      have hcb5:=box_old Hcb4.out hf5.1 (by simp)
      have hrr5:=Hrr4.out.of_keeps hf5.1
      obtain⟨hcb6,k6⟩:=store3 hcb5 (.slice a5 q.bal.length m5) (.int .i64 q.cr) (.int .i64 q.du)
      have hab6:=hab5.keepB k6 HBl.out
      have hg5:∀j,(Value.slice a5 q.bal.length m5).ownBlock=some j→B<j:=fun j e=>by have:=hf5.2 j e;have:=lt_of_block Hcb4.out;omega
      have hrow6:=k6.row hrow5 (fun j hj e=>by have e':j=B:=e;have:=hg5 j hj;omega)
      have hrr6:=k6.row hrr5 (fun j hj e=>by have e':j=B:=e;have:=HgB.out j hj;omega)
      have p0:=cell_of_cells hcb5 0
      have p1:=cell_of_cells hcb5 1
      have p2:=cell_of_cells hcb5 2
      have q0:=free_of_cells hcb5 0
      have q1:=free_of_cells hcb5 1
      have q2:=free_of_cells hcb5 2
      have pl:=lt_of_block hcb5
      have r0:=cell_of_cells hab5.r 0
      have r1:=cell_of_cells hab5.r 1
      have r2:=cell_of_cells hab5.r 2
      have rf0:=free_of_cells hab5.r 0
      have rf1:=free_of_cells hab5.r 1
      have rf2:=free_of_cells hab5.r 2
      have rl:=lt_of_block hab5.r
      have hBl1:¬w.heap.size+1+1=B:=by have:=HBl.out;omega
      have hBl2:¬B=w.heap.size+1+1:=by have:=HBl.out;omega
      by_cases hz0:z=0
      ·subst hz0
       rw [if_pos rfl] at hA
       subst hA
       have hS3:=store3 hab6.r (.slice a5 q.bal.length m5) (.int .i64 q.cr) (.int .i64 q.du)
       obtain⟨hb9,k9⟩:=hS3
       have hkf:=hab6.kp.trans (k9.mono fun j _ e=> .inr (by have e':j=w.heap.size+1+1:=e;omega))
       have hrow9:=k9.row hrow6 (fun j hj e=>by have e':j=w.heap.size+1+1:=e;have:=hg5 j hj;have:=HBl.out;omega)
       have hrr9:=k9.row hrr6 (fun j hj e=>by have e':j=w.heap.size+1+1:=e;have:=Hg2'.out j hj;omega)
       have sr0:=cell_of_cells hb9 0
       have sr1:=cell_of_cells hb9 1
       have sr2:=cell_of_cells hb9 2
       obtain⟨Hrow5,Hf5,Hab5,Hcb5,Hrr5,Hcb6,K6,Hab6,Hg5⟩:=hid9 hrow5 hf5 hab5 hcb5 hrr5 hcb6 k6 hab6 hg5;clear hg5 hab6 k6 hcb6 hrr5 hcb5 hab5 hf5 hrow5;obtain⟨Hrow6,Hrr6,Hb9,K9,Hkf,Hrow9,Hrr9,Sr0,Sr1⟩:=hid9 hrow6 hrr6 hb9 k9 hkf hrow9 hrr9 sr0 sr1;clear sr1 sr0 hrr9 hrow9 hkf k9 hb9 hrr6 hrow6;have Sr2:=Lib.hid sr2;clear sr2
       go_wp2
       have R0':=Sr0.out
       have R1':=Sr1.out
       have R2':=Sr2.out
       clear r0 r1 r2 p0 p1 p2
       exact bodyPost_ret (v:= .tuple #[.agg #[.slice a5 q.bal.length m5, .int .i64 q.cr, .int .i64 q.du], .slice (some ⟨gr,0,none⟩) i cr2, .int .i64 0]) (by simp [results,Tryz.results9,go_sem,R0',R1',R2']) rfl ⟨_,_,rfl,Hrow9.out,by rw [HRm.out];exact Hrr9.out,Hkf.out,fun j hj=>by have:=Hg5.out j hj;have:=HBl.out;omega,fun j hj=>by have:=Hg2'.out j hj;omega⟩
      ·rw [if_neg hz0] at hA
       subst hA
       have hz1:(z !=0)=true:=by simp [hz0]
       have hS3:=store3 hab6.r (.slice none 0 0) (.int .i64 0) (.int .i64 0)
       obtain⟨hb9,k9⟩:=hS3
       have hkf:=hab6.kp.trans (k9.mono fun j _ e=> .inr (by have e':j=w.heap.size+1+1:=e;omega))
       have sr0:=cell_of_cells hb9 0
       have sr1:=cell_of_cells hb9 1
       have sr2:=cell_of_cells hb9 2
       obtain⟨Hrow5,Hf5,Hab5,Hcb5,Hrr5,Hcb6,K6,Hab6,Hg5⟩:=hid9 hrow5 hf5 hab5 hcb5 hrr5 hcb6 k6 hab6 hg5;clear hg5 hab6 k6 hcb6 hrr5 hcb5 hab5 hf5 hrow5;obtain⟨Hrow6,Hrr6,Hb9,K9,Hkf,Sr0,Sr1,Sr2,Hz0⟩:=hid9 hrow6 hrr6 hb9 k9 hkf sr0 sr1 sr2 hz0;clear hz0 sr2 sr1 sr0 hkf k9 hb9 hrr6 hrow6
       go_wp2
       have R0':=Sr0.out
       have R1':=Sr1.out
       have R2':=Sr2.out
       clear r0 r1 r2 p0 p1 p2
       exact bodyPost_ret (v:= .tuple #[.agg #[.slice none 0 0, .int .i64 0, .int .i64 0], .slice none 0 0, .int .i64 z]) (by simp [results,Tryz.results9,go_sem,R0',R1',R2']) rfl ⟨_,_,rfl,World.ownsRow_nil _ _ _ _,World.ownsRow_nil _ _ _ _,Hkf.out,by simp [Value.ownBlock],by simp [Value.ownBlock]⟩
def laid(cur:List Value)(o:Nat)(cs:List Value):List Value:=cur.take o++cs++cur.drop (o+cs.length)
theorem wpList_append_fits{P:Program}{w:World}{ops:Array Oper}{rest:List Oper}{o:Oper}{a:Act}{Q:Exit→Act→World→Prop}(hgd:o.guard=none)(s x:Operand)(t:TypeId)
  (ho:o.op= .call { callee:= .builtin .append,args:= #[s,x],argTypes:= #[t,t] })
  (e:TypeId) (i:TypeInfo) (size:Nat) (ht:P.underlying t=some (.slice e)) (hi:P.info? e=some i) (hsize:i.size=size)
  (g n cap:Nat) (cur:List Value) (hs:a.eval s= .slice (some ⟨g,0,none⟩) n cap) (hg:w.heap[g]?=some (.cells cur.toArray e (0,0))) (hcs:cur.length=cap*size) (hcm:cap≤maxLen)
  (xv:Value) (m:Nat) (news:List Value) (hx:a.eval x=xv) (hxr:Reads w size xv m news) (h1:∀u∈news,u.oneCell'=true) (hroom:n+m≤cap)
  (h:∀w',w'.heap[g]?=some (.cells (laid cur (n*size) news).toArray e (0,0))→Keeps (fun k=>k=g) w w'→wpList P ops Q rest (a.put o.dst (.slice (some ⟨g,0,none⟩) (n+m) cap)) w'):wpList P ops Q (o::rest) a w:=by
 refine wpList_plain hgd fun K hK=> ?_
 subst hsize
 obtain⟨ad,c,rfl,hmc,hl,hnone,hnews⟩:=hxr
 have hnc:n*i.size≤cap*i.size:=Nat.mul_le_mul_right _ (by omega)
 have hnm:(n+m)*i.size≤cap*i.size:=Nat.mul_le_mul_right _ hroom
 rw [Nat.add_mul] at hnm
 rcases ad with _|ad
 ·have hc0:=hnone rfl
  subst hc0
  obtain rfl:m=0:=by omega
  obtain rfl:news= []:=List.eq_nil_of_length_eq_zero (by simpa using hl)
  have hown:w.ownsRow 0 e i.size (.slice (some ⟨g,0,none⟩) n cap) n (cur.take (n*i.size)):=by
   refine⟨by rw [List.length_take];omega, .inr ⟨g,cap,cur.toArray,rfl,Nat.zero_le _,hg,by omega,hcm,by simpa using hcs,by simp⟩⟩
  have hr:=run_append_owned_none (P:=P) w 0 t o.type e i i.size ht hi _ n _ hown
  unfold Oper.wp execOp
  simp only [ho,resolve,invoke,builtin,Sem.run_bind,Sem.run_pure,Result.andThen_ok,List.map_toArray,List.map_cons,List.map_nil,hs,hx,hr]
  refine hK _ _ (h _ ?_ (Keeps.refl _ _))
  rw [hg];simp [laid]
 ·have hnews':∀j u,news[j]?=some u→w.cell? (ad.add j)=some u:=fun j u hj=>by
   obtain⟨g',o',ha',hh⟩:=hnews j u hj
   cases ha'
   rw [add_mk]
   exact hh
  have hr:=run_append_room (P:=P) w t o.type e i ht hi g n cap cur.toArray hg ad m c news hl hnews' h1 hroom (by rw [List.size_toArray,hl,hcs];exact hnm)
  unfold Oper.wp execOp
  simp only [ho,resolve,invoke,builtin,Sem.run_bind,Sem.run_pure,Result.andThen_ok,List.map_toArray,List.map_cons,List.map_nil,hs,hx,hr]
  exact hK _ _ (h _ (setRow_heap w g _ _ e _ hg) ⟨rfl,rfl,rfl,by simp,fun k _ hk=>setRow_other w g k _ hk⟩)
theorem rep_snoc{α:Type}(L:List α)(x z:α)(j m:Nat):(L++List.replicate j x++List.replicate (m+1) z).set (L.length+j) x=L++List.replicate (j+1) x++List.replicate m z:=by
 rw [List.set_append_right _ _ (by simp),show L.length+j-(L++List.replicate j x).length=0 by simp,List.replicate_succ,List.set_cons_zero,List.replicate_succ',List.append_assoc,List.append_assoc,List.append_assoc]
 rfl
structure OwnAt(f:Int→List Value)(e:TypeId)(w:World)(g:Nat)(L:List Int)(x:Int):Prop where
 blk:w.heap[g]?=some (.cells ((L++List.replicate 3 x).flatMap f).toArray e (0,0))
theorem made_i64s(n:Nat):(madeCells (Value.int .i64 0).cells n).toList=(List.replicate n (0:Int)).flatMap i64c:=by
 have hL:((List.replicate n (0:Int)).flatMap i64c).length=n:=by rw [flat_length i64c_length];simp
 have hM:(madeCells (Value.int .i64 0).cells n).toList.length=n:=by simp [madeCells]
 apply List.ext_getElem?
 intro i
 by_cases h:i<n
 ·have h2:((List.replicate n (0:Int)).flatMap i64c)[i]?=some (.int .i64 0):=by
   have:=flat_get i64c_length (L:=List.replicate n (0:Int)) (k:=i) (j:=0) (x:=0) (by simp [h]) (by decide)
   simpa [i64c] using this
  rw [h2]
  simp [madeCells,Value.cells,h,Nat.mod_one]
 ·rw [List.getElem?_eq_none (by omega),List.getElem?_eq_none (by omega)]
set_option maxHeartbeats 800000
theorem ownI64_any(w:World)(ad:Option Addr)(cap:Nat)(L:List Int)(x:Int)(hr:Reads w 1 (.slice ad L.length cap) L.length (L.flatMap i64c))(hl:L.length≤1000000):
  Calls Tryz.prog 7 #[.slice ad L.length cap, .int .i64 x] w fun e w'=>e= .returned (.slice (some ⟨w.heap.size,0,none⟩) L.length (L.length+3))∧OwnAt i64c 2 w' w.heap.size L x∧Keeps (fun _=>False) w w':=by
 obtain⟨i0,hi,hi0,hi1,hi2⟩:=info_parts info_tInt64
 have hmk:=fun(W:World)=>run_makeSlice (P:=Tryz.prog) W 22 2 i0 (.int .i64 0) Tryz.underlying22 hi hi0 .i64 .i64 0 ((L.length:Int)+3) (by omega) (by omega) (by rw [hi1];omega) (by rw [hi2];omega) (by omega)
 have hn3:((L.length:Int)+3).toNat=L.length+3:=by omega
 simp only [hn3,Int.toNat_zero,hi1,Nat.mul_one] at hmk
 obtain⟨Z,hZ⟩:∃Z,Z=madeCells (Value.int .i64 0).cells (L.length+3):=⟨_,rfl⟩
 rw [←hZ] at hmk
 have hZl:Z.toList=(List.replicate (L.length+3) (0:Int)).flatMap i64c:=by rw [hZ];exact made_i64s _
 have hone:=i64c_one L
 obtain⟨Hr,HZ,HZl,Hn3,Hone⟩:=hid5 hr hZ hZl hn3 hone;clear hone hn3 hZl hZ hr
 go_enter Tryz.func7,Tryz.ntmps7
 go_wp2_with (at_builtin;refine wpList_append_fits rfl (.tmp 12) (.tmp 13) 22 rfl 2 i0 1 Tryz.underlying22 hi hi1 w.heap.size 0 (L.length+3) Z.toList rfl (by simpa using heap_alloc_new w (.cells Z 2)) (by rw [HZl.out,flat_length i64c_length];simp) (by unfold maxLen;omega) _ L.length _ rfl (Hr.out.alloc _) Hone.out (by omega) ?_)
 intro w2 hb2 hk2
 have hb3:w2.heap[w.heap.size]?=some (.cells ((L++List.replicate 0 x++List.replicate 3 (0:Int)).flatMap i64c).toArray 2 (0,0)):=by
  rw [hb2,HZl.out]
  congr 3
  unfold laid
  have e1:=flat_dropk i64c_length (List.replicate (L.length+3) (0:Int)) L.length
  simp only [Nat.mul_one,List.drop_replicate] at e1
  simp only [Nat.zero_mul,List.take_zero,List.nil_append,Nat.zero_add,flat_length i64c_length,Nat.mul_one,e1,List.flatMap_append,List.replicate_zero,List.flatMap_nil,List.append_nil]
  rw [show L.length+3-L.length=3 by omega]
 have hkp2:Keeps (fun _=>False) w w2:=(Keeps.alloc _ _).trans (hk2.mono fun k _ e=>by right;omega)
 obtain⟨Hb3,Hkp2⟩:=hid2 hb3 hkp2;clear hkp2 hb3
 clear hb2 hk2
 clear hmk
 go_wp2
 go_loopw [7] (fun c wr=>∃(j:Nat),j≤3∧c= .int .i64 ((L.length+j:Nat):Int)∧wr.heap[w.heap.size]?=some (.cells ((L++List.replicate j x++List.replicate (3-j) (0:Int)).flatMap i64c).toArray 2 (0,0))∧Keeps (fun _=>False) w wr) (fun c _=>L.length+3-(intOf c).toNat)
 case atStart=>exact⟨0,by omega,by simp,Hb3.out,Hkp2.out⟩
 case round=>
  obtain⟨j,hj,rfl,hb,hk⟩:=hrel
  by_cases hj3:j<3
  ·obtain⟨m,hm⟩:∃m,3-j=m+1:=⟨3-j-1,by omega⟩
   have hc:wr.cell? ⟨w.heap.size,L.length+j,none⟩=some (.int .i64 0):=by
    rw [cell_of_cells hb,List.getElem?_toArray]
    have:=flat_get i64c_length (L:=L++List.replicate j x++List.replicate (3-j) (0:Int)) (k:=L.length+j) (j:=0) (x:=0) (by rw [List.getElem?_append_right (by simp)];simp [hm]) (by decide)
    simpa [i64c] using this
   have hf:=free_of_cells hb (L.length+j)
   have hbl:=lt_of_block hb
   have hnext:(wr.setCell ⟨w.heap.size,L.length+j,none⟩ (.int .i64 x)).heap[w.heap.size]?=some (.cells ((L++List.replicate (j+1) x++List.replicate (3-(j+1)) (0:Int)).flatMap i64c).toArray 2 (0,0)):=by
    have h1:=heap_setCell_same _ _ (L.length+j) _ _ (.int .i64 x) hb
    rw [h1]
    congr 3
    have e:=flat_set i64c_length (L:=L++List.replicate j x++List.replicate (3-j) (0:Int)) (k:=L.length+j) (j:=0) (x:=0) (y:=x) (u:= .int .i64 x) (by rw [List.getElem?_append_right (by simp)];simp [hm]) (by decide) rfl
    rw [hm,rep_snoc] at e
    rw [show 3-(j+1)=m by omega,←e,hm]
    simp
   have hkn:Keeps (fun _=>False) w (wr.setCell ⟨w.heap.size,L.length+j,none⟩ (.int .i64 x)):=hk.trans (Keeps.setCell _ _ _ (.inr (Nat.le_refl _)))
   have hjl:((L.length+j:Nat):Int)<(L.length:Int)+3:=by omega
   obtain⟨Hb,Hk,Hnext,Hkn,Hm⟩:=hid5 hb hk hnext hkn hm;clear hm hkn hnext hk hb
   go_wp2
   go_roundw
   case rel=>exact⟨j+1,by omega,by go_num,Hnext.out,Hkn.out⟩
   case measure=>simp [intOf];omega
  ·obtain rfl:j=3:=by omega
   obtain⟨Hb,Hk⟩:=hid2 hb hk;clear hk hb
   go_wp2
   go_ret
   exact⟨rfl,⟨by simpa using Hb.out⟩,Hk.out⟩
theorem OwnAt.reads{e:TypeId}{w:World}{g:Nat}{L:List Int}{x:Int}(h:OwnAt i64c e w g L x)(c:Nat)(hc:L.length≤c)(n:Nat)(hn:n≤L.length+3)(hc':n≤c):Reads w 1 (.slice (some ⟨g,0,none⟩) n c) n (((L++List.replicate 3 x).take n).flatMap i64c):=by
 refine⟨_,_,rfl,hc',by rw [flat_length i64c_length];simp;omega,by simp,fun j u hj=>⟨g,0,rfl, ?_⟩⟩
 rw [Nat.zero_add,cell_of_cells h.blk,List.getElem?_toArray]
 have e1:=flat_takek i64c_length (L++List.replicate 3 x) n
 rw [←e1] at hj
 rw [List.getElem?_take] at hj
 split at hj
 ·exact hj
 ·simp at hj
set_option maxHeartbeats 400000
theorem keptI64_any(g:Nat)(ad:Option Addr)(cap:Nat)(L:List Int)(x:Int)(w:World)(h:OwnAt i64c 2 w g L x)(hr:Reads w 1 (.slice ad L.length cap) L.length (L.flatMap i64c))(hl:L.length≤1000000):
  Calls Tryz.prog 12 #[.slice (some ⟨g,0,none⟩) L.length (L.length+3), .slice ad L.length cap, .int .i64 x] w fun e w'=>e= .returned (.bool true)∧Keeps (fun _=>False) w w':=by
 have ho:Reads w 1 (.slice (some ⟨g,0,none⟩) L.length (L.length+3)) L.length (L.flatMap i64c):=by
  have:=h.reads (L.length+3) (by omega) L.length (by omega) (by omega)
  simpa using this
 have hgl:=lt_of_block h.blk
 obtain⟨H,Hr,Ho⟩:=hid3 h hr ho;clear ho hr h
 go_enter Tryz.func12,Tryz.ntmps12
 go_wp2_with (go_at_call 11;refine(plainI64_same L _ _ _ Ho.out Hr.out (by omega)).mono ?_;rintro e w1 ⟨rfl,hk1⟩;have Hk1:=Lib.hid hk1;clear hk1)
 go_loop [8] (fun c=>∃(j:Nat),j≤3∧c= .int .i64 ((L.length+j:Nat):Int)) (fun c=>L.length+3-(intOf c).toNat)
 case atStart=>exact⟨0,by omega,by simp⟩
 case round=>
  obtain⟨j,hj,rfl⟩:=hrel
  by_cases hj3:j<3
  ·have hc:w1.cell? ⟨g,L.length+j,none⟩=some (.int .i64 x):=by
    rw [(Hk1.out.cell (p:=⟨g,L.length+j,none⟩) hgl (by simp)),cell_of_cells H.out.blk,List.getElem?_toArray]
    have:=flat_get i64c_length (L:=L++List.replicate 3 x) (k:=L.length+j) (j:=0) (x:=x) (by rw [List.getElem?_append_right (by omega),Nat.add_sub_cancel_left,List.getElem?_replicate,if_pos hj3]) (by decide)
    simpa [i64c] using this
   have hjl:((L.length+j:Nat):Int)<(L.length:Int)+3:=by omega
   go_wp2
   go_round
   case rel=>exact⟨j+1,by omega,by go_num⟩
   case measure=>simp [intOf];omega
  ·obtain rfl:j=3:=by omega
   go_wp2
   go_ret
   exact⟨rfl,Hk1.out⟩
theorem applyR_le(p:Ps)(R:List Int)(e:Ev):(applyR p R e).1.bal.length≤p.bal.length∧(applyR p R e).2.1.length≤R.length:=by
 by_cases h:(applyR p R e).2.2=0
 ·obtain⟨h1,h2,_⟩:=applyR_ok h
  omega
 ·unfold applyR at h⊢
  split
  ·rename_i h1
   rw [if_pos h1] at h
   split
   ·rename_i h2;rw [if_pos h2] at h;exact absurd rfl h
   ·simp [ps0]
  ·simp [ps0]
set_option maxHeartbeats 3200000
theorem replayApplies_walk(w:World)(p:Ps)(ad:Option Addr)(cap:Nat)(hr:Reads w 1 (.slice ad p.bal.length cap) p.bal.length (p.bal.flatMap i64c))(hm:p.bal.length≤maxLen)
  (adR:Option Addr) (cR:Nat) (R:List Int) (hR:Reads w 1 (.slice adR R.length cR) R.length (R.flatMap i64c)) (_:∀a∈R,(Lit.int .i64 a).wf=true) (hmR:R.length≤maxLen) (x:Ev) (_:x.wf):
  Calls Tryz.prog 3 #[.agg (p.list ad cap).toArray, .slice adR R.length cR,x.agg] w fun e w'=>e= .returned (.bool true)∧Below w.heap.size w w':=by
 obtain⟨L,cr,du⟩:=p
 obtain⟨ki,da,tr,am,re⟩:=x
 unfold maxLen at hm hmR
 simp only [Ps.list,Ev.agg] at hr hm⊢
 obtain⟨n,hN⟩:∃n,L.length=n:=⟨_,rfl⟩
 obtain⟨m,hM⟩:∃m,R.length=m:=⟨_,rfl⟩
 rw [hN] at hr hm⊢
 rw [hM] at hR hmR⊢
 have hle:=applyR_le ⟨L,cr,du⟩ R ⟨ki,da,tr,am,re⟩
 obtain⟨⟨⟨qb,qc,qd⟩,Q,z⟩,hA⟩:∃A,applyR ⟨L,cr,du⟩ R ⟨ki,da,tr,am,re⟩=A:=⟨_,rfl⟩
 rw [hA] at hle
 simp only at hle
 rw [hN,hM] at hle
 obtain⟨nq,hnq⟩:∃n,qb.length=n:=⟨_,rfl⟩
 obtain⟨nQ,hnQ⟩:∃n,Q.length=n:=⟨_,rfl⟩
 rw [hnq,hnQ] at hle
 obtain⟨hle1,hle2⟩:=hle
 have hpb:((w.alloc (.cells #[.slice ad n cap, .int .i64 cr, .int .i64 du] 24)).alloc (.cells #[.int .i64 ki, .int .i64 da, .int .i64 tr, .int .i64 am, .int .i64 re] 26)).heap[w.heap.size]?=some (.cells #[.slice ad n cap, .int .i64 cr, .int .i64 du] 24 (0,0)):=box_alloc (heap_alloc_new w _) _
 have heb:((w.alloc (.cells #[.slice ad n cap, .int .i64 cr, .int .i64 du] 24)).alloc (.cells #[.int .i64 ki, .int .i64 da, .int .i64 tr, .int .i64 am, .int .i64 re] 26)).heap[w.heap.size+1]?=some (.cells #[.int .i64 ki, .int .i64 da, .int .i64 tr, .int .i64 am, .int .i64 re] 26 (0,0)):=halloc_at2 _ _ (by simp)
 obtain⟨W0,hW0⟩:∃x,x=((w.alloc (.cells #[.slice ad n cap, .int .i64 cr, .int .i64 du] 24)).alloc (.cells #[.int .i64 ki, .int .i64 da, .int .i64 tr, .int .i64 am, .int .i64 re] 26)):=⟨_,rfl⟩
 have hk0:Keeps (fun _=>False) w W0:=by rw [hW0];(repeat (first|exact Keeps.refl _ _|exact Keeps.alloc _ _|exact Keeps.drew _|exact Keeps.drewN _ _|refine Keeps.trans_drew ?_|refine Keeps.trans_drewN ?_|refine Keeps.trans_alloc ?_))
 rw [←hW0] at hpb heb
 by_cases hn:n≤20
 ·by_cases hm2:m≤20
  ·have hnI:¬(20:Int)<(n:Int):=by omega
   have hmI:¬(20:Int)<(m:Int):=by omega
   have hown:=fun W (hW:Keeps (fun _=>False) w W)=>ownI64_any W adR cR R 71 (by rw [hM];exact hR.keeps hW (by simp)) (by omega)
   rw [hM] at hown
   have hap:=fun W (hW:Keeps (fun _=>False) w W) ad1 c1 (h1:Reads W 1 (.slice ad1 m c1) m (R.flatMap i64c))=>repApply_any L R cr du ki da tr am re ad ad1 cap c1 n m W (hr.keeps hW (by simp)) hN (by omega) h1 hM (by omega)
   have hrp:=fun W (hW:Keeps (fun _=>False) w W)=>r19Apply_any L R cr du ki da tr am re ad adR cap cR n m W (hr.keeps hW (by simp)) hN (by omega) (hR.keeps hW (by simp)) hM (by omega)
   rw [hA] at hap hrp
   have p0:=cell_of_cells hpb 0
   have pl:=lt_of_block hpb
   obtain⟨Hr,HR,HN,HM,HA,Hpb,Heb,Hk0,Hown⟩:=hid9 hr hR hN hM hA hpb heb hk0 hown;clear hown hk0 heb hpb hA hM hN hR hr;obtain⟨Hap,Hrp,Hnq,HnQ⟩:=hid4 hap hrp hnq hnQ;clear hnQ hnq hrp hap
   go_enter Tryz.func3,Tryz.ntmps3
   go_wp2_with fail
   rw [←hW0]
   clear hW0 p0 pl
   refine(Hown.out _ Hk0.out).mono ?_
   rintro e w1 ⟨rfl,ho1,hk1⟩
   obtain⟨g,hg⟩:∃g,g=W0.heap.size:=⟨_,rfl⟩
   rw [←hg] at ho1⊢
   have hri:∀W,Keeps (fun _=>False) w1 W→Reads W 1 (.slice (some ⟨g,0,none⟩) m (m+3)) m (R.flatMap i64c):=fun W hW=>by
    have:=(ho1.reads (m+3) (by rw [HM.out];omega) m (by rw [HM.out];omega) (by omega)).keeps hW (by simp)
    rw [List.take_append_of_le_length (by rw [HM.out];exact Nat.le_refl _),List.take_of_length_le (by rw [HM.out];exact Nat.le_refl _)] at this
    exact this
   have hk01:=Hk0.out.nt hk1
   have hbp:=box_old Hpb.out hk1 (by simp)
   have hbe:=box_old Heb.out hk1 (by simp)
   have p0:=cell_of_cells hbp 0
   have p1:=cell_of_cells hbp 1
   have p2:=cell_of_cells hbp 2
   have pl:=lt_of_block hbp
   have e0:=cell_of_cells hbe 0
   have e1:=cell_of_cells hbe 1
   have e2:=cell_of_cells hbe 2
   have e3:=cell_of_cells hbe 3
   have e4:=cell_of_cells hbe 4
   have el:=lt_of_block hbe
   clear hg
   obtain⟨Ho1,Hk1,Hri,Hk01⟩:=hid4 ho1 hk1 hri hk01;clear hk01 hri hk1 ho1
   go_wp2_with fail
   have hap1:=Hap.out w1 Hk01.out (some ⟨g,0,none⟩) (m+3) (Hri.out _ (Keeps.refl _ _))
   have Hap1:=Lib.hid hap1;clear hap1
   refine Hap1.out.mono ?_
   rintro e w2 ⟨vb2,vr2,rfl,hrb2,hrr2,hk2,hfb2,hfr2⟩
   simp only at hrb2 hrr2
   rw [Hnq.out] at hrb2
   rw [HnQ.out] at hrr2
   obtain⟨a2,c2,rfl,_,_⟩:=ownsRow_shape hrb2
   obtain⟨a3,c3,rfl,_,_⟩:=ownsRow_shape hrr2
   have hk02:=Hk01.out.nt hk2
   have hk12:=Hk1.out.nt hk2
   have hk12a:=hk12.nt (Keeps.alloc w2 (.cells #[.slice a2 nq c2, .int .i64 qc, .int .i64 qd] 24))
   have hk2a:=hk2.nt (Keeps.alloc w2 (.cells #[.slice a2 nq c2, .int .i64 qc, .int .i64 qd] 24))
   have hk02a:=Hk01.out.nt hk2a
   have hb8:(w2.alloc (.cells #[.slice a2 nq c2, .int .i64 qc, .int .i64 qd] 24)).heap[w2.heap.size]?=some (.cells #[.slice a2 nq c2, .int .i64 qc, .int .i64 qd] 24 (0,0)):=heap_alloc_new _ _
   clear hbp hbe p0 p1 p2 pl e0 e1 e2 e3 e4 el
   have hbp:=box_old Hpb.out hk12 (by simp)
   have hbe:=box_old Heb.out hk12 (by simp)
   have p0:=cell_of_cells hbp 0
   have p1:=cell_of_cells hbp 1
   have p2:=cell_of_cells hbp 2
   have pl:=lt_of_block hbp
   have e0:=cell_of_cells hbe 0
   have e1:=cell_of_cells hbe 1
   have e2:=cell_of_cells hbe 2
   have e3:=cell_of_cells hbe 3
   have e4:=cell_of_cells hbe 4
   have el:=lt_of_block hbe
   obtain⟨Hrb2,Hrr2,Hk2,Hk02,Hk12,Hk12a,Hk02a,Hfb2,Hfr2⟩:=hid9 hrb2 hrr2 hk2 hk02 hk12 hk12a hk02a hfb2 hfr2;clear hfr2 hfb2 hk02a hk12a hk12 hk02 hk2 hrr2 hrb2;obtain⟨Hbp,Hbe,Hk2a,Hb8⟩:=hid4 hbp hbe hk2a hb8;clear hb8 hk2a hbe hbp
   go_wp2_with fail
   obtain⟨B8,hB8⟩:∃x,x=w2.heap.size:=⟨_,rfl⟩
   obtain⟨W2,hW2⟩:∃x,x=w2.alloc (.cells #[.slice a2 nq c2, .int .i64 qc, .int .i64 qd] 24):=⟨_,rfl⟩
   rw [←hB8,←hW2]
   have hb8:=Hb8.out
   have hk02a:=Hk02a.out
   have hk12a:=Hk12a.out
   have hk2a:=Hk2a.out
   have hr2:=Reads.of_owns (Hrb2.out.alloc (.cells #[.slice a2 nq c2, .int .i64 qc, .int .i64 qd] 24))
   have hq2:=Reads.of_owns (Hrr2.out.alloc (.cells #[.slice a2 nq c2, .int .i64 qc, .int .i64 qd] 24))
   rw [←hB8,←hW2] at hb8
   rw [←hW2] at hk02a hk12a hk2a hr2 hq2
   clear hB8 hW2 Hb8 Hk02a Hk12a Hk2a p0 p1 p2 pl e0 e1 e2 e3 e4 el
   obtain⟨Hb8,Hk02a,Hk12a,Hk2a,Hr2,Hq2⟩:=hid6 hb8 hk02a hk12a hk2a hr2 hq2;clear hq2 hr2 hk2a hk12a hk02a hb8
   refine(Hrp.out _ Hk02a.out).mono ?_
   rintro e w3 ⟨vb3,vr3,rfl,hrb3,hrr3,hk3,hfb3,hfr3⟩
   simp only at hrb3 hrr3
   rw [Hnq.out] at hrb3
   rw [HnQ.out] at hrr3
   obtain⟨a4,c4,rfl,_,_⟩:=ownsRow_shape hrb3
   obtain⟨a5,c5,rfl,_,_⟩:=ownsRow_shape hrr3
   have hb11:(w3.alloc (.cells #[.slice a4 nq c4, .int .i64 qc, .int .i64 qd] 24)).heap[w3.heap.size]?=some (.cells #[.slice a4 nq c4, .int .i64 qc, .int .i64 qd] 24 (0,0)):=heap_alloc_new _ _
   have hk3a:=hk3.nt (Keeps.alloc w3 (.cells #[.slice a4 nq c4, .int .i64 qc, .int .i64 qd] 24))
   have hk03:=Hk02a.out.nt hk3a
   have hr4:=Reads.of_owns (hrb3.alloc (.cells #[.slice a4 nq c4, .int .i64 qc, .int .i64 qd] 24))
   have hq4:=Reads.of_owns (hrr3.alloc (.cells #[.slice a4 nq c4, .int .i64 qc, .int .i64 qd] 24))
   obtain⟨W3,hW3⟩:∃x,x=w3.alloc (.cells #[.slice a4 nq c4, .int .i64 qc, .int .i64 qd] 24):=⟨_,rfl⟩
   obtain⟨B11,hB11⟩:∃x,x=w3.heap.size:=⟨_,rfl⟩
   rw [←hW3] at hb11 hk3a hk03 hr4 hq4
   rw [←hB11] at hb11
   have hb8':=box_old Hb8.out hk3a (by simp)
   have hr2':=Hr2.out.keeps hk3a (by simp)
   have hq2':=Hq2.out.keeps hk3a (by simp)
   have hk1a:=Hk2a.out.nt hk3a
   clear hk3 hfb3 hfr3 hrb3 hrr3
   have hsp:=fun W (hW:Keeps (fun _=>False) W3 W)=>samePos_any qb nq a2 a4 c2 c4 qc qd W Hnq.out (hr2'.keeps hW (by simp)) (hr4.keeps hW (by simp)) (by omega)
   have hsr:=fun W (hW:Keeps (fun _=>False) W3 W)=>plainI64_same Q (.slice a3 nQ c3) (.slice a5 nQ c5) W (by rw [HnQ.out];exact hq2'.keeps hW (by simp)) (by rw [HnQ.out];exact hq4.keeps hW (by simp)) (by rw [HnQ.out];omega)
   have hkt:=fun W (hW:Keeps (fun _=>False) W3 W)=>keptI64_any g adR cR R 71 W ⟨box_old Ho1.out.blk (hk1a.nt hW) (by simp)⟩ (by rw [HM.out];exact HR.out.keeps (Hk01.out.nt (hk1a.nt hW)) (by simp)) (by rw [HM.out];omega)
   rw [HM.out] at hkt
   obtain⟨Hb11,Hk3a,Hk03,Hr4,Hq4,Hb8',Hr2',Hq2',Hk1a⟩:=hid9 hb11 hk3a hk03 hr4 hq4 hb8' hr2' hq2' hk1a;clear hk1a hq2' hr2' hb8' hq4 hr4 hk03 hk3a hb11;obtain⟨Hsp,Hsr,Hkt⟩:=hid3 hsp hsr hkt;clear hkt hsr hsp
   go_wp2_with fail
   rw [←hW3,←hB11]
   clear hW3 hB11
   refine(awake19_any _).mono ?_
   rintro e w4 ⟨rfl,hk4⟩
   have hb8'':=box_old Hb8'.out hk4 (by simp)
   have hb11'':=box_old Hb11.out hk4 (by simp)
   have x0:=cell_of_cells hb8'' 0
   have x1:=cell_of_cells hb8'' 1
   have x2:=cell_of_cells hb8'' 2
   have xl:=lt_of_block hb8''
   have y0:=cell_of_cells hb11'' 0
   have y1:=cell_of_cells hb11'' 1
   have y2:=cell_of_cells hb11'' 2
   have yl:=lt_of_block hb11''
   obtain⟨Hk4,Hb8'',Hb11''⟩:=hid3 hk4 hb8'' hb11'';clear hb11'' hb8'' hk4
   go_wp2_with fail
   refine(Hsp.out _ Hk4.out).mono ?_
   rintro e w5 ⟨rfl,hk5⟩
   have hk35:=Hk4.out.nt hk5
   clear x0 x1 x2 xl y0 y1 y2 yl
   obtain⟨Hk5,Hk35⟩:=hid2 hk5 hk35;clear hk35 hk5
   go_wp2_with fail
   refine(Hsr.out _ Hk35.out).mono ?_
   rintro e w6 ⟨rfl,hk6⟩
   have hk36:=Hk35.out.nt hk6
   obtain⟨Hk6,Hk36⟩:=hid2 hk6 hk36;clear hk36 hk6
   go_wp2_with fail
   refine(Hkt.out _ Hk36.out).mono ?_
   rintro e w7 ⟨rfl,hk7⟩
   have hk07:=(Hk03.out.nt Hk36.out).nt hk7
   obtain⟨Hk7,Hk07⟩:=hid2 hk7 hk07;clear hk07 hk7
   go_wp2_with fail
   go_ret
   exact⟨rfl,Hk07.out.below (by simp) (Nat.le_refl _)⟩
  ·have hmI:(20:Int)<(m:Int):=by omega
   have p0:=cell_of_cells hpb 0
   have pl:=lt_of_block hpb
   obtain⟨Hr,HR,HN,HM,HA,Hpb,Heb,Hk0⟩:=hid8 hr hR hN hM hA hpb heb hk0;clear hk0 heb hpb hA hM hN hR hr
   go_enter Tryz.func3,Tryz.ntmps3
   go_wp2_with fail
   rw [←hW0]
   clear hW0 p0 pl
   refine(awake19_any _).mono ?_
   rintro e w1 ⟨rfl,hk1⟩
   have hk01:=Hk0.out.nt hk1
   obtain⟨Hk1,Hk01⟩:=hid2 hk1 hk01;clear hk01 hk1
   go_wp2_with fail
   go_ret
   exact⟨rfl,Hk01.out.below (by simp) (Nat.le_refl _)⟩
 ·have hnI:(20:Int)<(n:Int):=by omega
  have p0:=cell_of_cells hpb 0
  have pl:=lt_of_block hpb
  obtain⟨Hr,HR,HN,HM,HA,Hpb,Heb,Hk0⟩:=hid8 hr hR hN hM hA hpb heb hk0;clear hk0 heb hpb hA hM hN hR hr
  go_enter Tryz.func3,Tryz.ntmps3
  go_wp2_with fail
  rw [←hW0]
  clear hW0 p0 pl
  refine(awake19_any _).mono ?_
  rintro e w1 ⟨rfl,hk1⟩
  have hk01:=Hk0.out.nt hk1
  obtain⟨Hk1,Hk01⟩:=hid2 hk1 hk01;clear hk01 hk1
  go_wp2_with fail
  go_ret
  exact⟨rfl,Hk01.out.below (by simp) (Nat.le_refl _)⟩
end Go.Proofs.YthcmpcekmkioaaaGreat
namespace Go.Proofs.YthcmpcekmkioaaaGreat.replayApplies
open Go.ChangeShapes Go.WideShapes Go.ChangeAt Go.RowKit Go.Deep
set_option maxRecDepth 100000
theorem lifted(os:Os)(started:os.Started)(H:Type)(enc:TypeId×Value→H):
  ReturnsInHanded {} Tryz.checked os 3 .any (Rows.replayAppliesSpec.pre6 enc Tryz.prog Tryz.f3 Rows.replayAppliesRow.domain false) (Rows.replayAppliesSpec.post enc Tryz.prog Tryz.f3 false true false false):=by
 refine returnsInHanded_of_change (C:=Tryz.checked) own started (by kernel_rfl) Tryz.func3
  (ChangeSpec.witness6 (enc:=enc) (C:=Tryz.checked) false ⟨#[], #[.agg #[.slice none 0 0, .int .i64 0, .int .i64 0], .slice none 0 0, .agg #[.int .i64 0, .int .i64 0, .int .i64 0, .int .i64 0, .int .i64 0]], []⟩ 8 (by kernel_rfl) (by kernel_rfl) (by kernel_rfl) (by kernel_rfl)) ?_
 intro W base args ds gs before hval0 hW hcnd _
 have hval:∀(j:Nat) t v,Tryz.f3.params[j]?=some t→args[j]?=some v→Value.okWide Tryz.prog W .any base t v:=hval0
 have hW':=hW
 obtain⟨p,q,hA0,hV,rfl,hfz,hnd⟩:=hW
 have hA:DataW.TrodAll enc Tryz.prog W 0 (fun _=>true) true Tryz.f3.params.toList args.toList ds p:=hA0
 rw [Tryz.params3] at hA hval
 obtain⟨v0,vs0,d0,ds0,p0,q0,hargs,rfl,rfl,h0,r0⟩:=trodAll_cons hA
 obtain⟨v1,vs1,d1,ds1,p1,q1,rfl,rfl,rfl,h1,r1⟩:=trodAll_cons r0
 obtain⟨v2,vs2,d2,ds2,p2,q2,rfl,rfl,rfl,h2,r2⟩:=trodAll_cons r1
 obtain⟨rfl,rfl,rfl⟩:=trodAll_nil r2
 obtain rfl:args= #[v0,v1,v2]:=by cases args;simp_all
 obtain⟨rfl,rfl⟩:=trodVars_none hV
 obtain⟨cs0,rfl,hsz0⟩:=okWide_struct Tryz.underlying24 (hval 0 24 v0 rfl rfl)
 have k0:=h0
 have lt0:∀x∈p0,x.block<W.heap.size:=by obtain⟨m,hm⟩:=k0;exact DataW.trod_lt m _ _ _ hm
 obtain⟨a0,ad0,cap0,e0,hr0,hm0⟩:∃(a:Ps) (ad:Option Addr) (cap:Nat),(Value.agg cs0).cells.toList=Ps.list a ad cap∧Reads W 1 (.slice ad a.bal.length cap) a.bal.length (a.bal.flatMap i64c)∧a.bal.length≤maxLen:=by obtain⟨fuel,hf⟩:=h0;exact open_Ps _ _ _ hf
 have f0:cs0=(Ps.list a0 ad0 cap0).toArray:=by rw [←e0];simp [Value.cells]
 subst f0
 obtain⟨ad1,len1,cap1,rfl⟩:=okWide_slice Tryz.underlying22 (hval 1 22 v1 rfl rfl)
 have k1:=h1
 have lt1:∀x∈p1,x.block<W.heap.size:=by obtain⟨m,hm⟩:=k1;exact DataW.trod_lt m _ _ _ hm
 obtain⟨L1,e1,hr1,hp1,hm1⟩:∃L:List Int,L.length=len1∧Reads W 1 (.slice ad1 len1 cap1) L.length (L.flatMap (fun z:Int=> [Value.int .i64 z]))∧(∀a∈L,(Lit.int .i64 a).wf=true)∧L.length≤maxLen:=by
  obtain⟨fuel,hf⟩:=h1
  exact open_reads (f:=(fun z:Int=> [Value.int .i64 z])) (size:=1) (fun _=>rfl) (by decide) Tryz.underlying22 (by kernel_rfl) (fun n cs d hd=>elem_int Tryz.underlying2 n cs d hd) hf
 subst e1
 obtain⟨cs2,rfl,hsz2⟩:=okWide_struct Tryz.underlying26 (hval 2 26 v2 rfl rfl)
 have k2:=h2
 have lt2:∀x∈p2,x.block<W.heap.size:=by obtain⟨m,hm⟩:=k2;exact DataW.trod_lt m _ _ _ hm
 obtain⟨a2,e2,w2⟩:∃a:Ev,(Value.agg cs2).cells.toList=a.cells∧a.wf:=by obtain⟨fuel,hf⟩:=h2;exact open_Ev _ _ _ hf
 have f2:cs2=a2.cells.toArray:=by rw [←e2];simp [Value.cells]
 subst f2
 clear hA0 hval0
 refine(replayApplies_walk W a0 ad0 cap0 hr0 hm0 ad1 cap1 L1 hr1 hp1 hm1 a2 w2).mono fun e W' ⟨he,bel⟩=> ?_
 subst he
 exact⟨_,rfl,_,_,_, [],_, [],hW',trodAll_mk1 (shut_bool Tryz.underlying4 _),(trodAll_cons_mk (Below.trod laidOut (by kernel_rfl) (of_decide_eq_true (by kernel_rfl)) k0 bel lt0) (trodAll_cons_mk (Below.trod laidOut (by kernel_rfl) (of_decide_eq_true (by kernel_rfl)) k1 bel lt1) (trodAll_cons_mk (Below.trod laidOut (by kernel_rfl) (of_decide_eq_true (by kernel_rfl)) k2 bel lt2) trodAll_mk0))),rfl,bel.frame _,fun h=>by cases h⟩
theorem over:Rows.replayAppliesRow.holds Tryz.pinned (OpenSpec.ofChange Rows.replayAppliesSpec):=
 OpenClaim.holds_of_wide 3 Tryz.f3 rfl rfl rfl rfl rfl rfl rfl ⟨rfl,rfl,rfl,rfl,rfl⟩ rfl rfl rfl rfl rfl (by kernel_rfl) Tryz.func3 (by kernel_rfl)
  (of_decide_eq_true (by kernel_rfl)) (by unfold Func.isWrapper;first|(rw [if_pos (by decide+kernel)];kernel_rfl)|(rw [if_neg (by decide+kernel)];exact⟨rfl,rfl⟩))
  (fun os started H enc _=>lifted os started H enc)
theorem proved:Rows.ReplayAppliesSaid:=over
#print axioms proved
end Go.Proofs.YthcmpcekmkioaaaGreat.replayApplies
