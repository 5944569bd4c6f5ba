/-
  AccountNil: for every input the law returns true, and each argument reads behind the call as it read before. No condition.
-/
import Derived.Test.YthffbjldpfionaaGreatAccountNilQ1
namespace Go.Proofs.YthffbjldpfionaaGreat
open Go.RowKit
set_option maxRecDepth 100000
set_option maxHeartbeats 800000
theorem accDo_nil(c:Cmd)(w:World):Calls Tryz.prog 15 #[.pointer none,.agg #[.int .i64 c.kind,.int .i64 c.day,.int .i64 c.tranche,.int .i64 c.amount,.int .i64 c.ref]] w fun e w'=>e= .returned (.agg #[.int .i64 2,.int .i64 0,.int .i64 0,.int .i64 0,.int .i64 0,.slice none 0 0,.int .i64 0,.int .i64 0,.slice none 0 0,.slice none 0 0,.int .i64 0,.int .i64 0,.int .i64 0,.int .i64 0,.int .i64 0,.slice none 0 0,.int .i64 0,.int .i64 0,.int .i64 0,.bool false])∧Keeps (fun _=>False) w w':=by
 obtain⟨ki,da,tr,am,re⟩:=c
 simp only
 obtain⟨W0,hW0⟩:∃x,x=(w.alloc (.cells #[.int .i64 ki,.int .i64 da,.int .i64 tr,.int .i64 am,.int .i64 re] 47)).alloc (.cells #[.int .i64 0,.int .i64 0,.int .i64 0,.int .i64 0,.int .i64 0,.slice none 0 0,.int .i64 0,.int .i64 0,.slice none 0 0,.slice none 0 0,.int .i64 0,.int .i64 0,.int .i64 0,.int .i64 0,.int .i64 0,.slice none 0 0,.int .i64 0,.int .i64 0,.int .i64 0,.bool false] 44):=⟨_,rfl⟩
 have hr0:W0.heap[w.heap.size+1]?=some (.cells #[.int .i64 0,.int .i64 0,.int .i64 0,.int .i64 0,.int .i64 0,.slice none 0 0,.int .i64 0,.int .i64 0,.slice none 0 0,.slice none 0 0,.int .i64 0,.int .i64 0,.int .i64 0,.int .i64 0,.int .i64 0,.slice none 0 0,.int .i64 0,.int .i64 0,.int .i64 0,.bool false] 44 (0,0)):=by rw [hW0];exact Ay _ _ (by simp)
 have hk0:Keeps (fun _=>False) w W0:=by rw [hW0];(repeat (first|exact Keeps.refl _ _|exact Keeps.alloc _ _|exact Keeps.drew _|exact Keeps.drewN _ _|refine Keeps.Ap ?_|refine Keeps.Al ?_|refine Keeps.Ae ?_))
 obtain⟨Hr0,Hk0⟩:=hid2 hr0 hk0;clear hk0 hr0
 go_enter Tryz.func15,Tryz.ntmps15
 go_wp2_with fail
 rw [←hW0]
 clear hW0
 refine(Cb 2 _).mono ?_
 rintro e w2 ⟨rfl,hk2⟩
 obtain⟨hput1,hput2⟩:=putRow (V:= #[.int .i64 2,.int .i64 0,.int .i64 0,.int .i64 0,.int .i64 0,.slice none 0 0,.int .i64 0,.int .i64 0,.slice none 0 0,.slice none 0 0,.int .i64 0,.int .i64 0,.int .i64 0,.int .i64 0,.int .i64 0,.slice none 0 0,.int .i64 0,.int .i64 0,.int .i64 0,.bool false]) (Ad Hr0.out hk2 (by simp)) (Hk0.out.nt hk2) (Nat.le_succ _)
 have hR:=Ad Hr0.out hk2 (by simp)
 clear hk2
 obtain⟨Hput1,Hput2,HR⟩:=hid3 hput1 hput2 hR;clear hR hput2 hput1
 go_wp2_with (refine wpList_store_row rfl 44 (.tmp 4) (.tmp 7) rfl (w.heap.size+1) #[.int .i64 2,.int .i64 0,.int .i64 0,.int .i64 0,.int .i64 0,.slice none 0 0,.int .i64 0,.int .i64 0,.slice none 0 0,.slice none 0 0,.int .i64 0,.int .i64 0,.int .i64 0,.int .i64 0,.int .i64 0,.slice none 0 0,.int .i64 0,.int .i64 0,.int .i64 0,.bool false] rfl rfl 44 #[.int .i64 0,.int .i64 0,.int .i64 0,.int .i64 0,.int .i64 0,.slice none 0 0,.int .i64 0,.int .i64 0,.slice none 0 0,.slice none 0 0,.int .i64 0,.int .i64 0,.int .i64 0,.int .i64 0,.int .i64 0,.slice none 0 0,.int .i64 0,.int .i64 0,.int .i64 0,.bool false] HR.out Ar rfl (Br _ _ _) ?_)
 exact bodyPost_ret (results_cell_row rfl _ _ (w.heap.size+1) 44 #[.int .i64 2,.int .i64 0,.int .i64 0,.int .i64 0,.int .i64 0,.slice none 0 0,.int .i64 0,.int .i64 0,.slice none 0 0,.slice none 0 0,.int .i64 0,.int .i64 0,.int .i64 0,.int .i64 0,.int .i64 0,.slice none 0 0,.int .i64 0,.int .i64 0,.int .i64 0,.bool false] _ _ rfl Hput1.out Tryz.underlying44 rfl Ar) rfl ⟨rfl,Hput2.out⟩
theorem accState_nil(w:World):Calls Tryz.prog 16 #[.pointer none] w fun e w'=>e= .returned (.agg #[.int .i64 0,.int .i64 0,.slice none 0 0,.int .i64 0,.int .i64 0,.slice none 0 0,.slice none 0 0,.int .i64 0])∧Keeps (fun _=>False) w w':=by
 obtain⟨hput1,hput2⟩:=putRow (w:=w) (V:= #[.int .i64 0,.int .i64 0,.slice none 0 0,.int .i64 0,.int .i64 0,.slice none 0 0,.slice none 0 0,.int .i64 0]) (heap_alloc_new w (.cells #[.int .i64 0,.int .i64 0,.slice none 0 0,.int .i64 0,.int .i64 0,.slice none 0 0,.slice none 0 0,.int .i64 0] 37)) (Keeps.alloc _ _) (Nat.le_refl _)
 obtain⟨Hput1,Hput2⟩:=hid2 hput1 hput2;clear hput2 hput1
 go_enter Tryz.func16,Tryz.ntmps16
 go_wp2_with fail
 exact bodyPost_ret (results_cell_row rfl _ _ w.heap.size 37 _ _ _ rfl (heap_alloc_new w _) Tryz.underlying37 rfl Cq) rfl ⟨rfl,Keeps.alloc _ _⟩
def t00:Tm:=⟨0,0,0,0,0,0, []⟩
set_option maxHeartbeats 3200000
theorem accountNil_walk(w:World)(c:Cmd)(_:c.wf):Calls Tryz.prog 11 #[.agg #[.int .i64 c.kind,.int .i64 c.day,.int .i64 c.tranche,.int .i64 c.amount,.int .i64 c.ref]] w fun e w'=>e= .returned (.bool true)∧Below w.heap.size w w':=by
 obtain⟨ki,da,tr,am,re⟩:=c
 simp only
 have hnew:=fun W=>accNew_bad t00 (.slice none 0 0) W (Reads.nil _ _) (by decide) (by decide)
 simp only [t00] at hnew
 have hdo:=fun W=>accDo_nil ⟨ki,da,tr,am,re⟩ W
 have hsa:=fun W=>sameAns_nil 2 none none none none 0 0 0 0 W (Reads.nil _ _) (Reads.nil _ _) (Reads.nil _ _) (Reads.nil _ _)
 have hss:=fun W=>sameState_any 0 0 0 0 0 [] [] [] 0 0 0 none none none none none none 0 0 0 0 0 0 W rfl rfl rfl (by decide) (Reads.nil _ _) (Reads.nil _ _) (Reads.nil _ _) (Reads.nil _ _) (Reads.nil _ _) (Reads.nil _ _)
 simp only at hdo
 have hb0:=heap_alloc_new w (.cells #[.int .i64 ki,.int .i64 da,.int .i64 tr,.int .i64 am,.int .i64 re] 47)
 have hk0:Keeps (fun _=>False) w (w.alloc (.cells #[.int .i64 ki,.int .i64 da,.int .i64 tr,.int .i64 am,.int .i64 re] 47)):=Keeps.alloc _ _
 obtain⟨Hnew,Hdo,Hsa,Hss,Hb0,Hk0⟩:=hid6 hnew hdo hsa hss hb0 hk0;clear hk0 hb0 hss hsa hdo hnew
 go_enter Tryz.func11,Tryz.ntmps11
 go_wp2_with fail
 refine(Hnew.out _).mono ?_
 rintro e w1 ⟨rfl,hk1⟩
 have hb1:=Ad Hb0.out hk1 (by simp)
 have hk01:=Hk0.out.nt hk1
 clear hk1
 obtain⟨Hb1,Hk01⟩:=hid2 hb1 hk01;clear hk01 hb1
 go_wp2_with fail
 refine(awake22_any _).mono ?_
 rintro e w2 ⟨rfl,hk2⟩
 have hb2:=Ad Hb1.out hk2 (by simp)
 have hk02:=Hk01.out.nt hk2
 have c0:=Aa hb2 0
 have c1:=Aa hb2 1
 have c2:=Aa hb2 2
 have c3:=Aa hb2 3
 have c4:=Aa hb2 4
 have cl:=lt_of_block hb2
 clear hk2
 obtain⟨Hb2,Hk02⟩:=hid2 hb2 hk02;clear hk02 hb2
 go_wp2_with fail
 refine(Hdo.out _).mono ?_
 rintro e w3 ⟨rfl,hk3⟩
 clear c0 c1 c2 c3 c4 cl
 have hk03:=Hk02.out.nt hk3
 clear hk3
 have Hk03:=Lib.hid hk03;clear hk03
 go_wp2_with fail
 refine(Hsa.out _).mono ?_
 rintro e w4 ⟨rfl,hk4⟩
 have hk04:=Hk03.out.nt hk4
 clear hk4
 have Hk04:=Lib.hid hk04;clear hk04
 go_wp2_with fail
 refine(accState_nil _).mono ?_
 rintro e w5 ⟨rfl,hk5⟩
 have hk05:=Hk04.out.nt hk5
 clear hk5
 have Hk05:=Lib.hid hk05;clear hk05
 go_wp2_with fail
 refine(Hss.out _).mono ?_
 rintro e w6 ⟨rfl,hk6⟩
 have hk06:=Hk05.out.nt hk6
 clear hk6
 have Hk06:=Lib.hid hk06;clear hk06
 go_wp2_with (first|(go_at_call 28;refine(accEvents_nil _).mono ?_;rintro e w' ⟨rfl,rfl⟩)|(go_at_call 21;refine(accIssued_nil _).mono ?_;rintro e w' ⟨rfl,rfl⟩)|(go_at_call 26;refine(accAdjusts_nil _).mono ?_;rintro e w' ⟨rfl,rfl⟩)|(go_at_call 32;refine(accFork_nil _).mono ?_;rintro e w' ⟨rfl,rfl⟩))
 go_ret
 exact⟨rfl,Hk06.out.below (by simp) (Nat.le_refl _)⟩
end Go.Proofs.YthffbjldpfionaaGreat
namespace Go.Proofs.YthffbjldpfionaaGreat.accountNil
open Go.ChangeShapes Go.WideShapes Go.ChangeAt Go.RowKit Go.Deep
set_option maxRecDepth 100000
theorem lifted(os:Os)(started:os.Started)(H:Type)(enc:TypeId×Value→H):
  ReturnsInHanded {} Tryz.checked os 11 .any (Rows.accountNilSpec.pre6 enc Tryz.prog Tryz.f11 Rows.accountNilRow.domain false) (Rows.accountNilSpec.post enc Tryz.prog Tryz.f11 false true false false):=by
 refine returnsInHanded_of_change (C:=Tryz.checked) own started (by kernel_rfl) Tryz.func11
  (ChangeSpec.witness6 (enc:=enc) (C:=Tryz.checked) false ⟨#[], #[.agg #[.int .i64 0,.int .i64 0,.int .i64 0,.int .i64 0,.int .i64 0]], []⟩ 8 (by kernel_rfl) (by kernel_rfl) (by kernel_rfl) (by kernel_rfl)) ?_
 intro W base args ds gs before hval0 hW hcnd _
 have hval:∀(j:Nat) t v,Tryz.f11.params[j]?=some t→args[j]?=some v→Value.okWide Tryz.prog W .any base t v:=hval0
 have hW':=hW
 obtain⟨p,q,hA0,hV,rfl,hfz,hnd⟩:=hW
 have hA:DataW.TrodAll enc Tryz.prog W 0 (fun _=>true) true Tryz.f11.params.toList args.toList ds p:=hA0
 rw [Tryz.params11] at hA hval
 obtain⟨v0,vs0,d0,ds0,p0,q0,hargs,rfl,rfl,h0,r0⟩:=trodAll_cons hA
 obtain⟨rfl,rfl,rfl⟩:=trodAll_nil r0
 obtain rfl:args= #[v0]:=by cases args;simp_all
 obtain⟨rfl,rfl⟩:=trodVars_none hV
 obtain⟨cs0,rfl,hsz0⟩:=okWide_struct Tryz.underlying47 (hval 0 47 v0 rfl rfl)
 have k0:=h0
 have lt0:∀x∈p0,x.block<W.heap.size:=by obtain⟨m,hm⟩:=k0;exact DataW.trod_lt m _ _ _ hm
 obtain⟨a0,e0,w0⟩:∃a:Cmd,(Value.agg cs0).cells.toList=a.cells∧a.wf:=by obtain⟨fuel,hf⟩:=h0;exact open_Cmd _ _ _ hf
 have f0:cs0=a0.cells.toArray:=by rw [←e0];simp [Value.cells]
 subst f0
 clear hA0 hval0
 refine(accountNil_walk W a0 w0).mono fun e W' ⟨he,bel⟩=> ?_
 subst he
 exact⟨_,rfl,_,_,_, [],_, [],hW',trodAll_mk1 (shut_bool Tryz.underlying4 _),(trodAll_cons_mk (Below.trod laidOut (by kernel_rfl) (of_decide_eq_true (by kernel_rfl)) k0 bel lt0) trodAll_mk0),rfl,bel.frame _,fun h=>by cases h⟩
theorem over:Rows.accountNilRow.holds Tryz.pinned (OpenSpec.ofChange Rows.accountNilSpec):=
 OpenClaim.holds_of_wide 11 Tryz.f11 rfl rfl rfl rfl rfl rfl rfl ⟨rfl,rfl,rfl,rfl,rfl⟩ rfl rfl rfl rfl rfl (by kernel_rfl) Tryz.func11 (by kernel_rfl)
  (of_decide_eq_true (by kernel_rfl)) (by unfold Func.isWrapper;first|(rw [if_pos (by decide+kernel)];kernel_rfl)|(rw [if_neg (by decide+kernel)];exact⟨rfl,rfl⟩))
  (fun os started H enc _=>lifted os started H enc)
theorem proved:Rows.AccountNilSaid:=over
#print axioms proved
end Go.Proofs.YthffbjldpfionaaGreat.accountNil
