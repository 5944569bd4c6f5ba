/-
  AccountBack: for every input the law returns true, and each argument reads behind the call as it read before. No condition.
-/
import Derived.Test.YthffbjldpfionaaGreatAccountBackQ1
namespace Go.Proofs.YthffbjldpfionaaGreat
open Go.RowKit
theorem jY3{P:Prop}(h:P:=by
 have hSz:=HSk.out _ hk4z
 obtain⟨Hrel,Hbz,Hkz,Hk4z,HSz,Hz8⟩:=hid6 hrel hbz hkz hk4z hSz hz8;clear hz8 hSz hk4z hkz hbz hrel
 repeat ((first|refine Ai rfl (by rfl) ?_|refine Af rfl (by rfl) ?_|(refine Ah (v:= ?_) rfl (by rfl) ?_ ?_;rotate_left;(· intro w' hSw;unfold acT9 tbS at hSw;go_simp;(try with_reducible rfl));rotate_right));try simp only [aps])
 refine Ak rfl (fun K hK=> ?_)
 go_simp
 refine hK.out _ _ (by exact HSz.out) ?_
 clear hK K
 try simp only [aps]
 repeat ((first|refine Ai rfl (by rfl) ?_|refine Af rfl (by rfl) ?_|(refine Ah (v:= ?_) rfl (by rfl) ?_ ?_;rotate_left;(· intro w' hSw;unfold acT9 tbS at hSw;go_simp;(try with_reducible rfl));rotate_right));try simp only [aps])
 refine Aw ?_
 clear z0 z1 z2' zf0 zf1 zf2 hlz
 go_wp2_with fail
 go_meet
 exact Hrel.out):P:=h
theorem jY9{P:Prop}(h:P:=by
 have e':b=B:=e
 rcases hvi14 b hb with h1|h1
 ·exact HA3.out.si b h1 (.inl e')
 ·omega):P:=h
theorem jY8{P:Prop}(h:P:=by
 exact⟨v,he,ha,(h.post hx hp).1,(h.post hx hp).2⟩):P:=h
theorem jY5{P:Prop}(h:P:=by
 have hall:L.any (lateQ td)=false:=by
  rcases hb:L.any (lateQ td) with _|_
  ·rfl
  ·obtain⟨x,hx,hq⟩:=List.any_eq_true.1 hb
   have:=(hL x hx).2
   simp [lateQ] at hq
   omega
 unfold repErr
 rw [if_pos hz,if_pos (evsErr_all (fun x hx=>(hL x hx).1)),if_neg (by omega),if_neg (by omega),if_neg (by rw [ho];simp),hall]
 rfl):P:=h
theorem jY11{P:Prop}(h:P:=by
 unfold lastE
 rw [if_neg (by omega),if_neg (by omega),if_neg (by omega)]):P:=h
set_option maxRecDepth 100000
set_option maxHeartbeats 3200000
theorem accTick_any(B:Nat)(x:AcV)(a:Ac)(d:Int)(w:World)(h:AcAt w B x a)(hs:a.seq≤100000)(hmo:a.te d=0→a.s.out.length≤(a.tz d).1.out.length):Calls Tryz.prog 39 #[(.pointer (some ⟨B,0,none⟩)),.int .i64 d] w (TickPost a d w B x):=by
 by_cases hd:d<1∨400<d
 ·exact accTick_arg B x a d w h hd
 obtain⟨i0,hi,hi0,hi1,hi2⟩:=info_parts info_tStm
 have hn:=h.ok.nums
 have hd1:¬d<1:=by omega
 have hd2:¬400<d:=by omega
 obtain⟨W0,hW0⟩:∃x,x=w.alloc (.cells #[.int .i64 0,.int .i64 0,.int .i64 0,.int .i64 0,.int .i64 0,.slice none 0 0,.int .i64 0,.int .i64 0,.slice none 0 0,.slice none 0 0,.int .i64 0,.int .i64 0,.int .i64 0,.int .i64 0,.int .i64 0,.slice none 0 0,.int .i64 0,.int .i64 0,.int .i64 0,.bool false] 44):=⟨_,rfl⟩
 have hb0:W0.heap[w.heap.size]?=some (.cells #[.int .i64 0,.int .i64 0,.int .i64 0,.int .i64 0,.int .i64 0,.slice none 0 0,.int .i64 0,.int .i64 0,.slice none 0 0,.slice none 0 0,.int .i64 0,.int .i64 0,.int .i64 0,.int .i64 0,.int .i64 0,.slice none 0 0,.int .i64 0,.int .i64 0,.int .i64 0,.bool false] 44 (0,0)):=by rw [hW0];exact heap_alloc_new w _
 have hk0:Keeps (fun _=>False) w W0:=by rw [hW0];exact Keeps.alloc _ _
 obtain⟨st,hst⟩:∃s,a.t.start=s:=⟨_,rfl⟩
 obtain⟨cd,hcd⟩:∃s,a.t.cyc=s:=⟨_,rfl⟩
 obtain⟨td,htd⟩:∃s,a.today=s:=⟨_,rfl⟩
 have td0: -135140≤td:=by have:=hn.ds;have:=hn.d0;omega
 have td1:td≤2932896:=by have:=hn.d1;omega
 have hcy:=fun W=>cycOf_any st cd (td+d) W ⟨by have:=hn.ds;omega,by have:=hn.d0;have:=hn.d1;omega⟩
 obtain⟨z1,hz1⟩:∃z,ofE st cd (td+d)=z:=⟨_,rfl⟩
 obtain⟨y1,hy1⟩:∃z,ofV st cd (td+d)=z:=⟨_,rfl⟩
 rw [hz1,hy1] at hcy
 have hcS:∀W,Keeps (fun _=>False) w W→cy7S B st cd td W:=fun W hW=>by
  have hA:=h.keep0 hW
  exact⟨by rw [←hst];exact Aa hA.blk 6,by rw [←hcd];exact Aa hA.blk 2,by rw [←htd];exact Aa hA.blk 7⟩
 have q1:IntKind.i64.wrap (td+d)=td+d:=IntWalk.i64_in _ ⟨by omega,by omega⟩
 have HBl:=Lib.hid (lt_of_block h.blk)
 have hbl:=lt_of_block h.blk
 obtain⟨H,Hn,Hb0,Hk0,Hcy,Hz1,Hy1,HcS,Hst⟩:=hid9 h hn hb0 hk0 hcy hz1 hy1 hcS hst;clear hst hcS hy1 hz1 hcy hk0 hb0 hn h;obtain⟨Hcd,Htd,Hmo,Hd,Hi,Hi0,Hi1,Hi2⟩:=hid8 hcd htd hmo hd hi hi0 hi1 hi2;clear hi2 hi1 hi0 hi hd hmo htd hcd
 go_enter Tryz.func39,Tryz.ntmps39
 go_upto_region 3 with fail
 rw [←hW0]
 clear hW0
 refine Ao (cy7S B st cd td) (.take 0 (.take 1 (.take 2 (.take 3 (.take 4 (.take 5 (.take 6 (.take 7 (.take 8 (.take 9 (.take 10 (.take 11 (.take 12 (.take 13 (.take 14 (.take 15 (.move 16 (.take 17 (.take 18 (.take 19 (.take 20 (.take 21 .done)))))))))))))))))))))) (by kernel_rfl) (by kernel_rfl) ?_ ?_
 ·exact HcS.out _ (Hk0.out.nt (Keeps.drew _))
 intro w1 hs1 hk1
 repeat ((first|refine Ai rfl (by rfl) ?_|refine Af rfl (by rfl) ?_|(refine Ah (v:= ?_) rfl (by rfl) ?_ ?_;rotate_left;(· intro w' hSw;unfold cy7S at hSw;go_simp;(try with_reducible rfl));rotate_right));try simp only [aps])
 refine Ak rfl (fun K hK=> ?_)
 go_simp
 go_at_call 62
 ((with_reducible refine(Hcy.out w1).mono ?_);rintro e w2 ⟨rfl,hk2⟩;dsimp only)
 have hk02:=Keeps.nt (Keeps.nt Hk0.out hk1) hk2
 refine hK.out _ _ (by exact HcS.out _ hk02) ?_
 clear hK K
 try simp only [aps]
 have hb2:=Ad (Ad Hb0.out hk1 (by simp)) hk2 (by simp)
 clear hs1 hk1 hk2
 obtain⟨Hk02,Hb2⟩:=hid2 hk02 hb2;clear hb2 hk02
 repeat ((first|refine Ai rfl (by rfl) ?_|refine Af rfl (by rfl) ?_|(refine Ah (v:= ?_) rfl (by rfl) ?_ ?_;rotate_left;(· intro w' hSw;unfold cy7S at hSw;go_simp;(try with_reducible rfl));rotate_right));try simp only [aps])
 refine Aw ?_
 by_cases h0:z1=0
 ·subst h0
  have hofz:ofE a.t.start a.t.cyc (a.today+d)=0:=by rw [Hst.out,Hcd.out,Htd.out,Hz1.out]
  have hkw2:=Hk02.out
  obtain⟨n,hN⟩:∃n,a.t.trs.length=n:=⟨_,rfl⟩
  obtain⟨Z,hZ⟩:∃Z,walkR a.t a.L (a.today+d)=Z:=⟨_,rfl⟩
  have hcz:a.tz d=Z:=hZ
  obtain⟨adt,ct,hvt,_,_⟩:=Aj H.out.trs
  have hrt:=Reads.Bh H.out.trs
  rw [hN] at hvt hrt
  obtain⟨t,ht⟩:∃t,a.t=t:=⟨_,rfl⟩
  obtain⟨L1,hL1⟩:∃L,a.L=L:=⟨_,rfl⟩
  have hL1l:L1.length≤3000:=by rw [←hL1];have:=Hn.out.ll;omega
  rw [ht,hL1,Htd.out] at hZ
  rw [ht] at hN hrt
  rw [hvt] at hrt
  have hdl2:=H.out.dl.keep hkw2
  rw [ht,hL1] at hdl2
  obtain⟨B1,hB1⟩:∃b,x.bl=b:=⟨_,rfl⟩
  rw [hB1] at hdl2
  have hall:=fun W (hW:Keeps (fun _=>False) w2 W)=>datAll_any B1 t x.vtl x.vl L1 W (hdl2.keep hW) (by omega)
  have hrun:=fun W (hW:Keeps (fun _=>False) w2 W) ad c (hr:Reads W 5 (.slice ad L1.length c) L1.length (L1.flatMap Ev.cells))=>repRun_any t adt ct n L1 ad c L1.length (td+d) W hN (hrt.keeps (hkw2.nt hW) (by simp)) rfl hr (by omega) (by have:=Hn.out.n8;rw [ht,hN] at this;omega)
  rw [hZ] at hrun
  have hSk:∀W,Keeps (fun _=>False) w2 W→acT9 B t (.slice adt n ct) td B1 W:=fun W hW=>by have:=acT9.of (H.out.keep0 (hkw2.nt hW));rw [ht,Htd.out,hvt,hB1] at this;exact this
  obtain⟨W2,hW2⟩:∃W,W=w2:=⟨_,rfl⟩
  subst hW2
  have HBl2:=Lib.hid (Nat.lt_of_lt_of_le HBl.out hkw2.size)
  clear HBl
  have HBl:=HBl2
  clear HBl2
  obtain⟨Hkw2,Hdl2,HL1,HL1l,HN,HZ,Hvt,Hrt,Ht⟩:=hid9 hkw2 hdl2 hL1 hL1l hN hZ hvt hrt ht;clear ht hrt hvt hZ hN hL1l hL1 hdl2 hkw2;obtain⟨Hall,Hrun,HSk,Hcz,Hofz,HB1⟩:=hid6 hall hrun hSk hcz hofz hB1;clear hB1 hofz hcz hSk hrun hall
  go_upto_region 6 with fail
  go_cut [7,8,9,10] (fun p r q z wx=>CnRun W2 n Z p r q z wx)
  case first=>
   refine Ao (acT9 B t (.slice adt n ct) td B1) (.take 0 (.take 1 (.take 2 (.take 3 (.take 4 (.take 5 (.take 6 (.take 7 (.take 9 (.take 10 (.take 11 (.take 12 (.take 13 (.take 14 (.fork 8 (.fork 15 (.take 16 (.take 17 (.take 18 (.take 19 (.take 20 (.move 21 (.move 22 (.take 23 (.take 24 (.take 25 .done)))))))))) 21 (.move 15 (.take 16 (.take 17 (.take 18 (.take 19 (.take 20 (.move 22 (.take 23 (.take 24 (.take 25 .done))))))))))) 21 (.move 8 (.move 15 (.take 16 (.take 17 (.take 18 (.take 19 (.take 20 (.move 22 (.take 23 (.take 24 (.take 25 .done)))))))))))))))))))))))))) (by kernel_rfl) (by kernel_rfl) ?_ ?_
   ·exact HSk.out _ (Keeps.drew _)
   intro w3 hs3 hk3
   repeat ((first|refine Ai rfl (by rfl) ?_|refine Af rfl (by rfl) ?_|(refine Ah (v:= ?_) rfl (by rfl) ?_ ?_;rotate_left;(· intro w' hSw;unfold acT9 tbS at hSw;go_simp;(try with_reducible rfl));rotate_right));try simp only [aps])
   refine Cv ?_ ?_ (HSk.out _ hk3)
   ·refine Ak rfl (fun K hK=> ?_)
    go_simp
    go_at_call 53
    ((with_reducible refine(Hall.out w3 hk3).mono ?_);rintro e w4 hg)
    obtain⟨v',rfl,hrd,hkg,hng⟩:=hg
    obtain⟨ae,ce,rfl,_⟩:=id hrd
    dsimp only
    have hkn:Keeps (fun _=>False) W2 w4:=Keeps.nt hk3 hkg
    refine hK.out _ _ (by exact HSk.out _ hkn) ?_
    clear hK K
    try simp only [aps]
    repeat ((first|refine Ai rfl (by rfl) ?_|refine Af rfl (by rfl) ?_|(refine Ah (v:= ?_) rfl (by rfl) ?_ ?_;rotate_left;(· intro w' hSw;unfold acT9 tbS at hSw;go_simp;(try with_reducible rfl));rotate_right));try simp only [aps])
    refine Cv ?_ ?_ (HSk.out _ hkn)
    ·refine Ak rfl (fun K hK=> ?_)
     go_simp
     go_at_call 37
     ((with_reducible refine(Hrun.out w4 hkn ae ce hrd).mono ?_);intro e w5 hpo)
     obtain⟨vb2,cr2,du2,vr2,vo2,z2,rfl,hi2,hk7,a2,n2,c2,rfl⟩:=run_is hpo
     clear hpo
     dsimp only
     have hkr:Keeps (fun _=>False) W2 w5:=Keeps.nt hkn hk7
     refine hK.out _ _ (by exact HSk.out _ hkr) ?_
     clear hK K
     try simp only [aps]
     repeat ((first|refine Ai rfl (by rfl) ?_|refine Af rfl (by rfl) ?_|(refine Ah (v:= ?_) rfl (by rfl) ?_ ?_;rotate_left;(· intro w' hSw;unfold acT9 tbS at hSw;go_simp;(try with_reducible rfl));rotate_right));try simp only [aps])
     obtain⟨w8,hw8⟩:∃x,x=(w5).alloc (.cells #[.slice none 0 0,.int .i64 0,.int .i64 0] 34):=⟨_,rfl⟩
     obtain⟨b7,hb7⟩:∃x,x=(w5).heap.size:=⟨_,rfl⟩
     have hkA:Keeps (fun _=>False) w5 w8:=by rw [hw8];exact Keeps.alloc _ _
     have hz8:(w8).heap[b7]?=some (.cells #[.slice none 0 0,.int .i64 0,.int .i64 0] 34 (0,0)):=by rw [hw8,hb7];exact heap_alloc_new _ _
     have hb7l:W2.heap.size≤b7:=by rw [hb7];exact(hkr).size
     have hka8:Keeps (fun _=>False) W2 w8:=Keeps.nt hkr hkA
     have hb7B:¬B=b7:=fun e=>by have:=HBl.out;omega
     have hb7w:(w5).heap.size≤b7:=by rw [hb7];exact Nat.le_refl _
     refine Ak rfl (fun K hK=> ?_)
     go_simp
     rw [←hw8,←hb7]
     clear hw8 hb7
     refine hK.out _ _ (by exact HSk.out _ hka8) ?_
     clear hK K
     try simp only [aps]
     repeat ((first|refine Ai rfl (by rfl) ?_|refine Af rfl (by rfl) ?_|(refine Ah (v:= ?_) rfl (by rfl) ?_ ?_;rotate_left;(· intro w' hSw;unfold acT9 tbS at hSw;go_simp;(try with_reducible rfl));rotate_right));try simp only [aps])
     have hlz:=lt_of_block hz8
     have z0:=Aa hz8 0
     have z1:=Aa hz8 1
     have z2':=Aa hz8 2
     have zf0:=Ab hz8 0
     have zf1:=Ab hz8 1
     have zf2:=Ab hz8 2
     obtain⟨hbz,hkz⟩:=store3 hz8 (.slice a2 n2 c2) (.int .i64 cr2) (.int .i64 du2)
     have hk4z:Keeps (fun _=>False) W2 ((((w8).setCell ⟨b7,0,none⟩ (.slice a2 n2 c2)).setCell ⟨b7,1,none⟩ (.int .i64 cr2)).setCell ⟨b7,2,none⟩ (.int .i64 du2)):=Keeps.trans hka8 (hkz.mono fun i _ e=> .inr (by have e':i=b7:=e;omega))
     have hrel:CnRun W2 n Z (.pointer (some ⟨b7,0,none⟩)) vr2 vo2 (.int .i64 z2) ((((w8).setCell ⟨b7,0,none⟩ (.slice a2 n2 c2)).setCell ⟨b7,1,none⟩ (.int .i64 cr2)).setCell ⟨b7,2,none⟩ (.int .i64 du2)):=⟨b7,_,_,_,cr2,du2,z2,rfl,rfl,rfl,rfl,hb7l,hk4z,hbz,((hi2.up hkn).keep (hkA.trans (hkz.mono fun i _ e=> .inr (by have e':i=b7:=e;omega)))),_,_,_,rfl⟩
     exact jY3
    ·obtain⟨w8,hw8⟩:∃x,x=(w4).alloc (.cells #[.slice none 0 0,.int .i64 0,.int .i64 0] 34):=⟨_,rfl⟩
     obtain⟨b7,hb7⟩:∃x,x=(w4).heap.size:=⟨_,rfl⟩
     have hkA:Keeps (fun _=>False) w4 w8:=by rw [hw8];exact Keeps.alloc _ _
     have hz8:(w8).heap[b7]?=some (.cells #[.slice none 0 0,.int .i64 0,.int .i64 0] 34 (0,0)):=by rw [hw8,hb7];exact heap_alloc_new _ _
     have hb7l:W2.heap.size≤b7:=by rw [hb7];exact(hkn).size
     have hka8:Keeps (fun _=>False) W2 w8:=Keeps.nt hkn hkA
     have hb7B:¬B=b7:=fun e=>by have:=HBl.out;omega
     have hb7w:(w4).heap.size≤b7:=by rw [hb7];exact Nat.le_refl _
     refine Ak rfl (fun K hK=> ?_)
     go_simp
     rw [←hw8,←hb7]
     clear hw8 hb7
     refine hK.out _ _ (by exact HSk.out _ hka8) ?_
     clear hK K
     try simp only [aps]
     repeat ((first|refine Ai rfl (by rfl) ?_|refine Af rfl (by rfl) ?_|(refine Ah (v:= ?_) rfl (by rfl) ?_ ?_;rotate_left;(· intro w' hSw;unfold acT9 tbS at hSw;go_simp;(try with_reducible rfl));rotate_right));try simp only [aps])
     have hrd8:=hrd.keeps hkA (by simp)
     refine Ak rfl (fun K hK=> ?_)
     go_simp
     go_at_call 37
     ((with_reducible refine(Hrun.out w8 hka8 ae ce hrd8).mono ?_);intro e w5 hpo)
     obtain⟨vb2,cr2,du2,vr2,vo2,z2,rfl,hi2,hk7,a2,n2,c2,rfl⟩:=run_is hpo
     clear hpo
     dsimp only
     have hkr:Keeps (fun _=>False) W2 w5:=Keeps.nt hka8 hk7
     refine hK.out _ _ (by exact HSk.out _ hkr) ?_
     clear hK K
     try simp only [aps]
     have hz5:=Ad hz8 hk7 (by simp)
     have hl8:=lt_of_block hz8
     repeat ((first|refine Ai rfl (by rfl) ?_|refine Af rfl (by rfl) ?_|(refine Ah (v:= ?_) rfl (by rfl) ?_ ?_;rotate_left;(· intro w' hSw;unfold acT9 tbS at hSw;go_simp;(try with_reducible rfl));rotate_right));try simp only [aps])
     have hlz:=lt_of_block hz5
     have z0:=Aa hz5 0
     have z1:=Aa hz5 1
     have z2':=Aa hz5 2
     have zf0:=Ab hz5 0
     have zf1:=Ab hz5 1
     have zf2:=Ab hz5 2
     obtain⟨hbz,hkz⟩:=store3 hz5 (.slice a2 n2 c2) (.int .i64 cr2) (.int .i64 du2)
     have hk4z:Keeps (fun _=>False) W2 ((((w5).setCell ⟨b7,0,none⟩ (.slice a2 n2 c2)).setCell ⟨b7,1,none⟩ (.int .i64 cr2)).setCell ⟨b7,2,none⟩ (.int .i64 du2)):=Keeps.trans hkr (hkz.mono fun i _ e=> .inr (by have e':i=b7:=e;omega))
     have hrel:CnRun W2 n Z (.pointer (some ⟨b7,0,none⟩)) vr2 vo2 (.int .i64 z2) ((((w5).setCell ⟨b7,0,none⟩ (.slice a2 n2 c2)).setCell ⟨b7,1,none⟩ (.int .i64 cr2)).setCell ⟨b7,2,none⟩ (.int .i64 du2)):=⟨b7,_,_,_,cr2,du2,z2,rfl,rfl,rfl,rfl,hb7l,hk4z,hbz,(hi2.lift hkz hl8 hka8 hb7l),_,_,_,rfl⟩
     exact jY3
   ·obtain⟨w8,hw8⟩:∃x,x=(w3).alloc (.cells #[.slice none 0 0,.int .i64 0,.int .i64 0] 34):=⟨_,rfl⟩
    obtain⟨b7,hb7⟩:∃x,x=(w3).heap.size:=⟨_,rfl⟩
    have hkA:Keeps (fun _=>False) w3 w8:=by rw [hw8];exact Keeps.alloc _ _
    have hz8:(w8).heap[b7]?=some (.cells #[.slice none 0 0,.int .i64 0,.int .i64 0] 34 (0,0)):=by rw [hw8,hb7];exact heap_alloc_new _ _
    have hb7l:W2.heap.size≤b7:=by rw [hb7];exact(hk3).size
    have hka8:Keeps (fun _=>False) W2 w8:=Keeps.nt hk3 hkA
    have hb7B:¬B=b7:=fun e=>by have:=HBl.out;omega
    have hb7w:(w3).heap.size≤b7:=by rw [hb7];exact Nat.le_refl _
    refine Ak rfl (fun K hK=> ?_)
    go_simp
    rw [←hw8,←hb7]
    clear hw8 hb7
    refine hK.out _ _ (by exact HSk.out _ hka8) ?_
    clear hK K
    try simp only [aps]
    repeat ((first|refine Ai rfl (by rfl) ?_|refine Af rfl (by rfl) ?_|(refine Ah (v:= ?_) rfl (by rfl) ?_ ?_;rotate_left;(· intro w' hSw;unfold acT9 tbS at hSw;go_simp;(try with_reducible rfl));rotate_right));try simp only [aps])
    refine Ak rfl (fun K hK=> ?_)
    go_simp
    go_at_call 53
    ((with_reducible refine(Hall.out w8 hka8).mono ?_);rintro e w4 hg)
    obtain⟨v',rfl,hrd,hkg,hng⟩:=hg
    obtain⟨ae,ce,rfl,_⟩:=id hrd
    dsimp only
    have hkn:Keeps (fun _=>False) W2 w4:=Keeps.nt hka8 hkg
    refine hK.out _ _ (by exact HSk.out _ hkn) ?_
    clear hK K
    try simp only [aps]
    have hz4:=Ad hz8 hkg (by simp)
    have hl4:=lt_of_block hz4
    repeat ((first|refine Ai rfl (by rfl) ?_|refine Af rfl (by rfl) ?_|(refine Ah (v:= ?_) rfl (by rfl) ?_ ?_;rotate_left;(· intro w' hSw;unfold acT9 tbS at hSw;go_simp;(try with_reducible rfl));rotate_right));try simp only [aps])
    refine Ak rfl (fun K hK=> ?_)
    go_simp
    go_at_call 37
    ((with_reducible refine(Hrun.out w4 hkn ae ce hrd).mono ?_);intro e w5 hpo)
    obtain⟨vb2,cr2,du2,vr2,vo2,z2,rfl,hi2,hk7,a2,n2,c2,rfl⟩:=run_is hpo
    clear hpo
    dsimp only
    have hkr:Keeps (fun _=>False) W2 w5:=Keeps.nt hkn hk7
    refine hK.out _ _ (by exact HSk.out _ hkr) ?_
    clear hK K
    try simp only [aps]
    have hz5:=Ad hz4 hk7 (by simp)
    repeat ((first|refine Ai rfl (by rfl) ?_|refine Af rfl (by rfl) ?_|(refine Ah (v:= ?_) rfl (by rfl) ?_ ?_;rotate_left;(· intro w' hSw;unfold acT9 tbS at hSw;go_simp;(try with_reducible rfl));rotate_right));try simp only [aps])
    have hlz:=lt_of_block hz5
    have z0:=Aa hz5 0
    have z1:=Aa hz5 1
    have z2':=Aa hz5 2
    have zf0:=Ab hz5 0
    have zf1:=Ab hz5 1
    have zf2:=Ab hz5 2
    obtain⟨hbz,hkz⟩:=store3 hz5 (.slice a2 n2 c2) (.int .i64 cr2) (.int .i64 du2)
    have hk4z:Keeps (fun _=>False) W2 ((((w5).setCell ⟨b7,0,none⟩ (.slice a2 n2 c2)).setCell ⟨b7,1,none⟩ (.int .i64 cr2)).setCell ⟨b7,2,none⟩ (.int .i64 du2)):=Keeps.trans hkr (hkz.mono fun i _ e=> .inr (by have e':i=b7:=e;omega))
    have hrel:CnRun W2 n Z (.pointer (some ⟨b7,0,none⟩)) vr2 vo2 (.int .i64 z2) ((((w5).setCell ⟨b7,0,none⟩ (.slice a2 n2 c2)).setCell ⟨b7,1,none⟩ (.int .i64 cr2)).setCell ⟨b7,2,none⟩ (.int .i64 du2)):=⟨b7,_,_,_,cr2,du2,z2,rfl,rfl,rfl,rfl,hb7l,hk4z,hbz,(hi2.lift hkz hl4 hkn hb7l),_,_,_,rfl⟩
    exact jY3
  obtain⟨b7,vb,vr,vo,cr,du,zz,rfl,rfl,rfl,rfl,hb7,hk7,hbx7,hi7,av,mv,cv,rfl⟩:=hcut
  obtain⟨W7,hW7⟩:∃x,x=wc:=⟨_,rfl⟩
  subst hW7
  have hkw7:=Hkw2.out.nt hk7
  have hb7':=Ad Hb2.out hk7 (by simp)
  clear q1
  cases hi7 with
  |bad hz7=>
   obtain⟨zz,hzz⟩:∃zz,Z.2=zz:=⟨_,rfl⟩
   rw [hzz] at hz7⊢
   have hne:(zz !=0)=true:=by simp [hz7]
   have hc:=te_bad (a:=a) Hd.out Hofz.out (by rw [Hcz.out,hzz];exact hz7)
   rw [Hcz.out,hzz] at hc
   obtain⟨Hzz,Hz7,Hc,Hkw7,Hk7,Hbx7,Hb7'⟩:=hid7 hzz hz7 hc hkw7 hk7 hbx7 hb7';clear hb7' hbx7 hk7 hkw7 hc hz7 hzz
   go_wp2_with fail
   refine(Cb zz _).mono ?_
   rintro e w8 ⟨rfl,hk8⟩
   have hb8:=Ad Hb7'.out hk8 (by simp)
   have hk08:=Hkw7.out.nt hk8
   clear hk8
   obtain⟨Hb8,Hk08⟩:=hid2 hb8 hk08;clear hk08 hb8
   obtain⟨hput1,hput2⟩:=putRow (V:= #[.int .i64 zz,.int .i64 0,.int .i64 0,.int .i64 0,.int .i64 0,.slice none 0 0,.int .i64 0,.int .i64 0,.slice none 0 0,.slice none 0 0,.int .i64 0,.int .i64 0,.int .i64 0,.int .i64 0,.int .i64 0,.slice none 0 0,.int .i64 0,.int .i64 0,.int .i64 0,.bool false]) Hb8.out Hk08.out (Nat.le_refl _)
   obtain⟨Hput1,Hput2⟩:=hid2 hput1 hput2;clear hput2 hput1
   go_wp2_with (refine wpList_store_row rfl 44 (.tmp 4) (.tmp 66) rfl w.heap.size #[.int .i64 zz,.int .i64 0,.int .i64 0,.int .i64 0,.int .i64 0,.slice none 0 0,.int .i64 0,.int .i64 0,.slice none 0 0,.slice none 0 0,.int .i64 0,.int .i64 0,.int .i64 0,.int .i64 0,.int .i64 0,.slice none 0 0,.int .i64 0,.int .i64 0,.int .i64 0,.bool false] rfl rfl 44 #[.int .i64 0,.int .i64 0,.int .i64 0,.int .i64 0,.int .i64 0,.slice none 0 0,.int .i64 0,.int .i64 0,.slice none 0 0,.slice none 0 0,.int .i64 0,.int .i64 0,.int .i64 0,.int .i64 0,.int .i64 0,.slice none 0 0,.int .i64 0,.int .i64 0,.int .i64 0,.bool false] Hb8.out Ar rfl (Br zz 0 0) ?_)
   exact bodyPost_ret (results_cell_row rfl _ _ w.heap.size 44 #[.int .i64 zz,.int .i64 0,.int .i64 0,.int .i64 0,.int .i64 0,.slice none 0 0,.int .i64 0,.int .i64 0,.slice none 0 0,.slice none 0 0,.int .i64 0,.int .i64 0,.int .i64 0,.int .i64 0,.int .i64 0,.slice none 0 0,.int .i64 0,.int .i64 0,.int .i64 0,.bool false] _ _ rfl Hput1.out Tryz.underlying44 rfl Ar) rfl ⟨by rw [Hc.out.1,Hc.out.2.1],by rw [Hc.out.2.2];exact AcPost.same H.out Hput2.out⟩
  | @ok _ _ _ P hz7 g=>
   have hA:=H.out.keep0 hkw7
   obtain⟨hte,htc,htk⟩:=te_ok (a:=a) Hd.out Hofz.out (by rw [Hcz.out];exact hz7)
   have hmo:=Hmo.out hte
   rw [Hcz.out] at htc htk hmo
   obtain⟨adn,cn,hvn,hstm,hPl⟩:=hA.stmN
   obtain⟨ao,co,rfl,hco,hao⟩:=Aj g.out
   obtain⟨ar,cr2,rfl,_,_⟩:=Aj g.rts
   obtain⟨o1,o2,_,_⟩:=walkR_out HZ.out hz7
   obtain⟨n1,hn1⟩:∃n,x.P.length=n:=⟨_,rfl⟩
   obtain⟨n2,hn2⟩:∃n,P.length=n:=⟨_,rfl⟩
   have hn1':a.s.out.length=n1:=by rw [←hn1,←H.out.ns,List.length_map]
   have hn2':Z.1.out.length=n2:=by rw [←hn2,←g.lp,List.length_map]
   rw [hn1',hn2'] at hmo htc
   rw [hn2]
   rw [hn1] at hvn hPl
   rw [hn2] at hco
   have hll:∀y∈P,y.s.lines.length≤1000:=fun y hy=>by
    have h1:y.s∈Z.1.out:=by rw [←g.lp];exact List.mem_map.2 ⟨y,hy,rfl⟩
    have h2:=o1 _ h1
    have h3:=Hn.out.n8
    rw [Ht.out] at h3
    omega
   have hn2l:n2≤300:=by rw [←hn2'];exact o2
   obtain⟨tcv,htcv⟩:∃z,a.tc d=z:=⟨_,rfl⟩
   rw [htcv] at htc
   obtain⟨w8,hw8⟩:∃W,W=(W7.alloc (.cells #[.int .i64 0,.int .i64 0,.int .i64 0,.int .i64 0,.int .i64 0,.slice none 0 0,.int .i64 0,.int .i64 0,.slice none 0 0,.slice none 0 0,.int .i64 0,.int .i64 0,.int .i64 0,.int .i64 0,.int .i64 0,.slice none 0 0,.int .i64 0,.int .i64 0,.int .i64 0,.bool false] 44)).setRow W7.heap.size #[.int .i64 0,.int .i64 0,.int .i64 0,.int .i64 0,.int .i64 0,.slice none 0 0,.int .i64 0,.int .i64 0,.slice none 0 0,.slice none 0 0,.int .i64 0,.int .i64 0,.int .i64 0,.int .i64 0,.int .i64 0,.slice none 0 0,.int .i64 0,.int .i64 0,.int .i64 0,.bool false]:=⟨_,rfl⟩
   obtain⟨b11,hb11⟩:∃b,b=W7.heap.size:=⟨_,rfl⟩
   have hb11l:W7.heap.size≤b11:=by rw [hb11];exact Nat.le_refl _
   have hk8:Keeps (fun _=>False) W7 w8:=by rw [hw8];exact(Keeps.alloc (S:=fun _=>False) W7 (.cells #[.int .i64 0,.int .i64 0,.int .i64 0,.int .i64 0,.int .i64 0,.slice none 0 0,.int .i64 0,.int .i64 0,.slice none 0 0,.slice none 0 0,.int .i64 0,.int .i64 0,.int .i64 0,.int .i64 0,.int .i64 0,.slice none 0 0,.int .i64 0,.int .i64 0,.int .i64 0,.bool false] 44)).trans ((Ca _ _ _).mono fun i _ e=> .inr (by have e':i=W7.heap.size:=e;omega))
   have c15:w8.cell? ⟨B,15,none⟩=some (.slice adn n1 cn):=by rw [←hvn];exact Aa (hA.keep0 hk8).blk 15
   have hblc:=lt_of_block (hA.keep0 hk8).blk
   have hbx8:w8.heap[b11]?=some (.cells #[.int .i64 0,.int .i64 0,.int .i64 0,.int .i64 0,.int .i64 0,.slice none 0 0,.int .i64 0,.int .i64 0,.slice none 0 0,.slice none 0 0,.int .i64 0,.int .i64 0,.int .i64 0,.int .i64 0,.int .i64 0,.slice none 0 0,.int .i64 0,.int .i64 0,.int .i64 0,.bool false] 44 (0,0)):=by rw [hw8,hb11];exact setRow_heap _ _ _ _ _ _ (heap_alloc_new W7 (.cells #[.int .i64 0,.int .i64 0,.int .i64 0,.int .i64 0,.int .i64 0,.slice none 0 0,.int .i64 0,.int .i64 0,.slice none 0 0,.slice none 0 0,.int .i64 0,.int .i64 0,.int .i64 0,.int .i64 0,.int .i64 0,.slice none 0 0,.int .i64 0,.int .i64 0,.int .i64 0,.bool false] 44))
   obtain⟨Hz7,Hk7,Hbx7,Hkw7,Hb7',G,HA,Hte,Htk⟩:=hid9 hz7 hk7 hbx7 hkw7 hb7' g hA hte htk;clear htk hte hA g hb7' hkw7 hbx7 hk7 hz7;obtain⟨Hvn,Hstm,Hn1,Hn2,Hn1',Hn2',Hll,Htcv,Hk8⟩:=hid9 hvn hstm hn1 hn2 hn1' hn2' hll htcv hk8;clear hk8 htcv hll hn2' hn1' hn2 hn1 hstm hvn;obtain⟨Hbx8,O1,Hao⟩:=hid3 hbx8 o1 hao;clear hao o1 hbx8
   go_upto_if 75 with(refine wpList_store_row rfl 44 (.tmp 11) (.tmp 67) rfl W7.heap.size #[.int .i64 0,.int .i64 0,.int .i64 0,.int .i64 0,.int .i64 0,.slice none 0 0,.int .i64 0,.int .i64 0,.slice none 0 0,.slice none 0 0,.int .i64 0,.int .i64 0,.int .i64 0,.int .i64 0,.int .i64 0,.slice none 0 0,.int .i64 0,.int .i64 0,.int .i64 0,.bool false] rfl rfl 44 #[.int .i64 0,.int .i64 0,.int .i64 0,.int .i64 0,.int .i64 0,.slice none 0 0,.int .i64 0,.int .i64 0,.slice none 0 0,.slice none 0 0,.int .i64 0,.int .i64 0,.int .i64 0,.int .i64 0,.int .i64 0,.slice none 0 0,.int .i64 0,.int .i64 0,.int .i64 0,.bool false] (heap_alloc_new W7 _) Ar rfl (Br 0 0 0) ?_;rw [←hw8,←hb11];clear hw8 hb11)
   go_cut [11] (fun p wx=>p=(.pointer (some ⟨b11,0,none⟩))∧wx.heap[b11]?=some (.cells #[.int .i64 0,.int .i64 0,.int .i64 tcv,.int .i64 0,.int .i64 0,.slice none 0 0,.int .i64 0,.int .i64 0,.slice none 0 0,.slice none 0 0,.int .i64 0,.int .i64 0,.int .i64 0,.int .i64 0,.int .i64 0,.slice none 0 0,.int .i64 0,.int .i64 0,.int .i64 0,.bool false] 44 (0,0))∧Keeps (fun _=>False) W7 wx)
   case first=>
    by_cases hlt:n1<n2
    ·have hltI:(n1:Int)<(n2:Int):=by omega
     rw [if_pos hlt] at htc
     subst htc
     have x2:=Aa Hbx8.out 2
     have y2:=Ab Hbx8.out 2
     have xl:=lt_of_block Hbx8.out
     have hz9:=(heap_setCell_same _ _ 2 _ _ (.int .i64 (n2:Int)) Hbx8.out).trans rfl
     have hk9:Keeps (fun _=>False) W7 (w8.setCell ⟨b11,2,none⟩ (.int .i64 (n2:Int))):=Hk8.out.trans ((Keeps.setCell (S:=fun i=>i=b11) _ _ _ rfl).mono fun i _ e=> .inr (by have e':i=b11:=e;omega))
     obtain⟨Hz9,Hk9⟩:=hid2 hz9 hk9;clear hk9 hz9
     go_wp2_with fail
     go_meet
     exact⟨by first|rfl|trivial,Hz9.out,Hk9.out⟩
    ·have hltI:¬(n1:Int)<(n2:Int):=by omega
     rw [if_neg hlt] at htc
     subst htc
     go_wp2_with fail
     go_meet
     exact⟨by first|rfl|trivial,Hbx8.out,Hk8.out⟩
   have Htc:=Lib.hid htc;clear htc
   obtain⟨rfl,hbxz,hkz⟩:=hcut
   have hA2:=HA.out.keep0 hkz
   obtain⟨nI,hnI⟩:∃n,x.I.length=n:=⟨_,rfl⟩
   obtain⟨ai,ci,hvi,_,_⟩:=Aj H.out.iss
   rw [hnI] at hvi
   have hnI1:nI≤300:=by
    have:nI=n1:=by rw [←hnI,←Hn1'.out,←H.out.ok.il,←H.out.is,List.length_map]
    omega
   have htS:∀W,Keeps (fun _=>False) wc W→t12S B (.slice ai nI ci) (.slice adn n1 cn) W:=fun W hW=>by
    have:=t12S.of hA2 hW
    rw [hvi,Hvn.out] at this
    exact this
   have hbl2:=lt_of_block hA2.blk
   clear c15 hblc
   have hvi':=hvi
   obtain⟨Hbxz,Hkz,HA2,HnI,Hvi,HtS⟩:=hid6 hbxz hkz hA2 hnI hvi htS;clear htS hvi hnI hA2 hkz hbxz
   obtain⟨ad9,had9⟩:∃x,x=(if co=n1 then ao else Option.map (fun x=>x.add (n1*9)) ao):=⟨_,rfl⟩
   have hst9:StmsR wc ad9 (n2-n1) (co-n1) (P.drop n1):=by
    rw [had9]
    exact drop_stms (⟨by rw [←Hn2.out];exact(Reads.Bh G.out.out).keeps Hkz.out (by simp),fun y hy=>(Reads.Bh (G.out.ln y hy)).keeps Hkz.out (by simp),Hll.out,Hn2.out⟩:StmsR wc ao n2 co P) hmo
   have hown:=fun W (hW:Keeps (fun _=>False) wc W)=>accOwn_any ad9 (co-n1) (n2-n1) (P.drop n1) W (hst9.keep hW) (by omega)
   obtain⟨Hst9,Hown⟩:=hid2 hst9 hown;clear hown hst9
   go_upto_region 12 with fail
   refine Ce (t12S B (.slice ai nI ci) (.slice adn n1 cn)) 16 (.take 0 (.take 1 (.take 2 (.take 3 (.take 4 (.take 5 (.take 6 (.take 7 (.take 8 (.take 9 (.take 10 (.take 11 (.move 12 (.move 13 (.move 14 (.move 15 (.move 16 .done))))))))))))))))) (by kernel_rfl) (by kernel_rfl) ?_ ?_
   ·exact HtS.out _ (Keeps.drew _)
   intro w9 hs9 hk9
   repeat ((first|refine Ai rfl (by rfl) ?_|refine Af rfl (by rfl) ?_|(refine Ah (v:= ?_) rfl (by rfl) ?_ ?_;rotate_left;(· intro w' hSw;unfold t12S at hSw;go_simp;(try with_reducible rfl));rotate_right));try simp only [aps])
   rw [←had9]
   clear had9
   refine Ak rfl (fun K hK=> ?_)
   go_simp
   go_at_call 46
   ((with_reducible refine(Hown.out w9 hk9).mono ?_);rintro e w10 hg)
   obtain⟨v10,Q,rfl,hp,hq⟩:=hg
   dsimp only
   have hk10:=Keeps.nt hk9 hp.fr.1
   refine hK.out _ _ (by exact HtS.out _ hk10) ?_
   clear hK K
   try simp only [aps]
   obtain⟨aq,cq,rfl,_,_⟩:=Aj hp.row
   obtain⟨nq,hnq⟩:∃n,Q.length=n:=⟨_,rfl⟩
   have hnq1:nq≤300:=by
    have:nq=n2-n1:=by rw [←hnq];have:=congrArg List.length hq;simpa [Hn2.out] using this
    omega
   have hA3:=HA2.out.keep0 hk10
   have hrowI:=hA3.iss
   rw [hvi',HnI.out] at hrowI
   have hrdQ:=Reads.Bh hp.row
   rw [hnq] at hrdQ⊢
   have hbxA:=Ad Hbxz.out hk10 (by simp)
   have hbx7A:=Ad Hbx7.out (Hkz.out.nt hk10) (by simp)
   have hb7A:=Ad Hb7'.out (Hkz.out.nt hk10) (by simp)
   have hkz10:=Hkz.out.nt hk10
   have hqlf:∀y∈Q,∀b,y.v.ownBlock=some b→W2.heap.size≤b:=fun y hy b hb=>by have h1:=hp.lf y hy b hb;have h2:=(Hk7.out.nt (Hkz.out.nt hk9)).size;omega
   have hqln:=hp.ln
   have hone:=SV.one Q
   have hl3:=lt_of_block hA3.blk
   clear hp hs9 hk9
   obtain⟨Hq,Hnq,HbxA,Hbx7A,Hb7A,Hkz10,Hqlf,Hqln,Hone⟩:=hid9 hq hnq hbxA hbx7A hb7A hkz10 hqlf hqln hone;clear hone hqln hqlf hkz10 hb7A hbx7A hbxA hnq hq;obtain⟨HA3,HrdQ,HrowI⟩:=hid3 hA3 hrdQ hrowI;clear hrowI hrdQ hA3
   repeat ((first|refine Ai rfl (by rfl) ?_|refine Af rfl (by rfl) ?_|(refine Ah (v:= ?_) rfl (by rfl) ?_ ?_;rotate_left;(· intro w' hSw;unfold t12S at hSw;go_simp;(try with_reducible rfl));rotate_right));try simp only [aps])
   refine Ak rfl (fun K hK=> ?_)
   refine Bt rfl (.tmp 83) (.tmp 91) 58 rfl 0 42 i0 _ 9 88 Tryz.underlying58 Hi.out Hi0.out Hi1.out Hi2.out rfl (by decide) (.slice ai nI ci) nI _ rfl HrowI.out _ nq _ rfl HrdQ.out Hone.out (by unfold maxLen;omega) (by omega) (Nat.zero_le _) ?_
   intro v14 w14 hown14 hk14 hf14
   obtain⟨a14,c14,rfl,_,_⟩:=Aj hown14
   have hnB14:¬(Value.slice ai nI ci).ownBlock=some B:=fun e=>HA3.out.si B (by rw [hvi'];exact e) (.inl rfl)
   have hb14:=Ad HA3.out.blk hk14 hnB14
   obtain⟨oc,o16⟩:∃v,w14.cell? ⟨B,16,none⟩=some v:=⟨_,(Aa hb14 16).trans rfl⟩
   have of16:=Ab hb14 16
   have ol16:=lt_of_block hb14
   refine hK.out _ _ (by exact(HtS.out _ hk10).keepS hk14 hnB14) ?_
   clear hK K
   try simp only [aps]
   obtain⟨Hb14,Hown14,Hk14,Hf14,Hk10⟩:=hid5 hb14 hown14 hk14 hf14 hk10;clear hk10 hf14 hk14 hown14 hb14
   repeat (refine Cx (v:= ?_) rfl (by rfl) ?_ ?_;rotate_left;(· intro w' hSw;unfold t12S at hSw;go_simp;(try with_reducible rfl));rotate_right;try simp only [aps])
   refine Cr rfl (fun K hK=> ?_)
   go_simp
   refine hK.out _ _ ?_
   clear hK K
   try simp only [aps]
   refine Aw ?_
   obtain⟨sq,hsq⟩:∃s,a.seq=s:=⟨_,rfl⟩
   have hs0:=H.out.ok.s0
   rw [hsq] at hs hs0
   have q1:IntKind.i64.wrap (td+d)=td+d:=IntWalk.i64_in _ ⟨by omega,by omega⟩
   have q2:IntKind.i64.wrap (sq+1)=sq+1:=IntWalk.i64_in _ ⟨by omega,by omega⟩
   obtain⟨W17,hW17⟩:∃W,W=w14.setCell ⟨B,16,none⟩ (.slice a14 (nI+nq) c14):=⟨_,rfl⟩
   have k17:Keeps (fun i=>i=B) w14 W17:=by rw [hW17];exact(Keeps.refl _ _).setB _ _
   have hb17:W17.heap[B]?=some (.cells #[.int .i64 a.t.limit,x.vt,.int .i64 a.t.cyc,.int .i64 a.t.due,.int .i64 a.t.minFixed,.int .i64 a.t.minPart,.int .i64 a.t.start,.int .i64 td,.int .i64 sq,(.pointer (some ⟨x.bl,0,none⟩)),(.pointer (some ⟨x.bb,0,none⟩)),x.vp,.int .i64 a.s.p.cr,.int .i64 a.s.p.du,x.vr,x.vn,.slice a14 (nI+nq) c14,x.va] 89 (0,0)):=by rw [hW17,←hsq,←Htd.out];exact heap_setCell_same _ _ 16 _ _ (.slice a14 (nI+nq) c14) Hb14.out
   rw [←hW17]
   clear hW17 ol16 of16 o16
   have hvilt:∀b,x.vi.ownBlock=some b→b<w.heap.size:=fun b hb=>rowLt H.out.iss hb
   have hsz2:=Hkw2.out.size
   have hb7B:¬b7=B:=fun e=>by have:=HBl.out;omega
   have hBb7:¬B=b7:=fun e=>hb7B e.symm
   have hW7l:=Hk7.out.size
   have hwl:=Hk0.out.size
   have hRB:¬w.heap.size=B:=fun e=>by omega
   have hb11B:¬b11=B:=fun e=>by have:=HBl.out;omega
   have hx7:=Ad (Ad Hbx7A.out Hk14.out (fun e=>by have:=hvilt b7 (by rw [hvi'];exact e);omega)) k17 hb7B
   have hx11:=Ad (Ad HbxA.out Hk14.out (fun e=>by have:=hvilt b11 (by rw [hvi'];exact e);omega)) k17 hb11B
   have hxR:=Ad (Ad Hb7A.out Hk14.out (fun e=>by have:=hvilt _ (by rw [hvi'];exact e);omega)) k17 hRB
   have p0:=Aa hx7 0
   have p1:=Aa hx7 1
   have p2:=Aa hx7 2
   have pl:=lt_of_block hx7
   have d7:=Aa hb17 7
   have d8:=Aa hb17 8
   have d11:=Aa hb17 11
   have d12:=Aa hb17 12
   have d13:=Aa hb17 13
   have d14:=Aa hb17 14
   have d15:=Aa hb17 15
   have f7:=Ab hb17 7
   have f8:=Ab hb17 8
   have f11:=Ab hb17 11
   have f12:=Ab hb17 12
   have f13:=Ab hb17 13
   have f14:=Ab hb17 14
   have f15:=Ab hb17 15
   have fl:=lt_of_block hb17
   have g1:=heap_setCell_same _ _ 7 _ _ (.int .i64 (td+d)) hb17
   have g2:=heap_setCell_same _ _ 11 _ _ (.slice av mv cv) g1
   have g3:=heap_setCell_same _ _ 12 _ _ (.int .i64 Z.1.p.cr) g2
   have g4:=heap_setCell_same _ _ 13 _ _ (.int .i64 Z.1.p.du) g3
   have g5:=heap_setCell_same _ _ 14 _ _ (.slice ar n cr2) g4
   have g6:=heap_setCell_same _ _ 15 _ _ (.slice ao n2 co) g5
   have g7:=heap_setCell_same _ _ 8 _ _ (.int .i64 (sq+1)) g6
   obtain⟨Wf,hWf⟩:∃W,W=((((((W17.setCell ⟨B,7,none⟩ (.int .i64 (td+d))).setCell ⟨B,11,none⟩ (.slice av mv cv)).setCell ⟨B,12,none⟩ (.int .i64 Z.1.p.cr)).setCell ⟨B,13,none⟩ (.int .i64 Z.1.p.du)).setCell ⟨B,14,none⟩ (.slice ar n cr2)).setCell ⟨B,15,none⟩ (.slice ao n2 co)).setCell ⟨B,8,none⟩ (.int .i64 (sq+1)):=⟨_,rfl⟩
   have kf:Keeps (fun i=>i=B) W17 Wf:=by rw [hWf];exact(((((((Keeps.refl _ _).setB _ _).setB _ _).setB _ _).setB _ _).setB _ _).setB _ _).setB _ _
   rw [←hWf] at g7
   have hgf:Wf.heap[B]?=some (.cells #[.int .i64 a.t.limit,x.vt,.int .i64 a.t.cyc,.int .i64 a.t.due,.int .i64 a.t.minFixed,.int .i64 a.t.minPart,.int .i64 a.t.start,.int .i64 (td+d),.int .i64 (sq+1),(.pointer (some ⟨x.bl,0,none⟩)),(.pointer (some ⟨x.bb,0,none⟩)),.slice av mv cv,.int .i64 Z.1.p.cr,.int .i64 Z.1.p.du,.slice ar n cr2,.slice ao n2 co,.slice a14 (nI+nq) c14,x.va] 89 (0,0)):=g7
   have hx11f:=Ad hx11 kf hb11B
   have hxRf:=Ad hxR kf hRB
   have kR:=Ca Wf w.heap.size #[.int .i64 0,.int .i64 0,.int .i64 tcv,.int .i64 0,.int .i64 0,.slice none 0 0,.int .i64 0,.int .i64 0,.slice none 0 0,.slice none 0 0,.int .i64 0,.int .i64 0,.int .i64 0,.int .i64 0,.int .i64 0,.slice none 0 0,.int .i64 0,.int .i64 0,.int .i64 0,.bool false]
   have hxF:=setRow_heap Wf w.heap.size #[.int .i64 0,.int .i64 0,.int .i64 0,.int .i64 0,.int .i64 0,.slice none 0 0,.int .i64 0,.int .i64 0,.slice none 0 0,.slice none 0 0,.int .i64 0,.int .i64 0,.int .i64 0,.int .i64 0,.int .i64 0,.slice none 0 0,.int .i64 0,.int .i64 0,.int .i64 0,.bool false] #[.int .i64 0,.int .i64 0,.int .i64 tcv,.int .i64 0,.int .i64 0,.slice none 0 0,.int .i64 0,.int .i64 0,.slice none 0 0,.slice none 0 0,.int .i64 0,.int .i64 0,.int .i64 0,.int .i64 0,.int .i64 0,.slice none 0 0,.int .i64 0,.int .i64 0,.int .i64 0,.bool false] 44 _ hxRf
   have hvi14:∀b,(Value.slice a14 (nI+nq) c14).ownBlock=some b→x.vi.ownBlock=some b∨w10.heap.size≤b:=fun b hb=>by
    rcases Hf14.out with h1|⟨g',h1,h2⟩
    ·rw [h1] at hb;exact .inl (by rw [hvi'];exact hb)
    ·rw [h1] at hb;simp only [Option.some.injEq] at hb;exact .inr (by omega)
   have hw10l:W2.heap.size≤w10.heap.size:=(Hk7.out.nt Hkz10.out).size
   have hKf:Keeps (TkS B x w W2) w10 (Wf.setRow w.heap.size #[.int .i64 0,.int .i64 0,.int .i64 tcv,.int .i64 0,.int .i64 0,.slice none 0 0,.int .i64 0,.int .i64 0,.slice none 0 0,.slice none 0 0,.int .i64 0,.int .i64 0,.int .i64 0,.int .i64 0,.int .i64 0,.slice none 0 0,.int .i64 0,.int .i64 0,.int .i64 0,.bool false]):=(((Hk14.out.mono fun i _ e=> .inl (.inr (by rw [hvi'];exact e))).trans (k17.mono fun i _ e=> .inl (.inl (.inl e)))).trans (kf.mono fun i _ e=> .inl (.inl (.inl e)))).trans (kR.mono fun i _ e=> .inl (.inr ⟨by have e':i=w.heap.size:=e;omega,by have e':i=w.heap.size:=e;have:=lt_of_block Hb2.out;omega⟩))
   have hri:(Wf.setRow w.heap.size #[.int .i64 0,.int .i64 0,.int .i64 tcv,.int .i64 0,.int .i64 0,.slice none 0 0,.int .i64 0,.int .i64 0,.slice none 0 0,.slice none 0 0,.int .i64 0,.int .i64 0,.int .i64 0,.int .i64 0,.int .i64 0,.slice none 0 0,.int .i64 0,.int .i64 0,.int .i64 0,.bool false]).ownsRow 0 42 9 (.slice a14 (nI+nq) c14) (x.I++Q).length ((x.I++Q).flatMap SV.cells):=by
    rw [List.length_append,HnI.out,Hnq.out,List.flatMap_append]
    refine kR.row (kf.row (k17.row Hown14.out fun b hb e=> ?_) fun b hb e=> ?_) fun b hb e=> ?_
    ·exact jY9
    ·exact jY9
    ·have e':b=w.heap.size:=e
     have:=lt_of_block Hb2.out
     rcases hvi14 b hb with h1|h1
     ·have:=hvilt b h1;omega
     ·omega
   have hpost:=AcAt.ticked (d:=d) H.out (Hkw7.out.nt Hkz10.out) Hkw2.out (Hk7.out.nt Hkz10.out) hKf (by rw [Ht.out];exact HN.out) (by rw [Ht.out,HL1.out,Htd.out];exact HZ.out) Hz7.out (G.out.keep0 Hkz10.out) (by rw [Hn1'.out,Hn2'.out];exact hmo) (by rw [Hq.out,List.map_drop,G.out.lp,Hn1'.out]) Hqln.out Hqlf.out (by rw [Htd.out,hsq,Hn2.out];exact Ad hgf kR (fun e=>hRB e.symm)) hri (Nat.le_refl _) hvi14
   clear g1 g2 g3 g4 g5 g6 g7 hKf hri hvi14 hvilt
   obtain⟨Hsq,K17,Hb17,Hx7,Hx11,HxR,Kf,Hgf,Hx11f⟩:=hid9 hsq k17 hb17 hx7 hx11 hxR kf hgf hx11f;clear hx11f hgf kf hxR hx11 hx7 hb17 k17 hsq;obtain⟨HxRf,KR,HxF,Hpost,HRB,Hb11B⟩:=hid6 hxRf kR hxF hpost hRB hb11B;clear hb11B hRB hpost hxF kR hxRf
   have hc1:=Hte.out
   have hc2:=Htk.out
   have hc3:=Htcv.out
   obtain⟨Hc1,Hc2,Hc3⟩:=hid3 hc1 hc2 hc3;clear hc3 hc2 hc1
   go_upto_region 16 with fail
   rw [←hWf]
   clear hWf p0 p1 p2 pl d7 d8 d11 d12 d13 d14 d15 f7 f8 f11 f12 f13 f14 f15 fl q1 q2
   go_wp2_with (first|(refine wpList_store_row (o:=⟨none,_,_,_,_,_⟩) rfl 44 (.tmp 4) (.tmp 122) rfl w.heap.size #[.int .i64 0,.int .i64 0,.int .i64 tcv,.int .i64 0,.int .i64 0,.slice none 0 0,.int .i64 0,.int .i64 0,.slice none 0 0,.slice none 0 0,.int .i64 0,.int .i64 0,.int .i64 0,.int .i64 0,.int .i64 0,.slice none 0 0,.int .i64 0,.int .i64 0,.int .i64 0,.bool false] rfl rfl 44 #[.int .i64 0,.int .i64 0,.int .i64 0,.int .i64 0,.int .i64 0,.slice none 0 0,.int .i64 0,.int .i64 0,.slice none 0 0,.slice none 0 0,.int .i64 0,.int .i64 0,.int .i64 0,.int .i64 0,.int .i64 0,.slice none 0 0,.int .i64 0,.int .i64 0,.int .i64 0,.bool false] HxRf.out Ar rfl (Br 0 0 tcv) ?_)|(refine wpList_load_row (o:=⟨some 122,_,_,_,_,_⟩) rfl 44 (.tmp 11) rfl b11 rfl 44 #[.int .i64 0,.int .i64 0,.int .i64 tcv,.int .i64 0,.int .i64 0,.slice none 0 0,.int .i64 0,.int .i64 0,.slice none 0 0,.slice none 0 0,.int .i64 0,.int .i64 0,.int .i64 0,.int .i64 0,.int .i64 0,.slice none 0 0,.int .i64 0,.int .i64 0,.int .i64 0,.bool false] _ _ Hx11f.out Tryz.underlying44 rfl Ar ?_))
   exact bodyPost_ret (results_cell_row rfl _ _ w.heap.size 44 #[.int .i64 0,.int .i64 0,.int .i64 tcv,.int .i64 0,.int .i64 0,.slice none 0 0,.int .i64 0,.int .i64 0,.slice none 0 0,.slice none 0 0,.int .i64 0,.int .i64 0,.int .i64 0,.int .i64 0,.int .i64 0,.slice none 0 0,.int .i64 0,.int .i64 0,.int .i64 0,.bool false] _ _ rfl HxF.out Tryz.underlying44 rfl Ar) rfl ⟨by rw [Hc1.out,Hc3.out],by rw [Hc2.out];exact Hpost.out⟩
 ·have hne:(z1 !=0)=true:=by simp [h0]
  have hc:=te_day (a:=a) Hd.out (by rw [Hst.out,Hcd.out,Htd.out,Hz1.out];exact h0)
  clear q1
  obtain⟨Hc,H0⟩:=hid2 hc h0;clear h0 hc
  go_wp2_with fail
  refine(Cb 10 _).mono ?_
  rintro e w3 ⟨rfl,hk3⟩
  have hb3:=Ad Hb2.out hk3 (by simp)
  have hk03:=Hk02.out.nt hk3
  clear hk3
  obtain⟨Hb3,Hk03⟩:=hid2 hb3 hk03;clear hk03 hb3
  obtain⟨hput1,hput2⟩:=putRow (V:= #[.int .i64 10,.int .i64 0,.int .i64 0,.int .i64 0,.int .i64 0,.slice none 0 0,.int .i64 0,.int .i64 0,.slice none 0 0,.slice none 0 0,.int .i64 0,.int .i64 0,.int .i64 0,.int .i64 0,.int .i64 0,.slice none 0 0,.int .i64 0,.int .i64 0,.int .i64 0,.bool false]) Hb3.out Hk03.out (Nat.le_refl _)
  obtain⟨Hput1,Hput2⟩:=hid2 hput1 hput2;clear hput2 hput1
  go_wp2_with (refine wpList_store_row rfl 44 (.tmp 4) (.tmp 41) rfl w.heap.size #[.int .i64 10,.int .i64 0,.int .i64 0,.int .i64 0,.int .i64 0,.slice none 0 0,.int .i64 0,.int .i64 0,.slice none 0 0,.slice none 0 0,.int .i64 0,.int .i64 0,.int .i64 0,.int .i64 0,.int .i64 0,.slice none 0 0,.int .i64 0,.int .i64 0,.int .i64 0,.bool false] rfl rfl 44 #[.int .i64 0,.int .i64 0,.int .i64 0,.int .i64 0,.int .i64 0,.slice none 0 0,.int .i64 0,.int .i64 0,.slice none 0 0,.slice none 0 0,.int .i64 0,.int .i64 0,.int .i64 0,.int .i64 0,.int .i64 0,.slice none 0 0,.int .i64 0,.int .i64 0,.int .i64 0,.bool false] Hb3.out Ar rfl (Br 10 0 0) ?_)
  exact bodyPost_ret (results_cell_row rfl _ _ w.heap.size 44 #[.int .i64 10,.int .i64 0,.int .i64 0,.int .i64 0,.int .i64 0,.slice none 0 0,.int .i64 0,.int .i64 0,.slice none 0 0,.slice none 0 0,.int .i64 0,.int .i64 0,.int .i64 0,.int .i64 0,.int .i64 0,.slice none 0 0,.int .i64 0,.int .i64 0,.int .i64 0,.bool false] _ _ rfl Hput1.out Tryz.underlying44 rfl Ar) rfl ⟨by rw [Hc.out.1,Hc.out.2.1],by rw [Hc.out.2.2];exact AcPost.same H.out Hput2.out⟩
set_option maxHeartbeats 1600000
theorem accDo_tick(B:Nat)(x:AcV)(a:Ac)(c:Cmd)(w:World)(h:AcAt w B x a)(hs:a.seq≤100000)(hk:c.kind=8):
  Calls Tryz.prog 15 #[(.pointer (some ⟨B,0,none⟩)),.agg #[.int .i64 c.kind,.int .i64 c.day,.int .i64 c.tranche,.int .i64 c.amount,.int .i64 c.ref]] w fun e w'=>e= .returned (.agg #[.int .i64 (a.te c.day),.int .i64 0,.int .i64 (a.tc c.day),.int .i64 0,.int .i64 0,.slice none 0 0,.int .i64 0,.int .i64 0,.slice none 0 0,.slice none 0 0,.int .i64 0,.int .i64 0,.int .i64 0,.int .i64 0,.int .i64 0,.slice none 0 0,.int .i64 0,.int .i64 0,.int .i64 0,.bool false])∧AcPost w B x (a.tick c.day) w':=by
 obtain⟨ki,da,tr,am,re⟩:=c
 simp only at hk⊢
 subst hk
 have hti:=fun(W:World) (hW:Keeps (fun _=>False) w W)=>accTick_any B x a da W (h.keep0 hW) hs (fun ht=>Ac.mono h.ok ht)
 unfold TickPost at hti
 obtain⟨te,hte⟩:∃z,a.te da=z:=⟨_,rfl⟩
 obtain⟨tc,htc⟩:∃z,a.tc da=z:=⟨_,rfl⟩
 rw [hte,htc] at hti⊢
 obtain⟨W0,hW0⟩:∃x,x=(w.alloc (.cells #[.int .i64 8,.int .i64 da,.int .i64 tr,.int .i64 am,.int .i64 re] 47)).alloc (.cells #[.int .i64 0,.int .i64 0,.int .i64 0,.int .i64 0,.int .i64 0,.slice none 0 0,.int .i64 0,.int .i64 0,.slice none 0 0,.slice none 0 0,.int .i64 0,.int .i64 0,.int .i64 0,.int .i64 0,.int .i64 0,.slice none 0 0,.int .i64 0,.int .i64 0,.int .i64 0,.bool false] 44):=⟨_,rfl⟩
 have hc0:W0.heap[w.heap.size]?=some (.cells #[.int .i64 8,.int .i64 da,.int .i64 tr,.int .i64 am,.int .i64 re] 47 (0,0)):=by rw [hW0];exact Au (heap_alloc_new w _) _
 have hr0:W0.heap[w.heap.size+1]?=some (.cells #[.int .i64 0,.int .i64 0,.int .i64 0,.int .i64 0,.int .i64 0,.slice none 0 0,.int .i64 0,.int .i64 0,.slice none 0 0,.slice none 0 0,.int .i64 0,.int .i64 0,.int .i64 0,.int .i64 0,.int .i64 0,.slice none 0 0,.int .i64 0,.int .i64 0,.int .i64 0,.bool false] 44 (0,0)):=by rw [hW0];exact Ay _ _ (by simp)
 have hk0:Keeps (fun _=>False) w W0:=by rw [hW0];(repeat (first|exact Keeps.refl _ _|exact Keeps.alloc _ _|exact Keeps.drew _|exact Keeps.drewN _ _|refine Keeps.Ap ?_|refine Keeps.Al ?_|refine Keeps.Ae ?_))
 obtain⟨H,Hti,Hte,Htc,Hc0,Hr0,Hk0⟩:=hid7 h hti hte htc hc0 hr0 hk0;clear hk0 hr0 hc0 htc hte hti h
 go_enter Tryz.func15,Tryz.ntmps15
 go_wp2_with fail
 rw [←hW0]
 clear hW0
 refine(Hti.out W0 Hk0.out).mono ?_
 rintro e w2 ⟨rfl,hp⟩
 obtain⟨hR,hq⟩:=AcPost.ret (V:= #[.int .i64 te,.int .i64 0,.int .i64 tc,.int .i64 0,.int .i64 0,.slice none 0 0,.int .i64 0,.int .i64 0,.slice none 0 0,.slice none 0 0,.int .i64 0,.int .i64 0,.int .i64 0,.int .i64 0,.int .i64 0,.slice none 0 0,.int .i64 0,.int .i64 0,.int .i64 0,.bool false]) H.out Hk0.out hp Hr0.out (Nat.le_succ _)
 have hput:=setRow_heap w2 (w.heap.size+1) #[.int .i64 0,.int .i64 0,.int .i64 0,.int .i64 0,.int .i64 0,.slice none 0 0,.int .i64 0,.int .i64 0,.slice none 0 0,.slice none 0 0,.int .i64 0,.int .i64 0,.int .i64 0,.int .i64 0,.int .i64 0,.slice none 0 0,.int .i64 0,.int .i64 0,.int .i64 0,.bool false] #[.int .i64 te,.int .i64 0,.int .i64 tc,.int .i64 0,.int .i64 0,.slice none 0 0,.int .i64 0,.int .i64 0,.slice none 0 0,.slice none 0 0,.int .i64 0,.int .i64 0,.int .i64 0,.int .i64 0,.int .i64 0,.slice none 0 0,.int .i64 0,.int .i64 0,.int .i64 0,.bool false] 44 _ hR
 clear hp
 obtain⟨HR,Hq,Hput⟩:=hid3 hR hq hput;clear hput hq hR
 go_wp2_with (refine wpList_store_row rfl 44 (.tmp 4) (.tmp 15) rfl (w.heap.size+1) #[.int .i64 te,.int .i64 0,.int .i64 tc,.int .i64 0,.int .i64 0,.slice none 0 0,.int .i64 0,.int .i64 0,.slice none 0 0,.slice none 0 0,.int .i64 0,.int .i64 0,.int .i64 0,.int .i64 0,.int .i64 0,.slice none 0 0,.int .i64 0,.int .i64 0,.int .i64 0,.bool false] rfl rfl 44 #[.int .i64 0,.int .i64 0,.int .i64 0,.int .i64 0,.int .i64 0,.slice none 0 0,.int .i64 0,.int .i64 0,.slice none 0 0,.slice none 0 0,.int .i64 0,.int .i64 0,.int .i64 0,.int .i64 0,.int .i64 0,.slice none 0 0,.int .i64 0,.int .i64 0,.int .i64 0,.bool false] HR.out Ar rfl (Br _ _ _) ?_)
 exact bodyPost_ret (results_cell_row rfl _ _ (w.heap.size+1) 44 #[.int .i64 te,.int .i64 0,.int .i64 tc,.int .i64 0,.int .i64 0,.slice none 0 0,.int .i64 0,.int .i64 0,.slice none 0 0,.slice none 0 0,.int .i64 0,.int .i64 0,.int .i64 0,.int .i64 0,.int .i64 0,.slice none 0 0,.int .i64 0,.int .i64 0,.int .i64 0,.bool false] _ _ rfl Hput.out Tryz.underlying44 rfl Ar) rfl ⟨rfl,Hq.out⟩
theorem live_tick{w0 W:World}{O:Nat→Prop}{B:Nat}{a:Ac}(h:Live w0 O W B a)(c:Cmd)(hs:a.seq≤100000)(hk:c.kind=8):
  Calls Tryz.prog 15 #[(.pointer (some ⟨B,0,none⟩)),.agg #[.int .i64 c.kind,.int .i64 c.day,.int .i64 c.tranche,.int .i64 c.amount,.int .i64 c.ref]] W (ChgPost w0 O W B (a.te c.day) 0 (a.tc c.day) (a.tick c.day)):=by
 obtain⟨x,hx⟩:=h.is
 refine(accDo_tick B x a c W hx.1 hs hk).mono ?_
 rintro e w' ⟨he,hp⟩
 exact⟨he,(h.post hx hp).1,(h.post hx hp).2⟩
def DoLive(w0:World)(O:Nat→Prop)(W:World)(B:Nat)(a:Ac)(c:Cmd)(e:Ending)(W':World):Prop:=∃v,e= .returned v∧AnsIs W W' (a.dz c) (a.dr c) (a.dc c) (a.ds c) (a.dp c) v∧Live w0 O W' B (a.act c)∧Keeps (fun i=>w0.heap.size≤i∧¬O i) W W'
theorem live_do{w0 W:World}{O:Nat→Prop}{B:Nat}{a:Ac}(h:Live w0 O W B a)(c:Cmd)(hs:a.seq≤100000):
  Calls Tryz.prog 15 #[(.pointer (some ⟨B,0,none⟩)),.agg #[.int .i64 c.kind,.int .i64 c.day,.int .i64 c.tranche,.int .i64 c.amount,.int .i64 c.ref]] W (DoLive w0 O W B a c):=by
 obtain⟨x,hx⟩:=h.is
 by_cases h8:c.kind=8
 ·refine(accDo_tick B x a c W hx.1 hs h8).mono ?_
  rintro e w' ⟨he,hp⟩
  refine⟨_,he, ?_,by unfold Ac.act;rw [if_pos h8];exact(h.post hx hp).1,(h.post hx hp).2⟩
  have:=AnsIs.mk0 W w' (a.te c.day) 0 (a.tc c.day)
  unfold Ac.dz Ac.dr Ac.dc Ac.ds Ac.dp
  rw [if_pos h8,if_neg (by omega),if_pos h8,if_neg (by omega),if_neg (by omega),if_neg (by omega)]
  exact this
 by_cases h17:1≤c.kind∧c.kind≤7
 ·refine(accDo_chg B x a c W hx.1 hs h17).mono ?_
  rintro e w' ⟨he,hp⟩
  refine⟨_,he, ?_,by unfold Ac.act;rw [if_neg h8,if_pos h17];exact(h.post hx hp).1,(h.post hx hp).2⟩
  have:=AnsIs.mk0 W w' (a.xe c) (a.xr c) 0
  unfold Ac.dz Ac.dr Ac.dc Ac.ds Ac.dp
  rw [if_neg h8,if_neg (by omega),if_neg (by omega),if_neg (by omega),if_pos h17,if_pos h17,if_neg h8,if_neg (by omega),if_neg (by omega),if_neg (by omega)]
  exact this
 have hact:a.act c=a:=by unfold Ac.act;rw [if_neg h8,if_neg h17]
 have hdr:a.dr c=0:=by unfold Ac.dr;rw [if_neg h17]
 have hdc:a.dc c=0:=by unfold Ac.dc;rw [if_neg h8]
 unfold DoLive
 rw [hact,hdr,hdc]
 unfold Ac.dz Ac.ds Ac.dp
 rw [if_neg h8]
 by_cases h9:c.kind=9
 ·refine(accDo_tell B x a c W hx.1 h9).mono ?_
  rintro e w' ⟨v,he,ha,hp⟩
  rw [if_pos h9,if_pos h9,if_neg (by omega),if_neg (by omega)]
  exact jY8
 rw [if_neg h9,if_neg h9]
 by_cases h10:c.kind=10
 ·refine(accDo_page B x a c W hx.1 h10).mono ?_
  rintro e w' ⟨v,he,ha,hp⟩
  rw [if_pos h10,if_pos h10]
  exact jY8
 rw [if_neg h10,if_neg h10]
 by_cases h11:c.kind=11
 ·refine(accDo_restate B x a c W hx.1 h11).mono ?_
  rintro e w' ⟨v,he,ha,hp⟩
  rw [if_pos h11,if_pos h11]
  exact jY8
 rw [if_neg h11,if_neg h11,if_neg h17]
 refine(accDo_none B x a c W hx.1 (by omega)).mono ?_
 rintro e w' ⟨he,hp⟩
 exact⟨_,he,AnsIs.mk0 _ _ _ _ _,(h.post hx hp).1,(h.post hx hp).2⟩
theorem one_ansL(z r y s0 s1 s3 s4 s7 p0 p1 p2 p3 p5 p6 p7:Int)(q1 q2 q3 q4:Option Addr)(n1 c1 n2 c2 n3 c3 n4 c4:Nat)(gr:Bool):(#[.int .i64 z,.int .i64 r,.int .i64 y,.int .i64 s0,.int .i64 s1,.slice q1 n1 c1,.int .i64 s3,.int .i64 s4,.slice q2 n2 c2,.slice q3 n3 c3,.int .i64 s7,.int .i64 p0,.int .i64 p1,.int .i64 p2,.int .i64 p3,.slice q4 n4 c4,.int .i64 p5,.int .i64 p6,.int .i64 p7,.bool gr]:Array Value).all (·.oneCell')=true:=by simp [Value.oneCell']
theorem repErr_at{t:Tm}{L:List Ev}{td:Int}(hz:t.err=0)(hL:∀x∈L,evErr t x=0∧x.day≤td)(hl:L.length≤2000)(hd:t.start≤td∧td≤2932896)(ho:ofE t.start t.cyc td=0):repErr t L td=0:=by
 exact jY5
theorem sorted_same{L:List Ev}{d:Int}(h:∀x∈L,x.day=d):Sorted L:=by
 unfold Sorted
 rw [List.pairwise_iff_forall_sublist]
 intro x y hs
 have h1:=h x (hs.subset (by simp))
 have h2:=h y (hs.subset (by simp))
 omega
theorem putL_last{L:List Ev}{e:Ev}(h:Sorted (L++ [e])):putL L e=L++ [e]:=by
 have h1:Sorted L:=by unfold Sorted at h⊢;exact(List.pairwise_append.1 h).1
 have h2:=sortL_snoc L e
 rw [sortL_id h,sortL_id h1] at h2
 exact h2.symm
theorem evR_snoc{d:Int}{e:Ev}(hd:e.day=d):∀(L:List Ev) (i:Nat) (p q:Ps) (R S:List Int),(∀x∈L,x.day=d)→evR d L i p R=(i+L.length,q,S,0)→(applyR q S e).2.2=0→evR d (L++ [e]) i p R=(i+(L.length+1),(applyR q S e).1,(applyR q S e).2.1,0)
 | [],i,p,q,R,S,_,h,ha=>by
  simp only [evR,Prod.mk.injEq] at h
  obtain⟨_,rfl,rfl,_⟩:=h
  simp only [List.nil_append,evR]
  rw [if_pos hd,if_pos ha]
  rfl
 |x::L,i,p,q,R,S,hL,h,ha=>by
  have hx:=hL x (List.mem_cons_self ..)
  rw [List.cons_append]
  unfold evR at h⊢
  rw [if_pos hx] at h⊢
  split
  ·rename_i h0
   rw [if_pos h0] at h
   have:=evR_snoc hd L (i+1) _ q _ S (fun y hy=>hL y (List.mem_cons_of_mem _ hy)) (by rw [h];simp only [List.length_cons,Prod.mk.injEq,and_true];omega) ha
   rw [this]
   simp only [List.length_cons,Prod.mk.injEq,and_true]
   omega
  ·rename_i h0
   rw [if_neg h0] at h
   simp only [Prod.mk.injEq] at h
   exact absurd h.2.2.2 h0
structure Day0(a:Ac)(t:Tm)(p:Ps)(R:List Int):Prop where
 tt:a.t=t
 td:a.today=t.start
 ev:∀x∈a.L,evErr t x=0∧x.day=t.start
 ll:a.L.length≤100
 rn:evR t.start a.L 0 (st0 t).p (st0 t).R=(0+a.L.length,p,R,0)
 s:a.s=evSt (st0 t) (a.L.length,p,R,0)
 rp:repErr t [] t.start=0
theorem Day0.new{t:Tm}(h:repErr t [] t.start=0):Day0 (acNew t) t (st0 t).p (st0 t).R:=⟨rfl,rfl,by simp [acNew],by simp [acNew],rfl,rfl,h⟩
theorem Day0.pos{a:Ac}{t:Tm}{p:Ps}{R:List Int}(h:Day0 a t p R):a.s.p=p∧a.s.R=R∧a.s.out= []:=by rw [h.s];exact⟨rfl,rfl,rfl⟩
theorem Day0.step{a:Ac}{t:Tm}{p p':Ps}{R R':List Int}{e:Ev}(h:Day0 a t p R)(hl:a.L.length≤50)(he:evErr t e=0)(hd:e.day=t.start)(ha:applyR p R e=(p',R',0)):
  a.ce e=0∧(∀D,Day0 { a.count e with D:=D } t p' R')∧(a.count e).seq=a.seq+1∧(a.count e).L.length=a.L.length+1:=by
 have hz:=(Ct h.rp).tm
 have hr:=Ct h.rp
 have hev:∀x∈a.L++ [e],evErr t x=0∧x.day=t.start:=fun x hx=>by
  rcases List.mem_append.1 hx with hx|hx
  ·exact h.ev x hx
  ·obtain rfl:x=e:=by simpa using hx
   exact⟨he,hd⟩
 have hso:Sorted (a.L++ [e]):=sorted_same fun x hx=>(hev x hx).2
 have hpu:=putL_last hso
 have hrp:repErr t (a.L++ [e]) t.start=0:=repErr_at hz (fun x hx=>⟨(hev x hx).1,by rw [(hev x hx).2];exact Int.le_refl _⟩) (by simp;omega) ⟨Int.le_refl _,hr.d1⟩ (repErr_of h.rp)
 have hrn:=evR_snoc hd a.L 0 _ p _ R (fun x hx=>(h.ev x hx).2) h.rn (by rw [ha])
 rw [ha] at hrn
 have hcz:a.cz e=(evSt (st0 t) (a.L.length+1,p',R',0),0):=by
  unfold Ac.cz walkR
  rw [hpu,h.tt,h.td,if_pos hrp,sortL_id hso,show(t.start-t.start).toNat=0 by omega]
  unfold walkD
  show(evSt (st0 t) (evR t.start (a.L++ [e]) 0 (st0 t).p (st0 t).R),(evR t.start (a.L++ [e]) 0 (st0 t).p (st0 t).R).2.2.2)=_
  rw [hrn,Nat.zero_add]
 have hadd:addErr a.t a.L e=0:=by unfold addErr;rw [h.tt,he,if_neg (by decide),if_neg (by omega)]
 have hout:=h.pos.2.2
 have hcb:a.cb e=(0, []):=by unfold Ac.cb;rw [hcz,hout];rfl
 have hg:=ce_good hadd (by rw [hcz]) (by rw [hcb])
 refine⟨hg.1,fun D=> ?_,by rw [hg.2],by rw [hg.2];show(putL a.L e).length=_;rw [putL_length]⟩
 rw [hg.2,hpu,hcz]
 exact⟨h.tt,h.td,hev,by simp;omega,by simpa using hrn,by simp,h.rp⟩
theorem Day0.chg{a:Ac}{t:Tm}{p p':Ps}{R R':List Int}{c:Cmd}(h:Day0 a t p R)(hl:a.L.length≤50)(hk:c.kind≠6)(hz:a.xz c=0)(he:evErr t (a.xev c)=0)(hd:(a.xev c).day=t.start)(ha:applyR p R (a.xev c)=(p',R',0)):
  a.xe c=0∧Day0 (a.chg c) t p' R'∧(a.chg c).seq=a.seq+1∧(a.chg c).D=a.xD c∧(a.chg c).L.length=a.L.length+1:=by
 obtain⟨h1,h2,h3,h4⟩:=h.step hl he hd ha
 have hx:a.xe c=0:=by rw [Ac.xe_cnt hz hk];exact h1
 have hc:=(Ac.chg_yes hx).1
 have hn:a.nx c=a.count (a.xev c):=by unfold Ac.nx;rw [if_neg hk]
 rw [hn] at hc
 rw [hc]
 exact⟨hx,h2 _,h3,rfl,h4⟩
theorem evErr22{ki day tr m re:Int}(hk:1≤ki∧ki≤6)(ht:(ki=2∧tr=0)∨(¬ki=2∧1≤tr∧tr≤2))(hm:(ki=6∧0≤m∧m≤10000000)∨(¬ki=6∧1≤m∧m≤1000000000000000))(hd:10957≤day∧day≤2932896)(hr:((ki=4∨ki=5)∧1≤re∧re≤2000)∨(¬(ki=4∨ki=5)∧re=0)):evErr t22 ⟨ki,day,tr,m,re⟩=0:=by
 have hst:t22.start=10957:=rfl
 have hln:(t22.trs.length:Int)=2:=rfl
 unfold evErr
 rw [if_neg (by rw [show t22.err=0 by decide+kernel];simp),if_neg (by show¬(ki<1∨6<ki);omega),if_neg (by show¬((ki=2∧¬tr=0)∨(¬ki=2∧(tr<1∨(t22.trs.length:Int)<tr)));rw [hln];omega),
  if_neg (by show¬((ki=6∧(m<0∨10000000<m))∨(¬ki=6∧(m<1∨1000000000000000<m)));omega),if_neg (by show¬(day<t22.start∨2932896<day);rw [hst];omega),
  if_neg (by show¬(((ki=4∨ki=5)∧(re<1∨2000<re))∨(¬(ki=4∨ki=5)∧¬re=0));omega)]
def p22(a b c:Int):Ps:=⟨[a,b],c,0⟩
theorem day22:Day0 (acNew t22) t22 (p22 0 0 0) [500000,900000]:=Day0.new rep22
theorem Day0.owes{a:Ac}{x y c:Int}{R:List Int}(h:Day0 a t22 (p22 x y c) R):a.owes=x+y-c:=by unfold Ac.owes;rw [h.pos.1];simp only [p22,sumI];omega
theorem ee_num{a:Ac}{k d tr am re:Int}{x y c:Int}{R:List Int}(h:Day0 a t22 (p22 x y c) R)(ht:k=2∨(1≤tr∧tr≤2))(hm:(k=7∧0≤am∧am≤10000000)∨(¬k=7∧1≤am∧am≤1000000000000000)):
  a.ee ⟨k,d,tr,am,re⟩=if k=1 then(if 1000<x+y-c+am then 9 else 0) else if k=3 then(if d<10957∨10957<d then 10 else if a.oldB d=true then 11 else 0) else if k=4 then(if [x,y].getD (tr-1).toNat 0<am then 9 else Ch a.D tr am) else 0:=by
 have hlen:(a.t.trs.length:Int)=2:=by rw [h.tt];rfl
 rw [Ac.ee_in (c:=⟨k,d,tr,am,re⟩) (ht.imp id fun e=>by rw [hlen];exact e) hm,h.owes,h.tt,h.td,h.pos.1]
 rfl
theorem Day0.draw{a:Ac}{x y c tr am x' y' c':Int}(h:Day0 a t22 (p22 x y c) [500000,900000])(hl:a.L.length≤50)(ht:(tr=1∧x'=x+(am-minI am c)∧y'=y)∨(tr=2∧x'=x∧y'=y+(am-minI am c)))(hc:c'=c-minI am c)(hm:1≤am∧am≤1000000000000000)(hb:x+y-c+am≤1000)
  (hp:Ps.rightB (p22 x y c)=true) (hq:Ps.rightB (p22 x' y' c')=true):
  a.xe ⟨1,0,tr,am,0⟩=0∧a.xr ⟨1,0,tr,am,0⟩=0∧Day0 (a.chg ⟨1,0,tr,am,0⟩) t22 (p22 x' y' c') [500000,900000]∧(a.chg ⟨1,0,tr,am,0⟩).seq=a.seq+1∧(a.chg ⟨1,0,tr,am,0⟩).D=a.D∧(a.chg ⟨1,0,tr,am,0⟩).L.length=a.L.length+1:=by
 have hee:a.ee ⟨1,0,tr,am,0⟩=0:=by rw [ee_num h (by omega) (.inr ⟨by decide,hm⟩),if_pos rfl,if_neg (by omega)]
 have hxz:a.xz ⟨1,0,tr,am,0⟩=0:=by unfold Ac.xz;rw [if_neg (by show¬((1:Int)=5∨(1:Int)=6);decide)];exact hee
 have hxv:a.xev ⟨1,0,tr,am,0⟩=⟨1,10957,tr,am,0⟩:=by
  unfold Ac.xev
  rw [if_neg (by show¬((1:Int)=5∨(1:Int)=6);decide),Ac.ee_yes hee,h.td]
  rfl
 have hxD:a.xD ⟨1,0,tr,am,0⟩=a.D:=by unfold Ac.xD;rw [if_neg (by show¬((1:Int)=5∨(1:Int)=6);decide)];exact Ac.eD_no (by show(1:Int)≠4;decide)
 obtain⟨h1,h2,h3,h4,h5⟩:=h.chg (c:=⟨1,0,tr,am,0⟩) hl (by show(1:Int)≠6;decide) hxz (by rw [hxv];exact evErr22 (by omega) (by omega) (.inr ⟨by decide,hm⟩) (by decide) (.inr ⟨by decide,rfl⟩)) (by rw [hxv];rfl) (by rw [hxv];exact charge2 hp (by decide) (by decide) (.inl rfl) ⟨by omega,hm.2⟩ ht hc hq)
 exact⟨h1,by rw [(Ac.chg_yes h1).2,if_neg (by show¬(1:Int)=4;decide)],h2,h3,by rw [h4,hxD],h5⟩
theorem right22{a b c:Int}(ha:0≤a∧a≤1000000)(hb:0≤b∧b≤1000000)(hc:0≤c∧c≤1000000)(h0:c=0∨a+b=0):Ps.rightB (p22 a b c)=true:=right2 ha.1 hb.1 (by omega) (by omega) (by omega) h0
theorem find_far{cd:Int}(hc:1≤cd∧cd≤28){day:Int}(hd:day≤100000):∀(f:Nat) (fr:Int), -135140≤fr→fr≤day→dD fr=cd→day<fr+28*f→(findW cd day f fr).2=true:=by
 intro f
 induction f with
 |zero=>intro fr h0 h1 h2 h3;omega
 |succ f ih=>
  intro fr h0 h1 h2 h3
  have hge:=lastF_ge (fr:=fr) (cd:=cd) h0 (by omega) hc.1 hc.2
  have hF:fr+27≤lastF fr cd:=by
   have hi:=date_is h0 (by omega:fr≤2932896)
   unfold lastF
   rw [h2,if_pos (by omega)]
   have:28≤mlen (dY fr) (dM fr):=by
    have m0:=hi.m0
    have m1:=hi.m1
    unfold mlen
    split
    ·split<;>omega
    ·split
     ·omega
     ·rw [if_pos ⟨m0,m1⟩];omega
   omega
  have he:lastE fr cd=0:=by
   exact jY11
  by_cases hl:lastF fr cd<day
  ·have hy:=lastF_yes (fr:=fr) (cd:=cd) h0 (by omega) hc.1 hc.2 (by omega)
   have:=ih (lastF fr cd+1) (by omega) (by omega) hy (by omega)
   rw [findW_go he ⟨hl,by omega⟩]
   exact this
  ·rw [findW_stop he (by omega)]
   simp
   omega
theorem ofE_far{st cd day:Int}(hc:1≤cd∧cd≤28)(h0: -135140≤st)(h1:st≤day)(h2:day≤100000)(h3:day<st+8000):ofE st cd day=0∧(findW cd day 300 st).2=true:=by
 have hge:=lastF_ge (fr:=st) (cd:=cd) h0 (by omega) hc.1 hc.2
 have he:lastE st cd=0:=by
  exact jY11
 have hf:(findW cd day 300 st).2=true:=by
  by_cases hl:lastF st cd<day
  ·have hy:=lastF_yes (fr:=st) (cd:=cd) h0 (by omega) hc.1 hc.2 (by omega)
   rw [findW_go he ⟨hl,by omega⟩]
   exact find_far hc h2 299 (lastF st cd+1) (by omega) (by omega) hy (by omega)
  ·rw [findW_stop he (by omega)]
   simp
   omega
 refine⟨?_,hf⟩
 unfold ofE
 rw [if_pos he,if_pos hf]
theorem evR_stop{day:Int}{M:List Ev}{i:Nat}{p:Ps}{R:List Int}(h:∀x∈M,¬x.day=day):evR day M i p R=(i,p,R,0):=by
 cases M with
 |nil=>rfl
 |cons e M=>unfold evR;rw [if_neg (h e (List.mem_cons_self ..))]
inductive SpanN (day:Int):Int→List (Int×Int)→List (Int×Int)→Prop
 |same {fr te:Int}:SpanOk fr te→fr≤day→day+1≤te→SpanN day fr [(fr,te)] [(fr,te)]
 |next {fr te te2:Int}:SpanOk fr te→fr≤day→day=te→SpanOk (te+1) te2→SpanN day fr [(fr,te)] [(fr,te),(te+1,te2)]
 |more {fr te:Int} {S S2:List (Int×Int)}:SpanOk fr te→te<day→SpanN day (te+1) S S2→SpanN day fr ((fr,te)::S) ((fr,te)::S2)
theorem SpanN.head{day fr:Int}{S S2:List (Int×Int)}(h:SpanN day fr S S2):∃te S' S2',S=(fr,te)::S'∧S2=(fr,te)::S2'∧SpanOk fr te∧fr≤day∧(te<day→SpanN day (te+1) S' S2'):=by
 cases h with
 |same h1 h2 h3=>exact⟨_,_,_,rfl,rfl,h1,h2,fun h=>by omega⟩
 |next h1 h2 h3 h4=>exact⟨_,_,_,rfl,rfl,h1,h2,fun h=>by omega⟩
 |more h1 h2 h3=>exact⟨_,_,_,rfl,rfl,h1,by have:=h1.le;omega,fun _=>h3⟩
theorem find_next(cd day:Int):∀(f f2:Nat) (fr:Int),(findW cd day f fr).2=true→(findW cd (day+1) f2 fr).2=true→SpanN day fr (findW cd day f fr).1 (findW cd (day+1) f2 fr).1:=by
 intro f
 induction f with
 |zero=>intro f2 fr h;cases h
 |succ f ih=>
  intro f2 fr h h2
  cases f2 with
  |zero=>cases h2
  |succ f2=>
   by_cases hl:lastE fr cd=0
   ·obtain⟨c1,c2,g1,g2,g3,g4⟩:=lastE_ok hl
    have hge:=lastF_ge (fr:=fr) (cd:=cd) g1 g2 c1 c2
    have hok:SpanOk fr (lastF fr cd):=⟨g1,hge.1,g3,hge.2⟩
    by_cases hd:lastF fr cd<day∧f≠0
    ·rw [findW_go hl hd] at h⊢
     by_cases hd2:lastF fr cd<day+1∧f2≠0
     ·rw [findW_go hl hd2] at h2⊢
      exact .more hok hd.1 (ih f2 _ h h2)
     ·rw [findW_stop hl hd2] at h2
      simp at h2
      omega
    ·rw [findW_stop hl hd] at h⊢
     simp only [Bool.and_eq_true,decide_eq_true_eq] at h
     by_cases hd2:lastF fr cd<day+1∧f2≠0
     ·rw [findW_go hl hd2] at h2⊢
      simp only at h2
      have he:lastF fr cd=day:=by omega
      cases f2 with
      |zero=>exact absurd rfl hd2.2
      |succ f2=>
       by_cases hl2:lastE (lastF fr cd+1) cd=0
       ·obtain⟨_,_,e1,e2,e3,e4⟩:=lastE_ok hl2
        have hge2:=lastF_ge (fr:=lastF fr cd+1) (cd:=cd) e1 e2 c1 c2
        have hns:¬(lastF (lastF fr cd+1) cd<day+1∧f2≠0):=by omega
        rw [findW_stop hl2 hns] at h2⊢
        exact .next hok h.1 he.symm ⟨e1,hge2.1,e3,hge2.2⟩
       ·rw [findW_bad hl2] at h2;cases h2
     ·rw [findW_stop hl hd2] at h2⊢
      simp only [Bool.and_eq_true,decide_eq_true_eq] at h2
      exact .same hok h.1 h2.2
   ·rw [findW_bad hl] at h;cases h
theorem goes_on{t:Tm}{T:List Ev}(hz:t.err=0):∀(d:Nat) (S S2:List (Int×Int)) (s:St) (len:Nat) (Z1 Z2:St×Int) (fr:Int),SpanN (s.day+d) fr S S2→(∀x∈T,x.day≤s.day+d)→(∀te S',S=(fr,te)::S'→s.day≤te)→StOk t.trs.length s len→
  walkD t T t.trs.length d S s=Z1→Z1.2=0→walkD t T t.trs.length (d+1) S2 s=Z2→Z2.2=0→
  Z1.1.out.length+1=s.out.length+S.length∧Z2.1.out.length+1=s.out.length+S2.length∧((Z2.1.out=Z1.1.out∧Z2.1.p=Z1.1.p)∨∃X,Z2.1.out=Z1.1.out++ [X]):=by
 intro d
 induction d with
 |zero=>
  intro S S2 s len Z1 Z2 fr hS hT hte hst h1 z1 h2 z2
  obtain⟨te,S',S2',rfl,rfl,hok,hfr,hmo⟩:=hS.head
  have hdt:=hte te S' rfl
  subst h1
  unfold walkD at z1⊢
  have hev:=(hst.ev z1)
  unfold walkD at h2
  rw [if_pos z1] at h2
  simp only at h2
  have hno:∀(i:Nat),∀x∈T.drop i,¬x.day=s.day+1:=fun i x hx e=>by have:=hT x (List.mem_of_mem_drop hx);omega
  by_cases hcl:te=s.day
  ·rw [if_pos hcl] at h2
   cases hS with
   |same _ _ h5=>omega
   |more _ h5 _=>omega
   |next _ _ _ h6=>
    split at h2
    ·subst h2;cases z2
    ·rename_i s2 hc
     obtain⟨x,e1,_⟩:=closeS_lines hz rfl hev.fin hc
     subst h2
     unfold walkD
     have e1':s2.out=s.out++ [x]:=e1
     refine⟨rfl, ?_,.inr ⟨x, ?_⟩⟩
     ·show s2.out.length+1=_
      rw [e1',List.length_append];rfl
     ·show s2.out=_
      rw [e1'];rfl
  ·rw [if_neg hcl] at h2
   cases hS with
   |next _ _ h5 _=>omega
   |more _ h5 _=>omega
   |same _ _ _=>
    subst h2
    unfold walkD
    refine⟨rfl,rfl,.inl ⟨rfl, ?_⟩⟩
    have:=evR_stop (i:=(evR s.day (T.drop s.i) s.i s.p s.R).1) (p:=(evR s.day (T.drop s.i) s.i s.p s.R).2.1) (R:=(evR s.day (T.drop s.i) s.i s.p s.R).2.2.1) (hno (evR s.day (T.drop s.i) s.i s.p s.R).1)
    simp only [endSt,evSt]
    rw [this]
 |succ d ih=>
  intro S S2 s len Z1 Z2 fr hS hT hte hst h1 z1 h2 z2
  obtain⟨te,S',S2',rfl,rfl,hok,hfr,hmo⟩:=hS.head
  have hdt:=hte te S' rfl
  unfold walkD at h1 h2
  by_cases h0:(evR s.day (T.drop s.i) s.i s.p s.R).2.2.2=0
  ·rw [if_pos h0] at h1 h2
   simp only at h1 h2
   have hf:=(hst.ev h0).fin
   by_cases hcl:te=s.day
   ·rw [if_pos hcl] at h1 h2
    split at h1
    ·subst h1;cases z1
    ·rename_i s2 hc
     rw [hc] at h2
     simp only at h2
     obtain⟨x,e1,_⟩:=closeS_lines hz rfl hf hc
     obtain⟨k1,k2,k3,k4⟩:=closeS_ok hz rfl hf hc
     have hn:=hmo (by omega)
     obtain⟨te',S3,S4,rfl,rfl,hok',hfr',_⟩:=hn.head
     have hst2:StOk t.trs.length { s2 with day:=s.day+1 } 0:=⟨k1.pr,k1.nb,k1.nr,k1.rt,k1.n0,k1.n1,k1.m0,k1.m1⟩
     have hq:=ih _ _ _ 0 Z1 Z2 (te+1) (by show SpanN (s.day+1+d) _ _ _;rw [show s.day+1+(d:Int)=s.day+((d+1:Nat):Int) by omega];exact hn) (fun x hx=>by have:=hT x hx;show x.day≤s.day+1+d;omega) (fun te2 S5 e=>by injection e with e _;injection e with _ e;subst e;have:=hok'.le;show s.day+1≤te';omega) hst2 h1 z1 h2 z2
     have hl:({ s2 with day:=s.day+1 }:St).out.length=s.out.length+1:=by show s2.out.length=_;exact k2
     rw [hl] at hq
     simp only [List.length_cons] at hq⊢
     exact⟨by omega,by omega,hq.2.2⟩
   ·rw [if_neg hcl] at h1 h2
    obtain⟨s3,hs3⟩:∃s3:St,s3={ endSt (evSt s (evR s.day (T.drop s.i) s.i s.p s.R)) t.trs.length t.trs.length with day:=s.day+1 }:=⟨_,rfl⟩
    have h1':walkD t T t.trs.length d ((fr,te)::S') s3=Z1:=by rw [hs3];exact h1
    have h2':walkD t T t.trs.length (d+1) ((fr,te)::S2') s3=Z2:=by rw [hs3];exact h2
    have hk:StOk t.trs.length s3 (len+1):=by rw [hs3];exact⟨hf.pr,hf.nb,hf.nr,hf.rt,hf.n0,hf.n1,hf.m0,hf.m1⟩
    have hday:s3.day=s.day+1:=by rw [hs3]
    have ho:s3.out=s.out:=by rw [hs3];rfl
    have hq:=ih _ _ s3 (len+1) Z1 Z2 fr (by rw [hday,show s.day+1+(d:Int)=s.day+((d+1:Nat):Int) by omega];exact hS) (fun x hx=>by have:=hT x hx;rw [hday];omega) (fun te2 S5 e=>by injection e with e _;injection e with _ e;subst e;rw [hday];omega) hk h1' z1 h2' z2
    rw [ho] at hq
    exact hq
  ·rw [if_neg h0] at h1
   subst h1
   exact absurd z1 h0
theorem repErr_play{t:Tm}{L:List Ev}{td:Int}(hz:t.err=0)(hL:∀x∈L,evErr t x=0∧x.day≤td)(hl:L.length≤2000)(h0:t.start≤td)(h1:td≤100000)(h2:td<t.start+8000):repErr t L td=0:=by
 obtain⟨_,_,hc,_,_,_,hst⟩:=tm_nums hz
 obtain⟨ho,_⟩:=ofE_far (st:=t.start) (day:=td) hc (by omega) h0 h1 h2
 exact jY5
theorem walkR_goes{t:Tm}{L:List Ev}{td:Int}(hz:t.err=0)(hL:∀x∈L,evErr t x=0∧x.day≤td)(hl:L.length≤2000)(h0:t.start≤td)(h1:td≤90000)(h2:td<t.start+7000)(e1:(walkR t L td).2=0)(e2:(walkR t L (td+1)).2=0):
  ((walkR t L (td+1)).1.out.length:Int)=ofV t.start t.cyc (td+1)-1∧(((walkR t L (td+1)).1.out=(walkR t L td).1.out∧(walkR t L (td+1)).1.p=(walkR t L td).1.p)∨∃X,(walkR t L (td+1)).1.out=(walkR t L td).1.out++ [X]):=by
 obtain⟨_,_,hc,_,_,_,hst⟩:=tm_nums hz
 obtain⟨o1,f1⟩:=ofE_far (st:=t.start) (day:=td) hc (by omega) h0 (by omega) (by omega)
 obtain⟨o2,f2⟩:=ofE_far (st:=t.start) (day:=td+1) hc (by omega) (by omega) (by omega) (by omega)
 have r1:=repErr_play hz hL hl h0 (by omega) (by omega)
 have r2:=repErr_play (td:=td+1) hz (fun x hx=>⟨(hL x hx).1,by have:=(hL x hx).2;omega⟩) hl (by omega) (by omega) (by omega)
 have a1:allL t.start t.cyc td=(findW t.cyc td 300 t.start).1:=by unfold allL;rw [if_pos f1]
 have a2:allL t.start t.cyc (td+1)=(findW t.cyc (td+1) 300 t.start).1:=by unfold allL;rw [if_pos f2]
 have hn:=find_next t.cyc td 300 300 t.start f1 f2
 rw [←a1,←a2] at hn
 have w1:walkR t L td=walkD t (sortL L) t.trs.length (td-t.start).toNat (allL t.start t.cyc td) (st0 t):=by unfold walkR;rw [if_pos r1]
 have w2:walkR t L (td+1)=walkD t (sortL L) t.trs.length ((td-t.start).toNat+1) (allL t.start t.cyc (td+1)) (st0 t):=by
  unfold walkR;rw [if_pos r2,show(td+1-t.start).toNat=(td-t.start).toNat+1 by omega]
 have hs:=(sortL_spec L).2
 have hd:(st0 t).day=t.start:=rfl
 have hq:=goes_on hz (td-t.start).toNat _ _ (st0 t) 0 _ _ t.start (by rw [hd,show t.start+((td-t.start).toNat:Int)=td by omega];exact hn) (fun x hx=>by have:=(hL x (hs.mem hx)).2;rw [hd];omega) (fun te S' e=>by
  obtain⟨te2,S3,S4,e3,_,hok,_⟩:=hn.head
  rw [e] at e3
  injection e3 with e3 _
  injection e3 with _ e3
  rw [e3]
  exact hok.le) (st0_ok hz) rfl (by rw [←w1];exact e1) rfl (by rw [←w2];exact e2)
 rw [←w1,←w2] at hq
 have hv:ofV t.start t.cyc (td+1)=((allL t.start t.cyc (td+1)).length:Int):=by unfold ofV;rw [if_pos o2,a2]
 have h3:(st0 t).out.length=0:=rfl
 refine⟨?_,hq.2.2⟩
 rw [hv]
 omega
def dblT:Nat→Int
 |0=>1
 |n+1=>2*dblT n
theorem dblT_pos:∀n,1≤dblT n
 |0=>by decide
 |n+1=>by have:=dblT_pos n;simp only [dblT];omega
theorem inRep{n:Nat}{a x:Int}(h:x∈List.replicate n a):x=a:=(List.mem_replicate.1 h).2
theorem repT(n:Nat)(a:Int):List.replicate n a++ [a]=List.replicate (n+1) a:=List.replicate_succ'.symm
theorem close22{T:List Ev}{i:Nat}{day a b c du r1 r2 fr te:Int}{x1 x2 y1 y2:List Int}{out:List Stm}:closeS t22 T 2 (st2 i day a b c du r1 r2 x1 x2 y1 y2 out) fr te=closeS tF T 2 (st2 i day a b c du r1 r2 x1 x2 y1 y2 out) fr te:=rfl
theorem ofR_rep{k:Nat}{a r:Int}(ha:0≤a∧a≤1000000000)(hk:k≤31)(hr:0≤r∧r≤3000000):∃v,ofR (List.replicate k a++ [a]) (List.replicate k r++ [r])=(v,0)∧0≤v∧v≤a:=by
 rw [repT,repT]
 obtain⟨e1,e2,e3,_⟩:=ofR_ok (X:=List.replicate (k+1) a) (Y:=List.replicate (k+1) r) (A:=a) ha.1 (by omega) (by rw [List.length_replicate];omega) (fun x hx=>by rw [inRep hx];omega) (fun y hy=>by rw [inRep hy];omega)
 exact⟨_,by rw [←e1],e2,e3⟩
def bSt(day a b du:Int)(k:Nat)(out:List Stm):St:=st2 1 day a b 0 du 500000 900000 (List.replicate k a) (List.replicate k b) (List.replicate k 500000) (List.replicate k 900000) out
theorem bear_go{T:List Ev}(hT:T[1]?=none):∀(d:Nat) (fr te:Int) (S:List (Int×Int)) (day a b du:Int) (k:Nat) (out:List Stm),SpanC (day+d) fr ((fr,te)::S)→fr+k=day→day≤te→0≤a→0≤b→(a+b)*dblT S.length≤1000000000→0≤du→du≤1000000000→(walkD t22 T 2 d ((fr,te)::S) (bSt day a b du k out)).2=0:=by
 have hno:∀x,T[1]?=some x→False:=fun x hx=>by rw [hT] at hx;cases hx
 intro d
 induction d with
 |zero=>
  intro fr te S day a b du k out _ _ _ _ _ _ _ _
  rw [walkD_stop (fun x hx=>(hno x hx).elim)]
 |succ d ih=>
  intro fr te S day a b du k out hS hk hte ha hb hab hd0 hd1
  have hdp:=dblT_pos S.length
  have hs:a+b≤1000000000:=by
   have:(a+b)*1≤(a+b)*dblT S.length:=Int.mul_le_mul_of_nonneg_left hdp (by omega)
   omega
  by_cases hcl:te=day
  ·cases hS with
   |last h1 h2 h3=>omega
   |more h1 h2 h3=>
    obtain⟨te',S',rfl,ok',lo',_⟩:=h3.head
    have hsh:=h1.sh
    obtain⟨g,hg⟩:∃g,freeB out fr T=g:=⟨_,rfl⟩
    obtain⟨v,hv,v0,v1⟩:=ofR_rep (k:=k) (a:=a) (r:=500000) ⟨ha,by omega⟩ (by omega) (by omega)
    obtain⟨u,hu,u0,u1⟩:=ofR_rep (k:=k) (a:=b) (r:=900000) ⟨hb,by omega⟩ (by omega) (by omega)
    obtain⟨v2,hv2,p0,p1⟩:∃v2,((g=true∧v2=0)∨(g=false∧ofR (List.replicate k a++ [a]) (List.replicate k 500000++ [500000])=(v2,0)))∧0≤v2∧v2≤a:=by
     rcases g with _|_
     ·exact⟨v,.inr ⟨rfl,hv⟩,v0,v1⟩
     ·exact⟨0,.inl ⟨rfl,rfl⟩,by omega,by omega⟩
    have hlb:=leastI_bd (mf:=25) (mp:=20) (total:=a+v2+(b+u)) (by omega) (by omega)
    have hb':(a+v2+(b+u))*dblT S'.length≤1000000000:=by
     have h5:(a+v2+(b+u))*dblT S'.length≤(2*(a+b))*dblT S'.length:=Int.mul_le_mul_of_nonneg_right (by omega) (by have:=dblT_pos S'.length;omega)
     have h6:(a+b)*dblT ((te+1,te')::S').length=2*(a+b)*dblT S'.length:=by simp only [List.length_cons,dblT];rw [←Int.mul_assoc,Int.mul_comm (a+b) 2]
     omega
    have hdp':=dblT_pos S'.length
    have hs':a+v2+(b+u)≤1000000000:=by
     have:(a+v2+(b+u))*1≤(a+v2+(b+u))*dblT S'.length:=Int.mul_le_mul_of_nonneg_left hdp' (by omega)
     omega
    have hc:=closeF (T:=T) (i:=1) (day:=day) (du:=du) (r1:=500000) (r2:=900000) (fr:=fr) (te:=te) (out:=out) hg hv2 hu p0 u0 ha hb (by omega) (by omega)
    have hw:=walkD_close (t:=t22) (T:=T) (d:=d) (S:=(te+1,te')::S') hcl (fun x hx=>(hno x hx).elim) (close22.trans hc) rfl
    unfold bSt
    rw [hw]
    exact ih (te+1) te' S' (day+1) (a+v2) (b+u) _ 0 _ (by rw [show day+1+(d:Int)=day+((d+1:Nat):Int) by omega];exact h3) (by omega) (by have:=ok'.le;omega) (by omega) (by omega) hb' hlb.1 (by omega)
  ·unfold bSt
   rw [walkD_quiet d 1 day _ _ _ _ (fun x hx=>(hno x hx).elim) (by omega)]
   simp only [List.replicate_one,repT]
   exact ih fr te S (day+1) a b du (k+1) out (by rw [show day+1+(d:Int)=day+((d+1:Nat):Int) by omega];exact hS) (by omega) (by omega) ha hb hab hd0 hd1
theorem tick_days:∀K:Fin 101,ofE 10957 1 (10957+(K.val:Int))=0∧(allL 10957 1 (10957+(K.val:Int))).length≤5∧(findW 1 (10957+(K.val:Int)) 300 10957).2=true:=by decide+kernel
theorem walk22{L:List Ev}{td:Int}{Z:St×Int}(hL:∀x∈L,evErr t22 x=0∧x.day≤td)(hl:L.length≤2000)(hd:10957≤td∧td≤2932896)(ho:ofE 10957 1 td=0)(hs:Sorted L)
  (h:walkD t22 L 2 (td-10957).toNat (allL 10957 1 td) (st2 0 10957 0 0 0 0 500000 900000 [] [] [] [] [])=Z):walkR t22 L td=Z:=by
 unfold walkR
 rw [if_pos (repErr_at (by decide+kernel) hL hl hd ho),sortL_id hs]
 exact h
def dr22(tr A:Int):List Ev:= [⟨1,10957,tr,A,0⟩]
theorem dr22_ev{tr A:Int}(ht:tr=1∨tr=2)(hA:1≤A∧A≤1000){td:Int}(hd:10957≤td):∀x∈dr22 tr A,evErr t22 x=0∧x.day≤td:=by
 intro x hx
 simp only [dr22,List.mem_singleton] at hx
 subst hx
 exact⟨evErr22 (by decide) (.inr ⟨by decide,by omega⟩) (.inr ⟨by decide,by omega⟩) (by decide) (.inr ⟨by decide,rfl⟩),hd⟩
theorem dr22_app{tr A:Int}(ht:tr=1∨tr=2)(hA:1≤A∧A≤1000):∃a b,(0≤a∧0≤b∧a+b=A)∧(tr=2→a=0)∧applyR ⟨[0,0],0,0⟩ [500000,900000] ⟨1,10957,tr,A,0⟩=(⟨[a,b],0,0⟩, [500000,900000],0):=by
 have p0:Ps.rightB ⟨[0,0],0,0⟩=true:=by decide+kernel
 have m0:minI A 0=0:=by unfold minI;rw [if_neg (by omega)]
 rcases ht with rfl|rfl
 ·exact⟨A,0,by omega,by omega,charge2 (a':=A) (b':=0) (c':=0) p0 (by omega) (by omega) (.inl rfl) (by omega) (.inl ⟨rfl,by rw [m0];omega,rfl⟩) (by rw [m0];rfl) (right2 (by omega) (by omega) (by omega) (by omega) (by omega) (.inl rfl))⟩
 ·exact⟨0,A,by omega,fun _=>rfl,charge2 (a':=0) (b':=A) (c':=0) p0 (by omega) (by omega) (.inl rfl) (by omega) (.inr ⟨rfl,rfl,by rw [m0];omega⟩) (by rw [m0];rfl) (right2 (by omega) (by omega) (by omega) (by omega) (by omega) (.inl rfl))⟩
theorem walkR_one{tr A a b td:Int}{d:Nat}{S:List (Int×Int)}{Z:St×Int}(ht:tr=1∨tr=2)(hA:1≤A∧A≤1000)(hap:applyR ⟨[0,0],0,0⟩ [500000,900000] ⟨1,10957,tr,A,0⟩=(⟨[a,b],0,0⟩, [500000,900000],0))(hd:10957≤td∧td≤2932896)(ho:ofE 10957 1 td=0)
  (h1:(td-10957).toNat=d) (h2:allL 10957 1 td=S) (hw:walkD t22 (dr22 tr A) 2 d S (bSt 10957 a b 0 0 [])=Z) (hz:Z.2=0):walkR t22 (dr22 tr A) td=Z:=by
 refine walk22 (dr22_ev ht hA hd.1) (by simp [dr22]) hd ho (by simp [dr22,Sorted]) ?_
 rw [h1,h2]
 exact walkD_ev1 (e:=⟨1,10957,tr,A,0⟩) rfl rfl hap hw hz
theorem draw_ok{tr A:Int}(ht:tr=1∨tr=2)(hA:1≤A∧A≤1000){q:Nat}(hq:q≤100):(walkR t22 (dr22 tr A) (10957+(q:Int))).2=0:=by
 obtain⟨o1,o2,o3⟩:=tick_days ⟨q,by omega⟩
 simp only at o1 o2 o3
 obtain⟨hS,_⟩:=find_spans 1 (10957+(q:Int)) 300 10957 o3
 have hall:allL 10957 1 (10957+(q:Int))=(findW 1 (10957+(q:Int)) 300 10957).1:=by unfold allL;rw [if_pos o3]
 rw [←hall] at hS
 obtain⟨te,S',hS',ok,lo,_⟩:=hS.head
 rw [hS'] at hS o2
 simp only [List.length_cons] at o2
 obtain⟨a,b,hab,_,hap⟩:=dr22_app ht hA
 have hb:(a+b)*dblT S'.length≤1000000000:=by
  have h1:dblT S'.length≤16:=by
   have:S'.length=0∨S'.length=1∨S'.length=2∨S'.length=3∨S'.length=4:=by omega
   rcases this with h|h|h|h|h<;>rw [h]<;>decide
  have:(a+b)*dblT S'.length≤(a+b)*16:=Int.mul_le_mul_of_nonneg_left h1 (by omega)
  omega
 have hgo:=bear_go (T:=dr22 tr A) rfl q 10957 te S' 10957 a b 0 0 [] hS (by omega) (by have:=ok.le;omega) hab.1 hab.2.1 hb (by omega) (by omega)
 have hw:=walkR_one (td:=10957+(q:Int)) ht hA hap (by omega) o1 (by omega) hS' rfl hgo
 exact(congrArg Prod.snd hw).trans hgo
structure Tk(tr am:Int)(i:Nat)(B:Ac):Prop where
 tt:B.t=t22
 L:B.L=dr22 tr am
 td:B.today=10957+i
 s:B.s=(walkR t22 (dr22 tr am) (10957+(i:Int))).1
 is:B.iss=B.s.out
 sq:0≤B.seq∧B.seq≤1+i
theorem tk_pre{tr am:Int}(ht:tr=1∨tr=2)(hA:1≤am∧am≤1000)(i:Nat):∀(d:Nat),i+d≤100→∃X,(walkR t22 (dr22 tr am) (10957+((i+d:Nat):Int))).1.out=(walkR t22 (dr22 tr am) (10957+(i:Int))).1.out++X
 |0,_=>⟨[],by simp⟩
 |d+1,h=>by
  obtain⟨X,hX⟩:=tk_pre ht hA i d (by omega)
  have h1:=draw_ok ht hA (q:=i+d) (by omega)
  have h2:=draw_ok ht hA (q:=i+d+1) (by omega)
  rw [show(10957:Int)+((i+d+1:Nat):Int)=10957+((i+d:Nat):Int)+1 by omega] at h2
  have hg:=walkR_goes (t:=t22) (L:=dr22 tr am) (td:=10957+((i+d:Nat):Int)) (by decide+kernel) (dr22_ev ht hA (by omega)) (by simp [dr22]) (by show(10957:Int)≤_;omega) (by omega) (by show _<(10957:Int)+7000;omega) h1 h2
  rw [show(10957:Int)+((i+(d+1):Nat):Int)=10957+((i+d:Nat):Int)+1 by omega]
  rcases hg.2 with⟨e,_⟩|⟨Y,e⟩
  ·exact⟨X,by rw [e,hX]⟩
  ·exact⟨X++ [Y],by rw [e,hX,List.append_assoc]⟩
theorem Tk.tick{tr am:Int}{i:Nat}{B:Ac}(h:Tk tr am i B)(ht:tr=1∨tr=2)(hA:1≤am∧am≤1000){d:Nat}(h1:1≤d)(hd:i+d≤100):
  B.te d=0∧Tk tr am (i+d) (B.tick d)∧B.s.out.length≤(B.tick d).s.out.length∧B.tc d=if B.s.out.length<(B.tick d).s.out.length then((B.tick d).s.out.length:Int) else 0:=by
 have hz:=draw_ok ht hA hd
 have htd:B.today+(d:Int)=10957+((i+d:Nat):Int):=by rw [h.td];omega
 have htz:B.tz d=walkR t22 (dr22 tr am) (10957+((i+d:Nat):Int)):=by unfold Ac.tz;rw [h.tt,h.L,htd]
 have ho:=(tick_days ⟨i+d,by omega⟩).1
 simp only at ho
 have hte:B.te d=0:=by
  unfold Ac.te
  rw [if_neg (by omega),htz,hz,htd,h.tt]
  show(if¬ofE 10957 1 _=0 then(10:Int) else 0)=0
  rw [ho]
  rfl
 obtain⟨X,hX⟩:=tk_pre ht hA i d hd
 have hti:B.tick d={ B with today:=B.today+d,s:=(B.tz d).1,iss:=B.iss++(B.tz d).1.out.drop B.s.out.length,seq:=B.seq+1 }:=by unfold Ac.tick;rw [if_pos hte]
 have hiss:B.iss++(B.tz d).1.out.drop B.s.out.length=(B.tz d).1.out:=by
  rw [h.is,htz,hX,h.s,List.drop_left']
  rfl
 have hle:B.s.out.length≤(B.tz d).1.out.length:=by rw [h.s,htz,hX,List.length_append];omega
 have hsq:=h.sq
 refine⟨hte, ?_,by rw [hti];exact hle, ?_⟩
 ·rw [hti,hiss]
  exact⟨h.tt,h.L,htd,by show(B.tz d).1=_;rw [htz],rfl,by show 0≤B.seq+1∧B.seq+1≤_;omega⟩
 ·rw [hti]
  unfold Ac.tc
  simp only [hte,true_and]
theorem draw22{tr am:Int}(ht:tr=1∨tr=2)(hA:1≤am∧am≤1000):
  (acNew t22).xe ⟨1,0,tr,am,0⟩=0∧(acNew t22).xr ⟨1,0,tr,am,0⟩=0∧Tk tr am 0 ((acNew t22).chg ⟨1,0,tr,am,0⟩)∧((acNew t22).chg ⟨1,0,tr,am,0⟩).adj= []∧((acNew t22).chg ⟨1,0,tr,am,0⟩).D= []∧((acNew t22).chg ⟨1,0,tr,am,0⟩).seq=1:=by
 have h0:Day0 (acNew t22) t22 (p22 0 0 0) [500000,900000]:=day22
 have m0:minI am 0=0:=by unfold minI;rw [if_neg (by omega)]
 obtain⟨x',y',hxy,hb1,hb2⟩:∃x' y',((tr=1∧x'=0+(am-minI am 0)∧y'=0)∨(tr=2∧x'=0∧y'=0+(am-minI am 0)))∧(0≤x'∧x'≤1000)∧(0≤y'∧y'≤1000):=by
  rw [m0]
  rcases ht with rfl|rfl
  ·exact⟨am,0,.inl ⟨rfl,by omega,rfl⟩,by omega,by omega⟩
  ·exact⟨0,am,.inr ⟨rfl,rfl,by omega⟩,by omega,by omega⟩
 obtain⟨e1,e2,e3,e4,e5,e6⟩:=h0.draw (am:=am) (c':=0) (by decide) hxy (by rw [m0];rfl) (by omega) (by omega) (right22 (by omega) (by omega) (by omega) (.inl rfl)) (right22 (by omega) (by omega) (by omega) (.inl rfl))
 have hee:(acNew t22).ee ⟨1,0,tr,am,0⟩=0:=by rw [ee_num h0 (by omega) (.inr ⟨by decide,by omega⟩),if_pos rfl,if_neg (by omega)]
 have hxv:(acNew t22).xev ⟨1,0,tr,am,0⟩=⟨1,10957,tr,am,0⟩:=by
  unfold Ac.xev
  rw [if_neg (by show¬((1:Int)=5∨(1:Int)=6);decide),Ac.ee_yes hee]
  rfl
 have hxz:(acNew t22).xz ⟨1,0,tr,am,0⟩=0:=by unfold Ac.xz;rw [if_neg (by show¬((1:Int)=5∨(1:Int)=6);decide)];exact hee
 have hce:(acNew t22).ce ⟨1,10957,tr,am,0⟩=0:=by
  have:=e1
  rw [Ac.xe_cnt hxz (by show¬(1:Int)=6;decide),hxv] at this
  exact this
 obtain⟨A,hAe⟩:∃A,(acNew t22).chg ⟨1,0,tr,am,0⟩=A:=⟨_,rfl⟩
 have hA2:A={ (acNew t22).count ⟨1,10957,tr,am,0⟩ with D:=(acNew t22).xD ⟨1,0,tr,am,0⟩ }:=by
  rw [←hAe,(Ac.chg_yes e1).1]
  unfold Ac.nx
  rw [if_neg (by show¬(1:Int)=6;decide),hxv]
 have hcn:(acNew t22).count ⟨1,10957,tr,am,0⟩={ acNew t22 with L:=putL [] ⟨1,10957,tr,am,0⟩,s:=((acNew t22).cz ⟨1,10957,tr,am,0⟩).1,adj:= []++((acNew t22).cb ⟨1,10957,tr,am,0⟩).2,seq:=1 }:=by unfold Ac.count;rw [if_pos hce];rfl
 have hpu:putL [] ⟨1,10957,tr,am,0⟩=dr22 tr am:=putL_last (L:= []) (by simp [Sorted])
 have hcz:(acNew t22).cz ⟨1,10957,tr,am,0⟩=walkR t22 (dr22 tr am) (10957+((0:Nat):Int)):=by
  unfold Ac.cz
  show walkR t22 (putL [] ⟨1,10957,tr,am,0⟩) 10957=_
  rw [hpu]
  rfl
 have hso:A.s=(walkR t22 (dr22 tr am) (10957+((0:Nat):Int))).1:=by rw [hA2,hcn,hcz]
 rw [hAe] at e3 e4 e5 e6⊢
 have hout:A.s.out= []:=e3.pos.2.2
 have hcb:((acNew t22).cb ⟨1,10957,tr,am,0⟩).2= []:=by
  unfold Ac.cb
  rw [hcz,←hso,hout]
  rfl
 refine⟨e1,e2,⟨e3.tt,by rw [hA2,hcn];exact hpu,by rw [e3.td];rfl,hso,by rw [hout,hA2,hcn];rfl,by rw [e4];decide⟩,by rw [hA2,hcn];show []++_=_;rw [hcb];rfl,by rw [e5];rfl,by rw [e4];rfl⟩
theorem dotI_rep{A r:Int}(hr:0≤r):∀(X:List Int) (n:Nat),(∀x∈X,x≤A)→X.length=n→dotI X (List.replicate n r)≤dotI (List.replicate n A) (List.replicate n r)
 | [],n,_,h=>by subst h;exact Int.le_refl _
 |x::X,n,hX,h=>by
  subst h
  rw [List.length_cons,List.replicate_succ,List.replicate_succ]
  simp only [dotI]
  have h1:=dotI_rep hr X X.length (fun y hy=>hX y (List.mem_cons_of_mem _ hy)) rfl
  have h2:x*r≤A*r:=Int.mul_le_mul_of_nonneg_right (hX x (List.mem_cons_self ..)) hr
  omega
theorem evenI_mono{N M:Int}(h:N≤M):evenI N 1000000000≤evenI M 1000000000:=by
 unfold evenI
 split<;>split<;>omega
theorem memAll{P:Int→Prop}{A B:List Int}(h1:∀x∈A,P x)(h2:∀x∈B,P x):∀x∈A++B,P x:=fun x hx=>(List.mem_append.1 hx).elim (h1 x) (h2 x)
theorem memRep{P:Int→Prop}{k:Nat}{a:Int}(h:P a):∀x∈List.replicate k a,P x:=fun x hx=>by rw [inRep hx];exact h
def sm22(b v du:Int):Stm:=⟨1,10957,10987,11007,b+v,0,du,true, [⟨0,0,500000⟩,⟨b+v,v,900000⟩]⟩
theorem tail22{T:List Ev}{i:Nat}{b:Int}{x1 x2 y1 y2:List Int}(hT:T[i]?=none)(hb:0≤b∧b≤1000000)(h2:∀x∈x2,0≤x∧x≤1000000)(hl:x2.length=30)(hy:∀y∈y2,0≤y∧y≤3000000):
  ∃s v du,walkD t22 T 2 10 [(10957,10987),(10988,11016)] (st2 i 10987 0 b 0 0 500000 900000 x1 x2 y1 y2 [])=(s,0)∧s.out= [sm22 b v du]∧ofR (x2++ [b]) (y2++ [900000])=(v,0)∧(0≤v∧v≤1000000)∧0≤du∧du≤b+v:=by
 have hno:∀x,T[i]?=some x→False:=fun x hx=>by rw [hT] at hx;cases hx
 obtain⟨e1,e2,e3,e4⟩:=ofR_ok (X:=x2++ [b]) (Y:=y2++ [900000]) (A:=1000000) (by omega) (by omega) (by rw [List.length_append,hl];simp) (memAll h2 (by simp;omega)) (memAll hy (by simp))
 obtain⟨v,hv⟩:∃v,ofR (x2++ [b]) (y2++ [900000])=(v,0):=⟨_,by rw [←e1]⟩
 rw [hv] at e2 e3
 simp only at e2 e3
 have hc1:=closeF (T:=T) (i:=i) (day:=10987) (a:=0) (b:=b) (du:=0) (r1:=500000) (r2:=900000) (fr:=10957) (te:=10987) (x1:=x1++ [0]) (x2:=x2++ [b]) (y1:=y1++ [500000]) (y2:=y2++ [900000]) (out:= []) (g:=true) (v1:=0) (v2:=v) rfl (.inl ⟨rfl,rfl⟩) hv (by omega) (by omega) (by omega) (by omega) (by omega) (by omega)
 simp only [Int.add_zero,Int.zero_add] at hc1
 obtain⟨du,hdu⟩:∃du,leastI 25 20 (b+v)=du:=⟨_,rfl⟩
 have hdu2:0≤du∧du≤b+v:=by rw [←hdu];exact leastI_bd (by omega) (by omega)
 rw [hdu] at hc1
 refine⟨st2 i 10997 0 (b+v) 0 du 500000 900000 ([]++List.replicate 9 0) ([]++List.replicate 9 (b+v)) ([]++List.replicate 9 500000) ([]++List.replicate 9 900000) ([]++ [sm22 b v du]),v,du, ?_,rfl,hv,⟨e2,e3⟩,hdu2⟩
 rw [show 10=9+1 by omega]
 refine walkD_close rfl (fun x hx=>(hno x hx).elim) (close22.trans hc1) ?_
 rw [show 9=0+9 by omega,show(10987:Int)+1=10988 by omega,walkD_quiet 0 9 10988 _ _ _ _ (fun x hx=>(hno x hx).elim) (by omega)]
 exact walkD_stop (fun x hx=>(hno x hx).elim)
theorem all22:allL 10957 1 10997= [(10957,10987),(10988,11016)]:=by decide+kernel
theorem of22:ofE 10957 1 10997=0:=by decide+kernel
theorem fwd22{A:Int}(hA:1≤A∧A≤1000):∃s v du,walkR t22 (dr22 2 A) 10997=(s,0)∧s.out= [sm22 A v du]∧ofR (List.replicate 31 A) (List.replicate 31 900000)=(v,0)∧(0≤v∧v≤1000000)∧0≤du∧du≤A+v:=by
 obtain⟨a,b,hab,h0,hap⟩:=dr22_app (tr:=2) (.inr rfl) hA
 obtain rfl:a=0:=h0 rfl
 obtain rfl:b=A:=by omega
 obtain⟨s,v,du,h1,h2,h3,h4⟩:=tail22 (T:=dr22 2 b) (i:=1) (b:=b) (x1:= []++List.replicate 30 0) (x2:= []++List.replicate 30 b) (y1:= []++List.replicate 30 500000) (y2:= []++List.replicate 30 900000) rfl (by omega) (memAll (by simp) (memRep (by omega))) (by simp) (memAll (by simp) (memRep (by omega)))
 refine⟨s,v,du,walkR_one (.inr rfl) hA hap (by omega) of22 (d:=10+30) (by decide) all22 ?_ rfl,h2, ?_,h4⟩
 ·unfold bSt
  rw [walkD_quiet 10 30 10957 _ _ _ _ (by intro x hx;simp [dr22] at hx) (by omega),show(10957:Int)+((30:Nat):Int)=10987 by omega]
  exact h1
 ·rw [List.nil_append,List.nil_append,repT,repT] at h3
  exact h3
def bk22(A B:Int)(D:Nat):List Ev:= [⟨1,10957,2,A,0⟩,⟨3,10957+D,2,B,0⟩]
theorem bk22_ev{A B:Int}{D:Nat}(hA:1≤A∧A≤1000)(hB:1≤B∧B≤A)(hD:D≤30):∀x∈bk22 A B D,evErr t22 x=0∧x.day≤10997:=by
 intro x hx
 simp only [bk22,List.mem_cons,List.not_mem_nil,or_false] at hx
 rcases hx with rfl|rfl
 ·exact⟨evErr22 (by decide) (.inr ⟨by decide,by decide⟩) (.inr ⟨by decide,by omega⟩) (by decide) (.inr ⟨by decide,rfl⟩),by show(10957:Int)≤_;omega⟩
 ·exact⟨evErr22 (by decide) (.inr ⟨by decide,by decide⟩) (.inr ⟨by decide,by omega⟩) (by omega) (.inr ⟨by decide,rfl⟩),by show 10957+(D:Int)≤_;omega⟩
theorem back22{A B:Int}{D:Nat}(hA:1≤A∧A≤1000)(hB:1≤B∧B≤A)(hD:D≤30):∃s v du,walkR t22 (bk22 A B D) 10997=(s,0)∧s.out= [sm22 (A-B) v du]∧ofR (List.replicate D A++List.replicate (31-D) (A-B)) (List.replicate 31 900000)=(v,0)∧(0≤v∧v≤1000000)∧0≤du∧du≤A-B+v:=by
 have p0:Ps.rightB ⟨[0,0],0,0⟩=true:=by decide+kernel
 have p1:Ps.rightB ⟨[0,A],0,0⟩=true:=right2 (by omega) (by omega) (by omega) (by omega) (by omega) (.inl rfl)
 have p2:Ps.rightB ⟨[0,A-B],0,0⟩=true:=right2 (by omega) (by omega) (by omega) (by omega) (by omega) (.inl rfl)
 have m0:minI A 0=0:=by unfold minI;rw [if_neg (by omega)]
 obtain⟨s,v,du,h1,h2,h3,h4⟩:=tail22 (T:=bk22 A B D) (i:=2) (b:=A-B) (x1:= []++List.replicate D 0++List.replicate (30-D) 0) (x2:= []++List.replicate D A++List.replicate (30-D) (A-B)) (y1:= []++List.replicate D 500000++List.replicate (30-D) 500000) (y2:= []++List.replicate D 900000++List.replicate (30-D) 900000) rfl (by omega)
  (memAll (memAll (by simp) (memRep (by omega))) (memRep (by omega))) (by simp;omega) (memAll (memAll (by simp) (memRep (by omega))) (memRep (by omega)))
 refine⟨s,v,du,walk22 (bk22_ev hA hB hD) (by simp [bk22]) (by omega) of22 (by simp [bk22,Sorted];omega) ?_,h2, ?_,h4⟩
 ·rw [all22,show((10997:Int)-10957).toNat=(40-D)+D by omega]
  refine walkD_ev1 (e:=⟨1,10957,2,A,0⟩) rfl rfl (charge2 (a':=0) (b':=A) (c':=0) p0 (by omega) (by omega) (.inl rfl) (by omega) (.inr ⟨rfl,rfl,by rw [m0];omega⟩) (by rw [m0];rfl) p1) ?_ rfl
  show walkD t22 (bk22 A B D) 2 (40-D+D) [(10957,10987),(10988,11016)] (st2 1 10957 0 A 0 0 500000 900000 [] [] [] [] [])=_
  rw [walkD_quiet (40-D) D 10957 _ _ _ _ (by intro x hx;simp only [bk22,List.getElem?_cons_succ,List.getElem?_cons_zero,Option.some.injEq] at hx;subst hx;show(10957:Int)+D≤10957+D;omega) (by omega)]
  refine walkD_ev1 (e:=⟨3,10957+D,2,B,0⟩) rfl rfl (give2 (a':=0) (b':=A-B) p1 (by omega) (by omega) (by omega) (by omega) (.inl rfl) (by omega) (.inr ⟨rfl,hB.2,rfl,rfl⟩) p2) ?_ rfl
  show walkD t22 (bk22 A B D) 2 (40-D) [(10957,10987),(10988,11016)] (st2 2 (10957+D) 0 (A-B) 0 0 500000 900000 ([]++List.replicate D 0) ([]++List.replicate D A) ([]++List.replicate D 500000) ([]++List.replicate D 900000) [])=_
  rw [show 40-D=10+(30-D) by omega,walkD_quiet 10 (30-D) (10957+D) _ _ _ _ (by intro x hx;simp [bk22] at hx) (by omega),show(10957:Int)+D+((30-D:Nat):Int)=10987 by omega]
  exact h1
 ·have hs1:List.replicate D A++List.replicate (31-D) (A-B)=([]++List.replicate D A++List.replicate (30-D) (A-B))++ [A-B]:=by
   rw [List.nil_append,List.append_assoc,repT]
   congr 2
   omega
  have hs2:List.replicate 31 (900000:Int)=([]++List.replicate D 900000++List.replicate (30-D) 900000)++ [900000]:=by
   rw [List.nil_append,List.replicate_append_replicate,repT]
   congr 1
   omega
  rw [hs1,hs2]
  exact h3
theorem less22{A B v v':Int}{D:Nat}(hA:1≤A∧A≤1000)(hB:1≤B∧B≤A)(hD:D≤30)(h1:ofR (List.replicate 31 A) (List.replicate 31 900000)=(v,0))(h2:ofR (List.replicate D A++List.replicate (31-D) (A-B)) (List.replicate 31 900000)=(v',0)):v'≤v:=by
 have k1:=(ofR_ok (X:=List.replicate 31 A) (Y:=List.replicate 31 (900000:Int)) (A:=A) (by omega) (by omega) (by simp) (memRep (by omega)) (memRep (by omega))).2.2.2
 have k2:=(ofR_ok (X:=List.replicate D A++List.replicate (31-D) (A-B)) (Y:=List.replicate 31 (900000:Int)) (A:=A) (by omega) (by omega) (by simp;omega) (memAll (memRep (by omega)) (memRep (by omega))) (memRep (by omega))).2.2.2
 rw [h1] at k1
 rw [h2] at k2
 injection k1 with k1 _
 injection k2 with k2 _
 rw [k1,k2]
 exact evenI_mono (dotI_rep (by decide) _ 31 (memAll (memRep (by omega)) (memRep (by omega))) (by simp;omega))
theorem of_days:∀K:Fin 31,ofV 10957 1 (10957+(K.val:Int))=1:=by decide+kernel
def adjs22(x y d:Int):List Adj:= [⟨3,1,2,x,y,0,0,0,0⟩,⟨3,1,0,0,0,x,0,d,0⟩]
theorem one22{b v du b' v' du':Int}(h1:b'+v'<b+v):oneAdj 3 (sm22 b v du) (sm22 b' v' du')=adjs22 (b'+v'-(b+v)) (v'-v) (du'-du):=by
 have e1:¬(b+v=b'+v'∧v=v'):=by omega
 simp [oneAdj,Cg,lineAdj,sm22,wholeSame,wholeAdj,turnedI,adjs22,e1]
 intro h
 have h2:b+v=b'+v':=of_decide_eq_true h
 omega
theorem num22{b v du:Int}(h:0≤v∧v≤1000000)(hb:0≤b∧b≤1000)(hd:0≤du∧du≤b+v):(sm22 b v du).Cf=true:=by
 have m:∀x:Int,0≤x∧x≤2000000→moneyB x=true:=fun x hx=>by simp [moneyB];omega
 simp only [Stm.Cf,sm22,Ln.numsB,Bz,List.all_cons,List.all_nil,m 0 (by omega),m (b+v) (by omega),m v (by omega),m du (by omega),Bool.and_true]
theorem bet22{b v du b' v' du':Int}(h:0≤v∧v≤1000000)(hb:0≤b∧b≤1000)(hd:0≤du∧du≤b+v)(h':0≤v'∧v'≤1000000)(hb':0≤b'∧b'≤1000)(hd':0≤du'∧du'≤b'+v')(h1:b'+v'<b+v):
  betS 3 [sm22 b v du] [sm22 b' v' du']=(0,adjs22 (b'+v'-(b+v)) (v'-v) (du'-du)):=by
 have ha:AlikeP [sm22 b v du] [sm22 b' v' du']=true:=by simp [AlikeP,alikeB,sm22]
 unfold betS
 rw [if_pos ha]
 simp only [betP,num22 h hb hd,num22 h' hb' hd',Bool.and_self,if_true,List.nil_append]
 rw [one22 h1]
theorem refund22{A B:Int}{D:Nat}{a:Ac}(hA:1≤A∧A≤1000)(hB:1≤B∧B≤A)(hD:D≤30)(h:Tk 2 A 40 a)(hadj:a.adj= [])(hs:a.seq=2):
  a.xe ⟨3,10957+D,2,B,0⟩=0∧a.xr ⟨3,10957+D,2,B,0⟩=0∧∃v du v' du',a.iss= [sm22 A v du]∧(a.chg ⟨3,10957+D,2,B,0⟩).iss= [sm22 A v du]∧(a.chg ⟨3,10957+D,2,B,0⟩).adj=adjs22 (A-B+v'-(A+v)) (v'-v) (du'-du)∧(a.chg ⟨3,10957+D,2,B,0⟩).s.out= [sm22 (A-B) v' du']∧(a.chg ⟨3,10957+D,2,B,0⟩).seq=3∧(0≤v'∧v'≤v∧v≤1000000)∧(0≤du∧du≤2000000)∧0≤du'∧du'≤2000000:=by
 obtain⟨s,v,du,w1,w2,w3,w4,w5⟩:=fwd22 hA
 obtain⟨s',v',du',u1,u2,u3,u4,u5⟩:=back22 hA hB hD
 have hle:=less22 hA hB hD w3 u3
 have hout:a.s.out= [sm22 A v du]:=by
  rw [h.s,show(10957:Int)+((40:Nat):Int)=10997 from rfl,w1]
  exact w2
 have h35:¬((3:Int)=5∨(3:Int)=6):=by decide
 have hlen:(a.t.trs.length:Int)=2:=by rw [h.tt];rfl
 have hold:a.oldB (10957+D)=false:=by
  unfold Ac.oldB Ac.cyc
  rw [h.tt,h.td]
  show decide (24<ofV 10957 1 10997-ofV 10957 1 (10957+(D:Int)))=false
  rw [show ofV 10957 1 10997=2 by decide+kernel,of_days ⟨D,by omega⟩]
  rfl
 have hee:a.ee ⟨3,10957+D,2,B,0⟩=0:=by
  rw [Ac.ee_in (c:=⟨3,10957+D,2,B,0⟩) (.inr (by rw [hlen];show 1≤(2:Int)∧(2:Int)≤2;decide)) (.inr ⟨by show¬(3:Int)=7;decide,by show 1≤B;omega,by show B≤_;omega⟩)]
  simp only
  rw [if_neg (by decide),if_pos trivial,if_neg (by rw [h.tt,h.td];show¬(10957+(D:Int)<10957∨10957+((40:Nat):Int)<10957+(D:Int));omega),hold]
  rfl
 have hxz:a.xz ⟨3,10957+D,2,B,0⟩=0:=by unfold Ac.xz;rw [if_neg h35];exact hee
 have hxv:a.xev ⟨3,10957+D,2,B,0⟩=⟨3,10957+D,2,B,0⟩:=by
  unfold Ac.xev
  rw [if_neg h35,Ac.ee_yes hee]
  rfl
 have hput:putL a.L ⟨3,10957+D,2,B,0⟩=bk22 A B D:=by
  rw [h.L]
  exact putL_last (L:=dr22 2 A) (by simp [dr22,Sorted];omega)
 have hcz:a.cz ⟨3,10957+D,2,B,0⟩=(s',0):=by
  unfold Ac.cz
  rw [hput,h.tt,h.td,show(10957:Int)+((40:Nat):Int)=10997 from rfl,u1]
 have hadd:addErr a.t a.L ⟨3,10957+D,2,B,0⟩=0:=by
  unfold addErr
  rw [h.tt,h.L,(bk22_ev hA hB hD _ (by simp [bk22])).1,if_neg (by decide),if_neg (by simp [dr22])]
 have hcb:a.cb ⟨3,10957+D,2,B,0⟩=(0,adjs22 (A-B+v'-(A+v)) (v'-v) (du'-du)):=by
  unfold Ac.cb
  rw [hcz,hout,u2,hs]
  exact bet22 w4 (by omega) w5 u4 (by omega) u5 (by omega)
 have hg:=ce_good hadd (by rw [hcz]) (by rw [hcb])
 have hxe:a.xe ⟨3,10957+D,2,B,0⟩=0:=by rw [Ac.xe_cnt hxz (by show¬(3:Int)=6;decide),hxv];exact hg.1
 have hch:=Ac.chg_yes hxe
 have hn:a.nx ⟨3,10957+D,2,B,0⟩=a.count ⟨3,10957+D,2,B,0⟩:=by unfold Ac.nx;rw [if_neg (by show¬(3:Int)=6;decide),hxv]
 have hiss:a.iss= [sm22 A v du]:=by rw [h.is,hout]
 rw [hch.1,hn,hg.2]
 refine⟨hxe,by rw [hch.2,if_neg (by show¬(3:Int)=4;decide)],v,du,v',du',hiss,hiss, ?_, ?_, ?_,by omega,by omega,by omega⟩
 ·show a.adj++(a.cb _).2=_
  rw [hadj,hcb]
  rfl
 ·show(a.cz _).1.out=_
  rw [hcz]
  exact u2
 ·show a.seq+1=3
  rw [hs]
  rfl
theorem live_iss{w0 W:World}{O:Nat→Prop}{B:Nat}{a:Ac}(h:Live w0 O W B a):Calls Tryz.prog 21 #[(.pointer (some ⟨B,0,none⟩))] W (OwnPost W a.iss):=by obtain⟨x,hx⟩:=h.is;exact accIssued_any B x a W hx.1
theorem live_adj{w0 W:World}{O:Nat→Prop}{B:Nat}{a:Ac}(h:Live w0 O W B a)(hs:a.seq≤100000):Calls Tryz.prog 26 #[(.pointer (some ⟨B,0,none⟩))] W (AdjPost W a.adj):=by obtain⟨x,hx⟩:=h.is;exact accAdjusts_any B x a W hx.1 hs
theorem live_ok{w0 W:World}{O:Nat→Prop}{B:Nat}{a:Ac}(h:Live w0 O W B a):AcOk a:=by obtain⟨x,hx⟩:=h.is;exact hx.1.ok
theorem Reads.keepF{S:Nat→Prop}{w w':World}{size:Nat}{x:Value}{m:Nat}{news:List Value}(h:Reads w size x m news)(hk:Keeps S w w')(hS:∀k,x.ownBlock=some k→k<w.heap.size→¬S k):Reads w' size x m news:=by
 obtain⟨ad,c,rfl,h1,h2,h3,h4⟩:=h
 refine⟨ad,c,rfl,h1,h2,h3,fun j u hj=> ?_⟩
 obtain⟨g,o,rfl,ha⟩:=h4 j u hj
 exact⟨g,o,rfl,by rw [hk.cell (Ag ha) (hS g rfl (Ag ha))];exact ha⟩
def YR(lo:Nat)(w:World)(size:Nat)(x:Value)(m:Nat)(news:List Value):Prop:=Reads w size x m news∧∀k,x.ownBlock=some k→lo≤k
theorem YR.keep{lo:Nat}{S:Nat→Prop}{w w':World}{size:Nat}{x:Value}{m:Nat}{news:List Value}(h:YR lo w size x m news)(hk:Keeps S w w')(hS:∀k,lo≤k→k<w.heap.size→¬S k):YR lo w' size x m news:=⟨h.1.keepF hk fun k hk l=>hS k (h.2 k hk) l,h.2⟩
structure YI(lo:Nat)(w:World)(v:Value)(P:List SV):Prop where
 row:YR lo w 9 v P.length (P.flatMap SV.cells)
 ln:∀x∈P,YR lo w 3 x.v x.s.lines.length (x.s.lines.flatMap Ln.cells)
theorem YI.keep{lo:Nat}{S:Nat→Prop}{w w':World}{v:Value}{P:List SV}(h:YI lo w v P)(hk:Keeps S w w')(hS:∀k,lo≤k→k<w.heap.size→¬S k):YI lo w' v P:=⟨h.row.keep hk hS,fun x hx=>(h.ln x hx).keep hk hS⟩
theorem YI.of{lo:Nat}{w W:World}{v:Value}{Q:List SV}(h:OwnP w W v Q)(hl:lo≤w.heap.size):YI lo W v Q:=⟨⟨Reads.Bh h.row,fun k hk=>Nat.le_trans hl (h.fr.2 k hk)⟩,fun x hx=>⟨Reads.Bh (h.ln x hx),fun k hk=>Nat.le_trans hl (h.lf x hx k hk)⟩⟩
def bkS(m g:Nat)(T2 T1:Int)(w:World):Prop:=w.cell? ⟨m,16,none⟩=some (.int .i64 T2)∧w.cell? ⟨g,5,none⟩=some (.int .i64 T1)
theorem bkS.keep{m g:Nat}{T2 T1:Int}{w w':World}(h:bkS m g T2 T1 w)(hk:Keeps (fun _=>False) w w'):bkS m g T2 T1 w':=⟨(hk.cell (Ag h.1) (by simp)).trans h.1,(hk.cell (Ag h.2) (by simp)).trans h.2⟩
def BkR(w:World)(X:Int)(s c:Value)(wr:World):Prop:=Keeps (fun _=>False) w wr∧((c= .int .i64 0∧s= .int .i64 0)∨(c= .int .i64 1∧s= .int .i64 0)∨(c= .int .i64 2∧s= .int .i64 X))
set_option maxHeartbeats 3200000
theorem accountBack_walk(w:World)(amount:Int)(_:(Lit.int .i64 amount).wf=true)(back:Int)(_:(Lit.int .i64 back).wf=true)(day:Int)(_:(Lit.int .i64 day).wf=true):Calls Tryz.prog 9 #[.int .i64 amount,.int .i64 back,.int .i64 day] w fun e w'=>e= .returned (.bool true)∧Below w.heap.size w w':=by
 have hu:∀x,0≤IntKind.u64.wrap x:=fun x=>by rw [IntKind.wrap_u64];omega
 obtain⟨a0,ha0⟩:∃r,(IntKind.u64.wrap amount).tmod 900=r:=⟨_,rfl⟩
 have a1:0≤a0:=by rw [←ha0];exact Int.tmod_nonneg _ (hu amount)
 have a2:a0<900:=by rw [←ha0];exact Int.tmod_lt_of_pos _ (by decide)
 obtain⟨b0,hb0⟩:∃r,(IntKind.u64.wrap back).tmod (100+a0)=r:=⟨_,rfl⟩
 have b1:0≤b0:=by rw [←hb0];exact Int.tmod_nonneg _ (hu back)
 have b2:b0<100+a0:=by rw [←hb0];exact Int.tmod_lt_of_pos _ (by omega)
 obtain⟨d0,hd0⟩:∃r,(IntKind.u64.wrap day).tmod 31=r:=⟨_,rfl⟩
 have d1:0≤d0:=by rw [←hd0];exact Int.tmod_nonneg _ (hu day)
 have d2:d0<31:=by rw [←hd0];exact Int.tmod_lt_of_pos _ (by decide)
 have hwr:IntKind.u64.wrap (100+a0)=100+a0:=by rw [IntKind.wrap_u64];omega
 have hne:(100+a0==0)=false:=beq_eq_false_iff_ne.2 (by omega)
 have hne2:¬100+a0=0:=by omega
 have hAm:1≤100+a0∧100+a0≤1000:=by omega
 have hBm:1≤1+b0∧1+b0≤100+a0:=by omega
 obtain⟨D,hD⟩:∃D:Nat,d0=(D:Int):=⟨d0.toNat,by omega⟩
 obtain⟨e1,e2,e3,e4,e5,e6⟩:=draw22 (tr:=2) (.inr rfl) hAm
 obtain⟨A,hA⟩:∃A,(acNew t22).chg ⟨1,0,2,100+a0,0⟩=A:=⟨_,rfl⟩
 rw [hA] at e3 e4 e5 e6
 obtain⟨te1,te2,_,_⟩:=e3.tick (.inr rfl) hAm (d:=40) (by omega) (by omega)
 rw [Nat.zero_add,show((40:Nat):Int)=40 from rfl] at te2
 rw [show((40:Nat):Int)=40 from rfl] at te1
 obtain⟨tc,htc⟩:∃z,A.tc 40=z:=⟨_,rfl⟩
 have hti:A.tick 40={ A with today:=A.today+40,s:=(A.tz 40).1,iss:=A.iss++(A.tz 40).1.out.drop A.s.out.length,seq:=A.seq+1 }:=by unfold Ac.tick;rw [if_pos te1]
 have te3:(A.tick 40).adj= []:=by rw [hti];exact e4
 have te4:(A.tick 40).seq=2:=by rw [hti];show A.seq+1=2;rw [e6];rfl
 obtain⟨r1,r2,v,u,v',u',r3,r4,r5,r6,r7,r8,r9,r10,r11⟩:=refund22 (D:=D) hAm hBm (by omega) te2 te3 te4
 rw [←hD] at r1 r2 r4 r5 r6 r7
 obtain⟨A2,hA2⟩:∃X,A.tick 40=X:=⟨_,rfl⟩
 rw [hA2] at te2 te3 te4 r1 r2 r3 r4 r5 r6 r7
 obtain⟨A3,hA3⟩:∃X,A2.chg ⟨3,10957+d0,2,1+b0,0⟩=X:=⟨_,rfl⟩
 rw [hA3] at r4 r5 r6 r7
 obtain⟨T1,hT1⟩:∃z,100+a0+v=z:=⟨_,rfl⟩
 obtain⟨T2,hT2⟩:∃z,100+a0-(1+b0)+v'=z:=⟨_,rfl⟩
 have s3:(sm22 (100+a0-(1+b0)) v' u').total=T2:=hT2
 have s1:(sm22 (100+a0) v u).total=T1:=hT1
 rw [hT1,hT2] at r5
 obtain⟨X,hX⟩:∃z,T2-T1=z:=⟨_,rfl⟩
 rw [hX] at r5
 have x1:IntKind.i64.wrap (T1+X)=T2:=by rw [show T1+X=T2 by omega];exact IntWalk.i64_in _ ⟨by omega,by omega⟩
 have x2:IntKind.i64.wrap (-(1+b0))= -(1+b0):=IntWalk.i64_in _ ⟨by omega,by omega⟩
 have x3:X≤ -(1+b0):=by omega
 have x4:IntKind.i64.wrap (0+X)=X:=by rw [Int.zero_add];exact IntWalk.i64_in _ ⟨by omega,by omega⟩
 have x5:IntKind.i64.wrap X=X:=IntWalk.i64_in _ ⟨by omega,by omega⟩
 have hri:A3.dz ⟨11,0,0,0,1⟩=0∧A3.dr ⟨11,0,0,0,1⟩=0∧A3.dc ⟨11,0,0,0,1⟩=0∧A3.ds ⟨11,0,0,0,1⟩=st00∧A3.dp ⟨11,0,0,0,1⟩=sm22 (100+a0-(1+b0)) v' u':=by
  refine⟨?_,rfl,rfl,rfl, ?_⟩
  ·show tellE A3.s.out 1=0
   rw [r6]
   rfl
  ·show tellP A3.s.out 1=_
   rw [r6]
   rfl
 obtain⟨qa1,qa2,qa3,qa4,qa5⟩:=hri
 clear r8 r9 r10 r11 hti hX hD
 obtain⟨Hu,HAm,HBm,E1,E2,E3,E4,E5,E6⟩:=hid9 hu hAm hBm e1 e2 e3 e4 e5 e6;clear e6 e5 e4 e3 e2 e1 hBm hAm hu;obtain⟨HA,Te1,Te2,Te3,Te4,Htc,R1,R2,R3⟩:=hid9 hA te1 te2 te3 te4 htc r1 r2 r3;clear r3 r2 r1 htc te4 te3 te2 te1 hA;obtain⟨R4,R5,R6,R7,HA2,HA3,S3,S1,HT1⟩:=hid9 r4 r5 r6 r7 hA2 hA3 s3 s1 hT1;clear hT1 s1 s3 hA3 hA2 r7 r6 r5 r4;obtain⟨HT2,Qa1,Qa2,Qa3,Qa4,Qa5,X3⟩:=hid7 hT2 qa1 qa2 qa3 qa4 qa5 x3;clear x3 qa5 qa4 qa3 qa2 qa1 hT2
 go_enter Tryz.func9,Tryz.ntmps9
 go_wp2_with fail
 refine(terms22_any _).mono ?_
 rintro e w1 ⟨g,rfl,hr1,hk1⟩
 obtain⟨Hr1,Hk1⟩:=hid2 hr1 hk1;clear hk1 hr1
 go_wp2_with fail
 refine(new22 (O:=fun _=>False) Hk1.out (by simp) Hr1.out).mono ?_
 rintro e w2 ⟨B,rfl,hL2,_⟩
 have HL2:=Lib.hid hL2;clear hL2
 go_wp2_with fail
 refine(awake22_any _).mono ?_
 rintro e w3 ⟨rfl,hk3⟩
 have hd1:=ask22_any (HL2.out.keep hk3) 1 2 (100+a0) (by decide) (by decide)
 rw [E1.out,E2.out,HA.out] at hd1
 clear hk3
 have Hd1:=Lib.hid hd1;clear hd1
 go_wp2_with fail
 refine Hd1.out.mono ?_
 rintro e w4 ⟨rfl,hL4,hk4⟩
 clear hk4
 have hd2:=live_tick hL4 ⟨8,40,0,0,0⟩ (by rw [E6.out];decide) rfl
 simp only at hd2
 rw [Te1.out,Htc.out,HA2.out] at hd2
 have Hd2:=Lib.hid hd2;clear hd2
 go_wp2_with fail
 refine Hd2.out.mono ?_
 rintro e w5 ⟨rfl,hL5,hk5⟩
 clear hk5 hL4
 have hiss:=live_iss hL5
 have hok5:=live_ok hL5
 obtain⟨HL5,Hiss,Hok5⟩:=hid3 hL5 hiss hok5;clear hok5 hiss hL5
 go_wp2_with fail
 refine Hiss.out.mono ?_
 rintro e w6 ⟨v1,Q1,rfl,hp1,hm1⟩
 have hk6:=hp1.fr.1
 have hL6:=HL5.out.more hk6 (fun k=>w5.heap.size≤k∧k<w6.heap.size) (fun k h=>h)
 rw [R3.out] at hm1
 obtain⟨⟨z1,y1,y2⟩,rfl⟩:∃x,Q1= [x]:=by
  cases Q1 with
  |nil=>cases hm1
  |cons x Q=>cases Q with
   |nil=>exact⟨x,rfl⟩
   |cons y Q=>simp at hm1
 obtain rfl:z1=sm22 (100+a0) v u:=by simpa using hm1
 have hi1:YI w5.heap.size w6 v1 [⟨sm22 (100+a0) v u,y1,y2⟩]:=YI.of hp1 (Nat.le_refl _)
 have hlt1:∀k,v1.ownBlock=some k→k<w6.heap.size:=fun k hk=>Bu hp1.row hk
 have hlt2:∀k,(SV.v ⟨sm22 (100+a0) v u,y1,y2⟩).ownBlock=some k→k<w6.heap.size:=fun k hk=>Bu (hp1.ln _ (by simp)) hk
 obtain⟨g1,c1,rfl,hgl⟩:=Cu hp1.row (by simp)
 have y5:w6.cell? ⟨g1,5,none⟩=some (.int .i64 T1):=by
  have:=Bi SV.Am hp1.row (k:=0) (x:=⟨sm22 (100+a0) v u,y1,y2⟩) rfl 5 (by decide)
  rw [←S1.out]
  exact this
 have hsm5:∀W,Keeps (fun _=>False) w6 W→W.cell? ⟨g1,5,none⟩=some (.int .i64 T1):=fun W hW=>(hW.cell (Ag y5) (by simp)).trans y5
 simp only [List.length_cons,List.length_nil,Nat.zero_add] at hi1 hlt1⊢
 have hd3:=Di hL6 ⟨3,10957+d0,2,1+b0,0⟩ (by rw [Te4.out];decide) (show(1:Int)≤3∧(3:Int)≤7 by decide)
 rw [R1.out,R2.out,HA3.out] at hd3
 simp only at hd3
 clear hp1 hk6
 obtain⟨HL6,Hi1,Hlt1,Hlt2,Y5,Hm1,Hd3,Hsm5,Hgl⟩:=hid9 hL6 hi1 hlt1 hlt2 y5 hm1 hd3 hsm5 hgl;clear hgl hsm5 hd3 hm1 y5 hlt2 hlt1 hi1 hL6
 go_wp2_with fail
 refine Hd3.out.mono ?_
 rintro e w7 ⟨rfl,hL7,hk7⟩
 have hS:∀k,w5.heap.size≤k→k<w6.heap.size→¬(w.heap.size≤k∧¬((fun _=>False) k∨(w5.heap.size≤k∧k<w6.heap.size))):=fun k h1 h2 e=>e.2 (.inr ⟨h1,h2⟩)
 have hi7:=Hi1.out.keep hk7 hS
 have hg5:w5.heap.size≤g1:=Hi1.out.row.2 g1 rfl
 have y57:=(hk7.cell (Ag Y5.out) (hS g1 hg5 Hgl.out)).trans Y5.out
 clear hS hk7 hg5
 obtain⟨Hi7,Y57⟩:=hid2 hi7 y57;clear y57 hi7
 obtain⟨w8,hw8⟩:∃W,W=((w7).alloc (.cells #[.int .i64 0,.int .i64 0,.int .i64 0,.int .i64 0,.int .i64 0,.slice none 0 0,.int .i64 0,.int .i64 0,.slice none 0 0,.slice none 0 0,.int .i64 0,.int .i64 0,.int .i64 0,.int .i64 0,.int .i64 0,.slice none 0 0,.int .i64 0,.int .i64 0,.int .i64 0,.bool false] 44)).setRow (w7).heap.size #[.int .i64 0,.int .i64 0,.int .i64 0,.int .i64 0,.int .i64 0,.slice none 0 0,.int .i64 0,.int .i64 0,.slice none 0 0,.slice none 0 0,.int .i64 0,.int .i64 0,.int .i64 0,.int .i64 0,.int .i64 0,.slice none 0 0,.int .i64 0,.int .i64 0,.int .i64 0,.bool false]:=⟨_,rfl⟩
 obtain⟨hL8,hb8,hk8⟩:=Live.box hL7 hw8
 obtain⟨m8,hm8⟩:∃b,b=(w7).heap.size:=⟨_,rfl⟩
 rw [←hm8] at hL8 hb8
 have h1w8:(#[.int .i64 0,.int .i64 0,.int .i64 0,.int .i64 0,.int .i64 0,.slice none 0 0,.int .i64 0,.int .i64 0,.slice none 0 0,.slice none 0 0,.int .i64 0,.int .i64 0,.int .i64 0,.int .i64 0,.int .i64 0,.slice none 0 0,.int .i64 0,.int .i64 0,.int .i64 0,.bool false]:Array Value).all (·.oneCell')=true:=(Br 0 0 0)
 obtain⟨HL8,Hb8,Hk8,H1w8⟩:=hid4 hL8 hb8 hk8 h1w8;clear h1w8 hk8 hb8 hL8
 go_wp2_with (refine wpList_store_row rfl 44 (.tmp 10) (.tmp 60) rfl (w7).heap.size #[.int .i64 0,.int .i64 0,.int .i64 0,.int .i64 0,.int .i64 0,.slice none 0 0,.int .i64 0,.int .i64 0,.slice none 0 0,.slice none 0 0,.int .i64 0,.int .i64 0,.int .i64 0,.int .i64 0,.int .i64 0,.slice none 0 0,.int .i64 0,.int .i64 0,.int .i64 0,.bool false] rfl rfl 44 #[.int .i64 0,.int .i64 0,.int .i64 0,.int .i64 0,.int .i64 0,.slice none 0 0,.int .i64 0,.int .i64 0,.slice none 0 0,.slice none 0 0,.int .i64 0,.int .i64 0,.int .i64 0,.int .i64 0,.int .i64 0,.slice none 0 0,.int .i64 0,.int .i64 0,.int .i64 0,.bool false] (heap_alloc_new w7 _) Ar rfl H1w8.out ?_;rw [←hw8,←hm8];clear hw8 hm8)
 have hi8:=Hi7.out.keep Hk8.out (by simp)
 have y58:=(Hk8.out.cell (Ag Y57.out) (by simp)).trans Y57.out
 have hiss2:=live_iss HL8.out
 have hok8:=live_ok HL8.out
 obtain⟨Hi8,Y58,Hiss2,Hok8⟩:=hid4 hi8 y58 hiss2 hok8;clear hok8 hiss2 y58 hi8
 go_wp2_with fail
 refine Hiss2.out.mono ?_
 rintro e w9 ⟨v2,Q2,rfl,hp2,hm2⟩
 have hk9:=hp2.fr.1
 rw [R4.out] at hm2
 have hlen2:Q2.length=1:=by have:=congrArg List.length hm2;simpa using this
 have hi2:YI w8.heap.size w9 v2 Q2:=YI.of hp2 (Nat.le_refl _)
 obtain⟨g2,c2,hv2,_⟩:=Cu (hp2.row) (by omega)
 rw [hlen2] at hv2
 subst hv2
 have hL9:=HL8.out.keep hk9
 have hadj:=live_adj hL9 (by rw [R7.out];decide)
 unfold AdjPost at hadj
 rw [R5.out] at hadj
 clear hp2 hlen2
 obtain⟨Hk9,Hm2,Hi2,HL9,Hadj⟩:=hid5 hk9 hm2 hi2 hL9 hadj;clear hadj hL9 hi2 hm2 hk9
 go_wp2_with fail
 refine Hadj.out.mono ?_
 rintro e w10 ⟨v3,rfl,r3,hf3⟩
 have hk10:=hf3.1
 obtain⟨g3,c3,rfl,_⟩:=Cu r3 (by show 0<2;decide)
 have j0:∀W,Keeps (fun _=>False) w10 W→W.cell? ⟨g3,0,none⟩=some (.int .i64 3)∧W.cell? ⟨g3,1,none⟩=some (.int .i64 1)∧W.cell? ⟨g3,2,none⟩=some (.int .i64 2)∧W.cell? ⟨g3,9,none⟩=some (.int .i64 3)∧W.cell? ⟨g3,10,none⟩=some (.int .i64 1)∧W.cell? ⟨g3,11,none⟩=some (.int .i64 0)∧W.cell? ⟨g3,14,none⟩=some (.int .i64 X)∧g3<W.heap.size:=by
  intro W hW
  have k0:w10.cell? ⟨g3,0,none⟩=some (.int .i64 3):=Bi Adj.Am r3 (k:=0) (x:=⟨3,1,2,X,v'-v,0,0,0,0⟩) rfl 0 (by decide)
  have k1:w10.cell? ⟨g3,1,none⟩=some (.int .i64 1):=Bi Adj.Am r3 (k:=0) (x:=⟨3,1,2,X,v'-v,0,0,0,0⟩) rfl 1 (by decide)
  have k2:w10.cell? ⟨g3,2,none⟩=some (.int .i64 2):=Bi Adj.Am r3 (k:=0) (x:=⟨3,1,2,X,v'-v,0,0,0,0⟩) rfl 2 (by decide)
  have k3:w10.cell? ⟨g3,9,none⟩=some (.int .i64 3):=Bi Adj.Am r3 (k:=1) (x:=⟨3,1,0,0,0,X,0,u'-u,0⟩) rfl 0 (by decide)
  have k4:w10.cell? ⟨g3,10,none⟩=some (.int .i64 1):=Bi Adj.Am r3 (k:=1) (x:=⟨3,1,0,0,0,X,0,u'-u,0⟩) rfl 1 (by decide)
  have k5:w10.cell? ⟨g3,11,none⟩=some (.int .i64 0):=Bi Adj.Am r3 (k:=1) (x:=⟨3,1,0,0,0,X,0,u'-u,0⟩) rfl 2 (by decide)
  have k6:w10.cell? ⟨g3,14,none⟩=some (.int .i64 X):=Bi Adj.Am r3 (k:=1) (x:=⟨3,1,0,0,0,X,0,u'-u,0⟩) rfl 5 (by decide)
  exact⟨(hW.cell (Ag k0) (by simp)).trans k0,(hW.cell (Ag k1) (by simp)).trans k1,(hW.cell (Ag k2) (by simp)).trans k2,(hW.cell (Ag k3) (by simp)).trans k3,(hW.cell (Ag k4) (by simp)).trans k4,(hW.cell (Ag k5) (by simp)).trans k5,(hW.cell (Ag k6) (by simp)).trans k6,Nat.lt_of_lt_of_le (Ag k0) hW.size⟩
 have hg3:w9.heap.size≤g3:=hf3.2 g3 rfl
 have hg8:w8.heap.size≤w9.heap.size:=Hk9.out.size
 have hgl3:g3<w10.heap.size:=Bu r3 rfl
 have hk810:=Hk9.out.nt hk10
 have hi2b:=Hi2.out.keep hk10 (by simp)
 have hi1b:=Hi8.out.keep hk810 (by simp)
 have y510:=(hk810.cell (Ag Y58.out) (by simp)).trans Y58.out
 have hb10:=Ad Hb8.out hk810 (by simp)
 have hL10:=HL8.out.more hk810 (fun k=>w8.heap.size≤k∧k<w10.heap.size) (fun k h=>h)
 have hd4:=live_do hL10 ⟨11,0,0,0,1⟩ (by rw [R7.out];decide)
 simp only at hd4
 unfold DoLive at hd4
 rw [Qa1.out,Qa2.out,Qa3.out,Qa4.out,Qa5.out,show A3.act ⟨11,0,0,0,1⟩=A3 from rfl] at hd4
 clear hk10 hf3 r3
 simp only [adjs22,List.length_cons,List.length_nil,Nat.zero_add]
 obtain⟨J0,Hg3,Hg8,Hgl3,Hk810,Hi2b,Hi1b,Y510,Hb10⟩:=hid9 j0 hg3 hg8 hgl3 hk810 hi2b hi1b y510 hb10;clear hb10 y510 hi1b hi2b hk810 hgl3 hg8 hg3 j0;obtain⟨HL10,Hd4⟩:=hid2 hL10 hd4;clear hd4 hL10
 go_wp2_with fail
 refine Hd4.out.mono ?_
 rintro e w11 ⟨v4,rfl,hans,hL11,hk11⟩
 obtain⟨k1,e1,k2,e2,k3,e3,k4,e4,hv4,_⟩:=hans
 have hv4':v4= .agg #[.int .i64 0,.int .i64 0,.int .i64 0,.int .i64 0,.int .i64 0,.slice k1 0 e1,.int .i64 0,.int .i64 0,.slice k2 0 e2,.slice k3 0 e3,.int .i64 0,.int .i64 1,.int .i64 10957,.int .i64 10987,.int .i64 11007,.slice k4 2 e4,.int .i64 T2,.int .i64 0,.int .i64 u',.bool true]:=by
  rw [hv4]
  show _=_
  simp only [st00,sm22,List.length_nil,List.length_cons,Nat.zero_add,HT2.out]
 subst hv4'
 clear hv4
 have hS:∀k,((w5.heap.size≤k∧k<w6.heap.size)∨k=m8∨(w8.heap.size≤k∧k<w10.heap.size))→¬(w.heap.size≤k∧¬((((fun _=>False) k∨(w5.heap.size≤k∧k<w6.heap.size))∨k=m8)∨(w8.heap.size≤k∧k<w10.heap.size))):=fun k h e=>e.2 (h.elim (fun h=> .inl (.inl (.inr h))) fun h=>h.elim (fun h=> .inl (.inr h)) .inr)
 have hrw5:=Hi1b.out.row.2 g1 rfl
 have y511:=(hk11.cell (Ag Y510.out) (hS g1 (.inl ⟨hrw5,Hgl.out⟩))).trans Y510.out
 have hb11:=Ad Hb10.out hk11 (hS m8 (.inr (.inl rfl)))
 have hpg1:Pages19 w11 (.slice (some ⟨g1,0,none⟩) 1 c1) [⟨sm22 (100+a0) v u,y1,y2⟩]:=by
  refine⟨Hi1b.out.row.1.keepF hk11 (fun k hk _=>hS k (.inl ⟨Hi1b.out.row.2 k hk,Hlt1.out k hk⟩)),fun x hx=>(Hi1b.out.ln x hx).1.keepF hk11 (fun k hk _=>hS k (.inl ⟨(Hi1b.out.ln x hx).2 k hk, ?_⟩)),fun x hx=> ?_,by simp⟩
  ·rw [List.mem_singleton.1 hx] at hk
   exact Hlt2.out k hk
  ·rw [List.mem_singleton.1 hx]
   show 2≤1000
   decide
 have hpg2:Pages19 w11 (.slice (some ⟨g2,0,none⟩) 1 c2) Q2:=by
  refine⟨Hi2b.out.row.1.keepF hk11 (fun k hk hl=>hS k (.inr (.inr ⟨Hi2b.out.row.2 k hk,hl⟩))),fun x hx=>(Hi2b.out.ln x hx).1.keepF hk11 (fun k hk hl=>hS k (.inr (.inr ⟨(Hi2b.out.ln x hx).2 k hk,hl⟩))),fun x hx=> ?_, ?_⟩
  ·have h1:x.s∈ [sm22 (100+a0) v u]:=by rw [←Hm2.out];exact List.mem_map_of_mem hx
   rw [List.mem_singleton.1 h1]
   show 2≤1000
   decide
  ·have:=congrArg List.length Hm2.out
   rw [List.length_map] at this
   rw [this]
   show 1≤1000000
   decide
 have j11:∀W,Keeps (fun _=>False) w11 W→W.cell? ⟨g3,0,none⟩=some (.int .i64 3)∧W.cell? ⟨g3,1,none⟩=some (.int .i64 1)∧W.cell? ⟨g3,2,none⟩=some (.int .i64 2)∧W.cell? ⟨g3,9,none⟩=some (.int .i64 3)∧W.cell? ⟨g3,10,none⟩=some (.int .i64 1)∧W.cell? ⟨g3,11,none⟩=some (.int .i64 0)∧W.cell? ⟨g3,14,none⟩=some (.int .i64 X)∧g3<W.heap.size:=by
  intro W hW
  obtain⟨k0,k1,k2,k3,k4,k5,k6,_⟩:=J0.out w10 (Keeps.refl _ _)
  have h3:=hS g3 (.inr (.inr ⟨Nat.le_trans Hg8.out Hg3.out,Hgl3.out⟩))
  have q:∀j v,w10.cell? ⟨g3,j,none⟩=some v→W.cell? ⟨g3,j,none⟩=some v:=fun j v h=>(hW.cell (Nat.lt_of_lt_of_le (Ag h) hk11.size) (by simp)).trans ((hk11.cell (Ag h) h3).trans h)
  exact⟨q _ _ k0,q _ _ k1,q _ _ k2,q _ _ k3,q _ _ k4,q _ _ k5,q _ _ k6,Nat.lt_of_lt_of_le (Nat.lt_of_lt_of_le (Ag k0) hk11.size) hW.size⟩
 clear hS hrw5 hk11
 obtain⟨Y511,Hb11,Hpg1,Hpg2,J11⟩:=hid5 y511 hb11 hpg1 hpg2 j11;clear j11 hpg2 hpg1 hb11 y511
 obtain⟨w12,hw12⟩:∃W,W=((w11).alloc (.cells #[.int .i64 0,.int .i64 0,.int .i64 0,.int .i64 0,.int .i64 0,.slice none 0 0,.int .i64 0,.int .i64 0,.slice none 0 0,.slice none 0 0,.int .i64 0,.int .i64 0,.int .i64 0,.int .i64 0,.int .i64 0,.slice none 0 0,.int .i64 0,.int .i64 0,.int .i64 0,.bool false] 44)).setRow (w11).heap.size #[.int .i64 0,.int .i64 0,.int .i64 0,.int .i64 0,.int .i64 0,.slice k1 0 e1,.int .i64 0,.int .i64 0,.slice k2 0 e2,.slice k3 0 e3,.int .i64 0,.int .i64 1,.int .i64 10957,.int .i64 10987,.int .i64 11007,.slice k4 2 e4,.int .i64 T2,.int .i64 0,.int .i64 u',.bool true]:=⟨_,rfl⟩
 obtain⟨hL12,hb12,hk12⟩:=Live.box hL11 hw12
 obtain⟨m12,hm12⟩:∃b,b=(w11).heap.size:=⟨_,rfl⟩
 rw [←hm12] at hL12 hb12
 have h1w12:(#[.int .i64 0,.int .i64 0,.int .i64 0,.int .i64 0,.int .i64 0,.slice k1 0 e1,.int .i64 0,.int .i64 0,.slice k2 0 e2,.slice k3 0 e3,.int .i64 0,.int .i64 1,.int .i64 10957,.int .i64 10987,.int .i64 11007,.slice k4 2 e4,.int .i64 T2,.int .i64 0,.int .i64 u',.bool true]:Array Value).all (·.oneCell')=true:=(one_ansL 0 0 0 0 0 0 0 0 1 10957 10987 11007 T2 0 u' k1 k2 k3 k4 0 e1 0 e2 0 e3 2 e4 true)
 obtain⟨HL12,Hb12,Hk12,H1w12⟩:=hid4 hL12 hb12 hk12 h1w12;clear h1w12 hk12 hb12 hL12
 go_upto_region 14 with(refine wpList_store_row rfl 44 (.tmp 13) (.tmp 67) rfl (w11).heap.size #[.int .i64 0,.int .i64 0,.int .i64 0,.int .i64 0,.int .i64 0,.slice k1 0 e1,.int .i64 0,.int .i64 0,.slice k2 0 e2,.slice k3 0 e3,.int .i64 0,.int .i64 1,.int .i64 10957,.int .i64 10987,.int .i64 11007,.slice k4 2 e4,.int .i64 T2,.int .i64 0,.int .i64 u',.bool true] rfl rfl 44 #[.int .i64 0,.int .i64 0,.int .i64 0,.int .i64 0,.int .i64 0,.slice none 0 0,.int .i64 0,.int .i64 0,.slice none 0 0,.slice none 0 0,.int .i64 0,.int .i64 0,.int .i64 0,.int .i64 0,.int .i64 0,.slice none 0 0,.int .i64 0,.int .i64 0,.int .i64 0,.bool false] (heap_alloc_new w11 _) Ar rfl H1w12.out ?_;rw [←hw12,←hm12];clear hw12 hm12)
 have b0:=Aa (Ad Hb11.out Hk12.out (by simp)) 0
 have bl:=Ag b0
 have hsm:=sameStmL_any [⟨sm22 (100+a0) v u,y1,y2⟩] Q2 _ _ w12 (Hpg1.out.keeps Hk12.out) (Hpg2.out.keeps Hk12.out) (by rw [Hm2.out];rfl)
 have Hsm:=Lib.hid hsm;clear hsm
 go_wp2_with fail
 refine Hsm.out.mono ?_
 rintro e w13 ⟨rfl,hk13⟩
 clear b0 bl
 have hb13:=Ad Hb12.out hk13 (by simp)
 have b0:=Aa hb13 0
 have bl:=lt_of_block hb13
 have hk1113:=Hk12.out.nt hk13
 have hkf:=HL12.out.kp.nt hk13
 have hbk:bkS m12 g1 T2 T1 w13:=⟨Aa hb13 16,(hk1113.cell (Ag Y511.out) (by simp)).trans Y511.out⟩
 clear hb13 hk13
 obtain⟨Hk1113,Hkf,Hbk⟩:=hid3 hk1113 hkf hbk;clear hbk hkf hk1113
 go_wp2_with fail
 clear b0 bl
 go_loopw [14,15] (fun s c wr=>BkR w13 X s c wr) (fun _ c _=>2-(intOf c).toNat)
 case atStart=>exact⟨Keeps.refl _ _,.inl ⟨rfl,rfl⟩⟩
 case round=>
  obtain⟨hkr,hc⟩:=hrel
  obtain⟨j0,j1,j2,j3,j4,j5,j6,jl⟩:=J11.out wr (Hk1113.out.nt hkr)
  have Hkr:=Lib.hid hkr;clear hkr
  rcases hc with⟨rfl,rfl⟩|⟨rfl,rfl⟩|⟨rfl,rfl⟩
  ·go_wp2
   go_roundw
   case rel=>exact⟨Hkr.out,.inr (.inl ⟨rfl,rfl⟩)⟩
   case measure=>simp [intOf]
  ·go_wp2
   go_roundw
   case rel=>exact⟨Hkr.out,.inr (.inr ⟨rfl,rfl⟩)⟩
   case measure=>simp [intOf]
  ·have hS:bkS m12 g1 T2 T1 wr:=Hbk.out.keep Hkr.out
   have x3:=X3.out
   clear j0 j1 j2 j3 j4 j5 j6 jl
   have HS:=Lib.hid hS;clear hS
   go_upto_region 24 with fail
   refine Ao (bkS m12 g1 T2 T1) (.take 0 (.take 1 (.take 2 (.take 3 (.take 4 (.take 5 (.take 6 (.take 7 (.take 8 (.take 9 (.take 10 (.take 11 (.take 12 (.take 13 (.take 14 (.take 15 (.take 16 .done))))))))))))))))) (by kernel_rfl) (by kernel_rfl) ?_ ?_
   ·exact jZ97
   intro wq hsw hkq
   repeat ((first|refine Ai rfl (by rfl) ?_|refine Af rfl (by rfl) ?_|(refine Ah (v:= ?_) rfl (by rfl) ?_ ?_;rotate_left;(· intro w' hSw;unfold bkS at hSw;go_simp;(try with_reducible rfl));rotate_right));try simp only [aps])
   refine Aw ?_
   have hkz:=(Hkf.out.nt Hkr.out).nt hkq
   clear hsw hkq
   have Hkz:=Lib.hid hkz;clear hkz
   go_wp2
   go_ret
   exact⟨rfl,Hkz.out.below (by simp) (Nat.le_refl _)⟩
end Go.Proofs.YthffbjldpfionaaGreat
namespace Go.Proofs.YthffbjldpfionaaGreat.accountBack
open Go.ChangeShapes Go.WideShapes Go.ChangeAt Go.RowKit Go.Deep
set_option maxRecDepth 100000
theorem lifted(os:Os)(started:os.Started)(H:Type)(enc:TypeId×Value→H):
  ReturnsInHanded {} Tryz.checked os 9 .any (Rows.accountBackSpec.pre6 enc Tryz.prog Tryz.f9 Rows.accountBackRow.domain false) (Rows.accountBackSpec.post enc Tryz.prog Tryz.f9 false true false false):=by
 refine returnsInHanded_of_change (C:=Tryz.checked) own started (by kernel_rfl) Tryz.func9
  (ChangeSpec.witness6 (enc:=enc) (C:=Tryz.checked) false ⟨#[], #[.int .i64 0,.int .i64 0,.int .i64 0], []⟩ 8 (by kernel_rfl) (by kernel_rfl) (by kernel_rfl) (by kernel_rfl)) ?_
 intro W base args ds gs before hval0 hW hcnd _
 have hval:∀(j:Nat) t v,Tryz.f9.params[j]?=some t→args[j]?=some v→Value.okWide Tryz.prog W .any base t v:=hval0
 have hW':=hW
 obtain⟨p,q,hA0,hV,rfl,hfz,hnd⟩:=hW
 have hA:DataW.TrodAll enc Tryz.prog W 0 (fun _=>true) true Tryz.f9.params.toList args.toList ds p:=hA0
 rw [Tryz.params9] at hA hval
 obtain⟨v0,vs0,d0,ds0,p0,q0,hargs,rfl,rfl,h0,r0⟩:=trodAll_cons hA
 obtain⟨v1,vs1,d1,ds1,p1,q1,rfl,rfl,rfl,h1,r1⟩:=trodAll_cons r0
 obtain⟨v2,vs2,d2,ds2,p2,q2,rfl,rfl,rfl,h2,r2⟩:=trodAll_cons r1
 obtain⟨rfl,rfl,rfl⟩:=trodAll_nil r2
 obtain rfl:args= #[v0,v1,v2]:=by cases args;simp_all
 obtain⟨rfl,rfl⟩:=trodVars_none hV
 obtain⟨a0,rfl,rfl,rfl,w0⟩:=open_int Tryz.underlying2 (hval 0 2 v0 rfl rfl) h0
 obtain⟨a1,rfl,rfl,rfl,w1⟩:=open_int Tryz.underlying2 (hval 1 2 v1 rfl rfl) h1
 obtain⟨a2,rfl,rfl,rfl,w2⟩:=open_int Tryz.underlying3 (hval 2 3 v2 rfl rfl) h2
 clear hA0 hval0
 refine(accountBack_walk W a0 w0 a1 w1 a2 w2).mono fun e W' ⟨he,bel⟩=> ?_
 subst he
 exact⟨_,rfl,_,_,_, [],_, [],hW',trodAll_mk1 (shut_bool Tryz.underlying4 _),(trodAll_cons_mk (shut_int Tryz.underlying2 w0) (trodAll_cons_mk (shut_int Tryz.underlying2 w1) (trodAll_cons_mk (shut_int Tryz.underlying3 w2) trodAll_mk0))),rfl,bel.frame _,fun h=>by cases h⟩
theorem over:Rows.accountBackRow.holds Tryz.pinned (OpenSpec.ofChange Rows.accountBackSpec):=
 OpenClaim.holds_of_wide 9 Tryz.f9 rfl rfl rfl rfl rfl rfl rfl ⟨rfl,rfl,rfl,rfl,rfl⟩ rfl rfl rfl rfl rfl (by kernel_rfl) Tryz.func9 (by kernel_rfl)
  (of_decide_eq_true (by kernel_rfl)) (by unfold Func.isWrapper;first|(rw [if_pos (by decide+kernel)];kernel_rfl)|(rw [if_neg (by decide+kernel)];exact⟨rfl,rfl⟩))
  (fun os started H enc _=>lifted os started H enc)
theorem proved:Rows.AccountBackSaid:=over
#print axioms proved
end Go.Proofs.YthffbjldpfionaaGreat.accountBack
