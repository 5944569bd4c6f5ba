/- Part 7 of the proof of ReplayApplies: walks and plain laws. -/
import Derived.Test.YthcmpcekmkioaaaGreatReplayAppliesQ6
namespace Go.Proofs.YthcmpcekmkioaaaGreat
open Go.RowKit
set_option maxRecDepth 100000
set_option maxHeartbeats 6400000
theorem runClose_nil{w0:World}{X:Fx}{B:Nat}{t:Tm}{n:Nat}{vt:Value}{L:List Ev}{f0 f1:Value}{s:St}{vl vb vr:Value}{g0 g1:Nat}{S0 S1:List SI}{vo:Value}{P:List SV}{W:World}(h:RunV w0 X B t n vt L f0 f1 .nilFunc s vl vb vr g0 g1 S0 S1 vo P W)
  (hz:t.err=0) (hn:t.trs.length=n) (hl:L.length≤1000000) (hok:∀x∈L,x.kind=2→0≤x.amount∧x.amount≤1000000000000000) (hpr:s.p.rightB=true) (hrt:∀x∈s.R,0≤x∧x≤10000000)
  (he0:∀r∈s.e0,∀y∈r,0≤y∧y≤1000000000000000) (he1:∀r∈s.e1,∀y∈r,0≤y∧y≤10000000) (hlen:∀(k:Nat) (a b:List Int),s.e0[k]?=some a→s.e1[k]?=some b→a.length=b.length∧a.length≤40000)
  (hcy:s.out.length+1≤300) (fr te:Int) (hsp: -135140≤fr∧fr≤te∧te≤2932896) (C:Option St) (hC:closeS t L n s fr te=C):
  Calls Tryz.prog 68 #[(.pointer (some ⟨B,0,none⟩)), .agg #[.int .i64 fr, .int .i64 te]] W fun e W'=>match C with
   |none=>e= .returned (.int .i64 5)∧RunV w0 X B t n vt L f0 f1 .nilFunc s vl vb vr g0 g1 S0 S1 vo P W'
   |some s'=>e= .returned (.int .i64 0)∧∃vb' g0' g1' vo' P',RunV w0 X B t n vt L f0 f1 .nilFunc s' vl vb' vr g0' g1' (List.replicate n si0) (List.replicate n si0) vo' P' W':=by
 obtain⟨i0,hi,hi0,hi1,hi2⟩:=info_parts info_tStm
 have hnum:=tm_nums hz
 rw [hn] at hnum
 obtain⟨⟨l0,l1⟩,_⟩:=hnum
 obtain⟨adT,cT,rfl⟩:∃a c,vt= .slice a n c:=by obtain⟨a,c,h,_⟩:=h.trs;exact⟨a,c,h⟩
 obtain⟨ab,cb,rfl⟩:∃a c,vb= .slice a n c:=by obtain⟨a,c,h,_⟩:=ownsRow_shape h.bal;exact⟨a,c,h⟩
 obtain⟨ar,cr,rfl⟩:∃a c,vr= .slice a n c:=by obtain⟨a,c,h,_⟩:=ownsRow_shape h.rts;exact⟨a,c,h⟩
 obtain⟨m,hmm⟩:∃m,P.length=m:=⟨_,rfl⟩
 obtain⟨av,cv,rfl⟩:∃a c,vo= .slice a m c:=by obtain⟨a,c,h,_⟩:=ownsRow_shape h.out;rw [hmm] at h;exact⟨a,c,h⟩
 have hpo:s.out.length=m:=by rw [←h.lp,List.length_map];exact hmm
 have hm1:m+1≤300:=by rw [←hpo];exact hcy
 obtain⟨fb,hfb⟩:∃fb,freeB s.out fr L=fb:=⟨_,rfl⟩
 have hfree:=fun(W':World) (hW:Keeps (fun _=>False) W W')=>runFree_any (h.keep0 hW) hl (by omega) hok fr te
 rw [hfb] at hfree
 obtain⟨O,hO⟩:∃O,intrO fb t.trs s.e0 s.e1=O:=⟨_,rfl⟩
 have hint:=fun(W':World) (hW:Keeps (fun _=>False) W W')=>cloInterest_any t (.slice adT n cT) S0 S1 (some ⟨g0,0,none⟩) (some ⟨g1,0,none⟩) n n n fb W' hz hn (h.keep0 hW).trs (si_reads (h.keep0 hW).o0 h.n0) h.n0
  (fun x hx=>⟨Reads.of_owns ((h.keep0 hW).i0 x hx),by
   obtain⟨k,hk⟩:=List.getElem?_of_mem hx
   obtain⟨y,hy⟩:=get_some (L:=S1) (k:=k) (by rw [h.n1,←h.n0];exact lt_of_get hk)
   have:=hlen k x.L y.L (by rw [←h.l0,List.getElem?_map,hk];rfl) (by rw [←h.l1,List.getElem?_map,hy];rfl)
   unfold maxLen;omega⟩)
  (si_reads (h.keep0 hW).o1 h.n1) h.n1
  (fun y hy=>⟨Reads.of_owns ((h.keep0 hW).i1 y hy),by
   obtain⟨k,hk⟩:=List.getElem?_of_mem hy
   obtain⟨x,hx⟩:=get_some (L:=S0) (k:=k) (by rw [h.n0,←h.n1];exact lt_of_get hk)
   have:=hlen k x.L y.L (by rw [←h.l0,List.getElem?_map,hx];rfl) (by rw [←h.l1,List.getElem?_map,hk];rfl)
   unfold maxLen;omega⟩)
  (fun k x y hx hy=>hlen k x.L y.L (by rw [←h.l0,List.getElem?_map,hx];rfl) (by rw [←h.l1,List.getElem?_map,hy];rfl))
  (fun x hx=>he0 x.L (by rw [←h.l0];exact List.mem_map_of_mem hx)) (fun x hx=>he1 x.L (by rw [←h.l1];exact List.mem_map_of_mem hx))
 rw [h.l0,h.l1,hO] at hint
 unfold closeS at hC
 rw [hfb,hO] at hC
 have ka:Keeps (fun _=>False) W (W.alloc (.cells #[.int .i64 fr, .int .i64 te] 77)):=Keeps.alloc _ _
 have hA:=h.keep0 ka
 have hb3:=heap_alloc_new W (.cells #[.int .i64 fr, .int .i64 te] 77)
 have s0:=cell_of_cells hb3 0
 have s1:=cell_of_cells hb3 1
 have b16:=cell_of_cells h.blk 16
 rcases O with _|V
 ·simp only at hC
  subst hC
  obtain⟨Hi,Hi0,Hi1,Hi2,H,Hz,Hn,Hok,Hpr⟩:=hid9 hi hi0 hi1 hi2 h hz hn hok hpr;clear hpr hok hn hz h hi2 hi1 hi0 hi;obtain⟨Hrt,He0,He1,Hlen,Hmm,Hpo,Hfb,Hfree,HO⟩:=hid9 hrt he0 he1 hlen hmm hpo hfb hfree hO;clear hO hfree hfb hpo hmm hlen he1 he0 hrt;obtain⟨Hint,Ka,HA,Hb3⟩:=hid4 hint ka hA hb3;clear hb3 hA ka hint
  clear s0 s1 b16
  go_enter Tryz.func68,Tryz.ntmps68
  go_wp2_with fail
  refine(Hfree.out _ Ka.out).mono ?_
  rintro e w2 ⟨rfl,hk2⟩
  have hk2w:=Ka.out.nt hk2
  have hr2:=H.out.keep0 hk2w
  have hS4:=(show c4S B t.limit (.slice adT n cT) t.cyc t.due t.minFixed t.minPart t.start (.slice (some ⟨g0,0,none⟩) n n) (.slice (some ⟨g1,0,none⟩) n n) w2 from⟨cell_of_cells hr2.blk 0,cell_of_cells hr2.blk 1,cell_of_cells hr2.blk 2,cell_of_cells hr2.blk 3,cell_of_cells hr2.blk 4,cell_of_cells hr2.blk 5,cell_of_cells hr2.blk 6,cell_of_cells hr2.blk 14,cell_of_cells hr2.blk 15⟩).keep (Keeps.drew _)
  obtain⟨Hk2,Hk2w,Hr2,HS4⟩:=hid4 hk2 hk2w hr2 hS4;clear hS4 hr2 hk2w hk2
  go_wp2_with fail
  refine wp_region_mixw (c4S B t.limit (.slice adT n cT) t.cyc t.due t.minFixed t.minPart t.start (.slice (some ⟨g0,0,none⟩) n n) (.slice (some ⟨g1,0,none⟩) n n)) (.take 0 (.take 1 (.take 2 (.take 3 (.take 4 (.take 5 (.take 6 (.take 7 (.take 8 (.take 9 (.take 10 (.take 11 (.take 12 (.take 13 (.take 14 (.move 15 (.take 16 (.take 17 (.take 18 (.take 19 (.take 20 .done))))))))))))))))))))) (by kernel_rfl) (by kernel_rfl) ?_ ?_
  ·exact HS4.out
  intro w3 hs3 hk3
  repeat (first
   |(refine mix_skip rfl (by rfl) ?_;try simp only [Act.put,List.setIfInBounds_toArray,List.set_cons_zero,List.set_cons_succ])
   |(refine mix_skipm rfl (by rfl) ?_;try simp only [Act.put,List.setIfInBounds_toArray,List.set_cons_zero,List.set_cons_succ])
   |(refine mix_take (v:= ?_) rfl (by rfl) ?_ ?_;rotate_left;(· intro w' hSw;unfold c4S at hSw;go_simp;(try with_reducible rfl));rotate_right;try simp only [Act.put,List.setIfInBounds_toArray,List.set_cons_zero,List.set_cons_succ]))
  refine mix_move rfl (fun K hK=> ?_)
  go_simp
  go_at_call 102
  ((with_reducible refine(Hint.out _ (Hk2w.out.nt hk3)).mono ?_);rintro e w4 ⟨rfl,hk4⟩;dsimp only)
  refine hK.out _ _ (by exact hs3.keep hk4) ?_
  clear hK K
  try simp only [Act.put,List.setIfInBounds_toArray,List.set_cons_zero,List.set_cons_succ]
  repeat (first
   |(refine mix_skip rfl (by rfl) ?_;try simp only [Act.put,List.setIfInBounds_toArray,List.set_cons_zero,List.set_cons_succ])
   |(refine mix_skipm rfl (by rfl) ?_;try simp only [Act.put,List.setIfInBounds_toArray,List.set_cons_zero,List.set_cons_succ])
   |(refine mix_take (v:= ?_) rfl (by rfl) ?_ ?_;rotate_left;(· intro w' hSw;unfold c4S at hSw;go_simp;(try with_reducible rfl));rotate_right;try simp only [Act.put,List.setIfInBounds_toArray,List.set_cons_zero,List.set_cons_succ]))
  refine mix_done ?_
  have hr4:=(Hr2.out.keep0 hk3).keep0 hk4
  clear hs3
  obtain⟨Hr4,Hk3,Hk4⟩:=hid3 hr4 hk3 hk4;clear hk4 hk3 hr4
  go_wp2
  go_ret
  exact⟨rfl,Hr4.out⟩
 ·simp only at hC
  obtain⟨hVl,hVb⟩:=intrO_ok hn (by rw [←h.l0,List.length_map];exact h.n0) (by rw [←h.l1,List.length_map];exact h.n1) he0 he1 hO
  rw [hpo] at hC
  obtain⟨D,hD⟩:∃D,closeR t ((m:Int)+1) fr te s.p s.R V fb=D:=⟨_,rfl⟩
  rw [hD] at hC
  obtain⟨⟨x,q,z⟩,hcv⟩:∃c,cloVal D=c:=⟨_,rfl⟩
  obtain⟨Hi,Hi0,Hi1,Hi2,H,Hz,Hn,Hok,Hpr⟩:=hid9 hi hi0 hi1 hi2 h hz hn hok hpr;clear hpr hok hn hz h hi2 hi1 hi0 hi;obtain⟨Hrt,He0,He1,Hlen,Hmm,Hpo,Hfb,Hfree,HO⟩:=hid9 hrt he0 he1 hlen hmm hpo hfb hfree hO;clear hO hfree hfb hpo hmm hlen he1 he0 hrt;obtain⟨Hint,Ka,HA,Hb3,HVl,HVb,HD,Hcv,HC⟩:=hid9 hint ka hA hb3 hVl hVb hD hcv hC;clear hC hcv hD hVb hVl hb3 hA ka hint
  clear s0 s1 b16
  go_enter Tryz.func68,Tryz.ntmps68
  go_wp2_with fail
  refine(Hfree.out _ Ka.out).mono ?_
  rintro e w2 ⟨rfl,hk2⟩
  have hk2w:=Ka.out.nt hk2
  have hr2:=H.out.keep0 hk2w
  have hb32:=box_old Hb3.out hk2 (by simp)
  have hS4:=(show c4S B t.limit (.slice adT n cT) t.cyc t.due t.minFixed t.minPart t.start (.slice (some ⟨g0,0,none⟩) n n) (.slice (some ⟨g1,0,none⟩) n n) w2 from⟨cell_of_cells hr2.blk 0,cell_of_cells hr2.blk 1,cell_of_cells hr2.blk 2,cell_of_cells hr2.blk 3,cell_of_cells hr2.blk 4,cell_of_cells hr2.blk 5,cell_of_cells hr2.blk 6,cell_of_cells hr2.blk 14,cell_of_cells hr2.blk 15⟩).keep (Keeps.drew _)
  obtain⟨Hk2,Hk2w,Hr2,HS4,Hb32⟩:=hid5 hk2 hk2w hr2 hS4 hb32;clear hb32 hS4 hr2 hk2w hk2
  go_wp2_with fail
  refine wp_region_mixw (c4S B t.limit (.slice adT n cT) t.cyc t.due t.minFixed t.minPart t.start (.slice (some ⟨g0,0,none⟩) n n) (.slice (some ⟨g1,0,none⟩) n n)) (.take 0 (.take 1 (.take 2 (.take 3 (.take 4 (.take 5 (.take 6 (.take 7 (.take 8 (.take 9 (.take 10 (.take 11 (.take 12 (.take 13 (.take 14 (.move 15 (.take 16 (.take 17 (.take 18 (.take 19 (.take 20 .done))))))))))))))))))))) (by kernel_rfl) (by kernel_rfl) ?_ ?_
  ·exact HS4.out
  intro w3 hs3 hk3
  repeat (first
   |(refine mix_skip rfl (by rfl) ?_;try simp only [Act.put,List.setIfInBounds_toArray,List.set_cons_zero,List.set_cons_succ])
   |(refine mix_skipm rfl (by rfl) ?_;try simp only [Act.put,List.setIfInBounds_toArray,List.set_cons_zero,List.set_cons_succ])
   |(refine mix_take (v:= ?_) rfl (by rfl) ?_ ?_;rotate_left;(· intro w' hSw;unfold c4S at hSw;go_simp;(try with_reducible rfl));rotate_right;try simp only [Act.put,List.setIfInBounds_toArray,List.set_cons_zero,List.set_cons_succ]))
  refine mix_move rfl (fun K hK=> ?_)
  go_simp
  go_at_call 102
  ((with_reducible refine(Hint.out _ (Hk2w.out.nt hk3)).mono ?_);rintro e w4 ⟨gV,rfl,hrV,hk4,hgV⟩;dsimp only)
  refine hK.out _ _ (by exact hs3.keep hk4) ?_
  clear hK K
  try simp only [Act.put,List.setIfInBounds_toArray,List.set_cons_zero,List.set_cons_succ]
  repeat (first
   |(refine mix_skip rfl (by rfl) ?_;try simp only [Act.put,List.setIfInBounds_toArray,List.set_cons_zero,List.set_cons_succ])
   |(refine mix_skipm rfl (by rfl) ?_;try simp only [Act.put,List.setIfInBounds_toArray,List.set_cons_zero,List.set_cons_succ])
   |(refine mix_take (v:= ?_) rfl (by rfl) ?_ ?_;rotate_left;(· intro w' hSw;unfold c4S at hSw;go_simp;(try with_reducible rfl));rotate_right;try simp only [Act.put,List.setIfInBounds_toArray,List.set_cons_zero,List.set_cons_succ]))
  refine mix_done ?_
  have hk4w:=(Hk2w.out.nt hk3).nt hk4
  have hr4:=H.out.keep0 hk4w
  have hb34:=box_old (box_old Hb32.out hk3 (by simp)) hk4 (by simp)
  have hS7:=(show c7S B W.heap.size t.limit (.slice adT n cT) t.cyc t.due t.minFixed t.minPart t.start (.slice av m cv) (.slice ab n cb) s.p.cr s.p.du (.slice ar n cr) fr te w4 from⟨cell_of_cells hr4.blk 0,cell_of_cells hr4.blk 1,cell_of_cells hr4.blk 2,cell_of_cells hr4.blk 3,cell_of_cells hr4.blk 4,cell_of_cells hr4.blk 5,cell_of_cells hr4.blk 6,cell_of_cells hr4.blk 16,cell_of_cells hr4.blk 10,cell_of_cells hr4.blk 11,cell_of_cells hr4.blk 12,cell_of_cells hr4.blk 13,cell_of_cells hb34 0,cell_of_cells hb34 1⟩).keep (Keeps.drew _)
  have hclo:=fun(W':World) (hW:Keeps (fun _=>False) w4 W')=>cloClose_any t (.slice adT n cT) ((m:Int)+1) fr te s.p.bal V s.R s.p.cr s.p.du ab (some ⟨gV,0,none⟩) ar cb n cr n fb W' Hz.out Hn.out (hr4.keep0 hW).trs (by omega) hsp (Reads.of_owns (hr4.keep0 hW).bal) H.out.nb (hrV.keep hW).reads HVl.out (Reads.of_owns (hr4.keep0 hW).rts) H.out.nr Hpr.out (List.all_eq_true.2 fun y hy=>(moneyP_iff y).2 (HVb.out y hy)) Hrt.out
  rw [HD.out] at hclo
  have hq1:IntKind.i64.wrap ((m:Int)+1)=(m:Int)+1:=IntWalk.i64_in _ ⟨by omega,by omega⟩
  clear hs3
  obtain⟨Hk3,Hk4,Hk4w,Hr4,Hb34,HS7,Hclo,HrV,HgV⟩:=hid9 hk3 hk4 hk4w hr4 hb34 hS7 hclo hrV hgV;clear hgV hrV hclo hS7 hb34 hr4 hk4w hk4 hk3
  go_wp2_with fail
  refine wp_region_mixw (c7S B W.heap.size t.limit (.slice adT n cT) t.cyc t.due t.minFixed t.minPart t.start (.slice av m cv) (.slice ab n cb) s.p.cr s.p.du (.slice ar n cr) fr te) (.take 0 (.take 1 (.take 2 (.take 3 (.take 4 (.take 5 (.take 6 (.take 7 (.take 8 (.take 9 (.take 10 (.take 11 (.take 12 (.take 13 (.take 14 (.take 15 (.take 16 (.take 17 (.take 18 (.take 19 (.take 20 (.fork3 21 (.take 22 (.take 23 (.take 24 (.take 25 (.fork 26 (.move 27 (.move 28 (.move 29 (.take 30 .done)))) 27 (.move 26 (.move 28 (.move 29 (.take 30 .done))))))))) 26 (.fork 21 (.take 22 (.take 23 (.take 24 (.take 25 (.move 27 (.move 28 (.move 29 (.take 30 .done)))))))) 27 (.move 21 (.take 22 (.take 23 (.take 24 (.take 25 (.move 28 (.move 29 (.take 30 .done))))))))) 27 (.fork 21 (.take 22 (.take 23 (.take 24 (.take 25 (.move 26 (.move 28 (.move 29 (.take 30 .done)))))))) 26 (.move 21 (.take 22 (.take 23 (.take 24 (.take 25 (.move 28 (.move 29 (.take 30 .done))))))))))))))))))))))))))))))) (by kernel_rfl) (by kernel_rfl) ?_ ?_
  ·exact HS7.out
  intro w7 hs7 hk7
  have Hk7:=Lib.hid hk7
  clear hk7
  repeat (first
   |(refine mix_skip rfl (by rfl) ?_;try simp only [Act.put,List.setIfInBounds_toArray,List.set_cons_zero,List.set_cons_succ])
   |(refine mix_skipm rfl (by rfl) ?_;try simp only [Act.put,List.setIfInBounds_toArray,List.set_cons_zero,List.set_cons_succ])
   |(refine mix_take (v:= ?_) rfl (by rfl) ?_ ?_;rotate_left;(· intro w' hSw;unfold c7S at hSw;go_simp;(try with_reducible rfl));rotate_right;try simp only [Act.put,List.setIfInBounds_toArray,List.set_cons_zero,List.set_cons_succ]))
  refine mix_fork3 ?_ ?_ ?_ hs7
  ·skip
   refine mix_move rfl (fun K hK=> ?_)
   go_simp
   go_at_call 103
   ((with_reducible refine(Hclo.out _ (Hk7.out.nt (Keeps.refl (fun _=>False) w7))).mono ?_);rintro e w5 hpost)
   obtain⟨al,cl2,ab2,cb2,rfl,hln,hbn2,hk5,hol,hob⟩:=ClosePost.uni hpost Hcv.out
   clear hpost
   dsimp only
   refine hK.out _ _ (by exact hs7.keep (Keeps.nt (Keeps.refl (fun _=>False) w7) hk5)) ?_
   clear hK K
   try simp only [Act.put,List.setIfInBounds_toArray,List.set_cons_zero,List.set_cons_succ]
   repeat (first
    |(refine mix_skip rfl (by rfl) ?_;try simp only [Act.put,List.setIfInBounds_toArray,List.set_cons_zero,List.set_cons_succ])
    |(refine mix_skipm rfl (by rfl) ?_;try simp only [Act.put,List.setIfInBounds_toArray,List.set_cons_zero,List.set_cons_succ])
    |(refine mix_take (v:= ?_) rfl (by rfl) ?_ ?_;rotate_left;(· intro w' hSw;unfold c7S at hSw;go_simp;(try with_reducible rfl));rotate_right;try simp only [Act.put,List.setIfInBounds_toArray,List.set_cons_zero,List.set_cons_succ]))
   refine mix_fork ?_ ?_ (hs7.keep (Keeps.nt (Keeps.refl (fun _=>False) w7) hk5))
   ·skip
    refine mix_move rfl (fun K hK=> ?_)
    go_simp
    refine hK.out _ _ (by exact hs7.keep (Keeps.nt (Keeps.nt (Keeps.refl (fun _=>False) w7) hk5) (Keeps.alloc _ _))) ?_
    clear hK K
    try simp only [Act.put,List.setIfInBounds_toArray,List.set_cons_zero,List.set_cons_succ]
    refine mix_move rfl (fun K hK=> ?_)
    go_simp
    refine hK.out _ _ (by exact hs7.keep (Keeps.nt (Keeps.nt (Keeps.nt (Keeps.refl (fun _=>False) w7) hk5) (Keeps.alloc (S:=fun _=>False) (w5) (.cells #[.int .i64 0, .int .i64 0, .int .i64 0, .int .i64 0, .slice none 0 0, .int .i64 0, .int .i64 0, .int .i64 0, .bool false] 80))) (Keeps.alloc _ _))) ?_
    clear hK K
    try simp only [Act.put,List.setIfInBounds_toArray,List.set_cons_zero,List.set_cons_succ]
    obtain⟨wE,hwE⟩:∃x,x=((w5).alloc (.cells #[.int .i64 0, .int .i64 0, .int .i64 0, .int .i64 0, .slice none 0 0, .int .i64 0, .int .i64 0, .int .i64 0, .bool false] 80)).alloc (.cells #[.slice none 0 0, .int .i64 0, .int .i64 0] 24):=⟨_,rfl⟩
    have k7E:Keeps (fun _=>False) w7 wE:=by rw [hwE];exact(Keeps.nt (Keeps.nt (Keeps.nt (Keeps.refl (fun _=>False) w7) hk5) (Keeps.alloc (S:=fun _=>False) (w5) (.cells #[.int .i64 0, .int .i64 0, .int .i64 0, .int .i64 0, .slice none 0 0, .int .i64 0, .int .i64 0, .int .i64 0, .bool false] 80))) (Keeps.alloc (S:=fun _=>False) ((w5).alloc (.cells #[.int .i64 0, .int .i64 0, .int .i64 0, .int .i64 0, .slice none 0 0, .int .i64 0, .int .i64 0, .int .i64 0, .bool false] 80)) (.cells #[.slice none 0 0, .int .i64 0, .int .i64 0] 24)))
    have hb8:wE.heap[w5.heap.size]?=some (.cells #[.int .i64 0, .int .i64 0, .int .i64 0, .int .i64 0, .slice none 0 0, .int .i64 0, .int .i64 0, .int .i64 0, .bool false] 80 (0,0)):=by rw [hwE];exact box_alloc (heap_alloc_new (w5) _) _
    have hb9:wE.heap[w5.heap.size+1]?=some (.cells #[.slice none 0 0, .int .i64 0, .int .i64 0] 24 (0,0)):=by rw [hwE];exact halloc_at2 _ _ (by simp)
    have k5E:Keeps (fun _=>False) w5 wE:=by rw [hwE];exact(Keeps.nt (Keeps.nt (Keeps.refl (fun _=>False) w5) (Keeps.alloc (S:=fun _=>False) (w5) (.cells #[.int .i64 0, .int .i64 0, .int .i64 0, .int .i64 0, .slice none 0 0, .int .i64 0, .int .i64 0, .int .i64 0, .bool false] 80))) (Keeps.alloc (S:=fun _=>False) ((w5).alloc (.cells #[.int .i64 0, .int .i64 0, .int .i64 0, .int .i64 0, .slice none 0 0, .int .i64 0, .int .i64 0, .int .i64 0, .bool false] 80)) (.cells #[.slice none 0 0, .int .i64 0, .int .i64 0] 24)))
    have hlnE:=hln.of_keeps k5E
    have hbnE:=hbn2.of_keeps k5E
    have hs5:=hk5.size
    try simp at hs5
    have holE:∀b,(Value.slice al x.lines.length cl2).ownBlock=some b→w7.heap.size≤b:=fun b hb=>by have h1:=hol b hb;have h2:=((Keeps.refl (fun _=>False) w7)).size;omega
    have hobE:∀b,(Value.slice ab2 q.bal.length cb2).ownBlock=some b→w7.heap.size≤b:=fun b hb=>by have h1:=hob b hb;have h2:=((Keeps.refl (fun _=>False) w7)).size;omega
    rw [←hwE]
    obtain⟨b8,hb8e⟩:∃x,x=w5.heap.size:=⟨_,rfl⟩
    obtain⟨b9,hb9e⟩:∃x,x=w5.heap.size+1:=⟨_,rfl⟩
    have hne:¬b8=b9:=by rw [hb8e,hb9e];omega
    have hn8:w7.heap.size≤b8:=by rw [hb8e];omega
    have hn9:w7.heap.size≤b9:=by rw [hb9e];omega
    rw [←hb9e] at hb9⊢
    rw [←hb8e] at hb8⊢
    clear hb8e hb9e hwE hln hbn2 hk5 hol hob k5E hs5
    have ya0:=cell_of_cells hb8 0
    have yb0:=free_of_cells hb8 0
    have ya1:=cell_of_cells hb8 1
    have yb1:=free_of_cells hb8 1
    have ya2:=cell_of_cells hb8 2
    have yb2:=free_of_cells hb8 2
    have ya3:=cell_of_cells hb8 3
    have yb3:=free_of_cells hb8 3
    have ya4:=cell_of_cells hb8 4
    have yb4:=free_of_cells hb8 4
    have ya5:=cell_of_cells hb8 5
    have yb5:=free_of_cells hb8 5
    have ya6:=cell_of_cells hb8 6
    have yb6:=free_of_cells hb8 6
    have ya7:=cell_of_cells hb8 7
    have yb7:=free_of_cells hb8 7
    have ya8:=cell_of_cells hb8 8
    have yb8:=free_of_cells hb8 8
    have yc0:=cell_of_cells hb9 0
    have yd0:=free_of_cells hb9 0
    have yc1:=cell_of_cells hb9 1
    have yd1:=free_of_cells hb9 1
    have yc2:=cell_of_cells hb9 2
    have yd2:=free_of_cells hb9 2
    have yl8:=lt_of_block hb8
    have yl9:=lt_of_block hb9
    have hne2:¬b9=b8:=fun e=>hne e.symm
    have hl8:∀b,(Value.slice al x.lines.length cl2).ownBlock=some b→¬b=b8:=fun b hb e=>by subst e;exact ownsRow_ne hlnE hb8 (by decide) hb
    have hl9:∀b,(Value.slice al x.lines.length cl2).ownBlock=some b→¬b=b9:=fun b hb e=>by subst e;exact ownsRow_ne hlnE hb9 (by decide) hb
    have hq8:∀b,(Value.slice ab2 q.bal.length cb2).ownBlock=some b→¬b=b8:=fun b hb e=>by subst e;exact ownsRow_ne hbnE hb8 (by decide) hb
    have hq9:∀b,(Value.slice ab2 q.bal.length cb2).ownBlock=some b→¬b=b9:=fun b hb e=>by subst e;exact ownsRow_ne hbnE hb9 (by decide) hb
    obtain⟨hb8',k8⟩:=store9 hb8 (.int .i64 x.cycle) (.int .i64 x.fr) (.int .i64 x.te) (.int .i64 x.due) (.slice al x.lines.length cl2) (.int .i64 x.total) (.int .i64 x.credit) (.int .i64 x.min) (.bool x.grace)
    obtain⟨hb9',k9⟩:=store3 (box_old hb9 k8 hne2) (.slice ab2 q.bal.length cb2) (.int .i64 q.cr) (.int .i64 q.du)
    have hb8F:=box_old hb8' k9 (fun e=>hne e)
    have kE8:=k7E.trans (k8.mono fun i _ e=> .inr (by have e':i=b8:=e;omega))
    have kEF:=kE8.trans (k9.mono fun i _ e=> .inr (by have e':i=b9:=e;omega))
    have hlnF:=k9.row (k8.row hlnE hl8) hl9
    have hbnF:=k9.row (k8.row hbnE hq8) hq9
    have hsA:=hs7.keep kE8
    have hsB:=hs7.keep kEF
    obtain⟨Hb8,Hb9,Hb8',K8,K9,KE8,Hl8,Hl9,Hq8⟩:=hid9 hb8 hb9 hb8' k8 k9 kE8 hl8 hl9 hq8;clear hq8 hl9 hl8 kE8 k9 k8 hb8' hb9 hb8;obtain⟨Hq9,HlnE,HbnE,HsA⟩:=hid4 hq9 hlnE hbnE hsA;clear hsA hbnE hlnE hq9
    refine mix_move rfl (fun K hK=> ?_)
    go_simp
    refine hK.out _ _ (by exact HsA.out) ?_
    clear hK K
    try simp only [Act.put,List.setIfInBounds_toArray,List.set_cons_zero,List.set_cons_succ]
    repeat (first
     |(refine mix_skip rfl (by rfl) ?_;try simp only [Act.put,List.setIfInBounds_toArray,List.set_cons_zero,List.set_cons_succ])
     |(refine mix_skipm rfl (by rfl) ?_;try simp only [Act.put,List.setIfInBounds_toArray,List.set_cons_zero,List.set_cons_succ])
     |(refine mix_take (v:= ?_) rfl (by rfl) ?_ ?_;rotate_left;(· intro w' hSw;unfold c7S at hSw;go_simp;(try with_reducible rfl));rotate_right;try simp only [Act.put,List.setIfInBounds_toArray,List.set_cons_zero,List.set_cons_succ]))
    have HsB:=Lib.hid hsB
    clear hsB
    refine mix_move rfl (fun K hK=> ?_)
    go_simp
    refine hK.out _ _ (by exact HsB.out) ?_
    clear hK K
    try simp only [Act.put,List.setIfInBounds_toArray,List.set_cons_zero,List.set_cons_succ]
    repeat (first
     |(refine mix_skip rfl (by rfl) ?_;try simp only [Act.put,List.setIfInBounds_toArray,List.set_cons_zero,List.set_cons_succ])
     |(refine mix_skipm rfl (by rfl) ?_;try simp only [Act.put,List.setIfInBounds_toArray,List.set_cons_zero,List.set_cons_succ])
     |(refine mix_take (v:= ?_) rfl (by rfl) ?_ ?_;rotate_left;(· intro w' hSw;unfold c7S at hSw;go_simp;(try with_reducible rfl));rotate_right;try simp only [Act.put,List.setIfInBounds_toArray,List.set_cons_zero,List.set_cons_succ]))
    refine mix_done ?_
    clear ya0 yb0 ya1 yb1 ya2 yb2 ya3 yb3 ya4 yb4 ya5 yb5 ya6 yb6 ya7 yb7 ya8 yb8 yc0 yd0 yc1 yd1 yc2 yd2 yl8 yl9 hs7
    obtain⟨wF,hwF⟩:∃y,y=((((((((((((wE.setCell ⟨b8,0,none⟩ (.int .i64 x.cycle)).setCell ⟨b8,1,none⟩ (.int .i64 x.fr)).setCell ⟨b8,2,none⟩ (.int .i64 x.te)).setCell ⟨b8,3,none⟩ (.int .i64 x.due)).setCell ⟨b8,4,none⟩ (.slice al x.lines.length cl2)).setCell ⟨b8,5,none⟩ (.int .i64 x.total)).setCell ⟨b8,6,none⟩ (.int .i64 x.credit)).setCell ⟨b8,7,none⟩ (.int .i64 x.min)).setCell ⟨b8,8,none⟩ (.bool x.grace)).setCell ⟨b9,0,none⟩ (.slice ab2 q.bal.length cb2)).setCell ⟨b9,1,none⟩ (.int .i64 q.cr)).setCell ⟨b9,2,none⟩ (.int .i64 q.du)):=⟨_,rfl⟩
    rw [←hwF] at hb8F hb9' kEF hlnF hbnF⊢
    clear hwF
    have Hn8:=Lib.hid hn8
    clear hn8
    have hr7:=Hr4.out.keep0 Hk7.out
    have hrF:=hr7.keep0 kEF
    have b19:=cell_of_cells hrF.blk 19
    have hnil:∀w:World,(binOp .neq 72 .nilFunc .nilFunc).run Tryz.prog w= .ok (.bool false) w:=fun _=>by kernel_rfl
    rcases D with _|⟨x',q'⟩
    ·have hC':=HC.out
     simp only at hC'
     subst hC'
     have hcv:=Hcv.out
     simp only [cloVal,Prod.mk.injEq] at hcv
     obtain⟨rfl,rfl,rfl⟩:=hcv
     obtain⟨Hb8F,Hb9',KEF,HlnF,HbnF,Hr7,HrF,Hnil,HolE⟩:=hid9 hb8F hb9' kEF hlnF hbnF hr7 hrF hnil holE;clear holE hnil hrF hr7 hbnF hlnF kEF hb9' hb8F;have HobE:=Lib.hid hobE;clear hobE
     go_wp2
     go_ret
     exact⟨rfl,HrF.out⟩
    ·have hC':=HC.out
     simp only at hC'
     have hcv:=Hcv.out
     simp only [cloVal,Prod.mk.injEq] at hcv
     obtain⟨rfl,rfl,rfl⟩:=hcv
     obtain⟨hql,_⟩:=closeR_ok Hz.out Hpr.out (by rw [HVl.out];exact H.out.nb.symm) (List.all_eq_true.2 fun y hy=>(moneyP_iff y).2 (HVb.out y hy)) HD.out
     have hqn:x'.lines.length=x'.lines.length:=rfl
     rw [H.out.nb] at hql
     rw [hql] at hbnF hb9' hobE⊢
     have u10:=(heap_setCell_same _ _ 10 _ _ (.slice ab2 n cb2) hrF.blk).trans rfl
     have u11:=(heap_setCell_same _ _ 11 _ _ (.int .i64 q'.cr) u10).trans rfl
     have u12:=(heap_setCell_same _ _ 12 _ _ (.int .i64 q'.du) u11).trans rfl
     have kB:Keeps (fun i=>i=B) wF (((wF.setCell ⟨B,10,none⟩ (.slice ab2 n cb2)).setCell ⟨B,11,none⟩ (.int .i64 q'.cr)).setCell ⟨B,12,none⟩ (.int .i64 q'.du)):=((Keeps.setCell (S:=fun i=>i=B) _ _ _ rfl).trans (Keeps.setCell _ _ _ (.inl rfl))).trans (Keeps.setCell _ _ _ (.inl rfl))
     have hupd:=hr7.upd kEF kB u12 hbnF hrF.rts hql Hr4.out.nr (.inr hobE) (.inl rfl)
     have hB8:¬b8=B:=fun e=>by
      have h1:=hb8F
      rw [e,hrF.blk] at h1
      injection h1 with h1
      injection h1 with _ h1 _
      exact absurd h1 (by decide)
     have hb8G:=box_old hb8F kB hB8
     have hlnG:=kB.row hlnF (fun i hi e=>by have e':i=B:=e;subst e';exact ownsRow_ne hlnF hrF.blk (by decide) hi)
     have p0:=cell_of_cells hb9' 0
     have p1:=cell_of_cells hb9' 1
     have p2:=cell_of_cells hb9' 2
     have pl:=lt_of_block hb9'
     have b10:=cell_of_cells hrF.blk 10
     have b11:=cell_of_cells hrF.blk 11
     have b12:=cell_of_cells hrF.blk 12
     have f10:=free_of_cells hrF.blk 10
     have f11:=free_of_cells hrF.blk 11
     have f12:=free_of_cells hrF.blk 12
     have bl2:=lt_of_block hrF.blk
     obtain⟨W12,hW12⟩:∃y,y=(((wF.setCell ⟨B,10,none⟩ (.slice ab2 n cb2)).setCell ⟨B,11,none⟩ (.int .i64 q'.cr)).setCell ⟨B,12,none⟩ (.int .i64 q'.du)):=⟨_,rfl⟩
     rw [←hW12] at hupd hb8G hlnG
     have hS13:=r13S.keep (r13S.of hupd.blk rfl hb8G) (Keeps.drew (S:=fun _=>False) _) (by simp) (by simp)
     have holX:Own w0 X (.slice al x'.lines.length cl2):=hr7.ownN holE
     obtain⟨Hb8F,Hb9',KEF,HlnF,HbnF,Hr7,HrF,HolE,HobE⟩:=hid9 hb8F hb9' kEF hlnF hbnF hr7 hrF holE hobE;clear hobE holE hrF hr7 hbnF hlnF kEF hb9' hb8F;obtain⟨Hql,Hqn,U10,U11,U12,KB,Hupd,HB8,Hb8G⟩:=hid9 hql hqn u10 u11 u12 kB hupd hB8 hb8G;clear hb8G hB8 hupd kB u12 u11 u10 hqn hql;obtain⟨HlnG,HS13,HolX,HC'⟩:=hid4 hlnG hS13 holX hC';clear hC' holX hS13 hlnG
     go_wp2_with fail
     rw [←hW12]
     clear hW12 p0 p1 p2 pl b10 b11 b12 f10 f11 f12 bl2 b19 hnil
     refine wp_region_mixy (r13S B b8 (.slice av m cv) x'.cycle x'.fr x'.te x'.due (.slice al x'.lines.length cl2) x'.total x'.credit x'.min x'.grace) 10 (.take 0 (.take 1 (.take 2 (.take 3 (.take 4 (.take 5 (.move 6 (.move 7 (.move 8 (.move 9 (.move 10 .done))))))))))) (by kernel_rfl) (by kernel_rfl) ?_ ?_
     ·exact HS13.out
     intro w13 hs13 hk13
     repeat (first
      |(refine mix_skip rfl (by rfl) ?_;try simp only [Act.put,List.setIfInBounds_toArray,List.set_cons_zero,List.set_cons_succ])
      |(refine mix_skipm rfl (by rfl) ?_;try simp only [Act.put,List.setIfInBounds_toArray,List.set_cons_zero,List.set_cons_succ])
      |(refine mix_take (v:= ?_) rfl (by rfl) ?_ ?_;rotate_left;(· intro w' hSw;unfold r13S at hSw;go_simp;(try with_reducible rfl));rotate_right;try simp only [Act.put,List.setIfInBounds_toArray,List.set_cons_zero,List.set_cons_succ]))
     refine mix_move rfl (fun K hK=> ?_)
     go_simp
     refine hK.out _ _ (by exact hs13.keep (S:=fun _=>False) (Keeps.alloc _ _) (by simp) (by simp)) ?_
     clear hK K
     try simp only [Act.put,List.setIfInBounds_toArray,List.set_cons_zero,List.set_cons_succ]
     repeat (first
      |(refine mix_skip rfl (by rfl) ?_;try simp only [Act.put,List.setIfInBounds_toArray,List.set_cons_zero,List.set_cons_succ])
      |(refine mix_skipm rfl (by rfl) ?_;try simp only [Act.put,List.setIfInBounds_toArray,List.set_cons_zero,List.set_cons_succ])
      |(refine mix_take (v:= ?_) rfl (by rfl) ?_ ?_;rotate_left;(· intro w' hSw;unfold r13S at hSw;go_simp;(try with_reducible rfl));rotate_right;try simp only [Act.put,List.setIfInBounds_toArray,List.set_cons_zero,List.set_cons_succ]))
     have hk13a:=hk13.nt (Keeps.alloc w13 (.cells (SV.cells ⟨x',al,cl2⟩).toArray 80))
     have hrow13:=(Hupd.out.keep0 hk13a).out
     rw [Hmm.out] at hrow13
     refine mix_move rfl (fun K hK=> ?_)
     refine step_append_row rfl (.tmp 107) (.tmp 109) 43 rfl 0 80 i0 _ 9 88 Tryz.underlying43 Hi.out Hi0.out Hi1.out Hi2.out rfl (by decide) (.slice av m cv) m _ rfl hrow13 _ 1 _ rfl (Reads.litAt _ _ _ 9 1 _ (by first|rfl|simp) rfl) (by simp [Value.oneCell']) (by unfold maxLen;omega) (by omega) (Nat.zero_le _) ?_
     intro v14 w14 hown14 hk14 hf14
     obtain⟨a14,c14,rfl,_,_⟩:=ownsRow_shape hown14
     have hadd:=Hupd.out.addOut (x:=⟨x',al,cl2⟩) hk13a hk14 (by rw [Hmm.out,List.flatMap_append];exact hown14) (HlnG.out.of_keeps hk13a) HolX.out hf14
     have h14b:=box_old (Hupd.out.keep0 hk13a).blk hk14 (fun e=>ownsRow_ne hrow13 (Hupd.out.keep0 hk13a).blk (by decide) e)
     have hb8n:W.heap.size≤b8:=by have h1:=Hk4w.out.size;have h2:=Hk7.out.size;have h3:=Hn8.out;omega
     have h14s:¬(Value.slice av m cv).ownBlock=some b8:=fun e=>by have:=own_lt H.out.out e;omega
     have o16:=cell_of_cells h14b 16
     have of16:=free_of_cells h14b 16
     have ol16:=lt_of_block h14b
     refine hK.out _ _ (by exact(hs13.keep (S:=fun _=>False) (Keeps.alloc _ _) (by simp) (by simp)).keep hk14 (fun e=>ownsRow_ne hrow13 (Hupd.out.keep0 hk13a).blk (by decide) e) h14s) ?_
     clear hK K
     try simp only [Act.put,List.setIfInBounds_toArray,List.set_cons_zero,List.set_cons_succ]
     obtain⟨Hk13a,Hrow13,Hown14,Hk14,Hadd,H14b,Hb8n,H14s,Hk13⟩:=hid9 hk13a hrow13 hown14 hk14 hadd h14b hb8n h14s hk13;clear hk13 h14s hb8n h14b hadd hk14 hown14 hrow13 hk13a
     clear hs13 hf14
     repeat (first
      |(refine mix_takem (v:= ?_) rfl (by rfl) ?_ ?_;rotate_left;(· intro w' hSw;unfold r13S at hSw;go_simp;(try with_reducible rfl));rotate_right;try simp only [Act.put,List.setIfInBounds_toArray,List.set_cons_zero,List.set_cons_succ]))
     refine mix_last rfl (fun K hK=> ?_)
     go_simp
     refine hK.out _ _ ?_
     clear hK K
     try simp only [Act.put,List.setIfInBounds_toArray,List.set_cons_zero,List.set_cons_succ]
     refine mix_done ?_
     clear o16 of16 ol16
     have hfr:=runFresh_any Hadd.out (by omega)
     have Hfr:=Lib.hid hfr
     clear hfr
     go_wp2_with fail
     refine Hfr.out.mono ?_
     rintro e w16 ⟨rfl,a16,b16',hr16⟩
     have hCC:=HC'.out
     subst hCC
     have Hr16:=Lib.hid hr16;clear hr16
     go_wp2
     go_ret
     exact⟨rfl,_,_,_,_,_,Hr16.out⟩
   ·skip
    refine mix_move rfl (fun K hK=> ?_)
    go_simp
    refine hK.out _ _ (by exact hs7.keep (Keeps.nt (Keeps.nt (Keeps.refl (fun _=>False) w7) hk5) (Keeps.alloc _ _))) ?_
    clear hK K
    try simp only [Act.put,List.setIfInBounds_toArray,List.set_cons_zero,List.set_cons_succ]
    refine mix_move rfl (fun K hK=> ?_)
    go_simp
    refine hK.out _ _ (by exact hs7.keep (Keeps.nt (Keeps.nt (Keeps.nt (Keeps.refl (fun _=>False) w7) hk5) (Keeps.alloc (S:=fun _=>False) (w5) (.cells #[.slice none 0 0, .int .i64 0, .int .i64 0] 24))) (Keeps.alloc _ _))) ?_
    clear hK K
    try simp only [Act.put,List.setIfInBounds_toArray,List.set_cons_zero,List.set_cons_succ]
    obtain⟨wE,hwE⟩:∃x,x=((w5).alloc (.cells #[.slice none 0 0, .int .i64 0, .int .i64 0] 24)).alloc (.cells #[.int .i64 0, .int .i64 0, .int .i64 0, .int .i64 0, .slice none 0 0, .int .i64 0, .int .i64 0, .int .i64 0, .bool false] 80):=⟨_,rfl⟩
    have k7E:Keeps (fun _=>False) w7 wE:=by rw [hwE];exact(Keeps.nt (Keeps.nt (Keeps.nt (Keeps.refl (fun _=>False) w7) hk5) (Keeps.alloc (S:=fun _=>False) (w5) (.cells #[.slice none 0 0, .int .i64 0, .int .i64 0] 24))) (Keeps.alloc (S:=fun _=>False) ((w5).alloc (.cells #[.slice none 0 0, .int .i64 0, .int .i64 0] 24)) (.cells #[.int .i64 0, .int .i64 0, .int .i64 0, .int .i64 0, .slice none 0 0, .int .i64 0, .int .i64 0, .int .i64 0, .bool false] 80)))
    have hb8:wE.heap[w5.heap.size+1]?=some (.cells #[.int .i64 0, .int .i64 0, .int .i64 0, .int .i64 0, .slice none 0 0, .int .i64 0, .int .i64 0, .int .i64 0, .bool false] 80 (0,0)):=by rw [hwE];exact halloc_at2 _ _ (by simp)
    have hb9:wE.heap[w5.heap.size]?=some (.cells #[.slice none 0 0, .int .i64 0, .int .i64 0] 24 (0,0)):=by rw [hwE];exact box_alloc (heap_alloc_new (w5) _) _
    have k5E:Keeps (fun _=>False) w5 wE:=by rw [hwE];exact(Keeps.nt (Keeps.nt (Keeps.refl (fun _=>False) w5) (Keeps.alloc (S:=fun _=>False) (w5) (.cells #[.slice none 0 0, .int .i64 0, .int .i64 0] 24))) (Keeps.alloc (S:=fun _=>False) ((w5).alloc (.cells #[.slice none 0 0, .int .i64 0, .int .i64 0] 24)) (.cells #[.int .i64 0, .int .i64 0, .int .i64 0, .int .i64 0, .slice none 0 0, .int .i64 0, .int .i64 0, .int .i64 0, .bool false] 80)))
    have hlnE:=hln.of_keeps k5E
    have hbnE:=hbn2.of_keeps k5E
    have hs5:=hk5.size
    try simp at hs5
    have holE:∀b,(Value.slice al x.lines.length cl2).ownBlock=some b→w7.heap.size≤b:=fun b hb=>by have h1:=hol b hb;have h2:=((Keeps.refl (fun _=>False) w7)).size;omega
    have hobE:∀b,(Value.slice ab2 q.bal.length cb2).ownBlock=some b→w7.heap.size≤b:=fun b hb=>by have h1:=hob b hb;have h2:=((Keeps.refl (fun _=>False) w7)).size;omega
    rw [←hwE]
    obtain⟨b8,hb8e⟩:∃x,x=w5.heap.size+1:=⟨_,rfl⟩
    obtain⟨b9,hb9e⟩:∃x,x=w5.heap.size:=⟨_,rfl⟩
    have hne:¬b8=b9:=by rw [hb8e,hb9e];omega
    have hn8:w7.heap.size≤b8:=by rw [hb8e];omega
    have hn9:w7.heap.size≤b9:=by rw [hb9e];omega
    rw [←hb8e] at hb8⊢
    rw [←hb9e] at hb9⊢
    clear hb8e hb9e hwE hln hbn2 hk5 hol hob k5E hs5
    have ya0:=cell_of_cells hb8 0
    have yb0:=free_of_cells hb8 0
    have ya1:=cell_of_cells hb8 1
    have yb1:=free_of_cells hb8 1
    have ya2:=cell_of_cells hb8 2
    have yb2:=free_of_cells hb8 2
    have ya3:=cell_of_cells hb8 3
    have yb3:=free_of_cells hb8 3
    have ya4:=cell_of_cells hb8 4
    have yb4:=free_of_cells hb8 4
    have ya5:=cell_of_cells hb8 5
    have yb5:=free_of_cells hb8 5
    have ya6:=cell_of_cells hb8 6
    have yb6:=free_of_cells hb8 6
    have ya7:=cell_of_cells hb8 7
    have yb7:=free_of_cells hb8 7
    have ya8:=cell_of_cells hb8 8
    have yb8:=free_of_cells hb8 8
    have yc0:=cell_of_cells hb9 0
    have yd0:=free_of_cells hb9 0
    have yc1:=cell_of_cells hb9 1
    have yd1:=free_of_cells hb9 1
    have yc2:=cell_of_cells hb9 2
    have yd2:=free_of_cells hb9 2
    have yl8:=lt_of_block hb8
    have yl9:=lt_of_block hb9
    have hne2:¬b9=b8:=fun e=>hne e.symm
    have hl8:∀b,(Value.slice al x.lines.length cl2).ownBlock=some b→¬b=b8:=fun b hb e=>by subst e;exact ownsRow_ne hlnE hb8 (by decide) hb
    have hl9:∀b,(Value.slice al x.lines.length cl2).ownBlock=some b→¬b=b9:=fun b hb e=>by subst e;exact ownsRow_ne hlnE hb9 (by decide) hb
    have hq8:∀b,(Value.slice ab2 q.bal.length cb2).ownBlock=some b→¬b=b8:=fun b hb e=>by subst e;exact ownsRow_ne hbnE hb8 (by decide) hb
    have hq9:∀b,(Value.slice ab2 q.bal.length cb2).ownBlock=some b→¬b=b9:=fun b hb e=>by subst e;exact ownsRow_ne hbnE hb9 (by decide) hb
    obtain⟨hb8',k8⟩:=store9 hb8 (.int .i64 x.cycle) (.int .i64 x.fr) (.int .i64 x.te) (.int .i64 x.due) (.slice al x.lines.length cl2) (.int .i64 x.total) (.int .i64 x.credit) (.int .i64 x.min) (.bool x.grace)
    obtain⟨hb9',k9⟩:=store3 (box_old hb9 k8 hne2) (.slice ab2 q.bal.length cb2) (.int .i64 q.cr) (.int .i64 q.du)
    have hb8F:=box_old hb8' k9 (fun e=>hne e)
    have kE8:=k7E.trans (k8.mono fun i _ e=> .inr (by have e':i=b8:=e;omega))
    have kEF:=kE8.trans (k9.mono fun i _ e=> .inr (by have e':i=b9:=e;omega))
    have hlnF:=k9.row (k8.row hlnE hl8) hl9
    have hbnF:=k9.row (k8.row hbnE hq8) hq9
    have hsA:=hs7.keep kE8
    have hsB:=hs7.keep kEF
    obtain⟨Hb8,Hb9,Hb8',K8,K9,KE8,Hl8,Hl9,Hq8⟩:=hid9 hb8 hb9 hb8' k8 k9 kE8 hl8 hl9 hq8;clear hq8 hl9 hl8 kE8 k9 k8 hb8' hb9 hb8;obtain⟨Hq9,HlnE,HbnE,HsA⟩:=hid4 hq9 hlnE hbnE hsA;clear hsA hbnE hlnE hq9
    refine mix_move rfl (fun K hK=> ?_)
    go_simp
    refine hK.out _ _ (by exact HsA.out) ?_
    clear hK K
    try simp only [Act.put,List.setIfInBounds_toArray,List.set_cons_zero,List.set_cons_succ]
    repeat (first
     |(refine mix_skip rfl (by rfl) ?_;try simp only [Act.put,List.setIfInBounds_toArray,List.set_cons_zero,List.set_cons_succ])
     |(refine mix_skipm rfl (by rfl) ?_;try simp only [Act.put,List.setIfInBounds_toArray,List.set_cons_zero,List.set_cons_succ])
     |(refine mix_take (v:= ?_) rfl (by rfl) ?_ ?_;rotate_left;(· intro w' hSw;unfold c7S at hSw;go_simp;(try with_reducible rfl));rotate_right;try simp only [Act.put,List.setIfInBounds_toArray,List.set_cons_zero,List.set_cons_succ]))
    have HsB:=Lib.hid hsB
    clear hsB
    refine mix_move rfl (fun K hK=> ?_)
    go_simp
    refine hK.out _ _ (by exact HsB.out) ?_
    clear hK K
    try simp only [Act.put,List.setIfInBounds_toArray,List.set_cons_zero,List.set_cons_succ]
    repeat (first
     |(refine mix_skip rfl (by rfl) ?_;try simp only [Act.put,List.setIfInBounds_toArray,List.set_cons_zero,List.set_cons_succ])
     |(refine mix_skipm rfl (by rfl) ?_;try simp only [Act.put,List.setIfInBounds_toArray,List.set_cons_zero,List.set_cons_succ])
     |(refine mix_take (v:= ?_) rfl (by rfl) ?_ ?_;rotate_left;(· intro w' hSw;unfold c7S at hSw;go_simp;(try with_reducible rfl));rotate_right;try simp only [Act.put,List.setIfInBounds_toArray,List.set_cons_zero,List.set_cons_succ]))
    refine mix_done ?_
    clear ya0 yb0 ya1 yb1 ya2 yb2 ya3 yb3 ya4 yb4 ya5 yb5 ya6 yb6 ya7 yb7 ya8 yb8 yc0 yd0 yc1 yd1 yc2 yd2 yl8 yl9 hs7
    obtain⟨wF,hwF⟩:∃y,y=((((((((((((wE.setCell ⟨b8,0,none⟩ (.int .i64 x.cycle)).setCell ⟨b8,1,none⟩ (.int .i64 x.fr)).setCell ⟨b8,2,none⟩ (.int .i64 x.te)).setCell ⟨b8,3,none⟩ (.int .i64 x.due)).setCell ⟨b8,4,none⟩ (.slice al x.lines.length cl2)).setCell ⟨b8,5,none⟩ (.int .i64 x.total)).setCell ⟨b8,6,none⟩ (.int .i64 x.credit)).setCell ⟨b8,7,none⟩ (.int .i64 x.min)).setCell ⟨b8,8,none⟩ (.bool x.grace)).setCell ⟨b9,0,none⟩ (.slice ab2 q.bal.length cb2)).setCell ⟨b9,1,none⟩ (.int .i64 q.cr)).setCell ⟨b9,2,none⟩ (.int .i64 q.du)):=⟨_,rfl⟩
    rw [←hwF] at hb8F hb9' kEF hlnF hbnF⊢
    clear hwF
    have Hn8:=Lib.hid hn8
    clear hn8
    have hr7:=Hr4.out.keep0 Hk7.out
    have hrF:=hr7.keep0 kEF
    have b19:=cell_of_cells hrF.blk 19
    have hnil:∀w:World,(binOp .neq 72 .nilFunc .nilFunc).run Tryz.prog w= .ok (.bool false) w:=fun _=>by kernel_rfl
    rcases D with _|⟨x',q'⟩
    ·have hC':=HC.out
     simp only at hC'
     subst hC'
     have hcv:=Hcv.out
     simp only [cloVal,Prod.mk.injEq] at hcv
     obtain⟨rfl,rfl,rfl⟩:=hcv
     obtain⟨Hb8F,Hb9',KEF,HlnF,HbnF,Hr7,HrF,Hnil,HolE⟩:=hid9 hb8F hb9' kEF hlnF hbnF hr7 hrF hnil holE;clear holE hnil hrF hr7 hbnF hlnF kEF hb9' hb8F;have HobE:=Lib.hid hobE;clear hobE
     go_wp2
     go_ret
     exact⟨rfl,HrF.out⟩
    ·have hC':=HC.out
     simp only at hC'
     have hcv:=Hcv.out
     simp only [cloVal,Prod.mk.injEq] at hcv
     obtain⟨rfl,rfl,rfl⟩:=hcv
     obtain⟨hql,_⟩:=closeR_ok Hz.out Hpr.out (by rw [HVl.out];exact H.out.nb.symm) (List.all_eq_true.2 fun y hy=>(moneyP_iff y).2 (HVb.out y hy)) HD.out
     have hqn:x'.lines.length=x'.lines.length:=rfl
     rw [H.out.nb] at hql
     rw [hql] at hbnF hb9' hobE⊢
     have u10:=(heap_setCell_same _ _ 10 _ _ (.slice ab2 n cb2) hrF.blk).trans rfl
     have u11:=(heap_setCell_same _ _ 11 _ _ (.int .i64 q'.cr) u10).trans rfl
     have u12:=(heap_setCell_same _ _ 12 _ _ (.int .i64 q'.du) u11).trans rfl
     have kB:Keeps (fun i=>i=B) wF (((wF.setCell ⟨B,10,none⟩ (.slice ab2 n cb2)).setCell ⟨B,11,none⟩ (.int .i64 q'.cr)).setCell ⟨B,12,none⟩ (.int .i64 q'.du)):=((Keeps.setCell (S:=fun i=>i=B) _ _ _ rfl).trans (Keeps.setCell _ _ _ (.inl rfl))).trans (Keeps.setCell _ _ _ (.inl rfl))
     have hupd:=hr7.upd kEF kB u12 hbnF hrF.rts hql Hr4.out.nr (.inr hobE) (.inl rfl)
     have hB8:¬b8=B:=fun e=>by
      have h1:=hb8F
      rw [e,hrF.blk] at h1
      injection h1 with h1
      injection h1 with _ h1 _
      exact absurd h1 (by decide)
     have hb8G:=box_old hb8F kB hB8
     have hlnG:=kB.row hlnF (fun i hi e=>by have e':i=B:=e;subst e';exact ownsRow_ne hlnF hrF.blk (by decide) hi)
     have p0:=cell_of_cells hb9' 0
     have p1:=cell_of_cells hb9' 1
     have p2:=cell_of_cells hb9' 2
     have pl:=lt_of_block hb9'
     have b10:=cell_of_cells hrF.blk 10
     have b11:=cell_of_cells hrF.blk 11
     have b12:=cell_of_cells hrF.blk 12
     have f10:=free_of_cells hrF.blk 10
     have f11:=free_of_cells hrF.blk 11
     have f12:=free_of_cells hrF.blk 12
     have bl2:=lt_of_block hrF.blk
     obtain⟨W12,hW12⟩:∃y,y=(((wF.setCell ⟨B,10,none⟩ (.slice ab2 n cb2)).setCell ⟨B,11,none⟩ (.int .i64 q'.cr)).setCell ⟨B,12,none⟩ (.int .i64 q'.du)):=⟨_,rfl⟩
     rw [←hW12] at hupd hb8G hlnG
     have hS13:=r13S.keep (r13S.of hupd.blk rfl hb8G) (Keeps.drew (S:=fun _=>False) _) (by simp) (by simp)
     have holX:Own w0 X (.slice al x'.lines.length cl2):=hr7.ownN holE
     obtain⟨Hb8F,Hb9',KEF,HlnF,HbnF,Hr7,HrF,HolE,HobE⟩:=hid9 hb8F hb9' kEF hlnF hbnF hr7 hrF holE hobE;clear hobE holE hrF hr7 hbnF hlnF kEF hb9' hb8F;obtain⟨Hql,Hqn,U10,U11,U12,KB,Hupd,HB8,Hb8G⟩:=hid9 hql hqn u10 u11 u12 kB hupd hB8 hb8G;clear hb8G hB8 hupd kB u12 u11 u10 hqn hql;obtain⟨HlnG,HS13,HolX,HC'⟩:=hid4 hlnG hS13 holX hC';clear hC' holX hS13 hlnG
     go_wp2_with fail
     rw [←hW12]
     clear hW12 p0 p1 p2 pl b10 b11 b12 f10 f11 f12 bl2 b19 hnil
     refine wp_region_mixy (r13S B b8 (.slice av m cv) x'.cycle x'.fr x'.te x'.due (.slice al x'.lines.length cl2) x'.total x'.credit x'.min x'.grace) 10 (.take 0 (.take 1 (.take 2 (.take 3 (.take 4 (.take 5 (.move 6 (.move 7 (.move 8 (.move 9 (.move 10 .done))))))))))) (by kernel_rfl) (by kernel_rfl) ?_ ?_
     ·exact HS13.out
     intro w13 hs13 hk13
     repeat (first
      |(refine mix_skip rfl (by rfl) ?_;try simp only [Act.put,List.setIfInBounds_toArray,List.set_cons_zero,List.set_cons_succ])
      |(refine mix_skipm rfl (by rfl) ?_;try simp only [Act.put,List.setIfInBounds_toArray,List.set_cons_zero,List.set_cons_succ])
      |(refine mix_take (v:= ?_) rfl (by rfl) ?_ ?_;rotate_left;(· intro w' hSw;unfold r13S at hSw;go_simp;(try with_reducible rfl));rotate_right;try simp only [Act.put,List.setIfInBounds_toArray,List.set_cons_zero,List.set_cons_succ]))
     refine mix_move rfl (fun K hK=> ?_)
     go_simp
     refine hK.out _ _ (by exact hs13.keep (S:=fun _=>False) (Keeps.alloc _ _) (by simp) (by simp)) ?_
     clear hK K
     try simp only [Act.put,List.setIfInBounds_toArray,List.set_cons_zero,List.set_cons_succ]
     repeat (first
      |(refine mix_skip rfl (by rfl) ?_;try simp only [Act.put,List.setIfInBounds_toArray,List.set_cons_zero,List.set_cons_succ])
      |(refine mix_skipm rfl (by rfl) ?_;try simp only [Act.put,List.setIfInBounds_toArray,List.set_cons_zero,List.set_cons_succ])
      |(refine mix_take (v:= ?_) rfl (by rfl) ?_ ?_;rotate_left;(· intro w' hSw;unfold r13S at hSw;go_simp;(try with_reducible rfl));rotate_right;try simp only [Act.put,List.setIfInBounds_toArray,List.set_cons_zero,List.set_cons_succ]))
     have hk13a:=hk13.nt (Keeps.alloc w13 (.cells (SV.cells ⟨x',al,cl2⟩).toArray 80))
     have hrow13:=(Hupd.out.keep0 hk13a).out
     rw [Hmm.out] at hrow13
     refine mix_move rfl (fun K hK=> ?_)
     refine step_append_row rfl (.tmp 107) (.tmp 109) 43 rfl 0 80 i0 _ 9 88 Tryz.underlying43 Hi.out Hi0.out Hi1.out Hi2.out rfl (by decide) (.slice av m cv) m _ rfl hrow13 _ 1 _ rfl (Reads.litAt _ _ _ 9 1 _ (by first|rfl|simp) rfl) (by simp [Value.oneCell']) (by unfold maxLen;omega) (by omega) (Nat.zero_le _) ?_
     intro v14 w14 hown14 hk14 hf14
     obtain⟨a14,c14,rfl,_,_⟩:=ownsRow_shape hown14
     have hadd:=Hupd.out.addOut (x:=⟨x',al,cl2⟩) hk13a hk14 (by rw [Hmm.out,List.flatMap_append];exact hown14) (HlnG.out.of_keeps hk13a) HolX.out hf14
     have h14b:=box_old (Hupd.out.keep0 hk13a).blk hk14 (fun e=>ownsRow_ne hrow13 (Hupd.out.keep0 hk13a).blk (by decide) e)
     have hb8n:W.heap.size≤b8:=by have h1:=Hk4w.out.size;have h2:=Hk7.out.size;have h3:=Hn8.out;omega
     have h14s:¬(Value.slice av m cv).ownBlock=some b8:=fun e=>by have:=own_lt H.out.out e;omega
     have o16:=cell_of_cells h14b 16
     have of16:=free_of_cells h14b 16
     have ol16:=lt_of_block h14b
     refine hK.out _ _ (by exact(hs13.keep (S:=fun _=>False) (Keeps.alloc _ _) (by simp) (by simp)).keep hk14 (fun e=>ownsRow_ne hrow13 (Hupd.out.keep0 hk13a).blk (by decide) e) h14s) ?_
     clear hK K
     try simp only [Act.put,List.setIfInBounds_toArray,List.set_cons_zero,List.set_cons_succ]
     obtain⟨Hk13a,Hrow13,Hown14,Hk14,Hadd,H14b,Hb8n,H14s,Hk13⟩:=hid9 hk13a hrow13 hown14 hk14 hadd h14b hb8n h14s hk13;clear hk13 h14s hb8n h14b hadd hk14 hown14 hrow13 hk13a
     clear hs13 hf14
     repeat (first
      |(refine mix_takem (v:= ?_) rfl (by rfl) ?_ ?_;rotate_left;(· intro w' hSw;unfold r13S at hSw;go_simp;(try with_reducible rfl));rotate_right;try simp only [Act.put,List.setIfInBounds_toArray,List.set_cons_zero,List.set_cons_succ]))
     refine mix_last rfl (fun K hK=> ?_)
     go_simp
     refine hK.out _ _ ?_
     clear hK K
     try simp only [Act.put,List.setIfInBounds_toArray,List.set_cons_zero,List.set_cons_succ]
     refine mix_done ?_
     clear o16 of16 ol16
     have hfr:=runFresh_any Hadd.out (by omega)
     have Hfr:=Lib.hid hfr
     clear hfr
     go_wp2_with fail
     refine Hfr.out.mono ?_
     rintro e w16 ⟨rfl,a16,b16',hr16⟩
     have hCC:=HC'.out
     subst hCC
     have Hr16:=Lib.hid hr16;clear hr16
     go_wp2
     go_ret
     exact⟨rfl,_,_,_,_,_,Hr16.out⟩
  ·skip
   refine mix_move rfl (fun K hK=> ?_)
   go_simp
   refine hK.out _ _ (by exact hs7.keep (Keeps.nt (Keeps.refl (fun _=>False) w7) (Keeps.alloc _ _))) ?_
   clear hK K
   try simp only [Act.put,List.setIfInBounds_toArray,List.set_cons_zero,List.set_cons_succ]
   refine mix_fork ?_ ?_ (hs7.keep (Keeps.nt (Keeps.refl (fun _=>False) w7) (Keeps.alloc _ _)))
   ·skip
    refine mix_move rfl (fun K hK=> ?_)
    go_simp
    go_at_call 103
    ((with_reducible refine(Hclo.out _ (Hk7.out.nt (Keeps.nt (Keeps.refl (fun _=>False) w7) (Keeps.alloc (S:=fun _=>False) (w7) (.cells #[.int .i64 0, .int .i64 0, .int .i64 0, .int .i64 0, .slice none 0 0, .int .i64 0, .int .i64 0, .int .i64 0, .bool false] 80))))).mono ?_);rintro e w5 hpost)
    obtain⟨al,cl2,ab2,cb2,rfl,hln,hbn2,hk5,hol,hob⟩:=ClosePost.uni hpost Hcv.out
    clear hpost
    dsimp only
    refine hK.out _ _ (by exact hs7.keep (Keeps.nt (Keeps.nt (Keeps.refl (fun _=>False) w7) (Keeps.alloc (S:=fun _=>False) (w7) (.cells #[.int .i64 0, .int .i64 0, .int .i64 0, .int .i64 0, .slice none 0 0, .int .i64 0, .int .i64 0, .int .i64 0, .bool false] 80))) hk5)) ?_
    clear hK K
    try simp only [Act.put,List.setIfInBounds_toArray,List.set_cons_zero,List.set_cons_succ]
    repeat (first
     |(refine mix_skip rfl (by rfl) ?_;try simp only [Act.put,List.setIfInBounds_toArray,List.set_cons_zero,List.set_cons_succ])
     |(refine mix_skipm rfl (by rfl) ?_;try simp only [Act.put,List.setIfInBounds_toArray,List.set_cons_zero,List.set_cons_succ])
     |(refine mix_take (v:= ?_) rfl (by rfl) ?_ ?_;rotate_left;(· intro w' hSw;unfold c7S at hSw;go_simp;(try with_reducible rfl));rotate_right;try simp only [Act.put,List.setIfInBounds_toArray,List.set_cons_zero,List.set_cons_succ]))
    refine mix_move rfl (fun K hK=> ?_)
    go_simp
    refine hK.out _ _ (by exact hs7.keep (Keeps.nt (Keeps.nt (Keeps.nt (Keeps.refl (fun _=>False) w7) (Keeps.alloc (S:=fun _=>False) (w7) (.cells #[.int .i64 0, .int .i64 0, .int .i64 0, .int .i64 0, .slice none 0 0, .int .i64 0, .int .i64 0, .int .i64 0, .bool false] 80))) hk5) (Keeps.alloc _ _))) ?_
    clear hK K
    try simp only [Act.put,List.setIfInBounds_toArray,List.set_cons_zero,List.set_cons_succ]
    obtain⟨wE,hwE⟩:∃x,x=(w5).alloc (.cells #[.slice none 0 0, .int .i64 0, .int .i64 0] 24):=⟨_,rfl⟩
    have k7E:Keeps (fun _=>False) w7 wE:=by rw [hwE];exact(Keeps.nt (Keeps.nt (Keeps.nt (Keeps.refl (fun _=>False) w7) (Keeps.alloc (S:=fun _=>False) (w7) (.cells #[.int .i64 0, .int .i64 0, .int .i64 0, .int .i64 0, .slice none 0 0, .int .i64 0, .int .i64 0, .int .i64 0, .bool false] 80))) hk5) (Keeps.alloc (S:=fun _=>False) (w5) (.cells #[.slice none 0 0, .int .i64 0, .int .i64 0] 24)))
    have hb8:wE.heap[w7.heap.size]?=some (.cells #[.int .i64 0, .int .i64 0, .int .i64 0, .int .i64 0, .slice none 0 0, .int .i64 0, .int .i64 0, .int .i64 0, .bool false] 80 (0,0)):=by rw [hwE];exact box_alloc (box_old (heap_alloc_new (w7) _) hk5 (by simp)) _
    have hb9:wE.heap[w5.heap.size]?=some (.cells #[.slice none 0 0, .int .i64 0, .int .i64 0] 24 (0,0)):=by rw [hwE];exact heap_alloc_new (w5) _
    have k5E:Keeps (fun _=>False) w5 wE:=by rw [hwE];exact(Keeps.nt (Keeps.refl (fun _=>False) w5) (Keeps.alloc (S:=fun _=>False) (w5) (.cells #[.slice none 0 0, .int .i64 0, .int .i64 0] 24)))
    have hlnE:=hln.of_keeps k5E
    have hbnE:=hbn2.of_keeps k5E
    have hs5:=hk5.size
    try simp at hs5
    have holE:∀b,(Value.slice al x.lines.length cl2).ownBlock=some b→w7.heap.size≤b:=fun b hb=>by have h1:=hol b hb;have h2:=((Keeps.nt (Keeps.refl (fun _=>False) w7) (Keeps.alloc (S:=fun _=>False) (w7) (.cells #[.int .i64 0, .int .i64 0, .int .i64 0, .int .i64 0, .slice none 0 0, .int .i64 0, .int .i64 0, .int .i64 0, .bool false] 80)))).size;omega
    have hobE:∀b,(Value.slice ab2 q.bal.length cb2).ownBlock=some b→w7.heap.size≤b:=fun b hb=>by have h1:=hob b hb;have h2:=((Keeps.nt (Keeps.refl (fun _=>False) w7) (Keeps.alloc (S:=fun _=>False) (w7) (.cells #[.int .i64 0, .int .i64 0, .int .i64 0, .int .i64 0, .slice none 0 0, .int .i64 0, .int .i64 0, .int .i64 0, .bool false] 80)))).size;omega
    rw [←hwE]
    obtain⟨b8,hb8e⟩:∃x,x=w7.heap.size:=⟨_,rfl⟩
    obtain⟨b9,hb9e⟩:∃x,x=w5.heap.size:=⟨_,rfl⟩
    have hne:¬b8=b9:=by rw [hb8e,hb9e];omega
    have hn8:w7.heap.size≤b8:=by rw [hb8e];omega
    have hn9:w7.heap.size≤b9:=by rw [hb9e];omega
    rw [←hb8e] at hb8⊢
    rw [←hb9e] at hb9⊢
    clear hb8e hb9e hwE hln hbn2 hk5 hol hob k5E hs5
    have ya0:=cell_of_cells hb8 0
    have yb0:=free_of_cells hb8 0
    have ya1:=cell_of_cells hb8 1
    have yb1:=free_of_cells hb8 1
    have ya2:=cell_of_cells hb8 2
    have yb2:=free_of_cells hb8 2
    have ya3:=cell_of_cells hb8 3
    have yb3:=free_of_cells hb8 3
    have ya4:=cell_of_cells hb8 4
    have yb4:=free_of_cells hb8 4
    have ya5:=cell_of_cells hb8 5
    have yb5:=free_of_cells hb8 5
    have ya6:=cell_of_cells hb8 6
    have yb6:=free_of_cells hb8 6
    have ya7:=cell_of_cells hb8 7
    have yb7:=free_of_cells hb8 7
    have ya8:=cell_of_cells hb8 8
    have yb8:=free_of_cells hb8 8
    have yc0:=cell_of_cells hb9 0
    have yd0:=free_of_cells hb9 0
    have yc1:=cell_of_cells hb9 1
    have yd1:=free_of_cells hb9 1
    have yc2:=cell_of_cells hb9 2
    have yd2:=free_of_cells hb9 2
    have yl8:=lt_of_block hb8
    have yl9:=lt_of_block hb9
    have hne2:¬b9=b8:=fun e=>hne e.symm
    have hl8:∀b,(Value.slice al x.lines.length cl2).ownBlock=some b→¬b=b8:=fun b hb e=>by subst e;exact ownsRow_ne hlnE hb8 (by decide) hb
    have hl9:∀b,(Value.slice al x.lines.length cl2).ownBlock=some b→¬b=b9:=fun b hb e=>by subst e;exact ownsRow_ne hlnE hb9 (by decide) hb
    have hq8:∀b,(Value.slice ab2 q.bal.length cb2).ownBlock=some b→¬b=b8:=fun b hb e=>by subst e;exact ownsRow_ne hbnE hb8 (by decide) hb
    have hq9:∀b,(Value.slice ab2 q.bal.length cb2).ownBlock=some b→¬b=b9:=fun b hb e=>by subst e;exact ownsRow_ne hbnE hb9 (by decide) hb
    obtain⟨hb8',k8⟩:=store9 hb8 (.int .i64 x.cycle) (.int .i64 x.fr) (.int .i64 x.te) (.int .i64 x.due) (.slice al x.lines.length cl2) (.int .i64 x.total) (.int .i64 x.credit) (.int .i64 x.min) (.bool x.grace)
    obtain⟨hb9',k9⟩:=store3 (box_old hb9 k8 hne2) (.slice ab2 q.bal.length cb2) (.int .i64 q.cr) (.int .i64 q.du)
    have hb8F:=box_old hb8' k9 (fun e=>hne e)
    have kE8:=k7E.trans (k8.mono fun i _ e=> .inr (by have e':i=b8:=e;omega))
    have kEF:=kE8.trans (k9.mono fun i _ e=> .inr (by have e':i=b9:=e;omega))
    have hlnF:=k9.row (k8.row hlnE hl8) hl9
    have hbnF:=k9.row (k8.row hbnE hq8) hq9
    have hsA:=hs7.keep kE8
    have hsB:=hs7.keep kEF
    obtain⟨Hb8,Hb9,Hb8',K8,K9,KE8,Hl8,Hl9,Hq8⟩:=hid9 hb8 hb9 hb8' k8 k9 kE8 hl8 hl9 hq8;clear hq8 hl9 hl8 kE8 k9 k8 hb8' hb9 hb8;obtain⟨Hq9,HlnE,HbnE,HsA⟩:=hid4 hq9 hlnE hbnE hsA;clear hsA hbnE hlnE hq9
    refine mix_move rfl (fun K hK=> ?_)
    go_simp
    refine hK.out _ _ (by exact HsA.out) ?_
    clear hK K
    try simp only [Act.put,List.setIfInBounds_toArray,List.set_cons_zero,List.set_cons_succ]
    repeat (first
     |(refine mix_skip rfl (by rfl) ?_;try simp only [Act.put,List.setIfInBounds_toArray,List.set_cons_zero,List.set_cons_succ])
     |(refine mix_skipm rfl (by rfl) ?_;try simp only [Act.put,List.setIfInBounds_toArray,List.set_cons_zero,List.set_cons_succ])
     |(refine mix_take (v:= ?_) rfl (by rfl) ?_ ?_;rotate_left;(· intro w' hSw;unfold c7S at hSw;go_simp;(try with_reducible rfl));rotate_right;try simp only [Act.put,List.setIfInBounds_toArray,List.set_cons_zero,List.set_cons_succ]))
    have HsB:=Lib.hid hsB
    clear hsB
    refine mix_move rfl (fun K hK=> ?_)
    go_simp
    refine hK.out _ _ (by exact HsB.out) ?_
    clear hK K
    try simp only [Act.put,List.setIfInBounds_toArray,List.set_cons_zero,List.set_cons_succ]
    repeat (first
     |(refine mix_skip rfl (by rfl) ?_;try simp only [Act.put,List.setIfInBounds_toArray,List.set_cons_zero,List.set_cons_succ])
     |(refine mix_skipm rfl (by rfl) ?_;try simp only [Act.put,List.setIfInBounds_toArray,List.set_cons_zero,List.set_cons_succ])
     |(refine mix_take (v:= ?_) rfl (by rfl) ?_ ?_;rotate_left;(· intro w' hSw;unfold c7S at hSw;go_simp;(try with_reducible rfl));rotate_right;try simp only [Act.put,List.setIfInBounds_toArray,List.set_cons_zero,List.set_cons_succ]))
    refine mix_done ?_
    clear ya0 yb0 ya1 yb1 ya2 yb2 ya3 yb3 ya4 yb4 ya5 yb5 ya6 yb6 ya7 yb7 ya8 yb8 yc0 yd0 yc1 yd1 yc2 yd2 yl8 yl9 hs7
    obtain⟨wF,hwF⟩:∃y,y=((((((((((((wE.setCell ⟨b8,0,none⟩ (.int .i64 x.cycle)).setCell ⟨b8,1,none⟩ (.int .i64 x.fr)).setCell ⟨b8,2,none⟩ (.int .i64 x.te)).setCell ⟨b8,3,none⟩ (.int .i64 x.due)).setCell ⟨b8,4,none⟩ (.slice al x.lines.length cl2)).setCell ⟨b8,5,none⟩ (.int .i64 x.total)).setCell ⟨b8,6,none⟩ (.int .i64 x.credit)).setCell ⟨b8,7,none⟩ (.int .i64 x.min)).setCell ⟨b8,8,none⟩ (.bool x.grace)).setCell ⟨b9,0,none⟩ (.slice ab2 q.bal.length cb2)).setCell ⟨b9,1,none⟩ (.int .i64 q.cr)).setCell ⟨b9,2,none⟩ (.int .i64 q.du)):=⟨_,rfl⟩
    rw [←hwF] at hb8F hb9' kEF hlnF hbnF⊢
    clear hwF
    have Hn8:=Lib.hid hn8
    clear hn8
    have hr7:=Hr4.out.keep0 Hk7.out
    have hrF:=hr7.keep0 kEF
    have b19:=cell_of_cells hrF.blk 19
    have hnil:∀w:World,(binOp .neq 72 .nilFunc .nilFunc).run Tryz.prog w= .ok (.bool false) w:=fun _=>by kernel_rfl
    rcases D with _|⟨x',q'⟩
    ·have hC':=HC.out
     simp only at hC'
     subst hC'
     have hcv:=Hcv.out
     simp only [cloVal,Prod.mk.injEq] at hcv
     obtain⟨rfl,rfl,rfl⟩:=hcv
     obtain⟨Hb8F,Hb9',KEF,HlnF,HbnF,Hr7,HrF,Hnil,HolE⟩:=hid9 hb8F hb9' kEF hlnF hbnF hr7 hrF hnil holE;clear holE hnil hrF hr7 hbnF hlnF kEF hb9' hb8F;have HobE:=Lib.hid hobE;clear hobE
     go_wp2
     go_ret
     exact⟨rfl,HrF.out⟩
    ·have hC':=HC.out
     simp only at hC'
     have hcv:=Hcv.out
     simp only [cloVal,Prod.mk.injEq] at hcv
     obtain⟨rfl,rfl,rfl⟩:=hcv
     obtain⟨hql,_⟩:=closeR_ok Hz.out Hpr.out (by rw [HVl.out];exact H.out.nb.symm) (List.all_eq_true.2 fun y hy=>(moneyP_iff y).2 (HVb.out y hy)) HD.out
     have hqn:x'.lines.length=x'.lines.length:=rfl
     rw [H.out.nb] at hql
     rw [hql] at hbnF hb9' hobE⊢
     have u10:=(heap_setCell_same _ _ 10 _ _ (.slice ab2 n cb2) hrF.blk).trans rfl
     have u11:=(heap_setCell_same _ _ 11 _ _ (.int .i64 q'.cr) u10).trans rfl
     have u12:=(heap_setCell_same _ _ 12 _ _ (.int .i64 q'.du) u11).trans rfl
     have kB:Keeps (fun i=>i=B) wF (((wF.setCell ⟨B,10,none⟩ (.slice ab2 n cb2)).setCell ⟨B,11,none⟩ (.int .i64 q'.cr)).setCell ⟨B,12,none⟩ (.int .i64 q'.du)):=((Keeps.setCell (S:=fun i=>i=B) _ _ _ rfl).trans (Keeps.setCell _ _ _ (.inl rfl))).trans (Keeps.setCell _ _ _ (.inl rfl))
     have hupd:=hr7.upd kEF kB u12 hbnF hrF.rts hql Hr4.out.nr (.inr hobE) (.inl rfl)
     have hB8:¬b8=B:=fun e=>by
      have h1:=hb8F
      rw [e,hrF.blk] at h1
      injection h1 with h1
      injection h1 with _ h1 _
      exact absurd h1 (by decide)
     have hb8G:=box_old hb8F kB hB8
     have hlnG:=kB.row hlnF (fun i hi e=>by have e':i=B:=e;subst e';exact ownsRow_ne hlnF hrF.blk (by decide) hi)
     have p0:=cell_of_cells hb9' 0
     have p1:=cell_of_cells hb9' 1
     have p2:=cell_of_cells hb9' 2
     have pl:=lt_of_block hb9'
     have b10:=cell_of_cells hrF.blk 10
     have b11:=cell_of_cells hrF.blk 11
     have b12:=cell_of_cells hrF.blk 12
     have f10:=free_of_cells hrF.blk 10
     have f11:=free_of_cells hrF.blk 11
     have f12:=free_of_cells hrF.blk 12
     have bl2:=lt_of_block hrF.blk
     obtain⟨W12,hW12⟩:∃y,y=(((wF.setCell ⟨B,10,none⟩ (.slice ab2 n cb2)).setCell ⟨B,11,none⟩ (.int .i64 q'.cr)).setCell ⟨B,12,none⟩ (.int .i64 q'.du)):=⟨_,rfl⟩
     rw [←hW12] at hupd hb8G hlnG
     have hS13:=r13S.keep (r13S.of hupd.blk rfl hb8G) (Keeps.drew (S:=fun _=>False) _) (by simp) (by simp)
     have holX:Own w0 X (.slice al x'.lines.length cl2):=hr7.ownN holE
     obtain⟨Hb8F,Hb9',KEF,HlnF,HbnF,Hr7,HrF,HolE,HobE⟩:=hid9 hb8F hb9' kEF hlnF hbnF hr7 hrF holE hobE;clear hobE holE hrF hr7 hbnF hlnF kEF hb9' hb8F;obtain⟨Hql,Hqn,U10,U11,U12,KB,Hupd,HB8,Hb8G⟩:=hid9 hql hqn u10 u11 u12 kB hupd hB8 hb8G;clear hb8G hB8 hupd kB u12 u11 u10 hqn hql;obtain⟨HlnG,HS13,HolX,HC'⟩:=hid4 hlnG hS13 holX hC';clear hC' holX hS13 hlnG
     go_wp2_with fail
     rw [←hW12]
     clear hW12 p0 p1 p2 pl b10 b11 b12 f10 f11 f12 bl2 b19 hnil
     refine wp_region_mixy (r13S B b8 (.slice av m cv) x'.cycle x'.fr x'.te x'.due (.slice al x'.lines.length cl2) x'.total x'.credit x'.min x'.grace) 10 (.take 0 (.take 1 (.take 2 (.take 3 (.take 4 (.take 5 (.move 6 (.move 7 (.move 8 (.move 9 (.move 10 .done))))))))))) (by kernel_rfl) (by kernel_rfl) ?_ ?_
     ·exact HS13.out
     intro w13 hs13 hk13
     repeat (first
      |(refine mix_skip rfl (by rfl) ?_;try simp only [Act.put,List.setIfInBounds_toArray,List.set_cons_zero,List.set_cons_succ])
      |(refine mix_skipm rfl (by rfl) ?_;try simp only [Act.put,List.setIfInBounds_toArray,List.set_cons_zero,List.set_cons_succ])
      |(refine mix_take (v:= ?_) rfl (by rfl) ?_ ?_;rotate_left;(· intro w' hSw;unfold r13S at hSw;go_simp;(try with_reducible rfl));rotate_right;try simp only [Act.put,List.setIfInBounds_toArray,List.set_cons_zero,List.set_cons_succ]))
     refine mix_move rfl (fun K hK=> ?_)
     go_simp
     refine hK.out _ _ (by exact hs13.keep (S:=fun _=>False) (Keeps.alloc _ _) (by simp) (by simp)) ?_
     clear hK K
     try simp only [Act.put,List.setIfInBounds_toArray,List.set_cons_zero,List.set_cons_succ]
     repeat (first
      |(refine mix_skip rfl (by rfl) ?_;try simp only [Act.put,List.setIfInBounds_toArray,List.set_cons_zero,List.set_cons_succ])
      |(refine mix_skipm rfl (by rfl) ?_;try simp only [Act.put,List.setIfInBounds_toArray,List.set_cons_zero,List.set_cons_succ])
      |(refine mix_take (v:= ?_) rfl (by rfl) ?_ ?_;rotate_left;(· intro w' hSw;unfold r13S at hSw;go_simp;(try with_reducible rfl));rotate_right;try simp only [Act.put,List.setIfInBounds_toArray,List.set_cons_zero,List.set_cons_succ]))
     have hk13a:=hk13.nt (Keeps.alloc w13 (.cells (SV.cells ⟨x',al,cl2⟩).toArray 80))
     have hrow13:=(Hupd.out.keep0 hk13a).out
     rw [Hmm.out] at hrow13
     refine mix_move rfl (fun K hK=> ?_)
     refine step_append_row rfl (.tmp 107) (.tmp 109) 43 rfl 0 80 i0 _ 9 88 Tryz.underlying43 Hi.out Hi0.out Hi1.out Hi2.out rfl (by decide) (.slice av m cv) m _ rfl hrow13 _ 1 _ rfl (Reads.litAt _ _ _ 9 1 _ (by first|rfl|simp) rfl) (by simp [Value.oneCell']) (by unfold maxLen;omega) (by omega) (Nat.zero_le _) ?_
     intro v14 w14 hown14 hk14 hf14
     obtain⟨a14,c14,rfl,_,_⟩:=ownsRow_shape hown14
     have hadd:=Hupd.out.addOut (x:=⟨x',al,cl2⟩) hk13a hk14 (by rw [Hmm.out,List.flatMap_append];exact hown14) (HlnG.out.of_keeps hk13a) HolX.out hf14
     have h14b:=box_old (Hupd.out.keep0 hk13a).blk hk14 (fun e=>ownsRow_ne hrow13 (Hupd.out.keep0 hk13a).blk (by decide) e)
     have hb8n:W.heap.size≤b8:=by have h1:=Hk4w.out.size;have h2:=Hk7.out.size;have h3:=Hn8.out;omega
     have h14s:¬(Value.slice av m cv).ownBlock=some b8:=fun e=>by have:=own_lt H.out.out e;omega
     have o16:=cell_of_cells h14b 16
     have of16:=free_of_cells h14b 16
     have ol16:=lt_of_block h14b
     refine hK.out _ _ (by exact(hs13.keep (S:=fun _=>False) (Keeps.alloc _ _) (by simp) (by simp)).keep hk14 (fun e=>ownsRow_ne hrow13 (Hupd.out.keep0 hk13a).blk (by decide) e) h14s) ?_
     clear hK K
     try simp only [Act.put,List.setIfInBounds_toArray,List.set_cons_zero,List.set_cons_succ]
     obtain⟨Hk13a,Hrow13,Hown14,Hk14,Hadd,H14b,Hb8n,H14s,Hk13⟩:=hid9 hk13a hrow13 hown14 hk14 hadd h14b hb8n h14s hk13;clear hk13 h14s hb8n h14b hadd hk14 hown14 hrow13 hk13a
     clear hs13 hf14
     repeat (first
      |(refine mix_takem (v:= ?_) rfl (by rfl) ?_ ?_;rotate_left;(· intro w' hSw;unfold r13S at hSw;go_simp;(try with_reducible rfl));rotate_right;try simp only [Act.put,List.setIfInBounds_toArray,List.set_cons_zero,List.set_cons_succ]))
     refine mix_last rfl (fun K hK=> ?_)
     go_simp
     refine hK.out _ _ ?_
     clear hK K
     try simp only [Act.put,List.setIfInBounds_toArray,List.set_cons_zero,List.set_cons_succ]
     refine mix_done ?_
     clear o16 of16 ol16
     have hfr:=runFresh_any Hadd.out (by omega)
     have Hfr:=Lib.hid hfr
     clear hfr
     go_wp2_with fail
     refine Hfr.out.mono ?_
     rintro e w16 ⟨rfl,a16,b16',hr16⟩
     have hCC:=HC'.out
     subst hCC
     have Hr16:=Lib.hid hr16;clear hr16
     go_wp2
     go_ret
     exact⟨rfl,_,_,_,_,_,Hr16.out⟩
   ·skip
    refine mix_move rfl (fun K hK=> ?_)
    go_simp
    refine hK.out _ _ (by exact hs7.keep (Keeps.nt (Keeps.nt (Keeps.refl (fun _=>False) w7) (Keeps.alloc (S:=fun _=>False) (w7) (.cells #[.int .i64 0, .int .i64 0, .int .i64 0, .int .i64 0, .slice none 0 0, .int .i64 0, .int .i64 0, .int .i64 0, .bool false] 80))) (Keeps.alloc _ _))) ?_
    clear hK K
    try simp only [Act.put,List.setIfInBounds_toArray,List.set_cons_zero,List.set_cons_succ]
    refine mix_move rfl (fun K hK=> ?_)
    go_simp
    go_at_call 103
    ((with_reducible refine(Hclo.out _ (Hk7.out.nt (Keeps.nt (Keeps.nt (Keeps.refl (fun _=>False) w7) (Keeps.alloc (S:=fun _=>False) (w7) (.cells #[.int .i64 0, .int .i64 0, .int .i64 0, .int .i64 0, .slice none 0 0, .int .i64 0, .int .i64 0, .int .i64 0, .bool false] 80))) (Keeps.alloc (S:=fun _=>False) ((w7).alloc (.cells #[.int .i64 0, .int .i64 0, .int .i64 0, .int .i64 0, .slice none 0 0, .int .i64 0, .int .i64 0, .int .i64 0, .bool false] 80)) (.cells #[.slice none 0 0, .int .i64 0, .int .i64 0] 24))))).mono ?_);rintro e w5 hpost)
    obtain⟨al,cl2,ab2,cb2,rfl,hln,hbn2,hk5,hol,hob⟩:=ClosePost.uni hpost Hcv.out
    clear hpost
    dsimp only
    refine hK.out _ _ (by exact hs7.keep (Keeps.nt (Keeps.nt (Keeps.nt (Keeps.refl (fun _=>False) w7) (Keeps.alloc (S:=fun _=>False) (w7) (.cells #[.int .i64 0, .int .i64 0, .int .i64 0, .int .i64 0, .slice none 0 0, .int .i64 0, .int .i64 0, .int .i64 0, .bool false] 80))) (Keeps.alloc (S:=fun _=>False) ((w7).alloc (.cells #[.int .i64 0, .int .i64 0, .int .i64 0, .int .i64 0, .slice none 0 0, .int .i64 0, .int .i64 0, .int .i64 0, .bool false] 80)) (.cells #[.slice none 0 0, .int .i64 0, .int .i64 0] 24))) hk5)) ?_
    clear hK K
    try simp only [Act.put,List.setIfInBounds_toArray,List.set_cons_zero,List.set_cons_succ]
    repeat (first
     |(refine mix_skip rfl (by rfl) ?_;try simp only [Act.put,List.setIfInBounds_toArray,List.set_cons_zero,List.set_cons_succ])
     |(refine mix_skipm rfl (by rfl) ?_;try simp only [Act.put,List.setIfInBounds_toArray,List.set_cons_zero,List.set_cons_succ])
     |(refine mix_take (v:= ?_) rfl (by rfl) ?_ ?_;rotate_left;(· intro w' hSw;unfold c7S at hSw;go_simp;(try with_reducible rfl));rotate_right;try simp only [Act.put,List.setIfInBounds_toArray,List.set_cons_zero,List.set_cons_succ]))
    obtain⟨wE,hwE⟩:∃x,x=w5:=⟨_,rfl⟩
    have k7E:Keeps (fun _=>False) w7 wE:=by rw [hwE];exact(Keeps.nt (Keeps.nt (Keeps.nt (Keeps.refl (fun _=>False) w7) (Keeps.alloc (S:=fun _=>False) (w7) (.cells #[.int .i64 0, .int .i64 0, .int .i64 0, .int .i64 0, .slice none 0 0, .int .i64 0, .int .i64 0, .int .i64 0, .bool false] 80))) (Keeps.alloc (S:=fun _=>False) ((w7).alloc (.cells #[.int .i64 0, .int .i64 0, .int .i64 0, .int .i64 0, .slice none 0 0, .int .i64 0, .int .i64 0, .int .i64 0, .bool false] 80)) (.cells #[.slice none 0 0, .int .i64 0, .int .i64 0] 24))) hk5)
    have hb8:wE.heap[w7.heap.size]?=some (.cells #[.int .i64 0, .int .i64 0, .int .i64 0, .int .i64 0, .slice none 0 0, .int .i64 0, .int .i64 0, .int .i64 0, .bool false] 80 (0,0)):=by rw [hwE];exact box_old (box_alloc (heap_alloc_new (w7) _) _) hk5 (by simp)
    have hb9:wE.heap[w7.heap.size+1]?=some (.cells #[.slice none 0 0, .int .i64 0, .int .i64 0] 24 (0,0)):=by rw [hwE];exact box_old (halloc_at2 _ _ (by simp)) hk5 (by simp)
    have k5E:Keeps (fun _=>False) w5 wE:=by rw [hwE];exact(Keeps.refl (fun _=>False) w5)
    have hlnE:=hln.of_keeps k5E
    have hbnE:=hbn2.of_keeps k5E
    have hs5:=hk5.size
    try simp at hs5
    have holE:∀b,(Value.slice al x.lines.length cl2).ownBlock=some b→w7.heap.size≤b:=fun b hb=>by have h1:=hol b hb;have h2:=((Keeps.nt (Keeps.nt (Keeps.refl (fun _=>False) w7) (Keeps.alloc (S:=fun _=>False) (w7) (.cells #[.int .i64 0, .int .i64 0, .int .i64 0, .int .i64 0, .slice none 0 0, .int .i64 0, .int .i64 0, .int .i64 0, .bool false] 80))) (Keeps.alloc (S:=fun _=>False) ((w7).alloc (.cells #[.int .i64 0, .int .i64 0, .int .i64 0, .int .i64 0, .slice none 0 0, .int .i64 0, .int .i64 0, .int .i64 0, .bool false] 80)) (.cells #[.slice none 0 0, .int .i64 0, .int .i64 0] 24)))).size;omega
    have hobE:∀b,(Value.slice ab2 q.bal.length cb2).ownBlock=some b→w7.heap.size≤b:=fun b hb=>by have h1:=hob b hb;have h2:=((Keeps.nt (Keeps.nt (Keeps.refl (fun _=>False) w7) (Keeps.alloc (S:=fun _=>False) (w7) (.cells #[.int .i64 0, .int .i64 0, .int .i64 0, .int .i64 0, .slice none 0 0, .int .i64 0, .int .i64 0, .int .i64 0, .bool false] 80))) (Keeps.alloc (S:=fun _=>False) ((w7).alloc (.cells #[.int .i64 0, .int .i64 0, .int .i64 0, .int .i64 0, .slice none 0 0, .int .i64 0, .int .i64 0, .int .i64 0, .bool false] 80)) (.cells #[.slice none 0 0, .int .i64 0, .int .i64 0] 24)))).size;omega
    rw [←hwE]
    obtain⟨b8,hb8e⟩:∃x,x=w7.heap.size:=⟨_,rfl⟩
    obtain⟨b9,hb9e⟩:∃x,x=w7.heap.size+1:=⟨_,rfl⟩
    have hne:¬b8=b9:=by rw [hb8e,hb9e];omega
    have hn8:w7.heap.size≤b8:=by rw [hb8e];omega
    have hn9:w7.heap.size≤b9:=by rw [hb9e];omega
    rw [←hb9e] at hb9⊢
    rw [←hb8e] at hb8⊢
    clear hb8e hb9e hwE hln hbn2 hk5 hol hob k5E hs5
    have ya0:=cell_of_cells hb8 0
    have yb0:=free_of_cells hb8 0
    have ya1:=cell_of_cells hb8 1
    have yb1:=free_of_cells hb8 1
    have ya2:=cell_of_cells hb8 2
    have yb2:=free_of_cells hb8 2
    have ya3:=cell_of_cells hb8 3
    have yb3:=free_of_cells hb8 3
    have ya4:=cell_of_cells hb8 4
    have yb4:=free_of_cells hb8 4
    have ya5:=cell_of_cells hb8 5
    have yb5:=free_of_cells hb8 5
    have ya6:=cell_of_cells hb8 6
    have yb6:=free_of_cells hb8 6
    have ya7:=cell_of_cells hb8 7
    have yb7:=free_of_cells hb8 7
    have ya8:=cell_of_cells hb8 8
    have yb8:=free_of_cells hb8 8
    have yc0:=cell_of_cells hb9 0
    have yd0:=free_of_cells hb9 0
    have yc1:=cell_of_cells hb9 1
    have yd1:=free_of_cells hb9 1
    have yc2:=cell_of_cells hb9 2
    have yd2:=free_of_cells hb9 2
    have yl8:=lt_of_block hb8
    have yl9:=lt_of_block hb9
    have hne2:¬b9=b8:=fun e=>hne e.symm
    have hl8:∀b,(Value.slice al x.lines.length cl2).ownBlock=some b→¬b=b8:=fun b hb e=>by subst e;exact ownsRow_ne hlnE hb8 (by decide) hb
    have hl9:∀b,(Value.slice al x.lines.length cl2).ownBlock=some b→¬b=b9:=fun b hb e=>by subst e;exact ownsRow_ne hlnE hb9 (by decide) hb
    have hq8:∀b,(Value.slice ab2 q.bal.length cb2).ownBlock=some b→¬b=b8:=fun b hb e=>by subst e;exact ownsRow_ne hbnE hb8 (by decide) hb
    have hq9:∀b,(Value.slice ab2 q.bal.length cb2).ownBlock=some b→¬b=b9:=fun b hb e=>by subst e;exact ownsRow_ne hbnE hb9 (by decide) hb
    obtain⟨hb8',k8⟩:=store9 hb8 (.int .i64 x.cycle) (.int .i64 x.fr) (.int .i64 x.te) (.int .i64 x.due) (.slice al x.lines.length cl2) (.int .i64 x.total) (.int .i64 x.credit) (.int .i64 x.min) (.bool x.grace)
    obtain⟨hb9',k9⟩:=store3 (box_old hb9 k8 hne2) (.slice ab2 q.bal.length cb2) (.int .i64 q.cr) (.int .i64 q.du)
    have hb8F:=box_old hb8' k9 (fun e=>hne e)
    have kE8:=k7E.trans (k8.mono fun i _ e=> .inr (by have e':i=b8:=e;omega))
    have kEF:=kE8.trans (k9.mono fun i _ e=> .inr (by have e':i=b9:=e;omega))
    have hlnF:=k9.row (k8.row hlnE hl8) hl9
    have hbnF:=k9.row (k8.row hbnE hq8) hq9
    have hsA:=hs7.keep kE8
    have hsB:=hs7.keep kEF
    obtain⟨Hb8,Hb9,Hb8',K8,K9,KE8,Hl8,Hl9,Hq8⟩:=hid9 hb8 hb9 hb8' k8 k9 kE8 hl8 hl9 hq8;clear hq8 hl9 hl8 kE8 k9 k8 hb8' hb9 hb8;obtain⟨Hq9,HlnE,HbnE,HsA⟩:=hid4 hq9 hlnE hbnE hsA;clear hsA hbnE hlnE hq9
    refine mix_move rfl (fun K hK=> ?_)
    go_simp
    refine hK.out _ _ (by exact HsA.out) ?_
    clear hK K
    try simp only [Act.put,List.setIfInBounds_toArray,List.set_cons_zero,List.set_cons_succ]
    repeat (first
     |(refine mix_skip rfl (by rfl) ?_;try simp only [Act.put,List.setIfInBounds_toArray,List.set_cons_zero,List.set_cons_succ])
     |(refine mix_skipm rfl (by rfl) ?_;try simp only [Act.put,List.setIfInBounds_toArray,List.set_cons_zero,List.set_cons_succ])
     |(refine mix_take (v:= ?_) rfl (by rfl) ?_ ?_;rotate_left;(· intro w' hSw;unfold c7S at hSw;go_simp;(try with_reducible rfl));rotate_right;try simp only [Act.put,List.setIfInBounds_toArray,List.set_cons_zero,List.set_cons_succ]))
    have HsB:=Lib.hid hsB
    clear hsB
    refine mix_move rfl (fun K hK=> ?_)
    go_simp
    refine hK.out _ _ (by exact HsB.out) ?_
    clear hK K
    try simp only [Act.put,List.setIfInBounds_toArray,List.set_cons_zero,List.set_cons_succ]
    repeat (first
     |(refine mix_skip rfl (by rfl) ?_;try simp only [Act.put,List.setIfInBounds_toArray,List.set_cons_zero,List.set_cons_succ])
     |(refine mix_skipm rfl (by rfl) ?_;try simp only [Act.put,List.setIfInBounds_toArray,List.set_cons_zero,List.set_cons_succ])
     |(refine mix_take (v:= ?_) rfl (by rfl) ?_ ?_;rotate_left;(· intro w' hSw;unfold c7S at hSw;go_simp;(try with_reducible rfl));rotate_right;try simp only [Act.put,List.setIfInBounds_toArray,List.set_cons_zero,List.set_cons_succ]))
    refine mix_done ?_
    clear ya0 yb0 ya1 yb1 ya2 yb2 ya3 yb3 ya4 yb4 ya5 yb5 ya6 yb6 ya7 yb7 ya8 yb8 yc0 yd0 yc1 yd1 yc2 yd2 yl8 yl9 hs7
    obtain⟨wF,hwF⟩:∃y,y=((((((((((((wE.setCell ⟨b8,0,none⟩ (.int .i64 x.cycle)).setCell ⟨b8,1,none⟩ (.int .i64 x.fr)).setCell ⟨b8,2,none⟩ (.int .i64 x.te)).setCell ⟨b8,3,none⟩ (.int .i64 x.due)).setCell ⟨b8,4,none⟩ (.slice al x.lines.length cl2)).setCell ⟨b8,5,none⟩ (.int .i64 x.total)).setCell ⟨b8,6,none⟩ (.int .i64 x.credit)).setCell ⟨b8,7,none⟩ (.int .i64 x.min)).setCell ⟨b8,8,none⟩ (.bool x.grace)).setCell ⟨b9,0,none⟩ (.slice ab2 q.bal.length cb2)).setCell ⟨b9,1,none⟩ (.int .i64 q.cr)).setCell ⟨b9,2,none⟩ (.int .i64 q.du)):=⟨_,rfl⟩
    rw [←hwF] at hb8F hb9' kEF hlnF hbnF⊢
    clear hwF
    have Hn8:=Lib.hid hn8
    clear hn8
    have hr7:=Hr4.out.keep0 Hk7.out
    have hrF:=hr7.keep0 kEF
    have b19:=cell_of_cells hrF.blk 19
    have hnil:∀w:World,(binOp .neq 72 .nilFunc .nilFunc).run Tryz.prog w= .ok (.bool false) w:=fun _=>by kernel_rfl
    rcases D with _|⟨x',q'⟩
    ·have hC':=HC.out
     simp only at hC'
     subst hC'
     have hcv:=Hcv.out
     simp only [cloVal,Prod.mk.injEq] at hcv
     obtain⟨rfl,rfl,rfl⟩:=hcv
     obtain⟨Hb8F,Hb9',KEF,HlnF,HbnF,Hr7,HrF,Hnil,HolE⟩:=hid9 hb8F hb9' kEF hlnF hbnF hr7 hrF hnil holE;clear holE hnil hrF hr7 hbnF hlnF kEF hb9' hb8F;have HobE:=Lib.hid hobE;clear hobE
     go_wp2
     go_ret
     exact⟨rfl,HrF.out⟩
    ·have hC':=HC.out
     simp only at hC'
     have hcv:=Hcv.out
     simp only [cloVal,Prod.mk.injEq] at hcv
     obtain⟨rfl,rfl,rfl⟩:=hcv
     obtain⟨hql,_⟩:=closeR_ok Hz.out Hpr.out (by rw [HVl.out];exact H.out.nb.symm) (List.all_eq_true.2 fun y hy=>(moneyP_iff y).2 (HVb.out y hy)) HD.out
     have hqn:x'.lines.length=x'.lines.length:=rfl
     rw [H.out.nb] at hql
     rw [hql] at hbnF hb9' hobE⊢
     have u10:=(heap_setCell_same _ _ 10 _ _ (.slice ab2 n cb2) hrF.blk).trans rfl
     have u11:=(heap_setCell_same _ _ 11 _ _ (.int .i64 q'.cr) u10).trans rfl
     have u12:=(heap_setCell_same _ _ 12 _ _ (.int .i64 q'.du) u11).trans rfl
     have kB:Keeps (fun i=>i=B) wF (((wF.setCell ⟨B,10,none⟩ (.slice ab2 n cb2)).setCell ⟨B,11,none⟩ (.int .i64 q'.cr)).setCell ⟨B,12,none⟩ (.int .i64 q'.du)):=((Keeps.setCell (S:=fun i=>i=B) _ _ _ rfl).trans (Keeps.setCell _ _ _ (.inl rfl))).trans (Keeps.setCell _ _ _ (.inl rfl))
     have hupd:=hr7.upd kEF kB u12 hbnF hrF.rts hql Hr4.out.nr (.inr hobE) (.inl rfl)
     have hB8:¬b8=B:=fun e=>by
      have h1:=hb8F
      rw [e,hrF.blk] at h1
      injection h1 with h1
      injection h1 with _ h1 _
      exact absurd h1 (by decide)
     have hb8G:=box_old hb8F kB hB8
     have hlnG:=kB.row hlnF (fun i hi e=>by have e':i=B:=e;subst e';exact ownsRow_ne hlnF hrF.blk (by decide) hi)
     have p0:=cell_of_cells hb9' 0
     have p1:=cell_of_cells hb9' 1
     have p2:=cell_of_cells hb9' 2
     have pl:=lt_of_block hb9'
     have b10:=cell_of_cells hrF.blk 10
     have b11:=cell_of_cells hrF.blk 11
     have b12:=cell_of_cells hrF.blk 12
     have f10:=free_of_cells hrF.blk 10
     have f11:=free_of_cells hrF.blk 11
     have f12:=free_of_cells hrF.blk 12
     have bl2:=lt_of_block hrF.blk
     obtain⟨W12,hW12⟩:∃y,y=(((wF.setCell ⟨B,10,none⟩ (.slice ab2 n cb2)).setCell ⟨B,11,none⟩ (.int .i64 q'.cr)).setCell ⟨B,12,none⟩ (.int .i64 q'.du)):=⟨_,rfl⟩
     rw [←hW12] at hupd hb8G hlnG
     have hS13:=r13S.keep (r13S.of hupd.blk rfl hb8G) (Keeps.drew (S:=fun _=>False) _) (by simp) (by simp)
     have holX:Own w0 X (.slice al x'.lines.length cl2):=hr7.ownN holE
     obtain⟨Hb8F,Hb9',KEF,HlnF,HbnF,Hr7,HrF,HolE,HobE⟩:=hid9 hb8F hb9' kEF hlnF hbnF hr7 hrF holE hobE;clear hobE holE hrF hr7 hbnF hlnF kEF hb9' hb8F;obtain⟨Hql,Hqn,U10,U11,U12,KB,Hupd,HB8,Hb8G⟩:=hid9 hql hqn u10 u11 u12 kB hupd hB8 hb8G;clear hb8G hB8 hupd kB u12 u11 u10 hqn hql;obtain⟨HlnG,HS13,HolX,HC'⟩:=hid4 hlnG hS13 holX hC';clear hC' holX hS13 hlnG
     go_wp2_with fail
     rw [←hW12]
     clear hW12 p0 p1 p2 pl b10 b11 b12 f10 f11 f12 bl2 b19 hnil
     refine wp_region_mixy (r13S B b8 (.slice av m cv) x'.cycle x'.fr x'.te x'.due (.slice al x'.lines.length cl2) x'.total x'.credit x'.min x'.grace) 10 (.take 0 (.take 1 (.take 2 (.take 3 (.take 4 (.take 5 (.move 6 (.move 7 (.move 8 (.move 9 (.move 10 .done))))))))))) (by kernel_rfl) (by kernel_rfl) ?_ ?_
     ·exact HS13.out
     intro w13 hs13 hk13
     repeat (first
      |(refine mix_skip rfl (by rfl) ?_;try simp only [Act.put,List.setIfInBounds_toArray,List.set_cons_zero,List.set_cons_succ])
      |(refine mix_skipm rfl (by rfl) ?_;try simp only [Act.put,List.setIfInBounds_toArray,List.set_cons_zero,List.set_cons_succ])
      |(refine mix_take (v:= ?_) rfl (by rfl) ?_ ?_;rotate_left;(· intro w' hSw;unfold r13S at hSw;go_simp;(try with_reducible rfl));rotate_right;try simp only [Act.put,List.setIfInBounds_toArray,List.set_cons_zero,List.set_cons_succ]))
     refine mix_move rfl (fun K hK=> ?_)
     go_simp
     refine hK.out _ _ (by exact hs13.keep (S:=fun _=>False) (Keeps.alloc _ _) (by simp) (by simp)) ?_
     clear hK K
     try simp only [Act.put,List.setIfInBounds_toArray,List.set_cons_zero,List.set_cons_succ]
     repeat (first
      |(refine mix_skip rfl (by rfl) ?_;try simp only [Act.put,List.setIfInBounds_toArray,List.set_cons_zero,List.set_cons_succ])
      |(refine mix_skipm rfl (by rfl) ?_;try simp only [Act.put,List.setIfInBounds_toArray,List.set_cons_zero,List.set_cons_succ])
      |(refine mix_take (v:= ?_) rfl (by rfl) ?_ ?_;rotate_left;(· intro w' hSw;unfold r13S at hSw;go_simp;(try with_reducible rfl));rotate_right;try simp only [Act.put,List.setIfInBounds_toArray,List.set_cons_zero,List.set_cons_succ]))
     have hk13a:=hk13.nt (Keeps.alloc w13 (.cells (SV.cells ⟨x',al,cl2⟩).toArray 80))
     have hrow13:=(Hupd.out.keep0 hk13a).out
     rw [Hmm.out] at hrow13
     refine mix_move rfl (fun K hK=> ?_)
     refine step_append_row rfl (.tmp 107) (.tmp 109) 43 rfl 0 80 i0 _ 9 88 Tryz.underlying43 Hi.out Hi0.out Hi1.out Hi2.out rfl (by decide) (.slice av m cv) m _ rfl hrow13 _ 1 _ rfl (Reads.litAt _ _ _ 9 1 _ (by first|rfl|simp) rfl) (by simp [Value.oneCell']) (by unfold maxLen;omega) (by omega) (Nat.zero_le _) ?_
     intro v14 w14 hown14 hk14 hf14
     obtain⟨a14,c14,rfl,_,_⟩:=ownsRow_shape hown14
     have hadd:=Hupd.out.addOut (x:=⟨x',al,cl2⟩) hk13a hk14 (by rw [Hmm.out,List.flatMap_append];exact hown14) (HlnG.out.of_keeps hk13a) HolX.out hf14
     have h14b:=box_old (Hupd.out.keep0 hk13a).blk hk14 (fun e=>ownsRow_ne hrow13 (Hupd.out.keep0 hk13a).blk (by decide) e)
     have hb8n:W.heap.size≤b8:=by have h1:=Hk4w.out.size;have h2:=Hk7.out.size;have h3:=Hn8.out;omega
     have h14s:¬(Value.slice av m cv).ownBlock=some b8:=fun e=>by have:=own_lt H.out.out e;omega
     have o16:=cell_of_cells h14b 16
     have of16:=free_of_cells h14b 16
     have ol16:=lt_of_block h14b
     refine hK.out _ _ (by exact(hs13.keep (S:=fun _=>False) (Keeps.alloc _ _) (by simp) (by simp)).keep hk14 (fun e=>ownsRow_ne hrow13 (Hupd.out.keep0 hk13a).blk (by decide) e) h14s) ?_
     clear hK K
     try simp only [Act.put,List.setIfInBounds_toArray,List.set_cons_zero,List.set_cons_succ]
     obtain⟨Hk13a,Hrow13,Hown14,Hk14,Hadd,H14b,Hb8n,H14s,Hk13⟩:=hid9 hk13a hrow13 hown14 hk14 hadd h14b hb8n h14s hk13;clear hk13 h14s hb8n h14b hadd hk14 hown14 hrow13 hk13a
     clear hs13 hf14
     repeat (first
      |(refine mix_takem (v:= ?_) rfl (by rfl) ?_ ?_;rotate_left;(· intro w' hSw;unfold r13S at hSw;go_simp;(try with_reducible rfl));rotate_right;try simp only [Act.put,List.setIfInBounds_toArray,List.set_cons_zero,List.set_cons_succ]))
     refine mix_last rfl (fun K hK=> ?_)
     go_simp
     refine hK.out _ _ ?_
     clear hK K
     try simp only [Act.put,List.setIfInBounds_toArray,List.set_cons_zero,List.set_cons_succ]
     refine mix_done ?_
     clear o16 of16 ol16
     have hfr:=runFresh_any Hadd.out (by omega)
     have Hfr:=Lib.hid hfr
     clear hfr
     go_wp2_with fail
     refine Hfr.out.mono ?_
     rintro e w16 ⟨rfl,a16,b16',hr16⟩
     have hCC:=HC'.out
     subst hCC
     have Hr16:=Lib.hid hr16;clear hr16
     go_wp2
     go_ret
     exact⟨rfl,_,_,_,_,_,Hr16.out⟩
  ·skip
   refine mix_move rfl (fun K hK=> ?_)
   go_simp
   refine hK.out _ _ (by exact hs7.keep (Keeps.nt (Keeps.refl (fun _=>False) w7) (Keeps.alloc _ _))) ?_
   clear hK K
   try simp only [Act.put,List.setIfInBounds_toArray,List.set_cons_zero,List.set_cons_succ]
   refine mix_fork ?_ ?_ (hs7.keep (Keeps.nt (Keeps.refl (fun _=>False) w7) (Keeps.alloc _ _)))
   ·skip
    refine mix_move rfl (fun K hK=> ?_)
    go_simp
    go_at_call 103
    ((with_reducible refine(Hclo.out _ (Hk7.out.nt (Keeps.nt (Keeps.refl (fun _=>False) w7) (Keeps.alloc (S:=fun _=>False) (w7) (.cells #[.slice none 0 0, .int .i64 0, .int .i64 0] 24))))).mono ?_);rintro e w5 hpost)
    obtain⟨al,cl2,ab2,cb2,rfl,hln,hbn2,hk5,hol,hob⟩:=ClosePost.uni hpost Hcv.out
    clear hpost
    dsimp only
    refine hK.out _ _ (by exact hs7.keep (Keeps.nt (Keeps.nt (Keeps.refl (fun _=>False) w7) (Keeps.alloc (S:=fun _=>False) (w7) (.cells #[.slice none 0 0, .int .i64 0, .int .i64 0] 24))) hk5)) ?_
    clear hK K
    try simp only [Act.put,List.setIfInBounds_toArray,List.set_cons_zero,List.set_cons_succ]
    repeat (first
     |(refine mix_skip rfl (by rfl) ?_;try simp only [Act.put,List.setIfInBounds_toArray,List.set_cons_zero,List.set_cons_succ])
     |(refine mix_skipm rfl (by rfl) ?_;try simp only [Act.put,List.setIfInBounds_toArray,List.set_cons_zero,List.set_cons_succ])
     |(refine mix_take (v:= ?_) rfl (by rfl) ?_ ?_;rotate_left;(· intro w' hSw;unfold c7S at hSw;go_simp;(try with_reducible rfl));rotate_right;try simp only [Act.put,List.setIfInBounds_toArray,List.set_cons_zero,List.set_cons_succ]))
    refine mix_move rfl (fun K hK=> ?_)
    go_simp
    refine hK.out _ _ (by exact hs7.keep (Keeps.nt (Keeps.nt (Keeps.nt (Keeps.refl (fun _=>False) w7) (Keeps.alloc (S:=fun _=>False) (w7) (.cells #[.slice none 0 0, .int .i64 0, .int .i64 0] 24))) hk5) (Keeps.alloc _ _))) ?_
    clear hK K
    try simp only [Act.put,List.setIfInBounds_toArray,List.set_cons_zero,List.set_cons_succ]
    obtain⟨wE,hwE⟩:∃x,x=(w5).alloc (.cells #[.int .i64 0, .int .i64 0, .int .i64 0, .int .i64 0, .slice none 0 0, .int .i64 0, .int .i64 0, .int .i64 0, .bool false] 80):=⟨_,rfl⟩
    have k7E:Keeps (fun _=>False) w7 wE:=by rw [hwE];exact(Keeps.nt (Keeps.nt (Keeps.nt (Keeps.refl (fun _=>False) w7) (Keeps.alloc (S:=fun _=>False) (w7) (.cells #[.slice none 0 0, .int .i64 0, .int .i64 0] 24))) hk5) (Keeps.alloc (S:=fun _=>False) (w5) (.cells #[.int .i64 0, .int .i64 0, .int .i64 0, .int .i64 0, .slice none 0 0, .int .i64 0, .int .i64 0, .int .i64 0, .bool false] 80)))
    have hb8:wE.heap[w5.heap.size]?=some (.cells #[.int .i64 0, .int .i64 0, .int .i64 0, .int .i64 0, .slice none 0 0, .int .i64 0, .int .i64 0, .int .i64 0, .bool false] 80 (0,0)):=by rw [hwE];exact heap_alloc_new (w5) _
    have hb9:wE.heap[w7.heap.size]?=some (.cells #[.slice none 0 0, .int .i64 0, .int .i64 0] 24 (0,0)):=by rw [hwE];exact box_alloc (box_old (heap_alloc_new (w7) _) hk5 (by simp)) _
    have k5E:Keeps (fun _=>False) w5 wE:=by rw [hwE];exact(Keeps.nt (Keeps.refl (fun _=>False) w5) (Keeps.alloc (S:=fun _=>False) (w5) (.cells #[.int .i64 0, .int .i64 0, .int .i64 0, .int .i64 0, .slice none 0 0, .int .i64 0, .int .i64 0, .int .i64 0, .bool false] 80)))
    have hlnE:=hln.of_keeps k5E
    have hbnE:=hbn2.of_keeps k5E
    have hs5:=hk5.size
    try simp at hs5
    have holE:∀b,(Value.slice al x.lines.length cl2).ownBlock=some b→w7.heap.size≤b:=fun b hb=>by have h1:=hol b hb;have h2:=((Keeps.nt (Keeps.refl (fun _=>False) w7) (Keeps.alloc (S:=fun _=>False) (w7) (.cells #[.slice none 0 0, .int .i64 0, .int .i64 0] 24)))).size;omega
    have hobE:∀b,(Value.slice ab2 q.bal.length cb2).ownBlock=some b→w7.heap.size≤b:=fun b hb=>by have h1:=hob b hb;have h2:=((Keeps.nt (Keeps.refl (fun _=>False) w7) (Keeps.alloc (S:=fun _=>False) (w7) (.cells #[.slice none 0 0, .int .i64 0, .int .i64 0] 24)))).size;omega
    rw [←hwE]
    obtain⟨b8,hb8e⟩:∃x,x=w5.heap.size:=⟨_,rfl⟩
    obtain⟨b9,hb9e⟩:∃x,x=w7.heap.size:=⟨_,rfl⟩
    have hne:¬b8=b9:=by rw [hb8e,hb9e];omega
    have hn8:w7.heap.size≤b8:=by rw [hb8e];omega
    have hn9:w7.heap.size≤b9:=by rw [hb9e];omega
    rw [←hb8e] at hb8⊢
    rw [←hb9e] at hb9⊢
    clear hb8e hb9e hwE hln hbn2 hk5 hol hob k5E hs5
    have ya0:=cell_of_cells hb8 0
    have yb0:=free_of_cells hb8 0
    have ya1:=cell_of_cells hb8 1
    have yb1:=free_of_cells hb8 1
    have ya2:=cell_of_cells hb8 2
    have yb2:=free_of_cells hb8 2
    have ya3:=cell_of_cells hb8 3
    have yb3:=free_of_cells hb8 3
    have ya4:=cell_of_cells hb8 4
    have yb4:=free_of_cells hb8 4
    have ya5:=cell_of_cells hb8 5
    have yb5:=free_of_cells hb8 5
    have ya6:=cell_of_cells hb8 6
    have yb6:=free_of_cells hb8 6
    have ya7:=cell_of_cells hb8 7
    have yb7:=free_of_cells hb8 7
    have ya8:=cell_of_cells hb8 8
    have yb8:=free_of_cells hb8 8
    have yc0:=cell_of_cells hb9 0
    have yd0:=free_of_cells hb9 0
    have yc1:=cell_of_cells hb9 1
    have yd1:=free_of_cells hb9 1
    have yc2:=cell_of_cells hb9 2
    have yd2:=free_of_cells hb9 2
    have yl8:=lt_of_block hb8
    have yl9:=lt_of_block hb9
    have hne2:¬b9=b8:=fun e=>hne e.symm
    have hl8:∀b,(Value.slice al x.lines.length cl2).ownBlock=some b→¬b=b8:=fun b hb e=>by subst e;exact ownsRow_ne hlnE hb8 (by decide) hb
    have hl9:∀b,(Value.slice al x.lines.length cl2).ownBlock=some b→¬b=b9:=fun b hb e=>by subst e;exact ownsRow_ne hlnE hb9 (by decide) hb
    have hq8:∀b,(Value.slice ab2 q.bal.length cb2).ownBlock=some b→¬b=b8:=fun b hb e=>by subst e;exact ownsRow_ne hbnE hb8 (by decide) hb
    have hq9:∀b,(Value.slice ab2 q.bal.length cb2).ownBlock=some b→¬b=b9:=fun b hb e=>by subst e;exact ownsRow_ne hbnE hb9 (by decide) hb
    obtain⟨hb8',k8⟩:=store9 hb8 (.int .i64 x.cycle) (.int .i64 x.fr) (.int .i64 x.te) (.int .i64 x.due) (.slice al x.lines.length cl2) (.int .i64 x.total) (.int .i64 x.credit) (.int .i64 x.min) (.bool x.grace)
    obtain⟨hb9',k9⟩:=store3 (box_old hb9 k8 hne2) (.slice ab2 q.bal.length cb2) (.int .i64 q.cr) (.int .i64 q.du)
    have hb8F:=box_old hb8' k9 (fun e=>hne e)
    have kE8:=k7E.trans (k8.mono fun i _ e=> .inr (by have e':i=b8:=e;omega))
    have kEF:=kE8.trans (k9.mono fun i _ e=> .inr (by have e':i=b9:=e;omega))
    have hlnF:=k9.row (k8.row hlnE hl8) hl9
    have hbnF:=k9.row (k8.row hbnE hq8) hq9
    have hsA:=hs7.keep kE8
    have hsB:=hs7.keep kEF
    obtain⟨Hb8,Hb9,Hb8',K8,K9,KE8,Hl8,Hl9,Hq8⟩:=hid9 hb8 hb9 hb8' k8 k9 kE8 hl8 hl9 hq8;clear hq8 hl9 hl8 kE8 k9 k8 hb8' hb9 hb8;obtain⟨Hq9,HlnE,HbnE,HsA⟩:=hid4 hq9 hlnE hbnE hsA;clear hsA hbnE hlnE hq9
    refine mix_move rfl (fun K hK=> ?_)
    go_simp
    refine hK.out _ _ (by exact HsA.out) ?_
    clear hK K
    try simp only [Act.put,List.setIfInBounds_toArray,List.set_cons_zero,List.set_cons_succ]
    repeat (first
     |(refine mix_skip rfl (by rfl) ?_;try simp only [Act.put,List.setIfInBounds_toArray,List.set_cons_zero,List.set_cons_succ])
     |(refine mix_skipm rfl (by rfl) ?_;try simp only [Act.put,List.setIfInBounds_toArray,List.set_cons_zero,List.set_cons_succ])
     |(refine mix_take (v:= ?_) rfl (by rfl) ?_ ?_;rotate_left;(· intro w' hSw;unfold c7S at hSw;go_simp;(try with_reducible rfl));rotate_right;try simp only [Act.put,List.setIfInBounds_toArray,List.set_cons_zero,List.set_cons_succ]))
    have HsB:=Lib.hid hsB
    clear hsB
    refine mix_move rfl (fun K hK=> ?_)
    go_simp
    refine hK.out _ _ (by exact HsB.out) ?_
    clear hK K
    try simp only [Act.put,List.setIfInBounds_toArray,List.set_cons_zero,List.set_cons_succ]
    repeat (first
     |(refine mix_skip rfl (by rfl) ?_;try simp only [Act.put,List.setIfInBounds_toArray,List.set_cons_zero,List.set_cons_succ])
     |(refine mix_skipm rfl (by rfl) ?_;try simp only [Act.put,List.setIfInBounds_toArray,List.set_cons_zero,List.set_cons_succ])
     |(refine mix_take (v:= ?_) rfl (by rfl) ?_ ?_;rotate_left;(· intro w' hSw;unfold c7S at hSw;go_simp;(try with_reducible rfl));rotate_right;try simp only [Act.put,List.setIfInBounds_toArray,List.set_cons_zero,List.set_cons_succ]))
    refine mix_done ?_
    clear ya0 yb0 ya1 yb1 ya2 yb2 ya3 yb3 ya4 yb4 ya5 yb5 ya6 yb6 ya7 yb7 ya8 yb8 yc0 yd0 yc1 yd1 yc2 yd2 yl8 yl9 hs7
    obtain⟨wF,hwF⟩:∃y,y=((((((((((((wE.setCell ⟨b8,0,none⟩ (.int .i64 x.cycle)).setCell ⟨b8,1,none⟩ (.int .i64 x.fr)).setCell ⟨b8,2,none⟩ (.int .i64 x.te)).setCell ⟨b8,3,none⟩ (.int .i64 x.due)).setCell ⟨b8,4,none⟩ (.slice al x.lines.length cl2)).setCell ⟨b8,5,none⟩ (.int .i64 x.total)).setCell ⟨b8,6,none⟩ (.int .i64 x.credit)).setCell ⟨b8,7,none⟩ (.int .i64 x.min)).setCell ⟨b8,8,none⟩ (.bool x.grace)).setCell ⟨b9,0,none⟩ (.slice ab2 q.bal.length cb2)).setCell ⟨b9,1,none⟩ (.int .i64 q.cr)).setCell ⟨b9,2,none⟩ (.int .i64 q.du)):=⟨_,rfl⟩
    rw [←hwF] at hb8F hb9' kEF hlnF hbnF⊢
    clear hwF
    have Hn8:=Lib.hid hn8
    clear hn8
    have hr7:=Hr4.out.keep0 Hk7.out
    have hrF:=hr7.keep0 kEF
    have b19:=cell_of_cells hrF.blk 19
    have hnil:∀w:World,(binOp .neq 72 .nilFunc .nilFunc).run Tryz.prog w= .ok (.bool false) w:=fun _=>by kernel_rfl
    rcases D with _|⟨x',q'⟩
    ·have hC':=HC.out
     simp only at hC'
     subst hC'
     have hcv:=Hcv.out
     simp only [cloVal,Prod.mk.injEq] at hcv
     obtain⟨rfl,rfl,rfl⟩:=hcv
     obtain⟨Hb8F,Hb9',KEF,HlnF,HbnF,Hr7,HrF,Hnil,HolE⟩:=hid9 hb8F hb9' kEF hlnF hbnF hr7 hrF hnil holE;clear holE hnil hrF hr7 hbnF hlnF kEF hb9' hb8F;have HobE:=Lib.hid hobE;clear hobE
     go_wp2
     go_ret
     exact⟨rfl,HrF.out⟩
    ·have hC':=HC.out
     simp only at hC'
     have hcv:=Hcv.out
     simp only [cloVal,Prod.mk.injEq] at hcv
     obtain⟨rfl,rfl,rfl⟩:=hcv
     obtain⟨hql,_⟩:=closeR_ok Hz.out Hpr.out (by rw [HVl.out];exact H.out.nb.symm) (List.all_eq_true.2 fun y hy=>(moneyP_iff y).2 (HVb.out y hy)) HD.out
     have hqn:x'.lines.length=x'.lines.length:=rfl
     rw [H.out.nb] at hql
     rw [hql] at hbnF hb9' hobE⊢
     have u10:=(heap_setCell_same _ _ 10 _ _ (.slice ab2 n cb2) hrF.blk).trans rfl
     have u11:=(heap_setCell_same _ _ 11 _ _ (.int .i64 q'.cr) u10).trans rfl
     have u12:=(heap_setCell_same _ _ 12 _ _ (.int .i64 q'.du) u11).trans rfl
     have kB:Keeps (fun i=>i=B) wF (((wF.setCell ⟨B,10,none⟩ (.slice ab2 n cb2)).setCell ⟨B,11,none⟩ (.int .i64 q'.cr)).setCell ⟨B,12,none⟩ (.int .i64 q'.du)):=((Keeps.setCell (S:=fun i=>i=B) _ _ _ rfl).trans (Keeps.setCell _ _ _ (.inl rfl))).trans (Keeps.setCell _ _ _ (.inl rfl))
     have hupd:=hr7.upd kEF kB u12 hbnF hrF.rts hql Hr4.out.nr (.inr hobE) (.inl rfl)
     have hB8:¬b8=B:=fun e=>by
      have h1:=hb8F
      rw [e,hrF.blk] at h1
      injection h1 with h1
      injection h1 with _ h1 _
      exact absurd h1 (by decide)
     have hb8G:=box_old hb8F kB hB8
     have hlnG:=kB.row hlnF (fun i hi e=>by have e':i=B:=e;subst e';exact ownsRow_ne hlnF hrF.blk (by decide) hi)
     have p0:=cell_of_cells hb9' 0
     have p1:=cell_of_cells hb9' 1
     have p2:=cell_of_cells hb9' 2
     have pl:=lt_of_block hb9'
     have b10:=cell_of_cells hrF.blk 10
     have b11:=cell_of_cells hrF.blk 11
     have b12:=cell_of_cells hrF.blk 12
     have f10:=free_of_cells hrF.blk 10
     have f11:=free_of_cells hrF.blk 11
     have f12:=free_of_cells hrF.blk 12
     have bl2:=lt_of_block hrF.blk
     obtain⟨W12,hW12⟩:∃y,y=(((wF.setCell ⟨B,10,none⟩ (.slice ab2 n cb2)).setCell ⟨B,11,none⟩ (.int .i64 q'.cr)).setCell ⟨B,12,none⟩ (.int .i64 q'.du)):=⟨_,rfl⟩
     rw [←hW12] at hupd hb8G hlnG
     have hS13:=r13S.keep (r13S.of hupd.blk rfl hb8G) (Keeps.drew (S:=fun _=>False) _) (by simp) (by simp)
     have holX:Own w0 X (.slice al x'.lines.length cl2):=hr7.ownN holE
     obtain⟨Hb8F,Hb9',KEF,HlnF,HbnF,Hr7,HrF,HolE,HobE⟩:=hid9 hb8F hb9' kEF hlnF hbnF hr7 hrF holE hobE;clear hobE holE hrF hr7 hbnF hlnF kEF hb9' hb8F;obtain⟨Hql,Hqn,U10,U11,U12,KB,Hupd,HB8,Hb8G⟩:=hid9 hql hqn u10 u11 u12 kB hupd hB8 hb8G;clear hb8G hB8 hupd kB u12 u11 u10 hqn hql;obtain⟨HlnG,HS13,HolX,HC'⟩:=hid4 hlnG hS13 holX hC';clear hC' holX hS13 hlnG
     go_wp2_with fail
     rw [←hW12]
     clear hW12 p0 p1 p2 pl b10 b11 b12 f10 f11 f12 bl2 b19 hnil
     refine wp_region_mixy (r13S B b8 (.slice av m cv) x'.cycle x'.fr x'.te x'.due (.slice al x'.lines.length cl2) x'.total x'.credit x'.min x'.grace) 10 (.take 0 (.take 1 (.take 2 (.take 3 (.take 4 (.take 5 (.move 6 (.move 7 (.move 8 (.move 9 (.move 10 .done))))))))))) (by kernel_rfl) (by kernel_rfl) ?_ ?_
     ·exact HS13.out
     intro w13 hs13 hk13
     repeat (first
      |(refine mix_skip rfl (by rfl) ?_;try simp only [Act.put,List.setIfInBounds_toArray,List.set_cons_zero,List.set_cons_succ])
      |(refine mix_skipm rfl (by rfl) ?_;try simp only [Act.put,List.setIfInBounds_toArray,List.set_cons_zero,List.set_cons_succ])
      |(refine mix_take (v:= ?_) rfl (by rfl) ?_ ?_;rotate_left;(· intro w' hSw;unfold r13S at hSw;go_simp;(try with_reducible rfl));rotate_right;try simp only [Act.put,List.setIfInBounds_toArray,List.set_cons_zero,List.set_cons_succ]))
     refine mix_move rfl (fun K hK=> ?_)
     go_simp
     refine hK.out _ _ (by exact hs13.keep (S:=fun _=>False) (Keeps.alloc _ _) (by simp) (by simp)) ?_
     clear hK K
     try simp only [Act.put,List.setIfInBounds_toArray,List.set_cons_zero,List.set_cons_succ]
     repeat (first
      |(refine mix_skip rfl (by rfl) ?_;try simp only [Act.put,List.setIfInBounds_toArray,List.set_cons_zero,List.set_cons_succ])
      |(refine mix_skipm rfl (by rfl) ?_;try simp only [Act.put,List.setIfInBounds_toArray,List.set_cons_zero,List.set_cons_succ])
      |(refine mix_take (v:= ?_) rfl (by rfl) ?_ ?_;rotate_left;(· intro w' hSw;unfold r13S at hSw;go_simp;(try with_reducible rfl));rotate_right;try simp only [Act.put,List.setIfInBounds_toArray,List.set_cons_zero,List.set_cons_succ]))
     have hk13a:=hk13.nt (Keeps.alloc w13 (.cells (SV.cells ⟨x',al,cl2⟩).toArray 80))
     have hrow13:=(Hupd.out.keep0 hk13a).out
     rw [Hmm.out] at hrow13
     refine mix_move rfl (fun K hK=> ?_)
     refine step_append_row rfl (.tmp 107) (.tmp 109) 43 rfl 0 80 i0 _ 9 88 Tryz.underlying43 Hi.out Hi0.out Hi1.out Hi2.out rfl (by decide) (.slice av m cv) m _ rfl hrow13 _ 1 _ rfl (Reads.litAt _ _ _ 9 1 _ (by first|rfl|simp) rfl) (by simp [Value.oneCell']) (by unfold maxLen;omega) (by omega) (Nat.zero_le _) ?_
     intro v14 w14 hown14 hk14 hf14
     obtain⟨a14,c14,rfl,_,_⟩:=ownsRow_shape hown14
     have hadd:=Hupd.out.addOut (x:=⟨x',al,cl2⟩) hk13a hk14 (by rw [Hmm.out,List.flatMap_append];exact hown14) (HlnG.out.of_keeps hk13a) HolX.out hf14
     have h14b:=box_old (Hupd.out.keep0 hk13a).blk hk14 (fun e=>ownsRow_ne hrow13 (Hupd.out.keep0 hk13a).blk (by decide) e)
     have hb8n:W.heap.size≤b8:=by have h1:=Hk4w.out.size;have h2:=Hk7.out.size;have h3:=Hn8.out;omega
     have h14s:¬(Value.slice av m cv).ownBlock=some b8:=fun e=>by have:=own_lt H.out.out e;omega
     have o16:=cell_of_cells h14b 16
     have of16:=free_of_cells h14b 16
     have ol16:=lt_of_block h14b
     refine hK.out _ _ (by exact(hs13.keep (S:=fun _=>False) (Keeps.alloc _ _) (by simp) (by simp)).keep hk14 (fun e=>ownsRow_ne hrow13 (Hupd.out.keep0 hk13a).blk (by decide) e) h14s) ?_
     clear hK K
     try simp only [Act.put,List.setIfInBounds_toArray,List.set_cons_zero,List.set_cons_succ]
     obtain⟨Hk13a,Hrow13,Hown14,Hk14,Hadd,H14b,Hb8n,H14s,Hk13⟩:=hid9 hk13a hrow13 hown14 hk14 hadd h14b hb8n h14s hk13;clear hk13 h14s hb8n h14b hadd hk14 hown14 hrow13 hk13a
     clear hs13 hf14
     repeat (first
      |(refine mix_takem (v:= ?_) rfl (by rfl) ?_ ?_;rotate_left;(· intro w' hSw;unfold r13S at hSw;go_simp;(try with_reducible rfl));rotate_right;try simp only [Act.put,List.setIfInBounds_toArray,List.set_cons_zero,List.set_cons_succ]))
     refine mix_last rfl (fun K hK=> ?_)
     go_simp
     refine hK.out _ _ ?_
     clear hK K
     try simp only [Act.put,List.setIfInBounds_toArray,List.set_cons_zero,List.set_cons_succ]
     refine mix_done ?_
     clear o16 of16 ol16
     have hfr:=runFresh_any Hadd.out (by omega)
     have Hfr:=Lib.hid hfr
     clear hfr
     go_wp2_with fail
     refine Hfr.out.mono ?_
     rintro e w16 ⟨rfl,a16,b16',hr16⟩
     have hCC:=HC'.out
     subst hCC
     have Hr16:=Lib.hid hr16;clear hr16
     go_wp2
     go_ret
     exact⟨rfl,_,_,_,_,_,Hr16.out⟩
   ·skip
    refine mix_move rfl (fun K hK=> ?_)
    go_simp
    refine hK.out _ _ (by exact hs7.keep (Keeps.nt (Keeps.nt (Keeps.refl (fun _=>False) w7) (Keeps.alloc (S:=fun _=>False) (w7) (.cells #[.slice none 0 0, .int .i64 0, .int .i64 0] 24))) (Keeps.alloc _ _))) ?_
    clear hK K
    try simp only [Act.put,List.setIfInBounds_toArray,List.set_cons_zero,List.set_cons_succ]
    refine mix_move rfl (fun K hK=> ?_)
    go_simp
    go_at_call 103
    ((with_reducible refine(Hclo.out _ (Hk7.out.nt (Keeps.nt (Keeps.nt (Keeps.refl (fun _=>False) w7) (Keeps.alloc (S:=fun _=>False) (w7) (.cells #[.slice none 0 0, .int .i64 0, .int .i64 0] 24))) (Keeps.alloc (S:=fun _=>False) ((w7).alloc (.cells #[.slice none 0 0, .int .i64 0, .int .i64 0] 24)) (.cells #[.int .i64 0, .int .i64 0, .int .i64 0, .int .i64 0, .slice none 0 0, .int .i64 0, .int .i64 0, .int .i64 0, .bool false] 80))))).mono ?_);rintro e w5 hpost)
    obtain⟨al,cl2,ab2,cb2,rfl,hln,hbn2,hk5,hol,hob⟩:=ClosePost.uni hpost Hcv.out
    clear hpost
    dsimp only
    refine hK.out _ _ (by exact hs7.keep (Keeps.nt (Keeps.nt (Keeps.nt (Keeps.refl (fun _=>False) w7) (Keeps.alloc (S:=fun _=>False) (w7) (.cells #[.slice none 0 0, .int .i64 0, .int .i64 0] 24))) (Keeps.alloc (S:=fun _=>False) ((w7).alloc (.cells #[.slice none 0 0, .int .i64 0, .int .i64 0] 24)) (.cells #[.int .i64 0, .int .i64 0, .int .i64 0, .int .i64 0, .slice none 0 0, .int .i64 0, .int .i64 0, .int .i64 0, .bool false] 80))) hk5)) ?_
    clear hK K
    try simp only [Act.put,List.setIfInBounds_toArray,List.set_cons_zero,List.set_cons_succ]
    repeat (first
     |(refine mix_skip rfl (by rfl) ?_;try simp only [Act.put,List.setIfInBounds_toArray,List.set_cons_zero,List.set_cons_succ])
     |(refine mix_skipm rfl (by rfl) ?_;try simp only [Act.put,List.setIfInBounds_toArray,List.set_cons_zero,List.set_cons_succ])
     |(refine mix_take (v:= ?_) rfl (by rfl) ?_ ?_;rotate_left;(· intro w' hSw;unfold c7S at hSw;go_simp;(try with_reducible rfl));rotate_right;try simp only [Act.put,List.setIfInBounds_toArray,List.set_cons_zero,List.set_cons_succ]))
    obtain⟨wE,hwE⟩:∃x,x=w5:=⟨_,rfl⟩
    have k7E:Keeps (fun _=>False) w7 wE:=by rw [hwE];exact(Keeps.nt (Keeps.nt (Keeps.nt (Keeps.refl (fun _=>False) w7) (Keeps.alloc (S:=fun _=>False) (w7) (.cells #[.slice none 0 0, .int .i64 0, .int .i64 0] 24))) (Keeps.alloc (S:=fun _=>False) ((w7).alloc (.cells #[.slice none 0 0, .int .i64 0, .int .i64 0] 24)) (.cells #[.int .i64 0, .int .i64 0, .int .i64 0, .int .i64 0, .slice none 0 0, .int .i64 0, .int .i64 0, .int .i64 0, .bool false] 80))) hk5)
    have hb8:wE.heap[w7.heap.size+1]?=some (.cells #[.int .i64 0, .int .i64 0, .int .i64 0, .int .i64 0, .slice none 0 0, .int .i64 0, .int .i64 0, .int .i64 0, .bool false] 80 (0,0)):=by rw [hwE];exact box_old (halloc_at2 _ _ (by simp)) hk5 (by simp)
    have hb9:wE.heap[w7.heap.size]?=some (.cells #[.slice none 0 0, .int .i64 0, .int .i64 0] 24 (0,0)):=by rw [hwE];exact box_old (box_alloc (heap_alloc_new (w7) _) _) hk5 (by simp)
    have k5E:Keeps (fun _=>False) w5 wE:=by rw [hwE];exact(Keeps.refl (fun _=>False) w5)
    have hlnE:=hln.of_keeps k5E
    have hbnE:=hbn2.of_keeps k5E
    have hs5:=hk5.size
    try simp at hs5
    have holE:∀b,(Value.slice al x.lines.length cl2).ownBlock=some b→w7.heap.size≤b:=fun b hb=>by have h1:=hol b hb;have h2:=((Keeps.nt (Keeps.nt (Keeps.refl (fun _=>False) w7) (Keeps.alloc (S:=fun _=>False) (w7) (.cells #[.slice none 0 0, .int .i64 0, .int .i64 0] 24))) (Keeps.alloc (S:=fun _=>False) ((w7).alloc (.cells #[.slice none 0 0, .int .i64 0, .int .i64 0] 24)) (.cells #[.int .i64 0, .int .i64 0, .int .i64 0, .int .i64 0, .slice none 0 0, .int .i64 0, .int .i64 0, .int .i64 0, .bool false] 80)))).size;omega
    have hobE:∀b,(Value.slice ab2 q.bal.length cb2).ownBlock=some b→w7.heap.size≤b:=fun b hb=>by have h1:=hob b hb;have h2:=((Keeps.nt (Keeps.nt (Keeps.refl (fun _=>False) w7) (Keeps.alloc (S:=fun _=>False) (w7) (.cells #[.slice none 0 0, .int .i64 0, .int .i64 0] 24))) (Keeps.alloc (S:=fun _=>False) ((w7).alloc (.cells #[.slice none 0 0, .int .i64 0, .int .i64 0] 24)) (.cells #[.int .i64 0, .int .i64 0, .int .i64 0, .int .i64 0, .slice none 0 0, .int .i64 0, .int .i64 0, .int .i64 0, .bool false] 80)))).size;omega
    rw [←hwE]
    obtain⟨b8,hb8e⟩:∃x,x=w7.heap.size+1:=⟨_,rfl⟩
    obtain⟨b9,hb9e⟩:∃x,x=w7.heap.size:=⟨_,rfl⟩
    have hne:¬b8=b9:=by rw [hb8e,hb9e];omega
    have hn8:w7.heap.size≤b8:=by rw [hb8e];omega
    have hn9:w7.heap.size≤b9:=by rw [hb9e];omega
    rw [←hb8e] at hb8⊢
    rw [←hb9e] at hb9⊢
    clear hb8e hb9e hwE hln hbn2 hk5 hol hob k5E hs5
    have ya0:=cell_of_cells hb8 0
    have yb0:=free_of_cells hb8 0
    have ya1:=cell_of_cells hb8 1
    have yb1:=free_of_cells hb8 1
    have ya2:=cell_of_cells hb8 2
    have yb2:=free_of_cells hb8 2
    have ya3:=cell_of_cells hb8 3
    have yb3:=free_of_cells hb8 3
    have ya4:=cell_of_cells hb8 4
    have yb4:=free_of_cells hb8 4
    have ya5:=cell_of_cells hb8 5
    have yb5:=free_of_cells hb8 5
    have ya6:=cell_of_cells hb8 6
    have yb6:=free_of_cells hb8 6
    have ya7:=cell_of_cells hb8 7
    have yb7:=free_of_cells hb8 7
    have ya8:=cell_of_cells hb8 8
    have yb8:=free_of_cells hb8 8
    have yc0:=cell_of_cells hb9 0
    have yd0:=free_of_cells hb9 0
    have yc1:=cell_of_cells hb9 1
    have yd1:=free_of_cells hb9 1
    have yc2:=cell_of_cells hb9 2
    have yd2:=free_of_cells hb9 2
    have yl8:=lt_of_block hb8
    have yl9:=lt_of_block hb9
    have hne2:¬b9=b8:=fun e=>hne e.symm
    have hl8:∀b,(Value.slice al x.lines.length cl2).ownBlock=some b→¬b=b8:=fun b hb e=>by subst e;exact ownsRow_ne hlnE hb8 (by decide) hb
    have hl9:∀b,(Value.slice al x.lines.length cl2).ownBlock=some b→¬b=b9:=fun b hb e=>by subst e;exact ownsRow_ne hlnE hb9 (by decide) hb
    have hq8:∀b,(Value.slice ab2 q.bal.length cb2).ownBlock=some b→¬b=b8:=fun b hb e=>by subst e;exact ownsRow_ne hbnE hb8 (by decide) hb
    have hq9:∀b,(Value.slice ab2 q.bal.length cb2).ownBlock=some b→¬b=b9:=fun b hb e=>by subst e;exact ownsRow_ne hbnE hb9 (by decide) hb
    obtain⟨hb8',k8⟩:=store9 hb8 (.int .i64 x.cycle) (.int .i64 x.fr) (.int .i64 x.te) (.int .i64 x.due) (.slice al x.lines.length cl2) (.int .i64 x.total) (.int .i64 x.credit) (.int .i64 x.min) (.bool x.grace)
    obtain⟨hb9',k9⟩:=store3 (box_old hb9 k8 hne2) (.slice ab2 q.bal.length cb2) (.int .i64 q.cr) (.int .i64 q.du)
    have hb8F:=box_old hb8' k9 (fun e=>hne e)
    have kE8:=k7E.trans (k8.mono fun i _ e=> .inr (by have e':i=b8:=e;omega))
    have kEF:=kE8.trans (k9.mono fun i _ e=> .inr (by have e':i=b9:=e;omega))
    have hlnF:=k9.row (k8.row hlnE hl8) hl9
    have hbnF:=k9.row (k8.row hbnE hq8) hq9
    have hsA:=hs7.keep kE8
    have hsB:=hs7.keep kEF
    obtain⟨Hb8,Hb9,Hb8',K8,K9,KE8,Hl8,Hl9,Hq8⟩:=hid9 hb8 hb9 hb8' k8 k9 kE8 hl8 hl9 hq8;clear hq8 hl9 hl8 kE8 k9 k8 hb8' hb9 hb8;obtain⟨Hq9,HlnE,HbnE,HsA⟩:=hid4 hq9 hlnE hbnE hsA;clear hsA hbnE hlnE hq9
    refine mix_move rfl (fun K hK=> ?_)
    go_simp
    refine hK.out _ _ (by exact HsA.out) ?_
    clear hK K
    try simp only [Act.put,List.setIfInBounds_toArray,List.set_cons_zero,List.set_cons_succ]
    repeat (first
     |(refine mix_skip rfl (by rfl) ?_;try simp only [Act.put,List.setIfInBounds_toArray,List.set_cons_zero,List.set_cons_succ])
     |(refine mix_skipm rfl (by rfl) ?_;try simp only [Act.put,List.setIfInBounds_toArray,List.set_cons_zero,List.set_cons_succ])
     |(refine mix_take (v:= ?_) rfl (by rfl) ?_ ?_;rotate_left;(· intro w' hSw;unfold c7S at hSw;go_simp;(try with_reducible rfl));rotate_right;try simp only [Act.put,List.setIfInBounds_toArray,List.set_cons_zero,List.set_cons_succ]))
    have HsB:=Lib.hid hsB
    clear hsB
    refine mix_move rfl (fun K hK=> ?_)
    go_simp
    refine hK.out _ _ (by exact HsB.out) ?_
    clear hK K
    try simp only [Act.put,List.setIfInBounds_toArray,List.set_cons_zero,List.set_cons_succ]
    repeat (first
     |(refine mix_skip rfl (by rfl) ?_;try simp only [Act.put,List.setIfInBounds_toArray,List.set_cons_zero,List.set_cons_succ])
     |(refine mix_skipm rfl (by rfl) ?_;try simp only [Act.put,List.setIfInBounds_toArray,List.set_cons_zero,List.set_cons_succ])
     |(refine mix_take (v:= ?_) rfl (by rfl) ?_ ?_;rotate_left;(· intro w' hSw;unfold c7S at hSw;go_simp;(try with_reducible rfl));rotate_right;try simp only [Act.put,List.setIfInBounds_toArray,List.set_cons_zero,List.set_cons_succ]))
    refine mix_done ?_
    clear ya0 yb0 ya1 yb1 ya2 yb2 ya3 yb3 ya4 yb4 ya5 yb5 ya6 yb6 ya7 yb7 ya8 yb8 yc0 yd0 yc1 yd1 yc2 yd2 yl8 yl9 hs7
    obtain⟨wF,hwF⟩:∃y,y=((((((((((((wE.setCell ⟨b8,0,none⟩ (.int .i64 x.cycle)).setCell ⟨b8,1,none⟩ (.int .i64 x.fr)).setCell ⟨b8,2,none⟩ (.int .i64 x.te)).setCell ⟨b8,3,none⟩ (.int .i64 x.due)).setCell ⟨b8,4,none⟩ (.slice al x.lines.length cl2)).setCell ⟨b8,5,none⟩ (.int .i64 x.total)).setCell ⟨b8,6,none⟩ (.int .i64 x.credit)).setCell ⟨b8,7,none⟩ (.int .i64 x.min)).setCell ⟨b8,8,none⟩ (.bool x.grace)).setCell ⟨b9,0,none⟩ (.slice ab2 q.bal.length cb2)).setCell ⟨b9,1,none⟩ (.int .i64 q.cr)).setCell ⟨b9,2,none⟩ (.int .i64 q.du)):=⟨_,rfl⟩
    rw [←hwF] at hb8F hb9' kEF hlnF hbnF⊢
    clear hwF
    have Hn8:=Lib.hid hn8
    clear hn8
    have hr7:=Hr4.out.keep0 Hk7.out
    have hrF:=hr7.keep0 kEF
    have b19:=cell_of_cells hrF.blk 19
    have hnil:∀w:World,(binOp .neq 72 .nilFunc .nilFunc).run Tryz.prog w= .ok (.bool false) w:=fun _=>by kernel_rfl
    rcases D with _|⟨x',q'⟩
    ·have hC':=HC.out
     simp only at hC'
     subst hC'
     have hcv:=Hcv.out
     simp only [cloVal,Prod.mk.injEq] at hcv
     obtain⟨rfl,rfl,rfl⟩:=hcv
     obtain⟨Hb8F,Hb9',KEF,HlnF,HbnF,Hr7,HrF,Hnil,HolE⟩:=hid9 hb8F hb9' kEF hlnF hbnF hr7 hrF hnil holE;clear holE hnil hrF hr7 hbnF hlnF kEF hb9' hb8F;have HobE:=Lib.hid hobE;clear hobE
     go_wp2
     go_ret
     exact⟨rfl,HrF.out⟩
    ·have hC':=HC.out
     simp only at hC'
     have hcv:=Hcv.out
     simp only [cloVal,Prod.mk.injEq] at hcv
     obtain⟨rfl,rfl,rfl⟩:=hcv
     obtain⟨hql,_⟩:=closeR_ok Hz.out Hpr.out (by rw [HVl.out];exact H.out.nb.symm) (List.all_eq_true.2 fun y hy=>(moneyP_iff y).2 (HVb.out y hy)) HD.out
     have hqn:x'.lines.length=x'.lines.length:=rfl
     rw [H.out.nb] at hql
     rw [hql] at hbnF hb9' hobE⊢
     have u10:=(heap_setCell_same _ _ 10 _ _ (.slice ab2 n cb2) hrF.blk).trans rfl
     have u11:=(heap_setCell_same _ _ 11 _ _ (.int .i64 q'.cr) u10).trans rfl
     have u12:=(heap_setCell_same _ _ 12 _ _ (.int .i64 q'.du) u11).trans rfl
     have kB:Keeps (fun i=>i=B) wF (((wF.setCell ⟨B,10,none⟩ (.slice ab2 n cb2)).setCell ⟨B,11,none⟩ (.int .i64 q'.cr)).setCell ⟨B,12,none⟩ (.int .i64 q'.du)):=((Keeps.setCell (S:=fun i=>i=B) _ _ _ rfl).trans (Keeps.setCell _ _ _ (.inl rfl))).trans (Keeps.setCell _ _ _ (.inl rfl))
     have hupd:=hr7.upd kEF kB u12 hbnF hrF.rts hql Hr4.out.nr (.inr hobE) (.inl rfl)
     have hB8:¬b8=B:=fun e=>by
      have h1:=hb8F
      rw [e,hrF.blk] at h1
      injection h1 with h1
      injection h1 with _ h1 _
      exact absurd h1 (by decide)
     have hb8G:=box_old hb8F kB hB8
     have hlnG:=kB.row hlnF (fun i hi e=>by have e':i=B:=e;subst e';exact ownsRow_ne hlnF hrF.blk (by decide) hi)
     have p0:=cell_of_cells hb9' 0
     have p1:=cell_of_cells hb9' 1
     have p2:=cell_of_cells hb9' 2
     have pl:=lt_of_block hb9'
     have b10:=cell_of_cells hrF.blk 10
     have b11:=cell_of_cells hrF.blk 11
     have b12:=cell_of_cells hrF.blk 12
     have f10:=free_of_cells hrF.blk 10
     have f11:=free_of_cells hrF.blk 11
     have f12:=free_of_cells hrF.blk 12
     have bl2:=lt_of_block hrF.blk
     obtain⟨W12,hW12⟩:∃y,y=(((wF.setCell ⟨B,10,none⟩ (.slice ab2 n cb2)).setCell ⟨B,11,none⟩ (.int .i64 q'.cr)).setCell ⟨B,12,none⟩ (.int .i64 q'.du)):=⟨_,rfl⟩
     rw [←hW12] at hupd hb8G hlnG
     have hS13:=r13S.keep (r13S.of hupd.blk rfl hb8G) (Keeps.drew (S:=fun _=>False) _) (by simp) (by simp)
     have holX:Own w0 X (.slice al x'.lines.length cl2):=hr7.ownN holE
     obtain⟨Hb8F,Hb9',KEF,HlnF,HbnF,Hr7,HrF,HolE,HobE⟩:=hid9 hb8F hb9' kEF hlnF hbnF hr7 hrF holE hobE;clear hobE holE hrF hr7 hbnF hlnF kEF hb9' hb8F;obtain⟨Hql,Hqn,U10,U11,U12,KB,Hupd,HB8,Hb8G⟩:=hid9 hql hqn u10 u11 u12 kB hupd hB8 hb8G;clear hb8G hB8 hupd kB u12 u11 u10 hqn hql;obtain⟨HlnG,HS13,HolX,HC'⟩:=hid4 hlnG hS13 holX hC';clear hC' holX hS13 hlnG
     go_wp2_with fail
     rw [←hW12]
     clear hW12 p0 p1 p2 pl b10 b11 b12 f10 f11 f12 bl2 b19 hnil
     refine wp_region_mixy (r13S B b8 (.slice av m cv) x'.cycle x'.fr x'.te x'.due (.slice al x'.lines.length cl2) x'.total x'.credit x'.min x'.grace) 10 (.take 0 (.take 1 (.take 2 (.take 3 (.take 4 (.take 5 (.move 6 (.move 7 (.move 8 (.move 9 (.move 10 .done))))))))))) (by kernel_rfl) (by kernel_rfl) ?_ ?_
     ·exact HS13.out
     intro w13 hs13 hk13
     repeat (first
      |(refine mix_skip rfl (by rfl) ?_;try simp only [Act.put,List.setIfInBounds_toArray,List.set_cons_zero,List.set_cons_succ])
      |(refine mix_skipm rfl (by rfl) ?_;try simp only [Act.put,List.setIfInBounds_toArray,List.set_cons_zero,List.set_cons_succ])
      |(refine mix_take (v:= ?_) rfl (by rfl) ?_ ?_;rotate_left;(· intro w' hSw;unfold r13S at hSw;go_simp;(try with_reducible rfl));rotate_right;try simp only [Act.put,List.setIfInBounds_toArray,List.set_cons_zero,List.set_cons_succ]))
     refine mix_move rfl (fun K hK=> ?_)
     go_simp
     refine hK.out _ _ (by exact hs13.keep (S:=fun _=>False) (Keeps.alloc _ _) (by simp) (by simp)) ?_
     clear hK K
     try simp only [Act.put,List.setIfInBounds_toArray,List.set_cons_zero,List.set_cons_succ]
     repeat (first
      |(refine mix_skip rfl (by rfl) ?_;try simp only [Act.put,List.setIfInBounds_toArray,List.set_cons_zero,List.set_cons_succ])
      |(refine mix_skipm rfl (by rfl) ?_;try simp only [Act.put,List.setIfInBounds_toArray,List.set_cons_zero,List.set_cons_succ])
      |(refine mix_take (v:= ?_) rfl (by rfl) ?_ ?_;rotate_left;(· intro w' hSw;unfold r13S at hSw;go_simp;(try with_reducible rfl));rotate_right;try simp only [Act.put,List.setIfInBounds_toArray,List.set_cons_zero,List.set_cons_succ]))
     have hk13a:=hk13.nt (Keeps.alloc w13 (.cells (SV.cells ⟨x',al,cl2⟩).toArray 80))
     have hrow13:=(Hupd.out.keep0 hk13a).out
     rw [Hmm.out] at hrow13
     refine mix_move rfl (fun K hK=> ?_)
     refine step_append_row rfl (.tmp 107) (.tmp 109) 43 rfl 0 80 i0 _ 9 88 Tryz.underlying43 Hi.out Hi0.out Hi1.out Hi2.out rfl (by decide) (.slice av m cv) m _ rfl hrow13 _ 1 _ rfl (Reads.litAt _ _ _ 9 1 _ (by first|rfl|simp) rfl) (by simp [Value.oneCell']) (by unfold maxLen;omega) (by omega) (Nat.zero_le _) ?_
     intro v14 w14 hown14 hk14 hf14
     obtain⟨a14,c14,rfl,_,_⟩:=ownsRow_shape hown14
     have hadd:=Hupd.out.addOut (x:=⟨x',al,cl2⟩) hk13a hk14 (by rw [Hmm.out,List.flatMap_append];exact hown14) (HlnG.out.of_keeps hk13a) HolX.out hf14
     have h14b:=box_old (Hupd.out.keep0 hk13a).blk hk14 (fun e=>ownsRow_ne hrow13 (Hupd.out.keep0 hk13a).blk (by decide) e)
     have hb8n:W.heap.size≤b8:=by have h1:=Hk4w.out.size;have h2:=Hk7.out.size;have h3:=Hn8.out;omega
     have h14s:¬(Value.slice av m cv).ownBlock=some b8:=fun e=>by have:=own_lt H.out.out e;omega
     have o16:=cell_of_cells h14b 16
     have of16:=free_of_cells h14b 16
     have ol16:=lt_of_block h14b
     refine hK.out _ _ (by exact(hs13.keep (S:=fun _=>False) (Keeps.alloc _ _) (by simp) (by simp)).keep hk14 (fun e=>ownsRow_ne hrow13 (Hupd.out.keep0 hk13a).blk (by decide) e) h14s) ?_
     clear hK K
     try simp only [Act.put,List.setIfInBounds_toArray,List.set_cons_zero,List.set_cons_succ]
     obtain⟨Hk13a,Hrow13,Hown14,Hk14,Hadd,H14b,Hb8n,H14s,Hk13⟩:=hid9 hk13a hrow13 hown14 hk14 hadd h14b hb8n h14s hk13;clear hk13 h14s hb8n h14b hadd hk14 hown14 hrow13 hk13a
     clear hs13 hf14
     repeat (first
      |(refine mix_takem (v:= ?_) rfl (by rfl) ?_ ?_;rotate_left;(· intro w' hSw;unfold r13S at hSw;go_simp;(try with_reducible rfl));rotate_right;try simp only [Act.put,List.setIfInBounds_toArray,List.set_cons_zero,List.set_cons_succ]))
     refine mix_last rfl (fun K hK=> ?_)
     go_simp
     refine hK.out _ _ ?_
     clear hK K
     try simp only [Act.put,List.setIfInBounds_toArray,List.set_cons_zero,List.set_cons_succ]
     refine mix_done ?_
     clear o16 of16 ol16
     have hfr:=runFresh_any Hadd.out (by omega)
     have Hfr:=Lib.hid hfr
     clear hfr
     go_wp2_with fail
     refine Hfr.out.mono ?_
     rintro e w16 ⟨rfl,a16,b16',hr16⟩
     have hCC:=HC'.out
     subst hCC
     have Hr16:=Lib.hid hr16;clear hr16
     go_wp2
     go_ret
     exact⟨rfl,_,_,_,_,_,Hr16.out⟩
structure SpanOk(fr te:Int):Prop where
 lo: -135140≤fr
 le:fr≤te
 hi:te≤2932896
 sh:te≤fr+31
inductive SpanC (day:Int):Int→List (Int×Int)→Prop
 |last {fr te:Int}:SpanOk fr te→fr≤day→day≤te→SpanC day fr [(fr,te)]
 |more {fr te:Int} {S:List (Int×Int)}:SpanOk fr te→te<day→SpanC day (te+1) S→SpanC day fr ((fr,te)::S)
theorem SpanC.head{day fr:Int}{S:List (Int×Int)}(h:SpanC day fr S):∃te S',S=(fr,te)::S'∧SpanOk fr te∧fr≤day∧(te<day→SpanC day (te+1) S'):=by
 cases h with
 |last h1 h2 h3=>exact⟨_,_,rfl,h1,h2,fun h=>by omega⟩
 |more h1 h2 h3=>exact⟨_,_,rfl,h1,by have:=h1.le;omega,fun _=>h3⟩
theorem find_spans(cd day:Int):∀(f:Nat) (fr:Int),(findW cd day f fr).2=true→SpanC day fr (findW cd day f fr).1∧(findW cd day f fr).1.length≤f:=by
 intro f
 induction f with
 |zero=>intro fr h;cases h
 |succ f ih=>
  intro fr h
  unfold findW at h⊢
  split at h
  ·rename_i hl
   rw [if_pos hl]
   have hl2:=hl
   unfold lastE at hl2
   split at hl2
   ·cases hl2
   ·rename_i hc
    split at hl2
    ·cases hl2
    ·rename_i hf
     split at hl2
     ·cases hl2
     ·rename_i ht
      have hf': -135140≤fr∧fr≤2932896:=by omega
      have hge:=lastF_ge (fr:=fr) (cd:=cd) hf'.1 hf'.2 (by omega) (by omega)
      have hok:SpanOk fr (lastF fr cd):=⟨hf'.1,hge.1,by omega,hge.2⟩
      split at h
      ·rename_i hd
       rw [if_pos hd]
       obtain⟨h1,h2⟩:=ih _ h
       exact⟨.more hok hd.1 h1,by simp only [List.length_cons];omega⟩
      ·rename_i hd
       rw [if_neg hd]
       simp only [Bool.and_eq_true,decide_eq_true_eq] at h
       exact⟨.last hok h.1 h.2,by simp⟩
  ·cases h
theorem evErr_amt{t:Tm}{e:Ev}(h:evErr t e=0):e.kind=2→0≤e.amount∧e.amount≤1000000000000000:=by
 intro hk
 unfold evErr at h
 split at h
 ·cases h
 ·split at h
  ·cases h
  ·split at h
   ·cases h
   ·split at h
    ·cases h
    ·rename_i ha
     constructor<;>omega
structure RepOk(t:Tm)(L:List Ev)(td:Int):Prop where
 tm:t.err=0
 ev:∀x∈L,evErr t x=0
 ln:L.length≤2000
 d0:t.start≤td
 d1:td≤2932896
 fd:(findW t.cyc td 300 t.start).2=true
 lt:∀x∈L,x.day≤td
theorem repErr_ok{t:Tm}{L:List Ev}{td:Int}(h:repErr t L td=0):RepOk t L td:=by
 unfold repErr at h
 split at h
 ·rename_i h1
  split at h
  ·rename_i h2
   split at h
   ·cases h
   ·rename_i h3
    split at h
    ·cases h
    ·rename_i h4
     split at h
     ·cases h
     ·rename_i h5
      split at h
      ·cases h
      ·rename_i h6
       have h5':ofE t.start t.cyc td=0:=by omega
       refine⟨h1,evsErr_ok h2,by omega,by omega,by omega, ?_,fun x hx=> ?_⟩
       ·unfold ofE at h5'
        split at h5'
        ·split at h5'
         ·assumption
         ·cases h5'
        ·rename_i hh;exact absurd h5' hh
       ·rcases hb:lateQ td x with _|_
        ·simp [lateQ] at hb;exact hb
        ·exact absurd (List.any_eq_true.2 ⟨x,hx,hb⟩) h6
  ·rename_i h2;exact absurd h h2
 ·cases h
structure StOk(n:Nat)(s:St)(len:Nat):Prop where
 pr:s.p.rightB=true
 nb:s.p.bal.length=n
 nr:s.R.length=n
 rt:∀x∈s.R,0≤x∧x≤10000000
 n0:s.e0.length=n
 n1:s.e1.length=n
 m0:∀r∈s.e0,r.length=len∧∀y∈r,0≤y∧y≤1000000000000000
 m1:∀r∈s.e1,r.length=len∧∀y∈r,0≤y∧y≤10000000
theorem evR_ok(day:Int):∀(M:List Ev) (i:Nat) (p:Ps) (R:List Int),p.rightB=true→(∀x∈R,0≤x∧x≤10000000)→(evR day M i p R).2.2.2=0→
  (evR day M i p R).2.1.rightB=true∧(evR day M i p R).2.1.bal.length=p.bal.length∧(evR day M i p R).2.2.1.length=R.length∧(∀x∈(evR day M i p R).2.2.1,0≤x∧x≤10000000)∧i≤(evR day M i p R).1∧(evR day M i p R).1≤i+M.length:=by
 intro M
 induction M with
 |nil=>intro i p R hp hR _;exact⟨hp,rfl,rfl,hR,Nat.le_refl _,Nat.le_refl _⟩
 |cons e M ih=>
  intro i p R hp hR h
  unfold evR at h⊢
  split at h
  ·rename_i hd
   rw [if_pos hd]
   split at h
   ·rename_i h0
    rw [if_pos h0]
    obtain⟨a1,a2,a3,a4⟩:=applyR_ok h0
    obtain⟨b1,b2,b3,b4,b5,b6⟩:=ih _ _ _ a3 a4 h
    exact⟨b1,b2.trans a1,b3.trans a2,b4,by omega,by simp only [List.length_cons];omega⟩
   ·rename_i h0;exact absurd h h0
  ·rename_i hd
   rw [if_neg hd]
   exact⟨hp,rfl,rfl,hR,Nat.le_refl _,by omega⟩
theorem StOk.ev{n len:Nat}{s:St}(h:StOk n s len){M:List Ev}(hz:(evR s.day M s.i s.p s.R).2.2.2=0):StOk n (evSt s (evR s.day M s.i s.p s.R)) len:=by
 obtain⟨b1,b2,b3,b4,_,_⟩:=evR_ok s.day M s.i s.p s.R h.pr h.rt hz
 exact⟨b1,b2.trans h.nb,b3.trans h.nr,b4,h.n0,h.n1,h.m0,h.m1⟩
theorem ext_mem{E:List (List Int)}{V:List Int}{r:List Int}(h:r∈List.zipWith (fun r v=>r++ [v]) E V):∃a∈E,∃v∈V,r=a++ [v]:=by
 obtain⟨k,hk⟩:=List.getElem?_of_mem h
 rw [List.getElem?_zipWith] at hk
 rcases h1:E[k]? with _|a
 ·rw [h1] at hk;simp at hk
 ·rcases h2:V[k]? with _|v
  ·rw [h1,h2] at hk;simp at hk
  ·rw [h1,h2] at hk
   simp only [Option.some.injEq] at hk
   exact⟨a,List.mem_of_getElem? h1,v,List.mem_of_getElem? h2,hk.symm⟩
theorem StOk.fin{n len:Nat}{s:St}(h:StOk n s len):StOk n (endSt s n n) (len+1):=by
 have e0:extL s.e0 s.p.bal n=List.zipWith (fun r v=>r++ [v]) s.e0 s.p.bal:=extL_full h.nb h.n0
 have e1:extL s.e1 s.R n=List.zipWith (fun r v=>r++ [v]) s.e1 s.R:=extL_full h.nr h.n1
 obtain⟨hb,_⟩:=right_nums h.pr
 refine⟨h.pr,h.nb,h.nr,h.rt, ?_, ?_, ?_, ?_⟩
 ·show(extL s.e0 s.p.bal n).length=n
  rw [e0,List.length_zipWith,h.n0,h.nb];omega
 ·show(extL s.e1 s.R n).length=n
  rw [e1,List.length_zipWith,h.n1,h.nr];omega
 ·intro r hr
  have hr':r∈extL s.e0 s.p.bal n:=hr
  rw [e0] at hr'
  obtain⟨a,ha,v,hv,rfl⟩:=ext_mem hr'
  obtain⟨h1,h2⟩:=h.m0 a ha
  refine⟨by rw [List.length_append,h1];rfl,fun y hy=> ?_⟩
  rcases List.mem_append.1 hy with hy|hy
  ·exact h2 y hy
  ·obtain rfl:y=v:=by simpa using hy
   exact hb _ hv
 ·intro r hr
  have hr':r∈extL s.e1 s.R n:=hr
  rw [e1] at hr'
  obtain⟨a,ha,v,hv,rfl⟩:=ext_mem hr'
  obtain⟨h1,h2⟩:=h.m1 a ha
  refine⟨by rw [List.length_append,h1];rfl,fun y hy=> ?_⟩
  rcases List.mem_append.1 hy with hy|hy
  ·exact h2 y hy
  ·obtain rfl:y=v:=by simpa using hy
   exact h.rt _ hv
theorem StOk.lens{n len:Nat}{s:St}(h:StOk n s len)(hl:len≤40000):∀(k:Nat) (a b:List Int),s.e0[k]?=some a→s.e1[k]?=some b→a.length=b.length∧a.length≤40000:=fun k a b ha hb=>by
 have h1:=(h.m0 a (List.mem_of_getElem? ha)).1
 have h2:=(h.m1 b (List.mem_of_getElem? hb)).1
 omega
theorem closeS_ok{t:Tm}{L:List Ev}{n len:Nat}{s s':St}{fr te:Int}(hz:t.err=0)(hn:t.trs.length=n)(h:StOk n s len)(hc:closeS t L n s fr te=some s'):StOk n s' 0∧s'.out.length=s.out.length+1∧s'.i=s.i∧s'.day=s.day:=by
 unfold closeS at hc
 split at hc
 ·cases hc
 ·rename_i V hV
  obtain⟨v1,v2⟩:=intrO_ok hn h.n0 h.n1 (fun r hr=>(h.m0 r hr).2) (fun r hr=>(h.m1 r hr).2) hV
  split at hc
  ·cases hc
  ·rename_i x q hx
   simp only [Option.some.injEq] at hc
   subst hc
   obtain⟨q1,q2⟩:=closeR_ok hz h.pr (by rw [v1];exact h.nb.symm) (List.all_eq_true.2 fun y hy=>(moneyP_iff y).2 (v2 y hy)) hx
   have hrep:∀r∈List.replicate n ([]:List Int),r= []:=fun r hr=>(List.mem_replicate.1 hr).2
   refine⟨⟨q2,q1.trans h.nb,h.nr,h.rt,by simp,by simp,fun r hr=> ?_,fun r hr=> ?_⟩,by simp,rfl,rfl⟩
   ·rw [hrep r hr];simp
   ·rw [hrep r hr];simp
def walkD(t:Tm)(T:List Ev)(n:Nat):Nat→List (Int×Int)→St→St×Int
 |0,_,s=>(evSt s (evR s.day (T.drop s.i) s.i s.p s.R),(evR s.day (T.drop s.i) s.i s.p s.R).2.2.2)
 |d+1,S,s=>if(evR s.day (T.drop s.i) s.i s.p s.R).2.2.2=0 then
   (match S with
    | []=>(s,5)
    |(fr,te)::S'=>if te=s.day then(match closeS t T n (endSt (evSt s (evR s.day (T.drop s.i) s.i s.p s.R)) n n) fr te with
      |none=>(s,5)
      |some s2=>walkD t T n d S' { s2 with day:=s.day+1 })
     else walkD t T n d ((fr,te)::S') { endSt (evSt s (evR s.day (T.drop s.i) s.i s.p s.R)) n n with day:=s.day+1 })
  else(s,(evR s.day (T.drop s.i) s.i s.p s.R).2.2.2)
def st0(t:Tm):St:=⟨0,t.start,⟨List.replicate t.trs.length 0,0,0⟩,t.trs.map Tn.rate,List.replicate t.trs.length [],List.replicate t.trs.length [], []⟩
theorem st0_ok{t:Tm}(h:t.err=0):StOk t.trs.length (st0 t) 0:=by
 obtain⟨⟨l0,l1⟩,hr,_⟩:=tm_nums h
 have hrep:∀r∈List.replicate t.trs.length ([]:List Int),r= []:=fun r hr=>(List.mem_replicate.1 hr).2
 refine⟨?_,by simp [st0],by simp [st0],fun x hx=> ?_,by simp [st0],by simp [st0],fun r hr=> ?_,fun r hr=> ?_⟩
 ·have h1:∀k:Nat,sumI (List.replicate k (0:Int))=0:=fun k=>by
   induction k with
   |zero=>rfl
   |succ k ih=>rw [List.replicate_succ,sumI,ih];rfl
  have h2:(List.replicate t.trs.length (0:Int)).all moneyP=true:=List.all_eq_true.2 fun x hx=>by rw [(List.mem_replicate.1 hx).2];rfl
  show Ps.rightB ⟨List.replicate t.trs.length 0,0,0⟩=true
  simp only [Ps.rightB,scanB,h1,h2,List.length_replicate]
  simp [moneyP,l0,l1]
 ·simp only [st0,List.mem_map] at hx
  obtain⟨y,hy,rfl⟩:=hx
  exact hr y hy
 ·rw [hrep r hr];simp
 ·rw [hrep r hr];simp
def walkR(t:Tm)(L:List Ev)(td:Int):St×Int:=if repErr t L td=0 then walkD t (sortL L) t.trs.length (td-t.start).toNat (allL t.start t.cyc td) (st0 t) else(st0 t,repErr t L td)
theorem fresh_raw{B n cT:Nat}{adT:Option Addr}{c0 c2 c3 c4 c5 c6 c7 c8 c9 c10 c11 c12 c13 c14 c15 c16 c17 c18 c19:Value}{W W2:World}(h:W.heap[B]?=some (.cells #[c0, .slice adT n cT,c2,c3,c4,c5,c6,c7,c8,c9,c10,c11,c12,c13,c14,c15,c16,c17,c18,c19] 110 (0,0)))(hk:Keeps (fun _=>False) W W2)(a b:Nat):
  ((W2.setCell ⟨B,14,none⟩ (.slice (some ⟨a,0,none⟩) n n)).setCell ⟨B,15,none⟩ (.slice (some ⟨b,0,none⟩) n n)).heap[B]?=some (.cells #[c0, .slice adT n cT,c2,c3,c4,c5,c6,c7,c8,c9,c10,c11,c12,c13, .slice (some ⟨a,0,none⟩) n n, .slice (some ⟨b,0,none⟩) n n,c16,c17,c18,c19] 110 (0,0))∧Keeps (fun i=>i=B) W ((W2.setCell ⟨B,14,none⟩ (.slice (some ⟨a,0,none⟩) n n)).setCell ⟨B,15,none⟩ (.slice (some ⟨b,0,none⟩) n n)):=by
 have h2:=box_old h hk (by simp)
 have h3:=(heap_setCell_same _ _ 14 _ _ (.slice (some ⟨a,0,none⟩) n n) h2).trans rfl
 have h4:=(heap_setCell_same _ _ 15 _ _ (.slice (some ⟨b,0,none⟩) n n) h3).trans rfl
 have k1:Keeps (fun i=>i=B) W2 (W2.setCell ⟨B,14,none⟩ (.slice (some ⟨a,0,none⟩) n n)):=Keeps.setCell (S:=fun i=>i=B) _ _ _ rfl
 have k2:Keeps (fun i=>i=B) (W2.setCell ⟨B,14,none⟩ (.slice (some ⟨a,0,none⟩) n n)) ((W2.setCell ⟨B,14,none⟩ (.slice (some ⟨a,0,none⟩) n n)).setCell ⟨B,15,none⟩ (.slice (some ⟨b,0,none⟩) n n)):=Keeps.setCell (S:=fun i=>i=B) _ _ _ rfl
 have k0:Keeps (fun i=>i=B) W W2:=hk.mono (by simp)
 exact⟨h4,Keeps.trans (Keeps.trans k0 (k1.mono fun _ _ h=> .inl h)) (k2.mono fun _ _ h=> .inl h)⟩
set_option maxHeartbeats 1600000
theorem runFresh_raw{B n cT:Nat}{adT:Option Addr}{c0 c2 c3 c4 c5 c6 c7 c8 c9 c10 c11 c12 c13 c14 c15 c16 c17 c18 c19:Value}{W:World}(h:W.heap[B]?=some (.cells #[c0, .slice adT n cT,c2,c3,c4,c5,c6,c7,c8,c9,c10,c11,c12,c13,c14,c15,c16,c17,c18,c19] 110 (0,0)))(hn:n≤1000):
  Calls Tryz.prog 65 #[(.pointer (some ⟨B,0,none⟩))] W fun e W'=>e= .returned (.tuple #[])∧∃a b,W'.heap[B]?=some (.cells #[c0, .slice adT n cT,c2,c3,c4,c5,c6,c7,c8,c9,c10,c11,c12,c13, .slice (some ⟨a,0,none⟩) n n, .slice (some ⟨b,0,none⟩) n n,c16,c17,c18,c19] 110 (0,0))∧W'.heap[a]?=some (.cells ((List.replicate n si0).map SI.v).toArray 22 (0,0))∧W'.heap[b]?=some (.cells ((List.replicate n si0).map SI.v).toArray 22 (0,0))∧W.heap.size≤a∧W.heap.size≤b∧a≠b∧Keeps (fun i=>i=B) W W':=by
 obtain⟨i0,hi,hi0,hi1,hi2⟩:=info_parts info_tI64s
 have hmk:=fun(W:World)=>run_makeSlice (P:=Tryz.prog) W 87 22 i0 (.slice none 0 0) Tryz.underlying87 hi hi0 .i64 .i64 (n:Int) (n:Int) (by omega) (by omega) (by rw [hi1];omega) (by rw [hi2];omega) (by omega)
 simp only [Int.toNat_natCast,hi1,Nat.mul_one] at hmk
 obtain⟨Z,hZ⟩:∃Z,Z=madeCells (Value.slice none 0 0).cells n:=⟨_,rfl⟩
 rw [←hZ] at hmk
 rw [made_sis] at hZ
 have hblk:=h
 have hS:∀W',Keeps (fun _=>False) W W'→(W'.cell? ⟨B,14,none⟩=some c14∧W'.cell? ⟨B,15,none⟩=some c15∧W'.frozen? ⟨B,14,none⟩=false∧W'.frozen? ⟨B,15,none⟩=false∧B<W'.heap.size):=fun W' hk=>by
  have hb:=box_old h hk (by simp)
  exact⟨cell_of_cells hb 14,cell_of_cells hb 15,free_of_cells hb 14,free_of_cells hb 15,lt_of_block hb⟩
 have q1:=cell_of_cells h 1
 have bl:=lt_of_block h
 obtain⟨H,Hblk,Hi,Hi0,Hi1,Hi2,HZ,HS⟩:=hid8 h hblk hi hi0 hi1 hi2 hZ hS;clear hS hZ hi2 hi1 hi0 hi hblk h
 go_enter Tryz.func65,Tryz.ntmps65
 go_wp2_with fail
 refine wp_region_mixw (fun _=>True) (.take 0 (.take 1 (.take 3 (.fork 2 (.move 4 (.take 5 (.take 6 (.take 7 (.move 8 .done))))) 4 (.move 2 (.take 5 (.take 6 (.take 7 (.move 8 .done))))))))) (by kernel_rfl) (by kernel_rfl) ?_ ?_
 ·trivial
 intro w1 hs1 hk1
 have Hk1:=Lib.hid hk1
 clear hk1 hs1
 repeat (first
  |(refine mix_skip rfl (by rfl) ?_;try simp only [Act.put,List.setIfInBounds_toArray,List.set_cons_zero,List.set_cons_succ])
  |(refine mix_skipm rfl (by rfl) ?_;try simp only [Act.put,List.setIfInBounds_toArray,List.set_cons_zero,List.set_cons_succ])
  |(refine mix_take (v:= ?_) rfl (by rfl) ?_ ?_;rotate_left;(· intro w' hSw;(try dsimp only at hSw);go_simp;(try with_reducible rfl));rotate_right;try simp only [Act.put,List.setIfInBounds_toArray,List.set_cons_zero,List.set_cons_succ]))
 refine mix_fork ?_ ?_ trivial
 ·skip
  refine mix_move rfl (fun K hK=> ?_)
  go_simp
  refine hK.out _ _ (by trivial) ?_
  clear hK K
  try simp only [Act.put,List.setIfInBounds_toArray,List.set_cons_zero,List.set_cons_succ]
  repeat (first
   |(refine mix_skip rfl (by rfl) ?_;try simp only [Act.put,List.setIfInBounds_toArray,List.set_cons_zero,List.set_cons_succ])
   |(refine mix_skipm rfl (by rfl) ?_;try simp only [Act.put,List.setIfInBounds_toArray,List.set_cons_zero,List.set_cons_succ])
   |(refine mix_take (v:= ?_) rfl (by rfl) ?_ ?_;rotate_left;(· intro w' hSw;(try dsimp only at hSw);go_simp;(try with_reducible rfl));rotate_right;try simp only [Act.put,List.setIfInBounds_toArray,List.set_cons_zero,List.set_cons_succ]))
  refine mix_move rfl (fun K hK=> ?_)
  go_simp
  refine hK.out _ _ (by trivial) ?_
  clear hK K
  try simp only [Act.put,List.setIfInBounds_toArray,List.set_cons_zero,List.set_cons_succ]
  repeat (first
   |(refine mix_skip rfl (by rfl) ?_;try simp only [Act.put,List.setIfInBounds_toArray,List.set_cons_zero,List.set_cons_succ])
   |(refine mix_skipm rfl (by rfl) ?_;try simp only [Act.put,List.setIfInBounds_toArray,List.set_cons_zero,List.set_cons_succ])
   |(refine mix_take (v:= ?_) rfl (by rfl) ?_ ?_;rotate_left;(· intro w' hSw;(try dsimp only at hSw);go_simp;(try with_reducible rfl));rotate_right;try simp only [Act.put,List.setIfInBounds_toArray,List.set_cons_zero,List.set_cons_succ]))
  obtain⟨s14,s15,s16,s17,sl⟩:=HS.out _ ((Hk1.out.trans_alloc (o:= .cells Z 22)).trans_alloc (o:= .cells Z 22))
  have z0:((w1.alloc (.cells Z 22)).alloc (.cells Z 22)).heap[w1.heap.size]?=some (.cells ((List.replicate n si0).map SI.v).toArray 22 (0,0)):=by rw [show((List.replicate n si0).map SI.v).toArray=Z from HZ.out.symm];exact box_alloc (heap_alloc_new w1 _) _
  have z1:((w1.alloc (.cells Z 22)).alloc (.cells Z 22)).heap[w1.heap.size+1]?=some (.cells ((List.replicate n si0).map SI.v).toArray 22 (0,0)):=by rw [show((List.replicate n si0).map SI.v).toArray=Z from HZ.out.symm];exact halloc_at2 _ _ (by simp)
  have hka:=(Hk1.out.trans_alloc (o:= .cells Z 22)).trans_alloc (o:= .cells Z 22)
  obtain⟨hfb,hfk⟩:=fresh_raw Hblk.out hka (w1.heap.size) (w1.heap.size+1)
  have hBl:=lt_of_block Hblk.out
  have hs1:=Hk1.out.size
  have kBB:Keeps (fun i=>i=B) ((w1.alloc (.cells Z 22)).alloc (.cells Z 22)) ((((w1.alloc (.cells Z 22)).alloc (.cells Z 22)).setCell ⟨B,14,none⟩ (.slice (some ⟨w1.heap.size,0,none⟩) n n)).setCell ⟨B,15,none⟩ (.slice (some ⟨w1.heap.size+1,0,none⟩) n n)):=(Keeps.setCell (S:=fun i=>i=B) _ _ _ rfl).trans (Keeps.setCell _ _ _ (.inl rfl))
  have hfin:∃a b,((((w1.alloc (.cells Z 22)).alloc (.cells Z 22)).setCell ⟨B,14,none⟩ (.slice (some ⟨w1.heap.size,0,none⟩) n n)).setCell ⟨B,15,none⟩ (.slice (some ⟨w1.heap.size+1,0,none⟩) n n)).heap[B]?=some (.cells #[c0, .slice adT n cT,c2,c3,c4,c5,c6,c7,c8,c9,c10,c11,c12,c13, .slice (some ⟨a,0,none⟩) n n, .slice (some ⟨b,0,none⟩) n n,c16,c17,c18,c19] 110 (0,0))∧((((w1.alloc (.cells Z 22)).alloc (.cells Z 22)).setCell ⟨B,14,none⟩ (.slice (some ⟨w1.heap.size,0,none⟩) n n)).setCell ⟨B,15,none⟩ (.slice (some ⟨w1.heap.size+1,0,none⟩) n n)).heap[a]?=some (.cells ((List.replicate n si0).map SI.v).toArray 22 (0,0))∧
    ((((w1.alloc (.cells Z 22)).alloc (.cells Z 22)).setCell ⟨B,14,none⟩ (.slice (some ⟨w1.heap.size,0,none⟩) n n)).setCell ⟨B,15,none⟩ (.slice (some ⟨w1.heap.size+1,0,none⟩) n n)).heap[b]?=some (.cells ((List.replicate n si0).map SI.v).toArray 22 (0,0))∧W.heap.size≤a∧W.heap.size≤b∧a≠b∧Keeps (fun i=>i=B) W ((((w1.alloc (.cells Z 22)).alloc (.cells Z 22)).setCell ⟨B,14,none⟩ (.slice (some ⟨w1.heap.size,0,none⟩) n n)).setCell ⟨B,15,none⟩ (.slice (some ⟨w1.heap.size+1,0,none⟩) n n)):=
   ⟨w1.heap.size,w1.heap.size+1,hfb,box_old z0 kBB (by omega),box_old z1 kBB (by omega),by omega,by omega,by omega,hfk⟩
  obtain⟨Hfin,Z0,Z1,Hka,Hfb,Hfk,KBB⟩:=hid7 hfin z0 z1 hka hfb hfk kBB;clear kBB hfk hfb hka z1 z0 hfin
  refine mix_move rfl (fun K hK=> ?_)
  go_simp
  refine hK.out _ _ (by trivial) ?_
  clear hK K
  try simp only [Act.put,List.setIfInBounds_toArray,List.set_cons_zero,List.set_cons_succ]
  repeat (first
   |(refine mix_skip rfl (by rfl) ?_;try simp only [Act.put,List.setIfInBounds_toArray,List.set_cons_zero,List.set_cons_succ])
   |(refine mix_skipm rfl (by rfl) ?_;try simp only [Act.put,List.setIfInBounds_toArray,List.set_cons_zero,List.set_cons_succ])
   |(refine mix_take (v:= ?_) rfl (by rfl) ?_ ?_;rotate_left;(· intro w' hSw;(try dsimp only at hSw);go_simp;(try with_reducible rfl));rotate_right;try simp only [Act.put,List.setIfInBounds_toArray,List.set_cons_zero,List.set_cons_succ]))
  refine mix_done ?_
  clear s14 s15 s16 s17 sl
  go_wp2
  go_end0
  exact⟨rfl,Hfin.out⟩
 ·skip
  refine mix_move rfl (fun K hK=> ?_)
  go_simp
  refine hK.out _ _ (by trivial) ?_
  clear hK K
  try simp only [Act.put,List.setIfInBounds_toArray,List.set_cons_zero,List.set_cons_succ]
  repeat (first
   |(refine mix_skip rfl (by rfl) ?_;try simp only [Act.put,List.setIfInBounds_toArray,List.set_cons_zero,List.set_cons_succ])
   |(refine mix_skipm rfl (by rfl) ?_;try simp only [Act.put,List.setIfInBounds_toArray,List.set_cons_zero,List.set_cons_succ])
   |(refine mix_take (v:= ?_) rfl (by rfl) ?_ ?_;rotate_left;(· intro w' hSw;(try dsimp only at hSw);go_simp;(try with_reducible rfl));rotate_right;try simp only [Act.put,List.setIfInBounds_toArray,List.set_cons_zero,List.set_cons_succ]))
  refine mix_move rfl (fun K hK=> ?_)
  go_simp
  refine hK.out _ _ (by trivial) ?_
  clear hK K
  try simp only [Act.put,List.setIfInBounds_toArray,List.set_cons_zero,List.set_cons_succ]
  repeat (first
   |(refine mix_skip rfl (by rfl) ?_;try simp only [Act.put,List.setIfInBounds_toArray,List.set_cons_zero,List.set_cons_succ])
   |(refine mix_skipm rfl (by rfl) ?_;try simp only [Act.put,List.setIfInBounds_toArray,List.set_cons_zero,List.set_cons_succ])
   |(refine mix_take (v:= ?_) rfl (by rfl) ?_ ?_;rotate_left;(· intro w' hSw;(try dsimp only at hSw);go_simp;(try with_reducible rfl));rotate_right;try simp only [Act.put,List.setIfInBounds_toArray,List.set_cons_zero,List.set_cons_succ]))
  obtain⟨s14,s15,s16,s17,sl⟩:=HS.out _ ((Hk1.out.trans_alloc (o:= .cells Z 22)).trans_alloc (o:= .cells Z 22))
  have z0:((w1.alloc (.cells Z 22)).alloc (.cells Z 22)).heap[w1.heap.size]?=some (.cells ((List.replicate n si0).map SI.v).toArray 22 (0,0)):=by rw [show((List.replicate n si0).map SI.v).toArray=Z from HZ.out.symm];exact box_alloc (heap_alloc_new w1 _) _
  have z1:((w1.alloc (.cells Z 22)).alloc (.cells Z 22)).heap[w1.heap.size+1]?=some (.cells ((List.replicate n si0).map SI.v).toArray 22 (0,0)):=by rw [show((List.replicate n si0).map SI.v).toArray=Z from HZ.out.symm];exact halloc_at2 _ _ (by simp)
  have hka:=(Hk1.out.trans_alloc (o:= .cells Z 22)).trans_alloc (o:= .cells Z 22)
  obtain⟨hfb,hfk⟩:=fresh_raw Hblk.out hka (w1.heap.size+1) (w1.heap.size)
  have hBl:=lt_of_block Hblk.out
  have hs1:=Hk1.out.size
  have kBB:Keeps (fun i=>i=B) ((w1.alloc (.cells Z 22)).alloc (.cells Z 22)) ((((w1.alloc (.cells Z 22)).alloc (.cells Z 22)).setCell ⟨B,14,none⟩ (.slice (some ⟨w1.heap.size+1,0,none⟩) n n)).setCell ⟨B,15,none⟩ (.slice (some ⟨w1.heap.size,0,none⟩) n n)):=(Keeps.setCell (S:=fun i=>i=B) _ _ _ rfl).trans (Keeps.setCell _ _ _ (.inl rfl))
  have hfin:∃a b,((((w1.alloc (.cells Z 22)).alloc (.cells Z 22)).setCell ⟨B,14,none⟩ (.slice (some ⟨w1.heap.size+1,0,none⟩) n n)).setCell ⟨B,15,none⟩ (.slice (some ⟨w1.heap.size,0,none⟩) n n)).heap[B]?=some (.cells #[c0, .slice adT n cT,c2,c3,c4,c5,c6,c7,c8,c9,c10,c11,c12,c13, .slice (some ⟨a,0,none⟩) n n, .slice (some ⟨b,0,none⟩) n n,c16,c17,c18,c19] 110 (0,0))∧((((w1.alloc (.cells Z 22)).alloc (.cells Z 22)).setCell ⟨B,14,none⟩ (.slice (some ⟨w1.heap.size+1,0,none⟩) n n)).setCell ⟨B,15,none⟩ (.slice (some ⟨w1.heap.size,0,none⟩) n n)).heap[a]?=some (.cells ((List.replicate n si0).map SI.v).toArray 22 (0,0))∧
    ((((w1.alloc (.cells Z 22)).alloc (.cells Z 22)).setCell ⟨B,14,none⟩ (.slice (some ⟨w1.heap.size+1,0,none⟩) n n)).setCell ⟨B,15,none⟩ (.slice (some ⟨w1.heap.size,0,none⟩) n n)).heap[b]?=some (.cells ((List.replicate n si0).map SI.v).toArray 22 (0,0))∧W.heap.size≤a∧W.heap.size≤b∧a≠b∧Keeps (fun i=>i=B) W ((((w1.alloc (.cells Z 22)).alloc (.cells Z 22)).setCell ⟨B,14,none⟩ (.slice (some ⟨w1.heap.size+1,0,none⟩) n n)).setCell ⟨B,15,none⟩ (.slice (some ⟨w1.heap.size,0,none⟩) n n)):=
   ⟨w1.heap.size+1,w1.heap.size,hfb,box_old z1 kBB (by omega),box_old z0 kBB (by omega),by omega,by omega,by omega,hfk⟩
  obtain⟨Hfin,Z0,Z1,Hka,Hfb,Hfk,KBB⟩:=hid7 hfin z0 z1 hka hfb hfk kBB;clear kBB hfk hfb hka z1 z0 hfin
  refine mix_move rfl (fun K hK=> ?_)
  go_simp
  refine hK.out _ _ (by trivial) ?_
  clear hK K
  try simp only [Act.put,List.setIfInBounds_toArray,List.set_cons_zero,List.set_cons_succ]
  repeat (first
   |(refine mix_skip rfl (by rfl) ?_;try simp only [Act.put,List.setIfInBounds_toArray,List.set_cons_zero,List.set_cons_succ])
   |(refine mix_skipm rfl (by rfl) ?_;try simp only [Act.put,List.setIfInBounds_toArray,List.set_cons_zero,List.set_cons_succ])
   |(refine mix_take (v:= ?_) rfl (by rfl) ?_ ?_;rotate_left;(· intro w' hSw;(try dsimp only at hSw);go_simp;(try with_reducible rfl));rotate_right;try simp only [Act.put,List.setIfInBounds_toArray,List.set_cons_zero,List.set_cons_succ]))
  refine mix_done ?_
  clear s14 s15 s16 s17 sl
  go_wp2
  go_end0
  exact⟨rfl,Hfin.out⟩
end Go.Proofs.YthcmpcekmkioaaaGreat
namespace Go.Proofs.YthcmpcekmkioaaaGreat
open Go.RowKit
theorem rowSame{W W':World}{e:TypeId}{sz m:Nat}{v:Value}{xs:List Value}(h:W.ownsRow 0 e sz v m xs)(hb:∀g,v.ownBlock=some g→W'.heap[g]?=W.heap[g]?):W'.ownsRow 0 e sz v m xs:=by
 obtain⟨h1,h2⟩:=h
 refine⟨h1, ?_⟩
 rcases h2 with h2|⟨g,cap,cur,hv,h3,h4,h5⟩
 ·exact .inl h2
 ·exact .inr ⟨g,cap,cur,hv,h3,(hb g (by rw [hv];rfl)).trans h4,h5⟩
section
variable {w0:World} {X:Fx} {B:Nat} {t:Tm} {n:Nat} {vt:Value} {L:List Ev} {f0 f1 f2:Value} {s:St} {vl vb vr:Value} {g0 g1:Nat} {S0 S1:List SI} {vo:Value} {P:List SV} {W W':World}
theorem RunV.rebase(h:RunV w0 X B t n vt L f0 f1 f2 s vl vb vr g0 g1 S0 S1 vo P W):RunV w0 ⟨X.X,X.X,W⟩ B t n vt L f0 f1 f2 s vl vb vr g0 g1 S0 S1 vo P W:=
 { h with
  yx:=fun _ h=>h
  fz:=fun _ _=>rfl }
end
def wkX(b8 b13:Nat)(vS:Value):Nat→Prop:=fun i=>i=b8∨i=b13∨vS.ownBlock=some i
structure DayW(w:World)(B b8 b13:Nat)(t:Tm)(n:Nat)(vt:Value)(T:List Ev)(A:List (Int×Int))(vS:Value)(s:St)(W:World):Prop where
 run:∃vl vb vr g0 g1 S0 S1 vo P,RunV w ⟨wkX b8 b13 vS,wkX b8 b13 vS,W⟩ B t n vt T .nilFunc .nilFunc .nilFunc s vl vb vr g0 g1 S0 S1 vo P W
 pos:W.heap[b8]?=some (.cells #[.slice none 0 0, .int .i64 0, .int .i64 0] 24 (0,0))
 spn:∃x y,W.heap[b13]?=some (.cells #[.int .i64 x, .int .i64 y] 77 (0,0))
 row:W.ownsRow 0 77 2 vS A.length (A.flatMap spc)
 lo:w.heap.size≤b8∧w.heap.size≤b13∧∀g,vS.ownBlock=some g→w.heap.size≤g
 nv:∀g,vS.ownBlock=some g→g≠b13
section
variable {w:World} {B b8 b13:Nat} {t:Tm} {n:Nat} {vt:Value} {T:List Ev} {A:List (Int×Int)} {vS:Value} {s s':St} {W W':World}
theorem DayW.call(h:DayW w B b8 b13 t n vt T A vS s W){vl vb vr:Value}{g0 g1:Nat}{S0 S1:List SI}{vo:Value}{P:List SV}(hr:RunV w ⟨wkX b8 b13 vS,wkX b8 b13 vS,W⟩ B t n vt T .nilFunc .nilFunc .nilFunc s' vl vb vr g0 g1 S0 S1 vo P W'):DayW w B b8 b13 t n vt T A vS s' W':=by
 have hb:∀b,wkX b8 b13 vS b→W'.heap[b]?=W.heap[b]?:=fun b hb=>hr.fz b hb
 obtain⟨x,y,hxy⟩:=h.spn
 exact⟨⟨_,_,_,_,_,_,_,_,_,hr.rebase⟩,(hb _ (.inl rfl)).trans h.pos,⟨x,y,(hb _ (.inr (.inl rfl))).trans hxy⟩,rowSame h.row fun g hg=>hb g (.inr (.inr hg)),h.lo,h.nv⟩
theorem DayW.span(h:DayW w B b8 b13 t n vt T A vS s W)(x y:Int):DayW w B b8 b13 t n vt T A vS s ((W.setCell ⟨b13,0,none⟩ (.int .i64 x)).setCell ⟨b13,1,none⟩ (.int .i64 y))∧((W.setCell ⟨b13,0,none⟩ (.int .i64 x)).setCell ⟨b13,1,none⟩ (.int .i64 y)).heap[b13]?=some (.cells #[.int .i64 x, .int .i64 y] 77 (0,0)):=by
 obtain⟨x0,y0,hs⟩:=h.spn
 have hb:((W.setCell ⟨b13,0,none⟩ (.int .i64 x)).setCell ⟨b13,1,none⟩ (.int .i64 y)).heap[b13]?=some (.cells #[.int .i64 x, .int .i64 y] 77 (0,0)):=(heap_setCell_same _ _ 1 _ _ _ ((heap_setCell_same _ _ 0 _ _ _ hs).trans rfl)).trans rfl
 have hk:Keeps (fun i=>i=b13) W ((W.setCell ⟨b13,0,none⟩ (.int .i64 x)).setCell ⟨b13,1,none⟩ (.int .i64 y)):=(Keeps.setCell (S:=fun i=>i=b13) _ _ _ rfl).trans (Keeps.setCell _ _ _ (.inl rfl))
 obtain⟨vl,vb,vr,g0,g1,S0,S1,vo,P,hr⟩:=h.run
 have hr2:RunV w ⟨wkX b8 b13 vS,fun _=>False,W⟩ B t n vt T .nilFunc .nilFunc .nilFunc s vl vb vr g0 g1 S0 S1 vo P W:={ hr with yx:=fun _ h=>h.elim,fz:=fun _ h=>h.elim }
 have hr3:=(hr2.keep hk (fun b hb=>by have e:b=b13:=hb;exact .inr (.inl e)) (fun _ _ h=>h)).rebase
 refine⟨⟨⟨vl,vb,vr,g0,g1,S0,S1,vo,P,hr3⟩,box_old h.pos hk (fun e=> ?_),⟨x,y,hb⟩,hk.row h.row (fun g hg e=>h.nv g hg e),h.lo,h.nv⟩,hb⟩
 have e':b8=b13:=e
 have h1:=h.pos
 rw [e',hs] at h1
 injection h1 with h1
 injection h1 with _ h1 _
 exact absurd h1 (by decide)
theorem DayW.keep0(h:DayW w B b8 b13 t n vt T A vS s W)(hk:Keeps (fun _=>False) W W'):DayW w B b8 b13 t n vt T A vS s W':=by
 obtain⟨vl,vb,vr,g0,g1,S0,S1,vo,P,hr⟩:=h.run
 exact h.call (hr.keep0 hk)
theorem DayW.day(h:DayW w B b8 b13 t n vt T A vS s W)(d:Int):DayW w B b8 b13 t n vt T A vS { s with day:=d } (W.setCell ⟨B,9,none⟩ (.int .i64 d)):=by
 obtain⟨vl,vb,vr,g0,g1,S0,S1,vo,P,hr⟩:=h.run
 exact h.call (hr.setDay d)
theorem DayW.c9(h:DayW w B b8 b13 t n vt T A vS s W):W.cell? ⟨B,9,none⟩=some (.int .i64 s.day)∧W.frozen? ⟨B,9,none⟩=false∧B<W.heap.size:=by
 obtain⟨vl,vb,vr,g0,g1,S0,S1,vo,P,hr⟩:=h.run
 exact⟨cell_of_cells hr.blk 9,free_of_cells hr.blk 9,lt_of_block hr.blk⟩
theorem DayW.keeps(h:DayW w B b8 b13 t n vt T A vS s W):Keeps (fun _=>False) w W:=by
 obtain⟨_,_,_,_,_,_,_,_,_,hr⟩:=h.run
 exact hr.kp.mono fun k hk hX=>by
  obtain⟨h1,h2,h3⟩:=h.lo
  rcases hX with rfl|rfl|hX
  ·omega
  ·omega
  ·have:=h3 k hX;omega
end
structure DayP(t:Tm)(T:List Ev)(n:Nat)(td:Int)(A:List (Int×Int))(s:St)(Z:St×Int):Prop where
 sp:∃fr te S',A.drop s.out.length=(fr,te)::S'∧SpanOk fr te∧(te<td→SpanC td (te+1) S')∧fr≤s.day∧s.day≤te∧StOk n s (s.day-fr).toNat∧walkD t T n (td-s.day).toNat ((fr,te)::S') s=Z
 dt:s.day≤td
 i:s.i≤T.length
section
variable {t:Tm} {T:List Ev} {n:Nat} {td:Int} {A:List (Int×Int)} {s:St} {Z:St×Int}
theorem DayP.err(h:DayP t T n td A s Z)(he:(evR s.day (T.drop s.i) s.i s.p s.R).2.2.2≠0):Z.2=(evR s.day (T.drop s.i) s.i s.p s.R).2.2.2:=by
 obtain⟨fr,te,S',_,_,_,_,_,_,hw⟩:=h.sp
 rcases hd:(td-s.day).toNat with _|d
 ·rw [hd] at hw;unfold walkD at hw;rw [←hw]
 ·rw [hd] at hw;unfold walkD at hw;rw [if_neg he] at hw;rw [←hw]
theorem DayP.last(h:DayP t T n td A s Z)(hd:s.day=td):Z=(evSt s (evR s.day (T.drop s.i) s.i s.p s.R),(evR s.day (T.drop s.i) s.i s.p s.R).2.2.2):=by
 obtain⟨fr,te,S',_,_,_,_,_,_,hw⟩:=h.sp
 rw [show(td-s.day).toNat=0 by omega] at hw
 unfold walkD at hw
 exact hw.symm
theorem DayP.go(h:DayP t T n td A s Z)(he:(evR s.day (T.drop s.i) s.i s.p s.R).2.2.2=0)(hd:s.day≠td)(hz:t.err=0)(hn:t.trs.length=n):
  ∃fr te,A[s.out.length]?=some (fr,te)∧SpanOk fr te∧StOk n (endSt (evSt s (evR s.day (T.drop s.i) s.i s.p s.R)) n n) ((s.day-fr).toNat+1)∧fr≤s.day∧s.day≤te∧s.out.length<A.length∧
   (te≠s.day→DayP t T n td A { endSt (evSt s (evR s.day (T.drop s.i) s.i s.p s.R)) n n with day:=s.day+1 } Z)∧
   (te=s.day→closeS t T n (endSt (evSt s (evR s.day (T.drop s.i) s.i s.p s.R)) n n) fr te=none→Z.2=5)∧
   (te=s.day→∀s2,closeS t T n (endSt (evSt s (evR s.day (T.drop s.i) s.i s.p s.R)) n n) fr te=some s2→DayP t T n td A { s2 with day:=s.day+1 } Z):=by
 obtain⟨fr,te,S',hA,hok,hnx,hfr,hte,hs,hw⟩:=h.sp
 have hdt:=h.dt
 have hi:=h.i
 obtain⟨d,hdd⟩:∃d,(td-s.day).toNat=d+1:=⟨(td-s.day).toNat-1,by omega⟩
 rw [hdd] at hw
 unfold walkD at hw
 rw [if_pos he] at hw
 have hget:A[s.out.length]?=some (fr,te):=by
  have h1:=congrArg (fun l=>l[0]?) hA
  simpa using h1
 have hlt:s.out.length<A.length:=by
  obtain⟨hh,_⟩:=List.getElem?_eq_some_iff.1 hget
  exact hh
 have hs1:StOk n (endSt (evSt s (evR s.day (T.drop s.i) s.i s.p s.R)) n n) ((s.day-fr).toNat+1):=(hs.ev he).fin
 obtain⟨_,_,_,_,i1,i2⟩:=evR_ok s.day (T.drop s.i) s.i s.p s.R hs.pr hs.rt he
 have hi2:(evR s.day (T.drop s.i) s.i s.p s.R).1≤T.length:=by
  rw [List.length_drop] at i2;omega
 refine⟨fr,te,hget,hok,hs1,hfr,hte,hlt,fun hne=> ?_,fun he hc=> ?_,fun he s2 hc=> ?_⟩
 ·dsimp only at hw
  rw [if_neg hne] at hw
  refine⟨⟨fr,te,S',hA,hok,hnx,by show fr≤s.day+1;omega,by show s.day+1≤te;omega, ?_, ?_⟩,by show s.day+1≤td;omega,hi2⟩
  ·show StOk n _ (s.day+1-fr).toNat
   rw [show(s.day+1-fr).toNat=(s.day-fr).toNat+1 by omega]
   exact⟨hs1.pr,hs1.nb,hs1.nr,hs1.rt,hs1.n0,hs1.n1,hs1.m0,hs1.m1⟩
  ·show walkD t T n (td-(s.day+1)).toNat _ _=Z
   rw [show(td-(s.day+1)).toNat=d by omega]
   exact hw
 ·dsimp only at hw
  rw [if_pos he,hc] at hw
  rw [←hw]
 ·dsimp only at hw
  rw [if_pos he,hc] at hw
  obtain⟨c1,c2,c3,c4⟩:=closeS_ok hz hn hs1 hc
  obtain⟨te',S'',hS,hok',hfr',hnx'⟩:=(hnx (by omega)).head
  subst hS
  have hA2:A.drop (s.out.length+1)=(te+1,te')::S'':=by
   rw [←List.drop_drop,hA];rfl
  have hlo:=hok'.le
  refine⟨⟨te+1,te',S'', ?_,hok',hnx',by show te+1≤s.day+1;omega,by show s.day+1≤te';omega, ?_, ?_⟩,by show s.day+1≤td;omega, ?_⟩
  ·show A.drop s2.out.length=_
   rw [c2];exact hA2
  ·show StOk n _ (s.day+1-(te+1)).toNat
   rw [show(s.day+1-(te+1)).toNat=0 by omega]
   exact⟨c1.pr,c1.nb,c1.nr,c1.rt,c1.n0,c1.n1,c1.m0,c1.m1⟩
  ·show walkD t T n (td-(s.day+1)).toNat _ _=Z
   rw [show(td-(s.day+1)).toNat=d by omega]
   exact hw
  ·show s2.i≤T.length
   rw [c3];exact hi2
theorem DayP.start{L:List Ev}(hz:repErr t L td=0)(hn:t.trs.length=n):DayP t (sortL L) n td (allL t.start t.cyc td) (st0 t) (walkR t L td):=by
 have hr:=repErr_ok hz
 have hA:allL t.start t.cyc td=(findW t.cyc td 300 t.start).1:=by unfold allL;rw [if_pos hr.fd]
 obtain⟨hs,_⟩:=find_spans t.cyc td 300 t.start hr.fd
 obtain⟨te,S',hS,hok,_,hnx⟩:=hs.head
 refine⟨⟨t.start,te,S', ?_,hok,hnx,Int.le_refl _,hok.le, ?_, ?_⟩,hr.d0,Nat.zero_le _⟩
 ·rw [hA,hS];rfl
 ·show StOk n (st0 t) (t.start-t.start).toNat
  rw [show(t.start-t.start).toNat=0 by omega,←hn]
  exact st0_ok hr.tm
 ·unfold walkR
  rw [if_pos hz,hA,hS,hn]
  rfl
theorem allL_length(st cd day:Int):(allL st cd day).length≤300:=by
 unfold allL
 split
 ·rename_i h;exact(find_spans cd day 300 st h).2
 ·simp
end
end Go.Proofs.YthcmpcekmkioaaaGreat
