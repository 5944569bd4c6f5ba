/-
  ReplayRuns: for every input the law returns true, and each argument reads behind the call as it read before. No condition.
-/
import Derived.Test.YtgfkeeicjjbnpaaGreatReplayRunsQ15
set_option maxRecDepth 100000
set_option maxHeartbeats 400000
namespace Go.Proofs.YtgfkeeicjjbnpaaGreat.replayRuns
open Go.ChangeShapes Go.WideShapes Go.ChangeAt Go.RowKit Go.Deep
theorem lifted(os:Os)(started:os.Started)(H:Type)(enc:TypeId×Value->H):
  ReturnsInHanded {} Tryz.checked os 3 .any (Rows.replayRunsSpec.pre6 enc Tryz.prog Tryz.f3 Rows.replayRunsRow.domain false) (Rows.replayRunsSpec.post enc Tryz.prog Tryz.f3 false true false false):=by
 refine returnsInHanded_of_change (C:=Tryz.checked) own started j4 Tryz.func3
  (ChangeSpec.witness6 (enc:=enc) (C:=Tryz.checked) false ⟨#[], #[.agg #[.int .i64 0,.slice none 0 0,.int .i64 0,.int .i64 0,.int .i64 0,.int .i64 0,.int .i64 0],.slice none 0 0,.int .i64 0,.int .i64 0,.bool false], []⟩ 8 j4 j4 j4 j4) ?_
 intro W base args ds gs before hval0 hW hcnd _;have hval:∀(j:Nat) t v,Tryz.f3.params[j]?=some t->args[j]?=some v->Value.okWide Tryz.prog W .any base t v:=hval0;have hW':=hW;obtain⟨p,q,hA0,hV,rfl,hfz,hnd⟩:=hW;have hA:DataW.TrodAll enc Tryz.prog W 0 (λ_=>true) true Tryz.f3.params.toList args.toList ds p:=hA0;rw [Tryz.params3] at hA hval;obtain⟨v0,vs0,d0,ds0,p0,q0,hargs,rfl,rfl,h0,r0⟩:=trodAll_cons hA;obtain⟨v1,vs1,d1,ds1,p1,q1,rfl,rfl,rfl,h1,r1⟩:=trodAll_cons r0;obtain⟨v2,vs2,d2,ds2,p2,q2,rfl,rfl,rfl,h2,r2⟩:=trodAll_cons r1;obtain⟨v3,vs3,d3,ds3,p3,q3,rfl,rfl,rfl,h3,r3⟩:=trodAll_cons r2;obtain⟨v4,vs4,d4,ds4,p4,q4,rfl,rfl,rfl,h4,r4⟩:=trodAll_cons r3;obtain⟨rfl,rfl,rfl⟩:=trodAll_nil r4;obtain rfl:args= #[v0,v1,v2,v3,v4]:=by cases args;simp_all
 obtain⟨rfl,rfl⟩:=trodVars_none hV;obtain⟨cs0,rfl,hsz0⟩:=okWide_struct Tryz.underlying24 (hval 0 24 v0 rfl rfl);have k0:=h0;have lt0:∀x∈p0,x.block<W.heap.size:=by obtain⟨m,hm⟩:=k0;exact DataW.trod_lt m _ _ _ hm
 obtain⟨a0,ad0,cap0,e0,hr0,hm0⟩:∃(a:Tm) (ad:Option Addr) (cap:Nat),(Value.agg cs0).cells.toList=Tm.list a ad cap/\Reads W 2 (.slice ad a.trs.length cap) a.trs.length (a.trs.flatMap Tn.cells)/\a.trs.length<=maxLen:=by obtain⟨fuel,hf⟩:=h0;exact open_Tm _ _ _ hf
 have f0:cs0=(Tm.list a0 ad0 cap0).toArray:=by rw [<-e0];simp [Value.cells]
 subst f0;obtain⟨ad1,len1,cap1,rfl⟩:=okWide_slice Tryz.underlying25 (hval 1 25 v1 rfl rfl);have k1:=h1;have lt1:∀x∈p1,x.block<W.heap.size:=by obtain⟨m,hm⟩:=k1;exact DataW.trod_lt m _ _ _ hm
 obtain⟨L1,e1,hr1,hp1,hm1⟩:∃L:List Ev,L.length=len1/\Reads W 5 (.slice ad1 len1 cap1) L.length (L.flatMap Ev.cells)/\(∀a∈L,a.wf)/\L.length<=maxLen:=by
  obtain⟨fuel,hf⟩:=h1;exact Qh (f:=Ev.cells) (size:=5) Ev.Aq j2 Tryz.underlying25 j4 (λn cs d hd=>open_Ev n cs d hd) hf
 subst e1;obtain⟨a2,rfl,rfl,rfl,w2⟩:=open_int Tryz.underlying3 (hval 2 3 v2 rfl rfl) h2;obtain⟨a3,rfl,rfl,rfl,w3⟩:=open_int Tryz.underlying3 (hval 3 3 v3 rfl rfl) h3;obtain⟨a4,rfl,rfl,rfl⟩:=open_bool Tryz.underlying4 (hval 4 4 v4 rfl rfl) h4;clear hA0 hval0;refine(Nw W a0 ad0 cap0 hr0 hm0 ad1 cap1 L1 hr1 hp1 hm1 a2 w2 a3 w3 a4).mono λe W' ⟨he,bel⟩=> ?_;subst he;exact⟨_,rfl,_,_,_, [],_, [],hW',trodAll_mk1 (shut_bool Tryz.underlying4 _),(trodAll_cons_mk (Below.trod laidOut j4 (of_decide_eq_true j4) k0 bel lt0) (trodAll_cons_mk (Below.trod laidOut j4 (of_decide_eq_true j4) k1 bel lt1) (trodAll_cons_mk (shut_int Tryz.underlying3 w2) (trodAll_cons_mk (shut_int Tryz.underlying3 w3) (trodAll_cons_mk (shut_bool Tryz.underlying4 _) trodAll_mk0))))),rfl,bel.frame _,λh=>by cases h⟩
theorem over:Rows.replayRunsRow.holds Tryz.pinned (OpenSpec.ofChange Rows.replayRunsSpec):=
 OpenClaim.holds_of_wide 3 Tryz.f3 rfl rfl rfl rfl rfl rfl rfl ⟨rfl,rfl,rfl,rfl,rfl⟩ rfl rfl rfl rfl rfl (by kernel_rfl) Tryz.func3 (by kernel_rfl)
  (of_decide_eq_true (by kernel_rfl)) (by unfold Func.isWrapper;first|(rw [if_pos (by decide+kernel)];kernel_rfl)|(rw [if_neg (by decide+kernel)];exact⟨rfl,rfl⟩))
  (λos started H enc _=>lifted os started H enc)
theorem proved:Rows.ReplayRunsSaid:=over
#print axioms proved
end Go.Proofs.YtgfkeeicjjbnpaaGreat.replayRuns
