/-
  ServicerPacks: for every input the law returns true, and each argument reads behind the call as it read before. No condition.
-/
import Derived.Test.YtgbgmadkmabeeaaGreatServicerPacksQ1
set_option maxRecDepth 100000
set_option maxHeartbeats 400000
namespace Go.Proofs.YtgbgmadkmabeeaaGreat.servicerPacks
open Go.ChangeShapes Go.WideShapes Go.ChangeAt Go.RowKit Go.Deep
theorem lifted(os:Os)(started:os.Started)(H:Type)(enc:TypeId×Value->H):
  ReturnsInHanded {} Tryz.checked os 3 .any (Rows.servicerPacksSpec.pre6 enc Tryz.prog Tryz.f3 Rows.servicerPacksRow.domain false) (Rows.servicerPacksSpec.post enc Tryz.prog Tryz.f3 false true false false):=by
 refine returnsInHanded_of_change (C:=Tryz.checked) own started j9 Tryz.func3
  (ChangeSpec.witness6 (enc:=enc) (C:=Tryz.checked) false ⟨#[], #[.agg #[.int .i64 0,.int .i64 0,.int .i64 0,.int .i64 0,.int .i64 0],.slice none 0 0], []⟩ 8 j9 j9 j9 j9) ?_
 intro W base args ds gs before hval0 hW hcnd _;have hval:∀(j:Nat) t v,Tryz.f3.params[j]?=some t->args[j]?=some v->Value.okWide Tryz.prog W .any base t v:=hval0;have hW':=hW;obtain⟨p,q,hA0,hV,rfl,hfz,hnd⟩:=hW;have hA:DataW.TrodAll enc Tryz.prog W 0 (λ_=>true) true Tryz.f3.params.toList args.toList ds p:=hA0;rw [Tryz.params3] at hA hval;obtain⟨v0,vs0,d0,ds0,p0,q0,hargs,rfl,rfl,h0,r0⟩:=trodAll_cons hA;obtain⟨v1,vs1,d1,ds1,p1,q1,rfl,rfl,rfl,h1,r1⟩:=trodAll_cons r0;obtain⟨rfl,rfl,rfl⟩:=trodAll_nil r1;obtain rfl:args= #[v0,v1]:=by cases args;simp_all
 obtain⟨rfl,rfl⟩:=trodVars_none hV;obtain⟨cs0,rfl,hsz0⟩:=okWide_struct Tryz.underlying23 (hval 0 23 v0 rfl rfl);have k0:=h0;have lt0:∀x∈p0,x.block<W.heap.size:=by obtain⟨m,hm⟩:=k0;exact DataW.trod_lt m _ _ _ hm
 obtain⟨a0,e0,w0⟩:∃a:Cmd,(Value.agg cs0).cells.toList=a.cells/\a.wf:=by obtain⟨fuel,hf⟩:=h0;exact Aah _ _ _ hf
 have f0:cs0=a0.cells.toArray:=by rw [<-e0];simp [Value.cells]
 subst f0;obtain⟨ad1,len1,cap1,rfl⟩:=okWide_slice Tryz.underlying24 (hval 1 24 v1 rfl rfl);have k1:=h1;have lt1:∀x∈p1,x.block<W.heap.size:=by obtain⟨m,hm⟩:=k1;exact DataW.trod_lt m _ _ _ hm
 obtain⟨L1,e1,hr1,hp1,hm1⟩:∃L:List Int,L.length=len1/\Reads W 1 (.slice ad1 len1 cap1) L.length (L.flatMap (λz:Int=> [Value.int .u8 z]))/\(∀a∈L,(Lit.int .u8 a).wf=true)/\L.length<=maxLen:=by
  obtain⟨fuel,hf⟩:=h1;exact Acd (f:=(λz:Int=> [Value.int .u8 z])) (size:=1) (λ_=>rfl) j7 Tryz.underlying24 j9 (λn cs d hd=>elem_int Tryz.underlying5 n cs d hd) hf
 subst e1;clear hA0 hval0;refine(Ns W a0 w0 ad1 cap1 L1 hr1 hp1 hm1).mono λe W' ⟨he,bel⟩=> ?_;subst he;exact⟨_,rfl,_,_,_, [],_, [],hW',trodAll_mk1 (shut_bool Tryz.underlying4 _),(trodAll_cons_mk (Below.trod laidOut j9 (of_decide_eq_true j9) k0 bel lt0) (trodAll_cons_mk (Below.trod laidOut j9 (of_decide_eq_true j9) k1 bel lt1) trodAll_mk0)),rfl,bel.frame _,λh=>by cases h⟩
theorem over:Rows.servicerPacksRow.holds Tryz.pinned (OpenSpec.ofChange Rows.servicerPacksSpec):=
 OpenClaim.holds_of_wide 3 Tryz.f3 rfl rfl rfl rfl rfl rfl rfl ⟨rfl,rfl,rfl,rfl,rfl⟩ rfl rfl rfl rfl rfl (by kernel_rfl) Tryz.func3 (by kernel_rfl)
  (of_decide_eq_true (by kernel_rfl)) (by unfold Func.isWrapper;first|(rw [if_pos (by decide+kernel)];kernel_rfl)|(rw [if_neg (by decide+kernel)];exact⟨rfl,rfl⟩))
  (λos started H enc _=>lifted os started H enc)
theorem proved:Rows.ServicerPacksSaid:=over
#print axioms proved
end Go.Proofs.YtgbgmadkmabeeaaGreat.servicerPacks
