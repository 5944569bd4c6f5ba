/-
  ServicerNil: for every input the law returns true, and each argument reads behind the call as it read before. No condition.
-/
import Derived.Test.YtgbgmadkmabeeaaGreatServicerNilQ1
set_option maxRecDepth 100000
set_option maxHeartbeats 400000
namespace Go.Proofs.YtgbgmadkmabeeaaGreat.servicerNil
open Go.ChangeShapes Go.WideShapes Go.ChangeAt Go.RowKit Go.Deep
theorem lifted(os:Os)(started:os.Started)(H:Type)(enc:TypeId×Value->H):
  ReturnsInHanded {} Tryz.checked os 7 .any (Rows.servicerNilSpec.pre6 enc Tryz.prog Tryz.f7 Rows.servicerNilRow.domain false) (Rows.servicerNilSpec.post enc Tryz.prog Tryz.f7 false true false false):=by
 refine returnsInHanded_of_change (C:=Tryz.checked) own started j9 Tryz.func7
  (ChangeSpec.witness6 (enc:=enc) (C:=Tryz.checked) false ⟨#[], #[.agg #[.int .i64 0,.int .i64 0,.int .i64 0,.int .i64 0,.int .i64 0]], []⟩ 8 j9 j9 j9 j9) ?_
 intro W base args ds gs before hval0 hW hcnd _;have hval:∀(j:Nat) t v,Tryz.f7.params[j]?=some t->args[j]?=some v->Value.okWide Tryz.prog W .any base t v:=hval0;have hW':=hW;obtain⟨p,q,hA0,hV,rfl,hfz,hnd⟩:=hW;have hA:DataW.TrodAll enc Tryz.prog W 0 (λ_=>true) true Tryz.f7.params.toList args.toList ds p:=hA0;rw [Tryz.params7] at hA hval;obtain⟨v0,vs0,d0,ds0,p0,q0,hargs,rfl,rfl,h0,r0⟩:=trodAll_cons hA;obtain⟨rfl,rfl,rfl⟩:=trodAll_nil r0;obtain rfl:args= #[v0]:=by cases args;simp_all
 obtain⟨rfl,rfl⟩:=trodVars_none hV;obtain⟨cs0,rfl,hsz0⟩:=okWide_struct Tryz.underlying23 (hval 0 23 v0 rfl rfl);have k0:=h0;have lt0:∀x∈p0,x.block<W.heap.size:=by obtain⟨m,hm⟩:=k0;exact DataW.trod_lt m _ _ _ hm
 obtain⟨a0,e0,w0⟩:∃a:Cmd,(Value.agg cs0).cells.toList=a.cells/\a.wf:=by obtain⟨fuel,hf⟩:=h0;exact Aah _ _ _ hf
 have f0:cs0=a0.cells.toArray:=by rw [<-e0];simp [Value.cells]
 subst f0;clear hA0 hval0;refine(Qf W a0 w0).mono λe W' ⟨he,bel⟩=> ?_;subst he;exact⟨_,rfl,_,_,_, [],_, [],hW',trodAll_mk1 (shut_bool Tryz.underlying4 _),(trodAll_cons_mk (Below.trod laidOut j9 (of_decide_eq_true j9) k0 bel lt0) trodAll_mk0),rfl,bel.frame _,λh=>by cases h⟩
theorem over:Rows.servicerNilRow.holds Tryz.pinned (OpenSpec.ofChange Rows.servicerNilSpec):=
 OpenClaim.holds_of_wide 7 Tryz.f7 rfl rfl rfl rfl rfl rfl rfl ⟨rfl,rfl,rfl,rfl,rfl⟩ rfl rfl rfl rfl rfl (by kernel_rfl) Tryz.func7 (by kernel_rfl)
  (of_decide_eq_true (by kernel_rfl)) (by unfold Func.isWrapper;first|(rw [if_pos (by decide+kernel)];kernel_rfl)|(rw [if_neg (by decide+kernel)];exact⟨rfl,rfl⟩))
  (λos started H enc _=>lifted os started H enc)
theorem proved:Rows.ServicerNilSaid:=over
#print axioms proved
end Go.Proofs.YtgbgmadkmabeeaaGreat.servicerNil
