/-
  ServicerDown: for every input the law returns true, and each argument reads behind the call as it read before. No condition.
-/
import Derived.Test.YtgbgmadkmabeeaaGreatServicerDownS
import Derived.Test.YtgbgmadkmabeeaaGreatServicerDownQ1
set_option maxRecDepth 100000
set_option maxHeartbeats 400000
namespace Go.Proofs.YtgbgmadkmabeeaaGreat.servicerDown
open Go.ChangeShapes Go.WideShapes Go.ChangeAt Go.RowKit Go.Deep
theorem lifted(os:Os)(started:os.Started)(H:Type)(enc:TypeId×Value->H):
  ReturnsInHanded {} Tryz.checked os 9 .any (Rows.servicerDownSpec.pre6 enc Tryz.prog Tryz.f9 Rows.servicerDownRow.domain false) (Rows.servicerDownSpec.post enc Tryz.prog Tryz.f9 false true false false):=by
 refine returnsInHanded_of_change (C:=Tryz.checked) own started j9 Tryz.func9
  (ChangeSpec.witness6 (enc:=enc) (C:=Tryz.checked) false ⟨#[], #[.slice none 0 0], []⟩ 8 j9 j9 j9 j9) ?_
 intro W base args ds gs before hval0 hW hcnd _;have hval:∀(j:Nat) t v,Tryz.f9.params[j]?=some t->args[j]?=some v->Value.okWide Tryz.prog W .any base t v:=hval0;have hW':=hW;obtain⟨p,q,hA0,hV,rfl,hfz,hnd⟩:=hW;have hA:DataW.TrodAll enc Tryz.prog W 0 (λ_=>true) true Tryz.f9.params.toList args.toList ds p:=hA0;rw [Tryz.params9] at hA hval;obtain⟨v0,vs0,d0,ds0,p0,q0,hargs,rfl,rfl,h0,r0⟩:=trodAll_cons hA;obtain⟨rfl,rfl,rfl⟩:=trodAll_nil r0;obtain rfl:args= #[v0]:=by cases args;simp_all
 obtain⟨rfl,rfl⟩:=trodVars_none hV;obtain⟨ad0,len0,cap0,rfl⟩:=okWide_slice Tryz.underlying34 (hval 0 34 v0 rfl rfl);have k0:=h0;have lt0:∀x∈p0,x.block<W.heap.size:=by obtain⟨m,hm⟩:=k0;exact DataW.trod_lt m _ _ _ hm
 obtain⟨L0,e0,hr0,hp0,hm0⟩:∃L:List Cmd,L.length=len0/\Reads W 5 (.slice ad0 len0 cap0) L.length (L.flatMap Cmd.cells)/\(∀a∈L,a.wf)/\L.length<=maxLen:=by
  obtain⟨fuel,hf⟩:=h0;exact Acz (f:=Cmd.cells) (size:=5) Cmd.Aj j7 Tryz.underlying34 j9 (λn cs d hd=>open_Cmd n cs d hd) hf
 subst e0;clear hA0 hval0;refine(Pq W ad0 cap0 L0 hr0 hp0 hm0).mono λe W' ⟨he,bel⟩=> ?_;subst he;exact⟨_,rfl,_,_,_, [],_, [],hW',trodAll_mk1 (shut_bool Tryz.underlying4 _),(trodAll_cons_mk (Below.trod laidOut j9 (of_decide_eq_true j9) k0 bel lt0) trodAll_mk0),rfl,bel.frame _,λh=>by cases h⟩
theorem over:Rows.servicerDownRow.holds Tryz.pinned (OpenSpec.ofChange Rows.servicerDownSpec):=
 OpenClaim.holds_of_wide 9 Tryz.f9 rfl rfl rfl rfl rfl rfl rfl ⟨rfl,rfl,rfl,rfl,rfl⟩ rfl rfl rfl rfl rfl (by kernel_rfl) Tryz.func9 shut
  (of_decide_eq_true (by kernel_rfl)) (by unfold Func.isWrapper;first|(rw [if_pos (by decide+kernel)];kernel_rfl)|(rw [if_neg (by decide+kernel)];exact⟨rfl,rfl⟩))
  (λos started H enc _=>lifted os started H enc)
theorem proved:Rows.ServicerDownSaid:=over
#print axioms proved
end Go.Proofs.YtgbgmadkmabeeaaGreat.servicerDown
