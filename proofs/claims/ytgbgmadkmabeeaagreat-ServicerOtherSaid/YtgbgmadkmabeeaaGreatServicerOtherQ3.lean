/- Part 3 of the proof of ServicerOther: the law, lifted. -/
import Derived.Test.YtgbgmadkmabeeaaGreatServicerOtherQ2
set_option maxRecDepth 100000
set_option maxHeartbeats 400000
namespace Go.Proofs.YtgbgmadkmabeeaaGreat.servicerOther
open Go.ChangeShapes Go.WideShapes Go.ChangeAt Go.RowKit Go.Deep
theorem lifted(os:Os)(started:os.Started)(H:Type)(enc:TypeId×Value->H):
  ReturnsInHanded {} Tryz.checked os 6 .any (Rows.servicerOtherSpec.pre6 enc Tryz.prog Tryz.f6 Rows.servicerOtherRow.domain false) (Rows.servicerOtherSpec.post enc Tryz.prog Tryz.f6 false true false false):=by
 refine returnsInHanded_of_change (C:=Tryz.checked) own started yy3 Tryz.func6
  (ChangeSpec.witness6 (enc:=enc) (C:=Tryz.checked) false ⟨#[], #[.agg #[.int .i64 0,.slice none 0 0,.int .i64 0,.int .i64 0,.int .i64 0,.int .i64 0,.int .i64 0],.agg #[.int .i64 0,.slice none 0 0,.int .i64 0,.int .i64 0,.int .i64 0,.int .i64 0,.int .i64 0]], []⟩ 8 yy3 yy3 yy3 yy3) ?_
 intro W base args ds gs before hval0 hW hcnd _;have hval:∀(j:Nat) t v,Tryz.f6.params[j]?=some t->args[j]?=some v->Value.okWide Tryz.prog W .any base t v:=hval0;have hW':=hW;obtain⟨p,q,hA0,hV,rfl,hfz,hnd⟩:=hW;have hA:DataW.TrodAll enc Tryz.prog W 0 (λ_=>true) true Tryz.f6.params.toList args.toList ds p:=hA0;rw [Tryz.params6] at hA hval;obtain⟨v0,vs0,d0,ds0,p0,q0,hargs,rfl,rfl,h0,r0⟩:=trodAll_cons hA;obtain⟨v1,vs1,d1,ds1,p1,q1,rfl,rfl,rfl,h1,r1⟩:=trodAll_cons r0;obtain⟨rfl,rfl,rfl⟩:=trodAll_nil r1;obtain rfl:args= #[v0,v1]:=by cases args;simp_all
 obtain⟨rfl,rfl⟩:=trodVars_none hV;obtain⟨cs0,rfl,hsz0⟩:=okWide_struct Tryz.underlying44 (hval 0 44 v0 rfl rfl);have k0:=h0;have lt0:∀x∈p0,x.block<W.heap.size:=by obtain⟨m,hm⟩:=k0;exact DataW.trod_lt m _ _ _ hm
 obtain⟨a0,ad0,cap0,e0,hr0,hm0⟩:∃(a:Tm) (ad:Option Addr) (cap:Nat),(Value.agg cs0).cells.toList=Tm.list a ad cap/\Reads W 2 (.slice ad a.trs.length cap) a.trs.length (a.trs.flatMap Tn.cells)/\a.trs.length<=maxLen:=by obtain⟨fuel,hf⟩:=h0;exact open_Tm _ _ _ hf
 have f0:cs0=(Tm.list a0 ad0 cap0).toArray:=by rw [<-e0];simp [Value.cells]
 subst f0;obtain⟨cs1,rfl,hsz1⟩:=okWide_struct Tryz.underlying44 (hval 1 44 v1 rfl rfl);have k1:=h1;have lt1:∀x∈p1,x.block<W.heap.size:=by obtain⟨m,hm⟩:=k1;exact DataW.trod_lt m _ _ _ hm
 obtain⟨a1,ad1,cap1,e1,hr1,hm1⟩:∃(a:Tm) (ad:Option Addr) (cap:Nat),(Value.agg cs1).cells.toList=Tm.list a ad cap/\Reads W 2 (.slice ad a.trs.length cap) a.trs.length (a.trs.flatMap Tn.cells)/\a.trs.length<=maxLen:=by obtain⟨fuel,hf⟩:=h1;exact open_Tm _ _ _ hf
 have f1:cs1=(Tm.list a1 ad1 cap1).toArray:=by rw [<-e1];simp [Value.cells]
 subst f1;clear hA0 hval0;refine(servicerOther_walk W a0 ad0 cap0 hr0 hm0 a1 ad1 cap1 hr1 hm1).mono λe W' ⟨he,bel⟩=> ?_;subst he;exact⟨_,rfl,_,_,_, [],_, [],hW',trodAll_mk1 (shut_bool Tryz.underlying4 _),(trodAll_cons_mk (Below.trod laidOut yy3 (of_decide_eq_true yy3) k0 bel lt0) (trodAll_cons_mk (Below.trod laidOut yy3 (of_decide_eq_true yy3) k1 bel lt1) trodAll_mk0)),rfl,bel.frame _,λh=>by cases h⟩
end Go.Proofs.YtgbgmadkmabeeaaGreat.servicerOther
