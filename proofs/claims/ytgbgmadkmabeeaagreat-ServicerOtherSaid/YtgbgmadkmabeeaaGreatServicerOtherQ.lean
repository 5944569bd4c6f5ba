/-
  ServicerOther: for every input the law returns true, and each argument reads behind the call as it read before. No condition.
-/
import Derived.Test.YtgbgmadkmabeeaaGreatServicerOtherS
import Derived.Test.YtgbgmadkmabeeaaGreatServicerOtherQ3
set_option maxRecDepth 100000
set_option maxHeartbeats 400000
namespace Go.Proofs.YtgbgmadkmabeeaaGreat.servicerOther
open Go.ChangeShapes Go.WideShapes Go.ChangeAt Go.RowKit Go.Deep
theorem over:Rows.servicerOtherRow.holds Tryz.pinned (OpenSpec.ofChange Rows.servicerOtherSpec):=
 OpenClaim.holds_of_wide 6 Tryz.f6 rfl rfl rfl rfl rfl rfl rfl ⟨rfl,rfl,rfl,rfl,rfl⟩ rfl rfl rfl rfl rfl (by kernel_rfl) Tryz.func6 shut
  (of_decide_eq_true (by kernel_rfl)) (by unfold Func.isWrapper;first|(rw [if_pos (by decide+kernel)];kernel_rfl)|(rw [if_neg (by decide+kernel)];exact⟨rfl,rfl⟩))
  (λos started H enc _=>lifted os started H enc)
theorem proved:Rows.ServicerOtherSaid:=over
#print axioms proved
end Go.Proofs.YtgbgmadkmabeeaaGreat.servicerOther
