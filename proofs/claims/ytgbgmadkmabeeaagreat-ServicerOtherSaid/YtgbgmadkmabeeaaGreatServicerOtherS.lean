/- What is closed of the row of ServicerOther: the facts that the program's text tells. -/
import Derived.Test.YtgbgmadkmabeeaaGreatRows
import Derived.JoinedOf
import Derived.KernelRfl
namespace Go.Proofs.YtgbgmadkmabeeaaGreat.servicerOther
set_option maxRecDepth 100000
theorem shut:joinedFacts Tryz.pinned.checked.prog 6 Tryz.f6 Rows.servicerOtherSpec Rows.servicerOtherRow=true:=of_decide_eq_true (by kernel_rfl)
end Go.Proofs.YtgbgmadkmabeeaaGreat.servicerOther
