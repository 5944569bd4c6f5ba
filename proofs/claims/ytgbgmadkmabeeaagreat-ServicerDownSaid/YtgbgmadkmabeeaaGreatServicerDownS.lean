/- What is closed of the row of ServicerDown: the facts that the program's text tells. -/
import Derived.Test.YtgbgmadkmabeeaaGreatRows
import Derived.JoinedOf
import Derived.KernelRfl
namespace Go.Proofs.YtgbgmadkmabeeaaGreat.servicerDown
set_option maxRecDepth 100000
theorem shut:joinedFacts Tryz.pinned.checked.prog 9 Tryz.f9 Rows.servicerDownSpec Rows.servicerDownRow=true:=of_decide_eq_true (by kernel_rfl)
end Go.Proofs.YtgbgmadkmabeeaaGreat.servicerDown
