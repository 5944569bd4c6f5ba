/- Events: what may be. -/
import Derived.Test.YtelhlbplbkglkaaEventA
