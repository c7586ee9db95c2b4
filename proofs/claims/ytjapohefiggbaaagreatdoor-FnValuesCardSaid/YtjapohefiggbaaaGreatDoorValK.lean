/- The closed facts that the row of laws.FnValues asks of the program, each by the kernel. -/
import Derived.Test.YtjapohefiggbaaaGreatDoorRows
import Derived.ProofKit
import Derived.OpenShut
namespace Go.Proofs.YtjapohefiggbaaaGreatDoor.fnValues
open Go.ChangeShapes Go.WideShapes Go.ChangeAt Go.RowKit

theorem andT {a b : Bool} (h : a = true) (k : b = true) : (a && b) = true := by rw [h, k]; rfl

set_option maxHeartbeats 16000000 in
theorem closed : joinedFacts Tryz.pinned.checked.prog 4 Tryz.f4 Rows.fnValuesSpec Rows.fnValuesRow = true := by
  unfold joinedFacts
  repeat' with_reducible refine andT ?_ ?_
  all_goals as_aux_lemma => kernel_rfl
end Go.Proofs.YtjapohefiggbaaaGreatDoor.fnValues
