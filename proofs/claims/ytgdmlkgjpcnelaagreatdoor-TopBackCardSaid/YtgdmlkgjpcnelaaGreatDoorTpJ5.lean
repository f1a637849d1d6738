/- The closed facts of the row. -/
import Derived.Test.YtgdmlkgjpcnelaaGreatDoorTpJ1
import Derived.Test.YtgdmlkgjpcnelaaGreatDoorTpJ2
import Derived.Test.YtgdmlkgjpcnelaaGreatDoorTpJ3
import Derived.Test.YtgdmlkgjpcnelaaGreatDoorTpJ4
import Derived.Test.YtgdmlkgjpcnelaaGreatDoorTpJ6
import Derived.Test.YtgdmlkgjpcnelaaGreatDoorTpJ7
import Derived.JoinedOf
namespace Go.Proofs.YtgdmlkgjpcnelaaGreatDoor
set_option maxRecDepth 100000
theorem tpClosed : joinedFacts Tryz.prog 5 Tryz.f5 Rows.topBackSpec Rows.topBackRow = true := by
  unfold joinedFacts
  simp only [Bool.and_eq_true]
  and_intros
  all_goals first | with_reducible exact tpJ1 | with_reducible exact tpJ2 | with_reducible exact tpJ3 | with_reducible exact tpJ4 | with_reducible exact tpLaid | with_reducible exact tpMaps | with_reducible exact tpKeys | with_reducible exact tpHeard | with_reducible exact tpEnter | kernel_rfl
end Go.Proofs.YtgdmlkgjpcnelaaGreatDoor
