/- Of the texts that the proof of driftnet's law needs: P14. -/
import Derived.Test.YtbejniapdlgpiaaDoorQdP0
import Derived.Test.YtbejniapdlgpiaaDoorQdP2
import Derived.Test.YtbejniapdlgpiaaDoorQdP3
import Derived.Test.YtbejniapdlgpiaaDoorQdP5
import Derived.Test.YtbejniapdlgpiaaDoorQdP6
import Derived.Test.YtbejniapdlgpiaaDoorQdP8
import Derived.Test.YtbejniapdlgpiaaDoorQdP13
-- By program (mp.py over the kit's print, with functions of this session's own).
namespace Go.Proofs.YtbejniapdlgpiaaDoor.P
open Go.RowKit Go.Proofs.YtbejniapdlgpiaaDoor.M Go.Proofs.YtbejniapdlgpiaaDoor.MW Go.Proofs.YtbejniapdlgpiaaDoor.MS Go.Proofs.YtbejniapdlgpiaaDoorW.PrintWords Go.Proofs.YtbejniapdlgpiaaDoorW.PrintLast Go.Proofs.YtbejniapdlgpiaaDoorW.PrintMore
attribute [local go_sem] max2_int min2_int max_two min_two
set_option linter.unusedVariables false
set_option linter.unusedSimpArgs false

def strings_TrimLeft.f (a0 a1 : ByteArray) : Option (ByteArray) := if a0.size ≤ 140737488351232 ∧ a1.size < 1000 ∧ (∀ x ∈ a1.toList, x < 128) then some ⟨(Lib.trimLeftS a0.data.toList a1.data.toList).toArray⟩ else none
theorem strings_TrimLeft.calls (a0 a1 : ByteArray) (r : ByteArray) (w : World) (h : strings_TrimLeft.f a0 a1 = some r) :
    Calls Tryd.prog 30 #[.string a0, .string a1] w fun e w' => e = .returned (.string r) ∧ Below w.heap.size w w' := by
  unfold strings_TrimLeft.f at h
  split at h
  case isFalse => cases h
  rename_i hc
  obtain rfl := Option.some.inj h
  exact MS.trimLeft a0 a1 w hc.2.1 hc.2.2

end Go.Proofs.YtbejniapdlgpiaaDoor.P
