/-
  A world for the rows' witness (no package variable is laid): by this session. Conditions: as typed.
-/
import Derived.Test.YtkglfgikfeebhaaRows
import Derived.Deep.DeepHandedRow
import Derived.KernelRfl
namespace Go.Proofs.Ytkglfgikfeebhaa.X
open Go
set_option linter.unusedVariables false
theorem tabs_of_laid {W : World} (h : laidMetH Try.prog [] W) : True := trivial
noncomputable def laidWorld (os : Os) : World := World.holding Try.prog os ⟨#[], #[], []⟩
end Go.Proofs.Ytkglfgikfeebhaa.X
