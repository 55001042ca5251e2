-- THE WORDS OF THE KIT's PRINT, less those that this claim does not use (struck by this session's wip/trim.py); what stays is as it was printed.
import Derived.Test.YtmkmpjkgpnahnaaDoorWN
/-! ### 52. A row that stays read whatever happens to a block (a set of blocks) doesn't lie there -/
namespace Go.Proofs.YtmkmpjkgpnahnaaDoorW.PrintWords
open Go.RowKit
namespace Kd
section
variable {α : Type} {d : Kd α} {W : World} {g n : Nat} {S ok : Nat → Prop} {A : Option Addr} {ad : Addr} {xs : List α}
end
end Kd
end Go.Proofs.YtmkmpjkgpnahnaaDoorW.PrintWords
