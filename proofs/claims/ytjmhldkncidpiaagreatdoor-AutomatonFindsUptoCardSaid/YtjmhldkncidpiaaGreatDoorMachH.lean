/- A machine that takes sorts as they are: on a row of trees of one cell each, under a comparison that the machine computes and that tells every two elements apart. -/
import Derived.Test.YtjmhldkncidpiaaGreatDoorMachE
import Derived.Test.YtjmhldkncidpiaaGreatDoorMachD
import Derived.Shelf.SlSortCmp.NoneTotal
import Derived.Test.YtjmhldkncidpiaaGreatDoorMachG
import Derived.Shelf.Small.Strs
import Derived.Shelf.SortM.Plain
import Derived.Shelf.SortM.SortNone
set_option linter.unusedSimpArgs false
set_option linter.unusedVariables false
namespace Ago

structure OrdOn (c:AV→AV→Int) (els:List AV):Prop where
  irrefl : ∀ x, x∈els→¬ c x x<0
  trans : ∀ x y z, x∈els→y∈els→z∈els→c x y<0→c y z<0→c x z<0
  total : ∀ x y, x∈els→y∈els→¬ c x y<0→¬ c y x<0→x=y

end Ago
/- slices.SortFunc on a row of trees of one cell each, under a comparison that the machine computes and that tells every two elements apart: the kit's contract, as a function that is taken as it is. -/
namespace Ago
open Go Go.Proofs Go.Sort Go.Shelf

section
variable {P:Program} {fid:FuncId→Option Nat} {pf:Nat→Bool}

end

end Ago
/- The library's comparison of strings, taken as it is. -/
namespace Ago
open Go Go.Proofs Go.Shelf
section
variable {P:Program} {fid:FuncId→Option Nat} {pf:Nat→Bool}
end
end Ago
/- More functions that are taken as they are: the library's comparison of strings, the number of characters of a string, slices.Sort of strings. -/
namespace Ago
open Go Go.Proofs Go.Sort Go.Shelf

section
variable {P:Program} {fid:FuncId→Option Nat} {pf:Nat→Bool} {ss:Nat→Bool}
end

end Ago
/- Nothing is printed here. -/
namespace Ago
end Ago
/- Nothing is printed here. -/
namespace Ago
end Ago
