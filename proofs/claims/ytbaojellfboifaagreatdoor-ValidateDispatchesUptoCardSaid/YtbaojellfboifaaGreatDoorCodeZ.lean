/- -/
import Derived.Test.YtbaojellfboifaaGreatDoorMachE
set_option linter.unusedSimpArgs false
set_option linter.unusedVariables false
namespace Ago
end Ago
