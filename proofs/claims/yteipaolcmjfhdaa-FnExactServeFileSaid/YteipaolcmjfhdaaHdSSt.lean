/-
  Slices of string: held. No conditions but the budget of the laws.
-/
import Derived.Test.YteipaolcmjfhdaaRows
import Derived.Test.YteipaolcmjfhdaaMem
import Derived.LoopTactic
import Derived.Deep.RegionHeld3
import Derived.Test.YteipaolcmjfhdaaTSSt
import Derived.Test.YteipaolcmjfhdaaUpd
import Derived.Test.YteipaolcmjfhdaaMark
namespace Go.Proofs.Yteipaolcmjfhdaa
open Go.ChangeShapes Go.WideShapes Go.RowKit
set_option linter.unusedVariables false


end Go.Proofs.Yteipaolcmjfhdaa
