/-
  The law's call.
-/
import Derived.Test.YtgloinighjdhlaaEtouchstonelaw24awake0
set_option linter.all false
set_option linter.unusedVariables false
set_option linter.unusedSimpArgs false
set_option linter.unusedSectionVars false

