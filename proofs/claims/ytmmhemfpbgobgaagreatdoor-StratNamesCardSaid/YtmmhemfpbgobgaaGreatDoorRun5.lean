/-
  Part 5 of the run of the law in Go.Ads, by the kernel. No condition.
-/
import Derived.Test.YtmmhemfpbgobgaaGreatDoorStart
import Derived.Test.YtmmhemfpbgobgaaGreatDoorAds7
set_option linter.unusedVariables false
set_option linter.unusedSimpArgs false
set_option linter.unusedSectionVars false
set_option maxRecDepth 100000
set_option autoImplicit false
namespace Go.Ads
theorem part5 : isTrue (fin c3.res ((Cd.rst 24 c3.code).run inv0 5000 stF4 (.mk stN4 stT4))) = true := by decide +kernel
end Go.Ads
