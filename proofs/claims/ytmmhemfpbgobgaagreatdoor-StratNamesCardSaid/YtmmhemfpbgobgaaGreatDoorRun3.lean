/-
  Part 3 of the run of the law in Go.Ads, by the kernel. No condition.
-/
import Derived.Test.YtmmhemfpbgobgaaGreatDoorStart
import Derived.Test.YtmmhemfpbgobgaaGreatDoorAds7
set_option linter.unusedVariables false
set_option linter.unusedSimpArgs false
set_option linter.unusedSectionVars false
set_option maxRecDepth 100000
set_option autoImplicit false
namespace Go.Ads
theorem part3 : chk stF3 stN3 stT3 ((Cd.fst 6 (Cd.rst 5 c3.code)).run inv0 5000 stF2 (.mk stN2 stT2)) = true := by decide +kernel
end Go.Ads
