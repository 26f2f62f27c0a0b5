/-
  Part 2 of the run of the law in Go.Ads, by the kernel. No condition.
-/
import Derived.Test.YtmmhemfpbgobgaaGreatDoorStart
import Derived.Test.YtmmhemfpbgobgaaGreatDoorAds7
set_option linter.unusedVariables false
set_option linter.unusedSimpArgs false
set_option linter.unusedSectionVars false
set_option maxRecDepth 100000
set_option autoImplicit false
namespace Go.Ads
theorem part2 : chk stF2 stN2 stT2 ((Cd.fst 1 (Cd.rst 4 c3.code)).run inv0 5000 stF1 (.mk stN1 stT1)) = true := by decide +kernel
end Go.Ads
