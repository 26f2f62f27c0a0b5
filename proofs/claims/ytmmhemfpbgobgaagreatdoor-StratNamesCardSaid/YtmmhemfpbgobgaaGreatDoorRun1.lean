/-
  Part 1 of the run of the law in Go.Ads, by the kernel. No condition.
-/
import Derived.Test.YtmmhemfpbgobgaaGreatDoorStart
import Derived.Test.YtmmhemfpbgobgaaGreatDoorAds7
set_option linter.unusedVariables false
set_option linter.unusedSimpArgs false
set_option linter.unusedSectionVars false
set_option maxRecDepth 100000
set_option autoImplicit false
namespace Go.Ads
theorem part1 : chk stF1 stN1 stT1 ((Cd.fst 4 (Cd.rst 0 c3.code)).run inv0 5000 .n (.mk (.o .one) (.nd (.glb gid powV) .lf .lf))) = true := by decide +kernel
end Go.Ads
