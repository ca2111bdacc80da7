/- The law's run. -/
import Derived.Test.YtclcbmjcgcebdaaGreatM1
namespace Go.Proofs.YtclcbmjcgcebdaaGreat
open Go.Ex Go.Proofs

noncomputable def nt1 : FuncId → Option CF := ntOf ((41, memoC m1 (fnC Tryz.T Tryz.F 41)) :: natL)
noncomputable def a0 : V := .cons (.tok 0) (.cons (.tok 1) (.cons (.tok 2) .nil))
set_option maxRecDepth 1000000 in
theorem law_run : lawRun Tryz.T Tryz.F nt1 20000 200 3 a0 = true := by kernel_rfl
end Go.Proofs.YtclcbmjcgcebdaaGreat
