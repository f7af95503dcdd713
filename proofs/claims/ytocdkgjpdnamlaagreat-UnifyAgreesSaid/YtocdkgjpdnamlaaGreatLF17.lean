import Derived.Test.YtocdkgjpdnamlaaGreatLSX
set_option linter.all false
noncomputable section
/- The zJZ check of MH 17: a kernel run. -/
namespace Go.Proofs.YtocdkgjpdnamlaaGreat
open Go.J
theorem zoU:Oa (zkI Tryz.prog Rl []) 3000 8 []=some (.bool true):=by kernel_rfl
end Go.Proofs.YtocdkgjpdnamlaaGreat
