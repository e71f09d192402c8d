/- Plain laws for TakeLengths: the law package's 'awake' is true. -/
import Derived.Test.YtillieimgjdpbaaOPr6
import Derived.KernelRfl
namespace Go.Proofs.Ytillieimgjdpbaa.Pr
theorem awake_true : palantypelaw01_awake.f 30 = some true := by kernel_rfl
end Go.Proofs.Ytillieimgjdpbaa.Pr
