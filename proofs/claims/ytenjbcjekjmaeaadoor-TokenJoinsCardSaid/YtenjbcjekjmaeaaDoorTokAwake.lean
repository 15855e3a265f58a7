/- The examples of the chapter (the law's own check of them) come out true. No condition. -/
import Derived.Test.YtenjbcjekjmaeaaDoorPTokD
namespace Go.Proofs.YtenjbcjekjmaeaaDoor.PTok
theorem awake_true : cellarerlaw13_awake.f 60 = some true := by decide +kernel
end Go.Proofs.YtenjbcjekjmaeaaDoor.PTok
