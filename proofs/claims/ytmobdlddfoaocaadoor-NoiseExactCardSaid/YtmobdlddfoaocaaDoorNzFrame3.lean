/- The frames of noise with slices of booleans. -/
import Derived.Test.YtmobdlddfoaocaaDoorNzFrame2
import Derived.Test.YtmobdlddfoaocaaDoorFrame3
namespace Go.Proofs.YtmobdlddfoaocaaDoor
end Go.Proofs.YtmobdlddfoaocaaDoor
