/-
  What the texts of lengths need of the general ones.
-/
import Derived.Test.YtmfgkimbehkdeaaRows
import Derived.Test.YtmfgkimbehkdeaaGBase
import Derived.Test.YtmfgkimbehkdeaaOwnInts
import Derived.Test.YtmfgkimbehkdeaaRoundDraw
namespace Go.Proofs.Ytmfgkimbehkdeaa
end Go.Proofs.Ytmfgkimbehkdeaa
