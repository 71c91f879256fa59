/-
  What the texts about making sequences import, together.
-/
import Derived.Test.YtmblpmaelglnpaaDoorRows
import Derived.Test.YtmblpmaelglnpaaDoorGReps
import Derived.Test.YtmblpmaelglnpaaDoorGKit
import Derived.Test.YtmblpmaelglnpaaDoorGBase
import Derived.Test.YtmblpmaelglnpaaDoorFrame2
import Derived.Test.YtmblpmaelglnpaaDoorOpenQ
import Derived.Test.YtmblpmaelglnpaaDoorRoundDraw
import Derived.Test.YtmblpmaelglnpaaDoorOwnInts
