/- A part of the proof. -/
import Derived.Test.YtiphmemigdplgaaDoorJournalT2
import Derived.Test.YtiphmemigdplgaaDoorPgJournalW
import Derived.Test.YtiphmemigdplgaaDoorPgJournalY
set_option linter.all false
