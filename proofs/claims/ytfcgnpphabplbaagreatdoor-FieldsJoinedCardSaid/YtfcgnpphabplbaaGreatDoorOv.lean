/- The document's tables: put together. -/
import Derived.Test.YtfcgnpphabplbaaGreatDoorOu
import Derived.Test.YtfcgnpphabplbaaGreatDoorOd
import Derived.Test.YtfcgnpphabplbaaGreatDoorOt
set_option linter.unusedVariables false
set_option linter.unusedSimpArgs false
