/-
  The contracts of library functions that these laws use.
-/

import Derived.Test.YtppiaacfnoifkaaDoorXP
