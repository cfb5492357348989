/-
  The library's functions that are laid by hand here.
-/
import Derived.Test.YtpmmaohaahbphaaDoorX1
import Derived.Test.YtpmmaohaahbphaaDoorI84
import Derived.Test.YtpmmaohaahbphaaDoorI85
