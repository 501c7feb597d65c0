import Derived.Test.YtfbbagnpdfafjaaHaP

