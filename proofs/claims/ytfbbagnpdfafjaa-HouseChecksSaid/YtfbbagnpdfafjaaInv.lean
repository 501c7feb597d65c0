import Derived.Test.YtfbbagnpdfafjaaArr

