/- The printed texts that the contracts by hand stand on, gathered. -/
import Derived.Test.YtomglbjcfcijkaaDoorPLxx1
import Derived.Test.YtomglbjcfcijkaaDoorPLxx2
import Derived.Test.YtomglbjcfcijkaaDoorPLxx3
import Derived.Test.YtomglbjcfcijkaaDoorPLxx4
