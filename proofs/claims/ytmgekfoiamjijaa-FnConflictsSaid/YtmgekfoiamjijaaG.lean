/- Small lemmas for the walks of this claim that are typed by hand: rows of rows, opened and closed; what is kept of a list. -/
import Derived.Test.YtmgekfoiamjijaaWWords
import Derived.Test.YtmgekfoiamjijaaWLast
import Derived.Test.YtmgekfoiamjijaaWApart
import Derived.Test.YtmgekfoiamjijaaWKept
import Derived.IntWalk
