/- Small lemmas for the walks of this claim that are typed by hand: rows of rows, opened and closed; what is kept of a list. -/
import Derived.Test.YtbnieikbjmfhgaaWWords
import Derived.Test.YtbnieikbjmfhgaaWLast
import Derived.Test.YtbnieikbjmfhgaaWApart
import Derived.Test.YtbnieikbjmfhgaaWKept
import Derived.IntWalk
