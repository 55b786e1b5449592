/- What FnOutvoted needs of the library besides: stores of function values. -/
import Derived.Laws.EntriesVeiled
