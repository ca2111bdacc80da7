/- What stands in blocks that nothing of the run writes. (Each seat has its own text of this name.) -/
import Derived.Below
namespace Go.Ex
/-- blocks of variables, and what they hold all the time. -/
def pins : List (Nat × (Array Value → Prop)) := []
end Go.Ex
