/- What stands in blocks that nothing of the run writes. (Each seat has its own text of this name.) -/
import Derived.Below
namespace Go.Ex
def pins : List (Nat × (Array Value→Prop)):=[]
end Go.Ex
