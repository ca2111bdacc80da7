/- What stands in blocks that nothing of the run writes: the variable 5 (internal/strconv.uint64pow10) holds the powers of ten. -/
import Derived.Below
namespace Go.Ex
def pow10P (cs : Array Value) : Prop := ∀ i, i < 20 → cs[i]? = some (.int .u64 ((10 ^ i : Nat) : Int))
/-- blocks of variables, and what they hold all the time. -/
def pins : List (Nat × (Array Value → Prop)) := [(5, pow10P)]
end Go.Ex
