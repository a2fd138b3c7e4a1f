/- A bound for the blocks of parts; a written-out slice of no elements. Conditions: none beyond each theorem's own. -/
import Derived.Test.YtpkicpnbpldkpaaG12
namespace Go.Proofs.Ytpkicpnbpldkpaa
theorem Dp.lt {S0 : Nat → Prop} {w W : World} {E : Nat → Ent} {ds : List Dep} (hS : ∀ b, S0 b → b < w.heap.size) (hW : HF w W E) (hd : AllD E ds) : ∀ b, Dp S0 ds b → b < W.heap.size := fun b hb => by
  rcases Dp.out hS hW hd b hb with hb | hb
  · exact Nat.lt_of_lt_of_le (hS b hb) hW.below.size
  · exact hb.2
end Go.Proofs.Ytpkicpnbpldkpaa
