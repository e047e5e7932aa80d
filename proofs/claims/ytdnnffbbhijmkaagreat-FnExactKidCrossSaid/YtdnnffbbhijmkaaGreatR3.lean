/- Contracts of SnapFrame. -/
import Derived.Test.YtdnnffbbhijmkaaGreatF2
import Derived.Test.YtdnnffbbhijmkaaGreatS
import Derived.StillTailTactics
namespace Go.Proofs.YtdnnffbbhijmkaaGreat
open Go.ChangeShapes Go.WideShapes Go.ChangeAt Go.RowKit
set_option linter.unusedVariables false
set_option linter.unusedSimpArgs false
set_option maxRecDepth 100000

/-- A region that draws its order and of which only the last n operations write: its head stands still in a world of which no more is told than that it is a later one. -/
theorem wp_tail {P : Program} {id : Nat} {Q : Exit → Act → World → Prop} {a : Act} {w : World} {l : List Oper} (n : Nat) (hm : P.follows .mixedOrders = true) (hB : Region.lexTailB .any l.toArray n = true)
    (h : ∀ W, Below w.heap.size w W → wpStill P l.toArray W (fun a' => wpList P l.toArray Q (l.drop n) a' W) (l.take n) a) : (Code.region id l.toArray true).wp P Q a w :=
  wp_region_still_tail n hm hB (h _ (Below.drew (ext_refl w)))
/-- A frame whose edges are moved to the grid. -/
def snapFrame (f : GFrame) (s : Int) : GFrame := ⟨f.node, snapTo f.x s, snapTo f.y s, wrap64 (snapTo (wrap64 (f.x + f.wide)) s - snapTo f.x s), wrap64 (snapTo (wrap64 (f.y + f.high)) s - snapTo f.y s)⟩

end Go.Proofs.YtdnnffbbhijmkaaGreat
