/- Digits of a base and their value. No condition. -/
import Derived.Test.YtoaonfacjcienaaG0
namespace Go.Proofs.Ytoaonfacjcienaa.G
open Go.RowKit
set_option linter.unusedVariables false

def Digs (b : Int) (d : List Int) : Prop := 2 ≤ b ∧ b ≤ 4 ∧ d.length ≤ 16 ∧ ∀ i, i < d.length → 0 ≤ d.getD i 0 ∧ d.getD i 0 < b

def val (b acc : Int) (d : List Int) : Int := d.foldl (fun n x => wrap64 (wrap64 (n * b) + x)) acc

end Go.Proofs.Ytoaonfacjcienaa.G
