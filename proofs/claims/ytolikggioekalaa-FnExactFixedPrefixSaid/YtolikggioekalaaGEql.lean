/- A slice set beside nil. No condition. -/
import Derived.Lib.SliceRun
namespace Go.Proofs.Ytolikggioekalaa.G
theorem eql_nil {P : Program} {t e : TypeId} (h : P.underlying t = some (.slice e)) : ∀ (w : World) (a : Option Addr) (n c n' c' : Nat), (Go.binOp .eql t (.slice a n c) (.slice none n' c')).run P w = .ok (.bool a.isNone) w :=
  fun w a n c n' c' => Go.Lib.run_eql_slice_nil w _ _ a n c n' c' h
end Go.Proofs.Ytolikggioekalaa.G
