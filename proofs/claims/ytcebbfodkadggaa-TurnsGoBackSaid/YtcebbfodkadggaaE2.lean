/- Chapter 1: turns: fuel. -/
import Derived.Test.YtcebbfodkadggaaE1
namespace Go.Proofs.Ytcebbfodkadggaa
theorem TurnsMatch_plain (t u : TTurn) (p : TPoint) {X Y Z : Prop} (_ : X) (_ : Y) (_ : Z) : ∃ N, F_etchhouselaw1_TurnsMatchSpec N t u p = some true := ⟨10, turnsMatch_ok (by omega) t u p⟩
theorem TurnsGoBack_plain (t u : TTurn) (p : TPoint) {X Y Z : Prop} (_ : X) (_ : Y) (_ : Z) : ∃ N, F_etchhouselaw1_TurnsGoBack N t u p = some true := ⟨10, goBack_ok (by omega) t u p⟩
end Go.Proofs.Ytcebbfodkadggaa
