import Derived.Test.YtbcjifadcljkeaaPlays3
import Derived.Test.YtbcjifadcljkeaaPlays4
namespace Go.Proofs.Ytbcjifadcljkeaa
open Go.RowKit Go.Proofs.YtbcjifadcljkeaaW.PrintWords Go.Proofs.YtbcjifadcljkeaaW.PrintLast Go.Proofs.YtbcjifadcljkeaaW.PrintMore Go.Proofs.Ytbcjifadcljkeaa.PAll Go.Proofs.Ytbcjifadcljkeaa.U
set_option linter.unusedVariables false
theorem Pure.ClosingPlays : Says.ClosingPlays := by
  intro A0 c0 x0 w l0 r0 o0
  rcases sends_cases x0 with h | h
  · exact plays_zero x0 h A0 c0 w r0 l0 o0.2.2
  · exact plays_none x0 h A0 c0 w r0 l0 o0.2.2
end Go.Proofs.Ytbcjifadcljkeaa
