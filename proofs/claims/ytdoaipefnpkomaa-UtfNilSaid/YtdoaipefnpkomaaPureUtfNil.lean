/- A nil checker reads nothing: for all byte slices. -/
import Derived.Test.YtdoaipefnpkomaaPAllx2
namespace Go.Proofs.Ytdoaipefnpkomaa.Pure
open Go.RowKit Go.Proofs.Ytdoaipefnpkomaa.PAll Go.Proofs.YtdoaipefnpkomaaW.PrintWords Go.Proofs.YtdoaipefnpkomaaW.PrintLast

set_option maxHeartbeats 1000000 in
theorem UtfNil : louverlaw15_UtfNil.Pure := by
  intro a0 len0 cap0 z0 w _ _
  go_enter Try.func3, Try.ntmps3
  go_wp2_with fail
  refine (louverlaw15_fixed.yes _).mono ?_
  rintro e w1 ⟨rfl, hb⟩
  go_wp2
  go_ret
  exact ⟨rfl, below_alloc hb _⟩
end Go.Proofs.Ytdoaipefnpkomaa.Pure
