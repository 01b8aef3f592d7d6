import Derived.Test.YtbjjobifpmjhhaaDoorMsg3
import Derived.Test.YtbjjobifpmjhhaaDoorSaysMessageNil
import Derived.Test.YtbjjobifpmjhhaaDoorPAllx2
import Derived.Test.YtbjjobifpmjhhaaDoorPAllx2
import Derived.Test.YtbjjobifpmjhhaaDoorPAllx2
import Derived.Test.YtbjjobifpmjhhaaDoorPAllx1
import Derived.Deep.RegionHeld3
namespace Go.Proofs.YtbjjobifpmjhhaaDoor
open Go.RowKit Go.Proofs.YtbjjobifpmjhhaaDoorW.PrintWords Go.Proofs.YtbjjobifpmjhhaaDoorW.PrintLast Go.Proofs.YtbjjobifpmjhhaaDoorW.PrintMore Go.Proofs.YtbjjobifpmjhhaaDoor.PAll
set_option linter.unusedVariables false
set_option maxHeartbeats 4000000 in
set_option maxRecDepth 100000 in
theorem Pure.MessageNil : Says.MessageNil := by
  intro c0 x0 w r0 o0 hg
  obtain ⟨A, c, rfl, hl, hr⟩ := k26_open r0
  go_enter Tryd.func5, Tryd.ntmps5
  go_wp2_with fail
  refine (take_nil _ _ _ _ _ rfl _).mono ?_
  rintro e w1 ⟨rfl, hb⟩
  have HB := Aside0.mk (below_step (below_alloc (Below.refl _ _) _) hb)
  clear hb
  go_wp2_with fail
  refine (fixed_yes _).mono ?_
  rintro e w2 ⟨rfl, hb⟩
  have hr2 : w2.heap[w1.heap.size]? = some (.cells #[.int .u8 0, .bool false, .slice none 0 0, .int .u32 0] 30 (0, 0)) := blk_below (last_at w1 _ _ rfl) hb
  have n0 : w2.cell? ⟨w1.heap.size, 0, none⟩ = some (.int .u8 0) := (blk_cell hr2 0).trans rfl
  replace HB := Aside0.mk (below_step (below_alloc HB.out _) hb)
  clear hb hr2
  go_wp2_with fail
  refine (held_nil _).mono ?_
  rintro e w3 ⟨rfl, rfl⟩
  go_wp2_with fail
  refine (over_nil _).mono ?_
  rintro e w4 ⟨rfl, rfl⟩
  go_wp2_with fail
  go_ret
  exact ⟨rfl, HB.out⟩
end Go.Proofs.YtbjjobifpmjhhaaDoor
