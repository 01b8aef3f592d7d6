/- A nil splitter takes nothing. -/
import Derived.Test.YtkhlldhcmgkioaaDoorFix17
import Derived.Test.YtkhlldhcmgkioaaDoorSaysWssplitNil
namespace Go.Proofs.YtkhlldhcmgkioaaDoor
open Go.RowKit Go.Proofs.YtkhlldhcmgkioaaDoorW.PrintWords Go.Proofs.YtkhlldhcmgkioaaDoorW.PrintLast Go.Proofs.YtkhlldhcmgkioaaDoorW.PrintMore Go.Proofs.YtkhlldhcmgkioaaDoor.PAll
set_option linter.unusedVariables false
set_option maxHeartbeats 4000000 in
set_option maxRecDepth 100000 in
theorem Pure.WssplitNil : Says.WssplitNil := by
  intro A0 c0 x0 w l0 r0 o0 hg
  have hu31 := Tryd.underlying31
  have hu33 := Tryd.underlying33
  have HC := Aside0.mk hg
  clear l0 r0 o0 hg
  go_enter Tryd.func5, Tryd.ntmps5
  go_wp2_with fail
  refine (split_next_nil _).mono ?_
  rintro e w1 ⟨rfl, hb⟩
  have HB1 := Aside0.mk hb
  clear hb
  go_upto_region 3 with fail
  have hb : Below w1.heap.size w1 ((w1.alloc (.cells #[.bool false, .int .u8 0, .bool false, .int .u32 0, .slice none 0 0] 31)).alloc (.cells #[.int .u8 0, .int .u32 0] 33)) := below_alloc (below_alloc (Below.refl _ _) _) _
  have hx0 : ((w1.alloc (.cells #[.bool false, .int .u8 0, .bool false, .int .u32 0, .slice none 0 0] 31)).alloc (.cells #[.int .u8 0, .int .u32 0] 33)).heap[w1.heap.size]? = some (.cells #[.bool false, .int .u8 0, .bool false, .int .u32 0, .slice none 0 0] 31 (0, 0)) := blk_alloc (last_at _ _ _ rfl) _
  have hx1 : ((w1.alloc (.cells #[.bool false, .int .u8 0, .bool false, .int .u32 0, .slice none 0 0] 31)).alloc (.cells #[.int .u8 0, .int .u32 0] 33)).heap[w1.heap.size + 1]? = some (.cells #[.int .u8 0, .int .u32 0] 33 (0, 0)) := last_at _ _ _ (by simp)
  generalize (w1.alloc (.cells #[.bool false, .int .u8 0, .bool false, .int .u32 0, .slice none 0 0] 31)).alloc (.cells #[.int .u8 0, .int .u32 0] 33) = w2 at hb hx0 hx1 ⊢
  have HB2 := Aside0.mk (below_step HB1.out hb)
  have HX0 := Aside0.mk hx0
  have HX1 := Aside0.mk hx1
  clear hb hx0 hx1 HB1
  go_wp2_with fail
  refine (fixed_yes _ (HC.out.below HB2.out)).mono ?_
  rintro e w3 ⟨rfl, hb⟩
  have HB3 := Aside0.mk (below_step HB2.out hb)
  have hx0 := blk_below HX0.out hb
  have hx1 := blk_below HX1.out hb
  have d4 : w3.cell? ⟨w1.heap.size, 4, none⟩ = some (.slice none 0 0) := (blk_cell hx0 4).trans rfl
  have e0 : w3.cell? ⟨w1.heap.size + 1, 0, none⟩ = some (.int .u8 0) := (blk_cell hx1 0).trans rfl
  have e1 : w3.cell? ⟨w1.heap.size + 1, 1, none⟩ = some (.int .u32 0) := (blk_cell hx1 1).trans rfl
  clear hb hx0 hx1 HX0 HX1 HB2
  go_wp2_with fail
  refine (split_feed_nil _ _ _ _).mono ?_
  rintro e w4 ⟨rfl, rfl⟩
  go_wp2_with fail
  refine (split_held_nil _).mono ?_
  rintro e w5 ⟨rfl, rfl⟩
  go_wp2_with fail
  refine (split_bad_nil _).mono ?_
  rintro e w6 ⟨rfl, rfl⟩
  go_wp2_with fail
  go_ret
  exact ⟨rfl, HB3.out⟩
end Go.Proofs.YtkhlldhcmgkioaaDoor
