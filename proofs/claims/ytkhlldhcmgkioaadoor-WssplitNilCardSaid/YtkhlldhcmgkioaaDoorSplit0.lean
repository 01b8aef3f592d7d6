/- The splitter's small methods, by contracts; and what a nil one answers. -/
import Derived.Test.YtkhlldhcmgkioaaDoorHead6
import Derived.Deep.RegionHeld3
namespace Go.Proofs.YtkhlldhcmgkioaaDoor
open Go.RowKit Go.Proofs.YtkhlldhcmgkioaaDoorW.PrintWords Go.Proofs.YtkhlldhcmgkioaaDoorW.PrintLast Go.Proofs.YtkhlldhcmgkioaaDoorW.PrintMore
set_option linter.unusedVariables false
attribute [local go_sem] max2_int min2_int max_two min_two
/-- A splitter at block g of W: what it holds (v, the bytes l), masked, bad; its row was made since wb. -/
structure Sp (wb W : World) (g : Nat) (v : Value) (m bad : Bool) (l : List Int) : Prop where
  blk : W.heap[g]? = some (.cells #[v, .bool m, .bool bad] 47 (0, 0))
  row : Kd.R (Kd.int .u8) 5 W wb.heap.size (fun _ => True) v l
theorem Sp.below {wb W W' : World} {g : Nat} {v : Value} {m bad : Bool} {l : List Int} (h : Sp wb W g v m bad l) (hb : Below W.heap.size W W') : Sp wb W' g v m bad l := ⟨blk_below h.blk hb, Kd.R_below h.row hb⟩
theorem Sp.ne {wb W : World} {g : Nat} {v : Value} {m bad : Bool} {l : List Int} (h : Sp wb W g v m bad l) : some g ≠ v.ownBlock := Kd.R_ne h.row h.blk (by decide)
theorem split_new (m : Bool) (wb w : World) (hB : Below wb.heap.size wb w) : Calls Tryd.prog 8 #[.bool m] w fun e w' => e = .returned (.pointer (some ⟨w.heap.size, 0, none⟩)) ∧ Sp wb w' w.heap.size (.slice none 0 0) m false [] ∧ Below w.heap.size w w' := by
  have HB := Aside0.mk hB
  clear hB
  go_enter Tryd.func8, Tryd.ntmps8
  go_wp2
  go_ret
  exact ⟨rfl, ⟨last_at _ _ _ rfl, Kd.R_nil _ _ _ _ _⟩, below_alloc (Below.refl _ _) _⟩
theorem split_bad_any (g : Nat) (bad : Bool) (w : World) (h : w.cell? ⟨g, 2, none⟩ = some (.bool bad)) : Calls Tryd.prog 9 #[.pointer (some ⟨g, 0, none⟩)] w fun e w' => e = .returned (.bool bad) ∧ w = w' := by
  go_enter Tryd.func9, Tryd.ntmps9
  go_wp2
  go_ret
  exact ⟨rfl, rfl⟩
theorem split_bad_nil (w : World) : Calls Tryd.prog 9 #[.pointer none] w fun e w' => e = .returned (.bool true) ∧ w = w' := by
  go_enter Tryd.func9, Tryd.ntmps9
  go_wp2
  go_ret
  exact ⟨rfl, rfl⟩
theorem split_held_any (g n c : Nat) (A : Option Addr) (w : World) (h : w.cell? ⟨g, 0, none⟩ = some (.slice A n c)) : Calls Tryd.prog 10 #[.pointer (some ⟨g, 0, none⟩)] w fun e w' => e = .returned (.int .i64 n) ∧ w = w' := by
  go_enter Tryd.func10, Tryd.ntmps10
  go_wp2
  go_ret
  exact ⟨rfl, rfl⟩
theorem split_held_nil (w : World) : Calls Tryd.prog 10 #[.pointer none] w fun e w' => e = .returned (.int .i64 0) ∧ w = w' := by
  go_enter Tryd.func10, Tryd.ntmps10
  go_wp2
  go_ret
  exact ⟨rfl, rfl⟩
theorem split_feed_nil (A : Option Addr) (n c : Nat) (w : World) : Calls Tryd.prog 11 #[.pointer none, .slice A n c] w fun e w' => e = .returned (.int .i64 0) ∧ w = w' := by
  go_enter Tryd.func11, Tryd.ntmps11
  go_wp2_with fail
  refine (split_bad_nil _).mono ?_
  rintro e w1 ⟨rfl, rfl⟩
  go_wp2_with fail
  go_ret
  exact ⟨rfl, rfl⟩
set_option maxHeartbeats 8000000 in
set_option maxRecDepth 100000 in
theorem split_next_nil (w : World) : Calls Tryd.prog 12 #[.pointer none] w fun e w' => e = .returned (.tuple #[.agg #[.bool false, .int .u8 0, .bool false, .int .u32 0, .slice none 0 0], .agg #[.int .u8 0, .int .u32 0], .bool false]) ∧ Below w.heap.size w w' := by
  have hu31 := Tryd.underlying31
  have hu33 := Tryd.underlying33
  go_enter Tryd.func12, Tryd.ntmps12
  go_wp2_with fail
  refine (split_bad_nil _).mono ?_
  rintro e w1 ⟨rfl, rfl⟩
  have hle0 : w.heap.size ≤ w.heap.size := Nat.le_refl _
  have hle1 : w.heap.size ≤ w.heap.size + 1 := by omega
  go_wp2_with fail
  exact bodyPost_ret (v := .tuple #[.agg #[.bool false, .int .u8 0, .bool false, .int .u32 0, .slice none 0 0], .agg #[.int .u8 0, .int .u32 0], .bool false]) (by simp [results, Tryd.results12, go_sem]) rfl ⟨rfl, by repeat (first | exact Below.refl _ _ | apply below_alloc | refine Below.setCell ?_ hle0 _ | refine Below.setCell ?_ hle1 _)⟩
end Go.Proofs.YtkhlldhcmgkioaaDoor
