/- What wsframe.Get answers where there is a fault. -/
import Derived.Test.YtkhlldhcmgkioaaDoorHead3
import Derived.Deep.RegionHeld3
namespace Go.Proofs.YtkhlldhcmgkioaaDoor
open Go.RowKit Go.Proofs.YtkhlldhcmgkioaaDoorW.PrintWords Go.Proofs.YtkhlldhcmgkioaaDoorW.PrintLast Go.Proofs.YtkhlldhcmgkioaaDoorW.PrintMore
set_option linter.unusedVariables false
def GetPost (r1 : Bool) (r2 : Int) (r3 : Bool) (r4 : Int) (r5 : List Int) (r6 r7 : Int) (w : World) (e : Ending) (w' : World) : Prop := ∃ v, e = .returned (.tuple #[.agg #[.bool r1, .int .u8 r2, .bool r3, .int .u32 r4, v], .agg #[.int .u8 r6, .int .u32 r7]]) ∧ Kd.R (Kd.int .u8) 5 w' w.heap.size (fun _ => True) v r5 ∧ Below w.heap.size w w'
theorem GetPost.bad {c : Int} {w w' : World} (hb : Below w.heap.size w w') : GetPost false 0 false 0 [] 3 c w (.returned (.tuple #[.agg #[.bool false, .int .u8 0, .bool false, .int .u32 0, .slice none 0 0], .agg #[.int .u8 3, .int .u32 c]])) w' := ⟨_, rfl, Kd.R_nil _ _ _ _ _, hb⟩
set_option maxHeartbeats 4000000 in
theorem Get_bad1 (A : Option Addr) (len c : Nat) (m : Bool) (w : World) (hg : Cond w) (f d code : Int) (more : Bool) (hc : code ≠ 0) (hh : HeadAt A len c m w f d more code) : Calls Tryd.prog 18 #[.slice A len c, .bool m] w (GetPost false 0 false 0 [] 3 code w) := by
  have HC := Aside0.mk hg
  have HZ := Aside0.mk hc
  clear hg hc
  have hu26 := Tryd.underlying33
  have hu37 := Tryd.underlying31
  have HH := Aside0.mk hh
  clear hh
  go_enter Tryd.func18, Tryd.ntmps18
  go_wp2_with fail
  refine (HH.out _ (below_alloc (below_alloc (Below.refl _ _) _) _)).mono ?_
  rintro e w1 ⟨v, rfl, hv, hb⟩
  have hp1 : w1.heap[w.heap.size]? = some (.cells #[.bool false, .int .u8 0, .bool false, .int .u32 0, .slice none 0 0] 31 (0, 0)) := blk_below (blk_alloc (last_at _ _ _ rfl) _) hb
  have hr1 : w1.heap[w.heap.size + 1]? = some (.cells #[.int .u8 0, .int .u32 0] 33 (0, 0)) := blk_below (last_at _ _ _ (by simp)) hb
  have HB1 := Aside0.mk (below_step (below_alloc (below_alloc (Below.refl w.heap.size w) (.cells #[.bool false, .int .u8 0, .bool false, .int .u32 0, .slice none 0 0] 31)) (.cells #[.int .u8 0, .int .u32 0] 33)) hb)
  clear hb
  have hv2 := bad_of_post hv HZ.out
  obtain ⟨gv, rfl⟩ := hv2.out
  have HV := Aside0.mk hv2
  clear hv hv2
  have HP1 := Aside0.mk hp1
  have HR1 := Aside0.mk hr1
  clear hp1 hr1
  go_wp2_with fail
  refine (wrap_any _ _ code _ HV.out).mono ?_
  rintro e w2 ⟨v2, rfl, hw, hb⟩
  have HW := Aside0.mk hw
  have hp2 : w2.heap[w.heap.size]? = some (.cells #[.bool false, .int .u8 0, .bool false, .int .u32 0, .slice none 0 0] 31 (0, 0)) := blk_below HP1.out hb
  have hr2 : w2.heap[w.heap.size + 1]? = some (.cells #[.int .u8 0, .int .u32 0] 33 (0, 0)) := blk_below HR1.out hb
  have HB2 := Aside0.mk (below_step HB1.out hb)
  clear HP1 HR1 HB1
  have HP2 := Aside0.mk hp2
  have HR2 := Aside0.mk hr2
  clear hp2 hr2
  clear hw hb HV
  go_wp2_with fail
  refine (of_wr _ code _ HW.out (HC.out.below HB2.out)).mono ?_
  rintro e w3 ⟨rfl, hb⟩
  have hp3 : w3.heap[w.heap.size]? = some (.cells #[.bool false, .int .u8 0, .bool false, .int .u32 0, .slice none 0 0] 31 (0, 0)) := blk_below HP2.out hb
  have hr3 : w3.heap[w.heap.size + 1]? = some (.cells #[.int .u8 0, .int .u32 0] 33 (0, 0)) := blk_below HR2.out hb
  have HB3 := Aside0.mk (below_step HB2.out hb)
  clear HP2 HR2 HB2
  clear hb HW
  have p0 : w3.cell? ⟨w.heap.size, 0, none⟩ = some (.bool false) := (blk_cell hp3 0).trans rfl
  have pf0 := blk_frozen hp3 0
  have p1 : w3.cell? ⟨w.heap.size, 1, none⟩ = some (.int .u8 0) := (blk_cell hp3 1).trans rfl
  have pf1 := blk_frozen hp3 1
  have p2 : w3.cell? ⟨w.heap.size, 2, none⟩ = some (.bool false) := (blk_cell hp3 2).trans rfl
  have pf2 := blk_frozen hp3 2
  have p3 : w3.cell? ⟨w.heap.size, 3, none⟩ = some (.int .u32 0) := (blk_cell hp3 3).trans rfl
  have pf3 := blk_frozen hp3 3
  have p4 : w3.cell? ⟨w.heap.size, 4, none⟩ = some (.slice none 0 0) := (blk_cell hp3 4).trans rfl
  have pf4 := blk_frozen hp3 4
  have r0 : w3.cell? ⟨w.heap.size + 1, 0, none⟩ = some (.int .u8 0) := (blk_cell hr3 0).trans rfl
  have rf0 := blk_frozen hr3 0
  have r1 : w3.cell? ⟨w.heap.size + 1, 1, none⟩ = some (.int .u32 0) := (blk_cell hr3 1).trans rfl
  have rf1 := blk_frozen hr3 1
  have pl := blk_lt hp3
  have rl := blk_lt hr3
  clear hp3 hr3
  have hle0 : w.heap.size ≤ w.heap.size := Nat.le_refl _
  have hle1 : w.heap.size ≤ w.heap.size + 1 := by omega
  go_wp2_with fail
  exact bodyPost_ret (v := .tuple #[.agg #[.bool false, .int .u8 0, .bool false, .int .u32 0, .slice none 0 0], .agg #[.int .u8 3, .int .u32 code]]) (by simp [results, Tryd.results18, go_sem, p0, p1, p2, p3, p4, r0, r1]) rfl (GetPost.bad (Below.setCell (Below.setCell (Below.setCell (Below.setCell (Below.setCell (Below.setCell (Below.setCell HB3.out hle0 _) hle0 _) hle0 _) hle0 _) hle0 _) hle1 _) hle1 _))
set_option maxHeartbeats 4000000 in
theorem Get_bad2 (A : Option Addr) (len c : Nat) (m : Bool) (w : World) (hg : Cond w) (f d : Int) (hh : HeadAt A len c m w f d true 0) : Calls Tryd.prog 18 #[.slice A len c, .bool m] w (GetPost false 0 false 0 [] 3 1002 w) := by
  have HC := Aside0.mk hg
  clear hg
  have hu26 := Tryd.underlying33
  have hu37 := Tryd.underlying31
  have HH := Aside0.mk hh
  clear hh
  go_enter Tryd.func18, Tryd.ntmps18
  go_wp2_with fail
  refine (HH.out _ (below_alloc (below_alloc (Below.refl _ _) _) _)).mono ?_
  rintro e w1 ⟨v, rfl, hv, hb⟩
  have hp1 : w1.heap[w.heap.size]? = some (.cells #[.bool false, .int .u8 0, .bool false, .int .u32 0, .slice none 0 0] 31 (0, 0)) := blk_below (blk_alloc (last_at _ _ _ rfl) _) hb
  have hr1 : w1.heap[w.heap.size + 1]? = some (.cells #[.int .u8 0, .int .u32 0] 33 (0, 0)) := blk_below (last_at _ _ _ (by simp)) hb
  have HB1 := Aside0.mk (below_step (below_alloc (below_alloc (Below.refl w.heap.size w) (.cells #[.bool false, .int .u8 0, .bool false, .int .u32 0, .slice none 0 0] 31)) (.cells #[.int .u8 0, .int .u32 0] 33)) hb)
  clear hb
  obtain rfl := nil_of_post hv rfl
  clear hv
  have HP1 := Aside0.mk hp1
  have HR1 := Aside0.mk hr1
  clear hp1 hr1
  go_wp2_with fail
  refine (protocol_any _).mono ?_
  rintro e w2 ⟨v, rfl, hv2, hb⟩
  have hp2 : w2.heap[w.heap.size]? = some (.cells #[.bool false, .int .u8 0, .bool false, .int .u32 0, .slice none 0 0] 31 (0, 0)) := blk_below HP1.out hb
  have hr2 : w2.heap[w.heap.size + 1]? = some (.cells #[.int .u8 0, .int .u32 0] 33 (0, 0)) := blk_below HR1.out hb
  have HB2 := Aside0.mk (below_step HB1.out hb)
  clear HP1 HR1 HB1
  have HP2 := Aside0.mk hp2
  have HR2 := Aside0.mk hr2
  clear hp2 hr2
  obtain ⟨gv, rfl⟩ := hv2.out
  have HV := Aside0.mk hv2
  clear hv2 hb
  go_wp2_with fail
  refine (wrap_any _ _ 1002 _ HV.out).mono ?_
  rintro e w3 ⟨v2, rfl, hw, hb⟩
  have HW := Aside0.mk hw
  have hp3 : w3.heap[w.heap.size]? = some (.cells #[.bool false, .int .u8 0, .bool false, .int .u32 0, .slice none 0 0] 31 (0, 0)) := blk_below HP2.out hb
  have hr3 : w3.heap[w.heap.size + 1]? = some (.cells #[.int .u8 0, .int .u32 0] 33 (0, 0)) := blk_below HR2.out hb
  have HB3 := Aside0.mk (below_step HB2.out hb)
  clear HP2 HR2 HB2
  have HP3 := Aside0.mk hp3
  have HR3 := Aside0.mk hr3
  clear hp3 hr3
  clear hw hb HV
  go_wp2_with fail
  refine (of_wr _ 1002 _ HW.out (HC.out.below HB3.out)).mono ?_
  rintro e w4 ⟨rfl, hb⟩
  have hp4 : w4.heap[w.heap.size]? = some (.cells #[.bool false, .int .u8 0, .bool false, .int .u32 0, .slice none 0 0] 31 (0, 0)) := blk_below HP3.out hb
  have hr4 : w4.heap[w.heap.size + 1]? = some (.cells #[.int .u8 0, .int .u32 0] 33 (0, 0)) := blk_below HR3.out hb
  have HB4 := Aside0.mk (below_step HB3.out hb)
  clear HP3 HR3 HB3
  clear hb HW
  have p0 : w4.cell? ⟨w.heap.size, 0, none⟩ = some (.bool false) := (blk_cell hp4 0).trans rfl
  have pf0 := blk_frozen hp4 0
  have p1 : w4.cell? ⟨w.heap.size, 1, none⟩ = some (.int .u8 0) := (blk_cell hp4 1).trans rfl
  have pf1 := blk_frozen hp4 1
  have p2 : w4.cell? ⟨w.heap.size, 2, none⟩ = some (.bool false) := (blk_cell hp4 2).trans rfl
  have pf2 := blk_frozen hp4 2
  have p3 : w4.cell? ⟨w.heap.size, 3, none⟩ = some (.int .u32 0) := (blk_cell hp4 3).trans rfl
  have pf3 := blk_frozen hp4 3
  have p4 : w4.cell? ⟨w.heap.size, 4, none⟩ = some (.slice none 0 0) := (blk_cell hp4 4).trans rfl
  have pf4 := blk_frozen hp4 4
  have r0 : w4.cell? ⟨w.heap.size + 1, 0, none⟩ = some (.int .u8 0) := (blk_cell hr4 0).trans rfl
  have rf0 := blk_frozen hr4 0
  have r1 : w4.cell? ⟨w.heap.size + 1, 1, none⟩ = some (.int .u32 0) := (blk_cell hr4 1).trans rfl
  have rf1 := blk_frozen hr4 1
  have pl := blk_lt hp4
  have rl := blk_lt hr4
  clear hp4 hr4
  have hle0 : w.heap.size ≤ w.heap.size := Nat.le_refl _
  have hle1 : w.heap.size ≤ w.heap.size + 1 := by omega
  go_wp2_with fail
  exact bodyPost_ret (v := .tuple #[.agg #[.bool false, .int .u8 0, .bool false, .int .u32 0, .slice none 0 0], .agg #[.int .u8 3, .int .u32 1002]]) (by simp [results, Tryd.results18, go_sem, p0, p1, p2, p3, p4, r0, r1]) rfl (GetPost.bad (Below.setCell (Below.setCell (Below.setCell (Below.setCell (Below.setCell (Below.setCell (Below.setCell HB4.out hle0 _) hle0 _) hle0 _) hle0 _) hle0 _) hle1 _) hle1 _))
set_option maxHeartbeats 4000000 in
theorem Get_bad3 (A : Option Addr) (len c : Nat) (m : Bool) (w : World) (hg : Cond w) (f d s : Int) (hs : IntKind.i64.wrap (f + d) = s) (hne : ((len : Int) != s) = true) (hh : HeadAt A len c m w f d false 0) : Calls Tryd.prog 18 #[.slice A len c, .bool m] w (GetPost false 0 false 0 [] 3 1002 w) := by
  have HC := Aside0.mk hg
  clear hg
  have hu26 := Tryd.underlying33
  have hu37 := Tryd.underlying31
  have HH := Aside0.mk hh
  clear hh
  go_enter Tryd.func18, Tryd.ntmps18
  go_wp2_with fail
  refine (HH.out _ (below_alloc (below_alloc (Below.refl _ _) _) _)).mono ?_
  rintro e w1 ⟨v, rfl, hv, hb⟩
  have hp1 : w1.heap[w.heap.size]? = some (.cells #[.bool false, .int .u8 0, .bool false, .int .u32 0, .slice none 0 0] 31 (0, 0)) := blk_below (blk_alloc (last_at _ _ _ rfl) _) hb
  have hr1 : w1.heap[w.heap.size + 1]? = some (.cells #[.int .u8 0, .int .u32 0] 33 (0, 0)) := blk_below (last_at _ _ _ (by simp)) hb
  have HB1 := Aside0.mk (below_step (below_alloc (below_alloc (Below.refl w.heap.size w) (.cells #[.bool false, .int .u8 0, .bool false, .int .u32 0, .slice none 0 0] 31)) (.cells #[.int .u8 0, .int .u32 0] 33)) hb)
  clear hb
  obtain rfl := nil_of_post hv rfl
  clear hv
  have HP1 := Aside0.mk hp1
  have HR1 := Aside0.mk hr1
  clear hp1 hr1
  go_wp2_with fail
  refine (protocol_any _).mono ?_
  rintro e w2 ⟨v, rfl, hv2, hb⟩
  have hp2 : w2.heap[w.heap.size]? = some (.cells #[.bool false, .int .u8 0, .bool false, .int .u32 0, .slice none 0 0] 31 (0, 0)) := blk_below HP1.out hb
  have hr2 : w2.heap[w.heap.size + 1]? = some (.cells #[.int .u8 0, .int .u32 0] 33 (0, 0)) := blk_below HR1.out hb
  have HB2 := Aside0.mk (below_step HB1.out hb)
  clear HP1 HR1 HB1
  have HP2 := Aside0.mk hp2
  have HR2 := Aside0.mk hr2
  clear hp2 hr2
  obtain ⟨gv, rfl⟩ := hv2.out
  have HV := Aside0.mk hv2
  clear hv2 hb
  go_wp2_with fail
  refine (wrap_any _ _ 1002 _ HV.out).mono ?_
  rintro e w3 ⟨v2, rfl, hw, hb⟩
  have HW := Aside0.mk hw
  have hp3 : w3.heap[w.heap.size]? = some (.cells #[.bool false, .int .u8 0, .bool false, .int .u32 0, .slice none 0 0] 31 (0, 0)) := blk_below HP2.out hb
  have hr3 : w3.heap[w.heap.size + 1]? = some (.cells #[.int .u8 0, .int .u32 0] 33 (0, 0)) := blk_below HR2.out hb
  have HB3 := Aside0.mk (below_step HB2.out hb)
  clear HP2 HR2 HB2
  have HP3 := Aside0.mk hp3
  have HR3 := Aside0.mk hr3
  clear hp3 hr3
  clear hw hb HV
  go_wp2_with fail
  refine (of_wr _ 1002 _ HW.out (HC.out.below HB3.out)).mono ?_
  rintro e w4 ⟨rfl, hb⟩
  have hp4 : w4.heap[w.heap.size]? = some (.cells #[.bool false, .int .u8 0, .bool false, .int .u32 0, .slice none 0 0] 31 (0, 0)) := blk_below HP3.out hb
  have hr4 : w4.heap[w.heap.size + 1]? = some (.cells #[.int .u8 0, .int .u32 0] 33 (0, 0)) := blk_below HR3.out hb
  have HB4 := Aside0.mk (below_step HB3.out hb)
  clear HP3 HR3 HB3
  clear hb HW
  have p0 : w4.cell? ⟨w.heap.size, 0, none⟩ = some (.bool false) := (blk_cell hp4 0).trans rfl
  have pf0 := blk_frozen hp4 0
  have p1 : w4.cell? ⟨w.heap.size, 1, none⟩ = some (.int .u8 0) := (blk_cell hp4 1).trans rfl
  have pf1 := blk_frozen hp4 1
  have p2 : w4.cell? ⟨w.heap.size, 2, none⟩ = some (.bool false) := (blk_cell hp4 2).trans rfl
  have pf2 := blk_frozen hp4 2
  have p3 : w4.cell? ⟨w.heap.size, 3, none⟩ = some (.int .u32 0) := (blk_cell hp4 3).trans rfl
  have pf3 := blk_frozen hp4 3
  have p4 : w4.cell? ⟨w.heap.size, 4, none⟩ = some (.slice none 0 0) := (blk_cell hp4 4).trans rfl
  have pf4 := blk_frozen hp4 4
  have r0 : w4.cell? ⟨w.heap.size + 1, 0, none⟩ = some (.int .u8 0) := (blk_cell hr4 0).trans rfl
  have rf0 := blk_frozen hr4 0
  have r1 : w4.cell? ⟨w.heap.size + 1, 1, none⟩ = some (.int .u32 0) := (blk_cell hr4 1).trans rfl
  have rf1 := blk_frozen hr4 1
  have pl := blk_lt hp4
  have rl := blk_lt hr4
  clear hp4 hr4
  have hle0 : w.heap.size ≤ w.heap.size := Nat.le_refl _
  have hle1 : w.heap.size ≤ w.heap.size + 1 := by omega
  go_wp2_with fail
  exact bodyPost_ret (v := .tuple #[.agg #[.bool false, .int .u8 0, .bool false, .int .u32 0, .slice none 0 0], .agg #[.int .u8 3, .int .u32 1002]]) (by simp [results, Tryd.results18, go_sem, p0, p1, p2, p3, p4, r0, r1]) rfl (GetPost.bad (Below.setCell (Below.setCell (Below.setCell (Below.setCell (Below.setCell (Below.setCell (Below.setCell HB4.out hle0 _) hle0 _) hle0 _) hle0 _) hle0 _) hle1 _) hle1 _))
end Go.Proofs.YtkhlldhcmgkioaaDoor
