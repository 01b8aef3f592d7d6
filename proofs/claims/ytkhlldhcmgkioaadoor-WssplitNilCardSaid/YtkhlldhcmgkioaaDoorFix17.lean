/- fixed of chapter 17. -/
import Derived.Test.YtkhlldhcmgkioaaDoorSplit1
import Derived.Test.YtkhlldhcmgkioaaDoorSplit3
import Derived.Test.YtkhlldhcmgkioaaDoorPAllx2
import Derived.Lib.SlBytesConst
import Derived.Test.YtkhlldhcmgkioaaDoorPAllx1
import Derived.Deep.RegionHeld3
namespace Go.Proofs.YtkhlldhcmgkioaaDoor.PAll
open Go.RowKit Go.Proofs.YtkhlldhcmgkioaaDoorW.PrintWords Go.Proofs.YtkhlldhcmgkioaaDoorW.PrintLast Go.Proofs.YtkhlldhcmgkioaaDoorW.PrintMore 
set_option linter.unusedVariables false
set_option linter.unusedSimpArgs false
theorem C_marked (W : World) (t : TypeId) (fr : Nat × Nat) (xs : List Int) (hm : xs.length ≤ 9223372036854775807) : (Kd.int .u8).C (W.alloc (.cells (nums .u8 xs).toArray t fr)) (some ⟨W.heap.size, 0, none⟩) xs.length xs := by
  refine Kd.C_of_reads (d := 0) ⟨rfl, hm, fun _ => ⟨_, rfl, fun j hj => ?_⟩⟩
  rw [add_plain, World.cell?_alloc_mark]
  simp [nums, hj]
def fixB : ByteArray := ⟨#[129, 130, 0, 0, 0, 7, 97, 98]⟩
theorem fix_put : louverref16_Put.f 40 true 1 true 7 [97, 98] = some fixB := by decide +kernel
theorem fix_get : wsframe_Get.f 40 [129, 130, 0, 0, 0, 7, 97, 98] true = some (true, 1, true, 7, [97, 98], 0, 0) := by kernel_rfl
theorem fix_clone : bytes_Clone.f [] = some [] := by decide +kernel
theorem fix_same : (strOfNums [97, 98]).toList = [97, 98] := by
  have : ∀ b : ByteArray, b.data.toList = [97, 98] → b.toList = [97, 98] := fun b h => by
    rw [ByteArray.toList_eq, h]
  exact this _ (by decide +kernel)
theorem fix_size : fixB.size = 8 := by decide +kernel
theorem fix_head0 : wsframe_Head.f [] true = some (0, 0, 0, false) := by decide +kernel
theorem fix_head1 : wsframe_Head.f [129] true = some (0, 0, 0, false) := by decide +kernel
theorem fix_head2 : wsframe_Head.f [129, 130] true = some (8, 0, 0, true) := by decide +kernel
theorem fix_head3 : wsframe_Head.f [129, 130, 0] true = some (8, 0, 0, true) := by decide +kernel
theorem fix_head4 : wsframe_Head.f [129, 130, 0, 0] true = some (8, 0, 0, true) := by decide +kernel
theorem fix_head5 : wsframe_Head.f [129, 130, 0, 0, 0] true = some (8, 0, 0, true) := by decide +kernel
theorem fix_head6 : wsframe_Head.f [129, 130, 0, 0, 0, 7] true = some (8, 0, 0, true) := by decide +kernel
theorem fix_head7 : wsframe_Head.f [129, 130, 0, 0, 0, 7, 97] true = some (8, 0, 0, true) := by decide +kernel
theorem fix_head8 : wsframe_Head.f [129, 130, 0, 0, 0, 7, 97, 98] true = some (8, 0, 0, true) := by decide +kernel
theorem fix_sz0 : (fixB.extract 0 1).size = ([129] : List Int).length := by decide +kernel
theorem fix_by0 : bytesOf (fixB.extract 0 1) = [129] := by decide +kernel
theorem fix_sz1 : (fixB.extract 1 2).size = ([130] : List Int).length := by decide +kernel
theorem fix_by1 : bytesOf (fixB.extract 1 2) = [130] := by decide +kernel
theorem fix_sz2 : (fixB.extract 2 3).size = ([0] : List Int).length := by decide +kernel
theorem fix_by2 : bytesOf (fixB.extract 2 3) = [0] := by decide +kernel
theorem fix_sz3 : (fixB.extract 3 4).size = ([0] : List Int).length := by decide +kernel
theorem fix_by3 : bytesOf (fixB.extract 3 4) = [0] := by decide +kernel
theorem fix_sz4 : (fixB.extract 4 5).size = ([0] : List Int).length := by decide +kernel
theorem fix_by4 : bytesOf (fixB.extract 4 5) = [0] := by decide +kernel
theorem fix_sz5 : (fixB.extract 5 6).size = ([7] : List Int).length := by decide +kernel
theorem fix_by5 : bytesOf (fixB.extract 5 6) = [7] := by decide +kernel
theorem fix_sz6 : (fixB.extract 6 7).size = ([97] : List Int).length := by decide +kernel
theorem fix_by6 : bytesOf (fixB.extract 6 7) = [97] := by decide +kernel
theorem fix_sz7 : (fixB.extract 7 8).size = ([98] : List Int).length := by decide +kernel
theorem fix_by7 : bytesOf (fixB.extract 7 8) = [98] := by decide +kernel
set_option maxHeartbeats 8000000 in
set_option maxRecDepth 100000 in
theorem fixed_yes (w0 : World) (hg : Cond w0) : Calls Tryd.prog 7 #[] w0 fun e w' => e = .returned (.bool true) ∧ Below w0.heap.size w0 w' := by
  have kc := fun (w : World) (C : Array Value) (n c : Nat) => Lib.run_convert_bytes_const (P := Tryd.prog) w 22 5 C n c Tryd.underlying22 Tryd.underlying5
  have HC := Aside0.mk hg
  clear hg
  go_enter Tryd.func7, Tryd.ntmps7
  go_wp2_with fail
  refine (split_new true w0 _ (Below.refl _ _)).mono ?_
  rintro e w1 ⟨rfl, hs, hb⟩
  have hgb : w0.heap.size ≤ w0.heap.size := Nat.le_refl _
  have hs := hs
  obtain ⟨g, hgg⟩ : ∃ g, g = w0.heap.size := ⟨_, rfl⟩
  rw [← hgg] at hs ⊢
  have hgb : w0.heap.size ≤ g := by omega
  clear hgg
  have HS := Aside0.mk hs
  have HB := Aside0.mk hb
  clear hs hb
  go_wp2_with fail
  refine (louverref16_Put.calls 40 true 1 true 7 _ _ [97, 98] fixB _ (C_marked w1 5 (2, 3) [97, 98] (by decide)) (Nat.le_refl _) fix_put).mono ?_
  rintro e w2 ⟨rfl, hb⟩
  have hbb := below_step (below_alloc (Below.refl w1.heap.size w1) _) hb
  have HS2 := Aside0.mk (HS.out.below hbb)
  have HB2 := Aside0.mk (below_step HB.out hbb)
  clear HS HB hb hbb
  have HS := HS2
  have HB := HB2
  clear HS2 HB2
  generalize (Value.slice none 0 0) = v at HS
  have fsz := fix_size
  have hcv : ∀ (i : Nat) (W : World), (fixB.extract i (i + 1)).size = 1 → (convert 9 22 (.string (fixB.extract i (i + 1)))).run Tryd.prog W = .ok (.slice (some ⟨W.heap.size, 0, none⟩) 1 (grownCap W 1 0 5)) (Lib.bytesWorld W 5 (fixB.extract i (i + 1))) := fun i W h => by
    have h2 := print_bytes (P := Tryd.prog) 9 22 5 Tryd.underlying9 Tryd.underlying22 Tryd.underlying5 (fixB.extract i (i + 1)) W
    rw [h] at h2
    exact h2
  go_wp2_with fail
  refine wp_loop_rounds 9 ?_
  have hcv0 : ∀ W : World, (convert 9 22 (.string (fixB.extract 0 1))).run Tryd.prog W = .ok (.slice (some ⟨W.heap.size, 0, none⟩) 1 (grownCap W 1 0 5)) (Lib.bytesWorld W 5 (fixB.extract 0 1)) := fun W => hcv 0 W fix_sz0
  rw [rounds_succ]
  go_wp2_with fail
  refine (split_next_none w0 _ g v true [] 0 0 0 false HS.out (HC.out.below HB.out) fix_head0 rfl).mono ?_
  rintro e w3 ⟨rfl, hb⟩
  have HS3 := Aside0.mk (HS.out.below hb)
  have HB3 := Aside0.mk (below_step HB.out hb)
  clear HS HB hb
  go_upto_region 7 with fail
  have hb4 : Below w3.heap.size w3 ((w3.alloc (.cells #[.bool false, .int .u8 0, .bool false, .int .u32 0, .slice none 0 0] 31)).alloc (.cells #[.int .u8 0, .int .u32 0] 33)) := below_alloc (below_alloc (Below.refl _ _) _) _
  generalize (w3.alloc (.cells #[.bool false, .int .u8 0, .bool false, .int .u32 0, .slice none 0 0] 31)).alloc (.cells #[.int .u8 0, .int .u32 0] 33) = w4 at hb4 ⊢
  have HS4 := Aside0.mk (HS3.out.below hb4)
  have HB4 := Aside0.mk (below_step HB3.out hb4)
  clear HS3 HB3 hb4
  go_wp2_with fail
  have hbw := bytes_below (Below.refl w4.heap.size w4) (Nat.le_refl _) 5 (fixB.extract 0 1)
  have hC7 : Kd.C (Kd.int .u8) (Lib.bytesWorld w4 5 (fixB.extract 0 1)) (some ⟨w4.heap.size, 0, none⟩) ([129] : List Int).length [129] := by
    have h := bytes_reads w4 5 (fixB.extract 0 1) (by rw [fix_sz0]; decide)
    rw [fix_sz0, fix_by0] at h
    exact Kd.C_of_reads (d := (0 : Int)) (h1 := fun _ => rfl) h
  have hcap : ([129] : List Int).length ≤ grownCap w4 1 0 5 := grownCap_ge _ _ _ _
  refine (split_feed_fit w0 _ g v true [] [129] (some ⟨w4.heap.size, 0, none⟩) _ (HS4.out.below hbw) (below_step HB4.out hbw) hgb hC7 hcap (by decide)).mono ?_
  rintro e w5 ⟨v5, rfl, hs, hb, hsz, hk, ho⟩
  have HS : Aside0 (Sp w0 w5 g v5 true false [129]) := ⟨hs⟩
  have HB := Aside0.mk hb
  clear hs hb hsz hk ho hbw hC7 hcap HS4 HB4 hcv0
  go_wp2
  obtain ⟨v, hv5⟩ : ∃ v, v = v5 := ⟨_, rfl⟩
  rw [← hv5] at HS
  clear hv5
  obtain ⟨w2, hw5⟩ : ∃ w2, w2 = w5 := ⟨_, rfl⟩
  rw [← hw5] at HS HB ⊢
  clear hw5
  have hcv1 : ∀ W : World, (convert 9 22 (.string (fixB.extract 1 2))).run Tryd.prog W = .ok (.slice (some ⟨W.heap.size, 0, none⟩) 1 (grownCap W 1 0 5)) (Lib.bytesWorld W 5 (fixB.extract 1 2)) := fun W => hcv 1 W fix_sz1
  rw [rounds_succ]
  go_wp2_with fail
  refine (split_next_none w0 _ g v true [129] 0 0 0 false HS.out (HC.out.below HB.out) fix_head1 rfl).mono ?_
  rintro e w3 ⟨rfl, hb⟩
  have HS3 := Aside0.mk (HS.out.below hb)
  have HB3 := Aside0.mk (below_step HB.out hb)
  clear HS HB hb
  go_upto_region 7 with fail
  have hb4 : Below w3.heap.size w3 ((w3.alloc (.cells #[.bool false, .int .u8 0, .bool false, .int .u32 0, .slice none 0 0] 31)).alloc (.cells #[.int .u8 0, .int .u32 0] 33)) := below_alloc (below_alloc (Below.refl _ _) _) _
  generalize (w3.alloc (.cells #[.bool false, .int .u8 0, .bool false, .int .u32 0, .slice none 0 0] 31)).alloc (.cells #[.int .u8 0, .int .u32 0] 33) = w4 at hb4 ⊢
  have HS4 := Aside0.mk (HS3.out.below hb4)
  have HB4 := Aside0.mk (below_step HB3.out hb4)
  clear HS3 HB3 hb4
  go_wp2_with fail
  have hbw := bytes_below (Below.refl w4.heap.size w4) (Nat.le_refl _) 5 (fixB.extract 1 2)
  have hC7 : Kd.C (Kd.int .u8) (Lib.bytesWorld w4 5 (fixB.extract 1 2)) (some ⟨w4.heap.size, 0, none⟩) ([130] : List Int).length [130] := by
    have h := bytes_reads w4 5 (fixB.extract 1 2) (by rw [fix_sz1]; decide)
    rw [fix_sz1, fix_by1] at h
    exact Kd.C_of_reads (d := (0 : Int)) (h1 := fun _ => rfl) h
  have hcap : ([130] : List Int).length ≤ grownCap w4 1 0 5 := grownCap_ge _ _ _ _
  refine (split_feed_fit w0 _ g v true [129] [130] (some ⟨w4.heap.size, 0, none⟩) _ (HS4.out.below hbw) (below_step HB4.out hbw) hgb hC7 hcap (by decide)).mono ?_
  rintro e w5 ⟨v5, rfl, hs, hb, hsz, hk, ho⟩
  have HS : Aside0 (Sp w0 w5 g v5 true false [129, 130]) := ⟨hs⟩
  have HB := Aside0.mk hb
  clear hs hb hsz hk ho hbw hC7 hcap HS4 HB4 hcv1
  go_wp2
  obtain ⟨v, hv5⟩ : ∃ v, v = v5 := ⟨_, rfl⟩
  rw [← hv5] at HS
  clear hv5
  obtain ⟨w2, hw5⟩ : ∃ w2, w2 = w5 := ⟨_, rfl⟩
  rw [← hw5] at HS HB ⊢
  clear hw5
  have hcv2 : ∀ W : World, (convert 9 22 (.string (fixB.extract 2 3))).run Tryd.prog W = .ok (.slice (some ⟨W.heap.size, 0, none⟩) 1 (grownCap W 1 0 5)) (Lib.bytesWorld W 5 (fixB.extract 2 3)) := fun W => hcv 2 W fix_sz2
  rw [rounds_succ]
  go_wp2_with fail
  refine (split_next_more w0 _ g v true [129, 130] 8 0 0 true HS.out (HC.out.below HB.out) fix_head2 rfl rfl rfl (by decide)).mono ?_
  rintro e w3 ⟨rfl, hb⟩
  have HS3 := Aside0.mk (HS.out.below hb)
  have HB3 := Aside0.mk (below_step HB.out hb)
  clear HS HB hb
  go_upto_region 7 with fail
  have hb4 : Below w3.heap.size w3 ((w3.alloc (.cells #[.bool false, .int .u8 0, .bool false, .int .u32 0, .slice none 0 0] 31)).alloc (.cells #[.int .u8 0, .int .u32 0] 33)) := below_alloc (below_alloc (Below.refl _ _) _) _
  generalize (w3.alloc (.cells #[.bool false, .int .u8 0, .bool false, .int .u32 0, .slice none 0 0] 31)).alloc (.cells #[.int .u8 0, .int .u32 0] 33) = w4 at hb4 ⊢
  have HS4 := Aside0.mk (HS3.out.below hb4)
  have HB4 := Aside0.mk (below_step HB3.out hb4)
  clear HS3 HB3 hb4
  go_wp2_with fail
  have hbw := bytes_below (Below.refl w4.heap.size w4) (Nat.le_refl _) 5 (fixB.extract 2 3)
  have hC7 : Kd.C (Kd.int .u8) (Lib.bytesWorld w4 5 (fixB.extract 2 3)) (some ⟨w4.heap.size, 0, none⟩) ([0] : List Int).length [0] := by
    have h := bytes_reads w4 5 (fixB.extract 2 3) (by rw [fix_sz2]; decide)
    rw [fix_sz2, fix_by2] at h
    exact Kd.C_of_reads (d := (0 : Int)) (h1 := fun _ => rfl) h
  have hcap : ([0] : List Int).length ≤ grownCap w4 1 0 5 := grownCap_ge _ _ _ _
  refine (split_feed_fit w0 _ g v true [129, 130] [0] (some ⟨w4.heap.size, 0, none⟩) _ (HS4.out.below hbw) (below_step HB4.out hbw) hgb hC7 hcap (by decide)).mono ?_
  rintro e w5 ⟨v5, rfl, hs, hb, hsz, hk, ho⟩
  have HS : Aside0 (Sp w0 w5 g v5 true false [129, 130, 0]) := ⟨hs⟩
  have HB := Aside0.mk hb
  clear hs hb hsz hk ho hbw hC7 hcap HS4 HB4 hcv2
  go_wp2
  obtain ⟨v, hv5⟩ : ∃ v, v = v5 := ⟨_, rfl⟩
  rw [← hv5] at HS
  clear hv5
  obtain ⟨w2, hw5⟩ : ∃ w2, w2 = w5 := ⟨_, rfl⟩
  rw [← hw5] at HS HB ⊢
  clear hw5
  have hcv3 : ∀ W : World, (convert 9 22 (.string (fixB.extract 3 4))).run Tryd.prog W = .ok (.slice (some ⟨W.heap.size, 0, none⟩) 1 (grownCap W 1 0 5)) (Lib.bytesWorld W 5 (fixB.extract 3 4)) := fun W => hcv 3 W fix_sz3
  rw [rounds_succ]
  go_wp2_with fail
  refine (split_next_more w0 _ g v true [129, 130, 0] 8 0 0 true HS.out (HC.out.below HB.out) fix_head3 rfl rfl rfl (by decide)).mono ?_
  rintro e w3 ⟨rfl, hb⟩
  have HS3 := Aside0.mk (HS.out.below hb)
  have HB3 := Aside0.mk (below_step HB.out hb)
  clear HS HB hb
  go_upto_region 7 with fail
  have hb4 : Below w3.heap.size w3 ((w3.alloc (.cells #[.bool false, .int .u8 0, .bool false, .int .u32 0, .slice none 0 0] 31)).alloc (.cells #[.int .u8 0, .int .u32 0] 33)) := below_alloc (below_alloc (Below.refl _ _) _) _
  generalize (w3.alloc (.cells #[.bool false, .int .u8 0, .bool false, .int .u32 0, .slice none 0 0] 31)).alloc (.cells #[.int .u8 0, .int .u32 0] 33) = w4 at hb4 ⊢
  have HS4 := Aside0.mk (HS3.out.below hb4)
  have HB4 := Aside0.mk (below_step HB3.out hb4)
  clear HS3 HB3 hb4
  go_wp2_with fail
  have hbw := bytes_below (Below.refl w4.heap.size w4) (Nat.le_refl _) 5 (fixB.extract 3 4)
  have hC7 : Kd.C (Kd.int .u8) (Lib.bytesWorld w4 5 (fixB.extract 3 4)) (some ⟨w4.heap.size, 0, none⟩) ([0] : List Int).length [0] := by
    have h := bytes_reads w4 5 (fixB.extract 3 4) (by rw [fix_sz3]; decide)
    rw [fix_sz3, fix_by3] at h
    exact Kd.C_of_reads (d := (0 : Int)) (h1 := fun _ => rfl) h
  have hcap : ([0] : List Int).length ≤ grownCap w4 1 0 5 := grownCap_ge _ _ _ _
  refine (split_feed_fit w0 _ g v true [129, 130, 0] [0] (some ⟨w4.heap.size, 0, none⟩) _ (HS4.out.below hbw) (below_step HB4.out hbw) hgb hC7 hcap (by decide)).mono ?_
  rintro e w5 ⟨v5, rfl, hs, hb, hsz, hk, ho⟩
  have HS : Aside0 (Sp w0 w5 g v5 true false [129, 130, 0, 0]) := ⟨hs⟩
  have HB := Aside0.mk hb
  clear hs hb hsz hk ho hbw hC7 hcap HS4 HB4 hcv3
  go_wp2
  obtain ⟨v, hv5⟩ : ∃ v, v = v5 := ⟨_, rfl⟩
  rw [← hv5] at HS
  clear hv5
  obtain ⟨w2, hw5⟩ : ∃ w2, w2 = w5 := ⟨_, rfl⟩
  rw [← hw5] at HS HB ⊢
  clear hw5
  have hcv4 : ∀ W : World, (convert 9 22 (.string (fixB.extract 4 5))).run Tryd.prog W = .ok (.slice (some ⟨W.heap.size, 0, none⟩) 1 (grownCap W 1 0 5)) (Lib.bytesWorld W 5 (fixB.extract 4 5)) := fun W => hcv 4 W fix_sz4
  rw [rounds_succ]
  go_wp2_with fail
  refine (split_next_more w0 _ g v true [129, 130, 0, 0] 8 0 0 true HS.out (HC.out.below HB.out) fix_head4 rfl rfl rfl (by decide)).mono ?_
  rintro e w3 ⟨rfl, hb⟩
  have HS3 := Aside0.mk (HS.out.below hb)
  have HB3 := Aside0.mk (below_step HB.out hb)
  clear HS HB hb
  go_upto_region 7 with fail
  have hb4 : Below w3.heap.size w3 ((w3.alloc (.cells #[.bool false, .int .u8 0, .bool false, .int .u32 0, .slice none 0 0] 31)).alloc (.cells #[.int .u8 0, .int .u32 0] 33)) := below_alloc (below_alloc (Below.refl _ _) _) _
  generalize (w3.alloc (.cells #[.bool false, .int .u8 0, .bool false, .int .u32 0, .slice none 0 0] 31)).alloc (.cells #[.int .u8 0, .int .u32 0] 33) = w4 at hb4 ⊢
  have HS4 := Aside0.mk (HS3.out.below hb4)
  have HB4 := Aside0.mk (below_step HB3.out hb4)
  clear HS3 HB3 hb4
  go_wp2_with fail
  have hbw := bytes_below (Below.refl w4.heap.size w4) (Nat.le_refl _) 5 (fixB.extract 4 5)
  have hC7 : Kd.C (Kd.int .u8) (Lib.bytesWorld w4 5 (fixB.extract 4 5)) (some ⟨w4.heap.size, 0, none⟩) ([0] : List Int).length [0] := by
    have h := bytes_reads w4 5 (fixB.extract 4 5) (by rw [fix_sz4]; decide)
    rw [fix_sz4, fix_by4] at h
    exact Kd.C_of_reads (d := (0 : Int)) (h1 := fun _ => rfl) h
  have hcap : ([0] : List Int).length ≤ grownCap w4 1 0 5 := grownCap_ge _ _ _ _
  refine (split_feed_fit w0 _ g v true [129, 130, 0, 0] [0] (some ⟨w4.heap.size, 0, none⟩) _ (HS4.out.below hbw) (below_step HB4.out hbw) hgb hC7 hcap (by decide)).mono ?_
  rintro e w5 ⟨v5, rfl, hs, hb, hsz, hk, ho⟩
  have HS : Aside0 (Sp w0 w5 g v5 true false [129, 130, 0, 0, 0]) := ⟨hs⟩
  have HB := Aside0.mk hb
  clear hs hb hsz hk ho hbw hC7 hcap HS4 HB4 hcv4
  go_wp2
  obtain ⟨v, hv5⟩ : ∃ v, v = v5 := ⟨_, rfl⟩
  rw [← hv5] at HS
  clear hv5
  obtain ⟨w2, hw5⟩ : ∃ w2, w2 = w5 := ⟨_, rfl⟩
  rw [← hw5] at HS HB ⊢
  clear hw5
  have hcv5 : ∀ W : World, (convert 9 22 (.string (fixB.extract 5 6))).run Tryd.prog W = .ok (.slice (some ⟨W.heap.size, 0, none⟩) 1 (grownCap W 1 0 5)) (Lib.bytesWorld W 5 (fixB.extract 5 6)) := fun W => hcv 5 W fix_sz5
  rw [rounds_succ]
  go_wp2_with fail
  refine (split_next_more w0 _ g v true [129, 130, 0, 0, 0] 8 0 0 true HS.out (HC.out.below HB.out) fix_head5 rfl rfl rfl (by decide)).mono ?_
  rintro e w3 ⟨rfl, hb⟩
  have HS3 := Aside0.mk (HS.out.below hb)
  have HB3 := Aside0.mk (below_step HB.out hb)
  clear HS HB hb
  go_upto_region 7 with fail
  have hb4 : Below w3.heap.size w3 ((w3.alloc (.cells #[.bool false, .int .u8 0, .bool false, .int .u32 0, .slice none 0 0] 31)).alloc (.cells #[.int .u8 0, .int .u32 0] 33)) := below_alloc (below_alloc (Below.refl _ _) _) _
  generalize (w3.alloc (.cells #[.bool false, .int .u8 0, .bool false, .int .u32 0, .slice none 0 0] 31)).alloc (.cells #[.int .u8 0, .int .u32 0] 33) = w4 at hb4 ⊢
  have HS4 := Aside0.mk (HS3.out.below hb4)
  have HB4 := Aside0.mk (below_step HB3.out hb4)
  clear HS3 HB3 hb4
  go_wp2_with fail
  have hbw := bytes_below (Below.refl w4.heap.size w4) (Nat.le_refl _) 5 (fixB.extract 5 6)
  have hC7 : Kd.C (Kd.int .u8) (Lib.bytesWorld w4 5 (fixB.extract 5 6)) (some ⟨w4.heap.size, 0, none⟩) ([7] : List Int).length [7] := by
    have h := bytes_reads w4 5 (fixB.extract 5 6) (by rw [fix_sz5]; decide)
    rw [fix_sz5, fix_by5] at h
    exact Kd.C_of_reads (d := (0 : Int)) (h1 := fun _ => rfl) h
  have hcap : ([7] : List Int).length ≤ grownCap w4 1 0 5 := grownCap_ge _ _ _ _
  refine (split_feed_fit w0 _ g v true [129, 130, 0, 0, 0] [7] (some ⟨w4.heap.size, 0, none⟩) _ (HS4.out.below hbw) (below_step HB4.out hbw) hgb hC7 hcap (by decide)).mono ?_
  rintro e w5 ⟨v5, rfl, hs, hb, hsz, hk, ho⟩
  have HS : Aside0 (Sp w0 w5 g v5 true false [129, 130, 0, 0, 0, 7]) := ⟨hs⟩
  have HB := Aside0.mk hb
  clear hs hb hsz hk ho hbw hC7 hcap HS4 HB4 hcv5
  go_wp2
  obtain ⟨v, hv5⟩ : ∃ v, v = v5 := ⟨_, rfl⟩
  rw [← hv5] at HS
  clear hv5
  obtain ⟨w2, hw5⟩ : ∃ w2, w2 = w5 := ⟨_, rfl⟩
  rw [← hw5] at HS HB ⊢
  clear hw5
  have hcv6 : ∀ W : World, (convert 9 22 (.string (fixB.extract 6 7))).run Tryd.prog W = .ok (.slice (some ⟨W.heap.size, 0, none⟩) 1 (grownCap W 1 0 5)) (Lib.bytesWorld W 5 (fixB.extract 6 7)) := fun W => hcv 6 W fix_sz6
  rw [rounds_succ]
  go_wp2_with fail
  refine (split_next_more w0 _ g v true [129, 130, 0, 0, 0, 7] 8 0 0 true HS.out (HC.out.below HB.out) fix_head6 rfl rfl rfl (by decide)).mono ?_
  rintro e w3 ⟨rfl, hb⟩
  have HS3 := Aside0.mk (HS.out.below hb)
  have HB3 := Aside0.mk (below_step HB.out hb)
  clear HS HB hb
  go_upto_region 7 with fail
  have hb4 : Below w3.heap.size w3 ((w3.alloc (.cells #[.bool false, .int .u8 0, .bool false, .int .u32 0, .slice none 0 0] 31)).alloc (.cells #[.int .u8 0, .int .u32 0] 33)) := below_alloc (below_alloc (Below.refl _ _) _) _
  generalize (w3.alloc (.cells #[.bool false, .int .u8 0, .bool false, .int .u32 0, .slice none 0 0] 31)).alloc (.cells #[.int .u8 0, .int .u32 0] 33) = w4 at hb4 ⊢
  have HS4 := Aside0.mk (HS3.out.below hb4)
  have HB4 := Aside0.mk (below_step HB3.out hb4)
  clear HS3 HB3 hb4
  go_wp2_with fail
  have hbw := bytes_below (Below.refl w4.heap.size w4) (Nat.le_refl _) 5 (fixB.extract 6 7)
  have hC7 : Kd.C (Kd.int .u8) (Lib.bytesWorld w4 5 (fixB.extract 6 7)) (some ⟨w4.heap.size, 0, none⟩) ([97] : List Int).length [97] := by
    have h := bytes_reads w4 5 (fixB.extract 6 7) (by rw [fix_sz6]; decide)
    rw [fix_sz6, fix_by6] at h
    exact Kd.C_of_reads (d := (0 : Int)) (h1 := fun _ => rfl) h
  have hcap : ([97] : List Int).length ≤ grownCap w4 1 0 5 := grownCap_ge _ _ _ _
  refine (split_feed_fit w0 _ g v true [129, 130, 0, 0, 0, 7] [97] (some ⟨w4.heap.size, 0, none⟩) _ (HS4.out.below hbw) (below_step HB4.out hbw) hgb hC7 hcap (by decide)).mono ?_
  rintro e w5 ⟨v5, rfl, hs, hb, hsz, hk, ho⟩
  have HS : Aside0 (Sp w0 w5 g v5 true false [129, 130, 0, 0, 0, 7, 97]) := ⟨hs⟩
  have HB := Aside0.mk hb
  clear hs hb hsz hk ho hbw hC7 hcap HS4 HB4 hcv6
  go_wp2
  obtain ⟨v, hv5⟩ : ∃ v, v = v5 := ⟨_, rfl⟩
  rw [← hv5] at HS
  clear hv5
  obtain ⟨w2, hw5⟩ : ∃ w2, w2 = w5 := ⟨_, rfl⟩
  rw [← hw5] at HS HB ⊢
  clear hw5
  have hcv7 : ∀ W : World, (convert 9 22 (.string (fixB.extract 7 8))).run Tryd.prog W = .ok (.slice (some ⟨W.heap.size, 0, none⟩) 1 (grownCap W 1 0 5)) (Lib.bytesWorld W 5 (fixB.extract 7 8)) := fun W => hcv 7 W fix_sz7
  rw [rounds_succ]
  go_wp2_with fail
  refine (split_next_more w0 _ g v true [129, 130, 0, 0, 0, 7, 97] 8 0 0 true HS.out (HC.out.below HB.out) fix_head7 rfl rfl rfl (by decide)).mono ?_
  rintro e w3 ⟨rfl, hb⟩
  have HS3 := Aside0.mk (HS.out.below hb)
  have HB3 := Aside0.mk (below_step HB.out hb)
  clear HS HB hb
  go_upto_region 7 with fail
  have hb4 : Below w3.heap.size w3 ((w3.alloc (.cells #[.bool false, .int .u8 0, .bool false, .int .u32 0, .slice none 0 0] 31)).alloc (.cells #[.int .u8 0, .int .u32 0] 33)) := below_alloc (below_alloc (Below.refl _ _) _) _
  generalize (w3.alloc (.cells #[.bool false, .int .u8 0, .bool false, .int .u32 0, .slice none 0 0] 31)).alloc (.cells #[.int .u8 0, .int .u32 0] 33) = w4 at hb4 ⊢
  have HS4 := Aside0.mk (HS3.out.below hb4)
  have HB4 := Aside0.mk (below_step HB3.out hb4)
  clear HS3 HB3 hb4
  go_wp2_with fail
  have hbw := bytes_below (Below.refl w4.heap.size w4) (Nat.le_refl _) 5 (fixB.extract 7 8)
  have hC7 : Kd.C (Kd.int .u8) (Lib.bytesWorld w4 5 (fixB.extract 7 8)) (some ⟨w4.heap.size, 0, none⟩) ([98] : List Int).length [98] := by
    have h := bytes_reads w4 5 (fixB.extract 7 8) (by rw [fix_sz7]; decide)
    rw [fix_sz7, fix_by7] at h
    exact Kd.C_of_reads (d := (0 : Int)) (h1 := fun _ => rfl) h
  have hcap : ([98] : List Int).length ≤ grownCap w4 1 0 5 := grownCap_ge _ _ _ _
  refine (split_feed_fit w0 _ g v true [129, 130, 0, 0, 0, 7, 97] [98] (some ⟨w4.heap.size, 0, none⟩) _ (HS4.out.below hbw) (below_step HB4.out hbw) hgb hC7 hcap (by decide)).mono ?_
  rintro e w5 ⟨v5, rfl, hs, hb, hsz, hk, ho⟩
  have HS : Aside0 (Sp w0 w5 g v5 true false [129, 130, 0, 0, 0, 7, 97, 98]) := ⟨hs⟩
  have HB := Aside0.mk hb
  clear hs hb hsz hk ho hbw hC7 hcap HS4 HB4 hcv7
  go_wp2
  obtain ⟨v, hv5⟩ : ∃ v, v = v5 := ⟨_, rfl⟩
  rw [← hv5] at HS
  clear hv5
  obtain ⟨w2, hw5⟩ : ∃ w2, w2 = w5 := ⟨_, rfl⟩
  rw [← hw5] at HS HB ⊢
  clear hw5
  rw [rounds_succ]
  go_wp2_with fail
  refine (split_next_frame w0 _ g v true [129, 130, 0, 0, 0, 7, 97, 98] [129, 130, 0, 0, 0, 7, 97, 98] [] 40 8 true 1 true 7 [97, 98] 0 0 HS.out HB.out hgb (HC.out.below HB.out) fix_head8 (by decide) (by decide) (by decide) (by decide) fix_get fix_clone).mono ?_
  rintro e w3 ⟨vs, vp, rfl, hs, _, hp, hb, _⟩
  obtain ⟨Ap, cp, rfl⟩ := Kd.R_slice hp
  obtain ⟨As, cs, rfl⟩ := Kd.R_slice hs.row
  go_upto_region 11 with fail
  have hb4 : Below w3.heap.size w3 ((w3.alloc (.cells #[.bool true, .int .u8 1, .bool true, .int .u32 7, .slice Ap 2 cp] 31)).alloc (.cells #[.int .u8 0, .int .u32 0] 33)) := below_alloc (below_alloc (Below.refl _ _) _) _
  have hx0 : ((w3.alloc (.cells #[.bool true, .int .u8 1, .bool true, .int .u32 7, .slice Ap 2 cp] 31)).alloc (.cells #[.int .u8 0, .int .u32 0] 33)).heap[w3.heap.size]? = some (.cells #[.bool true, .int .u8 1, .bool true, .int .u32 7, .slice Ap 2 cp] 31 (0, 0)) := blk_alloc (last_at _ _ _ rfl) _
  have hx1 : ((w3.alloc (.cells #[.bool true, .int .u8 1, .bool true, .int .u32 7, .slice Ap 2 cp] 31)).alloc (.cells #[.int .u8 0, .int .u32 0] 33)).heap[w3.heap.size + 1]? = some (.cells #[.int .u8 0, .int .u32 0] 33 (0, 0)) := last_at _ _ _ (by simp)
  generalize (w3.alloc (.cells #[.bool true, .int .u8 1, .bool true, .int .u32 7, .slice Ap 2 cp] 31)).alloc (.cells #[.int .u8 0, .int .u32 0] 33) = w4 at hb4 hx0 hx1 ⊢
  have HS4 := Aside0.mk (hs.below hb4)
  have HB4 := Aside0.mk (below_step hb hb4)
  have HP4 := Aside0.mk (Kd.R_below hp hb4)
  clear hs hb hp hb4
  have hcs : (convert 22 9 (.slice Ap 2 cp)).run Tryd.prog w4 = .ok (.string (strOfNums [97, 98])) w4 := own_string (P := Tryd.prog) Tryd.underlying22 Tryd.underlying5 Tryd.underlying9 (Kd.own_of_R HP4.out)
  have d4 : w4.cell? ⟨w3.heap.size, 4, none⟩ = some (.slice Ap 2 cp) := (blk_cell hx0 4).trans rfl
  have e0 : w4.cell? ⟨w3.heap.size + 1, 0, none⟩ = some (.int .u8 0) := (blk_cell hx1 0).trans rfl
  have e1 : w4.cell? ⟨w3.heap.size + 1, 1, none⟩ = some (.int .u32 0) := (blk_cell hx1 1).trans rfl
  have fs := fix_same
  go_wp2_with fail
  refine (split_held_any g _ cs As _ ((blk_cell HS4.out.blk 0).trans rfl)).mono ?_
  rintro e w5 ⟨rfl, rfl⟩
  go_wp2
  go_ret
  exact ⟨by first | rfl | simp [fs], HB4.out⟩
end Go.Proofs.YtkhlldhcmgkioaaDoor.PAll
