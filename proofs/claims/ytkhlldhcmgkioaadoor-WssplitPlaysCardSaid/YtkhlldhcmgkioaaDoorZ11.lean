/- What the law's row rests on, part 11. -/
import Derived.Test.YtkhlldhcmgkioaaDoorZ10
import Derived.Lib.SlBytesConst
import Derived.Deep.RegionHeld3
import Derived.Deep.LoopGhost
import Derived.Deep.DeepCutAuto
import Derived.Deep.CutBlock
/- fixed of chapter 17. -/
namespace Go.Proofs.YtkhlldhcmgkioaaDoor.PAll
open Go.RowKit Go.Proofs.YtkhlldhcmgkioaaDoorW.PrintWords Go.Proofs.YtkhlldhcmgkioaaDoorW.PrintLast Go.Proofs.YtkhlldhcmgkioaaDoorW.PrintMore 
set_option linter.unusedVariables false
set_option linter.unusedSimpArgs false
theorem C_marked (W : World) (t : TypeId) (fr : Nat × Nat) (xs : List Int) (hm : xs.length ≤ 9223372036854775807) : (Kd.int .u8).C (W.alloc (.cells (nums .u8 xs).toArray t fr)) (some ⟨W.heap.size, 0, none⟩) xs.length xs := by
  refine Kd.C_of_reads (d := 0) ⟨rfl, hm, fun _ => ⟨_, rfl, fun j hj => ?_⟩⟩
  rw [add_plain, World.cell?_alloc_mark]
  simp [nums, hj]
def fixB : ByteArray := ⟨#[129, 130, 0, 0, 0, 7, 97, 98]⟩
theorem fix_put : louverref16_Put.f 40 true 1 true 7 [97, 98] = some fixB := by decide +kernel
theorem fix_get : wsframe_Get.f 40 [129, 130, 0, 0, 0, 7, 97, 98] true = some (true, 1, true, 7, [97, 98], 0, 0) := by kernel_rfl
theorem fix_clone : bytes_Clone.f [] = some [] := by decide +kernel
theorem fix_same : (strOfNums [97, 98]).toList = [97, 98] := by
  have : ∀ b : ByteArray, b.data.toList = [97, 98] → b.toList = [97, 98] := fun b h => by
    rw [ByteArray.toList_eq, h]
  exact this _ (by decide +kernel)
theorem fix_size : fixB.size = 8 := by decide +kernel
theorem fix_head0 : wsframe_Head.f [] true = some (0, 0, 0, false) := by decide +kernel
theorem fix_head1 : wsframe_Head.f [129] true = some (0, 0, 0, false) := by decide +kernel
theorem fix_head2 : wsframe_Head.f [129, 130] true = some (8, 0, 0, true) := by decide +kernel
theorem fix_head3 : wsframe_Head.f [129, 130, 0] true = some (8, 0, 0, true) := by decide +kernel
theorem fix_head4 : wsframe_Head.f [129, 130, 0, 0] true = some (8, 0, 0, true) := by decide +kernel
theorem fix_head5 : wsframe_Head.f [129, 130, 0, 0, 0] true = some (8, 0, 0, true) := by decide +kernel
theorem fix_head6 : wsframe_Head.f [129, 130, 0, 0, 0, 7] true = some (8, 0, 0, true) := by decide +kernel
theorem fix_head7 : wsframe_Head.f [129, 130, 0, 0, 0, 7, 97] true = some (8, 0, 0, true) := by decide +kernel
theorem fix_head8 : wsframe_Head.f [129, 130, 0, 0, 0, 7, 97, 98] true = some (8, 0, 0, true) := by decide +kernel
theorem fix_sz0 : (fixB.extract 0 1).size = ([129] : List Int).length := by decide +kernel
theorem fix_by0 : bytesOf (fixB.extract 0 1) = [129] := by decide +kernel
theorem fix_sz1 : (fixB.extract 1 2).size = ([130] : List Int).length := by decide +kernel
theorem fix_by1 : bytesOf (fixB.extract 1 2) = [130] := by decide +kernel
theorem fix_sz2 : (fixB.extract 2 3).size = ([0] : List Int).length := by decide +kernel
theorem fix_by2 : bytesOf (fixB.extract 2 3) = [0] := by decide +kernel
theorem fix_sz3 : (fixB.extract 3 4).size = ([0] : List Int).length := by decide +kernel
theorem fix_by3 : bytesOf (fixB.extract 3 4) = [0] := by decide +kernel
theorem fix_sz4 : (fixB.extract 4 5).size = ([0] : List Int).length := by decide +kernel
theorem fix_by4 : bytesOf (fixB.extract 4 5) = [0] := by decide +kernel
theorem fix_sz5 : (fixB.extract 5 6).size = ([7] : List Int).length := by decide +kernel
theorem fix_by5 : bytesOf (fixB.extract 5 6) = [7] := by decide +kernel
theorem fix_sz6 : (fixB.extract 6 7).size = ([97] : List Int).length := by decide +kernel
theorem fix_by6 : bytesOf (fixB.extract 6 7) = [97] := by decide +kernel
theorem fix_sz7 : (fixB.extract 7 8).size = ([98] : List Int).length := by decide +kernel
theorem fix_by7 : bytesOf (fixB.extract 7 8) = [98] := by decide +kernel
set_option maxHeartbeats 8000000 in
set_option maxRecDepth 100000 in
theorem fixed_yes (w0 : World) (hg : Cond w0) : Calls Tryd.prog 7 #[] w0 fun e w' => e = .returned (.bool true) ∧ Below w0.heap.size w0 w' := by
  have kc := fun (w : World) (C : Array Value) (n c : Nat) => Lib.run_convert_bytes_const (P := Tryd.prog) w 22 5 C n c Tryd.underlying22 Tryd.underlying5
  have HC := Aside0.mk hg
  clear hg
  go_enter Tryd.func7, Tryd.ntmps7
  go_wp2_with fail
  refine (split_new true w0 _ (Below.refl _ _)).mono ?_
  rintro e w1 ⟨rfl, hs, hb⟩
  have hgb : w0.heap.size ≤ w0.heap.size := Nat.le_refl _
  have hs := hs
  obtain ⟨g, hgg⟩ : ∃ g, g = w0.heap.size := ⟨_, rfl⟩
  rw [← hgg] at hs ⊢
  have hgb : w0.heap.size ≤ g := by omega
  clear hgg
  have HS := Aside0.mk hs
  have HB := Aside0.mk hb
  clear hs hb
  go_wp2_with fail
  refine (louverref16_Put.calls 40 true 1 true 7 _ _ [97, 98] fixB _ (C_marked w1 5 (2, 3) [97, 98] (by decide)) (Nat.le_refl _) fix_put).mono ?_
  rintro e w2 ⟨rfl, hb⟩
  have hbb := below_step (below_alloc (Below.refl w1.heap.size w1) _) hb
  have HS2 := Aside0.mk (HS.out.below hbb)
  have HB2 := Aside0.mk (below_step HB.out hbb)
  clear HS HB hb hbb
  have HS := HS2
  have HB := HB2
  clear HS2 HB2
  generalize (Value.slice none 0 0) = v at HS
  have fsz := fix_size
  have hcv : ∀ (i : Nat) (W : World), (fixB.extract i (i + 1)).size = 1 → (convert 9 22 (.string (fixB.extract i (i + 1)))).run Tryd.prog W = .ok (.slice (some ⟨W.heap.size, 0, none⟩) 1 (grownCap W 1 0 5)) (Lib.bytesWorld W 5 (fixB.extract i (i + 1))) := fun i W h => by
    have h2 := print_bytes (P := Tryd.prog) 9 22 5 Tryd.underlying9 Tryd.underlying22 Tryd.underlying5 (fixB.extract i (i + 1)) W
    rw [h] at h2
    exact h2
  go_wp2_with fail
  refine wp_loop_rounds 9 ?_
  have hcv0 : ∀ W : World, (convert 9 22 (.string (fixB.extract 0 1))).run Tryd.prog W = .ok (.slice (some ⟨W.heap.size, 0, none⟩) 1 (grownCap W 1 0 5)) (Lib.bytesWorld W 5 (fixB.extract 0 1)) := fun W => hcv 0 W fix_sz0
  rw [rounds_succ]
  go_wp2_with fail
  refine (split_next_none w0 _ g v true [] 0 0 0 false HS.out (HC.out.below HB.out) fix_head0 rfl).mono ?_
  rintro e w3 ⟨rfl, hb⟩
  have HS3 := Aside0.mk (HS.out.below hb)
  have HB3 := Aside0.mk (below_step HB.out hb)
  clear HS HB hb
  go_upto_region 7 with fail
  have hb4 : Below w3.heap.size w3 ((w3.alloc (.cells #[.bool false, .int .u8 0, .bool false, .int .u32 0, .slice none 0 0] 31)).alloc (.cells #[.int .u8 0, .int .u32 0] 33)) := below_alloc (below_alloc (Below.refl _ _) _) _
  generalize (w3.alloc (.cells #[.bool false, .int .u8 0, .bool false, .int .u32 0, .slice none 0 0] 31)).alloc (.cells #[.int .u8 0, .int .u32 0] 33) = w4 at hb4 ⊢
  have HS4 := Aside0.mk (HS3.out.below hb4)
  have HB4 := Aside0.mk (below_step HB3.out hb4)
  clear HS3 HB3 hb4
  go_wp2_with fail
  have hbw := bytes_below (Below.refl w4.heap.size w4) (Nat.le_refl _) 5 (fixB.extract 0 1)
  have hC7 : Kd.C (Kd.int .u8) (Lib.bytesWorld w4 5 (fixB.extract 0 1)) (some ⟨w4.heap.size, 0, none⟩) ([129] : List Int).length [129] := by
    have h := bytes_reads w4 5 (fixB.extract 0 1) (by rw [fix_sz0]; decide)
    rw [fix_sz0, fix_by0] at h
    exact Kd.C_of_reads (d := (0 : Int)) (h1 := fun _ => rfl) h
  have hcap : ([129] : List Int).length ≤ grownCap w4 1 0 5 := grownCap_ge _ _ _ _
  refine (split_feed_fit w0 _ g v true [] [129] (some ⟨w4.heap.size, 0, none⟩) _ (HS4.out.below hbw) (below_step HB4.out hbw) hgb hC7 hcap (by decide)).mono ?_
  rintro e w5 ⟨v5, rfl, hs, hb, hsz, hk, ho⟩
  have HS : Aside0 (Sp w0 w5 g v5 true false [129]) := ⟨hs⟩
  have HB := Aside0.mk hb
  clear hs hb hsz hk ho hbw hC7 hcap HS4 HB4 hcv0
  go_wp2
  obtain ⟨v, hv5⟩ : ∃ v, v = v5 := ⟨_, rfl⟩
  rw [← hv5] at HS
  clear hv5
  obtain ⟨w2, hw5⟩ : ∃ w2, w2 = w5 := ⟨_, rfl⟩
  rw [← hw5] at HS HB ⊢
  clear hw5
  have hcv1 : ∀ W : World, (convert 9 22 (.string (fixB.extract 1 2))).run Tryd.prog W = .ok (.slice (some ⟨W.heap.size, 0, none⟩) 1 (grownCap W 1 0 5)) (Lib.bytesWorld W 5 (fixB.extract 1 2)) := fun W => hcv 1 W fix_sz1
  rw [rounds_succ]
  go_wp2_with fail
  refine (split_next_none w0 _ g v true [129] 0 0 0 false HS.out (HC.out.below HB.out) fix_head1 rfl).mono ?_
  rintro e w3 ⟨rfl, hb⟩
  have HS3 := Aside0.mk (HS.out.below hb)
  have HB3 := Aside0.mk (below_step HB.out hb)
  clear HS HB hb
  go_upto_region 7 with fail
  have hb4 : Below w3.heap.size w3 ((w3.alloc (.cells #[.bool false, .int .u8 0, .bool false, .int .u32 0, .slice none 0 0] 31)).alloc (.cells #[.int .u8 0, .int .u32 0] 33)) := below_alloc (below_alloc (Below.refl _ _) _) _
  generalize (w3.alloc (.cells #[.bool false, .int .u8 0, .bool false, .int .u32 0, .slice none 0 0] 31)).alloc (.cells #[.int .u8 0, .int .u32 0] 33) = w4 at hb4 ⊢
  have HS4 := Aside0.mk (HS3.out.below hb4)
  have HB4 := Aside0.mk (below_step HB3.out hb4)
  clear HS3 HB3 hb4
  go_wp2_with fail
  have hbw := bytes_below (Below.refl w4.heap.size w4) (Nat.le_refl _) 5 (fixB.extract 1 2)
  have hC7 : Kd.C (Kd.int .u8) (Lib.bytesWorld w4 5 (fixB.extract 1 2)) (some ⟨w4.heap.size, 0, none⟩) ([130] : List Int).length [130] := by
    have h := bytes_reads w4 5 (fixB.extract 1 2) (by rw [fix_sz1]; decide)
    rw [fix_sz1, fix_by1] at h
    exact Kd.C_of_reads (d := (0 : Int)) (h1 := fun _ => rfl) h
  have hcap : ([130] : List Int).length ≤ grownCap w4 1 0 5 := grownCap_ge _ _ _ _
  refine (split_feed_fit w0 _ g v true [129] [130] (some ⟨w4.heap.size, 0, none⟩) _ (HS4.out.below hbw) (below_step HB4.out hbw) hgb hC7 hcap (by decide)).mono ?_
  rintro e w5 ⟨v5, rfl, hs, hb, hsz, hk, ho⟩
  have HS : Aside0 (Sp w0 w5 g v5 true false [129, 130]) := ⟨hs⟩
  have HB := Aside0.mk hb
  clear hs hb hsz hk ho hbw hC7 hcap HS4 HB4 hcv1
  go_wp2
  obtain ⟨v, hv5⟩ : ∃ v, v = v5 := ⟨_, rfl⟩
  rw [← hv5] at HS
  clear hv5
  obtain ⟨w2, hw5⟩ : ∃ w2, w2 = w5 := ⟨_, rfl⟩
  rw [← hw5] at HS HB ⊢
  clear hw5
  have hcv2 : ∀ W : World, (convert 9 22 (.string (fixB.extract 2 3))).run Tryd.prog W = .ok (.slice (some ⟨W.heap.size, 0, none⟩) 1 (grownCap W 1 0 5)) (Lib.bytesWorld W 5 (fixB.extract 2 3)) := fun W => hcv 2 W fix_sz2
  rw [rounds_succ]
  go_wp2_with fail
  refine (split_next_more w0 _ g v true [129, 130] 8 0 0 true HS.out (HC.out.below HB.out) fix_head2 rfl rfl rfl (by decide)).mono ?_
  rintro e w3 ⟨rfl, hb⟩
  have HS3 := Aside0.mk (HS.out.below hb)
  have HB3 := Aside0.mk (below_step HB.out hb)
  clear HS HB hb
  go_upto_region 7 with fail
  have hb4 : Below w3.heap.size w3 ((w3.alloc (.cells #[.bool false, .int .u8 0, .bool false, .int .u32 0, .slice none 0 0] 31)).alloc (.cells #[.int .u8 0, .int .u32 0] 33)) := below_alloc (below_alloc (Below.refl _ _) _) _
  generalize (w3.alloc (.cells #[.bool false, .int .u8 0, .bool false, .int .u32 0, .slice none 0 0] 31)).alloc (.cells #[.int .u8 0, .int .u32 0] 33) = w4 at hb4 ⊢
  have HS4 := Aside0.mk (HS3.out.below hb4)
  have HB4 := Aside0.mk (below_step HB3.out hb4)
  clear HS3 HB3 hb4
  go_wp2_with fail
  have hbw := bytes_below (Below.refl w4.heap.size w4) (Nat.le_refl _) 5 (fixB.extract 2 3)
  have hC7 : Kd.C (Kd.int .u8) (Lib.bytesWorld w4 5 (fixB.extract 2 3)) (some ⟨w4.heap.size, 0, none⟩) ([0] : List Int).length [0] := by
    have h := bytes_reads w4 5 (fixB.extract 2 3) (by rw [fix_sz2]; decide)
    rw [fix_sz2, fix_by2] at h
    exact Kd.C_of_reads (d := (0 : Int)) (h1 := fun _ => rfl) h
  have hcap : ([0] : List Int).length ≤ grownCap w4 1 0 5 := grownCap_ge _ _ _ _
  refine (split_feed_fit w0 _ g v true [129, 130] [0] (some ⟨w4.heap.size, 0, none⟩) _ (HS4.out.below hbw) (below_step HB4.out hbw) hgb hC7 hcap (by decide)).mono ?_
  rintro e w5 ⟨v5, rfl, hs, hb, hsz, hk, ho⟩
  have HS : Aside0 (Sp w0 w5 g v5 true false [129, 130, 0]) := ⟨hs⟩
  have HB := Aside0.mk hb
  clear hs hb hsz hk ho hbw hC7 hcap HS4 HB4 hcv2
  go_wp2
  obtain ⟨v, hv5⟩ : ∃ v, v = v5 := ⟨_, rfl⟩
  rw [← hv5] at HS
  clear hv5
  obtain ⟨w2, hw5⟩ : ∃ w2, w2 = w5 := ⟨_, rfl⟩
  rw [← hw5] at HS HB ⊢
  clear hw5
  have hcv3 : ∀ W : World, (convert 9 22 (.string (fixB.extract 3 4))).run Tryd.prog W = .ok (.slice (some ⟨W.heap.size, 0, none⟩) 1 (grownCap W 1 0 5)) (Lib.bytesWorld W 5 (fixB.extract 3 4)) := fun W => hcv 3 W fix_sz3
  rw [rounds_succ]
  go_wp2_with fail
  refine (split_next_more w0 _ g v true [129, 130, 0] 8 0 0 true HS.out (HC.out.below HB.out) fix_head3 rfl rfl rfl (by decide)).mono ?_
  rintro e w3 ⟨rfl, hb⟩
  have HS3 := Aside0.mk (HS.out.below hb)
  have HB3 := Aside0.mk (below_step HB.out hb)
  clear HS HB hb
  go_upto_region 7 with fail
  have hb4 : Below w3.heap.size w3 ((w3.alloc (.cells #[.bool false, .int .u8 0, .bool false, .int .u32 0, .slice none 0 0] 31)).alloc (.cells #[.int .u8 0, .int .u32 0] 33)) := below_alloc (below_alloc (Below.refl _ _) _) _
  generalize (w3.alloc (.cells #[.bool false, .int .u8 0, .bool false, .int .u32 0, .slice none 0 0] 31)).alloc (.cells #[.int .u8 0, .int .u32 0] 33) = w4 at hb4 ⊢
  have HS4 := Aside0.mk (HS3.out.below hb4)
  have HB4 := Aside0.mk (below_step HB3.out hb4)
  clear HS3 HB3 hb4
  go_wp2_with fail
  have hbw := bytes_below (Below.refl w4.heap.size w4) (Nat.le_refl _) 5 (fixB.extract 3 4)
  have hC7 : Kd.C (Kd.int .u8) (Lib.bytesWorld w4 5 (fixB.extract 3 4)) (some ⟨w4.heap.size, 0, none⟩) ([0] : List Int).length [0] := by
    have h := bytes_reads w4 5 (fixB.extract 3 4) (by rw [fix_sz3]; decide)
    rw [fix_sz3, fix_by3] at h
    exact Kd.C_of_reads (d := (0 : Int)) (h1 := fun _ => rfl) h
  have hcap : ([0] : List Int).length ≤ grownCap w4 1 0 5 := grownCap_ge _ _ _ _
  refine (split_feed_fit w0 _ g v true [129, 130, 0] [0] (some ⟨w4.heap.size, 0, none⟩) _ (HS4.out.below hbw) (below_step HB4.out hbw) hgb hC7 hcap (by decide)).mono ?_
  rintro e w5 ⟨v5, rfl, hs, hb, hsz, hk, ho⟩
  have HS : Aside0 (Sp w0 w5 g v5 true false [129, 130, 0, 0]) := ⟨hs⟩
  have HB := Aside0.mk hb
  clear hs hb hsz hk ho hbw hC7 hcap HS4 HB4 hcv3
  go_wp2
  obtain ⟨v, hv5⟩ : ∃ v, v = v5 := ⟨_, rfl⟩
  rw [← hv5] at HS
  clear hv5
  obtain ⟨w2, hw5⟩ : ∃ w2, w2 = w5 := ⟨_, rfl⟩
  rw [← hw5] at HS HB ⊢
  clear hw5
  have hcv4 : ∀ W : World, (convert 9 22 (.string (fixB.extract 4 5))).run Tryd.prog W = .ok (.slice (some ⟨W.heap.size, 0, none⟩) 1 (grownCap W 1 0 5)) (Lib.bytesWorld W 5 (fixB.extract 4 5)) := fun W => hcv 4 W fix_sz4
  rw [rounds_succ]
  go_wp2_with fail
  refine (split_next_more w0 _ g v true [129, 130, 0, 0] 8 0 0 true HS.out (HC.out.below HB.out) fix_head4 rfl rfl rfl (by decide)).mono ?_
  rintro e w3 ⟨rfl, hb⟩
  have HS3 := Aside0.mk (HS.out.below hb)
  have HB3 := Aside0.mk (below_step HB.out hb)
  clear HS HB hb
  go_upto_region 7 with fail
  have hb4 : Below w3.heap.size w3 ((w3.alloc (.cells #[.bool false, .int .u8 0, .bool false, .int .u32 0, .slice none 0 0] 31)).alloc (.cells #[.int .u8 0, .int .u32 0] 33)) := below_alloc (below_alloc (Below.refl _ _) _) _
  generalize (w3.alloc (.cells #[.bool false, .int .u8 0, .bool false, .int .u32 0, .slice none 0 0] 31)).alloc (.cells #[.int .u8 0, .int .u32 0] 33) = w4 at hb4 ⊢
  have HS4 := Aside0.mk (HS3.out.below hb4)
  have HB4 := Aside0.mk (below_step HB3.out hb4)
  clear HS3 HB3 hb4
  go_wp2_with fail
  have hbw := bytes_below (Below.refl w4.heap.size w4) (Nat.le_refl _) 5 (fixB.extract 4 5)
  have hC7 : Kd.C (Kd.int .u8) (Lib.bytesWorld w4 5 (fixB.extract 4 5)) (some ⟨w4.heap.size, 0, none⟩) ([0] : List Int).length [0] := by
    have h := bytes_reads w4 5 (fixB.extract 4 5) (by rw [fix_sz4]; decide)
    rw [fix_sz4, fix_by4] at h
    exact Kd.C_of_reads (d := (0 : Int)) (h1 := fun _ => rfl) h
  have hcap : ([0] : List Int).length ≤ grownCap w4 1 0 5 := grownCap_ge _ _ _ _
  refine (split_feed_fit w0 _ g v true [129, 130, 0, 0] [0] (some ⟨w4.heap.size, 0, none⟩) _ (HS4.out.below hbw) (below_step HB4.out hbw) hgb hC7 hcap (by decide)).mono ?_
  rintro e w5 ⟨v5, rfl, hs, hb, hsz, hk, ho⟩
  have HS : Aside0 (Sp w0 w5 g v5 true false [129, 130, 0, 0, 0]) := ⟨hs⟩
  have HB := Aside0.mk hb
  clear hs hb hsz hk ho hbw hC7 hcap HS4 HB4 hcv4
  go_wp2
  obtain ⟨v, hv5⟩ : ∃ v, v = v5 := ⟨_, rfl⟩
  rw [← hv5] at HS
  clear hv5
  obtain ⟨w2, hw5⟩ : ∃ w2, w2 = w5 := ⟨_, rfl⟩
  rw [← hw5] at HS HB ⊢
  clear hw5
  have hcv5 : ∀ W : World, (convert 9 22 (.string (fixB.extract 5 6))).run Tryd.prog W = .ok (.slice (some ⟨W.heap.size, 0, none⟩) 1 (grownCap W 1 0 5)) (Lib.bytesWorld W 5 (fixB.extract 5 6)) := fun W => hcv 5 W fix_sz5
  rw [rounds_succ]
  go_wp2_with fail
  refine (split_next_more w0 _ g v true [129, 130, 0, 0, 0] 8 0 0 true HS.out (HC.out.below HB.out) fix_head5 rfl rfl rfl (by decide)).mono ?_
  rintro e w3 ⟨rfl, hb⟩
  have HS3 := Aside0.mk (HS.out.below hb)
  have HB3 := Aside0.mk (below_step HB.out hb)
  clear HS HB hb
  go_upto_region 7 with fail
  have hb4 : Below w3.heap.size w3 ((w3.alloc (.cells #[.bool false, .int .u8 0, .bool false, .int .u32 0, .slice none 0 0] 31)).alloc (.cells #[.int .u8 0, .int .u32 0] 33)) := below_alloc (below_alloc (Below.refl _ _) _) _
  generalize (w3.alloc (.cells #[.bool false, .int .u8 0, .bool false, .int .u32 0, .slice none 0 0] 31)).alloc (.cells #[.int .u8 0, .int .u32 0] 33) = w4 at hb4 ⊢
  have HS4 := Aside0.mk (HS3.out.below hb4)
  have HB4 := Aside0.mk (below_step HB3.out hb4)
  clear HS3 HB3 hb4
  go_wp2_with fail
  have hbw := bytes_below (Below.refl w4.heap.size w4) (Nat.le_refl _) 5 (fixB.extract 5 6)
  have hC7 : Kd.C (Kd.int .u8) (Lib.bytesWorld w4 5 (fixB.extract 5 6)) (some ⟨w4.heap.size, 0, none⟩) ([7] : List Int).length [7] := by
    have h := bytes_reads w4 5 (fixB.extract 5 6) (by rw [fix_sz5]; decide)
    rw [fix_sz5, fix_by5] at h
    exact Kd.C_of_reads (d := (0 : Int)) (h1 := fun _ => rfl) h
  have hcap : ([7] : List Int).length ≤ grownCap w4 1 0 5 := grownCap_ge _ _ _ _
  refine (split_feed_fit w0 _ g v true [129, 130, 0, 0, 0] [7] (some ⟨w4.heap.size, 0, none⟩) _ (HS4.out.below hbw) (below_step HB4.out hbw) hgb hC7 hcap (by decide)).mono ?_
  rintro e w5 ⟨v5, rfl, hs, hb, hsz, hk, ho⟩
  have HS : Aside0 (Sp w0 w5 g v5 true false [129, 130, 0, 0, 0, 7]) := ⟨hs⟩
  have HB := Aside0.mk hb
  clear hs hb hsz hk ho hbw hC7 hcap HS4 HB4 hcv5
  go_wp2
  obtain ⟨v, hv5⟩ : ∃ v, v = v5 := ⟨_, rfl⟩
  rw [← hv5] at HS
  clear hv5
  obtain ⟨w2, hw5⟩ : ∃ w2, w2 = w5 := ⟨_, rfl⟩
  rw [← hw5] at HS HB ⊢
  clear hw5
  have hcv6 : ∀ W : World, (convert 9 22 (.string (fixB.extract 6 7))).run Tryd.prog W = .ok (.slice (some ⟨W.heap.size, 0, none⟩) 1 (grownCap W 1 0 5)) (Lib.bytesWorld W 5 (fixB.extract 6 7)) := fun W => hcv 6 W fix_sz6
  rw [rounds_succ]
  go_wp2_with fail
  refine (split_next_more w0 _ g v true [129, 130, 0, 0, 0, 7] 8 0 0 true HS.out (HC.out.below HB.out) fix_head6 rfl rfl rfl (by decide)).mono ?_
  rintro e w3 ⟨rfl, hb⟩
  have HS3 := Aside0.mk (HS.out.below hb)
  have HB3 := Aside0.mk (below_step HB.out hb)
  clear HS HB hb
  go_upto_region 7 with fail
  have hb4 : Below w3.heap.size w3 ((w3.alloc (.cells #[.bool false, .int .u8 0, .bool false, .int .u32 0, .slice none 0 0] 31)).alloc (.cells #[.int .u8 0, .int .u32 0] 33)) := below_alloc (below_alloc (Below.refl _ _) _) _
  generalize (w3.alloc (.cells #[.bool false, .int .u8 0, .bool false, .int .u32 0, .slice none 0 0] 31)).alloc (.cells #[.int .u8 0, .int .u32 0] 33) = w4 at hb4 ⊢
  have HS4 := Aside0.mk (HS3.out.below hb4)
  have HB4 := Aside0.mk (below_step HB3.out hb4)
  clear HS3 HB3 hb4
  go_wp2_with fail
  have hbw := bytes_below (Below.refl w4.heap.size w4) (Nat.le_refl _) 5 (fixB.extract 6 7)
  have hC7 : Kd.C (Kd.int .u8) (Lib.bytesWorld w4 5 (fixB.extract 6 7)) (some ⟨w4.heap.size, 0, none⟩) ([97] : List Int).length [97] := by
    have h := bytes_reads w4 5 (fixB.extract 6 7) (by rw [fix_sz6]; decide)
    rw [fix_sz6, fix_by6] at h
    exact Kd.C_of_reads (d := (0 : Int)) (h1 := fun _ => rfl) h
  have hcap : ([97] : List Int).length ≤ grownCap w4 1 0 5 := grownCap_ge _ _ _ _
  refine (split_feed_fit w0 _ g v true [129, 130, 0, 0, 0, 7] [97] (some ⟨w4.heap.size, 0, none⟩) _ (HS4.out.below hbw) (below_step HB4.out hbw) hgb hC7 hcap (by decide)).mono ?_
  rintro e w5 ⟨v5, rfl, hs, hb, hsz, hk, ho⟩
  have HS : Aside0 (Sp w0 w5 g v5 true false [129, 130, 0, 0, 0, 7, 97]) := ⟨hs⟩
  have HB := Aside0.mk hb
  clear hs hb hsz hk ho hbw hC7 hcap HS4 HB4 hcv6
  go_wp2
  obtain ⟨v, hv5⟩ : ∃ v, v = v5 := ⟨_, rfl⟩
  rw [← hv5] at HS
  clear hv5
  obtain ⟨w2, hw5⟩ : ∃ w2, w2 = w5 := ⟨_, rfl⟩
  rw [← hw5] at HS HB ⊢
  clear hw5
  have hcv7 : ∀ W : World, (convert 9 22 (.string (fixB.extract 7 8))).run Tryd.prog W = .ok (.slice (some ⟨W.heap.size, 0, none⟩) 1 (grownCap W 1 0 5)) (Lib.bytesWorld W 5 (fixB.extract 7 8)) := fun W => hcv 7 W fix_sz7
  rw [rounds_succ]
  go_wp2_with fail
  refine (split_next_more w0 _ g v true [129, 130, 0, 0, 0, 7, 97] 8 0 0 true HS.out (HC.out.below HB.out) fix_head7 rfl rfl rfl (by decide)).mono ?_
  rintro e w3 ⟨rfl, hb⟩
  have HS3 := Aside0.mk (HS.out.below hb)
  have HB3 := Aside0.mk (below_step HB.out hb)
  clear HS HB hb
  go_upto_region 7 with fail
  have hb4 : Below w3.heap.size w3 ((w3.alloc (.cells #[.bool false, .int .u8 0, .bool false, .int .u32 0, .slice none 0 0] 31)).alloc (.cells #[.int .u8 0, .int .u32 0] 33)) := below_alloc (below_alloc (Below.refl _ _) _) _
  generalize (w3.alloc (.cells #[.bool false, .int .u8 0, .bool false, .int .u32 0, .slice none 0 0] 31)).alloc (.cells #[.int .u8 0, .int .u32 0] 33) = w4 at hb4 ⊢
  have HS4 := Aside0.mk (HS3.out.below hb4)
  have HB4 := Aside0.mk (below_step HB3.out hb4)
  clear HS3 HB3 hb4
  go_wp2_with fail
  have hbw := bytes_below (Below.refl w4.heap.size w4) (Nat.le_refl _) 5 (fixB.extract 7 8)
  have hC7 : Kd.C (Kd.int .u8) (Lib.bytesWorld w4 5 (fixB.extract 7 8)) (some ⟨w4.heap.size, 0, none⟩) ([98] : List Int).length [98] := by
    have h := bytes_reads w4 5 (fixB.extract 7 8) (by rw [fix_sz7]; decide)
    rw [fix_sz7, fix_by7] at h
    exact Kd.C_of_reads (d := (0 : Int)) (h1 := fun _ => rfl) h
  have hcap : ([98] : List Int).length ≤ grownCap w4 1 0 5 := grownCap_ge _ _ _ _
  refine (split_feed_fit w0 _ g v true [129, 130, 0, 0, 0, 7, 97] [98] (some ⟨w4.heap.size, 0, none⟩) _ (HS4.out.below hbw) (below_step HB4.out hbw) hgb hC7 hcap (by decide)).mono ?_
  rintro e w5 ⟨v5, rfl, hs, hb, hsz, hk, ho⟩
  have HS : Aside0 (Sp w0 w5 g v5 true false [129, 130, 0, 0, 0, 7, 97, 98]) := ⟨hs⟩
  have HB := Aside0.mk hb
  clear hs hb hsz hk ho hbw hC7 hcap HS4 HB4 hcv7
  go_wp2
  obtain ⟨v, hv5⟩ : ∃ v, v = v5 := ⟨_, rfl⟩
  rw [← hv5] at HS
  clear hv5
  obtain ⟨w2, hw5⟩ : ∃ w2, w2 = w5 := ⟨_, rfl⟩
  rw [← hw5] at HS HB ⊢
  clear hw5
  rw [rounds_succ]
  go_wp2_with fail
  refine (split_next_frame w0 _ g v true [129, 130, 0, 0, 0, 7, 97, 98] [129, 130, 0, 0, 0, 7, 97, 98] [] 40 8 true 1 true 7 [97, 98] 0 0 HS.out HB.out hgb (HC.out.below HB.out) fix_head8 (by decide) (by decide) (by decide) (by decide) fix_get fix_clone).mono ?_
  rintro e w3 ⟨vs, vp, rfl, hs, _, hp, hb, _⟩
  obtain ⟨Ap, cp, rfl⟩ := Kd.R_slice hp
  obtain ⟨As, cs, rfl⟩ := Kd.R_slice hs.row
  go_upto_region 11 with fail
  have hb4 : Below w3.heap.size w3 ((w3.alloc (.cells #[.bool true, .int .u8 1, .bool true, .int .u32 7, .slice Ap 2 cp] 31)).alloc (.cells #[.int .u8 0, .int .u32 0] 33)) := below_alloc (below_alloc (Below.refl _ _) _) _
  have hx0 : ((w3.alloc (.cells #[.bool true, .int .u8 1, .bool true, .int .u32 7, .slice Ap 2 cp] 31)).alloc (.cells #[.int .u8 0, .int .u32 0] 33)).heap[w3.heap.size]? = some (.cells #[.bool true, .int .u8 1, .bool true, .int .u32 7, .slice Ap 2 cp] 31 (0, 0)) := blk_alloc (last_at _ _ _ rfl) _
  have hx1 : ((w3.alloc (.cells #[.bool true, .int .u8 1, .bool true, .int .u32 7, .slice Ap 2 cp] 31)).alloc (.cells #[.int .u8 0, .int .u32 0] 33)).heap[w3.heap.size + 1]? = some (.cells #[.int .u8 0, .int .u32 0] 33 (0, 0)) := last_at _ _ _ (by simp)
  generalize (w3.alloc (.cells #[.bool true, .int .u8 1, .bool true, .int .u32 7, .slice Ap 2 cp] 31)).alloc (.cells #[.int .u8 0, .int .u32 0] 33) = w4 at hb4 hx0 hx1 ⊢
  have HS4 := Aside0.mk (hs.below hb4)
  have HB4 := Aside0.mk (below_step hb hb4)
  have HP4 := Aside0.mk (Kd.R_below hp hb4)
  clear hs hb hp hb4
  have hcs : (convert 22 9 (.slice Ap 2 cp)).run Tryd.prog w4 = .ok (.string (strOfNums [97, 98])) w4 := own_string (P := Tryd.prog) Tryd.underlying22 Tryd.underlying5 Tryd.underlying9 (Kd.own_of_R HP4.out)
  have d4 : w4.cell? ⟨w3.heap.size, 4, none⟩ = some (.slice Ap 2 cp) := (blk_cell hx0 4).trans rfl
  have e0 : w4.cell? ⟨w3.heap.size + 1, 0, none⟩ = some (.int .u8 0) := (blk_cell hx1 0).trans rfl
  have e1 : w4.cell? ⟨w3.heap.size + 1, 1, none⟩ = some (.int .u32 0) := (blk_cell hx1 1).trans rfl
  have fs := fix_same
  go_wp2_with fail
  refine (split_held_any g _ cs As _ ((blk_cell HS4.out.blk 0).trans rfl)).mono ?_
  rintro e w5 ⟨rfl, rfl⟩
  go_wp2
  go_ret
  exact ⟨by first | rfl | simp [fs], HB4.out⟩
end Go.Proofs.YtkhlldhcmgkioaaDoor.PAll

/- What stands in the loops of chapter 17's laws. -/
namespace Go.Proofs.YtkhlldhcmgkioaaDoor
open Go.RowKit Go.Proofs.YtkhlldhcmgkioaaDoorW.PrintWords Go.Proofs.YtkhlldhcmgkioaaDoorW.PrintLast Go.Proofs.YtkhlldhcmgkioaaDoorW.PrintMore Go.Proofs.YtkhlldhcmgkioaaDoor.PAll
set_option linter.unusedVariables false
theorem wf8 {x : Int} (h : (Lit.int .u8 x).wf = true) : 0 ≤ x ∧ x ≤ 255 := by simpa [Lit.wf, IntKind.min, IntKind.max, IntKind.signed, IntKind.bits] using h
theorem wf_bytes {l : List Int} (h : ∀ x ∈ l, (Lit.int .u8 x).wf = true) : l.all isByte = true := by
  rw [List.all_eq_true]
  exact fun x hx => isByte_iff.2 (wf8 (h x hx))
theorem cut_left (A : Option Addr) (c k : Nat) (lx : List Int) (hk : k ≤ lx.length) (hc : lx.length ≤ c) : ∃ A' c', (∀ W : World, (Instr.slice 22 (.slice A lx.length c) (some (.int .i64 (k : Int))) none none).run Tryd.prog W = .ok (.slice A' (lx.drop k).length c') W) ∧ (∀ W, Kd.C (Kd.int .u8) W A lx.length lx → Kd.C (Kd.int .u8) W A' (lx.drop k).length (lx.drop k)) ∧ (lx.drop k).length ≤ c' := by
  have hd : (Tryd.prog.info? 5).map (fun i => i.size) = some 1 := by kernel_rfl
  obtain ⟨i_, hi_⟩ : ∃ i, Tryd.prog.info? 5 = some i := by
    have h : (Tryd.prog.info? 5).isSome = true := by kernel_rfl
    exact Option.isSome_iff_exists.1 h
  have hsz_ : i_.size = 1 := by
    rw [hi_] at hd
    exact Option.some.inj hd
  obtain ⟨A', h1, h2, h3⟩ := print_cut_int (P := Tryd.prog) (k := .u8) 22 5 Tryd.underlying22 hi_ hsz_ A c lx (k : Int) (by omega) (by omega) hc
  rw [Int.toNat_natCast] at h1 h2 h3
  exact ⟨A', _, h1, fun W h => Kd.C_of_reads (d := (0 : Int)) (h1 := fun _ => rfl) (h2 W (Kd.reads_of_C h)), h3⟩
/-- The frames told so far, and the fault. -/
def Inv (x0 : List Int) (m : Bool) (l lx : List Int) (got : List Pc) (bad : Bool) (cd : Int) : Prop :=
  (bad = false ∧ cd = 0 ∧ ∀ ps c r, AllP m (l ++ lx) ps c r → AllP m x0 (got ++ ps) c r) ∨ (bad = true ∧ cd ≠ 0 ∧ l = [] ∧ AllP m x0 got cd [])
/-- Nothing more is told. -/
def Idle (m : Bool) (l : List Int) (bad : Bool) : Prop := bad = false → code1 l m = 0 ∧ ¬ IsFr l m
theorem none_nil (m : Bool) : code1 [] m = 0 ∧ ¬ IsFr [] m := by
  have h : headF [] m = (0, 0, true, 0) := by unfold headF; rfl
  refine ⟨by unfold code1; rw [h], fun hf => ?_⟩
  have := hf.told
  rw [h] at this
  cases this
theorem wrap_code {l : List Int} (hl : l.all isByte = true) (m : Bool) : wrap64 (code1 l m) = code1 l m := by
  have := headF_bounds hl m
  unfold code1 wrap64
  omega
structure In (x0 : List Int) (m : Bool) (w wr : World) (g : Nat) (l lx : List Int) (v gv : Value) (got : List Pc) (bad : Bool) (cd : Int) : Prop where
  wp : Wp w wr g m bad l v gv got
  len : l.length ≤ 4110
  byte : l.all isByte = true
  inv : Inv x0 m l lx got bad cd
  room : got.length + l.length + lx.length ≤ x0.length
theorem In.below {x0 : List Int} {m : Bool} {w wr W : World} {g : Nat} {l lx : List Int} {v gv : Value} {got : List Pc} {bad : Bool} {cd : Int} (h : In x0 m w wr g l lx v gv got bad cd) (hb : Below wr.heap.size wr W) : In x0 m w W g l lx v gv got bad cd := ⟨h.wp.below hb, h.len, h.byte, h.inv, h.room⟩
theorem In.nil {x0 : List Int} {m : Bool} {w wr : World} {g : Nat} {l lx : List Int} {v gv : Value} {got : List Pc} {cd : Int} (h : In x0 m w wr g l lx v gv got true cd) : l = [] := by
  rcases h.inv with ⟨h1, _⟩ | ⟨_, _, h1, _⟩
  · cases h1
  · exact h1
theorem In.idle {x0 : List Int} {m : Bool} {w wr : World} {g : Nat} {l lx : List Int} {v gv : Value} {got : List Pc} {cd : Int} (h : In x0 m w wr g l lx v gv got true cd) : Idle m l true := fun e => by cases e
theorem In.zero {x0 : List Int} {m : Bool} {w wr : World} {g : Nat} {l lx : List Int} {v gv : Value} {got : List Pc} {cd : Int} (h : In x0 m w wr g l lx v gv got false cd) : cd = 0 := by
  rcases h.inv with ⟨_, h1, _⟩ | ⟨h1, _⟩
  · exact h1
  · cases h1
/-- Bytes come. -/
theorem In.feed {x0 : List Int} {m : Bool} {w wr W : World} {g k : Nat} {l lx xs : List Int} {v gv : Value} {got : List Pc} {cd : Int} {e : Ending} (h : In x0 m w wr g l lx v gv got false cd) (hx : lx.all isByte = true) (hk : k ≤ lx.length) (hxs : xs.take k = lx.take k) (hl : l.length + k ≤ 4110)
    (hp : FeedPost w g v m (l ++ xs.take k) k wr e W) : ∃ v', e = .returned (.int .i64 (k : Nat)) ∧ In x0 m w W g (l ++ lx.take k) (lx.drop k) v' gv got false cd := by
  obtain ⟨v', he, hw⟩ := h.wp.feed hp
  rw [hxs] at hw
  refine ⟨v', he, hw, by rw [List.length_append, List.length_take]; omega, app_byte h.byte (take_byte hx k), ?_, ?_⟩
  · rcases h.inv with ⟨h1, h2, h3⟩ | ⟨h1, _⟩
    · refine .inl ⟨h1, h2, fun ps c r hp => h3 ps c r ?_⟩
      rwa [List.append_assoc, List.take_append_drop] at hp
    · cases h1
  · have := h.room
    rw [List.length_append, List.length_take, List.length_drop]
    omega
/-- A frame is taken. -/
theorem In.next {x0 : List Int} {m : Bool} {w wr W : World} {g : Nat} {l lx : List Int} {v gv : Value} {got : List Pc} {cd : Int} {p : Pc} {e : Ending} (h : In x0 m w wr g l lx v gv got false cd) (hf : IsFr l m) (hpp : p = pieceOf (l.take (size1 l m)) m) (hp : NextPost w g m (l.drop (size1 l m)) p.f0 p.f1 p.f2 p.f3 p.f4 wr e W) :
    ∃ v' pv, e = .returned (.tuple #[.agg #[.bool p.f0, .int .u8 p.f1, .bool p.f2, .int .u32 p.f3, pv], .agg #[.int .u8 0, .int .u32 0], .bool true]) ∧ Wp w W g m false (l.drop (size1 l m)) v' gv got ∧ Kd.R (Kd.int .u8) 5 W w.heap.size (fun k => some k ≠ v'.ownBlock ∧ some k ≠ gv.ownBlock) pv p.f4 ∧
      (l.drop (size1 l m)).length < l.length ∧ ∀ (V : World) (gv' : Value), Wp w V g m false (l.drop (size1 l m)) v' gv' (got ++ [p]) → In x0 m w V g (l.drop (size1 l m)) lx v' gv' (got ++ [p]) false cd := by
  obtain ⟨v', pv, he, hw, hr⟩ := h.wp.next hp
  have hm := hf.min h.byte
  have hr2 := hf.room
  have hlt : (l.drop (size1 l m)).length < l.length := by rw [List.length_drop]; omega
  refine ⟨v', pv, he, hw, hr, hlt, fun V gv' hV => ⟨hV, by have := h.len; omega, drop_byte h.byte _, ?_, ?_⟩⟩
  · rcases h.inv with ⟨h1, h2, h3⟩ | ⟨h1, _⟩
    · refine .inl ⟨h1, h2, ?_⟩
      rw [hpp]
      exact AllP.app_step hf h3
    · cases h1
  · have := h.room
    rw [List.length_append]
    simp only [List.length_cons, List.length_nil]
    omega
theorem In.nextbad {x0 : List Int} {m : Bool} {w wr W : World} {g : Nat} {l lx : List Int} {v gv : Value} {got : List Pc} {cd : Int} {e : Ending} (h : In x0 m w wr g l lx v gv got false cd) (hc : code1 l m ≠ 0) (hp : NextBad w g m (code1 l m) wr e W) :
    e = .returned (.tuple #[.agg #[.bool false, .int .u8 0, .bool false, .int .u32 0, .slice none 0 0], .agg #[.int .u8 3, .int .u32 (code1 l m)], .bool true]) ∧ In x0 m w W g [] lx (.slice none 0 0) gv got true (code1 l m) ∧ 0 < l.length := by
  obtain ⟨he, hw⟩ := h.wp.nextbad hp
  have hl0 : 0 < l.length := by
    rcases Nat.eq_zero_or_pos l.length with h0 | h0
    · exact absurd (by unfold code1 headF; rw [if_pos h0]) hc
    · exact h0
  refine ⟨he, ⟨hw, by simp, rfl, ?_, ?_⟩, hl0⟩
  · rcases h.inv with ⟨h1, h2, h3⟩ | ⟨h1, _⟩
    · exact .inr ⟨rfl, hc, rfl, AllP.app_bad hc h3⟩
    · cases h1
  · have := h.room
    simp only [List.length_nil]
    omega
/-- At the end. -/
theorem In.ends {x0 : List Int} {m : Bool} {w wr : World} {g : Nat} {l lx : List Int} {v gv : Value} {got : List Pc} {bad : Bool} {cd : Int} (h : In x0 m w wr g l lx v gv got bad cd) (hi : bad = true ∨ (lx = [] ∧ Idle m l bad)) : AllP m x0 got cd l ∧ bad = (cd != 0) := by
  rcases h.inv with ⟨h1, h2, h3⟩ | ⟨h1, h2, h3, h4⟩
  · rcases hi with hi | ⟨rfl, hi⟩
    · rw [h1] at hi; cases hi
    · obtain ⟨h5, h6⟩ := hi h1
      have h7 := h3 [] 0 l (by rw [List.append_nil]; exact .stop h5 h6)
      rw [List.append_nil] at h7
      rw [h2]
      exact ⟨h7, by rw [h1]; rfl⟩
  · rw [h3]
    exact ⟨h4, by rw [h1]; exact (bne_iff_ne.mpr h2).symm⟩
theorem same_one (p : Pc) : louverref16_Same.f p.f0 p.f1 p.f2 p.f3 p.f4 p.f0 p.f1 p.f2 p.f3 p.f4 = some true := by
  unfold louverref16_Same.f
  rw [if_pos (by simp), if_pos rfl, if_pos (by simp), if_pos rfl]
  simp
theorem same_loop (ps : List Pc) (hl : ps.length ≤ 1000000) : ∀ d i k : Nat, i + d = ps.length → d + 1 ≤ k → louverref17_Same.l0 k ps ps (ps.length : Int) (i : Int) = some true := by
  intro d
  induction d with
  | zero =>
    intro i k hi hk
    obtain ⟨k, rfl⟩ : ∃ j, k = j + 1 := ⟨k - 1, by omega⟩
    show (if (i : Int) < (ps.length : Int) then _ else _) = _
    rw [if_neg (by omega)]
  | succ d ih =>
    intro i k hi hk
    obtain ⟨k, rfl⟩ : ∃ j, k = j + 1 := ⟨k - 1, by omega⟩
    show (if (i : Int) < (ps.length : Int) then _ else _) = _
    rw [if_pos (by omega), if_pos (by omega), if_pos (by omega), if_pos (by omega), same_one, Option.bind_some, if_pos rfl, show wrap64 ((i : Int) + 1) = ((i + 1 : Nat) : Int) by unfold wrap64; omega]
    exact ih (i + 1) k (by omega) (by omega)
theorem same_all (ps : List Pc) (hl : ps.length ≤ 1000000) : louverref17_Same.f (ps.length + 1) ps ps = some true := by
  unfold louverref17_Same.f
  rw [if_pos rfl]
  exact same_loop ps hl ps.length 0 _ (by omega) (Nat.le_refl _)
end Go.Proofs.YtkhlldhcmgkioaaDoor

/- However bytes are cut, the frames and the fault are the document's. -/
namespace Go.Proofs.YtkhlldhcmgkioaaDoor
open Go.RowKit Go.Proofs.YtkhlldhcmgkioaaDoorW.PrintWords Go.Proofs.YtkhlldhcmgkioaaDoorW.PrintLast Go.Proofs.YtkhlldhcmgkioaaDoorW.PrintMore Go.Proofs.YtkhlldhcmgkioaaDoor.PAll
set_option linter.unusedVariables false
set_option linter.unusedSimpArgs false
attribute [local go_sem] max2_int min2_int max_two min_two
/-- In the outer loop. -/
def PlaysR (x0 : List Int) (m : Bool) (w : World) (g mu : Nat) (gv code left i : Value) (wr : World) : Prop :=
  ∃ (l lx : List Int) (got : List Pc) (v : Value) (bad : Bool) (cd : Int) (A : Option Addr) (c j : Nat),
    code = .int .i64 cd ∧ left = .slice A lx.length c ∧ i = .int .i64 j ∧ lx.length ≤ c ∧ Kd.C (Kd.int .u8) w A lx.length lx ∧ lx.all isByte = true ∧ In x0 m w wr g l lx v gv got bad cd ∧ (lx = [] → Idle m l bad) ∧ mu = 2 * lx.length + l.length ∧ j + mu ≤ 2 * x0.length
/-- Behind it. -/
def PlaysE (x0 : List Int) (m : Bool) (w : World) (g : Nat) (gv code : Value) (wr : World) : Prop :=
  ∃ (l lx : List Int) (got : List Pc) (v : Value) (bad : Bool) (cd : Int), code = .int .i64 cd ∧ In x0 m w wr g l lx v gv got bad cd ∧ Idle m l bad ∧ AllP m x0 got cd l ∧ bad = (cd != 0)
/-- In the inner loop, and behind it. -/
def PlaysI (x0 : List Int) (m : Bool) (w : World) (g : Nat) (lx : List Int) (l1 mu : Nat) (gv code : Value) (wr : World) : Prop :=
  ∃ (l : List Int) (got : List Pc) (v : Value) (bad : Bool) (cd : Int), code = .int .i64 cd ∧ In x0 m w wr g l lx v gv got bad cd ∧ mu = l.length + (if bad = true then 0 else 1) ∧ l.length ≤ l1
def PlaysJ (x0 : List Int) (m : Bool) (w : World) (g : Nat) (lx : List Int) (l1 : Nat) (cnd : Bool) (gv code : Value) (wr : World) : Prop :=
  ∃ (l : List Int) (got : List Pc) (v : Value) (bad : Bool) (cd : Int), code = .int .i64 cd ∧ In x0 m w wr g l lx v gv got bad cd ∧ l.length ≤ l1 ∧ (cnd = true → Idle m l bad)
set_option maxHeartbeats 16000000 in
set_option maxRecDepth 100000 in
theorem Pure.WssplitPlays : Says.WssplitPlays := by
  intro A0 c0 x0 m A2 c2 x2 x3 w l0 r0 o0 l2 r2 o2 o3 hg
  have hu31 := Tryd.underlying31
  have hu33 := Tryd.underlying33
  have hinfo : (Tryd.prog.info? 31).map (fun i => (i.zero, i.size, i.bytes)) = some (some (.agg #[.bool false, .int .u8 0, .bool false, .int .u32 0, .slice none 0 0]), 5, 32) := by kernel_rfl
  have HI := Aside0.mk hinfo
  have HC := Aside0.mk hg
  have HR0 := Aside0.mk r0
  have HR2 := Aside0.mk r2
  have HY0 := Aside0.mk (wf_bytes o0.1)
  have HY2 := Aside0.mk (wf_bytes o2.1)
  have b3 := wf8 o3
  clear hg r0 r2 hinfo
  by_cases hbig : (x0.length : Int) > 20000 ∨ (x2.length : Int) > 3000
  · go_enter Tryd.func3, Tryd.ntmps3
    rcases Classical.em ((x0.length : Int) > 20000) with h1 | h1
    · have h20 : decide ((x0.length : Int) > 20000) = true := decide_eq_true h1
      go_wp2_with fail
      refine (fixed_yes _ HC.out).mono ?_
      rintro e w3 ⟨rfl, hb⟩
      go_wp2_with fail
      go_ret
      exact ⟨rfl, hb⟩
    · have h20 : decide ((x0.length : Int) > 20000) = false := decide_eq_false h1
      have h30 : decide ((x2.length : Int) > 3000) = true := decide_eq_true (by omega)
      go_wp2_with fail
      refine (fixed_yes _ HC.out).mono ?_
      rintro e w3 ⟨rfl, hb⟩
      go_wp2_with fail
      go_ret
      exact ⟨rfl, hb⟩
  · have h20 : decide ((x0.length : Int) > 20000) = false := decide_eq_false (by omega)
    have h30 : decide ((x2.length : Int) > 3000) = false := decide_eq_false (by omega)
    have hN : Aside0 (x0.length ≤ 20000 ∧ x2.length ≤ 3000) := ⟨by omega, by omega⟩
    clear o0 o2 o3 hbig
    go_enter Tryd.func3, Tryd.ntmps3
    go_wp2_with fail
    refine (split_new m w w (Below.refl _ _)).mono ?_
    rintro e w1 ⟨rfl, hs, hb⟩
    obtain ⟨g, hgg⟩ : ∃ g, g = w.heap.size := ⟨_, rfl⟩
    rw [← hgg] at hs ⊢
    have hW : Aside0 (Wp w w1 g m false [] (.slice none 0 0) (.slice none 0 0) []) := ⟨⟨hs, hb, by omega, Kd.R_nil _ _ _ _ _⟩⟩
    clear hs hb hgg
    go_upto_block 0 with fail
    go_cut [10, 11] (fun gv code wc => PlaysE x0 m w g gv code wc)
    case first =>
      go_wp2_with fail
      go_loopg [10, 11, 12, 13] (2 * x0.length) (fun mu gv code left i wr => PlaysR x0 m w g mu gv code left i wr)
      case atStart => exact ⟨[], x0, [], _, false, 0, A0, c0, 0, rfl, rfl, rfl, l0, HR0.out, HY0.out, ⟨hW.out, by simp, rfl, .inl ⟨rfl, rfl, fun _ _ _ h => h⟩, by simp⟩, fun _ _ => none_nil m, by simp, by simp⟩
      case round =>
        obtain ⟨l, lx, got, v, bad, cd, A, c, j, rfl, rfl, rfl, hlc, hCx, hyx, hIn, hidle, hmu, hj⟩ := hrel
        obtain ⟨Av, cv, rfl⟩ := Kd.R_slice hIn.wp.sp.row
        have HIn := Aside0.mk hIn
        have HCx := Aside0.mk hCx
        have HYx := Aside0.mk hyx
        have HID := Aside0.mk hidle
        have cb := hIn.wp.c2
        clear hIn hCx hyx hidle hW
        by_cases hx0 : lx = []
        · subst hx0
          have HID0 := Aside0.mk (HID.out rfl)
          clear HID
          have hgt : decide ((([] : List Int).length : Int) > 0) = false := by decide
          go_wp2_with fail
          go_meet
          case rel => exact ⟨l, [], got, _, bad, cd, rfl, HIn.out, HID0.out, HIn.out.ends (.inr ⟨rfl, HID0.out⟩)⟩
        · have hpos : 0 < lx.length := List.length_pos_iff.mpr hx0
          have hgt : decide ((lx.length : Int) > 0) = true := decide_eq_true (by omega)
          cases bad with
          | true =>
            go_wp2_with fail
            refine (split_bad_any g true _ cb).mono ?_
            rintro e w2 ⟨rfl, rfl⟩
            go_wp2_with fail
            go_meet
            case rel => exact ⟨l, lx, got, _, true, cd, rfl, HIn.out, HIn.out.idle, HIn.out.ends (.inl rfl)⟩
          | false =>
            go_wp2_with fail
            refine (split_bad_any g false _ cb).mono ?_
            rintro e w2 ⟨rfl, rfl⟩
            go_upto_if 53 with fail
            go_cut [14] (fun v wc => ∃ n : Nat, v = .int .i64 n ∧ 1 ≤ n ∧ n ≤ lx.length ∧ wc = wr)
            case first =>
              by_cases hjl : j < x2.length
              · obtain ⟨ad, rfl, hx⟩ := Kd.at_int (Kd.C_below HR2.out HIn.out.wp.bel) (j : Int) (by omega) (by omega)
                have hb2 := rd_byte HY2.out (j : Int)
                rw [Int.toNat_natCast] at hx
                generalize rd x2 (j : Int) = sz at hx hb2
                go_wp2_with fail
                · go_meet
                  case rel => exact ⟨(1 + sz).toNat, by rw [show (((1 + sz).toNat : Nat) : Int) = 1 + sz by omega], by omega, by omega, rfl⟩
                · go_meet
                  case rel => exact ⟨lx.length, rfl, by omega, Nat.le_refl _, rfl⟩
              · go_wp2_with fail
                go_meet
                case rel => exact ⟨lx.length, rfl, by omega, Nat.le_refl _, rfl⟩
            case rest =>
              obtain ⟨n, rfl, hn1, hn2, rfl⟩ := hcut
              go_wp2_with fail
              refine (split_held_any g l.length cv Av _ HIn.out.wp.c0).mono ?_
              rintro e w2 ⟨rfl, rfl⟩
              have p0 : (0 : Int) ≤ (n : Int) := by omega
              have p1 : (n : Int) ≤ (lx.length : Int) := by omega
              have p2 : (n : Int) ≤ (c : Int) := by omega
              go_wp2_with fail
              obtain ⟨k, hk⟩ : ∃ k, k = min n (4110 - l.length) := ⟨_, rfl⟩
              have hln := HIn.out.len
              have hxs : (lx.take n).length = n := by rw [List.length_take]; omega
              have hF := Feed_any (k := k) HIn.out.wp.sp HIn.out.wp.bel HIn.out.wp.base (Kd.C_below (Kd.C_take HCx.out hn2) HIn.out.wp.bel) (by rw [hxs]; omega : (lx.take n).length ≤ c) hln (by rw [hxs]; exact hk)
              rw [hxs] at hF
              refine hF.mono ?_
              rintro e w3 hp
              obtain ⟨v3, rfl, hIn3⟩ := HIn.out.feed HYx.out (by omega : k ≤ lx.length) (by rw [List.take_take]; congr 1; omega) (by omega) hp
              have hq : (l ++ lx.take k).length = l.length + k := by rw [List.length_append, List.length_take]; omega
              obtain ⟨A3, c3, hcut3, hC3, hc3⟩ := cut_left A c k lx (by omega) hlc
              have hC3 := hC3 _ HCx.out
              have hd3 : (lx.drop k).length = lx.length - k := List.length_drop
              have hY3 := drop_byte HYx.out k
              generalize hl3 : l ++ lx.take k = l3 at hIn3 hq
              generalize hlx3 : lx.drop k = lx3 at hIn3 hC3 hcut3 hc3 hd3 hY3
              have HIn3 := Aside0.mk hIn3
              have HC3 := Aside0.mk hC3
              have HY3 := Aside0.mk hY3
              have HQ := Aside0.mk (And.intro hq hd3)
              have HPR := Aside0.mk (show k = 0 → l.length = 4110 ∧ k < n by omega)
              have hr3 := hIn3.len
              obtain ⟨Av3, cv3, rfl⟩ := Kd.R_slice hIn3.wp.sp.row
              have HJ1 : Aside0 (wrap64 ((j : Int) + 1) = ((j + 1 : Nat) : Int)) := ⟨by have := hN.out.1; unfold wrap64; omega⟩
              have HK := Aside0.mk hk
              have hmu' := Aside0.mk hmu
              have hln' := Aside0.mk hln
              clear hF hp hIn3 hC3 hk HIn HCx HYx HID cb hxs hY3 hq hd3 hl3 hlx3 hmu
              go_upto_region 15 with fail
              go_cut [79] (fun v wc => v = .bool false ∧ wc = w3)
              case first =>
                have hw : IntKind.i64.wrap (4110 - (l.length : Int)) = ((4110 - l.length : Nat) : Int) := by rw [i64_w]; unfold wrap64; omega
                obtain ⟨q4, hq4⟩ : ∃ q4 : Nat, q4 = 4110 - l.length := ⟨_, rfl⟩
                rw [← hq4] at hw
                have c33 := HIn3.out.wp.c0
                by_cases hfit : n ≤ 4110 - l.length
                · have hmn : ¬ q4 < n := by omega
                  obtain rfl : k = n := by have := HK.out; omega
                  clear hln hq4 hfit
                  go_wp2_with fail
                  refine (split_held_any g _ cv3 Av3 _ c33).mono ?_
                  rintro e w4 ⟨rfl, rfl⟩
                  go_wp2_with fail
                  go_meet
                  case rel => exact ⟨congrArg Value.bool (decide_eq_false (by omega)), rfl⟩
                · have hmn : q4 < n := by omega
                  obtain rfl : k = q4 := by have := HK.out; omega
                  clear hln hq4 hfit
                  go_wp2_with fail
                  refine (split_held_any g _ cv3 Av3 _ c33).mono ?_
                  rintro e w4 ⟨rfl, rfl⟩
                  go_wp2_with fail
                  go_meet
                  case rel => exact ⟨congrArg Value.bool (decide_eq_false (by omega)), rfl⟩
              case rest =>
                obtain ⟨rfl, rfl⟩ := hcut
                have hk0 : (0 : Int) ≤ (k : Int) := by omega
                obtain ⟨cnd, hcnd⟩ : ∃ cnd : Bool, cnd = (decide (k < n) || (x3 == 0) || ((j : Int) % x3 == 0) || (lx3.length == 0)) := ⟨_, rfl⟩
                have HCND := Aside0.mk hcnd
                clear hcnd hln
                go_upto_block 2 with fail
                go_cut [10, 11] (fun gv code wc => PlaysJ x0 m w g lx3 l3.length cnd gv code wc)
                case first =>
                  go_wp2_with fail
                  go_loopg [10, 11] (l3.length + 1) (fun mu gv code wr => PlaysI x0 m w g lx3 l3.length mu gv code wr)
                  case atStart => exact ⟨l3, got, _, false, cd, rfl, HIn3.out, rfl, Nat.le_refl _⟩
                  case round =>
                    obtain ⟨l', got', v', bad', cd', rfl, hIn', hmu1, hle'⟩ := hrel
                    have HIn' := Aside0.mk hIn'
                    clear hIn' HIn3 HC3
                    go_upto_region 18 with fail
                    go_cut [101] (fun v wc => v = .bool cnd ∧ wc = wr)
                    case first =>
                      by_cases h1 : k < n
                      · go_wp2_with fail
                        go_meet
                        case rel => exact ⟨by rw [HCND.out]; simp [h1], rfl⟩
                      · by_cases h2 : x3 = 0
                        · have h2b : (x3 == 0) = true := by simp [h2]
                          have H2 := Aside0.mk h2
                          clear h2
                          go_wp2_with fail
                          go_meet
                          case rel => exact ⟨by rw [HCND.out]; simp [H2.out], rfl⟩
                        · have h2b : (x3 == 0) = false := beq_eq_false_iff_ne.mpr h2
                          by_cases h3 : (j : Int) % x3 = 0
                          · have h3b : ((j : Int) % x3 == 0) = true := by simp [h3]
                            go_wp2_with fail
                            go_meet
                            case rel => exact ⟨by rw [HCND.out]; simp [h1, h2, h3], rfl⟩
                          · have h3b : ((j : Int) % x3 == 0) = false := beq_eq_false_iff_ne.mpr h3
                            by_cases h4 : lx3 = []
                            · subst h4
                              go_wp2_with fail
                              go_meet
                              case rel => exact ⟨by rw [HCND.out]; simp, rfl⟩
                            · have h4b : ¬ lx3.length = 0 := fun e => h4 (List.length_eq_zero_iff.mp e)
                              go_wp2_with fail
                              go_meet
                              case rel => exact ⟨congrArg Value.bool (by rw [HCND.out, decide_eq_false h1, h2b, h3b, beq_eq_false_iff_ne.mpr h4b]; exact beq_eq_false_iff_ne.mpr (by omega)), rfl⟩
                    case rest =>
                      obtain ⟨rfl, rfl⟩ := hcut
                      cases cnd with
                      | false =>
                        go_wp2_with fail
                        go_meet
                        case rel => exact ⟨l', got', v', bad', cd', rfl, HIn'.out, hle', fun h => by cases h⟩
                      | true =>
                        cases bad' with
                        | true =>
                          go_wp2_with fail
                          refine (split_next_isbad g _ HIn'.out.wp.c2).mono ?_
                          rintro e w5 ⟨rfl, hb5⟩
                          go_wp2_with fail
                          go_meet
                          case rel => exact ⟨l', got', v', true, cd', rfl, HIn'.out.below (below_alloc (below_alloc hb5 _) _), hle', fun _ => HIn'.out.idle⟩
                        | false =>
                          by_cases hc : code1 l' m = 0
                          · by_cases hf : IsFr l' m
                            · have HIn2 := Aside0.mk hf
                              obtain ⟨p, hpp⟩ : ∃ p : Pc, p = pieceOf (l'.take (size1 l' m)) m := ⟨_, rfl⟩
                              go_wp2_with fail
                              have hln4 := HIn'.out.len
                              refine (Next_frame HIn'.out.wp.sp HIn'.out.wp.bel HIn'.out.wp.base (HC.out.below HIn'.out.wp.bel) HIn'.out.byte hf (by omega) hpp).mono ?_
                              rintro e w5 hnp
                              obtain ⟨v5, pv, rfl, hw5, hr5, hlt5, hput⟩ := HIn'.out.next hf hpp hnp
                              obtain ⟨Ap, cp, rfl⟩ := Kd.R_slice hr5
                              have HLT5 := Aside0.mk hlt5
                              have HPUT := Aside0.mk hput
                              have HW5 := Aside0.mk hw5
                              have HR5 := Aside0.mk hr5
                              have HGL := Aside0.mk (show (got'.length + 1) * 32 ≤ 140737488355328 by have := HIn'.out.room; have := hN.out.1; omega)
                              clear hnp hw5 hr5 hlt5 hput hpp hf hc hln4
                              go_upto_region 20 with fail
                              have hb6 : Below w5.heap.size w5 ((w5.alloc (.cells #[.bool p.f0, .int .u8 p.f1, .bool p.f2, .int .u32 p.f3, .slice Ap p.f4.length cp] 31)).alloc (.cells #[.int .u8 0, .int .u32 0] 33)) := below_alloc (below_alloc (Below.refl _ _) _) _
                              have hx0 : ((w5.alloc (.cells #[.bool p.f0, .int .u8 p.f1, .bool p.f2, .int .u32 p.f3, .slice Ap p.f4.length cp] 31)).alloc (.cells #[.int .u8 0, .int .u32 0] 33)).heap[w5.heap.size]? = some (.cells #[.bool p.f0, .int .u8 p.f1, .bool p.f2, .int .u32 p.f3, .slice Ap p.f4.length cp] 31 (0, 0)) := blk_alloc (last_at _ _ _ rfl) _
                              have hx1 : ((w5.alloc (.cells #[.bool p.f0, .int .u8 p.f1, .bool p.f2, .int .u32 p.f3, .slice Ap p.f4.length cp] 31)).alloc (.cells #[.int .u8 0, .int .u32 0] 33)).heap[w5.heap.size + 1]? = some (.cells #[.int .u8 0, .int .u32 0] 33 (0, 0)) := last_at _ _ _ (by simp)
                              generalize (w5.alloc (.cells #[.bool p.f0, .int .u8 p.f1, .bool p.f2, .int .u32 p.f3, .slice Ap p.f4.length cp] 31)).alloc (.cells #[.int .u8 0, .int .u32 0] 33) = w6 at hb6 hx0 hx1 ⊢
                              have HW6 := Aside0.mk (HW5.out.below hb6)
                              have HR6 := Aside0.mk (Kd.R_below HR5.out hb6)
                              generalize w5.heap.size = gp at hx0 hx1 ⊢
                              have y0 : w6.cell? ⟨gp, 0, none⟩ = some (.bool p.f0) := (blk_cell hx0 0).trans rfl
                              have y1 : w6.cell? ⟨gp, 1, none⟩ = some (.int .u8 p.f1) := (blk_cell hx0 1).trans rfl
                              have y2 : w6.cell? ⟨gp, 2, none⟩ = some (.bool p.f2) := (blk_cell hx0 2).trans rfl
                              have y3 : w6.cell? ⟨gp, 3, none⟩ = some (.int .u32 p.f3) := (blk_cell hx0 3).trans rfl
                              have y4 : w6.cell? ⟨gp, 4, none⟩ = some (.slice Ap p.f4.length cp) := (blk_cell hx0 4).trans rfl
                              have z0 : w6.cell? ⟨gp + 1, 0, none⟩ = some (.int .u8 0) := (blk_cell hx1 0).trans rfl
                              have z1 : w6.cell? ⟨gp + 1, 1, none⟩ = some (.int .u32 0) := (blk_cell hx1 1).trans rfl
                              clear hb6 hx0 hx1 HW5 HR5 HIn'
                              go_wp2_with (at_builtin; refine Kd.R_append k31 (w0 := w) w.heap.size rfl (.tmp 135) (.tmp 137) 26 31 (.agg #[.bool false, .int .u8 0, .bool false, .int .u32 0, .slice none 0 0]) 32 rfl Tryd.underlying26 HI.out rfl (by decide) (by decide) u10 got' p [.bool p.f0, .int .u8 p.f1, .bool p.f2, .int .u32 p.f3, .slice Ap p.f4.length cp] (fun k => some k ≠ v5.ownBlock) (fun k => some k ≠ v5.ownBlock ∧ some k ≠ u10.ownBlock) rfl rfl ?aP (fun _ h => h) ?aF HW6.out.got HW6.out.bel HW6.out.bel.size HGL.out ?_; (case aP => exact k31_mkM _ _ _ p HR6.out); (case aF => exact fun k hk e => by have := Kd.R_lt HW6.out.sp.row k e.symm; omega); intro v1 w7 hR1 hB1 hg1 hat1; have HW7 := Aside0.mk (HPUT.out _ _ (HW6.out.push hg1 hB1 hR1)); clear hR1 hB1 hg1 hat1 HW6 HR6 y0 y1 y2 y3 y4 z0 z1)
                              go_roundg ((l'.drop (size1 l' m)).length + 1)
                              case measure => have := HLT5.out; have h := hmu1; simp at h; omega
                              case rel => exact ⟨_, _, _, false, cd', rfl, HW7.out, rfl, Nat.le_trans (Nat.le_of_lt HLT5.out) hle'⟩
                            · go_wp2_with fail
                              refine (Next_none HIn'.out.wp.sp (HC.out.below HIn'.out.wp.bel) HIn'.out.byte hc hf).mono ?_
                              rintro e w5 ⟨rfl, hb5⟩
                              go_wp2_with fail
                              go_meet
                              case rel => exact ⟨l', got', v', false, cd', rfl, HIn'.out.below (below_alloc (below_alloc hb5 _) _), hle', fun _ _ => ⟨hc, hf⟩⟩
                          · go_wp2_with fail
                            refine (Next_bad HIn'.out.wp.sp HIn'.out.wp.bel HIn'.out.wp.base (HC.out.below HIn'.out.wp.bel) HIn'.out.byte hc).mono ?_
                            rintro e w5 hnp
                            obtain ⟨rfl, hin5, hpos5⟩ := HIn'.out.nextbad hc hnp
                            have HIn5 := Aside0.mk hin5
                            have HBY := Aside0.mk HIn'.out.byte
                            have hcb : (code1 l' m != 0) = true := bne_iff_ne.mpr hc
                            clear hnp hin5
                            go_upto_region 20 with fail
                            have hb6 : Below w5.heap.size w5 ((w5.alloc (.cells #[.bool false, .int .u8 0, .bool false, .int .u32 0, .slice none 0 0] 31)).alloc (.cells #[.int .u8 3, .int .u32 (code1 l' m)] 33)) := below_alloc (below_alloc (Below.refl _ _) _) _
                            have hx0 : ((w5.alloc (.cells #[.bool false, .int .u8 0, .bool false, .int .u32 0, .slice none 0 0] 31)).alloc (.cells #[.int .u8 3, .int .u32 (code1 l' m)] 33)).heap[w5.heap.size]? = some (.cells #[.bool false, .int .u8 0, .bool false, .int .u32 0, .slice none 0 0] 31 (0, 0)) := blk_alloc (last_at _ _ _ rfl) _
                            have hx1 : ((w5.alloc (.cells #[.bool false, .int .u8 0, .bool false, .int .u32 0, .slice none 0 0] 31)).alloc (.cells #[.int .u8 3, .int .u32 (code1 l' m)] 33)).heap[w5.heap.size + 1]? = some (.cells #[.int .u8 3, .int .u32 (code1 l' m)] 33 (0, 0)) := last_at _ _ _ (by simp)
                            generalize (w5.alloc (.cells #[.bool false, .int .u8 0, .bool false, .int .u32 0, .slice none 0 0] 31)).alloc (.cells #[.int .u8 3, .int .u32 (code1 l' m)] 33) = w6 at hb6 hx0 hx1 ⊢
                            have HIn6 := Aside0.mk (HIn5.out.below hb6)
                            have cb6 := HIn6.out.wp.c2
                            generalize w5.heap.size = gp at hx0 hx1 ⊢
                            have y0 : w6.cell? ⟨gp, 0, none⟩ = some (.bool false) := (blk_cell hx0 0).trans rfl
                            have y1 : w6.cell? ⟨gp, 1, none⟩ = some (.int .u8 0) := (blk_cell hx0 1).trans rfl
                            have y2 : w6.cell? ⟨gp, 2, none⟩ = some (.bool false) := (blk_cell hx0 2).trans rfl
                            have y3 : w6.cell? ⟨gp, 3, none⟩ = some (.int .u32 0) := (blk_cell hx0 3).trans rfl
                            have y4 : w6.cell? ⟨gp, 4, none⟩ = some (.slice none 0 0) := (blk_cell hx0 4).trans rfl
                            have z0 : w6.cell? ⟨gp + 1, 0, none⟩ = some (.int .u8 3) := (blk_cell hx1 0).trans rfl
                            have z1 : w6.cell? ⟨gp + 1, 1, none⟩ = some (.int .u32 (code1 l' m)) := (blk_cell hx1 1).trans rfl
                            clear hb6 hx0 hx1 HIn5 HIn'
                            go_wp2_with fail
                            refine (split_bad_any g true _ cb6).mono ?_
                            rintro e w7 ⟨rfl, rfl⟩
                            go_wp2_with fail
                            go_roundg 0
                            case measure => have h := hmu1; simp at h; omega
                            case rel => exact ⟨[], got', _, true, code1 l' m, by rw [wrap_code HBY.out], HIn6.out, rfl, Nat.zero_le _⟩
                case rest =>
                  obtain ⟨l', got', v', bad', cd', rfl, hIn', hll', hcid⟩ := hcut
                  obtain ⟨Av', cv', rfl⟩ := Kd.R_slice hIn'.wp.sp.row
                  have HIn' := Aside0.mk hIn'
                  have HID' := Aside0.mk hcid
                  have hlen' : k < n → l'.length < 4110 := by
                    intro hkn
                    have hi := hcid (by rw [HCND.out]; simp [hkn])
                    cases bad' with
                    | true => have := hIn'.nil; subst this; decide
                    | false =>
                      obtain ⟨h1, h2⟩ := hi rfl
                      rcases Nat.lt_or_ge l'.length 4110 with h | h
                      · exact h
                      · rcases full_told (m := m) hIn'.byte h with h3 | h3
                        · exact absurd h1 h3
                        · exact absurd h3 h2
                  have c33 := hIn'.wp.c0
                  have HL' := Aside0.mk hlen'
                  have HEND : ∀ j' : Value, j' = .int .i64 ((j + 1 : Nat) : Int) → PlaysR x0 m w g (2 * lx3.length + l'.length) u10 (.int .i64 cd') (.slice A3 lx3.length c3) j' wc ∧ 2 * lx3.length + l'.length < gk := by
                    intro j' hj'
                    have hq := HQ.out
                    have hpr := HPR.out
                    have hm := hmu'.out
                    have hll2 := hll'
                    have hnx := hn2
                    have hln2 := hln'.out
                    have hk2 := HK.out
                    have hlt : 2 * lx3.length + l'.length < gk := by
                      rcases Nat.eq_zero_or_pos k with h0 | h0
                      · have := hpr h0
                        have := hlen' this.2
                        omega
                      · omega
                    refine ⟨⟨l', lx3, got', _, bad', cd', A3, c3, j + 1, rfl, rfl, hj', hc3, HC3.out, HY3.out, HIn'.out, fun h => ?_, rfl, by omega⟩, hlt⟩
                    subst h
                    exact hcid (by rw [HCND.out]; simp)
                  have HE := Aside0.mk HEND
                  clear HEND hIn' hcid hlen' HIn3 HC3
                  by_cases hkn : k < n
                  · have hl41 := HL'.out hkn
                    go_wp2_with fail
                    refine (split_held_any g _ cv' Av' _ c33).mono ?_
                    rintro e w4 ⟨rfl, rfl⟩
                    go_wp2_with fail
                    go_roundg (2 * lx3.length + l'.length)
                    case measure => exact (HE.out _ rfl).2
                    case rel => exact (HE.out _ (by rw [HJ1.out])).1
                  · go_wp2_with fail
                    go_roundg (2 * lx3.length + l'.length)
                    case measure => exact (HE.out _ rfl).2
                    case rel => exact (HE.out _ (by rw [HJ1.out])).1
    case rest =>
      obtain ⟨l, lx, got, v, bad, cd, rfl, hIn, hid, hAll, hbc⟩ := hcut
      obtain ⟨Av, cv, rfl⟩ := Kd.R_slice hIn.wp.sp.row
      obtain ⟨Ag, cg, rfl⟩ := Kd.R_slice hIn.wp.got
      have HIn := Aside0.mk hIn
      have HID := Aside0.mk hid
      have HAL := Aside0.mk hAll
      have HBC := Aside0.mk hbc
      clear hIn hid hAll hbc hW
      have hcs : (convert 22 9 (.slice A0 x0.length c0)).run Tryd.prog wc = .ok (.string (strOfNums x0)) wc := Kd.C_string Tryd.underlying22 Tryd.underlying5 Tryd.underlying9 (Kd.C_below HR0.out HIn.out.wp.bel)
      go_wp2_with fail
      refine (refAll_any HY0.out (by have := hN.out.1; omega) m HAL.out wc).mono ?_
      rintro e w3 ⟨Aw, cw, rfl, hcw, hCw, hb⟩
      have HIn3 := Aside0.mk (HIn.out.below hb)
      obtain ⟨_, hcg, hCg⟩ := Kd.R_reads' HIn3.out.wp.got
      have HCg := Aside0.mk hCg
      have HCw := Aside0.mk hCw
      have HGL := Aside0.mk (show got.length ≤ 1000000 by have := HIn3.out.room; have := hN.out.1; omega)
      clear hb HIn hcs hCg hCw
      go_wp2_with fail
      refine (louverref17_Same.calls (got.length + 1) Ag cg got Aw cw got true _ HCg.out hcg HCw.out hcw (same_all got HGL.out)).mono ?_
      rintro e w4 ⟨rfl, hb4⟩
      have HIn4 := Aside0.mk (HIn3.out.below hb4)
      clear hb4 HIn3 HCg HCw
      by_cases hz : cd = 0
      · obtain rfl : bad = false := by rw [HBC.out, hz]; rfl
        subst hz
        go_wp2_with fail
        refine (split_bad_any g false _ HIn4.out.wp.c2).mono ?_
        rintro e w5 ⟨rfl, rfl⟩
        go_wp2_with fail
        refine (split_held_any g _ cv Av _ HIn4.out.wp.c0).mono ?_
        rintro e w6 ⟨rfl, rfl⟩
        go_wp2_with fail
        refine (Next_none HIn4.out.wp.sp (HC.out.below HIn4.out.wp.bel) HIn4.out.byte (HID.out rfl).1 (HID.out rfl).2).mono ?_
        rintro e w5 ⟨rfl, hb5⟩
        have HIn5 := Aside0.mk (HIn4.out.below hb5)
        clear hb5 HIn4
        go_upto_region 32 with fail
        have hb6 : Below w5.heap.size w5 ((w5.alloc (.cells #[.bool false, .int .u8 0, .bool false, .int .u32 0, .slice none 0 0] 31)).alloc (.cells #[.int .u8 0, .int .u32 0] 33)) := below_alloc (below_alloc (Below.refl _ _) _) _
        have hx1 : ((w5.alloc (.cells #[.bool false, .int .u8 0, .bool false, .int .u32 0, .slice none 0 0] 31)).alloc (.cells #[.int .u8 0, .int .u32 0] 33)).heap[w5.heap.size + 1]? = some (.cells #[.int .u8 0, .int .u32 0] 33 (0, 0)) := last_at _ _ _ (by simp)
        generalize (w5.alloc (.cells #[.bool false, .int .u8 0, .bool false, .int .u32 0, .slice none 0 0] 31)).alloc (.cells #[.int .u8 0, .int .u32 0] 33) = w6 at hb6 hx1 ⊢
        have HIn6 := Aside0.mk (HIn5.out.below hb6)
        have hy1 := Aside0.mk hx1
        clear hb6 HIn5 hx1
        go_wp2_with fail
        refine (fixed_yes _ (HC.out.below HIn6.out.wp.bel)).mono ?_
        rintro e w7 ⟨rfl, hb7⟩
        have HIn7 := Aside0.mk (HIn6.out.below hb7)
        have hx1 := blk_below hy1.out hb7
        have z0 : w7.cell? ⟨w5.heap.size + 1, 0, none⟩ = some (.int .u8 0) := (blk_cell hx1 0).trans rfl
        have z1 : w7.cell? ⟨w5.heap.size + 1, 1, none⟩ = some (.int .u32 0) := (blk_cell hx1 1).trans rfl
        clear hb7 HIn6 hx1 hy1
        go_wp2_with fail
        go_ret
        exact ⟨rfl, HIn7.out.wp.bel⟩
      · have hzb : (cd != 0) = true := bne_iff_ne.mpr hz
        have hzc : (cd == 0) = false := beq_eq_false_iff_ne.mpr hz
        obtain rfl : bad = true := by rw [HBC.out, hzb]
        go_wp2_with fail
        refine (split_bad_any g true _ HIn4.out.wp.c2).mono ?_
        rintro e w5 ⟨rfl, rfl⟩
        go_wp2_with fail
        refine (split_held_any g _ cv Av _ HIn4.out.wp.c0).mono ?_
        rintro e w6 ⟨rfl, rfl⟩
        go_wp2_with fail
        refine (split_next_isbad g _ HIn4.out.wp.c2).mono ?_
        rintro e w5 ⟨rfl, hb5⟩
        have HIn5 := Aside0.mk (HIn4.out.below hb5)
        clear hb5 HIn4
        go_upto_region 32 with fail
        have hb6 : Below w5.heap.size w5 ((w5.alloc (.cells #[.bool false, .int .u8 0, .bool false, .int .u32 0, .slice none 0 0] 31)).alloc (.cells #[.int .u8 0, .int .u32 0] 33)) := below_alloc (below_alloc (Below.refl _ _) _) _
        have hx1 : ((w5.alloc (.cells #[.bool false, .int .u8 0, .bool false, .int .u32 0, .slice none 0 0] 31)).alloc (.cells #[.int .u8 0, .int .u32 0] 33)).heap[w5.heap.size + 1]? = some (.cells #[.int .u8 0, .int .u32 0] 33 (0, 0)) := last_at _ _ _ (by simp)
        generalize (w5.alloc (.cells #[.bool false, .int .u8 0, .bool false, .int .u32 0, .slice none 0 0] 31)).alloc (.cells #[.int .u8 0, .int .u32 0] 33) = w6 at hb6 hx1 ⊢
        have HIn6 := Aside0.mk (HIn5.out.below hb6)
        have hy1 := Aside0.mk hx1
        clear hb6 HIn5 hx1
        go_wp2_with fail
        refine (fixed_yes _ (HC.out.below HIn6.out.wp.bel)).mono ?_
        rintro e w7 ⟨rfl, hb7⟩
        have HIn7 := Aside0.mk (HIn6.out.below hb7)
        have hx1 := blk_below hy1.out hb7
        have z0 : w7.cell? ⟨w5.heap.size + 1, 0, none⟩ = some (.int .u8 0) := (blk_cell hx1 0).trans rfl
        have z1 : w7.cell? ⟨w5.heap.size + 1, 1, none⟩ = some (.int .u32 0) := (blk_cell hx1 1).trans rfl
        clear hb7 HIn6 hx1 hy1
        go_wp2_with fail
        refine (split_feed_isbad g A0 x0.length c0 _ HIn7.out.wp.c2).mono ?_
        rintro e w8 ⟨rfl, rfl⟩
        go_wp2_with fail
        go_ret
        exact ⟨rfl, HIn7.out.wp.bel⟩
end Go.Proofs.YtkhlldhcmgkioaaDoor

