/- What the law's row rests on, part 11. -/
import Derived.Test.YtkhlldhcmgkioaaDoorZ10
import Derived.Lib.SlBytesConst
import Derived.Deep.RegionHeld3
import Derived.Deep.LoopGhost
import Derived.Deep.DeepCutAuto
import Derived.Deep.CutBlock
/- fixed of chapter 17. -/
namespace Go.Proofs.YtkhlldhcmgkioaaDoor.PAll
open Go.RowKit Go.Proofs.YtkhlldhcmgkioaaDoorW.PrintWords Go.Proofs.YtkhlldhcmgkioaaDoorW.PrintLast Go.Proofs.YtkhlldhcmgkioaaDoorW.PrintMore 
set_option linter.unusedVariables false
set_option linter.unusedSimpArgs false
theorem C_marked (W : World) (t : TypeId) (fr : Nat × Nat) (xs : List Int) (hm : xs.length ≤ 9223372036854775807) : (Kd.int .u8).C (W.alloc (.cells (nums .u8 xs).toArray t fr)) (some ⟨W.heap.size, 0, none⟩) xs.length xs := by
  refine Kd.C_of_reads (d := 0) ⟨rfl, hm, fun _ => ⟨_, rfl, fun j hj => ?_⟩⟩
  rw [add_plain, World.cell?_alloc_mark]
  simp [nums, hj]
def fixB : ByteArray := ⟨#[129, 130, 0, 0, 0, 7, 97, 98]⟩
theorem fix_put : louverref16_Put.f 40 true 1 true 7 [97, 98] = some fixB := by decide +kernel
theorem fix_get : wsframe_Get.f 40 [129, 130, 0, 0, 0, 7, 97, 98] true = some (true, 1, true, 7, [97, 98], 0, 0) := by kernel_rfl
theorem fix_clone : bytes_Clone.f [] = some [] := by decide +kernel
theorem fix_same : (strOfNums [97, 98]).toList = [97, 98] := by
  have : ∀ b : ByteArray, b.data.toList = [97, 98] → b.toList = [97, 98] := fun b h => by
    rw [ByteArray.toList_eq, h]
  exact this _ (by decide +kernel)
theorem fix_size : fixB.size = 8 := by decide +kernel
theorem fix_head0 : wsframe_Head.f [] true = some (0, 0, 0, false) := by decide +kernel
theorem fix_head1 : wsframe_Head.f [129] true = some (0, 0, 0, false) := by decide +kernel
theorem fix_head2 : wsframe_Head.f [129, 130] true = some (8, 0, 0, true) := by decide +kernel
theorem fix_head3 : wsframe_Head.f [129, 130, 0] true = some (8, 0, 0, true) := by decide +kernel
theorem fix_head4 : wsframe_Head.f [129, 130, 0, 0] true = some (8, 0, 0, true) := by decide +kernel
theorem fix_head5 : wsframe_Head.f [129, 130, 0, 0, 0] true = some (8, 0, 0, true) := by decide +kernel
theorem fix_head6 : wsframe_Head.f [129, 130, 0, 0, 0, 7] true = some (8, 0, 0, true) := by decide +kernel
theorem fix_head7 : wsframe_Head.f [129, 130, 0, 0, 0, 7, 97] true = some (8, 0, 0, true) := by decide +kernel
theorem fix_head8 : wsframe_Head.f [129, 130, 0, 0, 0, 7, 97, 98] true = some (8, 0, 0, true) := by decide +kernel
theorem fix_sz0 : (fixB.extract 0 1).size = ([129] : List Int).length := by decide +kernel
theorem fix_by0 : bytesOf (fixB.extract 0 1) = [129] := by decide +kernel
theorem fix_sz1 : (fixB.extract 1 2).size = ([130] : List Int).length := by decide +kernel
theorem fix_by1 : bytesOf (fixB.extract 1 2) = [130] := by decide +kernel
theorem fix_sz2 : (fixB.extract 2 3).size = ([0] : List Int).length := by decide +kernel
theorem fix_by2 : bytesOf (fixB.extract 2 3) = [0] := by decide +kernel
theorem fix_sz3 : (fixB.extract 3 4).size = ([0] : List Int).length := by decide +kernel
theorem fix_by3 : bytesOf (fixB.extract 3 4) = [0] := by decide +kernel
theorem fix_sz4 : (fixB.extract 4 5).size = ([0] : List Int).length := by decide +kernel
theorem fix_by4 : bytesOf (fixB.extract 4 5) = [0] := by decide +kernel
theorem fix_sz5 : (fixB.extract 5 6).size = ([7] : List Int).length := by decide +kernel
theorem fix_by5 : bytesOf (fixB.extract 5 6) = [7] := by decide +kernel
theorem fix_sz6 : (fixB.extract 6 7).size = ([97] : List Int).length := by decide +kernel
theorem fix_by6 : bytesOf (fixB.extract 6 7) = [97] := by decide +kernel
theorem fix_sz7 : (fixB.extract 7 8).size = ([98] : List Int).length := by decide +kernel
theorem fix_by7 : bytesOf (fixB.extract 7 8) = [98] := by decide +kernel
set_option maxHeartbeats 8000000 in
set_option maxRecDepth 100000 in
theorem fixed_yes (w0 : World) (hg : Cond w0) : Calls Tryd.prog 7 #[] w0 fun e w' => e = .returned (.bool true) ∧ Below w0.heap.size w0 w' := by
  have kc := fun (w : World) (C : Array Value) (n c : Nat) => Lib.run_convert_bytes_const (P := Tryd.prog) w 22 5 C n c Tryd.underlying22 Tryd.underlying5
  have HC := Aside0.mk hg
  clear hg
  go_enter Tryd.func7, Tryd.ntmps7
  go_wp2_with fail
  refine (split_new true w0 _ (Below.refl _ _)).mono ?_
  rintro e w1 ⟨rfl, hs, hb⟩
  have hgb : w0.heap.size ≤ w0.heap.size := Nat.le_refl _
  have hs := hs
  obtain ⟨g, hgg⟩ : ∃ g, g = w0.heap.size := ⟨_, rfl⟩
  rw [← hgg] at hs ⊢
  have hgb : w0.heap.size ≤ g := by omega
  clear hgg
  have HS := Aside0.mk hs
  have HB := Aside0.mk hb
  clear hs hb
  go_wp2_with fail
  refine (louverref16_Put.calls 40 true 1 true 7 _ _ [97, 98] fixB _ (C_marked w1 5 (2, 3) [97, 98] (by decide)) (Nat.le_refl _) fix_put).mono ?_
  rintro e w2 ⟨rfl, hb⟩
  have hbb := below_step (below_alloc (Below.refl w1.heap.size w1) _) hb
  have HS2 := Aside0.mk (HS.out.below hbb)
  have HB2 := Aside0.mk (below_step HB.out hbb)
  clear HS HB hb hbb
  have HS := HS2
  have HB := HB2
  clear HS2 HB2
  generalize (Value.slice none 0 0) = v at HS
  have fsz := fix_size
  have hcv : ∀ (i : Nat) (W : World), (fixB.extract i (i + 1)).size = 1 → (convert 9 22 (.string (fixB.extract i (i + 1)))).run Tryd.prog W = .ok (.slice (some ⟨W.heap.size, 0, none⟩) 1 (grownCap W 1 0 5)) (Lib.bytesWorld W 5 (fixB.extract i (i + 1))) := fun i W h => by
    have h2 := print_bytes (P := Tryd.prog) 9 22 5 Tryd.underlying9 Tryd.underlying22 Tryd.underlying5 (fixB.extract i (i + 1)) W
    rw [h] at h2
    exact h2
  go_wp2_with fail
  refine wp_loop_rounds 9 ?_
  have hcv0 : ∀ W : World, (convert 9 22 (.string (fixB.extract 0 1))).run Tryd.prog W = .ok (.slice (some ⟨W.heap.size, 0, none⟩) 1 (grownCap W 1 0 5)) (Lib.bytesWorld W 5 (fixB.extract 0 1)) := fun W => hcv 0 W fix_sz0
  rw [rounds_succ]
  go_wp2_with fail
  refine (split_next_none w0 _ g v true [] 0 0 0 false HS.out (HC.out.below HB.out) fix_head0 rfl).mono ?_
  rintro e w3 ⟨rfl, hb⟩
  have HS3 := Aside0.mk (HS.out.below hb)
  have HB3 := Aside0.mk (below_step HB.out hb)
  clear HS HB hb
  go_upto_region 7 with fail
  have hb4 : Below w3.heap.size w3 ((w3.alloc (.cells #[.bool false, .int .u8 0, .bool false, .int .u32 0, .slice none 0 0] 31)).alloc (.cells #[.int .u8 0, .int .u32 0] 33)) := below_alloc (below_alloc (Below.refl _ _) _) _
  generalize (w3.alloc (.cells #[.bool false, .int .u8 0, .bool false, .int .u32 0, .slice none 0 0] 31)).alloc (.cells #[.int .u8 0, .int .u32 0] 33) = w4 at hb4 ⊢
  have HS4 := Aside0.mk (HS3.out.below hb4)
  have HB4 := Aside0.mk (below_step HB3.out hb4)
  clear HS3 HB3 hb4
  go_wp2_with fail
  have hbw := bytes_below (Below.refl w4.heap.size w4) (Nat.le_refl _) 5 (fixB.extract 0 1)
  have hC7 : Kd.C (Kd.int .u8) (Lib.bytesWorld w4 5 (fixB.extract 0 1)) (some ⟨w4.heap.size, 0, none⟩) ([129] : List Int).length [129] := by
    have h := bytes_reads w4 5 (fixB.extract 0 1) (by rw [fix_sz0]; decide)
    rw [fix_sz0, fix_by0] at h
    exact Kd.C_of_reads (d := (0 : Int)) (h1 := fun _ => rfl) h
  have hcap : ([129] : List Int).length ≤ grownCap w4 1 0 5 := grownCap_ge _ _ _ _
  refine (split_feed_fit w0 _ g v true [] [129] (some ⟨w4.heap.size, 0, none⟩) _ (HS4.out.below hbw) (below_step HB4.out hbw) hgb hC7 hcap (by decide)).mono ?_
  rintro e w5 ⟨v5, rfl, hs, hb, hsz, hk, ho⟩
  have HS : Aside0 (Sp w0 w5 g v5 true false [129]) := ⟨hs⟩
  have HB := Aside0.mk hb
  clear hs hb hsz hk ho hbw hC7 hcap HS4 HB4 hcv0
  go_wp2
  obtain ⟨v, hv5⟩ : ∃ v, v = v5 := ⟨_, rfl⟩
  rw [← hv5] at HS
  clear hv5
  obtain ⟨w2, hw5⟩ : ∃ w2, w2 = w5 := ⟨_, rfl⟩
  rw [← hw5] at HS HB ⊢
  clear hw5
  have hcv1 : ∀ W : World, (convert 9 22 (.string (fixB.extract 1 2))).run Tryd.prog W = .ok (.slice (some ⟨W.heap.size, 0, none⟩) 1 (grownCap W 1 0 5)) (Lib.bytesWorld W 5 (fixB.extract 1 2)) := fun W => hcv 1 W fix_sz1
  rw [rounds_succ]
  go_wp2_with fail
  refine (split_next_none w0 _ g v true [129] 0 0 0 false HS.out (HC.out.below HB.out) fix_head1 rfl).mono ?_
  rintro e w3 ⟨rfl, hb⟩
  have HS3 := Aside0.mk (HS.out.below hb)
  have HB3 := Aside0.mk (below_step HB.out hb)
  clear HS HB hb
  go_upto_region 7 with fail
  have hb4 : Below w3.heap.size w3 ((w3.alloc (.cells #[.bool false, .int .u8 0, .bool false, .int .u32 0, .slice none 0 0] 31)).alloc (.cells #[.int .u8 0, .int .u32 0] 33)) := below_alloc (below_alloc (Below.refl _ _) _) _
  generalize (w3.alloc (.cells #[.bool false, .int .u8 0, .bool false, .int .u32 0, .slice none 0 0] 31)).alloc (.cells #[.int .u8 0, .int .u32 0] 33) = w4 at hb4 ⊢
  have HS4 := Aside0.mk (HS3.out.below hb4)
  have HB4 := Aside0.mk (below_step HB3.out hb4)
  clear HS3 HB3 hb4
  go_wp2_with fail
  have hbw := bytes_below (Below.refl w4.heap.size w4) (Nat.le_refl _) 5 (fixB.extract 1 2)
  have hC7 : Kd.C (Kd.int .u8) (Lib.bytesWorld w4 5 (fixB.extract 1 2)) (some ⟨w4.heap.size, 0, none⟩) ([130] : List Int).length [130] := by
    have h := bytes_reads w4 5 (fixB.extract 1 2) (by rw [fix_sz1]; decide)
    rw [fix_sz1, fix_by1] at h
    exact Kd.C_of_reads (d := (0 : Int)) (h1 := fun _ => rfl) h
  have hcap : ([130] : List Int).length ≤ grownCap w4 1 0 5 := grownCap_ge _ _ _ _
  refine (split_feed_fit w0 _ g v true [129] [130] (some ⟨w4.heap.size, 0, none⟩) _ (HS4.out.below hbw) (below_step HB4.out hbw) hgb hC7 hcap (by decide)).mono ?_
  rintro e w5 ⟨v5, rfl, hs, hb, hsz, hk, ho⟩
  have HS : Aside0 (Sp w0 w5 g v5 true false [129, 130]) := ⟨hs⟩
  have HB := Aside0.mk hb
  clear hs hb hsz hk ho hbw hC7 hcap HS4 HB4 hcv1
  go_wp2
  obtain ⟨v, hv5⟩ : ∃ v, v = v5 := ⟨_, rfl⟩
  rw [← hv5] at HS
  clear hv5
  obtain ⟨w2, hw5⟩ : ∃ w2, w2 = w5 := ⟨_, rfl⟩
  rw [← hw5] at HS HB ⊢
  clear hw5
  have hcv2 : ∀ W : World, (convert 9 22 (.string (fixB.extract 2 3))).run Tryd.prog W = .ok (.slice (some ⟨W.heap.size, 0, none⟩) 1 (grownCap W 1 0 5)) (Lib.bytesWorld W 5 (fixB.extract 2 3)) := fun W => hcv 2 W fix_sz2
  rw [rounds_succ]
  go_wp2_with fail
  refine (split_next_more w0 _ g v true [129, 130] 8 0 0 true HS.out (HC.out.below HB.out) fix_head2 rfl rfl rfl (by decide)).mono ?_
  rintro e w3 ⟨rfl, hb⟩
  have HS3 := Aside0.mk (HS.out.below hb)
  have HB3 := Aside0.mk (below_step HB.out hb)
  clear HS HB hb
  go_upto_region 7 with fail
  have hb4 : Below w3.heap.size w3 ((w3.alloc (.cells #[.bool false, .int .u8 0, .bool false, .int .u32 0, .slice none 0 0] 31)).alloc (.cells #[.int .u8 0, .int .u32 0] 33)) := below_alloc (below_alloc (Below.refl _ _) _) _
  generalize (w3.alloc (.cells #[.bool false, .int .u8 0, .bool false, .int .u32 0, .slice none 0 0] 31)).alloc (.cells #[.int .u8 0, .int .u32 0] 33) = w4 at hb4 ⊢
  have HS4 := Aside0.mk (HS3.out.below hb4)
  have HB4 := Aside0.mk (below_step HB3.out hb4)
  clear HS3 HB3 hb4
  go_wp2_with fail
  have hbw := bytes_below (Below.refl w4.heap.size w4) (Nat.le_refl _) 5 (fixB.extract 2 3)
  have hC7 : Kd.C (Kd.int .u8) (Lib.bytesWorld w4 5 (fixB.extract 2 3)) (some ⟨w4.heap.size, 0, none⟩) ([0] : List Int).length [0] := by
    have h := bytes_reads w4 5 (fixB.extract 2 3) (by rw [fix_sz2]; decide)
    rw [fix_sz2, fix_by2] at h
    exact Kd.C_of_reads (d := (0 : Int)) (h1 := fun _ => rfl) h
  have hcap : ([0] : List Int).length ≤ grownCap w4 1 0 5 := grownCap_ge _ _ _ _
  refine (split_feed_fit w0 _ g v true [129, 130] [0] (some ⟨w4.heap.size, 0, none⟩) _ (HS4.out.below hbw) (below_step HB4.out hbw) hgb hC7 hcap (by decide)).mono ?_
  rintro e w5 ⟨v5, rfl, hs, hb, hsz, hk, ho⟩
  have HS : Aside0 (Sp w0 w5 g v5 true false [129, 130, 0]) := ⟨hs⟩
  have HB := Aside0.mk hb
  clear hs hb hsz hk ho hbw hC7 hcap HS4 HB4 hcv2
  go_wp2
  obtain ⟨v, hv5⟩ : ∃ v, v = v5 := ⟨_, rfl⟩
  rw [← hv5] at HS
  clear hv5
  obtain ⟨w2, hw5⟩ : ∃ w2, w2 = w5 := ⟨_, rfl⟩
  rw [← hw5] at HS HB ⊢
  clear hw5
  have hcv3 : ∀ W : World, (convert 9 22 (.string (fixB.extract 3 4))).run Tryd.prog W = .ok (.slice (some ⟨W.heap.size, 0, none⟩) 1 (grownCap W 1 0 5)) (Lib.bytesWorld W 5 (fixB.extract 3 4)) := fun W => hcv 3 W fix_sz3
  rw [rounds_succ]
  go_wp2_with fail
  refine (split_next_more w0 _ g v true [129, 130, 0] 8 0 0 true HS.out (HC.out.below HB.out) fix_head3 rfl rfl rfl (by decide)).mono ?_
  rintro e w3 ⟨rfl, hb⟩
  have HS3 := Aside0.mk (HS.out.below hb)
  have HB3 := Aside0.mk (below_step HB.out hb)
  clear HS HB hb
  go_upto_region 7 with fail
  have hb4 : Below w3.heap.size w3 ((w3.alloc (.cells #[.bool false, .int .u8 0, .bool false, .int .u32 0, .slice none 0 0] 31)).alloc (.cells #[.int .u8 0, .int .u32 0] 33)) := below_alloc (below_alloc (Below.refl _ _) _) _
  generalize (w3.alloc (.cells #[.bool false, .int .u8 0, .bool false, .int .u32 0, .slice none 0 0] 31)).alloc (.cells #[.int .u8 0, .int .u32 0] 33) = w4 at hb4 ⊢
  have HS4 := Aside0.mk (HS3.out.below hb4)
  have HB4 := Aside0.mk (below_step HB3.out hb4)
  clear HS3 HB3 hb4
  go_wp2_with fail
  have hbw := bytes_below (Below.refl w4.heap.size w4) (Nat.le_refl _) 5 (fixB.extract 3 4)
  have hC7 : Kd.C (Kd.int .u8) (Lib.bytesWorld w4 5 (fixB.extract 3 4)) (some ⟨w4.heap.size, 0, none⟩) ([0] : List Int).length [0] := by
    have h := bytes_reads w4 5 (fixB.extract 3 4) (by rw [fix_sz3]; decide)
    rw [fix_sz3, fix_by3] at h
    exact Kd.C_of_reads (d := (0 : Int)) (h1 := fun _ => rfl) h
  have hcap : ([0] : List Int).length ≤ grownCap w4 1 0 5 := grownCap_ge _ _ _ _
  refine (split_feed_fit w0 _ g v true [129, 130, 0] [0] (some ⟨w4.heap.size, 0, none⟩) _ (HS4.out.below hbw) (below_step HB4.out hbw) hgb hC7 hcap (by decide)).mono ?_
  rintro e w5 ⟨v5, rfl, hs, hb, hsz, hk, ho⟩
  have HS : Aside0 (Sp w0 w5 g v5 true false [129, 130, 0, 0]) := ⟨hs⟩
  have HB := Aside0.mk hb
  clear hs hb hsz hk ho hbw hC7 hcap HS4 HB4 hcv3
  go_wp2
  obtain ⟨v, hv5⟩ : ∃ v, v = v5 := ⟨_, rfl⟩
  rw [← hv5] at HS
  clear hv5
  obtain ⟨w2, hw5⟩ : ∃ w2, w2 = w5 := ⟨_, rfl⟩
  rw [← hw5] at HS HB ⊢
  clear hw5
  have hcv4 : ∀ W : World, (convert 9 22 (.string (fixB.extract 4 5))).run Tryd.prog W = .ok (.slice (some ⟨W.heap.size, 0, none⟩) 1 (grownCap W 1 0 5)) (Lib.bytesWorld W 5 (fixB.extract 4 5)) := fun W => hcv 4 W fix_sz4
  rw [rounds_succ]
  go_wp2_with fail
  refine (split_next_more w0 _ g v true [129, 130, 0, 0] 8 0 0 true HS.out (HC.out.below HB.out) fix_head4 rfl rfl rfl (by decide)).mono ?_
  rintro e w3 ⟨rfl, hb⟩
  have HS3 := Aside0.mk (HS.out.below hb)
  have HB3 := Aside0.mk (below_step HB.out hb)
  clear HS HB hb
  go_upto_region 7 with fail
  have hb4 : Below w3.heap.size w3 ((w3.alloc (.cells #[.bool false, .int .u8 0, .bool false, .int .u32 0, .slice none 0 0] 31)).alloc (.cells #[.int .u8 0, .int .u32 0] 33)) := below_alloc (below_alloc (Below.refl _ _) _) _
  generalize (w3.alloc (.cells #[.bool false, .int .u8 0, .bool false, .int .u32 0, .slice none 0 0] 31)).alloc (.cells #[.int .u8 0, .int .u32 0] 33) = w4 at hb4 ⊢
  have HS4 := Aside0.mk (HS3.out.below hb4)
  have HB4 := Aside0.mk (below_step HB3.out hb4)
  clear HS3 HB3 hb4
  go_wp2_with fail
  have hbw := bytes_below (Below.refl w4.heap.size w4) (Nat.le_refl _) 5 (fixB.extract 4 5)
  have hC7 : Kd.C (Kd.int .u8) (Lib.bytesWorld w4 5 (fixB.extract 4 5)) (some ⟨w4.heap.size, 0, none⟩) ([0] : List Int).length [0] := by
    have h := bytes_reads w4 5 (fixB.extract 4 5) (by rw [fix_sz4]; decide)
    rw [fix_sz4, fix_by4] at h
    exact Kd.C_of_reads (d := (0 : Int)) (h1 := fun _ => rfl) h
  have hcap : ([0] : List Int).length ≤ grownCap w4 1 0 5 := grownCap_ge _ _ _ _
  refine (split_feed_fit w0 _ g v true [129, 130, 0, 0] [0] (some ⟨w4.heap.size, 0, none⟩) _ (HS4.out.below hbw) (below_step HB4.out hbw) hgb hC7 hcap (by decide)).mono ?_
  rintro e w5 ⟨v5, rfl, hs, hb, hsz, hk, ho⟩
  have HS : Aside0 (Sp w0 w5 g v5 true false [129, 130, 0, 0, 0]) := ⟨hs⟩
  have HB := Aside0.mk hb
  clear hs hb hsz hk ho hbw hC7 hcap HS4 HB4 hcv4
  go_wp2
  obtain ⟨v, hv5⟩ : ∃ v, v = v5 := ⟨_, rfl⟩
  rw [← hv5] at HS
  clear hv5
  obtain ⟨w2, hw5⟩ : ∃ w2, w2 = w5 := ⟨_, rfl⟩
  rw [← hw5] at HS HB ⊢
  clear hw5
  have hcv5 : ∀ W : World, (convert 9 22 (.string (fixB.extract 5 6))).run Tryd.prog W = .ok (.slice (some ⟨W.heap.size, 0, none⟩) 1 (grownCap W 1 0 5)) (Lib.bytesWorld W 5 (fixB.extract 5 6)) := fun W => hcv 5 W fix_sz5
  rw [rounds_succ]
  go_wp2_with fail
  refine (split_next_more w0 _ g v true [129, 130, 0, 0, 0] 8 0 0 true HS.out (HC.out.below HB.out) fix_head5 rfl rfl rfl (by decide)).mono ?_
  rintro e w3 ⟨rfl, hb⟩
  have HS3 := Aside0.mk (HS.out.below hb)
  have HB3 := Aside0.mk (below_step HB.out hb)
  clear HS HB hb
  go_upto_region 7 with fail
  have hb4 : Below w3.heap.size w3 ((w3.alloc (.cells #[.bool false, .int .u8 0, .bool false, .int .u32 0, .slice none 0 0] 31)).alloc (.cells #[.int .u8 0, .int .u32 0] 33)) := below_alloc (below_alloc (Below.refl _ _) _) _
  generalize (w3.alloc (.cells #[.bool false, .int .u8 0, .bool false, .int .u32 0, .slice none 0 0] 31)).alloc (.cells #[.int .u8 0, .int .u32 0] 33) = w4 at hb4 ⊢
  have HS4 := Aside0.mk (HS3.out.below hb4)
  have HB4 := Aside0.mk (below_step HB3.out hb4)
  clear HS3 HB3 hb4
  go_wp2_with fail
  have hbw := bytes_below (Below.refl w4.heap.size w4) (Nat.le_refl _) 5 (fixB.extract 5 6)
  have hC7 : Kd.C (Kd.int .u8) (Lib.bytesWorld w4 5 (fixB.extract 5 6)) (some ⟨w4.heap.size, 0, none⟩) ([7] : List Int).length [7] := by
    have h := bytes_reads w4 5 (fixB.extract 5 6) (by rw [fix_sz5]; decide)
    rw [fix_sz5, fix_by5] at h
    exact Kd.C_of_reads (d := (0 : Int)) (h1 := fun _ => rfl) h
  have hcap : ([7] : List Int).length ≤ grownCap w4 1 0 5 := grownCap_ge _ _ _ _
  refine (split_feed_fit w0 _ g v true [129, 130, 0, 0, 0] [7] (some ⟨w4.heap.size, 0, none⟩) _ (HS4.out.below hbw) (below_step HB4.out hbw) hgb hC7 hcap (by decide)).mono ?_
  rintro e w5 ⟨v5, rfl, hs, hb, hsz, hk, ho⟩
  have HS : Aside0 (Sp w0 w5 g v5 true false [129, 130, 0, 0, 0, 7]) := ⟨hs⟩
  have HB := Aside0.mk hb
  clear hs hb hsz hk ho hbw hC7 hcap HS4 HB4 hcv5
  go_wp2
  obtain ⟨v, hv5⟩ : ∃ v, v = v5 := ⟨_, rfl⟩
  rw [← hv5] at HS
  clear hv5
  obtain ⟨w2, hw5⟩ : ∃ w2, w2 = w5 := ⟨_, rfl⟩
  rw [← hw5] at HS HB ⊢
  clear hw5
  have hcv6 : ∀ W : World, (convert 9 22 (.string (fixB.extract 6 7))).run Tryd.prog W = .ok (.slice (some ⟨W.heap.size, 0, none⟩) 1 (grownCap W 1 0 5)) (Lib.bytesWorld W 5 (fixB.extract 6 7)) := fun W => hcv 6 W fix_sz6
  rw [rounds_succ]
  go_wp2_with fail
  refine (split_next_more w0 _ g v true [129, 130, 0, 0, 0, 7] 8 0 0 true HS.out (HC.out.below HB.out) fix_head6 rfl rfl rfl (by decide)).mono ?_
  rintro e w3 ⟨rfl, hb⟩
  have HS3 := Aside0.mk (HS.out.below hb)
  have HB3 := Aside0.mk (below_step HB.out hb)
  clear HS HB hb
  go_upto_region 7 with fail
  have hb4 : Below w3.heap.size w3 ((w3.alloc (.cells #[.bool false, .int .u8 0, .bool false, .int .u32 0, .slice none 0 0] 31)).alloc (.cells #[.int .u8 0, .int .u32 0] 33)) := below_alloc (below_alloc (Below.refl _ _) _) _
  generalize (w3.alloc (.cells #[.bool false, .int .u8 0, .bool false, .int .u32 0, .slice none 0 0] 31)).alloc (.cells #[.int .u8 0, .int .u32 0] 33) = w4 at hb4 ⊢
  have HS4 := Aside0.mk (HS3.out.below hb4)
  have HB4 := Aside0.mk (below_step HB3.out hb4)
  clear HS3 HB3 hb4
  go_wp2_with fail
  have hbw := bytes_below (Below.refl w4.heap.size w4) (Nat.le_refl _) 5 (fixB.extract 6 7)
  have hC7 : Kd.C (Kd.int .u8) (Lib.bytesWorld w4 5 (fixB.extract 6 7)) (some ⟨w4.heap.size, 0, none⟩) ([97] : List Int).length [97] := by
    have h := bytes_reads w4 5 (fixB.extract 6 7) (by rw [fix_sz6]; decide)
    rw [fix_sz6, fix_by6] at h
    exact Kd.C_of_reads (d := (0 : Int)) (h1 := fun _ => rfl) h
  have hcap : ([97] : List Int).length ≤ grownCap w4 1 0 5 := grownCap_ge _ _ _ _
  refine (split_feed_fit w0 _ g v true [129, 130, 0, 0, 0, 7] [97] (some ⟨w4.heap.size, 0, none⟩) _ (HS4.out.below hbw) (below_step HB4.out hbw) hgb hC7 hcap (by decide)).mono ?_
  rintro e w5 ⟨v5, rfl, hs, hb, hsz, hk, ho⟩
  have HS : Aside0 (Sp w0 w5 g v5 true false [129, 130, 0, 0, 0, 7, 97]) := ⟨hs⟩
  have HB := Aside0.mk hb
  clear hs hb hsz hk ho hbw hC7 hcap HS4 HB4 hcv6
  go_wp2
  obtain ⟨v, hv5⟩ : ∃ v, v = v5 := ⟨_, rfl⟩
  rw [← hv5] at HS
  clear hv5
  obtain ⟨w2, hw5⟩ : ∃ w2, w2 = w5 := ⟨_, rfl⟩
  rw [← hw5] at HS HB ⊢
  clear hw5
  have hcv7 : ∀ W : World, (convert 9 22 (.string (fixB.extract 7 8))).run Tryd.prog W = .ok (.slice (some ⟨W.heap.size, 0, none⟩) 1 (grownCap W 1 0 5)) (Lib.bytesWorld W 5 (fixB.extract 7 8)) := fun W => hcv 7 W fix_sz7
  rw [rounds_succ]
  go_wp2_with fail
  refine (split_next_more w0 _ g v true [129, 130, 0, 0, 0, 7, 97] 8 0 0 true HS.out (HC.out.below HB.out) fix_head7 rfl rfl rfl (by decide)).mono ?_
  rintro e w3 ⟨rfl, hb⟩
  have HS3 := Aside0.mk (HS.out.below hb)
  have HB3 := Aside0.mk (below_step HB.out hb)
  clear HS HB hb
  go_upto_region 7 with fail
  have hb4 : Below w3.heap.size w3 ((w3.alloc (.cells #[.bool false, .int .u8 0, .bool false, .int .u32 0, .slice none 0 0] 31)).alloc (.cells #[.int .u8 0, .int .u32 0] 33)) := below_alloc (below_alloc (Below.refl _ _) _) _
  generalize (w3.alloc (.cells #[.bool false, .int .u8 0, .bool false, .int .u32 0, .slice none 0 0] 31)).alloc (.cells #[.int .u8 0, .int .u32 0] 33) = w4 at hb4 ⊢
  have HS4 := Aside0.mk (HS3.out.below hb4)
  have HB4 := Aside0.mk (below_step HB3.out hb4)
  clear HS3 HB3 hb4
  go_wp2_with fail
  have hbw := bytes_below (Below.refl w4.heap.size w4) (Nat.le_refl _) 5 (fixB.extract 7 8)
  have hC7 : Kd.C (Kd.int .u8) (Lib.bytesWorld w4 5 (fixB.extract 7 8)) (some ⟨w4.heap.size, 0, none⟩) ([98] : List Int).length [98] := by
    have h := bytes_reads w4 5 (fixB.extract 7 8) (by rw [fix_sz7]; decide)
    rw [fix_sz7, fix_by7] at h
    exact Kd.C_of_reads (d := (0 : Int)) (h1 := fun _ => rfl) h
  have hcap : ([98] : List Int).length ≤ grownCap w4 1 0 5 := grownCap_ge _ _ _ _
  refine (split_feed_fit w0 _ g v true [129, 130, 0, 0, 0, 7, 97] [98] (some ⟨w4.heap.size, 0, none⟩) _ (HS4.out.below hbw) (below_step HB4.out hbw) hgb hC7 hcap (by decide)).mono ?_
  rintro e w5 ⟨v5, rfl, hs, hb, hsz, hk, ho⟩
  have HS : Aside0 (Sp w0 w5 g v5 true false [129, 130, 0, 0, 0, 7, 97, 98]) := ⟨hs⟩
  have HB := Aside0.mk hb
  clear hs hb hsz hk ho hbw hC7 hcap HS4 HB4 hcv7
  go_wp2
  obtain ⟨v, hv5⟩ : ∃ v, v = v5 := ⟨_, rfl⟩
  rw [← hv5] at HS
  clear hv5
  obtain ⟨w2, hw5⟩ : ∃ w2, w2 = w5 := ⟨_, rfl⟩
  rw [← hw5] at HS HB ⊢
  clear hw5
  rw [rounds_succ]
  go_wp2_with fail
  refine (split_next_frame w0 _ g v true [129, 130, 0, 0, 0, 7, 97, 98] [129, 130, 0, 0, 0, 7, 97, 98] [] 40 8 true 1 true 7 [97, 98] 0 0 HS.out HB.out hgb (HC.out.below HB.out) fix_head8 (by decide) (by decide) (by decide) (by decide) fix_get fix_clone).mono ?_
  rintro e w3 ⟨vs, vp, rfl, hs, _, hp, hb, _⟩
  obtain ⟨Ap, cp, rfl⟩ := Kd.R_slice hp
  obtain ⟨As, cs, rfl⟩ := Kd.R_slice hs.row
  go_upto_region 11 with fail
  have hb4 : Below w3.heap.size w3 ((w3.alloc (.cells #[.bool true, .int .u8 1, .bool true, .int .u32 7, .slice Ap 2 cp] 31)).alloc (.cells #[.int .u8 0, .int .u32 0] 33)) := below_alloc (below_alloc (Below.refl _ _) _) _
  have hx0 : ((w3.alloc (.cells #[.bool true, .int .u8 1, .bool true, .int .u32 7, .slice Ap 2 cp] 31)).alloc (.cells #[.int .u8 0, .int .u32 0] 33)).heap[w3.heap.size]? = some (.cells #[.bool true, .int .u8 1, .bool true, .int .u32 7, .slice Ap 2 cp] 31 (0, 0)) := blk_alloc (last_at _ _ _ rfl) _
  have hx1 : ((w3.alloc (.cells #[.bool true, .int .u8 1, .bool true, .int .u32 7, .slice Ap 2 cp] 31)).alloc (.cells #[.int .u8 0, .int .u32 0] 33)).heap[w3.heap.size + 1]? = some (.cells #[.int .u8 0, .int .u32 0] 33 (0, 0)) := last_at _ _ _ (by simp)
  generalize (w3.alloc (.cells #[.bool true, .int .u8 1, .bool true, .int .u32 7, .slice Ap 2 cp] 31)).alloc (.cells #[.int .u8 0, .int .u32 0] 33) = w4 at hb4 hx0 hx1 ⊢
  have HS4 := Aside0.mk (hs.below hb4)
  have HB4 := Aside0.mk (below_step hb hb4)
  have HP4 := Aside0.mk (Kd.R_below hp hb4)
  clear hs hb hp hb4
  have hcs : (convert 22 9 (.slice Ap 2 cp)).run Tryd.prog w4 = .ok (.string (strOfNums [97, 98])) w4 := own_string (P := Tryd.prog) Tryd.underlying22 Tryd.underlying5 Tryd.underlying9 (Kd.own_of_R HP4.out)
  have d4 : w4.cell? ⟨w3.heap.size, 4, none⟩ = some (.slice Ap 2 cp) := (blk_cell hx0 4).trans rfl
  have e0 : w4.cell? ⟨w3.heap.size + 1, 0, none⟩ = some (.int .u8 0) := (blk_cell hx1 0).trans rfl
  have e1 : w4.cell? ⟨w3.heap.size + 1, 1, none⟩ = some (.int .u32 0) := (blk_cell hx1 1).trans rfl
  have fs := fix_same
  go_wp2_with fail
  refine (split_held_any g _ cs As _ ((blk_cell HS4.out.blk 0).trans rfl)).mono ?_
  rintro e w5 ⟨rfl, rfl⟩
  go_wp2
  go_ret
  exact ⟨by first | rfl | simp [fs], HB4.out⟩
end Go.Proofs.YtkhlldhcmgkioaaDoor.PAll

/- What stands in the loops of chapter 17's laws. -/
namespace Go.Proofs.YtkhlldhcmgkioaaDoor
open Go.RowKit Go.Proofs.YtkhlldhcmgkioaaDoorW.PrintWords Go.Proofs.YtkhlldhcmgkioaaDoorW.PrintLast Go.Proofs.YtkhlldhcmgkioaaDoorW.PrintMore Go.Proofs.YtkhlldhcmgkioaaDoor.PAll
set_option linter.unusedVariables false
theorem wf8 {x : Int} (h : (Lit.int .u8 x).wf = true) : 0 ≤ x ∧ x ≤ 255 := by simpa [Lit.wf, IntKind.min, IntKind.max, IntKind.signed, IntKind.bits] using h
theorem wf_bytes {l : List Int} (h : ∀ x ∈ l, (Lit.int .u8 x).wf = true) : l.all isByte = true := by
  rw [List.all_eq_true]
  exact fun x hx => isByte_iff.2 (wf8 (h x hx))
/-- The frames told so far, and the fault. -/
def Inv (x0 : List Int) (m : Bool) (l lx : List Int) (got : List Pc) (bad : Bool) (cd : Int) : Prop :=
  (bad = false ∧ cd = 0 ∧ ∀ ps c r, AllP m (l ++ lx) ps c r → AllP m x0 (got ++ ps) c r) ∨ (bad = true ∧ cd ≠ 0 ∧ l = [] ∧ AllP m x0 got cd [])
/-- Nothing more is told. -/
def Idle (m : Bool) (l : List Int) (bad : Bool) : Prop := bad = false → code1 l m = 0 ∧ ¬ IsFr l m
theorem none_nil (m : Bool) : code1 [] m = 0 ∧ ¬ IsFr [] m := by
  have h : headF [] m = (0, 0, true, 0) := by unfold headF; rfl
  refine ⟨by unfold code1; rw [h], fun hf => ?_⟩
  have := hf.told
  rw [h] at this
  cases this
theorem wrap_code {l : List Int} (hl : l.all isByte = true) (m : Bool) : wrap64 (code1 l m) = code1 l m := by
  have := headF_bounds hl m
  unfold code1 wrap64
  omega
structure In (x0 : List Int) (m : Bool) (w wr : World) (g : Nat) (l lx : List Int) (v gv : Value) (got : List Pc) (bad : Bool) (cd : Int) : Prop where
  wp : Wp w wr g m bad l v gv got
  len : l.length ≤ 4110
  byte : l.all isByte = true
  inv : Inv x0 m l lx got bad cd
  room : got.length + l.length + lx.length ≤ x0.length
theorem In.below {x0 : List Int} {m : Bool} {w wr W : World} {g : Nat} {l lx : List Int} {v gv : Value} {got : List Pc} {bad : Bool} {cd : Int} (h : In x0 m w wr g l lx v gv got bad cd) (hb : Below wr.heap.size wr W) : In x0 m w W g l lx v gv got bad cd := ⟨h.wp.below hb, h.len, h.byte, h.inv, h.room⟩
theorem In.nil {x0 : List Int} {m : Bool} {w wr : World} {g : Nat} {l lx : List Int} {v gv : Value} {got : List Pc} {cd : Int} (h : In x0 m w wr g l lx v gv got true cd) : l = [] := by
  rcases h.inv with ⟨h1, _⟩ | ⟨_, _, h1, _⟩
  · cases h1
  · exact h1
theorem In.idle {x0 : List Int} {m : Bool} {w wr : World} {g : Nat} {l lx : List Int} {v gv : Value} {got : List Pc} {cd : Int} (h : In x0 m w wr g l lx v gv got true cd) : Idle m l true := fun e => by cases e
theorem In.zero {x0 : List Int} {m : Bool} {w wr : World} {g : Nat} {l lx : List Int} {v gv : Value} {got : List Pc} {cd : Int} (h : In x0 m w wr g l lx v gv got false cd) : cd = 0 := by
  rcases h.inv with ⟨_, h1, _⟩ | ⟨h1, _⟩
  · exact h1
  · cases h1
/-- Bytes come. -/
theorem In.feed {x0 : List Int} {m : Bool} {w wr W : World} {g k : Nat} {l lx xs : List Int} {v gv : Value} {got : List Pc} {cd : Int} {e : Ending} (h : In x0 m w wr g l lx v gv got false cd) (hx : lx.all isByte = true) (hk : k ≤ lx.length) (hxs : xs.take k = lx.take k) (hl : l.length + k ≤ 4110)
    (hp : FeedPost w g v m (l ++ xs.take k) k wr e W) : ∃ v', e = .returned (.int .i64 (k : Nat)) ∧ In x0 m w W g (l ++ lx.take k) (lx.drop k) v' gv got false cd := by
  obtain ⟨v', he, hw⟩ := h.wp.feed hp
  rw [hxs] at hw
  refine ⟨v', he, hw, by rw [List.length_append, List.length_take]; omega, app_byte h.byte (take_byte hx k), ?_, ?_⟩
  · rcases h.inv with ⟨h1, h2, h3⟩ | ⟨h1, _⟩
    · refine .inl ⟨h1, h2, fun ps c r hp => h3 ps c r ?_⟩
      rwa [List.append_assoc, List.take_append_drop] at hp
    · cases h1
  · have := h.room
    rw [List.length_append, List.length_take, List.length_drop]
    omega
/-- A frame is taken. -/
theorem In.next {x0 : List Int} {m : Bool} {w wr W : World} {g : Nat} {l lx : List Int} {v gv : Value} {got : List Pc} {cd : Int} {p : Pc} {e : Ending} (h : In x0 m w wr g l lx v gv got false cd) (hf : IsFr l m) (hpp : p = pieceOf (l.take (size1 l m)) m) (hp : NextPost w g m (l.drop (size1 l m)) p.f0 p.f1 p.f2 p.f3 p.f4 wr e W) :
    ∃ v' pv, e = .returned (.tuple #[.agg #[.bool p.f0, .int .u8 p.f1, .bool p.f2, .int .u32 p.f3, pv], .agg #[.int .u8 0, .int .u32 0], .bool true]) ∧ Wp w W g m false (l.drop (size1 l m)) v' gv got ∧ Kd.R (Kd.int .u8) 5 W w.heap.size (fun k => some k ≠ v'.ownBlock ∧ some k ≠ gv.ownBlock) pv p.f4 ∧
      (l.drop (size1 l m)).length < l.length ∧ ∀ (V : World) (gv' : Value), Wp w V g m false (l.drop (size1 l m)) v' gv' (got ++ [p]) → In x0 m w V g (l.drop (size1 l m)) lx v' gv' (got ++ [p]) false cd := by
  obtain ⟨v', pv, he, hw, hr⟩ := h.wp.next hp
  have hm := hf.min h.byte
  have hr2 := hf.room
  have hlt : (l.drop (size1 l m)).length < l.length := by rw [List.length_drop]; omega
  refine ⟨v', pv, he, hw, hr, hlt, fun V gv' hV => ⟨hV, by have := h.len; omega, drop_byte h.byte _, ?_, ?_⟩⟩
  · rcases h.inv with ⟨h1, h2, h3⟩ | ⟨h1, _⟩
    · refine .inl ⟨h1, h2, ?_⟩
      rw [hpp]
      exact AllP.app_step hf h3
    · cases h1
  · have := h.room
    rw [List.length_append]
    simp only [List.length_cons, List.length_nil]
    omega
theorem In.nextbad {x0 : List Int} {m : Bool} {w wr W : World} {g : Nat} {l lx : List Int} {v gv : Value} {got : List Pc} {cd : Int} {e : Ending} (h : In x0 m w wr g l lx v gv got false cd) (hc : code1 l m ≠ 0) (hp : NextBad w g m (code1 l m) wr e W) :
    e = .returned (.tuple #[.agg #[.bool false, .int .u8 0, .bool false, .int .u32 0, .slice none 0 0], .agg #[.int .u8 3, .int .u32 (code1 l m)], .bool true]) ∧ In x0 m w W g [] lx (.slice none 0 0) gv got true (code1 l m) ∧ 0 < l.length := by
  obtain ⟨he, hw⟩ := h.wp.nextbad hp
  have hl0 : 0 < l.length := by
    rcases Nat.eq_zero_or_pos l.length with h0 | h0
    · exact absurd (by unfold code1 headF; rw [if_pos h0]) hc
    · exact h0
  refine ⟨he, ⟨hw, by simp, rfl, ?_, ?_⟩, hl0⟩
  · rcases h.inv with ⟨h1, h2, h3⟩ | ⟨h1, _⟩
    · exact .inr ⟨rfl, hc, rfl, AllP.app_bad hc h3⟩
    · cases h1
  · have := h.room
    simp only [List.length_nil]
    omega
/-- At the end. -/
theorem In.ends {x0 : List Int} {m : Bool} {w wr : World} {g : Nat} {l lx : List Int} {v gv : Value} {got : List Pc} {bad : Bool} {cd : Int} (h : In x0 m w wr g l lx v gv got bad cd) (hi : bad = true ∨ (lx = [] ∧ Idle m l bad)) : AllP m x0 got cd l ∧ bad = (cd != 0) := by
  rcases h.inv with ⟨h1, h2, h3⟩ | ⟨h1, h2, h3, h4⟩
  · rcases hi with hi | ⟨rfl, hi⟩
    · rw [h1] at hi; cases hi
    · obtain ⟨h5, h6⟩ := hi h1
      have h7 := h3 [] 0 l (by rw [List.append_nil]; exact .stop h5 h6)
      rw [List.append_nil] at h7
      rw [h2]
      exact ⟨h7, by rw [h1]; rfl⟩
  · rw [h3]
    exact ⟨h4, by rw [h1]; exact (bne_iff_ne.mpr h2).symm⟩
/-- Blocks of other types stay. -/
theorem keep_feed {w W W' : World} {g k : Nat} {v : Value} {m bad : Bool} {l l' : List Int} {n : Int} {e : Ending} {cs : Array Value} {t : TypeId} (hp : FeedPost w g v m l' n W e W') (hs : Sp w W g v m bad l) (h : W.heap[k]? = some (.cells cs t (0, 0))) (ht : 5 ≠ t) (ht2 : t ≠ 47) : W'.heap[k]? = some (.cells cs t (0, 0)) := by
  obtain ⟨_, _, _, _, _, hk, _⟩ := hp
  exact (hk k (blk_lt h) (blk_ne h hs.blk ht2) (Kd.R_ne hs.row h ht)).trans h
theorem keep_next {w W W' : World} {g k : Nat} {v : Value} {m bad : Bool} {l d s5 : List Int} {s1 s3 : Bool} {s2 s4 : Int} {e : Ending} {cs : Array Value} {t : TypeId} (hp : NextPost w g m d s1 s2 s3 s4 s5 W e W') (hs : Sp w W g v m bad l) (h : W.heap[k]? = some (.cells cs t (0, 0))) (ht2 : t ≠ 47) : W'.heap[k]? = some (.cells cs t (0, 0)) := by
  obtain ⟨_, _, _, _, _, _, _, hk, _⟩ := hp
  exact (hk k (blk_lt h) (blk_ne h hs.blk ht2)).trans h
theorem keep_bad {w W W' : World} {g k : Nat} {v : Value} {m bad : Bool} {l : List Int} {c : Int} {e : Ending} {cs : Array Value} {t : TypeId} (hp : NextBad w g m c W e W') (hs : Sp w W g v m bad l) (h : W.heap[k]? = some (.cells cs t (0, 0))) (ht2 : t ≠ 47) : W'.heap[k]? = some (.cells cs t (0, 0)) := by
  obtain ⟨_, _, _, hk⟩ := hp
  exact (hk k (blk_lt h) (blk_ne h hs.blk ht2)).trans h
theorem same_one (p : Pc) : louverref16_Same.f p.f0 p.f1 p.f2 p.f3 p.f4 p.f0 p.f1 p.f2 p.f3 p.f4 = some true := by
  unfold louverref16_Same.f
  rw [if_pos (by simp), if_pos rfl, if_pos (by simp), if_pos rfl]
  simp
theorem same_loop (ps : List Pc) (hl : ps.length ≤ 1000000) : ∀ d i k : Nat, i + d = ps.length → d + 1 ≤ k → louverref17_Same.l0 k ps ps (ps.length : Int) (i : Int) = some true := by
  intro d
  induction d with
  | zero =>
    intro i k hi hk
    obtain ⟨k, rfl⟩ : ∃ j, k = j + 1 := ⟨k - 1, by omega⟩
    show (if (i : Int) < (ps.length : Int) then _ else _) = _
    rw [if_neg (by omega)]
  | succ d ih =>
    intro i k hi hk
    obtain ⟨k, rfl⟩ : ∃ j, k = j + 1 := ⟨k - 1, by omega⟩
    show (if (i : Int) < (ps.length : Int) then _ else _) = _
    rw [if_pos (by omega), if_pos (by omega), if_pos (by omega), if_pos (by omega), same_one, Option.bind_some, if_pos rfl, show wrap64 ((i : Int) + 1) = ((i + 1 : Nat) : Int) by unfold wrap64; omega]
    exact ih (i + 1) k (by omega) (by omega)
theorem same_all (ps : List Pc) (hl : ps.length ≤ 1000000) : louverref17_Same.f (ps.length + 1) ps ps = some true := by
  unfold louverref17_Same.f
  rw [if_pos rfl]
  exact same_loop ps hl ps.length 0 _ (by omega) (Nat.le_refl _)
end Go.Proofs.YtkhlldhcmgkioaaDoor

/- The frames of two rows of bytes, one behind the other. -/
namespace Go.Proofs.YtkhlldhcmgkioaaDoor
open Go.RowKit Go.Proofs.YtkhlldhcmgkioaaDoorW.PrintWords Go.Proofs.YtkhlldhcmgkioaaDoorW.PrintLast Go.Proofs.YtkhlldhcmgkioaaDoorW.PrintMore Go.Proofs.YtkhlldhcmgkioaaDoor.PAll
set_option linter.unusedVariables false
set_option linter.unusedSimpArgs false
attribute [local go_sem] max2_int min2_int max_two min_two
/-- In the loop of Next, and behind it. -/
def TwoI (KB : World → Prop) (x0 : List Int) (m : Bool) (w : World) (g : Nat) (lx : List Int) (l1 mu : Nat) (gv code : Value) (wr : World) : Prop :=
  ∃ (l : List Int) (got : List Pc) (v : Value) (bad : Bool) (cd : Int), code = .int .i64 cd ∧ In x0 m w wr g l lx v gv got bad cd ∧ mu = l.length + (if bad = true then 0 else 1) ∧ l.length ≤ l1 ∧ KB wr
def TwoJ (KB : World → Prop) (x0 : List Int) (m : Bool) (w : World) (g : Nat) (lx : List Int) (l1 : Nat) (gv code : Value) (wr : World) : Prop :=
  ∃ (l : List Int) (got : List Pc) (v : Value) (bad : Bool) (cd : Int), code = .int .i64 cd ∧ In x0 m w wr g l lx v gv got bad cd ∧ l.length ≤ l1 ∧ Idle m l bad ∧ KB wr
theorem AllP.two {m : Bool} {a b : List Int} {x y : List Pc} {c : Int} {r : List Int} (hb : AllP m b y c r) : ∀ {ca : Int} {ra : List Int}, AllP m a x ca ra → ca = 0 → ra = [] → AllP m (a ++ b) (x ++ y) c r := by
  intro ca ra ha
  induction ha with
  | bad h => intro h0 _; exact absurd h0 h
  | stop h1 h2 => intro _ h3; subst h3; exact hb
  | @frame l ps c' r' h1 h2 ih =>
    intro h3 h4
    obtain ⟨h5, h6⟩ := h1.app b
    have e := AllP.frame h5 (ps := ps ++ y) (c := c) (r := r)
    rw [h6, List.drop_append_of_le_length h1.room, List.take_append_of_le_length h1.room] at e
    exact e (ih h3 h4)
/-- In the loop over the two rows, and in the loop over what is left of one. -/
def TwoR (KB : World → Prop) (x0 a b : List Int) (m : Bool) (w : World) (g : Nat) (mu : Nat) (gv code i : Value) (wr : World) : Prop :=
  ∃ (l lx : List Int) (got : List Pc) (v : Value) (bad : Bool) (cd : Int) (j : Nat), code = .int .i64 cd ∧ i = .int .i64 (j : Nat) ∧ In x0 m w wr g l lx v gv got bad cd ∧ Idle m l bad ∧ ((j = 0 ∧ lx = a ++ b) ∨ (j = 1 ∧ lx = b) ∨ (j = 2 ∧ lx = [])) ∧ mu = 2 - j ∧ KB wr
def TwoP (KB : World → Prop) (x0 pr : List Int) (m : Bool) (w w0 : World) (g mu : Nat) (gv code left : Value) (wr : World) : Prop :=
  ∃ (l pl : List Int) (got : List Pc) (v : Value) (bad : Bool) (cd : Int) (A : Option Addr) (c : Nat), code = .int .i64 cd ∧ left = .slice A pl.length c ∧ pl.length ≤ c ∧ Kd.C (Kd.int .u8) w0 A pl.length pl ∧ pl.all isByte = true ∧ In x0 m w wr g l (pl ++ pr) v gv got bad cd ∧ Idle m l bad ∧ mu = pl.length ∧ KB wr
def TwoE (KB : World → Prop) (x0 pr : List Int) (m : Bool) (w : World) (g : Nat) (gv code : Value) (wr : World) : Prop :=
  ∃ (l : List Int) (got : List Pc) (v : Value) (bad : Bool) (cd : Int), code = .int .i64 cd ∧ In x0 m w wr g l pr v gv got bad cd ∧ Idle m l bad ∧ KB wr
theorem R_grow_new {α : Type} {d : Kd α} {e base : Nat} {w5 W w6 : World} {ok : Nat → Prop} {v : Value} {xs : List α} (h : d.R e w5 base (fun k => ok k ∧ k < w5.heap.size) v xs) (hb : Below w5.heap.size w5 W) {row : Option Nat} (hg : W.grownBy w6 row) (hrow : ∀ k, row = some k → w5.heap.size ≤ k) : d.R e w6 base (fun k => ok k ∧ k < w5.heap.size) v xs :=
  Kd.R_grown (Kd.R_step h (fun k hk hlt => hb.block k hlt)) hg (fun k hk e => by have := hrow k e.symm; omega)
theorem R_grow_more {α : Type} {d : Kd α} {e base n : Nat} {W w6 : World} {ok : Nat → Prop} {v : Value} {xs : List α} (h : d.R e W base (fun k => ok k ∧ k < n) v xs) {row : Option Nat} (hg : W.grownBy w6 row) (hrow : ∀ k, row = some k → n ≤ k) : d.R e w6 base (fun k => ok k ∧ k < n) v xs :=
  Kd.R_grown h hg (fun k hk e => by have := hrow k e.symm; omega)
theorem own_new {W : World} {n : Nat} {v0 v6 : Value} (h0 : ∀ k, v0.ownBlock = some k → n ≤ k) (hn : n ≤ W.heap.size) (hat : v6.ownBlock = v0.ownBlock ∨ ∃ b, v6.ownBlock = some b ∧ W.heap.size ≤ b) : ∀ k, v6.ownBlock = some k → n ≤ k := by
  intro k e
  rcases hat with h | ⟨b, h, hb⟩
  · exact h0 k (h.symm.trans e)
  · rw [h] at e
    injection e with e
    omega
theorem wpList_of_step {P : Program} {ops : Array Oper} {Q : Exit → Act → World → Prop} {a : Act} {w : World} {rest : List Oper} {o : Oper} (h : if Region.wanted o (yielded ops a.tmps) = true then Oper.wp P o a w (wpList P ops Q rest) Q else (wpList P ops Q rest) (a.put o.dst undef) w) : wpList P ops Q (o :: rest) a w := by
  show (if _ then _ ∨ _ else _)
  by_cases hw : Region.wanted o (yielded ops a.tmps) = true
  · rw [if_pos hw] at h ⊢
    exact .inl h
  · rw [if_neg hw] at h ⊢
    exact h
/-- An empty literal. -/
theorem lit_empty {α : Type} (d : Kd α) (W : World) (e base : Nat) (hb : base ≤ W.heap.size) : d.R e (W.alloc (.cells #[] e)) base (fun _ => True) (.slice (some ⟨W.heap.size, 0, none⟩) 0 0) [] :=
  ⟨fun _ _ => trivial, [], by simpa using World.ownsRow_lit (e := e) (base := base) (size := d.sz) W #[] 0 hb (by decide) (by simp), ⟨by simp, fun j p hj => by simp at hj⟩⟩
/-- A splitter that is bad takes nothing more. -/
theorem In.skip {x0 : List Int} {m : Bool} {w wr : World} {g : Nat} {l lx ly : List Int} {v gv : Value} {got : List Pc} {cd : Int} (h : In x0 m w wr g l lx v gv got true cd) (hl : ly.length ≤ lx.length) : In x0 m w wr g l ly v gv got true cd := by
  refine ⟨h.wp, h.len, h.byte, ?_, by have := h.room; omega⟩
  rcases h.inv with ⟨h1, _⟩ | ⟨h1, h2, h3, h4⟩
  · cases h1
  · exact .inr ⟨h1, h2, h3, h4⟩
theorem idle_lt {m : Bool} {l : List Int} (hl : l.all isByte = true) (h : code1 l m = 0 ∧ ¬ IsFr l m) : l.length < 4110 := by
  rcases Nat.lt_or_ge l.length 4110 with h1 | h1
  · exact h1
  · rcases full_told (m := m) hl h1 with h3 | h3
    · exact absurd h.1 h3
    · exact absurd h3 h.2
set_option maxHeartbeats 16000000 in
set_option maxRecDepth 100000 in
theorem Pure.WssplitTwo : Says.WssplitTwo := by
  intro A0 c0 a A1 c1 b m w l0 r0 o0 l1 r1 o1 hg
  have hu31 := Tryd.underlying31
  have hu33 := Tryd.underlying33
  have hinfo : (Tryd.prog.info? 31).map (fun i => (i.zero, i.size, i.bytes)) = some (some (.agg #[.bool false, .int .u8 0, .bool false, .int .u32 0, .slice none 0 0]), 5, 32) := by kernel_rfl
  have HI := Aside0.mk hinfo
  have HC := Aside0.mk hg
  have HR0 := Aside0.mk r0
  have HR1 := Aside0.mk r1
  have HY0 := Aside0.mk (wf_bytes o0.1)
  have HY1 := Aside0.mk (wf_bytes o1.1)
  have HO := Aside0.mk (And.intro o0.2.1 o1.2.1)
  have hw0 : IntKind.i64.wrap ((a.length : Int) + (b.length : Int)) = ((a.length + b.length : Nat) : Int) := by have := o0.2.1; have := o1.2.1; rw [i64_w]; unfold wrap64; omega
  clear hg r0 r1 hinfo o0 o1
  go_enter Tryd.func6, Tryd.ntmps6
  by_cases hbig : a.length + b.length > 5000
  · have h20 : (5000 : Int) < (a.length : Int) + (b.length : Int) := by omega
    go_wp2_with fail
    refine (fixed_yes _ (HC.out)).mono ?_
    rintro e w3_ ⟨rfl, hb_⟩
    go_wp2_with fail
    go_ret
    exact ⟨rfl, hb_⟩
  · have h20 : ¬ ((5000 : Int) < (a.length : Int) + (b.length : Int)) := by omega
    have h21 : ¬ ((5000 : Int) < (a.length : Int)) := by omega
    have h22 : ¬ ((5000 : Int) < (b.length : Int)) := by omega
    have hN : Aside0 (a.length + b.length ≤ 5000) := ⟨by omega⟩
    clear HO hbig
    obtain ⟨x, cx, rx, hAx⟩ := AllP.total m _ a HY0.out (Nat.le_refl _)
    obtain ⟨y, cy, ry, hAy⟩ := AllP.total m _ b HY1.out (Nat.le_refl _)
    have HAX := Aside0.mk hAx
    have HAY := Aside0.mk hAy
    clear hAx hAy
    have hcs : ∀ W, Below w.heap.size w W → (convert 22 9 (.slice A0 a.length c0)).run Tryd.prog W = .ok (.string (strOfNums a)) W := fun W hb => Kd.C_string Tryd.underlying22 Tryd.underlying5 Tryd.underlying9 (Kd.C_below HR0.out hb)
    have hcs2 : ∀ W, Below w.heap.size w W → (convert 22 9 (.slice A1 b.length c1)).run Tryd.prog W = .ok (.string (strOfNums b)) W := fun W hb => Kd.C_string Tryd.underlying22 Tryd.underlying5 Tryd.underlying9 (Kd.C_below HR1.out hb)
    have HCS2 := Aside0.mk hcs2
    have hcs := hcs w (Below.refl _ _)
    clear hcs2
    go_wp2_with fail
    refine (refAll_any HY0.out (by have := hN.out; omega) m HAX.out w).mono ?_
    rintro e w1 ⟨Ax, cpx, rfl, hcx, hCx, hb1⟩
    have HB1 := Aside0.mk hb1
    have HCX := Aside0.mk hCx
    have hcs2 := HCS2.out w1 hb1
    clear hb1 hCx hcs HCS2
    by_cases hcx0 : cx = 0
    · subst hcx0
      by_cases hrx0 : rx = []
      · subst hrx0
        go_wp2_with fail
        refine (refAll_any HY1.out (by have := hN.out; omega) m HAY.out w1).mono ?_
        rintro e w2 ⟨Ay, cpy, rfl, hcy, hCy, hb2⟩
        have HB2 := Aside0.mk (below_step HB1.out hb2)
        have HCX2 := Aside0.mk (Kd.C_below HCX.out hb2)
        have HCY2 := Aside0.mk hCy
        clear hb2 hCy hcs2 HB1 HCX
        go_wp2_with fail
        refine (split_new m w2 w2 (Below.refl _ _)).mono ?_
        rintro e w3 ⟨rfl, hs, hb3⟩
        obtain ⟨g, hgg⟩ : ∃ g, g = w2.heap.size := ⟨_, rfl⟩
        rw [← hgg] at hs ⊢
        have hW : Aside0 (Wp w2 w3 g m false [] (.slice none 0 0) (.slice none 0 0) []) := ⟨⟨hs, hb3, by omega, Kd.R_nil _ _ _ _ _⟩⟩
        have HCc := Aside0.mk (HC.out.below HB2.out)
        obtain ⟨x0, hx0⟩ : ∃ x0, x0 = a ++ b := ⟨_, rfl⟩
        have HX0 := Aside0.mk hx0
        have HLX : Aside0 (x0.length ≤ 5000) := ⟨by rw [hx0, List.length_append]; exact hN.out⟩
        have HAL : Aside0 (AllP m x0 (x ++ y) cy ry) := ⟨by rw [hx0]; exact HAY.out.two HAX.out rfl rfl⟩
        clear hs hb3 hgg hx0
        go_upto_block 0 with fail
        have hb4 : Below w3.heap.size w3 (w3.alloc (.cells #[.slice A0 a.length c0, .slice A1 b.length c1] 22)) := below_alloc (Below.refl _ _) _
        have hk4 : (w3.alloc (.cells #[.slice A0 a.length c0, .slice A1 b.length c1] 22)).heap[w3.heap.size]? = some (.cells #[.slice A0 a.length c0, .slice A1 b.length c1] 22 (0, 0)) := last_at _ _ _ rfl
        generalize w3.alloc (.cells #[.slice A0 a.length c0, .slice A1 b.length c1] 22) = w4 at hb4 hk4 ⊢
        have hW4 := Aside0.mk (hW.out.below hb4)
        obtain ⟨gr, hgr⟩ : ∃ gr, gr = w3.heap.size := ⟨_, rfl⟩
        rw [← hgr] at hk4 ⊢
        have HK4 := Aside0.mk hk4
        clear hb4 hk4 hgr hW
        go_wp2_with fail
        go_loopg [14, 15, 68] 2 (fun mu gv code i wr => TwoR (fun V => V.heap[gr]? = some (.cells #[.slice A0 a.length c0, .slice A1 b.length c1] 22 (0, 0))) x0 a b m w2 g mu gv code i wr)
        case atStart => exact ⟨[], a ++ b, [], _, false, 0, 0, rfl, rfl, ⟨hW4.out, by simp, rfl, .inl ⟨rfl, rfl, fun ps c r h => by rw [HX0.out]; exact h⟩, by rw [HX0.out]; simp⟩, fun _ => none_nil m, .inl ⟨rfl, rfl⟩, rfl, HK4.out⟩
        case round =>
          obtain ⟨l, lx, got, v, bad, cd, j, rfl, rfl, hIn, hidle, hj, hmu, hkb⟩ := hrel
          have HIn := Aside0.mk hIn
          have HID := Aside0.mk hidle
          have HKB := Aside0.mk hkb
          clear hIn hidle hkb hW4 HK4
          by_cases hj2 : j = 2
          · obtain rfl : lx = [] := by
              rcases hj with ⟨h, _⟩ | ⟨h, _⟩ | ⟨_, h⟩
              · omega
              · omega
              · exact h
            subst hj2
            obtain ⟨hE, hbd⟩ := HIn.out.ends (.inr ⟨rfl, HID.out⟩)
            obtain ⟨rfl, rfl, hr3⟩ := hE.uniq HAL.out
            clear hj hmu hE hbd hr3 HKB HID
            go_wp2_with fail
            refine (fixed_yes _ (HCc.out.below HIn.out.wp.bel)).mono ?_
            rintro e w5 ⟨rfl, hb5⟩
            have HIn5 := Aside0.mk (HIn.out.below hb5)
            clear hb5 HIn
            have HRM := Aside0.mk (show x.length + y.length ≤ 5000 by have h1 := HIn5.out.room; have h2 := HLX.out; rw [List.length_append] at h1; omega)
            have HL1 := Aside0.mk (show (([] : List Pc).length + x.length) * 32 ≤ 140737488355328 by have := HRM.out; simp only [List.length_nil]; omega)
            have HL2 := Aside0.mk (show (x.length + y.length) * 32 ≤ 140737488355328 by have := HRM.out; omega)
            obtain ⟨z, hz⟩ : ∃ z, z = x ++ y := ⟨_, rfl⟩
            rw [← hz] at HIn5
            have HZ := Aside0.mk hz
            clear hz HAY HAL HAX
            have HGT := Aside0.mk (Kd.R_mono (Kd.R_bound HIn5.out.wp.got) (ok' := fun k => True ∧ k < w5.heap.size) (fun k hk => ⟨trivial, hk.2.2.1⟩))
            obtain ⟨Ag, cg, rfl⟩ := Kd.R_slice HIn5.out.wp.got
            go_wp2_with (at_builtin; first
              | (
                refine wpList_of_step (Kd.R_append_rows_step (Kd.fixed k31 w2) (Rr := k31.K w2) (w0 := w2) w2.heap.size (by rfl) (.tmp 110) (.tmp 111) 26 31 (.agg #[.bool false, .int .u8 0, .bool false, .int .u32 0, .slice none 0 0]) 32 rfl Tryd.underlying26 HI.out rfl (show 0 < 5 from by decide) (by decide) (.slice (some ⟨w5.heap.size, 0, none⟩) 0 0) [] x Ax x.length cpx (fun _ => True) (fun _ => False) rfl rfl (lit_empty _ _ _ _ HIn5.out.wp.bel.size) (ReadsRow.imp_ HCX2.out (below_alloc HIn5.out.wp.bel _) (fun _ _ h => h)) (fun _ _ h => h) (fun _ h => h.elim) (fun _ _ => trivial) (below_alloc HIn5.out.wp.bel _) (below_alloc HIn5.out.wp.bel _).size HL1.out ?_)
                intro v6 w6 hR6 hB6 hg6 hat6
                have HR6 := Aside0.mk (show Kd.R (Kd.fixed k31 w2) 31 w6 w2.heap.size (fun _ => True) v6 x from hR6)
                have HB6 := Aside0.mk hB6
                have HGT6 := Aside0.mk (R_grow_new HGT.out (below_alloc (Below.refl _ _) (.cells #[] 31)) hg6 (fun k e => by injection e with e; exact Nat.le_of_eq e))
                have HV6 := Aside0.mk (own_new (n := w5.heap.size) (fun k e => by injection e with e; exact Nat.le_of_eq e) (by simp) hat6)
                clear hR6 hB6 hg6 hat6
                )
              | (
                refine wpList_of_step (Kd.R_append_rows_step (Kd.fixed k31 w2) (Rr := k31.K w2) (w0 := w2) w2.heap.size (by rfl) (.tmp 112) (.tmp 113) 26 31 (.agg #[.bool false, .int .u8 0, .bool false, .int .u32 0, .slice none 0 0]) 32 rfl Tryd.underlying26 HI.out rfl (show 0 < 5 from by decide) (by decide) v6 x y Ay y.length cpy (fun _ => True) (fun _ => False) rfl rfl HR6.out (ReadsRow.imp_ HCY2.out HB6.out (fun _ _ h => h)) (fun _ _ h => h) (fun _ h => h.elim) (fun _ _ => trivial) HB6.out HB6.out.size HL2.out ?_)
                intro v7 w7 hR7 hB7 hg7 hat7
                have HR7 := Aside0.mk hR7
                have HB7 := Aside0.mk hB7
                have HGT7 := Aside0.mk (R_grow_more HGT6.out hg7 HV6.out)
                clear hR7 hB7 hg7 hat7
                ))
            obtain ⟨hn9, hc9, hC9⟩ := Kd.R_reads' HGT7.out
            obtain ⟨A7, c7, rfl⟩ := Kd.R_slice HR7.out
            obtain ⟨hn8, hc8, hC8⟩ := Kd.R_reads' HR7.out
            have hC8 : Kd.C k31 w7 A7 z.length z := by
              rw [HZ.out]
              exact ReadsRow.imp_ hC8 (Below.refl _ _) (fun _ _ h => k31.K_below HB7.out h)
            rw [← HZ.out] at hc8 hn8 ⊢
            have hsm := louverref17_Same.calls (z.length + 1) Ag cg z A7 c7 z true w7 hC9 hc9 hC8 hc8 (same_all z (by have := HRM.out; rw [HZ.out, List.length_append]; omega))
            clear hn9 hc9 hC9 hn8 hc8 hC8 HR7 HGT7
            refine hsm.mono ?_
            rintro e w8 ⟨rfl, hb8⟩
            have HB8 := Aside0.mk (below_step (below_step HB2.out HB7.out) hb8)
            clear hb8 hsm
            go_wp2_with fail
            go_ret
            exact ⟨rfl, HB8.out⟩
          · obtain ⟨pr, hprb⟩ : ∃ pr : List Int, pr.all isByte = true ∧ ((j = 0 ∧ pr = b) ∨ (j = 1 ∧ pr = [])) := by
              rcases hj with ⟨h, _⟩ | ⟨h, _⟩ | ⟨h, _⟩
              · exact ⟨b, HY1.out, .inl ⟨h, rfl⟩⟩
              · exact ⟨[], rfl, .inr ⟨h, rfl⟩⟩
              · exact absurd h hj2
            obtain ⟨A, c, pl, hcell, hlc, hCx, hyx, rfl, hnx⟩ : ∃ (A : Option Addr) (c : Nat) (pl : List Int), wr.cell? ⟨gr, j, none⟩ = some (.slice A pl.length c) ∧ pl.length ≤ c ∧ Kd.C (Kd.int .u8) w A pl.length pl ∧ pl.all isByte = true ∧ lx = pl ++ pr ∧ ((j + 1 = 1 ∧ pr = b) ∨ (j + 1 = 2 ∧ pr = [])) := by
              rcases hj with ⟨rfl, rfl⟩ | ⟨rfl, rfl⟩ | ⟨h, _⟩
              · obtain rfl : pr = b := hprb.2.elim (fun h => h.2) (fun h => absurd h.1 (by decide))
                exact ⟨A0, c0, a, (blk_cell HKB.out 0).trans rfl, l0, HR0.out, HY0.out, rfl, .inl ⟨rfl, rfl⟩⟩
              · obtain rfl : pr = [] := hprb.2.elim (fun h => absurd h.1 (by decide)) (fun h => h.2)
                exact ⟨A1, c1, lx, (blk_cell HKB.out 1).trans rfl, l1, HR1.out, HY1.out, (List.append_nil _).symm, .inr ⟨rfl, rfl⟩⟩
              · exact absurd h hj2
            have hjl : j < 2 := by omega
            have HNX := Aside0.mk hnx
            have HCx := Aside0.mk hCx
            have HYx := Aside0.mk hyx
            have HYP := Aside0.mk hprb.1
            have HJJ := Aside0.mk (show ((j + 1 : Nat) : Int) = (j : Int) + 1 by omega)
            have HMU := Aside0.mk hmu
            clear hnx hCx hyx hj hprb hmu
            go_upto_block 1 with fail
            simp only [show decide ((j : Int) < 2) = true from decide_eq_true (by omega)]
            go_cut [14, 15] (fun gv code wc => TwoE (fun V => V.heap[gr]? = some (.cells #[.slice A0 a.length c0, .slice A1 b.length c1] 22 (0, 0))) x0 pr m w2 g gv code wc)
            case first =>
              go_wp2_with fail
              go_loopg [14, 15, 17] pl.length (fun mu gv code left wr => TwoP (fun V => V.heap[gr]? = some (.cells #[.slice A0 a.length c0, .slice A1 b.length c1] 22 (0, 0))) x0 pr m w2 w g mu gv code left wr)
              case atStart => exact ⟨l, pl, got, v, bad, cd, A, c, rfl, rfl, hlc, HCx.out, HYx.out, HIn.out, HID.out, rfl, HKB.out⟩
              case round =>
                clear hcell hlc HCx HYx HIn HID HKB
                obtain ⟨l, pl, got, v, bad, cd, A, c, rfl, rfl, hlc, hCx, hyx, hIn, hidle, hmu, hkb⟩ := hrel
                obtain ⟨Av, cv, rfl⟩ := Kd.R_slice hIn.wp.sp.row
                have HIn := Aside0.mk hIn
                have HCx := Aside0.mk hCx
                have HYx := Aside0.mk hyx
                have HID := Aside0.mk hidle
                have HKB := Aside0.mk hkb
                have HMP := Aside0.mk hmu
                have cb := hIn.wp.c2
                clear hIn hCx hyx hidle hkb hmu
                by_cases hx0 : pl = []
                · subst hx0
                  have hgt : decide ((([] : List Int).length : Int) > 0) = false := by decide
                  go_wp2_with fail
                  go_meet
                  case rel => exact ⟨l, got, _, bad, cd, rfl, HIn.out, HID.out, HKB.out⟩
                · have hpos : 0 < pl.length := List.length_pos_iff.mpr hx0
                  have hgt : decide ((pl.length : Int) > 0) = true := decide_eq_true (by omega)
                  cases bad with
                  | true =>
                    go_wp2_with fail
                    refine (split_bad_any g true _ cb).mono ?_
                    rintro e w2_ ⟨rfl, rfl⟩
                    go_wp2_with fail
                    go_meet
                    case rel => exact ⟨l, got, _, true, cd, rfl, HIn.out.skip (by rw [List.length_append]; omega), HIn.out.idle, HKB.out⟩
                  | false =>
                    go_wp2_with fail
                    refine (split_bad_any g false _ cb).mono ?_
                    rintro e w2_ ⟨rfl, rfl⟩
                    go_wp2_with fail
                    obtain ⟨k, hk⟩ : ∃ k, k = min pl.length (4110 - l.length) := ⟨_, rfl⟩
                    have hln := HIn.out.len
                    have hl4 := idle_lt HIn.out.byte (HID.out rfl)
                    have hkpl : k ≤ pl.length := by omega
                    have hF := Feed_any (k := k) HIn.out.wp.sp HIn.out.wp.bel HIn.out.wp.base (Kd.C_below (Kd.C_below HCx.out HB2.out) HIn.out.wp.bel) hlc hln hk
                    refine hF.mono ?_
                    rintro e w3_ hp
                    have HKB3 := Aside0.mk (keep_feed hp HIn.out.wp.sp HKB.out (by decide) (by decide))
                    have htk : (pl ++ pr).take k = pl.take k := List.take_append_of_le_length hkpl
                    have hdk : (pl ++ pr).drop k = pl.drop k ++ pr := List.drop_append_of_le_length hkpl
                    obtain ⟨v3, rfl, hIn3⟩ := HIn.out.feed (app_byte HYx.out HYP.out) (by rw [List.length_append]; omega : k ≤ (pl ++ pr).length) htk.symm (by omega) hp
                    rw [htk, hdk] at hIn3
                    obtain ⟨A3, c3, hcut3, hC3, hc3⟩ := cut_left A c k pl hkpl hlc
                    have hC3 := hC3 _ HCx.out
                    have hd3 : (pl.drop k).length = pl.length - k := List.length_drop
                    have hY3 := drop_byte HYx.out k
                    have hkne : k ≠ 0 := by omega
                    have hkz : ((k : Int) == 0) = false := beq_eq_false_iff_ne.mpr (by omega)
                    have hk0 : (0 : Int) ≤ (k : Int) := by omega
                    generalize hl3 : l ++ pl.take k = l3 at hIn3
                    generalize hpl3 : pl.drop k = pl3 at hIn3 hC3 hcut3 hc3 hd3 hY3
                    have HIn3 := Aside0.mk hIn3
                    have HC3 := Aside0.mk hC3
                    have HY3 := Aside0.mk hY3
                    have HMQ := Aside0.mk (show pl3.length < pl.length by omega)
                    have p0 : (0 : Int) ≤ (k : Int) := by omega
                    have p1 : (k : Int) ≤ (pl.length : Int) := by omega
                    have p2 : (k : Int) ≤ (c : Int) := by omega
                    obtain ⟨Av3, cv3, rfl⟩ := Kd.R_slice hIn3.wp.sp.row
                    clear hF hp htk hdk hIn3 hC3 hY3 hl3 hpl3 hd3 hk hl4 hln HIn HCx HYx HID HKB cb hkpl
                    go_upto_block 4 with fail
                    go_cut [14, 15] (fun gv code wc => TwoJ (fun V => V.heap[gr]? = some (.cells #[.slice A0 a.length c0, .slice A1 b.length c1] 22 (0, 0))) x0 m w2 g (pl3 ++ pr) l3.length gv code wc)
                    case first =>
                      go_wp2_with fail
                      go_loopg [14, 15] (l3.length + 1) (fun mu gv code wr => TwoI (fun V => V.heap[gr]? = some (.cells #[.slice A0 a.length c0, .slice A1 b.length c1] 22 (0, 0))) x0 m w2 g (pl3 ++ pr) l3.length mu gv code wr)
                      case atStart => exact ⟨l3, got, _, false, cd, rfl, HIn3.out, rfl, Nat.le_refl _, HKB3.out⟩
                      case round =>
                        obtain ⟨l', got', v', bad', cd', rfl, hIn', hmu1, hle', hkb'⟩ := hrel
                        have HIn' := Aside0.mk hIn'
                        have HKB := Aside0.mk hkb'
                        clear hIn' hkb' HIn3 HC3 HKB3
                        cases bad' with
                        | true =>
                          go_wp2_with fail
                          refine (split_next_isbad g _ HIn'.out.wp.c2).mono ?_
                          rintro e w5 ⟨rfl, hb5⟩
                          go_wp2_with fail
                          go_meet
                          case rel => exact ⟨l', got', v', true, cd', rfl, HIn'.out.below (below_alloc (below_alloc hb5 _) _), hle', HIn'.out.idle, blk_below HKB.out (below_alloc (below_alloc hb5 _) _)⟩
                        | false =>
                          by_cases hc : code1 l' m = 0
                          · by_cases hf : IsFr l' m
                            · obtain ⟨p, hpp⟩ : ∃ p : Pc, p = pieceOf (l'.take (size1 l' m)) m := ⟨_, rfl⟩
                              go_wp2_with fail
                              have hln4 := HIn'.out.len
                              refine (Next_frame HIn'.out.wp.sp HIn'.out.wp.bel HIn'.out.wp.base (HCc.out.below HIn'.out.wp.bel) HIn'.out.byte hf (by omega) hpp).mono ?_
                              rintro e w5 hnp
                              obtain ⟨v5, pv, rfl, hw5, hr5, hlt5, hput⟩ := HIn'.out.next hf hpp hnp
                              obtain ⟨Ap, cp, rfl⟩ := Kd.R_slice hr5
                              have HLT5 := Aside0.mk hlt5
                              have HPUT := Aside0.mk hput
                              have HW5 := Aside0.mk hw5
                              have HR5 := Aside0.mk hr5
                              have HKB5 := Aside0.mk (keep_next hnp HIn'.out.wp.sp HKB.out (by decide))
                              have HGL := Aside0.mk (show (got'.length + 1) * 32 ≤ 140737488355328 by have := HIn'.out.room; have := HLX.out; omega)
                              clear hnp hw5 hr5 hlt5 hput hpp hf hc hln4
                              go_upto_region 17 with fail
                              have hb6 : Below w5.heap.size w5 ((w5.alloc (.cells #[.bool p.f0, .int .u8 p.f1, .bool p.f2, .int .u32 p.f3, .slice Ap p.f4.length cp] 31)).alloc (.cells #[.int .u8 0, .int .u32 0] 33)) := below_alloc (below_alloc (Below.refl _ _) _) _
                              have hx0 : ((w5.alloc (.cells #[.bool p.f0, .int .u8 p.f1, .bool p.f2, .int .u32 p.f3, .slice Ap p.f4.length cp] 31)).alloc (.cells #[.int .u8 0, .int .u32 0] 33)).heap[w5.heap.size]? = some (.cells #[.bool p.f0, .int .u8 p.f1, .bool p.f2, .int .u32 p.f3, .slice Ap p.f4.length cp] 31 (0, 0)) := blk_alloc (last_at _ _ _ rfl) _
                              have hx1 : ((w5.alloc (.cells #[.bool p.f0, .int .u8 p.f1, .bool p.f2, .int .u32 p.f3, .slice Ap p.f4.length cp] 31)).alloc (.cells #[.int .u8 0, .int .u32 0] 33)).heap[w5.heap.size + 1]? = some (.cells #[.int .u8 0, .int .u32 0] 33 (0, 0)) := last_at _ _ _ (by simp)
                              generalize (w5.alloc (.cells #[.bool p.f0, .int .u8 p.f1, .bool p.f2, .int .u32 p.f3, .slice Ap p.f4.length cp] 31)).alloc (.cells #[.int .u8 0, .int .u32 0] 33) = w6 at hb6 hx0 hx1 ⊢
                              have HW6 := Aside0.mk (HW5.out.below hb6)
                              have HR6 := Aside0.mk (Kd.R_below HR5.out hb6)
                              have HKB6 := Aside0.mk (blk_below HKB5.out hb6)
                              generalize w5.heap.size = gp at hx0 hx1 ⊢
                              have y0 : w6.cell? ⟨gp, 0, none⟩ = some (.bool p.f0) := (blk_cell hx0 0).trans rfl
                              have y1 : w6.cell? ⟨gp, 1, none⟩ = some (.int .u8 p.f1) := (blk_cell hx0 1).trans rfl
                              have y2 : w6.cell? ⟨gp, 2, none⟩ = some (.bool p.f2) := (blk_cell hx0 2).trans rfl
                              have y3 : w6.cell? ⟨gp, 3, none⟩ = some (.int .u32 p.f3) := (blk_cell hx0 3).trans rfl
                              have y4 : w6.cell? ⟨gp, 4, none⟩ = some (.slice Ap p.f4.length cp) := (blk_cell hx0 4).trans rfl
                              have z0 : w6.cell? ⟨gp + 1, 0, none⟩ = some (.int .u8 0) := (blk_cell hx1 0).trans rfl
                              have z1 : w6.cell? ⟨gp + 1, 1, none⟩ = some (.int .u32 0) := (blk_cell hx1 1).trans rfl
                              clear hb6 hx0 hx1 HW5 HR5 HIn'
                              go_wp2_with (at_builtin; refine Kd.R_append k31 (w0 := w2) w2.heap.size rfl (.tmp 100) (.tmp 102) 26 31 (.agg #[.bool false, .int .u8 0, .bool false, .int .u32 0, .slice none 0 0]) 32 rfl Tryd.underlying26 HI.out rfl (by decide) (by decide) u14 got' p [.bool p.f0, .int .u8 p.f1, .bool p.f2, .int .u32 p.f3, .slice Ap p.f4.length cp] (fun k => some k ≠ v5.ownBlock) (fun k => some k ≠ v5.ownBlock ∧ some k ≠ u14.ownBlock) rfl rfl ?aP (fun _ h => h) ?aF HW6.out.got HW6.out.bel HW6.out.bel.size HGL.out ?_; (case aP => exact k31_mkM _ _ _ p HR6.out); (case aF => exact fun k hk e => by have := Kd.R_lt HW6.out.sp.row k e.symm; omega); intro v1 w7 hR1 hB1 hg1 hat1; have HKB7 := Aside0.mk (blk_grown HKB6.out hg1 (Kd.R_ne HW6.out.got HKB6.out (by decide))); have HW7 := Aside0.mk (HPUT.out _ _ (HW6.out.push hg1 hB1 hR1)); clear hR1 hB1 hg1 hat1 HW6 HR6 y0 y1 y2 y3 y4 z0 z1)
                              go_roundg ((l'.drop (size1 l' m)).length + 1)
                              case measure => have := HLT5.out; have h := hmu1; simp at h; omega
                              case rel => exact ⟨_, _, _, false, cd', rfl, HW7.out, rfl, Nat.le_trans (Nat.le_of_lt HLT5.out) hle', HKB7.out⟩
                            · go_wp2_with fail
                              refine (Next_none HIn'.out.wp.sp (HCc.out.below HIn'.out.wp.bel) HIn'.out.byte hc hf).mono ?_
                              rintro e w5 ⟨rfl, hb5⟩
                              go_wp2_with fail
                              go_meet
                              case rel => exact ⟨l', got', v', false, cd', rfl, HIn'.out.below (below_alloc (below_alloc hb5 _) _), hle', fun _ => ⟨hc, hf⟩, blk_below HKB.out (below_alloc (below_alloc hb5 _) _)⟩
                          · go_wp2_with fail
                            refine (Next_bad HIn'.out.wp.sp HIn'.out.wp.bel HIn'.out.wp.base (HCc.out.below HIn'.out.wp.bel) HIn'.out.byte hc).mono ?_
                            rintro e w5 hnp
                            obtain ⟨rfl, hin5, hpos5⟩ := HIn'.out.nextbad hc hnp
                            have HIn5 := Aside0.mk hin5
                            have HBY := Aside0.mk HIn'.out.byte
                            have hcb : (code1 l' m != 0) = true := bne_iff_ne.mpr hc
                            have HKB5 := Aside0.mk (keep_bad hnp HIn'.out.wp.sp HKB.out (by decide))
                            clear hnp hin5
                            go_upto_region 17 with fail
                            have hb6 : Below w5.heap.size w5 ((w5.alloc (.cells #[.bool false, .int .u8 0, .bool false, .int .u32 0, .slice none 0 0] 31)).alloc (.cells #[.int .u8 3, .int .u32 (code1 l' m)] 33)) := below_alloc (below_alloc (Below.refl _ _) _) _
                            have hx0 : ((w5.alloc (.cells #[.bool false, .int .u8 0, .bool false, .int .u32 0, .slice none 0 0] 31)).alloc (.cells #[.int .u8 3, .int .u32 (code1 l' m)] 33)).heap[w5.heap.size]? = some (.cells #[.bool false, .int .u8 0, .bool false, .int .u32 0, .slice none 0 0] 31 (0, 0)) := blk_alloc (last_at _ _ _ rfl) _
                            have hx1 : ((w5.alloc (.cells #[.bool false, .int .u8 0, .bool false, .int .u32 0, .slice none 0 0] 31)).alloc (.cells #[.int .u8 3, .int .u32 (code1 l' m)] 33)).heap[w5.heap.size + 1]? = some (.cells #[.int .u8 3, .int .u32 (code1 l' m)] 33 (0, 0)) := last_at _ _ _ (by simp)
                            generalize (w5.alloc (.cells #[.bool false, .int .u8 0, .bool false, .int .u32 0, .slice none 0 0] 31)).alloc (.cells #[.int .u8 3, .int .u32 (code1 l' m)] 33) = w6 at hb6 hx0 hx1 ⊢
                            have HIn6 := Aside0.mk (HIn5.out.below hb6)
                            have cb6 := HIn6.out.wp.c2
                            have HKB6 := Aside0.mk (blk_below HKB5.out hb6)
                            generalize w5.heap.size = gp at hx0 hx1 ⊢
                            have y0 : w6.cell? ⟨gp, 0, none⟩ = some (.bool false) := (blk_cell hx0 0).trans rfl
                            have y1 : w6.cell? ⟨gp, 1, none⟩ = some (.int .u8 0) := (blk_cell hx0 1).trans rfl
                            have y2 : w6.cell? ⟨gp, 2, none⟩ = some (.bool false) := (blk_cell hx0 2).trans rfl
                            have y3 : w6.cell? ⟨gp, 3, none⟩ = some (.int .u32 0) := (blk_cell hx0 3).trans rfl
                            have y4 : w6.cell? ⟨gp, 4, none⟩ = some (.slice none 0 0) := (blk_cell hx0 4).trans rfl
                            have z0 : w6.cell? ⟨gp + 1, 0, none⟩ = some (.int .u8 3) := (blk_cell hx1 0).trans rfl
                            have z1 : w6.cell? ⟨gp + 1, 1, none⟩ = some (.int .u32 (code1 l' m)) := (blk_cell hx1 1).trans rfl
                            clear hb6 hx0 hx1 HIn5 HIn'
                            go_wp2_with fail
                            go_roundg 0
                            case measure => have h := hmu1; simp at h; omega
                            case rel => exact ⟨[], got', _, true, code1 l' m, by rw [wrap_code HBY.out], HIn6.out, rfl, Nat.zero_le _, HKB6.out⟩
                    case rest =>
                      obtain ⟨l4, got4, v4, bad4, cd4, rfl, hIn4, hle4, hid4, hkb4⟩ := hcut
                      have HIn4 := Aside0.mk hIn4
                      have HID4 := Aside0.mk hid4
                      have HKB4 := Aside0.mk hkb4
                      clear hIn4 hid4 hkb4 HIn3 HKB3
                      go_wp2_with fail
                      go_roundg pl3.length
                      case measure => have := HMP.out; have := HMQ.out; omega
                      case rel => exact ⟨l4, pl3, got4, v4, bad4, cd4, A3, c3, rfl, rfl, hc3, HC3.out, HY3.out, HIn4.out, HID4.out, rfl, HKB4.out⟩
            case rest =>
              obtain ⟨l5, got5, v5, bad5, cd5, rfl, hIn5, hid5, hkb5⟩ := hcut
              clear HIn HCx HYx HID HKB hcell hlc
              have HIn5 := Aside0.mk hIn5
              have HID5 := Aside0.mk hid5
              have HKB5 := Aside0.mk hkb5
              clear hIn5 hid5 hkb5
              go_wp2_with fail
              go_roundg (2 - (j + 1))
              case measure => have := HMU.out; omega
              case rel => exact ⟨l5, pr, got5, v5, bad5, cd5, j + 1, rfl, by rw [HJJ.out], HIn5.out, HID5.out, .inr HNX.out, rfl, HKB5.out⟩
      · have hrl : ((rx.length : Int) != 0) = true := bne_iff_ne.mpr (by have := mt List.length_eq_zero_iff.mp hrx0; omega)
        go_wp2_with fail
        refine (fixed_yes _ (HC.out.below HB1.out)).mono ?_
        rintro e w3_ ⟨rfl, hb_⟩
        go_wp2_with fail
        go_ret
        exact ⟨rfl, below_step HB1.out hb_⟩
    · have hcl : (cx != 0) = true := bne_iff_ne.mpr hcx0
      go_wp2_with fail
      refine (fixed_yes _ (HC.out.below HB1.out)).mono ?_
      rintro e w3_ ⟨rfl, hb_⟩
      go_wp2_with fail
      go_ret
      exact ⟨rfl, below_step HB1.out hb_⟩
end Go.Proofs.YtkhlldhcmgkioaaDoor

