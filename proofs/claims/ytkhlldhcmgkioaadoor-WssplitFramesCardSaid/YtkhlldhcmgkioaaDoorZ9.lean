/- What the law's row rests on, part 9. -/
import Derived.Test.YtkhlldhcmgkioaaDoorZ8
import Derived.Lib.SlBytesConst
import Derived.Deep.RegionHeld3
import Derived.Deep.LoopGhost
import Derived.Deep.DeepCutAuto
import Derived.Deep.CutBlock
/- fixed of chapter 17. -/
namespace Go.Proofs.YtkhlldhcmgkioaaDoor.PAll
open Go.RowKit Go.Proofs.YtkhlldhcmgkioaaDoorW.PrintWords Go.Proofs.YtkhlldhcmgkioaaDoorW.PrintLast Go.Proofs.YtkhlldhcmgkioaaDoorW.PrintMore 
set_option linter.unusedVariables false
set_option linter.unusedSimpArgs false
theorem C_marked (W : World) (t : TypeId) (fr : Nat × Nat) (xs : List Int) (hm : xs.length ≤ 9223372036854775807) : (Kd.int .u8).C (W.alloc (.cells (nums .u8 xs).toArray t fr)) (some ⟨W.heap.size, 0, none⟩) xs.length xs := by
  refine Kd.C_of_reads (d := 0) ⟨rfl, hm, fun _ => ⟨_, rfl, fun j hj => ?_⟩⟩
  rw [add_plain, World.cell?_alloc_mark]
  simp [nums, hj]
def fixB : ByteArray := ⟨#[129, 130, 0, 0, 0, 7, 97, 98]⟩
theorem fix_put : louverref16_Put.f 40 true 1 true 7 [97, 98] = some fixB := by decide +kernel
theorem fix_get : wsframe_Get.f 40 [129, 130, 0, 0, 0, 7, 97, 98] true = some (true, 1, true, 7, [97, 98], 0, 0) := by kernel_rfl
theorem fix_clone : bytes_Clone.f [] = some [] := by decide +kernel
theorem fix_same : (strOfNums [97, 98]).toList = [97, 98] := by
  have : ∀ b : ByteArray, b.data.toList = [97, 98] → b.toList = [97, 98] := fun b h => by
    rw [ByteArray.toList_eq, h]
  exact this _ (by decide +kernel)
theorem fix_size : fixB.size = 8 := by decide +kernel
theorem fix_head0 : wsframe_Head.f [] true = some (0, 0, 0, false) := by decide +kernel
theorem fix_head1 : wsframe_Head.f [129] true = some (0, 0, 0, false) := by decide +kernel
theorem fix_head2 : wsframe_Head.f [129, 130] true = some (8, 0, 0, true) := by decide +kernel
theorem fix_head3 : wsframe_Head.f [129, 130, 0] true = some (8, 0, 0, true) := by decide +kernel
theorem fix_head4 : wsframe_Head.f [129, 130, 0, 0] true = some (8, 0, 0, true) := by decide +kernel
theorem fix_head5 : wsframe_Head.f [129, 130, 0, 0, 0] true = some (8, 0, 0, true) := by decide +kernel
theorem fix_head6 : wsframe_Head.f [129, 130, 0, 0, 0, 7] true = some (8, 0, 0, true) := by decide +kernel
theorem fix_head7 : wsframe_Head.f [129, 130, 0, 0, 0, 7, 97] true = some (8, 0, 0, true) := by decide +kernel
theorem fix_head8 : wsframe_Head.f [129, 130, 0, 0, 0, 7, 97, 98] true = some (8, 0, 0, true) := by decide +kernel
theorem fix_sz0 : (fixB.extract 0 1).size = ([129] : List Int).length := by decide +kernel
theorem fix_by0 : bytesOf (fixB.extract 0 1) = [129] := by decide +kernel
theorem fix_sz1 : (fixB.extract 1 2).size = ([130] : List Int).length := by decide +kernel
theorem fix_by1 : bytesOf (fixB.extract 1 2) = [130] := by decide +kernel
theorem fix_sz2 : (fixB.extract 2 3).size = ([0] : List Int).length := by decide +kernel
theorem fix_by2 : bytesOf (fixB.extract 2 3) = [0] := by decide +kernel
theorem fix_sz3 : (fixB.extract 3 4).size = ([0] : List Int).length := by decide +kernel
theorem fix_by3 : bytesOf (fixB.extract 3 4) = [0] := by decide +kernel
theorem fix_sz4 : (fixB.extract 4 5).size = ([0] : List Int).length := by decide +kernel
theorem fix_by4 : bytesOf (fixB.extract 4 5) = [0] := by decide +kernel
theorem fix_sz5 : (fixB.extract 5 6).size = ([7] : List Int).length := by decide +kernel
theorem fix_by5 : bytesOf (fixB.extract 5 6) = [7] := by decide +kernel
theorem fix_sz6 : (fixB.extract 6 7).size = ([97] : List Int).length := by decide +kernel
theorem fix_by6 : bytesOf (fixB.extract 6 7) = [97] := by decide +kernel
theorem fix_sz7 : (fixB.extract 7 8).size = ([98] : List Int).length := by decide +kernel
theorem fix_by7 : bytesOf (fixB.extract 7 8) = [98] := by decide +kernel
set_option maxHeartbeats 8000000 in
set_option maxRecDepth 100000 in
theorem fixed_yes (w0 : World) (hg : Cond w0) : Calls Tryd.prog 7 #[] w0 fun e w' => e = .returned (.bool true) ∧ Below w0.heap.size w0 w' := by
  have kc := fun (w : World) (C : Array Value) (n c : Nat) => Lib.run_convert_bytes_const (P := Tryd.prog) w 22 5 C n c Tryd.underlying22 Tryd.underlying5
  have HC := Aside0.mk hg
  clear hg
  go_enter Tryd.func7, Tryd.ntmps7
  go_wp2_with fail
  refine (split_new true w0 _ (Below.refl _ _)).mono ?_
  rintro e w1 ⟨rfl, hs, hb⟩
  have hgb : w0.heap.size ≤ w0.heap.size := Nat.le_refl _
  have hs := hs
  obtain ⟨g, hgg⟩ : ∃ g, g = w0.heap.size := ⟨_, rfl⟩
  rw [← hgg] at hs ⊢
  have hgb : w0.heap.size ≤ g := by omega
  clear hgg
  have HS := Aside0.mk hs
  have HB := Aside0.mk hb
  clear hs hb
  go_wp2_with fail
  refine (louverref16_Put.calls 40 true 1 true 7 _ _ [97, 98] fixB _ (C_marked w1 5 (2, 3) [97, 98] (by decide)) (Nat.le_refl _) fix_put).mono ?_
  rintro e w2 ⟨rfl, hb⟩
  have hbb := below_step (below_alloc (Below.refl w1.heap.size w1) _) hb
  have HS2 := Aside0.mk (HS.out.below hbb)
  have HB2 := Aside0.mk (below_step HB.out hbb)
  clear HS HB hb hbb
  have HS := HS2
  have HB := HB2
  clear HS2 HB2
  generalize (Value.slice none 0 0) = v at HS
  have fsz := fix_size
  have hcv : ∀ (i : Nat) (W : World), (fixB.extract i (i + 1)).size = 1 → (convert 9 22 (.string (fixB.extract i (i + 1)))).run Tryd.prog W = .ok (.slice (some ⟨W.heap.size, 0, none⟩) 1 (grownCap W 1 0 5)) (Lib.bytesWorld W 5 (fixB.extract i (i + 1))) := fun i W h => by
    have h2 := print_bytes (P := Tryd.prog) 9 22 5 Tryd.underlying9 Tryd.underlying22 Tryd.underlying5 (fixB.extract i (i + 1)) W
    rw [h] at h2
    exact h2
  go_wp2_with fail
  refine wp_loop_rounds 9 ?_
  have hcv0 : ∀ W : World, (convert 9 22 (.string (fixB.extract 0 1))).run Tryd.prog W = .ok (.slice (some ⟨W.heap.size, 0, none⟩) 1 (grownCap W 1 0 5)) (Lib.bytesWorld W 5 (fixB.extract 0 1)) := fun W => hcv 0 W fix_sz0
  rw [rounds_succ]
  go_wp2_with fail
  refine (split_next_none w0 _ g v true [] 0 0 0 false HS.out (HC.out.below HB.out) fix_head0 rfl).mono ?_
  rintro e w3 ⟨rfl, hb⟩
  have HS3 := Aside0.mk (HS.out.below hb)
  have HB3 := Aside0.mk (below_step HB.out hb)
  clear HS HB hb
  go_upto_region 7 with fail
  have hb4 : Below w3.heap.size w3 ((w3.alloc (.cells #[.bool false, .int .u8 0, .bool false, .int .u32 0, .slice none 0 0] 31)).alloc (.cells #[.int .u8 0, .int .u32 0] 33)) := below_alloc (below_alloc (Below.refl _ _) _) _
  generalize (w3.alloc (.cells #[.bool false, .int .u8 0, .bool false, .int .u32 0, .slice none 0 0] 31)).alloc (.cells #[.int .u8 0, .int .u32 0] 33) = w4 at hb4 ⊢
  have HS4 := Aside0.mk (HS3.out.below hb4)
  have HB4 := Aside0.mk (below_step HB3.out hb4)
  clear HS3 HB3 hb4
  go_wp2_with fail
  have hbw := bytes_below (Below.refl w4.heap.size w4) (Nat.le_refl _) 5 (fixB.extract 0 1)
  have hC7 : Kd.C (Kd.int .u8) (Lib.bytesWorld w4 5 (fixB.extract 0 1)) (some ⟨w4.heap.size, 0, none⟩) ([129] : List Int).length [129] := by
    have h := bytes_reads w4 5 (fixB.extract 0 1) (by rw [fix_sz0]; decide)
    rw [fix_sz0, fix_by0] at h
    exact Kd.C_of_reads (d := (0 : Int)) (h1 := fun _ => rfl) h
  have hcap : ([129] : List Int).length ≤ grownCap w4 1 0 5 := grownCap_ge _ _ _ _
  refine (split_feed_fit w0 _ g v true [] [129] (some ⟨w4.heap.size, 0, none⟩) _ (HS4.out.below hbw) (below_step HB4.out hbw) hgb hC7 hcap (by decide)).mono ?_
  rintro e w5 ⟨v5, rfl, hs, hb, hsz, hk, ho⟩
  have HS : Aside0 (Sp w0 w5 g v5 true false [129]) := ⟨hs⟩
  have HB := Aside0.mk hb
  clear hs hb hsz hk ho hbw hC7 hcap HS4 HB4 hcv0
  go_wp2
  obtain ⟨v, hv5⟩ : ∃ v, v = v5 := ⟨_, rfl⟩
  rw [← hv5] at HS
  clear hv5
  obtain ⟨w2, hw5⟩ : ∃ w2, w2 = w5 := ⟨_, rfl⟩
  rw [← hw5] at HS HB ⊢
  clear hw5
  have hcv1 : ∀ W : World, (convert 9 22 (.string (fixB.extract 1 2))).run Tryd.prog W = .ok (.slice (some ⟨W.heap.size, 0, none⟩) 1 (grownCap W 1 0 5)) (Lib.bytesWorld W 5 (fixB.extract 1 2)) := fun W => hcv 1 W fix_sz1
  rw [rounds_succ]
  go_wp2_with fail
  refine (split_next_none w0 _ g v true [129] 0 0 0 false HS.out (HC.out.below HB.out) fix_head1 rfl).mono ?_
  rintro e w3 ⟨rfl, hb⟩
  have HS3 := Aside0.mk (HS.out.below hb)
  have HB3 := Aside0.mk (below_step HB.out hb)
  clear HS HB hb
  go_upto_region 7 with fail
  have hb4 : Below w3.heap.size w3 ((w3.alloc (.cells #[.bool false, .int .u8 0, .bool false, .int .u32 0, .slice none 0 0] 31)).alloc (.cells #[.int .u8 0, .int .u32 0] 33)) := below_alloc (below_alloc (Below.refl _ _) _) _
  generalize (w3.alloc (.cells #[.bool false, .int .u8 0, .bool false, .int .u32 0, .slice none 0 0] 31)).alloc (.cells #[.int .u8 0, .int .u32 0] 33) = w4 at hb4 ⊢
  have HS4 := Aside0.mk (HS3.out.below hb4)
  have HB4 := Aside0.mk (below_step HB3.out hb4)
  clear HS3 HB3 hb4
  go_wp2_with fail
  have hbw := bytes_below (Below.refl w4.heap.size w4) (Nat.le_refl _) 5 (fixB.extract 1 2)
  have hC7 : Kd.C (Kd.int .u8) (Lib.bytesWorld w4 5 (fixB.extract 1 2)) (some ⟨w4.heap.size, 0, none⟩) ([130] : List Int).length [130] := by
    have h := bytes_reads w4 5 (fixB.extract 1 2) (by rw [fix_sz1]; decide)
    rw [fix_sz1, fix_by1] at h
    exact Kd.C_of_reads (d := (0 : Int)) (h1 := fun _ => rfl) h
  have hcap : ([130] : List Int).length ≤ grownCap w4 1 0 5 := grownCap_ge _ _ _ _
  refine (split_feed_fit w0 _ g v true [129] [130] (some ⟨w4.heap.size, 0, none⟩) _ (HS4.out.below hbw) (below_step HB4.out hbw) hgb hC7 hcap (by decide)).mono ?_
  rintro e w5 ⟨v5, rfl, hs, hb, hsz, hk, ho⟩
  have HS : Aside0 (Sp w0 w5 g v5 true false [129, 130]) := ⟨hs⟩
  have HB := Aside0.mk hb
  clear hs hb hsz hk ho hbw hC7 hcap HS4 HB4 hcv1
  go_wp2
  obtain ⟨v, hv5⟩ : ∃ v, v = v5 := ⟨_, rfl⟩
  rw [← hv5] at HS
  clear hv5
  obtain ⟨w2, hw5⟩ : ∃ w2, w2 = w5 := ⟨_, rfl⟩
  rw [← hw5] at HS HB ⊢
  clear hw5
  have hcv2 : ∀ W : World, (convert 9 22 (.string (fixB.extract 2 3))).run Tryd.prog W = .ok (.slice (some ⟨W.heap.size, 0, none⟩) 1 (grownCap W 1 0 5)) (Lib.bytesWorld W 5 (fixB.extract 2 3)) := fun W => hcv 2 W fix_sz2
  rw [rounds_succ]
  go_wp2_with fail
  refine (split_next_more w0 _ g v true [129, 130] 8 0 0 true HS.out (HC.out.below HB.out) fix_head2 rfl rfl rfl (by decide)).mono ?_
  rintro e w3 ⟨rfl, hb⟩
  have HS3 := Aside0.mk (HS.out.below hb)
  have HB3 := Aside0.mk (below_step HB.out hb)
  clear HS HB hb
  go_upto_region 7 with fail
  have hb4 : Below w3.heap.size w3 ((w3.alloc (.cells #[.bool false, .int .u8 0, .bool false, .int .u32 0, .slice none 0 0] 31)).alloc (.cells #[.int .u8 0, .int .u32 0] 33)) := below_alloc (below_alloc (Below.refl _ _) _) _
  generalize (w3.alloc (.cells #[.bool false, .int .u8 0, .bool false, .int .u32 0, .slice none 0 0] 31)).alloc (.cells #[.int .u8 0, .int .u32 0] 33) = w4 at hb4 ⊢
  have HS4 := Aside0.mk (HS3.out.below hb4)
  have HB4 := Aside0.mk (below_step HB3.out hb4)
  clear HS3 HB3 hb4
  go_wp2_with fail
  have hbw := bytes_below (Below.refl w4.heap.size w4) (Nat.le_refl _) 5 (fixB.extract 2 3)
  have hC7 : Kd.C (Kd.int .u8) (Lib.bytesWorld w4 5 (fixB.extract 2 3)) (some ⟨w4.heap.size, 0, none⟩) ([0] : List Int).length [0] := by
    have h := bytes_reads w4 5 (fixB.extract 2 3) (by rw [fix_sz2]; decide)
    rw [fix_sz2, fix_by2] at h
    exact Kd.C_of_reads (d := (0 : Int)) (h1 := fun _ => rfl) h
  have hcap : ([0] : List Int).length ≤ grownCap w4 1 0 5 := grownCap_ge _ _ _ _
  refine (split_feed_fit w0 _ g v true [129, 130] [0] (some ⟨w4.heap.size, 0, none⟩) _ (HS4.out.below hbw) (below_step HB4.out hbw) hgb hC7 hcap (by decide)).mono ?_
  rintro e w5 ⟨v5, rfl, hs, hb, hsz, hk, ho⟩
  have HS : Aside0 (Sp w0 w5 g v5 true false [129, 130, 0]) := ⟨hs⟩
  have HB := Aside0.mk hb
  clear hs hb hsz hk ho hbw hC7 hcap HS4 HB4 hcv2
  go_wp2
  obtain ⟨v, hv5⟩ : ∃ v, v = v5 := ⟨_, rfl⟩
  rw [← hv5] at HS
  clear hv5
  obtain ⟨w2, hw5⟩ : ∃ w2, w2 = w5 := ⟨_, rfl⟩
  rw [← hw5] at HS HB ⊢
  clear hw5
  have hcv3 : ∀ W : World, (convert 9 22 (.string (fixB.extract 3 4))).run Tryd.prog W = .ok (.slice (some ⟨W.heap.size, 0, none⟩) 1 (grownCap W 1 0 5)) (Lib.bytesWorld W 5 (fixB.extract 3 4)) := fun W => hcv 3 W fix_sz3
  rw [rounds_succ]
  go_wp2_with fail
  refine (split_next_more w0 _ g v true [129, 130, 0] 8 0 0 true HS.out (HC.out.below HB.out) fix_head3 rfl rfl rfl (by decide)).mono ?_
  rintro e w3 ⟨rfl, hb⟩
  have HS3 := Aside0.mk (HS.out.below hb)
  have HB3 := Aside0.mk (below_step HB.out hb)
  clear HS HB hb
  go_upto_region 7 with fail
  have hb4 : Below w3.heap.size w3 ((w3.alloc (.cells #[.bool false, .int .u8 0, .bool false, .int .u32 0, .slice none 0 0] 31)).alloc (.cells #[.int .u8 0, .int .u32 0] 33)) := below_alloc (below_alloc (Below.refl _ _) _) _
  generalize (w3.alloc (.cells #[.bool false, .int .u8 0, .bool false, .int .u32 0, .slice none 0 0] 31)).alloc (.cells #[.int .u8 0, .int .u32 0] 33) = w4 at hb4 ⊢
  have HS4 := Aside0.mk (HS3.out.below hb4)
  have HB4 := Aside0.mk (below_step HB3.out hb4)
  clear HS3 HB3 hb4
  go_wp2_with fail
  have hbw := bytes_below (Below.refl w4.heap.size w4) (Nat.le_refl _) 5 (fixB.extract 3 4)
  have hC7 : Kd.C (Kd.int .u8) (Lib.bytesWorld w4 5 (fixB.extract 3 4)) (some ⟨w4.heap.size, 0, none⟩) ([0] : List Int).length [0] := by
    have h := bytes_reads w4 5 (fixB.extract 3 4) (by rw [fix_sz3]; decide)
    rw [fix_sz3, fix_by3] at h
    exact Kd.C_of_reads (d := (0 : Int)) (h1 := fun _ => rfl) h
  have hcap : ([0] : List Int).length ≤ grownCap w4 1 0 5 := grownCap_ge _ _ _ _
  refine (split_feed_fit w0 _ g v true [129, 130, 0] [0] (some ⟨w4.heap.size, 0, none⟩) _ (HS4.out.below hbw) (below_step HB4.out hbw) hgb hC7 hcap (by decide)).mono ?_
  rintro e w5 ⟨v5, rfl, hs, hb, hsz, hk, ho⟩
  have HS : Aside0 (Sp w0 w5 g v5 true false [129, 130, 0, 0]) := ⟨hs⟩
  have HB := Aside0.mk hb
  clear hs hb hsz hk ho hbw hC7 hcap HS4 HB4 hcv3
  go_wp2
  obtain ⟨v, hv5⟩ : ∃ v, v = v5 := ⟨_, rfl⟩
  rw [← hv5] at HS
  clear hv5
  obtain ⟨w2, hw5⟩ : ∃ w2, w2 = w5 := ⟨_, rfl⟩
  rw [← hw5] at HS HB ⊢
  clear hw5
  have hcv4 : ∀ W : World, (convert 9 22 (.string (fixB.extract 4 5))).run Tryd.prog W = .ok (.slice (some ⟨W.heap.size, 0, none⟩) 1 (grownCap W 1 0 5)) (Lib.bytesWorld W 5 (fixB.extract 4 5)) := fun W => hcv 4 W fix_sz4
  rw [rounds_succ]
  go_wp2_with fail
  refine (split_next_more w0 _ g v true [129, 130, 0, 0] 8 0 0 true HS.out (HC.out.below HB.out) fix_head4 rfl rfl rfl (by decide)).mono ?_
  rintro e w3 ⟨rfl, hb⟩
  have HS3 := Aside0.mk (HS.out.below hb)
  have HB3 := Aside0.mk (below_step HB.out hb)
  clear HS HB hb
  go_upto_region 7 with fail
  have hb4 : Below w3.heap.size w3 ((w3.alloc (.cells #[.bool false, .int .u8 0, .bool false, .int .u32 0, .slice none 0 0] 31)).alloc (.cells #[.int .u8 0, .int .u32 0] 33)) := below_alloc (below_alloc (Below.refl _ _) _) _
  generalize (w3.alloc (.cells #[.bool false, .int .u8 0, .bool false, .int .u32 0, .slice none 0 0] 31)).alloc (.cells #[.int .u8 0, .int .u32 0] 33) = w4 at hb4 ⊢
  have HS4 := Aside0.mk (HS3.out.below hb4)
  have HB4 := Aside0.mk (below_step HB3.out hb4)
  clear HS3 HB3 hb4
  go_wp2_with fail
  have hbw := bytes_below (Below.refl w4.heap.size w4) (Nat.le_refl _) 5 (fixB.extract 4 5)
  have hC7 : Kd.C (Kd.int .u8) (Lib.bytesWorld w4 5 (fixB.extract 4 5)) (some ⟨w4.heap.size, 0, none⟩) ([0] : List Int).length [0] := by
    have h := bytes_reads w4 5 (fixB.extract 4 5) (by rw [fix_sz4]; decide)
    rw [fix_sz4, fix_by4] at h
    exact Kd.C_of_reads (d := (0 : Int)) (h1 := fun _ => rfl) h
  have hcap : ([0] : List Int).length ≤ grownCap w4 1 0 5 := grownCap_ge _ _ _ _
  refine (split_feed_fit w0 _ g v true [129, 130, 0, 0] [0] (some ⟨w4.heap.size, 0, none⟩) _ (HS4.out.below hbw) (below_step HB4.out hbw) hgb hC7 hcap (by decide)).mono ?_
  rintro e w5 ⟨v5, rfl, hs, hb, hsz, hk, ho⟩
  have HS : Aside0 (Sp w0 w5 g v5 true false [129, 130, 0, 0, 0]) := ⟨hs⟩
  have HB := Aside0.mk hb
  clear hs hb hsz hk ho hbw hC7 hcap HS4 HB4 hcv4
  go_wp2
  obtain ⟨v, hv5⟩ : ∃ v, v = v5 := ⟨_, rfl⟩
  rw [← hv5] at HS
  clear hv5
  obtain ⟨w2, hw5⟩ : ∃ w2, w2 = w5 := ⟨_, rfl⟩
  rw [← hw5] at HS HB ⊢
  clear hw5
  have hcv5 : ∀ W : World, (convert 9 22 (.string (fixB.extract 5 6))).run Tryd.prog W = .ok (.slice (some ⟨W.heap.size, 0, none⟩) 1 (grownCap W 1 0 5)) (Lib.bytesWorld W 5 (fixB.extract 5 6)) := fun W => hcv 5 W fix_sz5
  rw [rounds_succ]
  go_wp2_with fail
  refine (split_next_more w0 _ g v true [129, 130, 0, 0, 0] 8 0 0 true HS.out (HC.out.below HB.out) fix_head5 rfl rfl rfl (by decide)).mono ?_
  rintro e w3 ⟨rfl, hb⟩
  have HS3 := Aside0.mk (HS.out.below hb)
  have HB3 := Aside0.mk (below_step HB.out hb)
  clear HS HB hb
  go_upto_region 7 with fail
  have hb4 : Below w3.heap.size w3 ((w3.alloc (.cells #[.bool false, .int .u8 0, .bool false, .int .u32 0, .slice none 0 0] 31)).alloc (.cells #[.int .u8 0, .int .u32 0] 33)) := below_alloc (below_alloc (Below.refl _ _) _) _
  generalize (w3.alloc (.cells #[.bool false, .int .u8 0, .bool false, .int .u32 0, .slice none 0 0] 31)).alloc (.cells #[.int .u8 0, .int .u32 0] 33) = w4 at hb4 ⊢
  have HS4 := Aside0.mk (HS3.out.below hb4)
  have HB4 := Aside0.mk (below_step HB3.out hb4)
  clear HS3 HB3 hb4
  go_wp2_with fail
  have hbw := bytes_below (Below.refl w4.heap.size w4) (Nat.le_refl _) 5 (fixB.extract 5 6)
  have hC7 : Kd.C (Kd.int .u8) (Lib.bytesWorld w4 5 (fixB.extract 5 6)) (some ⟨w4.heap.size, 0, none⟩) ([7] : List Int).length [7] := by
    have h := bytes_reads w4 5 (fixB.extract 5 6) (by rw [fix_sz5]; decide)
    rw [fix_sz5, fix_by5] at h
    exact Kd.C_of_reads (d := (0 : Int)) (h1 := fun _ => rfl) h
  have hcap : ([7] : List Int).length ≤ grownCap w4 1 0 5 := grownCap_ge _ _ _ _
  refine (split_feed_fit w0 _ g v true [129, 130, 0, 0, 0] [7] (some ⟨w4.heap.size, 0, none⟩) _ (HS4.out.below hbw) (below_step HB4.out hbw) hgb hC7 hcap (by decide)).mono ?_
  rintro e w5 ⟨v5, rfl, hs, hb, hsz, hk, ho⟩
  have HS : Aside0 (Sp w0 w5 g v5 true false [129, 130, 0, 0, 0, 7]) := ⟨hs⟩
  have HB := Aside0.mk hb
  clear hs hb hsz hk ho hbw hC7 hcap HS4 HB4 hcv5
  go_wp2
  obtain ⟨v, hv5⟩ : ∃ v, v = v5 := ⟨_, rfl⟩
  rw [← hv5] at HS
  clear hv5
  obtain ⟨w2, hw5⟩ : ∃ w2, w2 = w5 := ⟨_, rfl⟩
  rw [← hw5] at HS HB ⊢
  clear hw5
  have hcv6 : ∀ W : World, (convert 9 22 (.string (fixB.extract 6 7))).run Tryd.prog W = .ok (.slice (some ⟨W.heap.size, 0, none⟩) 1 (grownCap W 1 0 5)) (Lib.bytesWorld W 5 (fixB.extract 6 7)) := fun W => hcv 6 W fix_sz6
  rw [rounds_succ]
  go_wp2_with fail
  refine (split_next_more w0 _ g v true [129, 130, 0, 0, 0, 7] 8 0 0 true HS.out (HC.out.below HB.out) fix_head6 rfl rfl rfl (by decide)).mono ?_
  rintro e w3 ⟨rfl, hb⟩
  have HS3 := Aside0.mk (HS.out.below hb)
  have HB3 := Aside0.mk (below_step HB.out hb)
  clear HS HB hb
  go_upto_region 7 with fail
  have hb4 : Below w3.heap.size w3 ((w3.alloc (.cells #[.bool false, .int .u8 0, .bool false, .int .u32 0, .slice none 0 0] 31)).alloc (.cells #[.int .u8 0, .int .u32 0] 33)) := below_alloc (below_alloc (Below.refl _ _) _) _
  generalize (w3.alloc (.cells #[.bool false, .int .u8 0, .bool false, .int .u32 0, .slice none 0 0] 31)).alloc (.cells #[.int .u8 0, .int .u32 0] 33) = w4 at hb4 ⊢
  have HS4 := Aside0.mk (HS3.out.below hb4)
  have HB4 := Aside0.mk (below_step HB3.out hb4)
  clear HS3 HB3 hb4
  go_wp2_with fail
  have hbw := bytes_below (Below.refl w4.heap.size w4) (Nat.le_refl _) 5 (fixB.extract 6 7)
  have hC7 : Kd.C (Kd.int .u8) (Lib.bytesWorld w4 5 (fixB.extract 6 7)) (some ⟨w4.heap.size, 0, none⟩) ([97] : List Int).length [97] := by
    have h := bytes_reads w4 5 (fixB.extract 6 7) (by rw [fix_sz6]; decide)
    rw [fix_sz6, fix_by6] at h
    exact Kd.C_of_reads (d := (0 : Int)) (h1 := fun _ => rfl) h
  have hcap : ([97] : List Int).length ≤ grownCap w4 1 0 5 := grownCap_ge _ _ _ _
  refine (split_feed_fit w0 _ g v true [129, 130, 0, 0, 0, 7] [97] (some ⟨w4.heap.size, 0, none⟩) _ (HS4.out.below hbw) (below_step HB4.out hbw) hgb hC7 hcap (by decide)).mono ?_
  rintro e w5 ⟨v5, rfl, hs, hb, hsz, hk, ho⟩
  have HS : Aside0 (Sp w0 w5 g v5 true false [129, 130, 0, 0, 0, 7, 97]) := ⟨hs⟩
  have HB := Aside0.mk hb
  clear hs hb hsz hk ho hbw hC7 hcap HS4 HB4 hcv6
  go_wp2
  obtain ⟨v, hv5⟩ : ∃ v, v = v5 := ⟨_, rfl⟩
  rw [← hv5] at HS
  clear hv5
  obtain ⟨w2, hw5⟩ : ∃ w2, w2 = w5 := ⟨_, rfl⟩
  rw [← hw5] at HS HB ⊢
  clear hw5
  have hcv7 : ∀ W : World, (convert 9 22 (.string (fixB.extract 7 8))).run Tryd.prog W = .ok (.slice (some ⟨W.heap.size, 0, none⟩) 1 (grownCap W 1 0 5)) (Lib.bytesWorld W 5 (fixB.extract 7 8)) := fun W => hcv 7 W fix_sz7
  rw [rounds_succ]
  go_wp2_with fail
  refine (split_next_more w0 _ g v true [129, 130, 0, 0, 0, 7, 97] 8 0 0 true HS.out (HC.out.below HB.out) fix_head7 rfl rfl rfl (by decide)).mono ?_
  rintro e w3 ⟨rfl, hb⟩
  have HS3 := Aside0.mk (HS.out.below hb)
  have HB3 := Aside0.mk (below_step HB.out hb)
  clear HS HB hb
  go_upto_region 7 with fail
  have hb4 : Below w3.heap.size w3 ((w3.alloc (.cells #[.bool false, .int .u8 0, .bool false, .int .u32 0, .slice none 0 0] 31)).alloc (.cells #[.int .u8 0, .int .u32 0] 33)) := below_alloc (below_alloc (Below.refl _ _) _) _
  generalize (w3.alloc (.cells #[.bool false, .int .u8 0, .bool false, .int .u32 0, .slice none 0 0] 31)).alloc (.cells #[.int .u8 0, .int .u32 0] 33) = w4 at hb4 ⊢
  have HS4 := Aside0.mk (HS3.out.below hb4)
  have HB4 := Aside0.mk (below_step HB3.out hb4)
  clear HS3 HB3 hb4
  go_wp2_with fail
  have hbw := bytes_below (Below.refl w4.heap.size w4) (Nat.le_refl _) 5 (fixB.extract 7 8)
  have hC7 : Kd.C (Kd.int .u8) (Lib.bytesWorld w4 5 (fixB.extract 7 8)) (some ⟨w4.heap.size, 0, none⟩) ([98] : List Int).length [98] := by
    have h := bytes_reads w4 5 (fixB.extract 7 8) (by rw [fix_sz7]; decide)
    rw [fix_sz7, fix_by7] at h
    exact Kd.C_of_reads (d := (0 : Int)) (h1 := fun _ => rfl) h
  have hcap : ([98] : List Int).length ≤ grownCap w4 1 0 5 := grownCap_ge _ _ _ _
  refine (split_feed_fit w0 _ g v true [129, 130, 0, 0, 0, 7, 97] [98] (some ⟨w4.heap.size, 0, none⟩) _ (HS4.out.below hbw) (below_step HB4.out hbw) hgb hC7 hcap (by decide)).mono ?_
  rintro e w5 ⟨v5, rfl, hs, hb, hsz, hk, ho⟩
  have HS : Aside0 (Sp w0 w5 g v5 true false [129, 130, 0, 0, 0, 7, 97, 98]) := ⟨hs⟩
  have HB := Aside0.mk hb
  clear hs hb hsz hk ho hbw hC7 hcap HS4 HB4 hcv7
  go_wp2
  obtain ⟨v, hv5⟩ : ∃ v, v = v5 := ⟨_, rfl⟩
  rw [← hv5] at HS
  clear hv5
  obtain ⟨w2, hw5⟩ : ∃ w2, w2 = w5 := ⟨_, rfl⟩
  rw [← hw5] at HS HB ⊢
  clear hw5
  rw [rounds_succ]
  go_wp2_with fail
  refine (split_next_frame w0 _ g v true [129, 130, 0, 0, 0, 7, 97, 98] [129, 130, 0, 0, 0, 7, 97, 98] [] 40 8 true 1 true 7 [97, 98] 0 0 HS.out HB.out hgb (HC.out.below HB.out) fix_head8 (by decide) (by decide) (by decide) (by decide) fix_get fix_clone).mono ?_
  rintro e w3 ⟨vs, vp, rfl, hs, _, hp, hb, _⟩
  obtain ⟨Ap, cp, rfl⟩ := Kd.R_slice hp
  obtain ⟨As, cs, rfl⟩ := Kd.R_slice hs.row
  go_upto_region 11 with fail
  have hb4 : Below w3.heap.size w3 ((w3.alloc (.cells #[.bool true, .int .u8 1, .bool true, .int .u32 7, .slice Ap 2 cp] 31)).alloc (.cells #[.int .u8 0, .int .u32 0] 33)) := below_alloc (below_alloc (Below.refl _ _) _) _
  have hx0 : ((w3.alloc (.cells #[.bool true, .int .u8 1, .bool true, .int .u32 7, .slice Ap 2 cp] 31)).alloc (.cells #[.int .u8 0, .int .u32 0] 33)).heap[w3.heap.size]? = some (.cells #[.bool true, .int .u8 1, .bool true, .int .u32 7, .slice Ap 2 cp] 31 (0, 0)) := blk_alloc (last_at _ _ _ rfl) _
  have hx1 : ((w3.alloc (.cells #[.bool true, .int .u8 1, .bool true, .int .u32 7, .slice Ap 2 cp] 31)).alloc (.cells #[.int .u8 0, .int .u32 0] 33)).heap[w3.heap.size + 1]? = some (.cells #[.int .u8 0, .int .u32 0] 33 (0, 0)) := last_at _ _ _ (by simp)
  generalize (w3.alloc (.cells #[.bool true, .int .u8 1, .bool true, .int .u32 7, .slice Ap 2 cp] 31)).alloc (.cells #[.int .u8 0, .int .u32 0] 33) = w4 at hb4 hx0 hx1 ⊢
  have HS4 := Aside0.mk (hs.below hb4)
  have HB4 := Aside0.mk (below_step hb hb4)
  have HP4 := Aside0.mk (Kd.R_below hp hb4)
  clear hs hb hp hb4
  have hcs : (convert 22 9 (.slice Ap 2 cp)).run Tryd.prog w4 = .ok (.string (strOfNums [97, 98])) w4 := own_string (P := Tryd.prog) Tryd.underlying22 Tryd.underlying5 Tryd.underlying9 (Kd.own_of_R HP4.out)
  have d4 : w4.cell? ⟨w3.heap.size, 4, none⟩ = some (.slice Ap 2 cp) := (blk_cell hx0 4).trans rfl
  have e0 : w4.cell? ⟨w3.heap.size + 1, 0, none⟩ = some (.int .u8 0) := (blk_cell hx1 0).trans rfl
  have e1 : w4.cell? ⟨w3.heap.size + 1, 1, none⟩ = some (.int .u32 0) := (blk_cell hx1 1).trans rfl
  have fs := fix_same
  go_wp2_with fail
  refine (split_held_any g _ cs As _ ((blk_cell HS4.out.blk 0).trans rfl)).mono ?_
  rintro e w5 ⟨rfl, rfl⟩
  go_wp2
  go_ret
  exact ⟨by first | rfl | simp [fs], HB4.out⟩
end Go.Proofs.YtkhlldhcmgkioaaDoor.PAll

/- What stands in the loops of chapter 17's laws. -/
namespace Go.Proofs.YtkhlldhcmgkioaaDoor
open Go.RowKit Go.Proofs.YtkhlldhcmgkioaaDoorW.PrintWords Go.Proofs.YtkhlldhcmgkioaaDoorW.PrintLast Go.Proofs.YtkhlldhcmgkioaaDoorW.PrintMore Go.Proofs.YtkhlldhcmgkioaaDoor.PAll
set_option linter.unusedVariables false
theorem wf8 {x : Int} (h : (Lit.int .u8 x).wf = true) : 0 ≤ x ∧ x ≤ 255 := by simpa [Lit.wf, IntKind.min, IntKind.max, IntKind.signed, IntKind.bits] using h
theorem wf32 {x : Int} (h : (Lit.int .u32 x).wf = true) : 0 ≤ x ∧ x ≤ 4294967295 := by simpa [Lit.wf, IntKind.min, IntKind.max, IntKind.signed, IntKind.bits] using h
theorem wf_bytes {l : List Int} (h : ∀ x ∈ l, (Lit.int .u8 x).wf = true) : l.all isByte = true := by
  rw [List.all_eq_true]
  exact fun x hx => isByte_iff.2 (wf8 (h x hx))
/-- The frames told so far, and the fault. -/
def Inv (x0 : List Int) (m : Bool) (l lx : List Int) (got : List Pc) (bad : Bool) (cd : Int) : Prop :=
  (bad = false ∧ cd = 0 ∧ ∀ ps c r, AllP m (l ++ lx) ps c r → AllP m x0 (got ++ ps) c r) ∨ (bad = true ∧ cd ≠ 0 ∧ l = [] ∧ AllP m x0 got cd [])
/-- Nothing more is told. -/
def Idle (m : Bool) (l : List Int) (bad : Bool) : Prop := bad = false → code1 l m = 0 ∧ ¬ IsFr l m
theorem none_nil (m : Bool) : code1 [] m = 0 ∧ ¬ IsFr [] m := by
  have h : headF [] m = (0, 0, true, 0) := by unfold headF; rfl
  refine ⟨by unfold code1; rw [h], fun hf => ?_⟩
  have := hf.told
  rw [h] at this
  cases this
structure In (x0 : List Int) (m : Bool) (w wr : World) (g : Nat) (l lx : List Int) (v gv : Value) (got : List Pc) (bad : Bool) (cd : Int) : Prop where
  wp : Wp w wr g m bad l v gv got
  len : l.length ≤ 4110
  byte : l.all isByte = true
  inv : Inv x0 m l lx got bad cd
  room : got.length + l.length + lx.length ≤ x0.length
theorem In.below {x0 : List Int} {m : Bool} {w wr W : World} {g : Nat} {l lx : List Int} {v gv : Value} {got : List Pc} {bad : Bool} {cd : Int} (h : In x0 m w wr g l lx v gv got bad cd) (hb : Below wr.heap.size wr W) : In x0 m w W g l lx v gv got bad cd := ⟨h.wp.below hb, h.len, h.byte, h.inv, h.room⟩
theorem In.nil {x0 : List Int} {m : Bool} {w wr : World} {g : Nat} {l lx : List Int} {v gv : Value} {got : List Pc} {cd : Int} (h : In x0 m w wr g l lx v gv got true cd) : l = [] := by
  rcases h.inv with ⟨h1, _⟩ | ⟨_, _, h1, _⟩
  · cases h1
  · exact h1
theorem In.idle {x0 : List Int} {m : Bool} {w wr : World} {g : Nat} {l lx : List Int} {v gv : Value} {got : List Pc} {cd : Int} (h : In x0 m w wr g l lx v gv got true cd) : Idle m l true := fun e => by cases e
theorem In.zero {x0 : List Int} {m : Bool} {w wr : World} {g : Nat} {l lx : List Int} {v gv : Value} {got : List Pc} {cd : Int} (h : In x0 m w wr g l lx v gv got false cd) : cd = 0 := by
  rcases h.inv with ⟨_, h1, _⟩ | ⟨h1, _⟩
  · exact h1
  · cases h1
/-- Bytes come. -/
theorem In.feed {x0 : List Int} {m : Bool} {w wr W : World} {g k : Nat} {l lx xs : List Int} {v gv : Value} {got : List Pc} {cd : Int} {e : Ending} (h : In x0 m w wr g l lx v gv got false cd) (hx : lx.all isByte = true) (hk : k ≤ lx.length) (hxs : xs.take k = lx.take k) (hl : l.length + k ≤ 4110)
    (hp : FeedPost w g v m (l ++ xs.take k) k wr e W) : ∃ v', e = .returned (.int .i64 (k : Nat)) ∧ In x0 m w W g (l ++ lx.take k) (lx.drop k) v' gv got false cd := by
  obtain ⟨v', he, hw⟩ := h.wp.feed hp
  rw [hxs] at hw
  refine ⟨v', he, hw, by rw [List.length_append, List.length_take]; omega, app_byte h.byte (take_byte hx k), ?_, ?_⟩
  · rcases h.inv with ⟨h1, h2, h3⟩ | ⟨h1, _⟩
    · refine .inl ⟨h1, h2, fun ps c r hp => h3 ps c r ?_⟩
      rwa [List.append_assoc, List.take_append_drop] at hp
    · cases h1
  · have := h.room
    rw [List.length_append, List.length_take, List.length_drop]
    omega
/-- A frame is taken. -/
theorem In.next {x0 : List Int} {m : Bool} {w wr W : World} {g : Nat} {l lx : List Int} {v gv : Value} {got : List Pc} {cd : Int} {p : Pc} {e : Ending} (h : In x0 m w wr g l lx v gv got false cd) (hf : IsFr l m) (hpp : p = pieceOf (l.take (size1 l m)) m) (hp : NextPost w g m (l.drop (size1 l m)) p.f0 p.f1 p.f2 p.f3 p.f4 wr e W) :
    ∃ v' pv, e = .returned (.tuple #[.agg #[.bool p.f0, .int .u8 p.f1, .bool p.f2, .int .u32 p.f3, pv], .agg #[.int .u8 0, .int .u32 0], .bool true]) ∧ Wp w W g m false (l.drop (size1 l m)) v' gv got ∧ Kd.R (Kd.int .u8) 5 W w.heap.size (fun k => some k ≠ v'.ownBlock ∧ some k ≠ gv.ownBlock) pv p.f4 ∧
      (l.drop (size1 l m)).length < l.length ∧ ∀ (V : World) (gv' : Value), Wp w V g m false (l.drop (size1 l m)) v' gv' (got ++ [p]) → In x0 m w V g (l.drop (size1 l m)) lx v' gv' (got ++ [p]) false cd := by
  obtain ⟨v', pv, he, hw, hr⟩ := h.wp.next hp
  have hm := hf.min h.byte
  have hr2 := hf.room
  have hlt : (l.drop (size1 l m)).length < l.length := by rw [List.length_drop]; omega
  refine ⟨v', pv, he, hw, hr, hlt, fun V gv' hV => ⟨hV, by have := h.len; omega, drop_byte h.byte _, ?_, ?_⟩⟩
  · rcases h.inv with ⟨h1, h2, h3⟩ | ⟨h1, _⟩
    · refine .inl ⟨h1, h2, ?_⟩
      rw [hpp]
      exact AllP.app_step hf h3
    · cases h1
  · have := h.room
    rw [List.length_append]
    simp only [List.length_cons, List.length_nil]
    omega
/-- At the end. -/
theorem In.ends {x0 : List Int} {m : Bool} {w wr : World} {g : Nat} {l lx : List Int} {v gv : Value} {got : List Pc} {bad : Bool} {cd : Int} (h : In x0 m w wr g l lx v gv got bad cd) (hi : bad = true ∨ (lx = [] ∧ Idle m l bad)) : AllP m x0 got cd l ∧ bad = (cd != 0) := by
  rcases h.inv with ⟨h1, h2, h3⟩ | ⟨h1, h2, h3, h4⟩
  · rcases hi with hi | ⟨rfl, hi⟩
    · rw [h1] at hi; cases hi
    · obtain ⟨h5, h6⟩ := hi h1
      have h7 := h3 [] 0 l (by rw [List.append_nil]; exact .stop h5 h6)
      rw [List.append_nil] at h7
      rw [h2]
      exact ⟨h7, by rw [h1]; rfl⟩
  · rw [h3]
    exact ⟨h4, by rw [h1]; exact (bne_iff_ne.mpr h2).symm⟩
theorem same_one (p : Pc) : louverref16_Same.f p.f0 p.f1 p.f2 p.f3 p.f4 p.f0 p.f1 p.f2 p.f3 p.f4 = some true := by
  unfold louverref16_Same.f
  rw [if_pos (by simp), if_pos rfl, if_pos (by simp), if_pos rfl]
  simp
theorem same_loop (ps : List Pc) (hl : ps.length ≤ 1000000) : ∀ d i k : Nat, i + d = ps.length → d + 1 ≤ k → louverref17_Same.l0 k ps ps (ps.length : Int) (i : Int) = some true := by
  intro d
  induction d with
  | zero =>
    intro i k hi hk
    obtain ⟨k, rfl⟩ : ∃ j, k = j + 1 := ⟨k - 1, by omega⟩
    show (if (i : Int) < (ps.length : Int) then _ else _) = _
    rw [if_neg (by omega)]
  | succ d ih =>
    intro i k hi hk
    obtain ⟨k, rfl⟩ : ∃ j, k = j + 1 := ⟨k - 1, by omega⟩
    show (if (i : Int) < (ps.length : Int) then _ else _) = _
    rw [if_pos (by omega), if_pos (by omega), if_pos (by omega), if_pos (by omega), same_one, Option.bind_some, if_pos rfl, show wrap64 ((i : Int) + 1) = ((i + 1 : Nat) : Int) by unfold wrap64; omega]
    exact ih (i + 1) k (by omega) (by omega)
theorem same_all (ps : List Pc) (hl : ps.length ≤ 1000000) : louverref17_Same.f (ps.length + 1) ps ps = some true := by
  unfold louverref17_Same.f
  rw [if_pos rfl]
  exact same_loop ps hl ps.length 0 _ (by omega) (Nat.le_refl _)
end Go.Proofs.YtkhlldhcmgkioaaDoor

/- Frames that may be, one behind the other: they are told as they were (plain). -/
namespace Go.Proofs.YtkhlldhcmgkioaaDoor
open Go.RowKit Go.Proofs.YtkhlldhcmgkioaaDoorW.PrintWords Go.Proofs.YtkhlldhcmgkioaaDoorW.PrintLast Go.Proofs.YtkhlldhcmgkioaaDoorW.PrintMore Go.Proofs.YtkhlldhcmgkioaaDoor.PAll
set_option linter.unusedVariables false
set_option linter.unusedSimpArgs false
/-- A frame's bytes. -/
def putP (p : Pc) : List Int := putL p.f0 p.f1 p.f2 p.f3 p.f4
/-- A frame that may be, masked as it should be. -/
structure OkP (m : Bool) (p : Pc) : Prop where
  may : mayB p.f0 p.f1 p.f2 p.f3 p.f4 = true
  mask : p.f2 = m
  op : 0 ≤ p.f1
  key0 : 0 ≤ p.f3
  key1 : p.f3 ≤ 4294967295
  data : ∀ x ∈ p.f4, Byte x
theorem OkP.bytes {m : Bool} {p : Pc} (h : OkP m p) : (putP p).all isByte = true := putL_bytes h.op h.data h.may
theorem OkP.len {m : Bool} {p : Pc} (h : OkP m p) : (putP p).length ≤ 4104 := by
  have h1 := putL_len h.op h.data h.may
  have h2 := ((mayB_iff ..).1 h.may).2.2.1
  have h3 : frontOf p.f2 p.f4.length ≤ 8 := by unfold frontOf; cases p.f2 <;> split <;> simp
  unfold putP
  omega
theorem OkP.head {m : Bool} {p : Pc} (h : OkP m p) (rest : List Int) : headF (putP p ++ rest) m = (frontOf p.f2 p.f4.length, (p.f4.length : Int), false, 0) := by
  have h1 := headF_put h.op h.data h.may m
  rw [if_pos h.mask.symm] at h1
  unfold putP
  rw [headF_app _ _ _ (by rw [h1]), h1]
theorem OkP.size {m : Bool} {p : Pc} (h : OkP m p) (rest : List Int) : size1 (putP p ++ rest) m = (putP p).length := by
  unfold size1
  rw [h.head rest]
  have h1 := putL_len h.op h.data h.may
  show (frontOf p.f2 p.f4.length + (p.f4.length : Int)).toNat = (putL p.f0 p.f1 p.f2 p.f3 p.f4).length
  omega
theorem OkP.fr {m : Bool} {p : Pc} (h : OkP m p) (rest : List Int) : IsFr (putP p ++ rest) m := by
  refine ⟨?_, ?_, ?_⟩
  · unfold code1; rw [h.head rest]
  · rw [h.head rest]
  · rw [h.size rest, List.length_append]; omega
theorem OkP.piece {m : Bool} {p : Pc} (h : OkP m p) : pieceOf (putP p) m = p := by
  obtain ⟨e1, e2, e3, e4, e5⟩ := putL_first h.op h.data h.may
  have hr := raw_put h.op h.data h.may
  have hk := keyIn_put h.op h.data h.may h.key0 h.key1
  have hm := h.mask
  obtain ⟨f0, f1, f2, f3, f4⟩ := p
  dsimp only at hm hr hk e1 e2 e3 e4 e5
  subst hm
  unfold pieceOf dataOf putP
  dsimp only
  rw [e2, e3, hk, hr]
  cases f2 with
  | true => rw [if_pos rfl, if_pos rfl, turned_twice f4 f3 h.data]
  | false => rw [if_neg (by decide), if_neg (by decide)]
theorem AllP.put {m : Bool} {p : Pc} (h : OkP m p) {rest : List Int} {ps : List Pc} {c : Int} {r : List Int} (ha : AllP m rest ps c r) : AllP m (putP p ++ rest) (p :: ps) c r := by
  have e := AllP.frame (h.fr rest) (ps := ps) (c := c) (r := r)
  rw [h.size rest, List.drop_left, List.take_left, h.piece] at e
  exact e ha
def putAll (ps : List Pc) : List Int := ps.flatMap putP
theorem AllP.puts {m : Bool} : ∀ ps : List Pc, (∀ p ∈ ps, OkP m p) → AllP m (putAll ps) ps 0 []
  | [], _ => .stop (none_nil m).1 (none_nil m).2
  | p :: ps, h => by
    show AllP m (putP p ++ putAll ps) (p :: ps) 0 []
    exact AllP.put (h p List.mem_cons_self) (AllP.puts ps (fun q hq => h q (List.mem_cons_of_mem _ hq)))
theorem putAll_bytes {m : Bool} : ∀ ps : List Pc, (∀ p ∈ ps, OkP m p) → (putAll ps).all isByte = true
  | [], _ => rfl
  | p :: ps, h => by
    show (putP p ++ putAll ps).all isByte = true
    exact app_byte (h p List.mem_cons_self).bytes (putAll_bytes ps (fun q hq => h q (List.mem_cons_of_mem _ hq)))
theorem putAll_len {m : Bool} : ∀ ps : List Pc, (∀ p ∈ ps, OkP m p) → (putAll ps).length ≤ 4104 * ps.length
  | [], _ => Nat.le_refl _
  | p :: ps, h => by
    show (putP p ++ putAll ps).length ≤ _
    have h1 := (h p List.mem_cons_self).len
    have h2 := putAll_len ps (fun q hq => h q (List.mem_cons_of_mem _ hq))
    rw [List.length_append, List.length_cons]
    omega
theorem putAll_snoc (ps : List Pc) (p : Pc) : putAll (ps ++ [p]) = putAll ps ++ putP p := by
  unfold putAll
  simp
end Go.Proofs.YtkhlldhcmgkioaaDoor

/- Frames that may be come as they were put. -/
namespace Go.Proofs.YtkhlldhcmgkioaaDoor
open Go.RowKit Go.Proofs.YtkhlldhcmgkioaaDoorW.PrintWords Go.Proofs.YtkhlldhcmgkioaaDoorW.PrintLast Go.Proofs.YtkhlldhcmgkioaaDoorW.PrintMore Go.Proofs.YtkhlldhcmgkioaaDoor.PAll
set_option linter.unusedVariables false
set_option linter.unusedSimpArgs false
attribute [local go_sem] max2_int min2_int max_two min_two
def FrL (w : World) (m : Bool) (x0 : List Pc) (mu : Nat) (sv iv : Value) (wr : World) : Prop :=
  ∃ i : Nat, sv = .string (strOfNums (putAll (x0.take i))) ∧ iv = .int .i64 (i : Nat) ∧ i ≤ x0.length ∧ (∀ p ∈ x0.take i, OkP m p) ∧ mu = x0.length - i ∧ Below w.heap.size w wr
def FrO (xs : List Int) (m : Bool) (w : World) (g mu : Nat) (sv gv iv : Value) (wr : World) : Prop :=
  ∃ (l lx : List Int) (got : List Pc) (v : Value) (j : Nat), sv = .string (strOfNums lx) ∧ iv = .int .i64 (j : Nat) ∧ In xs m w wr g l lx v gv got false 0 ∧ Idle m l false ∧ lx.all isByte = true ∧ mu = lx.length ∧ j + lx.length ≤ xs.length
def FrI (x0 : List Int) (m : Bool) (w : World) (g : Nat) (lx : List Int) (l1 mu : Nat) (gv : Value) (wr : World) : Prop :=
  ∃ (l : List Int) (got : List Pc) (v : Value) (bad : Bool) (cd : Int), cd = cd ∧ In x0 m w wr g l lx v gv got bad cd ∧ mu = l.length + (if bad = true then 0 else 1) ∧ l.length ≤ l1
def FrJ (x0 : List Int) (m : Bool) (w : World) (g : Nat) (lx : List Int) (l1 : Nat) (gv : Value) (wr : World) : Prop :=
  ∃ (l : List Int) (got : List Pc) (v : Value) (bad : Bool) (cd : Int), cd = cd ∧ In x0 m w wr g l lx v gv got bad cd ∧ l.length ≤ l1 ∧ Idle m l bad
theorem In.nofault {x0 : List Int} {m : Bool} {w wr : World} {g : Nat} {l lx : List Int} {v gv : Value} {got ps : List Pc} {cd : Int} (h : In x0 m w wr g l lx v gv got false cd) (ha : AllP m x0 ps 0 []) : code1 l m = 0 := by
  rcases h.inv with ⟨_, _, h3⟩ | ⟨h1, _⟩
  · by_cases hc : code1 l m = 0
    · exact hc
    · exact absurd ((AllP.app_bad hc h3).uniq ha).2.1 hc
  · cases h1
theorem In.good {x0 : List Int} {m : Bool} {w wr : World} {g : Nat} {l lx : List Int} {v gv : Value} {got ps : List Pc} {bad : Bool} {cd : Int} (h : In x0 m w wr g l lx v gv got bad cd) (ha : AllP m x0 ps 0 []) : bad = false ∧ cd = 0 := by
  rcases h.inv with ⟨h1, h2, _⟩ | ⟨h1, h2, h3, h4⟩
  · exact ⟨h1, h2⟩
  · exact absurd (h4.uniq ha).2.1 h2
theorem idle_lt {m : Bool} {l : List Int} (hl : l.all isByte = true) (h : code1 l m = 0 ∧ ¬ IsFr l m) : l.length < 4110 := by
  rcases Nat.lt_or_ge l.length 4110 with h1 | h1
  · exact h1
  · rcases full_told (m := m) hl h1 with h3 | h3
    · exact absurd h.1 h3
    · exact absurd h3 h.2
theorem take_snoc {α : Type} (xs : List α) (i : Nat) (h : i < xs.length) : xs.take (i + 1) = xs.take i ++ [xs[i]] := by
  rw [List.take_add_one, List.getElem?_eq_getElem h]; rfl
theorem strf_append (a b : List Int) : strOfNums a ++ strOfNums b = strOfNums (a ++ b) := by
  apply ByteArray.ext
  simp [strOfNums, ByteArray.data_append]
set_option maxHeartbeats 16000000 in
set_option maxRecDepth 100000 in
theorem Pure.WssplitFrames : Says.WssplitFrames := by
  intro A0 c0 x0 m A2 c2 x2 w l0 r0 o0 l2 r2 o2 hg
  have hu31 := Tryd.underlying31
  have hu33 := Tryd.underlying33
  have hinfo : (Tryd.prog.info? 31).map (fun i => (i.zero, i.size, i.bytes)) = some (some (.agg #[.bool false, .int .u8 0, .bool false, .int .u32 0, .slice none 0 0]), 5, 32) := by kernel_rfl
  have HI := Aside0.mk hinfo
  have HC := Aside0.mk hg
  have HR0 := Aside0.mk r0
  have HR2 := Aside0.mk r2
  have HY2 := Aside0.mk (wf_bytes o2.1)
  have HO0 : Aside0 (∀ p ∈ x0, 0 ≤ p.f1 ∧ 0 ≤ p.f3 ∧ p.f3 ≤ 4294967295 ∧ ∀ x ∈ p.f4, Byte x) := ⟨fun p hp => by
    obtain ⟨_, h1, _, h3, h4, _⟩ := o0.1 p hp
    exact ⟨(wf8 h1).1, (wf32 h3).1, (wf32 h3).2, fun x hx => wf8 (h4 x hx)⟩⟩
  clear hg r0 r2 hinfo o0 o2
  go_enter Tryd.func4, Tryd.ntmps4
  by_cases h30 : (30 : Int) < (x0.length : Int)
  · go_wp2_with fail
    refine (fixed_yes _ (HC.out)).mono ?_
    rintro e w3_ ⟨rfl, hb_⟩
    go_wp2_with fail
    go_ret
    exact ⟨rfl, hb_⟩
  · by_cases h3k : (3000 : Int) < (x2.length : Int)
    · go_wp2_with fail
      refine (fixed_yes _ (HC.out)).mono ?_
      rintro e w3_ ⟨rfl, hb_⟩
      go_wp2_with fail
      go_ret
      exact ⟨rfl, hb_⟩
    · have hn30 : x0.length ≤ 30 := by omega
      have hn3k : x2.length ≤ 3000 := by omega
      go_upto_block 0 with fail
      go_cut [7] (fun sv wc => sv = .string (strOfNums (putAll x0)) ∧ (∀ p ∈ x0, OkP m p) ∧ Below w.heap.size w wc)
      case first =>
        go_wp2_with fail
        go_loopg [7, 29] x0.length (fun mu sv iv wr => FrL w m x0 mu sv iv wr)
        case atStart => exact ⟨0, rfl, rfl, Nat.zero_le _, (fun p hp => by simp at hp), rfl, Below.refl _ _⟩
        case round =>
          obtain ⟨i, rfl, rfl, hi, hok, hmu, hB⟩ := hrel
          have HB := Aside0.mk hB
          have HOK := Aside0.mk hok
          have HMU := Aside0.mk hmu
          clear hB hok hmu
          by_cases hlt : i < x0.length
          · obtain ⟨ad, A4, c4, rfl, e0, e1, e2, e3, e4, hl4, hC4⟩ := at_T31 (Kd.C_below HR0.out HB.out) (i : Int) (by omega) (by omega)
            obtain ⟨p, hp⟩ : ∃ p, p = rd_T31 x0 (i : Int) := ⟨_, rfl⟩
            have hpi : p = x0[i] := by rw [hp]; unfold rd_T31; rw [Int.toNat_natCast, List.getD_eq_getElem?_getD, List.getElem?_eq_getElem hlt, Option.getD_some]
            rw [← hp, Int.toNat_natCast] at e0 e1 e2 e3 e4
            rw [← hp] at hl4 hC4
            have HPI := Aside0.mk hpi
            have HC4 := Aside0.mk hC4
            have HPO := Aside0.mk (HO0.out p (by rw [hpi]; exact List.getElem_mem hlt))
            clear hp hpi hC4
            go_upto_region 7 with fail
            have hb5 : Below wr.heap.size wr (wr.alloc (.cells #[.bool p.f0, .int .u8 p.f1, .bool p.f2, .int .u32 p.f3, .slice A4 p.f4.length c4] 31)) := below_alloc (Below.refl _ _) _
            have hx5 : (wr.alloc (.cells #[.bool p.f0, .int .u8 p.f1, .bool p.f2, .int .u32 p.f3, .slice A4 p.f4.length c4] 31)).heap[wr.heap.size]? = some (.cells #[.bool p.f0, .int .u8 p.f1, .bool p.f2, .int .u32 p.f3, .slice A4 p.f4.length c4] 31 (0, 0)) := last_at _ _ _ rfl
            generalize wr.alloc (.cells #[.bool p.f0, .int .u8 p.f1, .bool p.f2, .int .u32 p.f3, .slice A4 p.f4.length c4] 31) = W at hb5 hx5 ⊢
            have HB5 := Aside0.mk (below_step HB.out hb5)
            have HX5 := Aside0.mk hx5
            have HC5 := Aside0.mk (Kd.C_below HC4.out hb5)
            have hgb := blk_lt hx5
            generalize wr.heap.size = gb at hx5 HX5 hgb ⊢
            have y0 : W.cell? ⟨gb, 0, none⟩ = some (.bool p.f0) := (blk_cell hx5 0).trans rfl
            have y1 : W.cell? ⟨gb, 1, none⟩ = some (.int .u8 p.f1) := (blk_cell hx5 1).trans rfl
            have y2 : W.cell? ⟨gb, 2, none⟩ = some (.bool p.f2) := (blk_cell hx5 2).trans rfl
            have y3 : W.cell? ⟨gb, 3, none⟩ = some (.int .u32 p.f3) := (blk_cell hx5 3).trans rfl
            have y4 : W.cell? ⟨gb, 4, none⟩ = some (.slice A4 p.f4.length c4) := (blk_cell hx5 4).trans rfl
            clear hb5 hx5 e0 e1 e2 e3 e4 HC4 hgb
            obtain ⟨my, hmy⟩ : ∃ my, my = mayB p.f0 p.f1 p.f2 p.f3 p.f4 := ⟨_, rfl⟩
            have HMY := Aside0.mk hmy
            have HMF := Aside0.mk (show louverref16_May.f p.f0 p.f1 p.f2 p.f3 p.f4 = some my by rw [hmy]; exact rmay_f ..)
            clear hmy
            go_wp2_with fail
            refine (louverref16_May.calls _ _ _ _ A4 c4 p.f4 my _ HC5.out hl4 HMF.out).mono ?_
            rintro e w6 ⟨rfl, hb6⟩
            have HB6 := Aside0.mk (below_step HB5.out hb6)
            have HC6 := Aside0.mk (Kd.C_below HC5.out hb6)
            have hx6 := blk_below HX5.out hb6
            have z0 : w6.cell? ⟨gb, 0, none⟩ = some (.bool p.f0) := (blk_cell hx6 0).trans rfl
            have z1 : w6.cell? ⟨gb, 1, none⟩ = some (.int .u8 p.f1) := (blk_cell hx6 1).trans rfl
            have z2 : w6.cell? ⟨gb, 2, none⟩ = some (.bool p.f2) := (blk_cell hx6 2).trans rfl
            have z3 : w6.cell? ⟨gb, 3, none⟩ = some (.int .u32 p.f3) := (blk_cell hx6 3).trans rfl
            have z4 : w6.cell? ⟨gb, 4, none⟩ = some (.slice A4 p.f4.length c4) := (blk_cell hx6 4).trans rfl
            clear hb6 hx6 HX5 HC5 HB5 y0 y1 y2 y3 y4
            cases my with
            | false =>
              go_wp2_with fail
              refine (fixed_yes _ (HC.out.below HB6.out)).mono ?_
              rintro e w7 ⟨rfl, hb7⟩
              go_wp2_with fail
              go_ret
              exact ⟨rfl, below_step HB6.out hb7⟩
            | true =>
              by_cases hmm : p.f2 = m
              · have HOP := Aside0.mk (show OkP m p from ⟨HMY.out.symm, hmm, HPO.out.1, HPO.out.2.1, HPO.out.2.2.1, HPO.out.2.2.2⟩)
                have hmb : (p.f2 == m) = true := by rw [hmm]; simp
                have hmq : (!(p.f2 == m)) = false := by rw [hmb]; rfl
                have HPF := Aside0.mk (refPut_f p.f0 p.f1 p.f2 p.f3 p.f4 HPO.out.2.2.2 HPO.out.1 HPO.out.2.1 HPO.out.2.2.1 HMY.out.symm (p.f4.length + 20) (Nat.le_refl _))
                have hsa : strOfNums (putAll (x0.take i)) ++ strOfNums (putL p.f0 p.f1 p.f2 p.f3 p.f4) = strOfNums (putAll (x0.take (i + 1))) := by
                  rw [strf_append, take_snoc x0 i hlt, putAll_snoc, ← HPI.out]; rfl
                have hz1 : (strOfNums (putAll (x0.take i))).size ≤ 200000 := by
                  rw [str_size]; have h1 := putAll_len (x0.take i) HOK.out; have h2 : (x0.take i).length ≤ x0.length := (by rw [List.length_take]; omega); omega
                have hz2 : (strOfNums (putL p.f0 p.f1 p.f2 p.f3 p.f4)).size ≤ 5000 := by
                  rw [str_size]; have h1 := HOP.out.len; unfold putP at h1; omega
                have HII := Aside0.mk (show ((i + 1 : Nat) : Int) = (i : Int) + 1 by omega)
                have HSA := Aside0.mk hsa
                clear hmm hsa
                go_wp2_with fail
                refine (louverref16_Put.calls _ p.f0 p.f1 p.f2 p.f3 A4 c4 p.f4 _ _ HC6.out hl4 HPF.out).mono ?_
                rintro e w7 ⟨rfl, hb7⟩
                have HB7 := Aside0.mk (below_step HB6.out hb7)
                clear hb7
                have hsa := HSA.out
                go_wp2_with fail
                go_roundg (x0.length - (i + 1))
                case measure => have := HMU.out; omega
                case rel => exact ⟨i + 1, rfl, by rw [HII.out], by omega, (fun q hq => by
                  rw [take_snoc x0 i hlt, ← HPI.out] at hq
                  rcases List.mem_append.1 hq with h | h
                  · exact HOK.out q h
                  · rw [List.mem_singleton.1 h]; exact HOP.out), rfl, HB7.out⟩
              · have hmb : (p.f2 == m) = false := beq_eq_false_iff_ne.mpr hmm
                have hmq : (!(p.f2 == m)) = true := by rw [hmb]; rfl
                clear hmm
                go_wp2_with fail
                refine (fixed_yes _ (HC.out.below HB6.out)).mono ?_
                rintro e w7 ⟨rfl, hb7⟩
                go_wp2_with fail
                go_ret
                exact ⟨rfl, below_step HB6.out hb7⟩
          · have hie : i = x0.length := by omega
            subst hie
            have HT := Aside0.mk (show x0.take x0.length = x0 from List.take_length)
            go_wp2_with fail
            go_meet
            case rel => exact ⟨by rw [HT.out], (fun q hq => HOK.out q (by rw [HT.out]; exact hq)), HB.out⟩
      case rest =>
        obtain ⟨rfl, hok, hB1⟩ := hcut
        have HOK := Aside0.mk hok
        have HB1 := Aside0.mk hB1
        obtain ⟨xs, hxs⟩ : ∃ xs, xs = putAll x0 := ⟨_, rfl⟩
        have HAL : Aside0 (AllP m xs x0 0 []) := ⟨by rw [hxs]; exact AllP.puts x0 hok⟩
        have HXB : Aside0 (xs.all isByte = true) := ⟨by rw [hxs]; exact putAll_bytes x0 hok⟩
        have HXL : Aside0 (xs.length ≤ 123120) := ⟨by rw [hxs]; have := putAll_len x0 hok; omega⟩
        rw [← hxs]
        clear hok hB1 hxs
        go_wp2_with fail
        refine (split_new m wc wc (Below.refl _ _)).mono ?_
        rintro e w3 ⟨rfl, hs, hb3⟩
        obtain ⟨WB, hWB⟩ : ∃ WB, WB = wc := ⟨_, rfl⟩
        rw [← hWB] at hs hb3 HB1 ⊢
        clear hWB
        obtain ⟨g, hgg⟩ : ∃ g, g = WB.heap.size := ⟨_, rfl⟩
        rw [← hgg] at hs ⊢
        have hW : Aside0 (Wp WB w3 g m false [] (.slice none 0 0) (.slice none 0 0) []) := ⟨⟨hs, hb3, by omega, Kd.R_nil _ _ _ _ _⟩⟩
        have HCc := Aside0.mk (HC.out.below HB1.out)
        clear hs hb3 hgg
        go_wp2_with fail
        go_loopg [7, 11, 12] xs.length (fun mu sv gv iv wr => FrO xs m WB g mu sv gv iv wr)
        case atStart => exact ⟨[], xs, [], _, 0, rfl, rfl, ⟨hW.out, by simp, rfl, .inl ⟨rfl, rfl, fun ps c r h => h⟩, by simp⟩, fun _ => none_nil m, HXB.out, rfl, by omega⟩
        case round =>
          clear hW
          obtain ⟨l, lx, got, v, j, rfl, rfl, hIn, hidle, hyx, hmu, hj⟩ := hrel
          have HIn := Aside0.mk hIn
          have HID := Aside0.mk hidle
          have HYx := Aside0.mk hyx
          have HMU := Aside0.mk hmu
          have HJ := Aside0.mk hj
          have hsz := str_size lx
          clear hIn hidle hyx hmu hj
          by_cases hx0 : lx = []
          · subst hx0
            obtain ⟨hE, hE2⟩ := HIn.out.ends (.inr ⟨rfl, HID.out⟩)
            obtain ⟨rfl, h00, rfl⟩ := hE.uniq HAL.out
            clear hE2 h00
            have hsz0 : (strOfNums []).size = 0 := hsz
            clear hE hsz
            generalize strOfNums [] = s at hsz0 ⊢
            obtain ⟨nz, hnz⟩ : ∃ nz : Nat, nz = 0 := ⟨_, rfl⟩
            rw [← hnz] at hsz0
            have hnz1 : ¬ ((0 : Int) < (nz : Int)) := by omega
            have hnz2 : ¬ (0 < nz) := by omega
            clear hnz
            go_wp2_with fail
            refine (fixed_yes _ (HCc.out.below HIn.out.wp.bel)).mono ?_
            rintro e w5 ⟨rfl, hb5⟩
            have HIn5 := Aside0.mk (HIn.out.below hb5)
            clear hb5 HIn
            obtain ⟨Ag, cg, rfl⟩ := Kd.R_slice HIn5.out.wp.got
            obtain ⟨Av, cv, rfl⟩ := Kd.R_slice HIn5.out.wp.sp.row
            go_wp2_with fail
            obtain ⟨hn9, hc9, hC9⟩ := Kd.R_reads' HIn5.out.wp.got
            refine (louverref17_Same.calls (got.length + 1) Ag cg got A0 c0 got true w5 hC9 hc9 (Kd.C_below HR0.out (below_step HB1.out HIn5.out.wp.bel)) l0 (same_all got (by omega))).mono ?_
            rintro e w6 ⟨rfl, hb6⟩
            have HIn6 := Aside0.mk (HIn5.out.below hb6)
            clear hb6 hn9 hc9 hC9 HIn5
            go_wp2_with fail
            refine (split_held_any g _ cv Av _ HIn6.out.wp.c0).mono ?_
            rintro e w7 ⟨rfl, rfl⟩
            go_wp2_with fail
            refine (split_bad_any g false _ HIn6.out.wp.c2).mono ?_
            rintro e w8 ⟨rfl, rfl⟩
            go_wp2_with fail
            go_ret
            exact ⟨rfl, below_step HB1.out HIn6.out.wp.bel⟩
          · have hpos : 0 < lx.length := List.length_pos_iff.mpr hx0
            have hxl := HXL.out
            have hjx := HJ.out
            have HC1 : ∀ n : Nat, (strOfNums lx).extract 0 n = strOfNums (lx.take n) := fun n => by rw [str_cut, List.drop_zero]
            have HC2 : ∀ n : Nat, (strOfNums lx).extract n (strOfNums lx).size = strOfNums (lx.drop n) := fun n => by rw [hsz, str_cut, List.take_length]
            have hbw : ∀ (n : Nat), n ≤ lx.length → (convert 9 22 (.string (strOfNums (lx.take n)))).run Tryd.prog wr = .ok (.slice (some ⟨wr.heap.size, 0, none⟩) n (grownCap wr n 0 5)) (Lib.bytesWorld wr 5 (strOfNums (lx.take n))) := fun n hn => by
              have h2 := print_bytes (P := Tryd.prog) 9 22 5 Tryd.underlying9 Tryd.underlying22 Tryd.underlying5 (strOfNums (lx.take n)) wr
              rw [str_size, List.length_take, Nat.min_eq_left hn] at h2
              exact h2
            have hCw : ∀ n : Nat, n ≤ lx.length → Kd.C (Kd.int .u8) (Lib.bytesWorld wr 5 (strOfNums (lx.take n))) (some ⟨wr.heap.size, 0, none⟩) (lx.take n).length (lx.take n) := fun n hn => by
              have h := bytes_reads wr 5 (strOfNums (lx.take n)) (by rw [str_size, List.length_take]; omega)
              rw [str_size, bytesOf_str _ (fun x hx => isByte_iff.1 (List.all_eq_true.1 HYx.out x (List.mem_of_mem_take hx)))] at h
              exact Kd.C_of_reads (d := (0 : Int)) (h1 := fun _ => rfl) h
            have HBW := Aside0.mk hbw
            have HCW := Aside0.mk hCw
            have HX1 := Aside0.mk HC1
            have HX2 := Aside0.mk HC2
            generalize hs : strOfNums lx = s at hsz HX1 HX2 ⊢
            clear hbw hCw HC1 HC2 hs
            go_upto_region 16 with fail
            go_cut [13] (fun v wc2 => ∃ n : Nat, v = .int .i64 n ∧ 1 ≤ n ∧ n ≤ lx.length ∧ wc2 = wr)
            case first =>
              by_cases h4 : lx.length ≤ 4000
              · have h4n : ¬ (4000 < lx.length) := by omega
                go_wp2_with fail
                go_meet
                case rel => exact ⟨lx.length, rfl, hpos, Nat.le_refl _, rfl⟩
              · have h4n : 4000 < lx.length := by omega
                go_wp2_with fail
                go_meet
                case rel => exact ⟨4000, rfl, by omega, by omega, rfl⟩
            case rest =>
              obtain ⟨n0, rfl, hn1, hn2, rfl⟩ := hcut
              go_upto_if 61 with fail
              go_cut [13] (fun v wc2 => ∃ n : Nat, v = .int .i64 n ∧ 1 ≤ n ∧ n ≤ lx.length ∧ wc2 = wc)
              case first =>
                by_cases hjl : j < x2.length
                · obtain ⟨ad, rfl, hx⟩ := Kd.at_int (Kd.C_below HR2.out (below_step HB1.out HIn.out.wp.bel)) (j : Int) (by omega) (by omega)
                  have hb2 := rd_byte HY2.out (j : Int)
                  rw [Int.toNat_natCast] at hx
                  generalize rd x2 (j : Int) = sz at hx hb2
                  by_cases hms : (n0 : Int) ≤ 1 + sz
                  · have hms2 : ¬ (1 + sz < (n0 : Int)) := by omega
                    go_wp2_with fail
                    go_meet
                    case rel => exact ⟨n0, rfl, hn1, hn2, rfl⟩
                  · have hms2 : 1 + sz < (n0 : Int) := by omega
                    go_wp2_with fail
                    go_meet
                    case rel => exact ⟨(1 + sz).toNat, by rw [show (((1 + sz).toNat : Nat) : Int) = 1 + sz by omega], by omega, by omega, rfl⟩
                · go_wp2_with fail
                  go_meet
                  case rel => exact ⟨n0, rfl, hn1, hn2, rfl⟩
              case rest =>
                clear hn1 hn2
                obtain ⟨n, rfl, hn1, hn2, rfl⟩ := hcut
                have hcut1 := HX1.out n
                have hbw1 := HBW.out n hn2
                have hCw1 := HCW.out n hn2
                have hle0 : (0 : Int) ≤ (n : Int) := by omega
                have hle1 : (n : Int) ≤ (s.size : Int) := by omega
                have hle2 : n ≤ s.size := by omega
                have HCW1 := Aside0.mk hCw1
                clear hCw1 HBW HCW HX1
                go_wp2_with fail
                have hb4 : Below wc.heap.size wc (Lib.bytesWorld wc 5 (strOfNums (lx.take n))) := bytes_below (Below.refl _ _) (Nat.le_refl _) _ _
                have HIn4 := Aside0.mk (HIn.out.below hb4)
                obtain ⟨k, hk⟩ : ∃ k, k = min n (4110 - l.length) := ⟨_, rfl⟩
                have hln := HIn.out.len
                have hl4 := idle_lt HIn.out.byte (HID.out rfl)
                have hxs : (lx.take n).length = n := by rw [List.length_take]; omega
                have hF := Feed_any (k := k) HIn4.out.wp.sp HIn4.out.wp.bel HIn4.out.wp.base HCW1.out (by rw [hxs]; exact grownCap_ge _ _ _ _ : (lx.take n).length ≤ grownCap wc n 0 5) hln (by rw [hxs]; exact hk)
                rw [hxs] at hF
                clear hbw1 hcut1
                refine hF.mono ?_
                rintro e w4 hp
                obtain ⟨v3, rfl, hIn3⟩ := HIn4.out.feed HYx.out (by omega : k ≤ lx.length) (by rw [List.take_take]; congr 1; omega) (by omega) hp
                have hd3 : (lx.drop k).length = lx.length - k := List.length_drop
                have hY3 := drop_byte HYx.out k
                have hcut2 := HX2.out k
                rw [hsz] at hcut2
                have hkne : k ≠ 0 := by omega
                have hkz : ((k : Int) == 0) = false := beq_eq_false_iff_ne.mpr (by omega)
                have hk0 : (0 : Int) ≤ (k : Int) := by omega
                have hk1 : (k : Int) ≤ (s.size : Int) := by omega
                have hk2 : k ≤ s.size := by omega
                generalize hl3 : l ++ lx.take k = l3 at hIn3
                generalize hlx3 : lx.drop k = lx3 at hIn3 hd3 hY3 hcut2
                have HIn3 := Aside0.mk hIn3
                have HY3 := Aside0.mk hY3
                have HMQ := Aside0.mk (show lx3.length < lx.length ∧ j + 1 + lx3.length ≤ xs.length by omega)
                have HJJ := Aside0.mk (show ((j + 1 : Nat) : Int) = (j : Int) + 1 by omega)
                obtain ⟨Av3, cv3, rfl⟩ := Kd.R_slice hIn3.wp.sp.row
                clear hF hp hIn3 hY3 hl3 hlx3 hd3 hk hl4 hln HIn HIn4 HYx HID HX2 hxs HCW1 hb4
                go_upto_block 4 with fail
                go_cut [11] (fun gv wc2 => FrJ xs m WB g lx3 l3.length gv wc2)
                case first =>
                  go_wp2_with fail
                  go_loopg [11] (l3.length + 1) (fun mu gv wr => FrI xs m WB g lx3 l3.length mu gv wr)
                  case atStart => exact ⟨l3, got, _, false, 0, rfl, HIn3.out, rfl, Nat.le_refl _⟩
                  case round =>
                    obtain ⟨l', got', v', bad', cd', _, hIn', hmu1, hle'⟩ := hrel
                    have HIn' := Aside0.mk hIn'
                    clear hIn' HIn3
                    cases bad' with
                    | true =>
                      go_wp2_with fail
                      refine (split_next_isbad g _ HIn'.out.wp.c2).mono ?_
                      rintro e w5 ⟨rfl, hb5⟩
                      go_wp2_with fail
                      go_meet
                      case rel => exact ⟨l', got', v', true, cd', rfl, HIn'.out.below (below_alloc (below_alloc hb5 _) _), hle', HIn'.out.idle⟩
                    | false =>
                      by_cases hc : code1 l' m = 0
                      · by_cases hf : IsFr l' m
                        · obtain ⟨p, hpp⟩ : ∃ p : Pc, p = pieceOf (l'.take (size1 l' m)) m := ⟨_, rfl⟩
                          go_wp2_with fail
                          have hln4 := HIn'.out.len
                          refine (Next_frame HIn'.out.wp.sp HIn'.out.wp.bel HIn'.out.wp.base (HCc.out.below HIn'.out.wp.bel) HIn'.out.byte hf (by omega) hpp).mono ?_
                          rintro e w5 hnp
                          obtain ⟨v5, pv, rfl, hw5, hr5, hlt5, hput⟩ := HIn'.out.next hf hpp hnp
                          obtain ⟨Ap, cp, rfl⟩ := Kd.R_slice hr5
                          have HLT5 := Aside0.mk hlt5
                          have HPUT := Aside0.mk hput
                          have HW5 := Aside0.mk hw5
                          have HR5 := Aside0.mk hr5
                          have HGL := Aside0.mk (show (got'.length + 1) * 32 ≤ 140737488355328 by have := HIn'.out.room; have := HXL.out; omega)
                          clear hnp hw5 hr5 hlt5 hput hpp hf hc hln4
                          go_upto_region 22 with fail
                          have hb6 : Below w5.heap.size w5 ((w5.alloc (.cells #[.bool p.f0, .int .u8 p.f1, .bool p.f2, .int .u32 p.f3, .slice Ap p.f4.length cp] 31)).alloc (.cells #[.int .u8 0, .int .u32 0] 33)) := below_alloc (below_alloc (Below.refl _ _) _) _
                          have hx0 : ((w5.alloc (.cells #[.bool p.f0, .int .u8 p.f1, .bool p.f2, .int .u32 p.f3, .slice Ap p.f4.length cp] 31)).alloc (.cells #[.int .u8 0, .int .u32 0] 33)).heap[w5.heap.size]? = some (.cells #[.bool p.f0, .int .u8 p.f1, .bool p.f2, .int .u32 p.f3, .slice Ap p.f4.length cp] 31 (0, 0)) := blk_alloc (last_at _ _ _ rfl) _
                          have hx1 : ((w5.alloc (.cells #[.bool p.f0, .int .u8 p.f1, .bool p.f2, .int .u32 p.f3, .slice Ap p.f4.length cp] 31)).alloc (.cells #[.int .u8 0, .int .u32 0] 33)).heap[w5.heap.size + 1]? = some (.cells #[.int .u8 0, .int .u32 0] 33 (0, 0)) := last_at _ _ _ (by simp)
                          generalize (w5.alloc (.cells #[.bool p.f0, .int .u8 p.f1, .bool p.f2, .int .u32 p.f3, .slice Ap p.f4.length cp] 31)).alloc (.cells #[.int .u8 0, .int .u32 0] 33) = w6 at hb6 hx0 hx1 ⊢
                          have HW6 := Aside0.mk (HW5.out.below hb6)
                          have HR6 := Aside0.mk (Kd.R_below HR5.out hb6)
                          generalize w5.heap.size = gp at hx0 hx1 ⊢
                          have y0 : w6.cell? ⟨gp, 0, none⟩ = some (.bool p.f0) := (blk_cell hx0 0).trans rfl
                          have y1 : w6.cell? ⟨gp, 1, none⟩ = some (.int .u8 p.f1) := (blk_cell hx0 1).trans rfl
                          have y2 : w6.cell? ⟨gp, 2, none⟩ = some (.bool p.f2) := (blk_cell hx0 2).trans rfl
                          have y3 : w6.cell? ⟨gp, 3, none⟩ = some (.int .u32 p.f3) := (blk_cell hx0 3).trans rfl
                          have y4 : w6.cell? ⟨gp, 4, none⟩ = some (.slice Ap p.f4.length cp) := (blk_cell hx0 4).trans rfl
                          have z0 : w6.cell? ⟨gp + 1, 0, none⟩ = some (.int .u8 0) := (blk_cell hx1 0).trans rfl
                          have z1 : w6.cell? ⟨gp + 1, 1, none⟩ = some (.int .u32 0) := (blk_cell hx1 1).trans rfl
                          clear hb6 hx0 hx1 HW5 HR5 HIn'
                          go_wp2_with (at_builtin; refine Kd.R_append k31 (w0 := WB) WB.heap.size rfl (.tmp 90) (.tmp 92) 26 31 (.agg #[.bool false, .int .u8 0, .bool false, .int .u32 0, .slice none 0 0]) 32 rfl Tryd.underlying26 HI.out rfl (by decide) (by decide) u11 got' p [.bool p.f0, .int .u8 p.f1, .bool p.f2, .int .u32 p.f3, .slice Ap p.f4.length cp] (fun k => some k ≠ v5.ownBlock) (fun k => some k ≠ v5.ownBlock ∧ some k ≠ u11.ownBlock) rfl rfl ?aP (fun _ h => h) ?aF HW6.out.got HW6.out.bel HW6.out.bel.size HGL.out ?_; (case aP => exact k31_mkM _ _ _ p HR6.out); (case aF => exact fun k hk e => by have := Kd.R_lt HW6.out.sp.row k e.symm; omega); intro v1 w7 hR1 hB1 hg1 hat1; have HW7 := Aside0.mk (HPUT.out _ _ (HW6.out.push hg1 hB1 hR1)); clear hR1 hB1 hg1 hat1 HW6 HR6 y0 y1 y2 y3 y4 z0 z1)
                          go_roundg ((l'.drop (size1 l' m)).length + 1)
                          case measure => have := HLT5.out; have h := hmu1; simp at h; omega
                          case rel => exact ⟨_, _, _, false, cd', rfl, HW7.out, rfl, Nat.le_trans (Nat.le_of_lt HLT5.out) hle'⟩
                        · go_wp2_with fail
                          refine (Next_none HIn'.out.wp.sp (HCc.out.below HIn'.out.wp.bel) HIn'.out.byte hc hf).mono ?_
                          rintro e w5 ⟨rfl, hb5⟩
                          go_wp2_with fail
                          go_meet
                          case rel => exact ⟨l', got', v', false, cd', rfl, HIn'.out.below (below_alloc (below_alloc hb5 _) _), hle', fun _ => ⟨hc, hf⟩⟩
                      · exact absurd (HIn'.out.nofault HAL.out) hc
                case rest =>
                  obtain ⟨l4, got4, v4, bad4, cd4, _, hIn4, hle4, hid4⟩ := hcut
                  obtain ⟨rfl, rfl⟩ := hIn4.good HAL.out
                  have HIn4 := Aside0.mk hIn4
                  have HID4 := Aside0.mk hid4
                  clear hIn4 hid4 HIn3
                  go_wp2_with fail
                  go_roundg lx3.length
                  case measure => have := HMU.out; have := HMQ.out; omega
                  case rel => exact ⟨l4, lx3, got4, v4, j + 1, rfl, by rw [HJJ.out], HIn4.out, HID4.out, HY3.out, rfl, HMQ.out.2⟩
end Go.Proofs.YtkhlldhcmgkioaaDoor

