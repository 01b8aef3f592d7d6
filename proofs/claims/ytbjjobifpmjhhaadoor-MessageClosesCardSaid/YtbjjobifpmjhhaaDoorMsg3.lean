import Derived.Test.YtbjjobifpmjhhaaDoorMsg2
import Derived.Test.YtbjjobifpmjhhaaDoorPAllx2
import Derived.Test.YtbjjobifpmjhhaaDoorPAllx2
import Derived.Test.YtbjjobifpmjhhaaDoorPAllx2
import Derived.Test.YtbjjobifpmjhhaaDoorPAllx1
import Derived.Deep.RegionHeld3
namespace Go.Proofs.YtbjjobifpmjhhaaDoor
open Go.RowKit Go.Proofs.YtbjjobifpmjhhaaDoorW.PrintWords Go.Proofs.YtbjjobifpmjhhaaDoorW.PrintLast Go.Proofs.YtbjjobifpmjhhaaDoorW.PrintMore Go.Proofs.YtbjjobifpmjhhaaDoor.PAll
set_option linter.unusedVariables false
theorem bye_same : (strOfNums [98, 121, 101]).toList = [98, 121, 101] := by
  have : ∀ b : ByteArray, b.data.toList = [98, 121, 101] → b.toList = [98, 121, 101] := fun b h => by
    rw [ByteArray.toList_eq, h]
  exact this _ (by decide +kernel)
set_option maxHeartbeats 4000000 in
set_option maxRecDepth 100000 in
theorem fixed_yes (w : World) : Calls Tryd.prog 9 #[] w fun e w' => e = .returned (.bool true) ∧ Below w.heap.size w w' := by
  go_enter Tryd.func9, Tryd.ntmps9
  go_wp2_with fail
  refine (gnew_any _).mono ?_
  rintro e w1 ⟨rfl, hG, hb⟩
  have HG := Aside0.mk hG
  have HB := Aside0.mk hb
  clear hG hb
  go_wp2_with fail
  refine (message_Close.calls 400 1000 (⟨#[98, 121, 101]⟩ : ByteArray) true 8 false 0 [3, 232, 98, 121, 101] _ (by kernel_rfl)).mono ?_
  rintro e w2 ⟨vc, rfl, ho, hb⟩
  obtain ⟨A, c, rfl⟩ := Kd.R_slice ho
  have hC := (Kd.R_reads' ho).2.2
  have hc := (Kd.R_reads' ho).2.1
  have hG2 : IsG w2 w.heap.size (.slice none 0 0) false false (.pointer none) false := blk_below HG.out hb
  replace HB := Aside0.mk (below_step HB.out hb)
  clear ho hb
  go_wp2_with fail
  refine (calls_of_args rfl (Take_bye w.heap.size (.slice none 0 0) (.pointer none) false false A c _ rfl hG2 hC hc)).mono ?_
  rintro e w3 ⟨vn, rfl, hR, hG3, hB3⟩
  replace HB := Aside0.mk (hB3 w (Nat.le_refl _) HB.out)
  obtain ⟨Av, cv, rfl⟩ := Kd.R_slice hR
  have HR := Aside0.mk hR
  have HG3 := Aside0.mk hG3
  clear hG2 hC hc hR hG3 hB3 HG
  have hcv : ∀ o : Obj, (convert 24 9 (.slice Av 3 cv)).run Tryd.prog (w3.alloc o) = .ok (.string (strOfNums [98, 121, 101])) (w3.alloc o) := fun o => own_string (P := Tryd.prog) Tryd.underlying24 Tryd.underlying5 Tryd.underlying9 (Kd.own_of_R (Kd.R_alloc HR.out o))
  have hst := bye_same
  go_wp2_with fail
  refine (over_any w.heap.size (.slice none 0 0) (.pointer none) false false true _ (blk_alloc HG3.out _)).mono ?_
  rintro e w4 ⟨rfl, rfl⟩
  clear hcv
  go_wp2_with fail
  go_ret
  exact ⟨rfl, below_alloc HB.out _⟩
end Go.Proofs.YtbjjobifpmjhhaaDoor
