import Derived.Test.YtbjjobifpmjhhaaDoorSaysMessageCloses
import Derived.Test.YtbjjobifpmjhhaaDoorMsgD
import Derived.Test.YtbjjobifpmjhhaaDoorMsg3
import Derived.Test.YtbjjobifpmjhhaaDoorWhole18
import Derived.Test.YtbjjobifpmjhhaaDoorPAllx4
import Derived.Test.YtbjjobifpmjhhaaDoorPAllx4
namespace Go.Proofs.YtbjjobifpmjhhaaDoor
open Go.RowKit Go.Proofs.YtbjjobifpmjhhaaDoorW.PrintWords Go.Proofs.YtbjjobifpmjhhaaDoorW.PrintLast Go.Proofs.YtbjjobifpmjhhaaDoorW.PrintMore Go.Proofs.YtbjjobifpmjhhaaDoor.PAll Go.Proofs.YtbjjobifpmjhhaaDoor.U
set_option linter.unusedVariables false
theorem IsG.al {W : World} {g : Nat} {v u : Value} {b t r : Bool} (h : IsG W g v b t u r) (o : Obj) : IsG (W.alloc o) g v b t u r := by
  unfold IsG at h ⊢
  exact blk_alloc h o
theorem IsG.lt {W : World} {g : Nat} {v u : Value} {b t r : Bool} (h : IsG W g v b t u r) : g < W.heap.size := by
  unfold IsG at h
  exact blk_lt h
theorem CS {w4 W : World} {gp : Nat} {Ad : Option Addr} {d : List Int} {cd : Nat} (hp : w4.heap[gp]? = some (.cells #[.bool true, .int .u8 8, .bool false, .int .u32 0, .slice Ad d.length cd] 26 (0, 0))) (hb : Below w4.heap.size w4 W) : Aside0 (Below w4.heap.size w4 W) ∧ W.cell? ⟨gp, 0, none⟩ = some (.bool true) ∧ W.cell? ⟨gp, 1, none⟩ = some (.int .u8 8) ∧ W.cell? ⟨gp, 2, none⟩ = some (.bool false) ∧ W.cell? ⟨gp, 3, none⟩ = some (.int .u32 0) ∧ W.cell? ⟨gp, 4, none⟩ = some (.slice Ad d.length cd) := ⟨⟨hb⟩, (blk_cell (blk_below hp hb) 0).trans rfl, (blk_cell (blk_below hp hb) 1).trans rfl, (blk_cell (blk_below hp hb) 2).trans rfl, (blk_cell (blk_below hp hb) 3).trans rfl, (blk_cell (blk_below hp hb) 4).trans rfl⟩
set_option maxHeartbeats 8000000 in
set_option maxRecDepth 100000 in
theorem Closes_great (code : Int) (reason : ByteArray) (w : World) (hn : 3000 < (reason.size : Int)) : Calls Tryd.prog 3 #[.int .u32 code, .string reason] w fun e w' => e = .returned (.bool true) ∧ Below w.heap.size w w' := by
  have t0 : decide (3000 < (reason.size : Int)) = true := decide_eq_true hn
  have t1 : 3000 < reason.size := by omega
  go_enter Tryd.func3, Tryd.ntmps3
  go_wp2_with fail
  refine (fixed_yes _).mono ?_
  rintro e w1 ⟨rfl, hb⟩
  have HB := Aside0.mk hb
  clear hb
  go_wp2_with fail
  go_ret
  exact ⟨rfl, HB.out⟩
set_option maxHeartbeats 8000000 in
set_option maxRecDepth 100000 in
theorem Closes_un (code : Int) (reason : ByteArray) (w : World) (hn : (reason.size : Int) ≤ 3000) (d d2 : List Int) (c2 : Int) (HBE : Aside0 (message_Close.f 7000 code reason = some (true, 8, false, 0, d))) (HT1 : Aside0 (message_Told.f code = some false)) (HT2 : Aside0 (louverref18_Told.f code = some false)) (hcl : ClosesTo d d2 c2) (hd : (d.length : Int) ≤ 125) (hd0 : ((d.length : Int) == 0) = true) (hc2 : (c2 == 1005) = true) : Calls Tryd.prog 3 #[.int .u32 code, .string reason] w fun e w' => e = .returned (.bool true) ∧ Below w.heap.size w w' := by
  have hu30 := Tryd.underlying30
  have hu26 := Tryd.underlying26
  have HCL := Aside0.mk hcl
  clear hcl
  have t0 : decide (3000 < (reason.size : Int)) = false := decide_eq_false (by omega)
  have t1 : ¬ 3000 < reason.size := by omega
  have t2 : decide (125 < (d.length : Int)) = false := decide_eq_false (by omega)
  have t3 : ¬ 125 < d.length := by omega
  have t4 : decide (125 < d.length) = false := decide_eq_false t3
  go_enter Tryd.func3, Tryd.ntmps3
  go_wp2_with fail
  refine (message_Close.calls 7000 code reason true 8 false 0 d _ HBE.out).mono ?_
  rintro e w1 ⟨vd, rfl, ho, hb⟩
  obtain ⟨Ad, cd, rfl⟩ := Kd.R_slice ho
  have HD1 := Aside0.mk (Kd.R_reads' ho).2.2
  have hcd : d.length ≤ cd := (Kd.R_reads' ho).2.1
  have HB1 := Aside0.mk hb
  clear ho hb
  go_wp2_with fail
  have hB2 : Below w.heap.size w (w1.alloc (.cells #[.bool true, .int .u8 8, .bool false, .int .u32 0, .slice Ad d.length cd] 26)) := below_alloc HB1.out _
  have hD2 := Kd.C_below HD1.out (below_alloc (Below.refl _ _) (.cells #[.bool true, .int .u8 8, .bool false, .int .u32 0, .slice Ad d.length cd] 26))
  have hP2 : (w1.alloc (.cells #[.bool true, .int .u8 8, .bool false, .int .u32 0, .slice Ad d.length cd] 26)).heap[w1.heap.size]? = some (.cells #[.bool true, .int .u8 8, .bool false, .int .u32 0, .slice Ad d.length cd] 26 (0, 0)) := last_at _ _ _ rfl
  generalize w1.alloc (.cells #[.bool true, .int .u8 8, .bool false, .int .u32 0, .slice Ad d.length cd] 26) = w2 at hB2 hD2 hP2 ⊢
  generalize w1.heap.size = gp at hP2 ⊢
  clear HB1 HD1
  refine (message_Told.calls code false _ HT1.out).mono ?_
  rintro e w3 ⟨rfl, hb⟩
  have HB3 := Aside0.mk (below_step hB2 hb)
  have HD3 := Aside0.mk (Kd.C_below hD2 hb)
  have HP3 := Aside0.mk (blk_below hP2 hb)
  clear hb hB2 hD2 hP2
  go_wp2_with fail
  refine (louverref18_Told.calls code false _ HT2.out).mono ?_
  rintro e w4 ⟨rfl, hdr⟩
  have hb := Drawn0.below hdr
  have HB4 := Aside0.mk (below_step HB3.out hb)
  have HD4 := Aside0.mk (Kd.C_below HD3.out hb)
  have HP4 := Aside0.mk (blk_below HP3.out hb)
  clear hdr hb HB3 HD3 HP3
  have p0 : w4.cell? ⟨gp, 0, none⟩ = some (.bool true) := (blk_cell HP4.out 0).trans rfl
  have p1 : w4.cell? ⟨gp, 1, none⟩ = some (.int .u8 8) := (blk_cell HP4.out 1).trans rfl
  have p2 : w4.cell? ⟨gp, 2, none⟩ = some (.bool false) := (blk_cell HP4.out 2).trans rfl
  have p3 : w4.cell? ⟨gp, 3, none⟩ = some (.int .u32 0) := (blk_cell HP4.out 3).trans rfl
  have p4 : w4.cell? ⟨gp, 4, none⟩ = some (.slice Ad d.length cd) := (blk_cell HP4.out 4).trans rfl
  have pl := blk_lt HP4.out
  go_wp2_with fail
  clear p0 p1 p2 p3 p4 pl
  refine wp_region_noPanic ?_
  refine wp_region_held_drew (S := fun w' => Aside0 (Below w4.heap.size w4 w') ∧ w'.cell? ⟨gp, 0, none⟩ = some (.bool true) ∧ w'.cell? ⟨gp, 1, none⟩ = some (.int .u8 8) ∧ w'.cell? ⟨gp, 2, none⟩ = some (.bool false) ∧ w'.cell? ⟨gp, 3, none⟩ = some (.int .u32 0) ∧ w'.cell? ⟨gp, 4, none⟩ = some (.slice Ad d.length cd)) (by kernel_rfl) (CS HP4.out (below_drew (Below.refl _ _))) (fun hHeld => ?_)
  refine takeN (i := 1) (N := (some 42)) (v := ?v1) (a' := ?a1) rfl rfl (by kernel_rfl) (by kernel_rfl) (by kernel_rfl) (fun _ _ _ h => h) (Or.inl ⟨by rfl, ?hy1⟩) ?ha1 (by assumption) ?rest1
  case hy1 =>
    intro w_ hSw_
    go_simp
    first | done | (with_reducible rfl)
  case ha1 =>
    simp only [Act.put, List.setIfInBounds_toArray, List.set_cons_zero, List.set_cons_succ]
    rfl
  refine wpAnyH_ready (rs := [0, 6]) (by kernel_rfl) (by simp) ?_
  refine AllReadyH.cons rfl (fun K hK => ?_) (AllReadyH.cons rfl (fun K hK => ?_) AllReadyH.nil)
  · go_simp
    go_at_call 13
    with_reducible refine (gnew_any _).mono ?_
    rintro e w5 ⟨rfl, hG, hb⟩
    have HB5 := Aside0.mk (below_step hHeld.1.out hb)
    have HG5 : Aside0 (IsG w5 w4.heap.size (.slice none 0 0) false false (.pointer none) false) := ⟨hG⟩
    clear hG hb
    refine hK.out _ _ (CS HP4.out (HB5.out)) (fun hHeld => ?_)
    clear hK K
    try simp only [Act.put, List.setIfInBounds_toArray, List.set_cons_zero, List.set_cons_succ]
    refine wpAnyH_ready (rs := [2, 6]) (by kernel_rfl) (by simp) ?_
    refine AllReadyH.cons rfl (fun K hK => ?_) (AllReadyH.cons rfl (fun K hK => ?_) AllReadyH.nil)
    · go_simp
      go_at_call 14
      with_reducible refine (Take_close d d2 c2 HCL.out w4.heap.size (.slice none 0 0) (.pointer none) false false Ad cd _ rfl HG5.out (Kd.C_below HD4.out HB5.out) hcd).mono ?_
      rintro e w6 ⟨vn, rfl, ho, _, hk, hB0⟩
      obtain ⟨Av, cv, rfl⟩ := Kd.R_slice ho
      have HB6 := Aside0.mk (hB0 w4 (by simp) HB5.out)
      have HO := Aside0.mk ho
      clear ho hk hB0
      refine hK.out _ _ (CS HP4.out (HB6.out)) (fun hHeld => ?_)
      clear hK K
      try simp only [Act.put, List.setIfInBounds_toArray, List.set_cons_zero, List.set_cons_succ]
      refine takeN (i := 3) (N := (some 40)) (v := ?v2) (a' := ?a2) rfl rfl (by kernel_rfl) (by kernel_rfl) (by kernel_rfl) (fun _ _ _ h => h) (Or.inl ⟨by rfl, ?hy2⟩) ?ha2 (by assumption) ?rest2
      case hy2 =>
        intro w_ hSw_
        go_simp
        first | done | (with_reducible rfl)
      case ha2 =>
        simp only [Act.put, List.setIfInBounds_toArray, List.set_cons_zero, List.set_cons_succ]
        rfl
      refine takeN (i := 4) (N := (some 44)) (v := ?v3) (a' := ?a3) rfl rfl (by kernel_rfl) (by kernel_rfl) (by kernel_rfl) (fun _ _ _ h => h) (Or.inl ⟨by rfl, ?hy3⟩) ?ha3 (by assumption) ?rest3
      case hy3 =>
        intro w_ hSw_
        go_simp
        first | done | (with_reducible rfl)
      case ha3 =>
        simp only [Act.put, List.setIfInBounds_toArray, List.set_cons_zero, List.set_cons_succ]
        rfl
      refine takeN (i := 5) (N := (some 45)) (v := ?v4) (a' := ?a4) rfl rfl (by kernel_rfl) (by kernel_rfl) (by kernel_rfl) (fun _ _ _ h => h) (Or.inl ⟨by rfl, ?hy4⟩) ?ha4 (by assumption) ?rest4
      case hy4 =>
        intro w_ hSw_
        go_simp
        first | done | (with_reducible rfl)
      case ha4 =>
        simp only [Act.put, List.setIfInBounds_toArray, List.set_cons_zero, List.set_cons_succ]
        rfl
      refine wpAnyH_ready (rs := [6]) (by kernel_rfl) (by simp) ?_
      refine AllReadyH.cons rfl (fun K hK => ?_) AllReadyH.nil
      go_simp
      refine hK.out _ _ (CS HP4.out (below_alloc HB6.out _)) (fun hHeld => ?_)
      clear hK K
      try simp only [Act.put, List.setIfInBounds_toArray, List.set_cons_zero, List.set_cons_succ]
      refine wpAnyH_ready (rs := [7]) (by kernel_rfl) (by simp) ?_
      refine AllReadyH.cons rfl (fun K hK => ?_) AllReadyH.nil
      go_simp
      refine hK.out _ _ (CS HP4.out (below_alloc HB6.out _)) (fun hHeld => ?_)
      clear hK K
      try simp only [Act.put, List.setIfInBounds_toArray, List.set_cons_zero, List.set_cons_succ]
      refine takeN (i := 8) (N := (some 7)) (v := ?v5) (a' := ?a5) rfl rfl (by kernel_rfl) (by kernel_rfl) (by kernel_rfl) (fun _ _ _ h => h) (Or.inl ⟨by rfl, ?hy5⟩) ?ha5 (by assumption) ?rest5
      case hy5 =>
        intro w_ hSw_
        go_simp
        first | done | (with_reducible rfl)
      case ha5 =>
        simp only [Act.put, List.setIfInBounds_toArray, List.set_cons_zero, List.set_cons_succ]
        rfl
      refine wpAnyH_done (by kernel_rfl) ?_ _
      refine NoPanic.normal ?_
      have hBn := hHeld.1.out
      clear hHeld
      have hn : (w6.alloc (.cells #[.int .u8 4, .bool false, .slice Av d2.length cv, .int .u32 c2] 30)).heap[w6.heap.size]? = some (.cells #[.int .u8 4, .bool false, .slice Av d2.length cv, .int .u32 c2] 30 (0, 0)) := last_at _ _ _ rfl
      have hRn := Kd.R_mono (Kd.R_lower (Kd.R_alloc HO.out (.cells #[.int .u8 4, .bool false, .slice Av d2.length cv, .int .u32 c2] 30)) (show w4.heap.size ≤ _ from HB5.out.size)) (ok' := fun _ => True) (fun _ _ => trivial)
      generalize w6.alloc (.cells #[.int .u8 4, .bool false, .slice Av d2.length cv, .int .u32 c2] 30) = wn at hBn hn hRn ⊢
      generalize w6.heap.size = gn at hn ⊢
      clear HO HB6 HB5 HG5
      have HBn := Aside0.mk hBn
      have Hn := Aside0.mk hn
      have HRn := Aside0.mk hRn
      clear hBn hn hRn
      go_wp2_with fail
      refine (louverref18_Told.calls code false _ HT2.out).mono ?_
      rintro e w8 ⟨rfl, hdr⟩
      have hb := Drawn0.below hdr
      clear hdr
      have HB8 := Aside0.mk (below_step HBn.out hb)
      have Hn8 := Aside0.mk (blk_below Hn.out hb)
      have HR8 := Aside0.mk (Kd.R_below HRn.out hb)
      clear hb HBn Hn HRn
      go_wp2_with fail
      refine (fixed_yes _).mono ?_
      rintro e w9 ⟨rfl, hb⟩
      have HB9 := Aside0.mk (below_step HB8.out hb)
      have hn9 := blk_below Hn8.out hb
      have hp9 := blk_below HP4.out HB9.out
      have n0 : w9.cell? ⟨gn, 0, none⟩ = some (.int .u8 4) := (blk_cell hn9 0).trans rfl
      have n1 : w9.cell? ⟨gn, 1, none⟩ = some (.bool false) := (blk_cell hn9 1).trans rfl
      have n2 : w9.cell? ⟨gn, 2, none⟩ = some (.slice Av d2.length cv) := (blk_cell hn9 2).trans rfl
      have n3 : w9.cell? ⟨gn, 3, none⟩ = some (.int .u32 c2) := (blk_cell hn9 3).trans rfl
      have nl := blk_lt hn9
      have p0 : w9.cell? ⟨gp, 0, none⟩ = some (.bool true) := (blk_cell hp9 0).trans rfl
      have p1 : w9.cell? ⟨gp, 1, none⟩ = some (.int .u8 8) := (blk_cell hp9 1).trans rfl
      have p2 : w9.cell? ⟨gp, 2, none⟩ = some (.bool false) := (blk_cell hp9 2).trans rfl
      have p3 : w9.cell? ⟨gp, 3, none⟩ = some (.int .u32 0) := (blk_cell hp9 3).trans rfl
      have p4 : w9.cell? ⟨gp, 4, none⟩ = some (.slice Ad d.length cd) := (blk_cell hp9 4).trans rfl
      have pl := blk_lt hp9
      clear hn9 hp9 hb HB8 Hn8 HR8
      go_wp2_with fail
      go_ret
      exact ⟨rfl, below_step HB4.out HB9.out⟩
    · have HN : Aside0 ((w5.alloc (.cells #[.int .u8 0, .bool false, .slice none 0 0, .int .u32 0] 30)).heap[w5.heap.size]? = some (.cells #[.int .u8 0, .bool false, .slice none 0 0, .int .u32 0] 30 (0, 0))) := ⟨last_at _ _ _ rfl⟩
      go_simp
      refine hK.out _ _ (CS HP4.out (below_alloc HB5.out _)) (fun hHeld => ?_)
      clear hK K
      try simp only [Act.put, List.setIfInBounds_toArray, List.set_cons_zero, List.set_cons_succ]
      refine wpAnyH_ready (rs := [2]) (by kernel_rfl) (by simp) ?_
      refine AllReadyH.cons rfl (fun K hK => ?_) AllReadyH.nil
      go_simp
      go_at_call 14
      with_reducible refine (Take_close d d2 c2 HCL.out w4.heap.size (.slice none 0 0) (.pointer none) false false Ad cd _ rfl (IsG.al HG5.out (.cells #[.int .u8 0, .bool false, .slice none 0 0, .int .u32 0] 30)) (Kd.C_below HD4.out (below_alloc HB5.out (.cells #[.int .u8 0, .bool false, .slice none 0 0, .int .u32 0] 30))) hcd).mono ?_
      rintro e w6 ⟨vn, rfl, ho, _, hk, hB0⟩
      obtain ⟨Av, cv, rfl⟩ := Kd.R_slice ho
      have HB6 := Aside0.mk (hB0 w4 (by simp) (below_alloc HB5.out (.cells #[.int .u8 0, .bool false, .slice none 0 0, .int .u32 0] 30)))
      have hz : w6.heap[w5.heap.size]? = some (.cells #[.int .u8 0, .bool false, .slice none 0 0, .int .u32 0] 30 (0, 0)) := hk.blk HN.out (show w5.heap.size ≠ w4.heap.size from Nat.ne_of_gt (IsG.lt HG5.out)) (by simp)
      have ho2 := Kd.R_types (Kd.R_lower ho (show w4.heap.size ≤ _ from ((below_alloc HB5.out (.cells #[.int .u8 0, .bool false, .slice none 0 0, .int .u32 0] 30))).size)) hz (by intro q hq; simp [Kd.int, Kd.scalar] at hq; omega)
      have HO := Aside0.mk ho2
      have HZ := Aside0.mk hz
      have z0 : w6.cell? ⟨w5.heap.size, 0, none⟩ = some (.int .u8 0) := (blk_cell HZ.out 0).trans rfl
      have zf0 := blk_frozen HZ.out 0
      have z1 : w6.cell? ⟨w5.heap.size, 1, none⟩ = some (.bool false) := (blk_cell HZ.out 1).trans rfl
      have zf1 := blk_frozen HZ.out 1
      have z2 : w6.cell? ⟨w5.heap.size, 2, none⟩ = some (.slice none 0 0) := (blk_cell HZ.out 2).trans rfl
      have zf2 := blk_frozen HZ.out 2
      have z3 : w6.cell? ⟨w5.heap.size, 3, none⟩ = some (.int .u32 0) := (blk_cell HZ.out 3).trans rfl
      have zf3 := blk_frozen HZ.out 3
      have zl := blk_lt HZ.out
      clear ho ho2 hk hB0 hz
      refine hK.out _ _ (CS HP4.out (HB6.out)) (fun hHeld => ?_)
      clear hK K
      try simp only [Act.put, List.setIfInBounds_toArray, List.set_cons_zero, List.set_cons_succ]
      refine takeN (i := 3) (N := (some 40)) (v := ?v6) (a' := ?a6) rfl rfl (by kernel_rfl) (by kernel_rfl) (by kernel_rfl) (fun _ _ _ h => h) (Or.inl ⟨by rfl, ?hy6⟩) ?ha6 (by assumption) ?rest6
      case hy6 =>
        intro w_ hSw_
        go_simp
        first | done | (with_reducible rfl)
      case ha6 =>
        simp only [Act.put, List.setIfInBounds_toArray, List.set_cons_zero, List.set_cons_succ]
        rfl
      refine takeN (i := 4) (N := (some 44)) (v := ?v7) (a' := ?a7) rfl rfl (by kernel_rfl) (by kernel_rfl) (by kernel_rfl) (fun _ _ _ h => h) (Or.inl ⟨by rfl, ?hy7⟩) ?ha7 (by assumption) ?rest7
      case hy7 =>
        intro w_ hSw_
        go_simp
        first | done | (with_reducible rfl)
      case ha7 =>
        simp only [Act.put, List.setIfInBounds_toArray, List.set_cons_zero, List.set_cons_succ]
        rfl
      refine takeN (i := 5) (N := (some 45)) (v := ?v8) (a' := ?a8) rfl rfl (by kernel_rfl) (by kernel_rfl) (by kernel_rfl) (fun _ _ _ h => h) (Or.inl ⟨by rfl, ?hy8⟩) ?ha8 (by assumption) ?rest8
      case hy8 =>
        intro w_ hSw_
        go_simp
        first | done | (with_reducible rfl)
      case ha8 =>
        simp only [Act.put, List.setIfInBounds_toArray, List.set_cons_zero, List.set_cons_succ]
        rfl
      refine wpAnyH_ready (rs := [7]) (by kernel_rfl) (by simp) ?_
      refine AllReadyH.cons rfl (fun K hK => ?_) AllReadyH.nil
      go_simp
      refine hK.out _ _ (CS HP4.out (Below.setCell (Below.setCell (Below.setCell (Below.setCell (HB6.out) (show w4.heap.size ≤ w5.heap.size from by first | omega | simp | exact HB5.out.size) _) (show w4.heap.size ≤ w5.heap.size from by first | omega | simp | exact HB5.out.size) _) (show w4.heap.size ≤ w5.heap.size from by first | omega | simp | exact HB5.out.size) _) (show w4.heap.size ≤ w5.heap.size from by first | omega | simp | exact HB5.out.size) _)) (fun hHeld => ?_)
      clear hK K
      try simp only [Act.put, List.setIfInBounds_toArray, List.set_cons_zero, List.set_cons_succ]
      refine takeN (i := 8) (N := (some 7)) (v := ?v9) (a' := ?a9) rfl rfl (by kernel_rfl) (by kernel_rfl) (by kernel_rfl) (fun _ _ _ h => h) (Or.inl ⟨by rfl, ?hy9⟩) ?ha9 (by assumption) ?rest9
      case hy9 =>
        intro w_ hSw_
        go_simp
        first | done | (with_reducible rfl)
      case ha9 =>
        simp only [Act.put, List.setIfInBounds_toArray, List.set_cons_zero, List.set_cons_succ]
        rfl
      refine wpAnyH_done (by kernel_rfl) ?_ _
      refine NoPanic.normal ?_
      have hBn := hHeld.1.out
      clear hHeld
      have hn : ((((w6.setCell ⟨w5.heap.size, 0, none⟩ (.int .u8 4)).setCell ⟨w5.heap.size, 1, none⟩ (.bool false)).setCell ⟨w5.heap.size, 2, none⟩ (.slice Av d2.length cv)).setCell ⟨w5.heap.size, 3, none⟩ (.int .u32 c2)).heap[w5.heap.size]? = some (.cells #[.int .u8 4, .bool false, .slice Av d2.length cv, .int .u32 c2] 30 (0, 0)) := (blk_put (blk_put (blk_put (blk_put HZ.out 0 (.int .u8 4) rfl) 1 (.bool false) rfl) 2 (.slice Av d2.length cv) rfl) 3 (.int .u32 c2) rfl)
      have hRn := Kd.R_mono (Kd.R_far (Kd.R_far (Kd.R_far (Kd.R_far HO.out (p := ⟨w5.heap.size, 0, none⟩) (fun k hk => hk.2) (.int .u8 4)) (p := ⟨w5.heap.size, 1, none⟩) (fun k hk => hk.2) (.bool false)) (p := ⟨w5.heap.size, 2, none⟩) (fun k hk => hk.2) (.slice Av d2.length cv)) (p := ⟨w5.heap.size, 3, none⟩) (fun k hk => hk.2) (.int .u32 c2)) (ok' := fun _ => True) (fun _ _ => trivial)
      generalize ((((w6.setCell ⟨w5.heap.size, 0, none⟩ (.int .u8 4)).setCell ⟨w5.heap.size, 1, none⟩ (.bool false)).setCell ⟨w5.heap.size, 2, none⟩ (.slice Av d2.length cv)).setCell ⟨w5.heap.size, 3, none⟩ (.int .u32 c2)) = wn at hBn hn hRn ⊢
      clear z0 zf0 z1 zf1 z2 zf2 z3 zf3 zl

      generalize w5.heap.size = gn at hn ⊢
      clear HO HZ HB6 HB5 HG5 HN
      have HBn := Aside0.mk hBn
      have Hn := Aside0.mk hn
      have HRn := Aside0.mk hRn
      clear hBn hn hRn
      go_wp2_with fail
      refine (louverref18_Told.calls code false _ HT2.out).mono ?_
      rintro e w8 ⟨rfl, hdr⟩
      have hb := Drawn0.below hdr
      clear hdr
      have HB8 := Aside0.mk (below_step HBn.out hb)
      have Hn8 := Aside0.mk (blk_below Hn.out hb)
      have HR8 := Aside0.mk (Kd.R_below HRn.out hb)
      clear hb HBn Hn HRn
      go_wp2_with fail
      refine (fixed_yes _).mono ?_
      rintro e w9 ⟨rfl, hb⟩
      have HB9 := Aside0.mk (below_step HB8.out hb)
      have hn9 := blk_below Hn8.out hb
      have hp9 := blk_below HP4.out HB9.out
      have n0 : w9.cell? ⟨gn, 0, none⟩ = some (.int .u8 4) := (blk_cell hn9 0).trans rfl
      have n1 : w9.cell? ⟨gn, 1, none⟩ = some (.bool false) := (blk_cell hn9 1).trans rfl
      have n2 : w9.cell? ⟨gn, 2, none⟩ = some (.slice Av d2.length cv) := (blk_cell hn9 2).trans rfl
      have n3 : w9.cell? ⟨gn, 3, none⟩ = some (.int .u32 c2) := (blk_cell hn9 3).trans rfl
      have nl := blk_lt hn9
      have p0 : w9.cell? ⟨gp, 0, none⟩ = some (.bool true) := (blk_cell hp9 0).trans rfl
      have p1 : w9.cell? ⟨gp, 1, none⟩ = some (.int .u8 8) := (blk_cell hp9 1).trans rfl
      have p2 : w9.cell? ⟨gp, 2, none⟩ = some (.bool false) := (blk_cell hp9 2).trans rfl
      have p3 : w9.cell? ⟨gp, 3, none⟩ = some (.int .u32 0) := (blk_cell hp9 3).trans rfl
      have p4 : w9.cell? ⟨gp, 4, none⟩ = some (.slice Ad d.length cd) := (blk_cell hp9 4).trans rfl
      have pl := blk_lt hp9
      clear hn9 hp9 hb HB8 Hn8 HR8
      go_wp2_with fail
      go_ret
      exact ⟨rfl, below_step HB4.out HB9.out⟩
  · have HBa := Aside0.mk (below_alloc hHeld.1.out (.cells #[.int .u8 0, .bool false, .slice none 0 0, .int .u32 0] 30))
    have HNa : Aside0 ((w4.drew.alloc (.cells #[.int .u8 0, .bool false, .slice none 0 0, .int .u32 0] 30)).heap[w4.heap.size]? = some (.cells #[.int .u8 0, .bool false, .slice none 0 0, .int .u32 0] 30 (0, 0))) := ⟨last_at _ _ _ rfl⟩
    go_simp
    refine hK.out _ _ (CS HP4.out (HBa.out)) (fun hHeld => ?_)
    clear hK K
    try simp only [Act.put, List.setIfInBounds_toArray, List.set_cons_zero, List.set_cons_succ]
    refine wpAnyH_ready (rs := [0]) (by kernel_rfl) (by simp) ?_
    refine AllReadyH.cons rfl (fun K hK => ?_) AllReadyH.nil
    go_simp
    go_at_call 13
    with_reducible refine (gnew_any _).mono ?_
    rintro e w5 ⟨rfl, hG, hb⟩
    have HB5 := Aside0.mk (below_step hHeld.1.out hb)
    have HG5 : Aside0 (IsG w5 _ (.slice none 0 0) false false (.pointer none) false) := ⟨by simpa using hG⟩
    have HN : Aside0 (w5.heap[w4.heap.size]? = some (.cells #[.int .u8 0, .bool false, .slice none 0 0, .int .u32 0] 30 (0, 0))) := ⟨blk_below HNa.out hb⟩
    clear HNa HBa hG hb
    refine hK.out _ _ (CS HP4.out (HB5.out)) (fun hHeld => ?_)
    clear hK K
    try simp only [Act.put, List.setIfInBounds_toArray, List.set_cons_zero, List.set_cons_succ]
    refine wpAnyH_ready (rs := [2]) (by kernel_rfl) (by simp) ?_
    refine AllReadyH.cons rfl (fun K hK => ?_) AllReadyH.nil
    go_simp
    go_at_call 14
    with_reducible refine (Take_close d d2 c2 HCL.out _ (.slice none 0 0) (.pointer none) false false Ad cd _ rfl HG5.out (Kd.C_below HD4.out HB5.out) hcd).mono ?_
    rintro e w6 ⟨vn, rfl, ho, _, hk, hB0⟩
    obtain ⟨Av, cv, rfl⟩ := Kd.R_slice ho
    have HB6 := Aside0.mk (hB0 w4 (by simp) HB5.out)
    have hz : w6.heap[w4.heap.size]? = some (.cells #[.int .u8 0, .bool false, .slice none 0 0, .int .u32 0] 30 (0, 0)) := hk.blk HN.out (by simp) (by simp)
    have ho2 := Kd.R_types (Kd.R_lower ho (show w4.heap.size ≤ _ from (HB5.out).size)) hz (by intro q hq; simp [Kd.int, Kd.scalar] at hq; omega)
    have HO := Aside0.mk ho2
    have HZ := Aside0.mk hz
    have z0 : w6.cell? ⟨w4.heap.size, 0, none⟩ = some (.int .u8 0) := (blk_cell HZ.out 0).trans rfl
    have zf0 := blk_frozen HZ.out 0
    have z1 : w6.cell? ⟨w4.heap.size, 1, none⟩ = some (.bool false) := (blk_cell HZ.out 1).trans rfl
    have zf1 := blk_frozen HZ.out 1
    have z2 : w6.cell? ⟨w4.heap.size, 2, none⟩ = some (.slice none 0 0) := (blk_cell HZ.out 2).trans rfl
    have zf2 := blk_frozen HZ.out 2
    have z3 : w6.cell? ⟨w4.heap.size, 3, none⟩ = some (.int .u32 0) := (blk_cell HZ.out 3).trans rfl
    have zf3 := blk_frozen HZ.out 3
    have zl := blk_lt HZ.out
    clear ho ho2 hk hB0 hz
    refine hK.out _ _ (CS HP4.out (HB6.out)) (fun hHeld => ?_)
    clear hK K
    try simp only [Act.put, List.setIfInBounds_toArray, List.set_cons_zero, List.set_cons_succ]
    refine takeN (i := 3) (N := (some 40)) (v := ?v10) (a' := ?a10) rfl rfl (by kernel_rfl) (by kernel_rfl) (by kernel_rfl) (fun _ _ _ h => h) (Or.inl ⟨by rfl, ?hy10⟩) ?ha10 (by assumption) ?rest10
    case hy10 =>
      intro w_ hSw_
      go_simp
      first | done | (with_reducible rfl)
    case ha10 =>
      simp only [Act.put, List.setIfInBounds_toArray, List.set_cons_zero, List.set_cons_succ]
      rfl
    refine takeN (i := 4) (N := (some 44)) (v := ?v11) (a' := ?a11) rfl rfl (by kernel_rfl) (by kernel_rfl) (by kernel_rfl) (fun _ _ _ h => h) (Or.inl ⟨by rfl, ?hy11⟩) ?ha11 (by assumption) ?rest11
    case hy11 =>
      intro w_ hSw_
      go_simp
      first | done | (with_reducible rfl)
    case ha11 =>
      simp only [Act.put, List.setIfInBounds_toArray, List.set_cons_zero, List.set_cons_succ]
      rfl
    refine takeN (i := 5) (N := (some 45)) (v := ?v12) (a' := ?a12) rfl rfl (by kernel_rfl) (by kernel_rfl) (by kernel_rfl) (fun _ _ _ h => h) (Or.inl ⟨by rfl, ?hy12⟩) ?ha12 (by assumption) ?rest12
    case hy12 =>
      intro w_ hSw_
      go_simp
      first | done | (with_reducible rfl)
    case ha12 =>
      simp only [Act.put, List.setIfInBounds_toArray, List.set_cons_zero, List.set_cons_succ]
      rfl
    refine wpAnyH_ready (rs := [7]) (by kernel_rfl) (by simp) ?_
    refine AllReadyH.cons rfl (fun K hK => ?_) AllReadyH.nil
    go_simp
    refine hK.out _ _ (CS HP4.out (Below.setCell (Below.setCell (Below.setCell (Below.setCell (HB6.out) (show w4.heap.size ≤ w4.heap.size from by first | omega | simp | exact HB5.out.size) _) (show w4.heap.size ≤ w4.heap.size from by first | omega | simp | exact HB5.out.size) _) (show w4.heap.size ≤ w4.heap.size from by first | omega | simp | exact HB5.out.size) _) (show w4.heap.size ≤ w4.heap.size from by first | omega | simp | exact HB5.out.size) _)) (fun hHeld => ?_)
    clear hK K
    try simp only [Act.put, List.setIfInBounds_toArray, List.set_cons_zero, List.set_cons_succ]
    refine takeN (i := 8) (N := (some 7)) (v := ?v13) (a' := ?a13) rfl rfl (by kernel_rfl) (by kernel_rfl) (by kernel_rfl) (fun _ _ _ h => h) (Or.inl ⟨by rfl, ?hy13⟩) ?ha13 (by assumption) ?rest13
    case hy13 =>
      intro w_ hSw_
      go_simp
      first | done | (with_reducible rfl)
    case ha13 =>
      simp only [Act.put, List.setIfInBounds_toArray, List.set_cons_zero, List.set_cons_succ]
      rfl
    refine wpAnyH_done (by kernel_rfl) ?_ _
    refine NoPanic.normal ?_
    have hBn := hHeld.1.out
    clear hHeld
    have hn : ((((w6.setCell ⟨w4.heap.size, 0, none⟩ (.int .u8 4)).setCell ⟨w4.heap.size, 1, none⟩ (.bool false)).setCell ⟨w4.heap.size, 2, none⟩ (.slice Av d2.length cv)).setCell ⟨w4.heap.size, 3, none⟩ (.int .u32 c2)).heap[w4.heap.size]? = some (.cells #[.int .u8 4, .bool false, .slice Av d2.length cv, .int .u32 c2] 30 (0, 0)) := (blk_put (blk_put (blk_put (blk_put HZ.out 0 (.int .u8 4) rfl) 1 (.bool false) rfl) 2 (.slice Av d2.length cv) rfl) 3 (.int .u32 c2) rfl)
    have hRn := Kd.R_mono (Kd.R_far (Kd.R_far (Kd.R_far (Kd.R_far HO.out (p := ⟨w4.heap.size, 0, none⟩) (fun k hk => hk.2) (.int .u8 4)) (p := ⟨w4.heap.size, 1, none⟩) (fun k hk => hk.2) (.bool false)) (p := ⟨w4.heap.size, 2, none⟩) (fun k hk => hk.2) (.slice Av d2.length cv)) (p := ⟨w4.heap.size, 3, none⟩) (fun k hk => hk.2) (.int .u32 c2)) (ok' := fun _ => True) (fun _ _ => trivial)
    generalize ((((w6.setCell ⟨w4.heap.size, 0, none⟩ (.int .u8 4)).setCell ⟨w4.heap.size, 1, none⟩ (.bool false)).setCell ⟨w4.heap.size, 2, none⟩ (.slice Av d2.length cv)).setCell ⟨w4.heap.size, 3, none⟩ (.int .u32 c2)) = wn at hBn hn hRn ⊢
    clear z0 zf0 z1 zf1 z2 zf2 z3 zf3 zl

    generalize w4.heap.size = gn at hn ⊢
    clear HO HZ HB6 HB5 HG5 HN
    have HBn := Aside0.mk hBn
    have Hn := Aside0.mk hn
    have HRn := Aside0.mk hRn
    clear hBn hn hRn
    go_wp2_with fail
    refine (louverref18_Told.calls code false _ HT2.out).mono ?_
    rintro e w8 ⟨rfl, hdr⟩
    have hb := Drawn0.below hdr
    clear hdr
    have HB8 := Aside0.mk (below_step HBn.out hb)
    have Hn8 := Aside0.mk (blk_below Hn.out hb)
    have HR8 := Aside0.mk (Kd.R_below HRn.out hb)
    clear hb HBn Hn HRn
    go_wp2_with fail
    refine (fixed_yes _).mono ?_
    rintro e w9 ⟨rfl, hb⟩
    have HB9 := Aside0.mk (below_step HB8.out hb)
    have hn9 := blk_below Hn8.out hb
    have hp9 := blk_below HP4.out HB9.out
    have n0 : w9.cell? ⟨gn, 0, none⟩ = some (.int .u8 4) := (blk_cell hn9 0).trans rfl
    have n1 : w9.cell? ⟨gn, 1, none⟩ = some (.bool false) := (blk_cell hn9 1).trans rfl
    have n2 : w9.cell? ⟨gn, 2, none⟩ = some (.slice Av d2.length cv) := (blk_cell hn9 2).trans rfl
    have n3 : w9.cell? ⟨gn, 3, none⟩ = some (.int .u32 c2) := (blk_cell hn9 3).trans rfl
    have nl := blk_lt hn9
    have p0 : w9.cell? ⟨gp, 0, none⟩ = some (.bool true) := (blk_cell hp9 0).trans rfl
    have p1 : w9.cell? ⟨gp, 1, none⟩ = some (.int .u8 8) := (blk_cell hp9 1).trans rfl
    have p2 : w9.cell? ⟨gp, 2, none⟩ = some (.bool false) := (blk_cell hp9 2).trans rfl
    have p3 : w9.cell? ⟨gp, 3, none⟩ = some (.int .u32 0) := (blk_cell hp9 3).trans rfl
    have p4 : w9.cell? ⟨gp, 4, none⟩ = some (.slice Ad d.length cd) := (blk_cell hp9 4).trans rfl
    have pl := blk_lt hp9
    clear hn9 hp9 hb HB8 Hn8 HR8
    go_wp2_with fail
    go_ret
    exact ⟨rfl, below_step HB4.out HB9.out⟩
set_option maxHeartbeats 8000000 in
set_option maxRecDepth 100000 in
theorem Closes_told (code : Int) (reason : ByteArray) (w : World) (hn : (reason.size : Int) ≤ 3000) (d d2 : List Int) (c2 : Int) (HBE : Aside0 (message_Close.f 7000 code reason = some (true, 8, false, 0, d))) (HT1 : Aside0 (message_Told.f code = some true)) (HT2 : Aside0 (louverref18_Told.f code = some true)) (hcl : ClosesTo d d2 c2) (hd : (d.length : Int) ≤ 125) (R : ByteArray) (HRE : Aside0 (louverref18_Reason.f 7000 reason = some R)) (hsame : (strOfNums d2).toList = R.toList) (hc2 : (c2 == code) = true) : Calls Tryd.prog 3 #[.int .u32 code, .string reason] w fun e w' => e = .returned (.bool true) ∧ Below w.heap.size w w' := by
  have hu30 := Tryd.underlying30
  have hu26 := Tryd.underlying26
  have HCL := Aside0.mk hcl
  clear hcl
  have t0 : decide (3000 < (reason.size : Int)) = false := decide_eq_false (by omega)
  have t1 : ¬ 3000 < reason.size := by omega
  have t2 : decide (125 < (d.length : Int)) = false := decide_eq_false (by omega)
  have t3 : ¬ 125 < d.length := by omega
  have t4 : decide (125 < d.length) = false := decide_eq_false t3
  have HSAME := Aside0.mk hsame
  clear hsame
  go_enter Tryd.func3, Tryd.ntmps3
  go_wp2_with fail
  refine (message_Close.calls 7000 code reason true 8 false 0 d _ HBE.out).mono ?_
  rintro e w1 ⟨vd, rfl, ho, hb⟩
  obtain ⟨Ad, cd, rfl⟩ := Kd.R_slice ho
  have HD1 := Aside0.mk (Kd.R_reads' ho).2.2
  have hcd : d.length ≤ cd := (Kd.R_reads' ho).2.1
  have HB1 := Aside0.mk hb
  clear ho hb
  go_wp2_with fail
  have hB2 : Below w.heap.size w (w1.alloc (.cells #[.bool true, .int .u8 8, .bool false, .int .u32 0, .slice Ad d.length cd] 26)) := below_alloc HB1.out _
  have hD2 := Kd.C_below HD1.out (below_alloc (Below.refl _ _) (.cells #[.bool true, .int .u8 8, .bool false, .int .u32 0, .slice Ad d.length cd] 26))
  have hP2 : (w1.alloc (.cells #[.bool true, .int .u8 8, .bool false, .int .u32 0, .slice Ad d.length cd] 26)).heap[w1.heap.size]? = some (.cells #[.bool true, .int .u8 8, .bool false, .int .u32 0, .slice Ad d.length cd] 26 (0, 0)) := last_at _ _ _ rfl
  generalize w1.alloc (.cells #[.bool true, .int .u8 8, .bool false, .int .u32 0, .slice Ad d.length cd] 26) = w2 at hB2 hD2 hP2 ⊢
  generalize w1.heap.size = gp at hP2 ⊢
  clear HB1 HD1
  refine (message_Told.calls code true _ HT1.out).mono ?_
  rintro e w3 ⟨rfl, hb⟩
  have HB3 := Aside0.mk (below_step hB2 hb)
  have HD3 := Aside0.mk (Kd.C_below hD2 hb)
  have HP3 := Aside0.mk (blk_below hP2 hb)
  clear hb hB2 hD2 hP2
  go_wp2_with fail
  refine (louverref18_Told.calls code true _ HT2.out).mono ?_
  rintro e w4 ⟨rfl, hdr⟩
  have hb := Drawn0.below hdr
  have HB4 := Aside0.mk (below_step HB3.out hb)
  have HD4 := Aside0.mk (Kd.C_below HD3.out hb)
  have HP4 := Aside0.mk (blk_below HP3.out hb)
  clear hdr hb HB3 HD3 HP3
  have p0 : w4.cell? ⟨gp, 0, none⟩ = some (.bool true) := (blk_cell HP4.out 0).trans rfl
  have p1 : w4.cell? ⟨gp, 1, none⟩ = some (.int .u8 8) := (blk_cell HP4.out 1).trans rfl
  have p2 : w4.cell? ⟨gp, 2, none⟩ = some (.bool false) := (blk_cell HP4.out 2).trans rfl
  have p3 : w4.cell? ⟨gp, 3, none⟩ = some (.int .u32 0) := (blk_cell HP4.out 3).trans rfl
  have p4 : w4.cell? ⟨gp, 4, none⟩ = some (.slice Ad d.length cd) := (blk_cell HP4.out 4).trans rfl
  have pl := blk_lt HP4.out
  go_wp2_with fail
  clear p0 p1 p2 p3 p4 pl
  refine wp_region_noPanic ?_
  refine wp_region_held_drew (S := fun w' => Aside0 (Below w4.heap.size w4 w') ∧ w'.cell? ⟨gp, 0, none⟩ = some (.bool true) ∧ w'.cell? ⟨gp, 1, none⟩ = some (.int .u8 8) ∧ w'.cell? ⟨gp, 2, none⟩ = some (.bool false) ∧ w'.cell? ⟨gp, 3, none⟩ = some (.int .u32 0) ∧ w'.cell? ⟨gp, 4, none⟩ = some (.slice Ad d.length cd)) (by kernel_rfl) (CS HP4.out (below_drew (Below.refl _ _))) (fun hHeld => ?_)
  refine takeN (i := 1) (N := (some 42)) (v := ?v1) (a' := ?a1) rfl rfl (by kernel_rfl) (by kernel_rfl) (by kernel_rfl) (fun _ _ _ h => h) (Or.inl ⟨by rfl, ?hy1⟩) ?ha1 (by assumption) ?rest1
  case hy1 =>
    intro w_ hSw_
    go_simp
    first | done | (with_reducible rfl)
  case ha1 =>
    simp only [Act.put, List.setIfInBounds_toArray, List.set_cons_zero, List.set_cons_succ]
    rfl
  refine wpAnyH_ready (rs := [0, 6]) (by kernel_rfl) (by simp) ?_
  refine AllReadyH.cons rfl (fun K hK => ?_) (AllReadyH.cons rfl (fun K hK => ?_) AllReadyH.nil)
  · go_simp
    go_at_call 13
    with_reducible refine (gnew_any _).mono ?_
    rintro e w5 ⟨rfl, hG, hb⟩
    have HB5 := Aside0.mk (below_step hHeld.1.out hb)
    have HG5 : Aside0 (IsG w5 w4.heap.size (.slice none 0 0) false false (.pointer none) false) := ⟨hG⟩
    clear hG hb
    refine hK.out _ _ (CS HP4.out (HB5.out)) (fun hHeld => ?_)
    clear hK K
    try simp only [Act.put, List.setIfInBounds_toArray, List.set_cons_zero, List.set_cons_succ]
    refine wpAnyH_ready (rs := [2, 6]) (by kernel_rfl) (by simp) ?_
    refine AllReadyH.cons rfl (fun K hK => ?_) (AllReadyH.cons rfl (fun K hK => ?_) AllReadyH.nil)
    · go_simp
      go_at_call 14
      with_reducible refine (Take_close d d2 c2 HCL.out w4.heap.size (.slice none 0 0) (.pointer none) false false Ad cd _ rfl HG5.out (Kd.C_below HD4.out HB5.out) hcd).mono ?_
      rintro e w6 ⟨vn, rfl, ho, _, hk, hB0⟩
      obtain ⟨Av, cv, rfl⟩ := Kd.R_slice ho
      have HB6 := Aside0.mk (hB0 w4 (by simp) HB5.out)
      have HO := Aside0.mk ho
      clear ho hk hB0
      refine hK.out _ _ (CS HP4.out (HB6.out)) (fun hHeld => ?_)
      clear hK K
      try simp only [Act.put, List.setIfInBounds_toArray, List.set_cons_zero, List.set_cons_succ]
      refine takeN (i := 3) (N := (some 40)) (v := ?v14) (a' := ?a14) rfl rfl (by kernel_rfl) (by kernel_rfl) (by kernel_rfl) (fun _ _ _ h => h) (Or.inl ⟨by rfl, ?hy14⟩) ?ha14 (by assumption) ?rest14
      case hy14 =>
        intro w_ hSw_
        go_simp
        first | done | (with_reducible rfl)
      case ha14 =>
        simp only [Act.put, List.setIfInBounds_toArray, List.set_cons_zero, List.set_cons_succ]
        rfl
      refine takeN (i := 4) (N := (some 44)) (v := ?v15) (a' := ?a15) rfl rfl (by kernel_rfl) (by kernel_rfl) (by kernel_rfl) (fun _ _ _ h => h) (Or.inl ⟨by rfl, ?hy15⟩) ?ha15 (by assumption) ?rest15
      case hy15 =>
        intro w_ hSw_
        go_simp
        first | done | (with_reducible rfl)
      case ha15 =>
        simp only [Act.put, List.setIfInBounds_toArray, List.set_cons_zero, List.set_cons_succ]
        rfl
      refine takeN (i := 5) (N := (some 45)) (v := ?v16) (a' := ?a16) rfl rfl (by kernel_rfl) (by kernel_rfl) (by kernel_rfl) (fun _ _ _ h => h) (Or.inl ⟨by rfl, ?hy16⟩) ?ha16 (by assumption) ?rest16
      case hy16 =>
        intro w_ hSw_
        go_simp
        first | done | (with_reducible rfl)
      case ha16 =>
        simp only [Act.put, List.setIfInBounds_toArray, List.set_cons_zero, List.set_cons_succ]
        rfl
      refine wpAnyH_ready (rs := [6]) (by kernel_rfl) (by simp) ?_
      refine AllReadyH.cons rfl (fun K hK => ?_) AllReadyH.nil
      go_simp
      refine hK.out _ _ (CS HP4.out (below_alloc HB6.out _)) (fun hHeld => ?_)
      clear hK K
      try simp only [Act.put, List.setIfInBounds_toArray, List.set_cons_zero, List.set_cons_succ]
      refine wpAnyH_ready (rs := [7]) (by kernel_rfl) (by simp) ?_
      refine AllReadyH.cons rfl (fun K hK => ?_) AllReadyH.nil
      go_simp
      refine hK.out _ _ (CS HP4.out (below_alloc HB6.out _)) (fun hHeld => ?_)
      clear hK K
      try simp only [Act.put, List.setIfInBounds_toArray, List.set_cons_zero, List.set_cons_succ]
      refine takeN (i := 8) (N := (some 7)) (v := ?v17) (a' := ?a17) rfl rfl (by kernel_rfl) (by kernel_rfl) (by kernel_rfl) (fun _ _ _ h => h) (Or.inl ⟨by rfl, ?hy17⟩) ?ha17 (by assumption) ?rest17
      case hy17 =>
        intro w_ hSw_
        go_simp
        first | done | (with_reducible rfl)
      case ha17 =>
        simp only [Act.put, List.setIfInBounds_toArray, List.set_cons_zero, List.set_cons_succ]
        rfl
      refine wpAnyH_done (by kernel_rfl) ?_ _
      refine NoPanic.normal ?_
      have hBn := hHeld.1.out
      clear hHeld
      have hn : (w6.alloc (.cells #[.int .u8 4, .bool false, .slice Av d2.length cv, .int .u32 c2] 30)).heap[w6.heap.size]? = some (.cells #[.int .u8 4, .bool false, .slice Av d2.length cv, .int .u32 c2] 30 (0, 0)) := last_at _ _ _ rfl
      have hRn := Kd.R_mono (Kd.R_lower (Kd.R_alloc HO.out (.cells #[.int .u8 4, .bool false, .slice Av d2.length cv, .int .u32 c2] 30)) (show w4.heap.size ≤ _ from HB5.out.size)) (ok' := fun _ => True) (fun _ _ => trivial)
      generalize w6.alloc (.cells #[.int .u8 4, .bool false, .slice Av d2.length cv, .int .u32 c2] 30) = wn at hBn hn hRn ⊢
      generalize w6.heap.size = gn at hn ⊢
      clear HO HB6 HB5 HG5
      have HBn := Aside0.mk hBn
      have Hn := Aside0.mk hn
      have HRn := Aside0.mk hRn
      clear hBn hn hRn
      go_wp2_with fail
      refine (louverref18_Told.calls code true _ HT2.out).mono ?_
      rintro e w8 ⟨rfl, hdr⟩
      have hb := Drawn0.below hdr
      clear hdr
      have HB8 := Aside0.mk (below_step HBn.out hb)
      have Hn8 := Aside0.mk (blk_below Hn.out hb)
      have HR8 := Aside0.mk (Kd.R_below HRn.out hb)
      clear hb HBn Hn HRn
      go_wp2_with fail
      refine wp_region_noPanic ?_
      refine wp_region_held_drew (S := fun w' => Aside0 (Below w4.heap.size w4 w' ∧ w'.heap[gn]? = some (.cells #[.int .u8 4, .bool false, .slice Av d2.length cv, .int .u32 c2] 30 (0, 0)) ∧ Kd.R (Kd.int .u8) 5 w' w4.heap.size (fun _ => True) (.slice Av d2.length cv) d2) ∧ w'.cell? ⟨gn, 0, none⟩ = some (.int .u8 4) ∧ w'.cell? ⟨gn, 1, none⟩ = some (.bool false) ∧ w'.cell? ⟨gn, 2, none⟩ = some (.slice Av d2.length cv) ∧ w'.cell? ⟨gn, 3, none⟩ = some (.int .u32 c2) ∧ (convert 24 9 (.slice Av d2.length cv)).run Tryd.prog w' = .ok (.string (strOfNums d2)) w') (by kernel_rfl) (⟨⟨below_step HB8.out (below_drew (Below.refl _ _)), blk_drew Hn8.out, Kd.R_drew HR8.out⟩, (blk_cell (blk_drew Hn8.out) 0).trans rfl, (blk_cell (blk_drew Hn8.out) 1).trans rfl, (blk_cell (blk_drew Hn8.out) 2).trans rfl, (blk_cell (blk_drew Hn8.out) 3).trans rfl, own_string (P := Tryd.prog) Tryd.underlying24 Tryd.underlying5 Tryd.underlying9 (Kd.own_of_R (Kd.R_drew HR8.out))⟩) (fun hHeld => ?_)
      refine wpAnyH_ready (rs := [0]) (by kernel_rfl) (by simp) ?_
      refine AllReadyH.cons rfl (fun K hK => ?_) AllReadyH.nil
      go_simp
      go_at_call 9
      with_reducible refine (fixed_yes _).mono ?_
      rintro e w' ⟨rfl, hb⟩
      refine hK.out _ _ (⟨⟨below_step hHeld.1.out.1 hb, blk_below hHeld.1.out.2.1 hb, Kd.R_below hHeld.1.out.2.2 hb⟩, (blk_cell (blk_below hHeld.1.out.2.1 hb) 0).trans rfl, (blk_cell (blk_below hHeld.1.out.2.1 hb) 1).trans rfl, (blk_cell (blk_below hHeld.1.out.2.1 hb) 2).trans rfl, (blk_cell (blk_below hHeld.1.out.2.1 hb) 3).trans rfl, own_string (P := Tryd.prog) Tryd.underlying24 Tryd.underlying5 Tryd.underlying9 (Kd.own_of_R (Kd.R_below hHeld.1.out.2.2 hb))⟩) (fun hHeld => ?_)
      clear hK K
      try simp only [Act.put, List.setIfInBounds_toArray, List.set_cons_zero, List.set_cons_succ]
      refine takeN (i := 1) (N := (some 70)) (v := ?v18) (a' := ?a18) rfl rfl (by kernel_rfl) (by kernel_rfl) (by kernel_rfl) (fun _ _ _ h => h) (Or.inl ⟨by rfl, ?hy18⟩) ?ha18 (by assumption) ?rest18
      case hy18 =>
        intro w_ hSw_
        go_simp
        first | done | (with_reducible rfl)
      case ha18 =>
        simp only [Act.put, List.setIfInBounds_toArray, List.set_cons_zero, List.set_cons_succ]
        rfl
      refine takeN (i := 2) (N := (some 71)) (v := ?v19) (a' := ?a19) rfl rfl (by kernel_rfl) (by kernel_rfl) (by kernel_rfl) (fun _ _ _ h => h) (Or.inl ⟨by rfl, ?hy19⟩) ?ha19 (by assumption) ?rest19
      case hy19 =>
        intro w_ hSw_
        go_simp
        first | done | (with_reducible rfl)
      case ha19 =>
        simp only [Act.put, List.setIfInBounds_toArray, List.set_cons_zero, List.set_cons_succ]
        rfl
      refine takeN (i := 3) (N := (some 72)) (v := ?v20) (a' := ?a20) rfl rfl (by kernel_rfl) (by kernel_rfl) (by kernel_rfl) (fun _ _ _ h => h) (Or.inl ⟨by rfl, ?hy20⟩) ?ha20 (by assumption) ?rest20
      case hy20 =>
        intro w_ hSw_
        go_simp
        first | done | (with_reducible rfl)
      case ha20 =>
        simp only [Act.put, List.setIfInBounds_toArray, List.set_cons_zero, List.set_cons_succ]
        rfl
      refine takeN (i := 4) (N := (some 73)) (v := ?v21) (a' := ?a21) rfl rfl (by kernel_rfl) (by kernel_rfl) (by kernel_rfl) (fun _ _ _ h => h) (Or.inl ⟨by rfl, ?hy21⟩) ?ha21 (by assumption) ?rest21
      case hy21 =>
        intro w_ hSw_
        go_simp
        first | done | (with_reducible rfl)
      case ha21 =>
        simp only [Act.put, List.setIfInBounds_toArray, List.set_cons_zero, List.set_cons_succ]
        rfl
      refine takeN (i := 5) (N := (some 74)) (v := ?v22) (a' := ?a22) rfl rfl (by kernel_rfl) (by kernel_rfl) (by kernel_rfl) (fun _ _ _ h => h) (Or.inl ⟨by rfl, ?hy22⟩) ?ha22 (by assumption) ?rest22
      case hy22 =>
        intro w_ hSw_
        go_simp
        first | done | (with_reducible rfl)
      case ha22 =>
        simp only [Act.put, List.setIfInBounds_toArray, List.set_cons_zero, List.set_cons_succ]
        rfl
      refine takeN (i := 6) (N := (some 75)) (v := ?v23) (a' := ?a23) rfl rfl (by kernel_rfl) (by kernel_rfl) (by kernel_rfl) (fun _ _ _ h => h) (Or.inl ⟨by rfl, ?hy23⟩) ?ha23 (by assumption) ?rest23
      case hy23 =>
        intro w_ hSw_
        go_simp
        first | done | (with_reducible rfl)
      case ha23 =>
        simp only [Act.put, List.setIfInBounds_toArray, List.set_cons_zero, List.set_cons_succ]
        rfl
      refine takeN (i := 7) (N := (some 76)) (v := ?v24) (a' := ?a24) rfl rfl (by kernel_rfl) (by kernel_rfl) (by kernel_rfl) (fun _ _ _ h => h) (Or.inl ⟨by rfl, ?hy24⟩) ?ha24 (by assumption) ?rest24
      case hy24 =>
        intro w_ hSw_
        go_simp
        first | done | (with_reducible rfl)
      case ha24 =>
        simp only [Act.put, List.setIfInBounds_toArray, List.set_cons_zero, List.set_cons_succ]
        rfl
      refine takeN (i := 8) (N := (some 77)) (v := ?v25) (a' := ?a25) rfl rfl (by kernel_rfl) (by kernel_rfl) (by kernel_rfl) (fun _ _ _ h => h) (Or.inl ⟨by rfl, ?hy25⟩) ?ha25 (by assumption) ?rest25
      case hy25 =>
        intro w_ hSw_
        go_simp
        first | done | (with_reducible rfl)
      case ha25 =>
        simp only [Act.put, List.setIfInBounds_toArray, List.set_cons_zero, List.set_cons_succ]
        rfl
      refine takeN (i := 9) (N := (some 78)) (v := ?v26) (a' := ?a26) rfl rfl (by kernel_rfl) (by kernel_rfl) (by kernel_rfl) (fun _ _ _ h => h) (Or.inl ⟨by rfl, ?hy26⟩) ?ha26 (by assumption) ?rest26
      case hy26 =>
        intro w_ hSw_
        go_simp
        first | done | (with_reducible rfl)
      case ha26 =>
        simp only [Act.put, List.setIfInBounds_toArray, List.set_cons_zero, List.set_cons_succ]
        rfl
      refine takeN (i := 10) (N := (some 79)) (v := ?v27) (a' := ?a27) rfl rfl (by kernel_rfl) (by kernel_rfl) (by kernel_rfl) (fun _ _ _ h => h) (Or.inl ⟨by rfl, ?hy27⟩) ?ha27 (by assumption) ?rest27
      case hy27 =>
        intro w_ hSw_
        go_simp
        first | done | (with_reducible rfl)
      case ha27 =>
        simp only [Act.put, List.setIfInBounds_toArray, List.set_cons_zero, List.set_cons_succ]
        rfl
      refine takeN (i := 11) (N := (some 80)) (v := ?v28) (a' := ?a28) rfl rfl (by kernel_rfl) (by kernel_rfl) (by kernel_rfl) (fun _ _ _ h => h) (Or.inl ⟨by rfl, ?hy28⟩) ?ha28 (by assumption) ?rest28
      case hy28 =>
        intro w_ hSw_
        go_simp
        first | done | (with_reducible rfl)
      case ha28 =>
        simp only [Act.put, List.setIfInBounds_toArray, List.set_cons_zero, List.set_cons_succ]
        rfl
      refine takeN (i := 12) (N := (some 81)) (v := ?v29) (a' := ?a29) rfl rfl (by kernel_rfl) (by kernel_rfl) (by kernel_rfl) (fun _ _ _ h => h) (Or.inl ⟨by rfl, ?hy29⟩) ?ha29 (by assumption) ?rest29
      case hy29 =>
        intro w_ hSw_
        go_simp
        first | done | (with_reducible rfl)
      case ha29 =>
        simp only [Act.put, List.setIfInBounds_toArray, List.set_cons_zero, List.set_cons_succ]
        rfl
      refine takeN (i := 13) (N := (some 82)) (v := ?v30) (a' := ?a30) rfl rfl (by kernel_rfl) (by kernel_rfl) (by kernel_rfl) (fun _ _ _ h => h) (Or.inl ⟨by rfl, ?hy30⟩) ?ha30 (by assumption) ?rest30
      case hy30 =>
        intro w_ hSw_
        go_simp
        first | done | (with_reducible rfl)
      case ha30 =>
        simp only [Act.put, List.setIfInBounds_toArray, List.set_cons_zero, List.set_cons_succ]
        rfl
      refine takeN (i := 14) (N := (some 83)) (v := ?v31) (a' := ?a31) rfl rfl (by kernel_rfl) (by kernel_rfl) (by kernel_rfl) (fun _ _ _ h => h) (Or.inl ⟨by rfl, ?hy31⟩) ?ha31 (by assumption) ?rest31
      case hy31 =>
        intro w_ hSw_
        go_simp
        first | done | (with_reducible rfl)
      case ha31 =>
        simp only [Act.put, List.setIfInBounds_toArray, List.set_cons_zero, List.set_cons_succ]
        rfl
      refine takeN (i := 15) (N := (some 84)) (v := ?v32) (a' := ?a32) rfl rfl (by kernel_rfl) (by kernel_rfl) (by kernel_rfl) (fun _ _ _ h => h) (Or.inl ⟨by rfl, ?hy32⟩) ?ha32 (by assumption) ?rest32
      case hy32 =>
        intro w_ hSw_
        go_simp
        first | done | (with_reducible rfl)
      case ha32 =>
        simp only [Act.put, List.setIfInBounds_toArray, List.set_cons_zero, List.set_cons_succ]
        rfl
      refine takeN (i := 16) (N := (some 85)) (v := ?v33) (a' := ?a33) rfl rfl (by kernel_rfl) (by kernel_rfl) (by kernel_rfl) (fun _ _ _ h => h) (Or.inl ⟨by rfl, ?hy33⟩) ?ha33 (by assumption) ?rest33
      case hy33 =>
        intro w_ hSw_
        go_simp
        first | done | (with_reducible rfl)
      case ha33 =>
        simp only [Act.put, List.setIfInBounds_toArray, List.set_cons_zero, List.set_cons_succ]
        rfl
      refine takeN (i := 17) (N := (some 86)) (v := ?v34) (a' := ?a34) rfl rfl (by kernel_rfl) (by kernel_rfl) (by kernel_rfl) (fun _ _ _ h => h) (Or.inl ⟨by rfl, ?hy34⟩) ?ha34 (by assumption) ?rest34
      case hy34 =>
        intro w_ hSw_
        go_simp
        first | done | (with_reducible rfl)
      case ha34 =>
        simp only [Act.put, List.setIfInBounds_toArray, List.set_cons_zero, List.set_cons_succ]
        rfl
      refine takeN (i := 18) (N := (some 87)) (v := ?v35) (a' := ?a35) rfl rfl (by kernel_rfl) (by kernel_rfl) (by kernel_rfl) (fun _ _ _ h => h) (Or.inl ⟨by rfl, ?hy35⟩) ?ha35 (by assumption) ?rest35
      case hy35 =>
        intro w_ hSw_
        go_simp
        first | done | (with_reducible rfl)
      case ha35 =>
        simp only [Act.put, List.setIfInBounds_toArray, List.set_cons_zero, List.set_cons_succ]
        rfl
      refine takeN (i := 19) (N := (some 88)) (v := ?v36) (a' := ?a36) rfl rfl (by kernel_rfl) (by kernel_rfl) (by kernel_rfl) (fun _ _ _ h => h) (Or.inl ⟨by rfl, ?hy36⟩) ?ha36 (by assumption) ?rest36
      case hy36 =>
        intro w_ hSw_
        go_simp
        first | done | (with_reducible rfl)
      case ha36 =>
        simp only [Act.put, List.setIfInBounds_toArray, List.set_cons_zero, List.set_cons_succ]
        rfl
      refine wpAnyH_ready (rs := [20]) (by kernel_rfl) (by simp) ?_
      refine AllReadyH.cons rfl (fun K hK => ?_) AllReadyH.nil
      go_simp
      go_at_call 15
      with_reducible refine (louverref18_Reason.calls 7000 reason R _ HRE.out).mono ?_
      rintro e w' ⟨rfl, hb⟩
      have hst := HSAME.out
      refine hK.out _ _ (⟨⟨below_step hHeld.1.out.1 hb, blk_below hHeld.1.out.2.1 hb, Kd.R_below hHeld.1.out.2.2 hb⟩, (blk_cell (blk_below hHeld.1.out.2.1 hb) 0).trans rfl, (blk_cell (blk_below hHeld.1.out.2.1 hb) 1).trans rfl, (blk_cell (blk_below hHeld.1.out.2.1 hb) 2).trans rfl, (blk_cell (blk_below hHeld.1.out.2.1 hb) 3).trans rfl, own_string (P := Tryd.prog) Tryd.underlying24 Tryd.underlying5 Tryd.underlying9 (Kd.own_of_R (Kd.R_below hHeld.1.out.2.2 hb))⟩) (fun hHeld => ?_)
      clear hK K
      try simp only [Act.put, List.setIfInBounds_toArray, List.set_cons_zero, List.set_cons_succ]
      refine takeN (i := 21) (N := (some 90)) (v := ?v37) (a' := ?a37) rfl rfl (by kernel_rfl) (by kernel_rfl) (by kernel_rfl) (fun _ _ _ h => h) (Or.inl ⟨by rfl, ?hy37⟩) ?ha37 (by assumption) ?rest37
      case hy37 =>
        intro w_ hSw_
        go_simp
        first | done | (with_reducible rfl)
      case ha37 =>
        simp only [Act.put, List.setIfInBounds_toArray, List.set_cons_zero, List.set_cons_succ]
        rfl
      refine takeN (i := 22) (N := (some 91)) (v := ?v38) (a' := ?a38) rfl rfl (by kernel_rfl) (by kernel_rfl) (by kernel_rfl) (fun _ _ _ h => h) (Or.inl ⟨by rfl, ?hy38⟩) ?ha38 (by assumption) ?rest38
      case hy38 =>
        intro w_ hSw_
        go_simp
        first | done | (with_reducible rfl)
      case ha38 =>
        simp only [Act.put, List.setIfInBounds_toArray, List.set_cons_zero, List.set_cons_succ]
        rfl
      refine takeN (i := 23) (N := (some 4)) (v := ?v39) (a' := ?a39) rfl rfl (by kernel_rfl) (by kernel_rfl) (by kernel_rfl) (fun _ _ _ h => h) (Or.inl ⟨by rfl, ?hy39⟩) ?ha39 (by assumption) ?rest39
      case hy39 =>
        intro w_ hSw_
        go_simp
        first | done | (with_reducible rfl)
      case ha39 =>
        simp only [Act.put, List.setIfInBounds_toArray, List.set_cons_zero, List.set_cons_succ]
        rfl
      refine wpAnyH_done (by kernel_rfl) ?_ _
      refine NoPanic.normal ?_
      have HB9 := Aside0.mk hHeld.1.out.1
      clear hHeld hst
      go_wp2_with fail
      go_ret
      exact ⟨rfl, below_step HB4.out HB9.out⟩
    · have HN : Aside0 ((w5.alloc (.cells #[.int .u8 0, .bool false, .slice none 0 0, .int .u32 0] 30)).heap[w5.heap.size]? = some (.cells #[.int .u8 0, .bool false, .slice none 0 0, .int .u32 0] 30 (0, 0))) := ⟨last_at _ _ _ rfl⟩
      go_simp
      refine hK.out _ _ (CS HP4.out (below_alloc HB5.out _)) (fun hHeld => ?_)
      clear hK K
      try simp only [Act.put, List.setIfInBounds_toArray, List.set_cons_zero, List.set_cons_succ]
      refine wpAnyH_ready (rs := [2]) (by kernel_rfl) (by simp) ?_
      refine AllReadyH.cons rfl (fun K hK => ?_) AllReadyH.nil
      go_simp
      go_at_call 14
      with_reducible refine (Take_close d d2 c2 HCL.out w4.heap.size (.slice none 0 0) (.pointer none) false false Ad cd _ rfl (IsG.al HG5.out (.cells #[.int .u8 0, .bool false, .slice none 0 0, .int .u32 0] 30)) (Kd.C_below HD4.out (below_alloc HB5.out (.cells #[.int .u8 0, .bool false, .slice none 0 0, .int .u32 0] 30))) hcd).mono ?_
      rintro e w6 ⟨vn, rfl, ho, _, hk, hB0⟩
      obtain ⟨Av, cv, rfl⟩ := Kd.R_slice ho
      have HB6 := Aside0.mk (hB0 w4 (by simp) (below_alloc HB5.out (.cells #[.int .u8 0, .bool false, .slice none 0 0, .int .u32 0] 30)))
      have hz : w6.heap[w5.heap.size]? = some (.cells #[.int .u8 0, .bool false, .slice none 0 0, .int .u32 0] 30 (0, 0)) := hk.blk HN.out (show w5.heap.size ≠ w4.heap.size from Nat.ne_of_gt (IsG.lt HG5.out)) (by simp)
      have ho2 := Kd.R_types (Kd.R_lower ho (show w4.heap.size ≤ _ from ((below_alloc HB5.out (.cells #[.int .u8 0, .bool false, .slice none 0 0, .int .u32 0] 30))).size)) hz (by intro q hq; simp [Kd.int, Kd.scalar] at hq; omega)
      have HO := Aside0.mk ho2
      have HZ := Aside0.mk hz
      have z0 : w6.cell? ⟨w5.heap.size, 0, none⟩ = some (.int .u8 0) := (blk_cell HZ.out 0).trans rfl
      have zf0 := blk_frozen HZ.out 0
      have z1 : w6.cell? ⟨w5.heap.size, 1, none⟩ = some (.bool false) := (blk_cell HZ.out 1).trans rfl
      have zf1 := blk_frozen HZ.out 1
      have z2 : w6.cell? ⟨w5.heap.size, 2, none⟩ = some (.slice none 0 0) := (blk_cell HZ.out 2).trans rfl
      have zf2 := blk_frozen HZ.out 2
      have z3 : w6.cell? ⟨w5.heap.size, 3, none⟩ = some (.int .u32 0) := (blk_cell HZ.out 3).trans rfl
      have zf3 := blk_frozen HZ.out 3
      have zl := blk_lt HZ.out
      clear ho ho2 hk hB0 hz
      refine hK.out _ _ (CS HP4.out (HB6.out)) (fun hHeld => ?_)
      clear hK K
      try simp only [Act.put, List.setIfInBounds_toArray, List.set_cons_zero, List.set_cons_succ]
      refine takeN (i := 3) (N := (some 40)) (v := ?v40) (a' := ?a40) rfl rfl (by kernel_rfl) (by kernel_rfl) (by kernel_rfl) (fun _ _ _ h => h) (Or.inl ⟨by rfl, ?hy40⟩) ?ha40 (by assumption) ?rest40
      case hy40 =>
        intro w_ hSw_
        go_simp
        first | done | (with_reducible rfl)
      case ha40 =>
        simp only [Act.put, List.setIfInBounds_toArray, List.set_cons_zero, List.set_cons_succ]
        rfl
      refine takeN (i := 4) (N := (some 44)) (v := ?v41) (a' := ?a41) rfl rfl (by kernel_rfl) (by kernel_rfl) (by kernel_rfl) (fun _ _ _ h => h) (Or.inl ⟨by rfl, ?hy41⟩) ?ha41 (by assumption) ?rest41
      case hy41 =>
        intro w_ hSw_
        go_simp
        first | done | (with_reducible rfl)
      case ha41 =>
        simp only [Act.put, List.setIfInBounds_toArray, List.set_cons_zero, List.set_cons_succ]
        rfl
      refine takeN (i := 5) (N := (some 45)) (v := ?v42) (a' := ?a42) rfl rfl (by kernel_rfl) (by kernel_rfl) (by kernel_rfl) (fun _ _ _ h => h) (Or.inl ⟨by rfl, ?hy42⟩) ?ha42 (by assumption) ?rest42
      case hy42 =>
        intro w_ hSw_
        go_simp
        first | done | (with_reducible rfl)
      case ha42 =>
        simp only [Act.put, List.setIfInBounds_toArray, List.set_cons_zero, List.set_cons_succ]
        rfl
      refine wpAnyH_ready (rs := [7]) (by kernel_rfl) (by simp) ?_
      refine AllReadyH.cons rfl (fun K hK => ?_) AllReadyH.nil
      go_simp
      refine hK.out _ _ (CS HP4.out (Below.setCell (Below.setCell (Below.setCell (Below.setCell (HB6.out) (show w4.heap.size ≤ w5.heap.size from by first | omega | simp | exact HB5.out.size) _) (show w4.heap.size ≤ w5.heap.size from by first | omega | simp | exact HB5.out.size) _) (show w4.heap.size ≤ w5.heap.size from by first | omega | simp | exact HB5.out.size) _) (show w4.heap.size ≤ w5.heap.size from by first | omega | simp | exact HB5.out.size) _)) (fun hHeld => ?_)
      clear hK K
      try simp only [Act.put, List.setIfInBounds_toArray, List.set_cons_zero, List.set_cons_succ]
      refine takeN (i := 8) (N := (some 7)) (v := ?v43) (a' := ?a43) rfl rfl (by kernel_rfl) (by kernel_rfl) (by kernel_rfl) (fun _ _ _ h => h) (Or.inl ⟨by rfl, ?hy43⟩) ?ha43 (by assumption) ?rest43
      case hy43 =>
        intro w_ hSw_
        go_simp
        first | done | (with_reducible rfl)
      case ha43 =>
        simp only [Act.put, List.setIfInBounds_toArray, List.set_cons_zero, List.set_cons_succ]
        rfl
      refine wpAnyH_done (by kernel_rfl) ?_ _
      refine NoPanic.normal ?_
      have hBn := hHeld.1.out
      clear hHeld
      have hn : ((((w6.setCell ⟨w5.heap.size, 0, none⟩ (.int .u8 4)).setCell ⟨w5.heap.size, 1, none⟩ (.bool false)).setCell ⟨w5.heap.size, 2, none⟩ (.slice Av d2.length cv)).setCell ⟨w5.heap.size, 3, none⟩ (.int .u32 c2)).heap[w5.heap.size]? = some (.cells #[.int .u8 4, .bool false, .slice Av d2.length cv, .int .u32 c2] 30 (0, 0)) := (blk_put (blk_put (blk_put (blk_put HZ.out 0 (.int .u8 4) rfl) 1 (.bool false) rfl) 2 (.slice Av d2.length cv) rfl) 3 (.int .u32 c2) rfl)
      have hRn := Kd.R_mono (Kd.R_far (Kd.R_far (Kd.R_far (Kd.R_far HO.out (p := ⟨w5.heap.size, 0, none⟩) (fun k hk => hk.2) (.int .u8 4)) (p := ⟨w5.heap.size, 1, none⟩) (fun k hk => hk.2) (.bool false)) (p := ⟨w5.heap.size, 2, none⟩) (fun k hk => hk.2) (.slice Av d2.length cv)) (p := ⟨w5.heap.size, 3, none⟩) (fun k hk => hk.2) (.int .u32 c2)) (ok' := fun _ => True) (fun _ _ => trivial)
      generalize ((((w6.setCell ⟨w5.heap.size, 0, none⟩ (.int .u8 4)).setCell ⟨w5.heap.size, 1, none⟩ (.bool false)).setCell ⟨w5.heap.size, 2, none⟩ (.slice Av d2.length cv)).setCell ⟨w5.heap.size, 3, none⟩ (.int .u32 c2)) = wn at hBn hn hRn ⊢
      clear z0 zf0 z1 zf1 z2 zf2 z3 zf3 zl

      generalize w5.heap.size = gn at hn ⊢
      clear HO HZ HB6 HB5 HG5 HN
      have HBn := Aside0.mk hBn
      have Hn := Aside0.mk hn
      have HRn := Aside0.mk hRn
      clear hBn hn hRn
      go_wp2_with fail
      refine (louverref18_Told.calls code true _ HT2.out).mono ?_
      rintro e w8 ⟨rfl, hdr⟩
      have hb := Drawn0.below hdr
      clear hdr
      have HB8 := Aside0.mk (below_step HBn.out hb)
      have Hn8 := Aside0.mk (blk_below Hn.out hb)
      have HR8 := Aside0.mk (Kd.R_below HRn.out hb)
      clear hb HBn Hn HRn
      go_wp2_with fail
      refine wp_region_noPanic ?_
      refine wp_region_held_drew (S := fun w' => Aside0 (Below w4.heap.size w4 w' ∧ w'.heap[gn]? = some (.cells #[.int .u8 4, .bool false, .slice Av d2.length cv, .int .u32 c2] 30 (0, 0)) ∧ Kd.R (Kd.int .u8) 5 w' w4.heap.size (fun _ => True) (.slice Av d2.length cv) d2) ∧ w'.cell? ⟨gn, 0, none⟩ = some (.int .u8 4) ∧ w'.cell? ⟨gn, 1, none⟩ = some (.bool false) ∧ w'.cell? ⟨gn, 2, none⟩ = some (.slice Av d2.length cv) ∧ w'.cell? ⟨gn, 3, none⟩ = some (.int .u32 c2) ∧ (convert 24 9 (.slice Av d2.length cv)).run Tryd.prog w' = .ok (.string (strOfNums d2)) w') (by kernel_rfl) (⟨⟨below_step HB8.out (below_drew (Below.refl _ _)), blk_drew Hn8.out, Kd.R_drew HR8.out⟩, (blk_cell (blk_drew Hn8.out) 0).trans rfl, (blk_cell (blk_drew Hn8.out) 1).trans rfl, (blk_cell (blk_drew Hn8.out) 2).trans rfl, (blk_cell (blk_drew Hn8.out) 3).trans rfl, own_string (P := Tryd.prog) Tryd.underlying24 Tryd.underlying5 Tryd.underlying9 (Kd.own_of_R (Kd.R_drew HR8.out))⟩) (fun hHeld => ?_)
      refine wpAnyH_ready (rs := [0]) (by kernel_rfl) (by simp) ?_
      refine AllReadyH.cons rfl (fun K hK => ?_) AllReadyH.nil
      go_simp
      go_at_call 9
      with_reducible refine (fixed_yes _).mono ?_
      rintro e w' ⟨rfl, hb⟩
      refine hK.out _ _ (⟨⟨below_step hHeld.1.out.1 hb, blk_below hHeld.1.out.2.1 hb, Kd.R_below hHeld.1.out.2.2 hb⟩, (blk_cell (blk_below hHeld.1.out.2.1 hb) 0).trans rfl, (blk_cell (blk_below hHeld.1.out.2.1 hb) 1).trans rfl, (blk_cell (blk_below hHeld.1.out.2.1 hb) 2).trans rfl, (blk_cell (blk_below hHeld.1.out.2.1 hb) 3).trans rfl, own_string (P := Tryd.prog) Tryd.underlying24 Tryd.underlying5 Tryd.underlying9 (Kd.own_of_R (Kd.R_below hHeld.1.out.2.2 hb))⟩) (fun hHeld => ?_)
      clear hK K
      try simp only [Act.put, List.setIfInBounds_toArray, List.set_cons_zero, List.set_cons_succ]
      refine takeN (i := 1) (N := (some 70)) (v := ?v44) (a' := ?a44) rfl rfl (by kernel_rfl) (by kernel_rfl) (by kernel_rfl) (fun _ _ _ h => h) (Or.inl ⟨by rfl, ?hy44⟩) ?ha44 (by assumption) ?rest44
      case hy44 =>
        intro w_ hSw_
        go_simp
        first | done | (with_reducible rfl)
      case ha44 =>
        simp only [Act.put, List.setIfInBounds_toArray, List.set_cons_zero, List.set_cons_succ]
        rfl
      refine takeN (i := 2) (N := (some 71)) (v := ?v45) (a' := ?a45) rfl rfl (by kernel_rfl) (by kernel_rfl) (by kernel_rfl) (fun _ _ _ h => h) (Or.inl ⟨by rfl, ?hy45⟩) ?ha45 (by assumption) ?rest45
      case hy45 =>
        intro w_ hSw_
        go_simp
        first | done | (with_reducible rfl)
      case ha45 =>
        simp only [Act.put, List.setIfInBounds_toArray, List.set_cons_zero, List.set_cons_succ]
        rfl
      refine takeN (i := 3) (N := (some 72)) (v := ?v46) (a' := ?a46) rfl rfl (by kernel_rfl) (by kernel_rfl) (by kernel_rfl) (fun _ _ _ h => h) (Or.inl ⟨by rfl, ?hy46⟩) ?ha46 (by assumption) ?rest46
      case hy46 =>
        intro w_ hSw_
        go_simp
        first | done | (with_reducible rfl)
      case ha46 =>
        simp only [Act.put, List.setIfInBounds_toArray, List.set_cons_zero, List.set_cons_succ]
        rfl
      refine takeN (i := 4) (N := (some 73)) (v := ?v47) (a' := ?a47) rfl rfl (by kernel_rfl) (by kernel_rfl) (by kernel_rfl) (fun _ _ _ h => h) (Or.inl ⟨by rfl, ?hy47⟩) ?ha47 (by assumption) ?rest47
      case hy47 =>
        intro w_ hSw_
        go_simp
        first | done | (with_reducible rfl)
      case ha47 =>
        simp only [Act.put, List.setIfInBounds_toArray, List.set_cons_zero, List.set_cons_succ]
        rfl
      refine takeN (i := 5) (N := (some 74)) (v := ?v48) (a' := ?a48) rfl rfl (by kernel_rfl) (by kernel_rfl) (by kernel_rfl) (fun _ _ _ h => h) (Or.inl ⟨by rfl, ?hy48⟩) ?ha48 (by assumption) ?rest48
      case hy48 =>
        intro w_ hSw_
        go_simp
        first | done | (with_reducible rfl)
      case ha48 =>
        simp only [Act.put, List.setIfInBounds_toArray, List.set_cons_zero, List.set_cons_succ]
        rfl
      refine takeN (i := 6) (N := (some 75)) (v := ?v49) (a' := ?a49) rfl rfl (by kernel_rfl) (by kernel_rfl) (by kernel_rfl) (fun _ _ _ h => h) (Or.inl ⟨by rfl, ?hy49⟩) ?ha49 (by assumption) ?rest49
      case hy49 =>
        intro w_ hSw_
        go_simp
        first | done | (with_reducible rfl)
      case ha49 =>
        simp only [Act.put, List.setIfInBounds_toArray, List.set_cons_zero, List.set_cons_succ]
        rfl
      refine takeN (i := 7) (N := (some 76)) (v := ?v50) (a' := ?a50) rfl rfl (by kernel_rfl) (by kernel_rfl) (by kernel_rfl) (fun _ _ _ h => h) (Or.inl ⟨by rfl, ?hy50⟩) ?ha50 (by assumption) ?rest50
      case hy50 =>
        intro w_ hSw_
        go_simp
        first | done | (with_reducible rfl)
      case ha50 =>
        simp only [Act.put, List.setIfInBounds_toArray, List.set_cons_zero, List.set_cons_succ]
        rfl
      refine takeN (i := 8) (N := (some 77)) (v := ?v51) (a' := ?a51) rfl rfl (by kernel_rfl) (by kernel_rfl) (by kernel_rfl) (fun _ _ _ h => h) (Or.inl ⟨by rfl, ?hy51⟩) ?ha51 (by assumption) ?rest51
      case hy51 =>
        intro w_ hSw_
        go_simp
        first | done | (with_reducible rfl)
      case ha51 =>
        simp only [Act.put, List.setIfInBounds_toArray, List.set_cons_zero, List.set_cons_succ]
        rfl
      refine takeN (i := 9) (N := (some 78)) (v := ?v52) (a' := ?a52) rfl rfl (by kernel_rfl) (by kernel_rfl) (by kernel_rfl) (fun _ _ _ h => h) (Or.inl ⟨by rfl, ?hy52⟩) ?ha52 (by assumption) ?rest52
      case hy52 =>
        intro w_ hSw_
        go_simp
        first | done | (with_reducible rfl)
      case ha52 =>
        simp only [Act.put, List.setIfInBounds_toArray, List.set_cons_zero, List.set_cons_succ]
        rfl
      refine takeN (i := 10) (N := (some 79)) (v := ?v53) (a' := ?a53) rfl rfl (by kernel_rfl) (by kernel_rfl) (by kernel_rfl) (fun _ _ _ h => h) (Or.inl ⟨by rfl, ?hy53⟩) ?ha53 (by assumption) ?rest53
      case hy53 =>
        intro w_ hSw_
        go_simp
        first | done | (with_reducible rfl)
      case ha53 =>
        simp only [Act.put, List.setIfInBounds_toArray, List.set_cons_zero, List.set_cons_succ]
        rfl
      refine takeN (i := 11) (N := (some 80)) (v := ?v54) (a' := ?a54) rfl rfl (by kernel_rfl) (by kernel_rfl) (by kernel_rfl) (fun _ _ _ h => h) (Or.inl ⟨by rfl, ?hy54⟩) ?ha54 (by assumption) ?rest54
      case hy54 =>
        intro w_ hSw_
        go_simp
        first | done | (with_reducible rfl)
      case ha54 =>
        simp only [Act.put, List.setIfInBounds_toArray, List.set_cons_zero, List.set_cons_succ]
        rfl
      refine takeN (i := 12) (N := (some 81)) (v := ?v55) (a' := ?a55) rfl rfl (by kernel_rfl) (by kernel_rfl) (by kernel_rfl) (fun _ _ _ h => h) (Or.inl ⟨by rfl, ?hy55⟩) ?ha55 (by assumption) ?rest55
      case hy55 =>
        intro w_ hSw_
        go_simp
        first | done | (with_reducible rfl)
      case ha55 =>
        simp only [Act.put, List.setIfInBounds_toArray, List.set_cons_zero, List.set_cons_succ]
        rfl
      refine takeN (i := 13) (N := (some 82)) (v := ?v56) (a' := ?a56) rfl rfl (by kernel_rfl) (by kernel_rfl) (by kernel_rfl) (fun _ _ _ h => h) (Or.inl ⟨by rfl, ?hy56⟩) ?ha56 (by assumption) ?rest56
      case hy56 =>
        intro w_ hSw_
        go_simp
        first | done | (with_reducible rfl)
      case ha56 =>
        simp only [Act.put, List.setIfInBounds_toArray, List.set_cons_zero, List.set_cons_succ]
        rfl
      refine takeN (i := 14) (N := (some 83)) (v := ?v57) (a' := ?a57) rfl rfl (by kernel_rfl) (by kernel_rfl) (by kernel_rfl) (fun _ _ _ h => h) (Or.inl ⟨by rfl, ?hy57⟩) ?ha57 (by assumption) ?rest57
      case hy57 =>
        intro w_ hSw_
        go_simp
        first | done | (with_reducible rfl)
      case ha57 =>
        simp only [Act.put, List.setIfInBounds_toArray, List.set_cons_zero, List.set_cons_succ]
        rfl
      refine takeN (i := 15) (N := (some 84)) (v := ?v58) (a' := ?a58) rfl rfl (by kernel_rfl) (by kernel_rfl) (by kernel_rfl) (fun _ _ _ h => h) (Or.inl ⟨by rfl, ?hy58⟩) ?ha58 (by assumption) ?rest58
      case hy58 =>
        intro w_ hSw_
        go_simp
        first | done | (with_reducible rfl)
      case ha58 =>
        simp only [Act.put, List.setIfInBounds_toArray, List.set_cons_zero, List.set_cons_succ]
        rfl
      refine takeN (i := 16) (N := (some 85)) (v := ?v59) (a' := ?a59) rfl rfl (by kernel_rfl) (by kernel_rfl) (by kernel_rfl) (fun _ _ _ h => h) (Or.inl ⟨by rfl, ?hy59⟩) ?ha59 (by assumption) ?rest59
      case hy59 =>
        intro w_ hSw_
        go_simp
        first | done | (with_reducible rfl)
      case ha59 =>
        simp only [Act.put, List.setIfInBounds_toArray, List.set_cons_zero, List.set_cons_succ]
        rfl
      refine takeN (i := 17) (N := (some 86)) (v := ?v60) (a' := ?a60) rfl rfl (by kernel_rfl) (by kernel_rfl) (by kernel_rfl) (fun _ _ _ h => h) (Or.inl ⟨by rfl, ?hy60⟩) ?ha60 (by assumption) ?rest60
      case hy60 =>
        intro w_ hSw_
        go_simp
        first | done | (with_reducible rfl)
      case ha60 =>
        simp only [Act.put, List.setIfInBounds_toArray, List.set_cons_zero, List.set_cons_succ]
        rfl
      refine takeN (i := 18) (N := (some 87)) (v := ?v61) (a' := ?a61) rfl rfl (by kernel_rfl) (by kernel_rfl) (by kernel_rfl) (fun _ _ _ h => h) (Or.inl ⟨by rfl, ?hy61⟩) ?ha61 (by assumption) ?rest61
      case hy61 =>
        intro w_ hSw_
        go_simp
        first | done | (with_reducible rfl)
      case ha61 =>
        simp only [Act.put, List.setIfInBounds_toArray, List.set_cons_zero, List.set_cons_succ]
        rfl
      refine takeN (i := 19) (N := (some 88)) (v := ?v62) (a' := ?a62) rfl rfl (by kernel_rfl) (by kernel_rfl) (by kernel_rfl) (fun _ _ _ h => h) (Or.inl ⟨by rfl, ?hy62⟩) ?ha62 (by assumption) ?rest62
      case hy62 =>
        intro w_ hSw_
        go_simp
        first | done | (with_reducible rfl)
      case ha62 =>
        simp only [Act.put, List.setIfInBounds_toArray, List.set_cons_zero, List.set_cons_succ]
        rfl
      refine wpAnyH_ready (rs := [20]) (by kernel_rfl) (by simp) ?_
      refine AllReadyH.cons rfl (fun K hK => ?_) AllReadyH.nil
      go_simp
      go_at_call 15
      with_reducible refine (louverref18_Reason.calls 7000 reason R _ HRE.out).mono ?_
      rintro e w' ⟨rfl, hb⟩
      have hst := HSAME.out
      refine hK.out _ _ (⟨⟨below_step hHeld.1.out.1 hb, blk_below hHeld.1.out.2.1 hb, Kd.R_below hHeld.1.out.2.2 hb⟩, (blk_cell (blk_below hHeld.1.out.2.1 hb) 0).trans rfl, (blk_cell (blk_below hHeld.1.out.2.1 hb) 1).trans rfl, (blk_cell (blk_below hHeld.1.out.2.1 hb) 2).trans rfl, (blk_cell (blk_below hHeld.1.out.2.1 hb) 3).trans rfl, own_string (P := Tryd.prog) Tryd.underlying24 Tryd.underlying5 Tryd.underlying9 (Kd.own_of_R (Kd.R_below hHeld.1.out.2.2 hb))⟩) (fun hHeld => ?_)
      clear hK K
      try simp only [Act.put, List.setIfInBounds_toArray, List.set_cons_zero, List.set_cons_succ]
      refine takeN (i := 21) (N := (some 90)) (v := ?v63) (a' := ?a63) rfl rfl (by kernel_rfl) (by kernel_rfl) (by kernel_rfl) (fun _ _ _ h => h) (Or.inl ⟨by rfl, ?hy63⟩) ?ha63 (by assumption) ?rest63
      case hy63 =>
        intro w_ hSw_
        go_simp
        first | done | (with_reducible rfl)
      case ha63 =>
        simp only [Act.put, List.setIfInBounds_toArray, List.set_cons_zero, List.set_cons_succ]
        rfl
      refine takeN (i := 22) (N := (some 91)) (v := ?v64) (a' := ?a64) rfl rfl (by kernel_rfl) (by kernel_rfl) (by kernel_rfl) (fun _ _ _ h => h) (Or.inl ⟨by rfl, ?hy64⟩) ?ha64 (by assumption) ?rest64
      case hy64 =>
        intro w_ hSw_
        go_simp
        first | done | (with_reducible rfl)
      case ha64 =>
        simp only [Act.put, List.setIfInBounds_toArray, List.set_cons_zero, List.set_cons_succ]
        rfl
      refine takeN (i := 23) (N := (some 4)) (v := ?v65) (a' := ?a65) rfl rfl (by kernel_rfl) (by kernel_rfl) (by kernel_rfl) (fun _ _ _ h => h) (Or.inl ⟨by rfl, ?hy65⟩) ?ha65 (by assumption) ?rest65
      case hy65 =>
        intro w_ hSw_
        go_simp
        first | done | (with_reducible rfl)
      case ha65 =>
        simp only [Act.put, List.setIfInBounds_toArray, List.set_cons_zero, List.set_cons_succ]
        rfl
      refine wpAnyH_done (by kernel_rfl) ?_ _
      refine NoPanic.normal ?_
      have HB9 := Aside0.mk hHeld.1.out.1
      clear hHeld hst
      go_wp2_with fail
      go_ret
      exact ⟨rfl, below_step HB4.out HB9.out⟩
  · have HBa := Aside0.mk (below_alloc hHeld.1.out (.cells #[.int .u8 0, .bool false, .slice none 0 0, .int .u32 0] 30))
    have HNa : Aside0 ((w4.drew.alloc (.cells #[.int .u8 0, .bool false, .slice none 0 0, .int .u32 0] 30)).heap[w4.heap.size]? = some (.cells #[.int .u8 0, .bool false, .slice none 0 0, .int .u32 0] 30 (0, 0))) := ⟨last_at _ _ _ rfl⟩
    go_simp
    refine hK.out _ _ (CS HP4.out (HBa.out)) (fun hHeld => ?_)
    clear hK K
    try simp only [Act.put, List.setIfInBounds_toArray, List.set_cons_zero, List.set_cons_succ]
    refine wpAnyH_ready (rs := [0]) (by kernel_rfl) (by simp) ?_
    refine AllReadyH.cons rfl (fun K hK => ?_) AllReadyH.nil
    go_simp
    go_at_call 13
    with_reducible refine (gnew_any _).mono ?_
    rintro e w5 ⟨rfl, hG, hb⟩
    have HB5 := Aside0.mk (below_step hHeld.1.out hb)
    have HG5 : Aside0 (IsG w5 _ (.slice none 0 0) false false (.pointer none) false) := ⟨by simpa using hG⟩
    have HN : Aside0 (w5.heap[w4.heap.size]? = some (.cells #[.int .u8 0, .bool false, .slice none 0 0, .int .u32 0] 30 (0, 0))) := ⟨blk_below HNa.out hb⟩
    clear HNa HBa hG hb
    refine hK.out _ _ (CS HP4.out (HB5.out)) (fun hHeld => ?_)
    clear hK K
    try simp only [Act.put, List.setIfInBounds_toArray, List.set_cons_zero, List.set_cons_succ]
    refine wpAnyH_ready (rs := [2]) (by kernel_rfl) (by simp) ?_
    refine AllReadyH.cons rfl (fun K hK => ?_) AllReadyH.nil
    go_simp
    go_at_call 14
    with_reducible refine (Take_close d d2 c2 HCL.out _ (.slice none 0 0) (.pointer none) false false Ad cd _ rfl HG5.out (Kd.C_below HD4.out HB5.out) hcd).mono ?_
    rintro e w6 ⟨vn, rfl, ho, _, hk, hB0⟩
    obtain ⟨Av, cv, rfl⟩ := Kd.R_slice ho
    have HB6 := Aside0.mk (hB0 w4 (by simp) HB5.out)
    have hz : w6.heap[w4.heap.size]? = some (.cells #[.int .u8 0, .bool false, .slice none 0 0, .int .u32 0] 30 (0, 0)) := hk.blk HN.out (by simp) (by simp)
    have ho2 := Kd.R_types (Kd.R_lower ho (show w4.heap.size ≤ _ from (HB5.out).size)) hz (by intro q hq; simp [Kd.int, Kd.scalar] at hq; omega)
    have HO := Aside0.mk ho2
    have HZ := Aside0.mk hz
    have z0 : w6.cell? ⟨w4.heap.size, 0, none⟩ = some (.int .u8 0) := (blk_cell HZ.out 0).trans rfl
    have zf0 := blk_frozen HZ.out 0
    have z1 : w6.cell? ⟨w4.heap.size, 1, none⟩ = some (.bool false) := (blk_cell HZ.out 1).trans rfl
    have zf1 := blk_frozen HZ.out 1
    have z2 : w6.cell? ⟨w4.heap.size, 2, none⟩ = some (.slice none 0 0) := (blk_cell HZ.out 2).trans rfl
    have zf2 := blk_frozen HZ.out 2
    have z3 : w6.cell? ⟨w4.heap.size, 3, none⟩ = some (.int .u32 0) := (blk_cell HZ.out 3).trans rfl
    have zf3 := blk_frozen HZ.out 3
    have zl := blk_lt HZ.out
    clear ho ho2 hk hB0 hz
    refine hK.out _ _ (CS HP4.out (HB6.out)) (fun hHeld => ?_)
    clear hK K
    try simp only [Act.put, List.setIfInBounds_toArray, List.set_cons_zero, List.set_cons_succ]
    refine takeN (i := 3) (N := (some 40)) (v := ?v66) (a' := ?a66) rfl rfl (by kernel_rfl) (by kernel_rfl) (by kernel_rfl) (fun _ _ _ h => h) (Or.inl ⟨by rfl, ?hy66⟩) ?ha66 (by assumption) ?rest66
    case hy66 =>
      intro w_ hSw_
      go_simp
      first | done | (with_reducible rfl)
    case ha66 =>
      simp only [Act.put, List.setIfInBounds_toArray, List.set_cons_zero, List.set_cons_succ]
      rfl
    refine takeN (i := 4) (N := (some 44)) (v := ?v67) (a' := ?a67) rfl rfl (by kernel_rfl) (by kernel_rfl) (by kernel_rfl) (fun _ _ _ h => h) (Or.inl ⟨by rfl, ?hy67⟩) ?ha67 (by assumption) ?rest67
    case hy67 =>
      intro w_ hSw_
      go_simp
      first | done | (with_reducible rfl)
    case ha67 =>
      simp only [Act.put, List.setIfInBounds_toArray, List.set_cons_zero, List.set_cons_succ]
      rfl
    refine takeN (i := 5) (N := (some 45)) (v := ?v68) (a' := ?a68) rfl rfl (by kernel_rfl) (by kernel_rfl) (by kernel_rfl) (fun _ _ _ h => h) (Or.inl ⟨by rfl, ?hy68⟩) ?ha68 (by assumption) ?rest68
    case hy68 =>
      intro w_ hSw_
      go_simp
      first | done | (with_reducible rfl)
    case ha68 =>
      simp only [Act.put, List.setIfInBounds_toArray, List.set_cons_zero, List.set_cons_succ]
      rfl
    refine wpAnyH_ready (rs := [7]) (by kernel_rfl) (by simp) ?_
    refine AllReadyH.cons rfl (fun K hK => ?_) AllReadyH.nil
    go_simp
    refine hK.out _ _ (CS HP4.out (Below.setCell (Below.setCell (Below.setCell (Below.setCell (HB6.out) (show w4.heap.size ≤ w4.heap.size from by first | omega | simp | exact HB5.out.size) _) (show w4.heap.size ≤ w4.heap.size from by first | omega | simp | exact HB5.out.size) _) (show w4.heap.size ≤ w4.heap.size from by first | omega | simp | exact HB5.out.size) _) (show w4.heap.size ≤ w4.heap.size from by first | omega | simp | exact HB5.out.size) _)) (fun hHeld => ?_)
    clear hK K
    try simp only [Act.put, List.setIfInBounds_toArray, List.set_cons_zero, List.set_cons_succ]
    refine takeN (i := 8) (N := (some 7)) (v := ?v69) (a' := ?a69) rfl rfl (by kernel_rfl) (by kernel_rfl) (by kernel_rfl) (fun _ _ _ h => h) (Or.inl ⟨by rfl, ?hy69⟩) ?ha69 (by assumption) ?rest69
    case hy69 =>
      intro w_ hSw_
      go_simp
      first | done | (with_reducible rfl)
    case ha69 =>
      simp only [Act.put, List.setIfInBounds_toArray, List.set_cons_zero, List.set_cons_succ]
      rfl
    refine wpAnyH_done (by kernel_rfl) ?_ _
    refine NoPanic.normal ?_
    have hBn := hHeld.1.out
    clear hHeld
    have hn : ((((w6.setCell ⟨w4.heap.size, 0, none⟩ (.int .u8 4)).setCell ⟨w4.heap.size, 1, none⟩ (.bool false)).setCell ⟨w4.heap.size, 2, none⟩ (.slice Av d2.length cv)).setCell ⟨w4.heap.size, 3, none⟩ (.int .u32 c2)).heap[w4.heap.size]? = some (.cells #[.int .u8 4, .bool false, .slice Av d2.length cv, .int .u32 c2] 30 (0, 0)) := (blk_put (blk_put (blk_put (blk_put HZ.out 0 (.int .u8 4) rfl) 1 (.bool false) rfl) 2 (.slice Av d2.length cv) rfl) 3 (.int .u32 c2) rfl)
    have hRn := Kd.R_mono (Kd.R_far (Kd.R_far (Kd.R_far (Kd.R_far HO.out (p := ⟨w4.heap.size, 0, none⟩) (fun k hk => hk.2) (.int .u8 4)) (p := ⟨w4.heap.size, 1, none⟩) (fun k hk => hk.2) (.bool false)) (p := ⟨w4.heap.size, 2, none⟩) (fun k hk => hk.2) (.slice Av d2.length cv)) (p := ⟨w4.heap.size, 3, none⟩) (fun k hk => hk.2) (.int .u32 c2)) (ok' := fun _ => True) (fun _ _ => trivial)
    generalize ((((w6.setCell ⟨w4.heap.size, 0, none⟩ (.int .u8 4)).setCell ⟨w4.heap.size, 1, none⟩ (.bool false)).setCell ⟨w4.heap.size, 2, none⟩ (.slice Av d2.length cv)).setCell ⟨w4.heap.size, 3, none⟩ (.int .u32 c2)) = wn at hBn hn hRn ⊢
    clear z0 zf0 z1 zf1 z2 zf2 z3 zf3 zl

    generalize w4.heap.size = gn at hn ⊢
    clear HO HZ HB6 HB5 HG5 HN
    have HBn := Aside0.mk hBn
    have Hn := Aside0.mk hn
    have HRn := Aside0.mk hRn
    clear hBn hn hRn
    go_wp2_with fail
    refine (louverref18_Told.calls code true _ HT2.out).mono ?_
    rintro e w8 ⟨rfl, hdr⟩
    have hb := Drawn0.below hdr
    clear hdr
    have HB8 := Aside0.mk (below_step HBn.out hb)
    have Hn8 := Aside0.mk (blk_below Hn.out hb)
    have HR8 := Aside0.mk (Kd.R_below HRn.out hb)
    clear hb HBn Hn HRn
    go_wp2_with fail
    refine wp_region_noPanic ?_
    refine wp_region_held_drew (S := fun w' => Aside0 (Below w4.heap.size w4 w' ∧ w'.heap[gn]? = some (.cells #[.int .u8 4, .bool false, .slice Av d2.length cv, .int .u32 c2] 30 (0, 0)) ∧ Kd.R (Kd.int .u8) 5 w' w4.heap.size (fun _ => True) (.slice Av d2.length cv) d2) ∧ w'.cell? ⟨gn, 0, none⟩ = some (.int .u8 4) ∧ w'.cell? ⟨gn, 1, none⟩ = some (.bool false) ∧ w'.cell? ⟨gn, 2, none⟩ = some (.slice Av d2.length cv) ∧ w'.cell? ⟨gn, 3, none⟩ = some (.int .u32 c2) ∧ (convert 24 9 (.slice Av d2.length cv)).run Tryd.prog w' = .ok (.string (strOfNums d2)) w') (by kernel_rfl) (⟨⟨below_step HB8.out (below_drew (Below.refl _ _)), blk_drew Hn8.out, Kd.R_drew HR8.out⟩, (blk_cell (blk_drew Hn8.out) 0).trans rfl, (blk_cell (blk_drew Hn8.out) 1).trans rfl, (blk_cell (blk_drew Hn8.out) 2).trans rfl, (blk_cell (blk_drew Hn8.out) 3).trans rfl, own_string (P := Tryd.prog) Tryd.underlying24 Tryd.underlying5 Tryd.underlying9 (Kd.own_of_R (Kd.R_drew HR8.out))⟩) (fun hHeld => ?_)
    refine wpAnyH_ready (rs := [0]) (by kernel_rfl) (by simp) ?_
    refine AllReadyH.cons rfl (fun K hK => ?_) AllReadyH.nil
    go_simp
    go_at_call 9
    with_reducible refine (fixed_yes _).mono ?_
    rintro e w' ⟨rfl, hb⟩
    refine hK.out _ _ (⟨⟨below_step hHeld.1.out.1 hb, blk_below hHeld.1.out.2.1 hb, Kd.R_below hHeld.1.out.2.2 hb⟩, (blk_cell (blk_below hHeld.1.out.2.1 hb) 0).trans rfl, (blk_cell (blk_below hHeld.1.out.2.1 hb) 1).trans rfl, (blk_cell (blk_below hHeld.1.out.2.1 hb) 2).trans rfl, (blk_cell (blk_below hHeld.1.out.2.1 hb) 3).trans rfl, own_string (P := Tryd.prog) Tryd.underlying24 Tryd.underlying5 Tryd.underlying9 (Kd.own_of_R (Kd.R_below hHeld.1.out.2.2 hb))⟩) (fun hHeld => ?_)
    clear hK K
    try simp only [Act.put, List.setIfInBounds_toArray, List.set_cons_zero, List.set_cons_succ]
    refine takeN (i := 1) (N := (some 70)) (v := ?v70) (a' := ?a70) rfl rfl (by kernel_rfl) (by kernel_rfl) (by kernel_rfl) (fun _ _ _ h => h) (Or.inl ⟨by rfl, ?hy70⟩) ?ha70 (by assumption) ?rest70
    case hy70 =>
      intro w_ hSw_
      go_simp
      first | done | (with_reducible rfl)
    case ha70 =>
      simp only [Act.put, List.setIfInBounds_toArray, List.set_cons_zero, List.set_cons_succ]
      rfl
    refine takeN (i := 2) (N := (some 71)) (v := ?v71) (a' := ?a71) rfl rfl (by kernel_rfl) (by kernel_rfl) (by kernel_rfl) (fun _ _ _ h => h) (Or.inl ⟨by rfl, ?hy71⟩) ?ha71 (by assumption) ?rest71
    case hy71 =>
      intro w_ hSw_
      go_simp
      first | done | (with_reducible rfl)
    case ha71 =>
      simp only [Act.put, List.setIfInBounds_toArray, List.set_cons_zero, List.set_cons_succ]
      rfl
    refine takeN (i := 3) (N := (some 72)) (v := ?v72) (a' := ?a72) rfl rfl (by kernel_rfl) (by kernel_rfl) (by kernel_rfl) (fun _ _ _ h => h) (Or.inl ⟨by rfl, ?hy72⟩) ?ha72 (by assumption) ?rest72
    case hy72 =>
      intro w_ hSw_
      go_simp
      first | done | (with_reducible rfl)
    case ha72 =>
      simp only [Act.put, List.setIfInBounds_toArray, List.set_cons_zero, List.set_cons_succ]
      rfl
    refine takeN (i := 4) (N := (some 73)) (v := ?v73) (a' := ?a73) rfl rfl (by kernel_rfl) (by kernel_rfl) (by kernel_rfl) (fun _ _ _ h => h) (Or.inl ⟨by rfl, ?hy73⟩) ?ha73 (by assumption) ?rest73
    case hy73 =>
      intro w_ hSw_
      go_simp
      first | done | (with_reducible rfl)
    case ha73 =>
      simp only [Act.put, List.setIfInBounds_toArray, List.set_cons_zero, List.set_cons_succ]
      rfl
    refine takeN (i := 5) (N := (some 74)) (v := ?v74) (a' := ?a74) rfl rfl (by kernel_rfl) (by kernel_rfl) (by kernel_rfl) (fun _ _ _ h => h) (Or.inl ⟨by rfl, ?hy74⟩) ?ha74 (by assumption) ?rest74
    case hy74 =>
      intro w_ hSw_
      go_simp
      first | done | (with_reducible rfl)
    case ha74 =>
      simp only [Act.put, List.setIfInBounds_toArray, List.set_cons_zero, List.set_cons_succ]
      rfl
    refine takeN (i := 6) (N := (some 75)) (v := ?v75) (a' := ?a75) rfl rfl (by kernel_rfl) (by kernel_rfl) (by kernel_rfl) (fun _ _ _ h => h) (Or.inl ⟨by rfl, ?hy75⟩) ?ha75 (by assumption) ?rest75
    case hy75 =>
      intro w_ hSw_
      go_simp
      first | done | (with_reducible rfl)
    case ha75 =>
      simp only [Act.put, List.setIfInBounds_toArray, List.set_cons_zero, List.set_cons_succ]
      rfl
    refine takeN (i := 7) (N := (some 76)) (v := ?v76) (a' := ?a76) rfl rfl (by kernel_rfl) (by kernel_rfl) (by kernel_rfl) (fun _ _ _ h => h) (Or.inl ⟨by rfl, ?hy76⟩) ?ha76 (by assumption) ?rest76
    case hy76 =>
      intro w_ hSw_
      go_simp
      first | done | (with_reducible rfl)
    case ha76 =>
      simp only [Act.put, List.setIfInBounds_toArray, List.set_cons_zero, List.set_cons_succ]
      rfl
    refine takeN (i := 8) (N := (some 77)) (v := ?v77) (a' := ?a77) rfl rfl (by kernel_rfl) (by kernel_rfl) (by kernel_rfl) (fun _ _ _ h => h) (Or.inl ⟨by rfl, ?hy77⟩) ?ha77 (by assumption) ?rest77
    case hy77 =>
      intro w_ hSw_
      go_simp
      first | done | (with_reducible rfl)
    case ha77 =>
      simp only [Act.put, List.setIfInBounds_toArray, List.set_cons_zero, List.set_cons_succ]
      rfl
    refine takeN (i := 9) (N := (some 78)) (v := ?v78) (a' := ?a78) rfl rfl (by kernel_rfl) (by kernel_rfl) (by kernel_rfl) (fun _ _ _ h => h) (Or.inl ⟨by rfl, ?hy78⟩) ?ha78 (by assumption) ?rest78
    case hy78 =>
      intro w_ hSw_
      go_simp
      first | done | (with_reducible rfl)
    case ha78 =>
      simp only [Act.put, List.setIfInBounds_toArray, List.set_cons_zero, List.set_cons_succ]
      rfl
    refine takeN (i := 10) (N := (some 79)) (v := ?v79) (a' := ?a79) rfl rfl (by kernel_rfl) (by kernel_rfl) (by kernel_rfl) (fun _ _ _ h => h) (Or.inl ⟨by rfl, ?hy79⟩) ?ha79 (by assumption) ?rest79
    case hy79 =>
      intro w_ hSw_
      go_simp
      first | done | (with_reducible rfl)
    case ha79 =>
      simp only [Act.put, List.setIfInBounds_toArray, List.set_cons_zero, List.set_cons_succ]
      rfl
    refine takeN (i := 11) (N := (some 80)) (v := ?v80) (a' := ?a80) rfl rfl (by kernel_rfl) (by kernel_rfl) (by kernel_rfl) (fun _ _ _ h => h) (Or.inl ⟨by rfl, ?hy80⟩) ?ha80 (by assumption) ?rest80
    case hy80 =>
      intro w_ hSw_
      go_simp
      first | done | (with_reducible rfl)
    case ha80 =>
      simp only [Act.put, List.setIfInBounds_toArray, List.set_cons_zero, List.set_cons_succ]
      rfl
    refine takeN (i := 12) (N := (some 81)) (v := ?v81) (a' := ?a81) rfl rfl (by kernel_rfl) (by kernel_rfl) (by kernel_rfl) (fun _ _ _ h => h) (Or.inl ⟨by rfl, ?hy81⟩) ?ha81 (by assumption) ?rest81
    case hy81 =>
      intro w_ hSw_
      go_simp
      first | done | (with_reducible rfl)
    case ha81 =>
      simp only [Act.put, List.setIfInBounds_toArray, List.set_cons_zero, List.set_cons_succ]
      rfl
    refine takeN (i := 13) (N := (some 82)) (v := ?v82) (a' := ?a82) rfl rfl (by kernel_rfl) (by kernel_rfl) (by kernel_rfl) (fun _ _ _ h => h) (Or.inl ⟨by rfl, ?hy82⟩) ?ha82 (by assumption) ?rest82
    case hy82 =>
      intro w_ hSw_
      go_simp
      first | done | (with_reducible rfl)
    case ha82 =>
      simp only [Act.put, List.setIfInBounds_toArray, List.set_cons_zero, List.set_cons_succ]
      rfl
    refine takeN (i := 14) (N := (some 83)) (v := ?v83) (a' := ?a83) rfl rfl (by kernel_rfl) (by kernel_rfl) (by kernel_rfl) (fun _ _ _ h => h) (Or.inl ⟨by rfl, ?hy83⟩) ?ha83 (by assumption) ?rest83
    case hy83 =>
      intro w_ hSw_
      go_simp
      first | done | (with_reducible rfl)
    case ha83 =>
      simp only [Act.put, List.setIfInBounds_toArray, List.set_cons_zero, List.set_cons_succ]
      rfl
    refine takeN (i := 15) (N := (some 84)) (v := ?v84) (a' := ?a84) rfl rfl (by kernel_rfl) (by kernel_rfl) (by kernel_rfl) (fun _ _ _ h => h) (Or.inl ⟨by rfl, ?hy84⟩) ?ha84 (by assumption) ?rest84
    case hy84 =>
      intro w_ hSw_
      go_simp
      first | done | (with_reducible rfl)
    case ha84 =>
      simp only [Act.put, List.setIfInBounds_toArray, List.set_cons_zero, List.set_cons_succ]
      rfl
    refine takeN (i := 16) (N := (some 85)) (v := ?v85) (a' := ?a85) rfl rfl (by kernel_rfl) (by kernel_rfl) (by kernel_rfl) (fun _ _ _ h => h) (Or.inl ⟨by rfl, ?hy85⟩) ?ha85 (by assumption) ?rest85
    case hy85 =>
      intro w_ hSw_
      go_simp
      first | done | (with_reducible rfl)
    case ha85 =>
      simp only [Act.put, List.setIfInBounds_toArray, List.set_cons_zero, List.set_cons_succ]
      rfl
    refine takeN (i := 17) (N := (some 86)) (v := ?v86) (a' := ?a86) rfl rfl (by kernel_rfl) (by kernel_rfl) (by kernel_rfl) (fun _ _ _ h => h) (Or.inl ⟨by rfl, ?hy86⟩) ?ha86 (by assumption) ?rest86
    case hy86 =>
      intro w_ hSw_
      go_simp
      first | done | (with_reducible rfl)
    case ha86 =>
      simp only [Act.put, List.setIfInBounds_toArray, List.set_cons_zero, List.set_cons_succ]
      rfl
    refine takeN (i := 18) (N := (some 87)) (v := ?v87) (a' := ?a87) rfl rfl (by kernel_rfl) (by kernel_rfl) (by kernel_rfl) (fun _ _ _ h => h) (Or.inl ⟨by rfl, ?hy87⟩) ?ha87 (by assumption) ?rest87
    case hy87 =>
      intro w_ hSw_
      go_simp
      first | done | (with_reducible rfl)
    case ha87 =>
      simp only [Act.put, List.setIfInBounds_toArray, List.set_cons_zero, List.set_cons_succ]
      rfl
    refine takeN (i := 19) (N := (some 88)) (v := ?v88) (a' := ?a88) rfl rfl (by kernel_rfl) (by kernel_rfl) (by kernel_rfl) (fun _ _ _ h => h) (Or.inl ⟨by rfl, ?hy88⟩) ?ha88 (by assumption) ?rest88
    case hy88 =>
      intro w_ hSw_
      go_simp
      first | done | (with_reducible rfl)
    case ha88 =>
      simp only [Act.put, List.setIfInBounds_toArray, List.set_cons_zero, List.set_cons_succ]
      rfl
    refine wpAnyH_ready (rs := [20]) (by kernel_rfl) (by simp) ?_
    refine AllReadyH.cons rfl (fun K hK => ?_) AllReadyH.nil
    go_simp
    go_at_call 15
    with_reducible refine (louverref18_Reason.calls 7000 reason R _ HRE.out).mono ?_
    rintro e w' ⟨rfl, hb⟩
    have hst := HSAME.out
    refine hK.out _ _ (⟨⟨below_step hHeld.1.out.1 hb, blk_below hHeld.1.out.2.1 hb, Kd.R_below hHeld.1.out.2.2 hb⟩, (blk_cell (blk_below hHeld.1.out.2.1 hb) 0).trans rfl, (blk_cell (blk_below hHeld.1.out.2.1 hb) 1).trans rfl, (blk_cell (blk_below hHeld.1.out.2.1 hb) 2).trans rfl, (blk_cell (blk_below hHeld.1.out.2.1 hb) 3).trans rfl, own_string (P := Tryd.prog) Tryd.underlying24 Tryd.underlying5 Tryd.underlying9 (Kd.own_of_R (Kd.R_below hHeld.1.out.2.2 hb))⟩) (fun hHeld => ?_)
    clear hK K
    try simp only [Act.put, List.setIfInBounds_toArray, List.set_cons_zero, List.set_cons_succ]
    refine takeN (i := 21) (N := (some 90)) (v := ?v89) (a' := ?a89) rfl rfl (by kernel_rfl) (by kernel_rfl) (by kernel_rfl) (fun _ _ _ h => h) (Or.inl ⟨by rfl, ?hy89⟩) ?ha89 (by assumption) ?rest89
    case hy89 =>
      intro w_ hSw_
      go_simp
      first | done | (with_reducible rfl)
    case ha89 =>
      simp only [Act.put, List.setIfInBounds_toArray, List.set_cons_zero, List.set_cons_succ]
      rfl
    refine takeN (i := 22) (N := (some 91)) (v := ?v90) (a' := ?a90) rfl rfl (by kernel_rfl) (by kernel_rfl) (by kernel_rfl) (fun _ _ _ h => h) (Or.inl ⟨by rfl, ?hy90⟩) ?ha90 (by assumption) ?rest90
    case hy90 =>
      intro w_ hSw_
      go_simp
      first | done | (with_reducible rfl)
    case ha90 =>
      simp only [Act.put, List.setIfInBounds_toArray, List.set_cons_zero, List.set_cons_succ]
      rfl
    refine takeN (i := 23) (N := (some 4)) (v := ?v91) (a' := ?a91) rfl rfl (by kernel_rfl) (by kernel_rfl) (by kernel_rfl) (fun _ _ _ h => h) (Or.inl ⟨by rfl, ?hy91⟩) ?ha91 (by assumption) ?rest91
    case hy91 =>
      intro w_ hSw_
      go_simp
      first | done | (with_reducible rfl)
    case ha91 =>
      simp only [Act.put, List.setIfInBounds_toArray, List.set_cons_zero, List.set_cons_succ]
      rfl
    refine wpAnyH_done (by kernel_rfl) ?_ _
    refine NoPanic.normal ?_
    have HB9 := Aside0.mk hHeld.1.out.1
    clear hHeld hst
    go_wp2_with fail
    go_ret
    exact ⟨rfl, below_step HB4.out HB9.out⟩
theorem wrap_u32c {x : Int} (h0 : 0 ≤ x) (h1 : x ≤ 4294967295) : IntKind.u32.wrap x = x := by
  have : IntKind.u32.wrap x = x % 4294967296 := by simp [IntKind.wrap, IntKind.bits, IntKind.signed]
  rw [this]; omega
theorem nat_orc (s b : Nat) (hb : b < 256) : s * 256 ||| b = s * 256 + b := by
  have := Nat.two_pow_add_eq_or_of_lt (show b < 2 ^ 8 from hb) s
  rw [show (2 : Nat) ^ 8 = 256 from rfl, Nat.mul_comm] at this
  exact this.symm
theorem or_byte32c {s b : Int} (h0 : 0 ≤ s) (h1 : s < 16777216) (hb : 0 ≤ b ∧ b ≤ 255) : Go.bits .or .u32 (s * 256) b = s * 256 + b := by
  obtain ⟨n, rfl⟩ : ∃ n : Nat, s = (n : Int) := ⟨s.toNat, by omega⟩
  obtain ⟨m, rfl⟩ : ∃ m : Nat, b = (m : Int) := ⟨b.toNat, by omega⟩
  have e1 : (BitVec.ofInt 32 ((n : Int) * 256)).toNat = n * 256 := by
    rw [show ((n : Int) * 256) = ((n * 256 : Nat) : Int) by omega, BitVec.ofInt_natCast, BitVec.toNat_ofNat]; exact Nat.mod_eq_of_lt (by omega)
  have e2 : (BitVec.ofInt 32 (m : Int)).toNat = m := by
    rw [BitVec.ofInt_natCast, BitVec.toNat_ofNat]; exact Nat.mod_eq_of_lt (by omega)
  show IntKind.u32.wrap ((BitVec.ofInt 32 ((n : Int) * 256) ||| BitVec.ofInt 32 (m : Int)).toNat : Int) = _
  rw [BitVec.toNat_or, e1, e2, nat_orc n m (by omega), wrap_u32c (by omega) (by omega)]
  omega
theorem wholeL_valid (s : ByteArray) : ∀ n, validC (bs (wholeL s n)) = true
  | 0 => by
    show validC (bs ByteArray.empty) = true
    decide
  | n + 1 => by
    rw [wholeL_succ]
    split
    · assumption
    · exact wholeL_valid s n
theorem wholeC_valid (s : ByteArray) : validC (bs (wholeC s)) = true := by
  unfold wholeC
  split
  · exact wholeL_valid s _
  · decide
theorem told_range {c : Int} (h : toldB c = true) : 1000 ≤ c ∧ c ≤ 4999 := by
  unfold toldB at h
  simp at h
  omega
theorem Pure.MessageCloses : Says.MessageCloses := by
  intro code reason w o0 o1 hg
  have hs0 : 0 ≤ code ∧ code ≤ 4294967295 := by simpa [Lit.wf, IntKind.min, IntKind.max, IntKind.signed, IntKind.bits] using o0
  by_cases hn : 3000 < (reason.size : Int)
  · exact Closes_great code reason w hn
  · have hs : reason.size ≤ 3000 := by omega
    have hB := bears code reason hs 7000 (Nat.le_refl _)
    have hT := told_f code
    cases ht : toldB code
    · rw [ht] at hT
      have hd : dataC code reason = [] := by unfold dataC; rw [ht, if_neg (by decide)]
      rw [hd] at hB
      exact Closes_un code reason w (by omega) [] [] 1005 ⟨hB⟩ ⟨show some (toldB code) = some false by rw [ht]⟩ ⟨hT⟩ closes_none (by decide) rfl rfl
    · rw [ht] at hT
      have hd : dataC code reason = (code / 256 % 256) :: (code % 256) :: bs (wholeC reason) := by unfold dataC; rw [ht, if_pos rfl]; rfl
      rw [hd] at hB
      have hr := told_range ht
      have hz := wholeC_size reason
      have hcode : Go.bits .or .u32 (code / 256 % 256 * 256) (code % 256) = code := by
        rw [or_byte32c (by omega) (by omega) (by omega)]; omega
      have hv : utf_Valid.f 7000 (bs (wholeC reason)) = some true := by
        rw [valid_f _ (by rw [bs_length]; omega) 7000 (by rw [bs_length]; omega), wholeC_valid]
      have hc := closes_ok (code / 256 % 256) (code % 256) (bs (wholeC reason)) code 7000 (by omega) (by omega) (by omega) (by omega) hcode ht hv (by rw [bs_length]; omega)
      exact Closes_told code reason w (by omega) _ _ code ⟨hB⟩ ⟨show some (toldB code) = some true by rw [ht]⟩ ⟨hT⟩ hc (by simp only [List.length_cons, bs_length]; omega) (wholeC reason) ⟨reason_f reason hs 7000 (Nat.le_refl _)⟩ (bs_inj (by rw [bs_str _ (bs_byte _)])) (by simp)
end Go.Proofs.YtbjjobifpmjhhaaDoor
