/- What wsframe.Head answers at any bytes. -/
import Derived.Test.YtkhlldhcmgkioaaDoorHead2
namespace Go.Proofs.YtkhlldhcmgkioaaDoor
open Go.RowKit Go.Proofs.YtkhlldhcmgkioaaDoorW.PrintWords Go.Proofs.YtkhlldhcmgkioaaDoorW.PrintLast Go.Proofs.YtkhlldhcmgkioaaDoorW.PrintMore
set_option linter.unusedVariables false
theorem Cond.alloc {w : World} (h : Cond w) (o : Obj) : Cond (w.alloc o) := h.below (below_alloc (Below.refl _ _) _)
theorem Cond.drew {w : World} (h : Cond w) : Cond w.drew := h.below (below_drew (Below.refl _ _))
theorem Cond.drewN {w : World} (h : Cond w) (n : Nat) : Cond (w.drewN n) := h.below (pw_below_drewN (Below.refl _ _) n)
def HeadAt (A : Option Addr) (len c : Nat) (m : Bool) (w : World) (f d : Int) (more : Bool) (code : Int) : Prop := ∀ W, Below w.heap.size w W → HeadTo A len c m W f d more code
def HeadF (l : List Int) (m : Bool) : Int × Int × Int × Bool :=
  if (headF l m).2.2.2 ≠ 0 then (0, 3, (headF l m).2.2.2, true) else if (headF l m).2.2.1 = true then (0, 0, 0, false) else ((headF l m).1 + (headF l m).2.1, 0, 0, true)
theorem IsBad.out {W : World} {v : Value} {code : Int} (h : IsBad W v code) : ∃ g : Nat, v = .iface 77 (.pointer (some ⟨g, 0, none⟩)) := by
  obtain ⟨g, e, _⟩ := h
  exact ⟨g, e⟩
theorem bad_of_post {P : Prop} {code : Int} {v : Value} {W : World} (h : (code = 0 ∧ P) ∨ (code ≠ 0 ∧ IsBad W v code)) (hc : code ≠ 0) : IsBad W v code := by
  rcases h with h | h
  · exact absurd h.1 hc
  · exact h.2
theorem nil_of_post {code : Int} {v : Value} {W : World} (h : (code = 0 ∧ v = .nilIface) ∨ (code ≠ 0 ∧ IsBad W v code)) (hc : code = 0) : v = .nilIface := by
  rcases h with h | h
  · exact h.2
  · exact absurd hc h.1
set_option maxHeartbeats 4000000 in
theorem Head_bad (A : Option Addr) (len c : Nat) (m : Bool) (w : World) (hg : Cond w) (f d code : Int) (more : Bool) (hc : code ≠ 0) (hh : HeadAt A len c m w f d more code) : Calls Tryd.prog 17 #[.slice A len c, .bool m] w fun e w' => e = .returned (.tuple #[.int .i64 0, .agg #[.int .u8 3, .int .u32 code], .bool true]) ∧ Below w.heap.size w w' := by
  have HC := Aside0.mk hg
  have HZ := Aside0.mk hc
  clear hg hc
  have hu26 := Tryd.underlying33
  have HH := Aside0.mk hh
  clear hh
  go_enter Tryd.func17, Tryd.ntmps17
  go_wp2_with fail
  refine (HH.out _ (below_alloc (Below.refl _ _) _)).mono ?_
  rintro e w1 ⟨v, rfl, hv, hb⟩
  have hr1 : w1.heap[w.heap.size]? = some (.cells #[.int .u8 0, .int .u32 0] 33 (0, 0)) := blk_below (last_at _ _ _ rfl) hb
  have HB1 := Aside0.mk (below_step (below_alloc (Below.refl w.heap.size w) (.cells #[.int .u8 0, .int .u32 0] 33)) hb)
  clear hb
  have hv2 := bad_of_post hv HZ.out
  obtain ⟨gv, rfl⟩ := hv2.out
  have HV := Aside0.mk hv2
  have HR1 := Aside0.mk hr1
  clear hv hv2 hr1
  go_wp2_with fail
  refine (wrap_any _ _ code _ HV.out).mono ?_
  rintro e w2 ⟨v2, rfl, hw, hb⟩
  have HW := Aside0.mk hw
  have hr2 : w2.heap[w.heap.size]? = some (.cells #[.int .u8 0, .int .u32 0] 33 (0, 0)) := blk_below HR1.out hb
  have HR2 := Aside0.mk hr2
  have HB2 := Aside0.mk (below_step HB1.out hb)
  clear hw hb hr2 HR1 HV HB1
  go_wp2_with fail
  refine (of_wr _ code _ HW.out (HC.out.below HB2.out)).mono ?_
  rintro e w3 ⟨rfl, hb⟩
  have hr3 : w3.heap[w.heap.size]? = some (.cells #[.int .u8 0, .int .u32 0] 33 (0, 0)) := blk_below HR2.out hb
  have HB3 := Aside0.mk (below_step HB2.out hb)
  clear hb HW HR2 HB2
  have r0 : w3.cell? ⟨w.heap.size, 0, none⟩ = some (.int .u8 0) := (blk_cell hr3 0).trans rfl
  have r1 : w3.cell? ⟨w.heap.size, 1, none⟩ = some (.int .u32 0) := (blk_cell hr3 1).trans rfl
  have f0 := blk_frozen hr3 0
  have f1 := blk_frozen hr3 1
  have rl := blk_lt hr3
  have hle : w.heap.size ≤ w.heap.size := Nat.le_refl _
  go_wp2_with fail
  exact bodyPost_ret (v := .tuple #[.int .i64 0, .agg #[.int .u8 3, .int .u32 code], .bool true]) (by simp [results, Tryd.results17, go_sem, r0, r1]) rfl ⟨rfl, Below.setCell (Below.setCell HB3.out hle _) hle _⟩
set_option maxHeartbeats 4000000 in
theorem Head_more (A : Option Addr) (len c : Nat) (m : Bool) (w : World) (f d : Int) (hh : HeadAt A len c m w f d true 0) : Calls Tryd.prog 17 #[.slice A len c, .bool m] w fun e w' => e = .returned (.tuple #[.int .i64 0, .agg #[.int .u8 0, .int .u32 0], .bool false]) ∧ Below w.heap.size w w' := by
  have hu26 := Tryd.underlying33
  have HH := Aside0.mk hh
  clear hh
  go_enter Tryd.func17, Tryd.ntmps17
  go_wp2_with fail
  refine (HH.out _ (below_alloc (Below.refl _ _) _)).mono ?_
  rintro e w1 ⟨v, rfl, hv, hb⟩
  have hr1 : w1.heap[w.heap.size]? = some (.cells #[.int .u8 0, .int .u32 0] 33 (0, 0)) := blk_below (last_at _ _ _ rfl) hb
  have HB1 := Aside0.mk (below_step (below_alloc (Below.refl w.heap.size w) (.cells #[.int .u8 0, .int .u32 0] 33)) hb)
  clear hb
  obtain rfl := nil_of_post hv rfl
  clear hv
  have r0 : w1.cell? ⟨w.heap.size, 0, none⟩ = some (.int .u8 0) := (blk_cell hr1 0).trans rfl
  have r1 : w1.cell? ⟨w.heap.size, 1, none⟩ = some (.int .u32 0) := (blk_cell hr1 1).trans rfl
  have f0 := blk_frozen hr1 0
  have f1 := blk_frozen hr1 1
  have rl := blk_lt hr1
  have hle : w.heap.size ≤ w.heap.size := Nat.le_refl _
  go_wp2_with fail
  exact bodyPost_ret (v := .tuple #[.int .i64 0, .agg #[.int .u8 0, .int .u32 0], .bool false]) (by simp [results, Tryd.results17, go_sem, r0, r1]) rfl ⟨rfl, Below.setCell (Below.setCell HB1.out hle _) hle _⟩
set_option maxHeartbeats 4000000 in
theorem Head_ok (A : Option Addr) (len c : Nat) (m : Bool) (w : World) (f d s : Int) (hs : IntKind.i64.wrap (f + d) = s) (hh : HeadAt A len c m w f d false 0) : Calls Tryd.prog 17 #[.slice A len c, .bool m] w fun e w' => e = .returned (.tuple #[.int .i64 s, .agg #[.int .u8 0, .int .u32 0], .bool true]) ∧ Below w.heap.size w w' := by
  have hu26 := Tryd.underlying33
  have HH := Aside0.mk hh
  clear hh
  go_enter Tryd.func17, Tryd.ntmps17
  go_wp2_with fail
  refine (HH.out _ (below_alloc (Below.refl _ _) _)).mono ?_
  rintro e w1 ⟨v, rfl, hv, hb⟩
  have hr1 : w1.heap[w.heap.size]? = some (.cells #[.int .u8 0, .int .u32 0] 33 (0, 0)) := blk_below (last_at _ _ _ rfl) hb
  have HB1 := Aside0.mk (below_step (below_alloc (Below.refl w.heap.size w) (.cells #[.int .u8 0, .int .u32 0] 33)) hb)
  clear hb
  obtain rfl := nil_of_post hv rfl
  clear hv
  have r0 : w1.cell? ⟨w.heap.size, 0, none⟩ = some (.int .u8 0) := (blk_cell hr1 0).trans rfl
  have r1 : w1.cell? ⟨w.heap.size, 1, none⟩ = some (.int .u32 0) := (blk_cell hr1 1).trans rfl
  have f0 := blk_frozen hr1 0
  have f1 := blk_frozen hr1 1
  have rl := blk_lt hr1
  have hle : w.heap.size ≤ w.heap.size := Nat.le_refl _
  go_wp2_with fail
  exact bodyPost_ret (v := .tuple #[.int .i64 s, .agg #[.int .u8 0, .int .u32 0], .bool true]) (by simp [results, Tryd.results17, go_sem, r0, r1]) rfl ⟨rfl, Below.setCell (Below.setCell HB1.out hle _) hle _⟩
theorem headF_bounds {l : List Int} (hl : l.all isByte = true) (m : Bool) : 0 ≤ (headF l m).1 ∧ (headF l m).1 ≤ 14 ∧ 0 ≤ (headF l m).2.1 ∧ (headF l m).2.1 ≤ 4096 ∧ ((headF l m).2.2.2 = 0 ∨ (headF l m).2.2.2 = 1002 ∨ (headF l m).2.2.2 = 1009) := by
  have lb := lenF_bounds hl
  unfold headF
  split
  · decide
  · split
    · decide
    · split
      · decide
      · split
        · decide
        · split
          · decide
          · split
            · decide
            · split
              · decide
              · refine ⟨?_, ?_, ?_, ?_, .inl rfl⟩ <;> cases m <;> simp <;> omega
/-- wsframe.Head at any bytes. -/
theorem Head_any {l : List Int} (hl : l.all isByte = true) (m : Bool) {A : Option Addr} {c : Nat} {w : World} (hC : Kd.C (Kd.int .u8) w A l.length l) (hc : l.length ≤ c) (hg : Cond w) : Calls Tryd.prog 17 #[.slice A l.length c, .bool m] w fun e w' => e = .returned (.tuple #[.int .i64 (HeadF l m).1, .agg #[.int .u8 (HeadF l m).2.1, .int .u32 (HeadF l m).2.2.1], .bool (HeadF l m).2.2.2]) ∧ Below w.heap.size w w' := by
  have hh : HeadAt A l.length c m w (headF l m).1 (headF l m).2.1 (headF l m).2.2.1 (headF l m).2.2.2 := fun W hb => head_to hl m (Kd.C_below hC hb) hc
  have hb := headF_bounds hl m
  unfold HeadF
  by_cases h1 : (headF l m).2.2.2 ≠ 0
  · rw [if_pos h1]
    exact Head_bad A l.length c m w hg _ _ _ _ h1 hh
  · rw [if_neg h1]
    have h1' : (headF l m).2.2.2 = 0 := by omega
    rw [h1'] at hh
    by_cases h2 : (headF l m).2.2.1 = true
    · rw [if_pos h2]
      rw [h2] at hh
      exact Head_more A l.length c m w _ _ hh
    · rw [if_neg h2]
      rw [show (headF l m).2.2.1 = false by simpa using h2] at hh
      exact Head_ok A l.length c m w _ _ _ (by rw [i64_w]; unfold wrap64; omega) hh
end Go.Proofs.YtkhlldhcmgkioaaDoor
