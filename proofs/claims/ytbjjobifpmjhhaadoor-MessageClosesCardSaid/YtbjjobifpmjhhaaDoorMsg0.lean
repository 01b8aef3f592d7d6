import Derived.Test.YtbjjobifpmjhhaaDoorFault
import Derived.Test.YtbjjobifpmjhhaaDoorPAllx2
import Derived.Test.YtbjjobifpmjhhaaDoorPAllx2
import Derived.Test.YtbjjobifpmjhhaaDoorPAllx2
import Derived.Test.YtbjjobifpmjhhaaDoorPAllx1
import Derived.Deep.RegionHeld3
namespace Go.Proofs.YtbjjobifpmjhhaaDoor
open Go.RowKit Go.Proofs.YtbjjobifpmjhhaaDoorW.PrintWords Go.Proofs.YtbjjobifpmjhhaaDoorW.PrintLast Go.Proofs.YtbjjobifpmjhhaaDoorW.PrintMore Go.Proofs.YtbjjobifpmjhhaaDoor.PAll
set_option linter.unusedVariables false
/-- Number i is taken first; what it leaves stands written out. -/
theorem takeN {P : Program} {md : Region.Mode} {ops : Array Oper} {Q : Exit → Act → World → Prop} {S : World → Prop} {i : Nat} {N : Option Tmp} {oi : Oper} {v : Value} {fuel : Nat} {listed : Array Bool} {a a' : Act} {w : World} (hi : ops[i]? = some oi) (hN : oi.dst = N)
    (hs : Region.noSelect ops = true) (hf : Region.free md ops listed i = true) (hr : (Region.ready md ops listed).contains i = true)
    (hQ : ∀ c a w, Q (.panic c) (a.put oi.dst v) w → Q (.panic c) a w) (hy : YieldsIf P ops S oi v a) (ha : a.put N v = a') (hS : S w)
    (h : wpAnyH P md ops Q S fuel (listed.setIfInBounds i true) a' w) : wpAnyH P md ops Q S (fuel + 1) listed a w := by
  subst hN; subst ha
  exact wpAnyH_take hi hs hf hr hQ hy hS h
/-- A gatherer: what it holds (v), busy, text, its checker (u), over. -/
def IsG (W : World) (g : Nat) (v : Value) (busy text : Bool) (u : Value) (over : Bool) : Prop := W.heap[g]? = some (.cells #[v, .bool busy, .bool text, u, .bool over] 60 (0, 0))
theorem IsG.far {W : World} {g : Nat} {v u : Value} {busy text over : Bool} {p : Addr} {x : Value} (h : IsG W g v busy text u over) (hne : g ≠ p.block) : IsG (W.setCell p x) g v busy text u over := (Below.heap_setCell W p x g hne).trans h
theorem gnew_any (w : World) : Calls Tryd.prog 13 #[] w fun e w' => e = .returned (.pointer (some ⟨w.heap.size, 0, none⟩)) ∧ IsG w' w.heap.size (.slice none 0 0) false false (.pointer none) false ∧ Below w.heap.size w w' := by
  go_enter Tryd.func13, Tryd.ntmps13
  go_wp2
  go_ret
  exact ⟨rfl, last_at _ _ _ rfl, below_alloc (Below.refl _ _) _⟩
theorem over_any (g : Nat) (v u : Value) (busy text over : Bool) (w : World) (h : IsG w g v busy text u over) : Calls Tryd.prog 20 #[.pointer (some ⟨g, 0, none⟩)] w fun e w' => e = .returned (.bool over) ∧ w' = w := by
  have h4 : w.cell? ⟨g, 4, none⟩ = some (.bool over) := (blk_cell h 4).trans rfl
  go_enter Tryd.func20, Tryd.ntmps20
  go_wp2
  go_ret
  exact ⟨rfl, rfl⟩
theorem over_nil (w : World) : Calls Tryd.prog 20 #[.pointer none] w fun e w' => e = .returned (.bool true) ∧ w' = w := by
  go_enter Tryd.func20, Tryd.ntmps20
  go_wp2
  go_ret
  exact ⟨rfl, rfl⟩
theorem held_nil (w : World) : Calls Tryd.prog 19 #[.pointer none] w fun e w' => e = .returned (.int .i64 0) ∧ w' = w := by
  go_enter Tryd.func19, Tryd.ntmps19
  go_wp2
  go_ret
  exact ⟨rfl, rfl⟩
set_option maxHeartbeats 2000000 in
theorem take_nil (b0 : Bool) (b1 : Int) (b2 : Bool) (b3 : Int) (v : Value) (hv : v.oneCell' = true) (w : World) : Calls Tryd.prog 14 #[.pointer none, .agg #[.bool b0, .int .u8 b1, .bool b2, .int .u32 b3, v]] w fun e w' => e = .returned (.tuple #[.agg #[.int .u8 0, .bool false, .slice none 0 0, .int .u32 0], .bool false]) ∧ Below w.heap.size w w' := by
  have hu30 := Tryd.underlying30
  have hu26 := Tryd.underlying26
  go_enter Tryd.func14, Tryd.ntmps14
  go_wp2_with fail
  refine (over_nil _).mono ?_
  rintro e w1 ⟨rfl, rfl⟩
  have hle : w.heap.size ≤ w.heap.size + 1 := by omega
  go_wp2_with fail
  exact bodyPost_ret (v := .tuple #[.agg #[.int .u8 0, .bool false, .slice none 0 0, .int .u32 0], .bool false]) (by simp [results, Tryd.results14, go_sem]) rfl ⟨rfl, by repeat (first | exact Below.refl _ _ | apply below_alloc | refine Below.setCell ?_ hle _)⟩
set_option maxHeartbeats 4000000 in
set_option maxRecDepth 100000 in
theorem closes_bye (A : Option Addr) (c : Nat) (w : World) (hC : Kd.C (Kd.int .u8) w A 5 [3, 232, 98, 121, 101]) (hc : 5 ≤ c) : Calls Tryd.prog 35 #[.slice A 5 c] w fun e w' => ∃ v, e = .returned (.tuple #[.agg #[.int .u8 4, .bool false, v, .int .u32 1000], .nilIface]) ∧ Kd.R (Kd.int .u8) 5 w' w.heap.size (fun _ => True) v [98, 121, 101] ∧ Below w.heap.size w w' := by
  have hu30 := Tryd.underlying30
  obtain ⟨ad, rfl, hx0⟩ := Kd.at_int hC 0 (by decide) (by decide)
  obtain ⟨ad2, e2, hx1⟩ := Kd.at_int hC 1 (by decide) (by decide)
  injection e2 with e2
  subst e2
  have y0 : w.cell? ad = some (.int .u8 3) := hx0
  have y1 : w.cell? ⟨ad.block, ad.off + 1, none⟩ = some (.int .u8 232) := hx1
  clear hx0 hx1
  have HC := Aside0.mk hC
  clear hC
  have hbit : Go.bits .or .u32 768 232 = 1000 := by decide +kernel
  go_enter Tryd.func35, Tryd.ntmps35
  go_wp2_with fail
  refine wp_region_noPanic ?_
  refine wp_region_held_drew (S := fun w' => Aside0 (Below w.heap.size w w') ∧ w'.cell? ad = some (.int .u8 3) ∧ w'.cell? ⟨ad.block, ad.off + 1, none⟩ = some (.int .u8 232)) (by kernel_rfl) (⟨⟨below_drew (below_alloc (Below.refl _ _) _)⟩, ((below_drew (below_alloc (Below.refl w.heap.size w) _)).cell (World.block_lt_of_cell? _ _ y0)).trans y0, ((below_drew (below_alloc (Below.refl w.heap.size w) _)).cell (World.block_lt_of_cell? _ _ y1)).trans y1⟩) (fun hHeld => ?_)
  refine takeN (i := 0) (N := (some 14)) (v := ?v1) (a' := ?a1) rfl rfl (by kernel_rfl) (by kernel_rfl) (by kernel_rfl) (fun _ _ _ h => h) (Or.inl ⟨by rfl, ?hy1⟩) ?ha1 (by assumption) ?rest1
  case hy1 =>
    intro w_ hSw_
    go_simp
    first | done | (with_reducible rfl)
  case ha1 =>
    simp only [Act.put, List.setIfInBounds_toArray, List.set_cons_zero, List.set_cons_succ]
    rfl
  refine takeN (i := 1) (N := (some 15)) (v := ?v2) (a' := ?a2) rfl rfl (by kernel_rfl) (by kernel_rfl) (by kernel_rfl) (fun _ _ _ h => h) (Or.inl ⟨by rfl, ?hy2⟩) ?ha2 (by assumption) ?rest2
  case hy2 =>
    intro w_ hSw_
    go_simp
    first | done | (with_reducible rfl)
  case ha2 =>
    simp only [Act.put, List.setIfInBounds_toArray, List.set_cons_zero, List.set_cons_succ]
    rfl
  refine takeN (i := 2) (N := (some 16)) (v := ?v3) (a' := ?a3) rfl rfl (by kernel_rfl) (by kernel_rfl) (by kernel_rfl) (fun _ _ _ h => h) (Or.inl ⟨by rfl, ?hy3⟩) ?ha3 (by assumption) ?rest3
  case hy3 =>
    intro w_ hSw_
    go_simp
    first | done | (with_reducible rfl)
  case ha3 =>
    simp only [Act.put, List.setIfInBounds_toArray, List.set_cons_zero, List.set_cons_succ]
    rfl
  refine takeN (i := 3) (N := (some 17)) (v := ?v4) (a' := ?a4) rfl rfl (by kernel_rfl) (by kernel_rfl) (by kernel_rfl) (fun _ _ _ h => h) (Or.inl ⟨by rfl, ?hy4⟩) ?ha4 (by assumption) ?rest4
  case hy4 =>
    intro w_ hSw_
    go_simp
    first | done | (with_reducible rfl)
  case ha4 =>
    simp only [Act.put, List.setIfInBounds_toArray, List.set_cons_zero, List.set_cons_succ]
    rfl
  refine takeN (i := 4) (N := (some 18)) (v := ?v5) (a' := ?a5) rfl rfl (by kernel_rfl) (by kernel_rfl) (by kernel_rfl) (fun _ _ _ h => h) (Or.inl ⟨by rfl, ?hy5⟩) ?ha5 (by assumption) ?rest5
  case hy5 =>
    intro w_ hSw_
    go_simp
    first | done | (with_reducible rfl)
  case ha5 =>
    simp only [Act.put, List.setIfInBounds_toArray, List.set_cons_zero, List.set_cons_succ]
    rfl
  refine takeN (i := 5) (N := (some 19)) (v := ?v6) (a' := ?a6) rfl rfl (by kernel_rfl) (by kernel_rfl) (by kernel_rfl) (fun _ _ _ h => h) (Or.inl ⟨by rfl, ?hy6⟩) ?ha6 (by assumption) ?rest6
  case hy6 =>
    intro w_ hSw_
    go_simp
    first | done | (with_reducible rfl)
  case ha6 =>
    simp only [Act.put, List.setIfInBounds_toArray, List.set_cons_zero, List.set_cons_succ]
    rfl
  refine takeN (i := 6) (N := (some 20)) (v := ?v7) (a' := ?a7) rfl rfl (by kernel_rfl) (by kernel_rfl) (by kernel_rfl) (fun _ _ _ h => h) (Or.inl ⟨by rfl, ?hy7⟩) ?ha7 (by assumption) ?rest7
  case hy7 =>
    intro w_ hSw_
    go_simp
    first | done | (with_reducible rfl)
  case ha7 =>
    simp only [Act.put, List.setIfInBounds_toArray, List.set_cons_zero, List.set_cons_succ]
    rfl
  refine takeN (i := 7) (N := (some 21)) (v := ?v8) (a' := ?a8) rfl rfl (by kernel_rfl) (by kernel_rfl) (by kernel_rfl) (fun _ _ _ h => h) (Or.inl ⟨by rfl, ?hy8⟩) ?ha8 (by assumption) ?rest8
  case hy8 =>
    intro w_ hSw_
    go_simp
    first | done | (with_reducible rfl)
  case ha8 =>
    simp only [Act.put, List.setIfInBounds_toArray, List.set_cons_zero, List.set_cons_succ]
    rfl
  refine takeN (i := 8) (N := (some 22)) (v := ?v9) (a' := ?a9) rfl rfl (by kernel_rfl) (by kernel_rfl) (by kernel_rfl) (fun _ _ _ h => h) (Or.inl ⟨by rfl, ?hy9⟩) ?ha9 (by assumption) ?rest9
  case hy9 =>
    intro w_ hSw_
    go_simp
    first | done | (with_reducible rfl)
  case ha9 =>
    simp only [Act.put, List.setIfInBounds_toArray, List.set_cons_zero, List.set_cons_succ]
    rfl
  refine takeN (i := 9) (N := (some 23)) (v := ?v10) (a' := ?a10) rfl rfl (by kernel_rfl) (by kernel_rfl) (by kernel_rfl) (fun _ _ _ h => h) (Or.inl ⟨by rfl, ?hy10⟩) ?ha10 (by assumption) ?rest10
  case hy10 =>
    intro w_ hSw_
    go_simp
    first | done | (with_reducible rfl)
  case ha10 =>
    simp only [Act.put, List.setIfInBounds_toArray, List.set_cons_zero, List.set_cons_succ]
    rfl
  refine takeN (i := 10) (N := (some 4)) (v := ?v11) (a' := ?a11) rfl rfl (by kernel_rfl) (by kernel_rfl) (by kernel_rfl) (fun _ _ _ h => h) (Or.inl ⟨by rfl, ?hy11⟩) ?ha11 (by assumption) ?rest11
  case hy11 =>
    intro w_ hSw_
    go_simp
    first | done | (with_reducible rfl)
  case ha11 =>
    simp only [Act.put, List.setIfInBounds_toArray, List.set_cons_zero, List.set_cons_succ]
    rfl
  refine wpAnyH_done (by kernel_rfl) ?_ _
  refine NoPanic.normal ?_
  have HB := Aside0.mk hHeld.1.out
  clear hHeld
  have hr : ((w.alloc (.cells #[.int .u8 0, .bool false, .slice none 0 0, .int .u32 0] 30)).drew).heap[w.heap.size]? = some (.cells #[.int .u8 0, .bool false, .slice none 0 0, .int .u32 0] 30 (0, 0)) := blk_drew (last_at _ _ _ rfl)
  generalize (w.alloc (.cells #[.int .u8 0, .bool false, .slice none 0 0, .int .u32 0] 30)).drew = w1 at HB hr ⊢
  go_wp2_with fail
  refine (message_Told.calls 1000 true _ rfl).mono ?_
  rintro e w2 ⟨rfl, hb⟩
  have hr2 : w2.heap[w.heap.size]? = _ := blk_below hr hb
  replace HB := Aside0.mk (below_step HB.out hb)
  clear hb hr
  have hC2 : (Kd.int .u8).C w (some ⟨ad.block, ad.off + 2, none⟩) 3 [98, 121, 101] := by
    have h := Kd.C_drop (m := 2) (c := c) (show (Kd.int .u8).C w (some ad) [3, 232, 98, 121, 101].length [3, 232, 98, 121, 101] from HC.out) (by decide) hc
    rw [if_neg (by omega)] at h
    exact h
  have HC2 := Aside0.mk hC2
  clear hC2
  have hc3 : 3 ≤ c - 2 := by omega
  go_wp2_with fail
  refine (calls_of_args rfl (utf_Valid.calls 40 (some ⟨ad.block, ad.off + 2, none⟩) (c - 2) [98, 121, 101] true _ (Kd.C_below HC2.out HB.out) hc3 (by kernel_rfl))).mono ?_
  rintro e w3 ⟨rfl, hb⟩
  have hr3 : w3.heap[w.heap.size]? = _ := blk_below hr2 hb
  replace HB := Aside0.mk (below_step HB.out hb)
  clear hb hr2
  go_wp2_with fail
  refine (calls_of_args rfl (bytes_Clone.calls (some ⟨ad.block, ad.off + 2, none⟩) (c - 2) [98, 121, 101] [98, 121, 101] _ (Kd.C_below HC2.out HB.out) hc3 (by kernel_rfl))).mono ?_
  rintro e w4 ⟨v, rfl, ho, hb⟩
  have hr4 : w4.heap[w.heap.size]? = some (.cells #[.int .u8 0, .bool false, .slice none 0 0, .int .u32 0] 30 (0, 0)) := blk_below hr3 hb
  have hR := Kd.R_types (Kd.R_lower ho HB.out.size) hr4 (by intro q hq; simp [Kd.int, Kd.scalar] at hq; omega)
  obtain ⟨Av, cv, rfl⟩ := Kd.R_slice hR
  have HR := Aside0.mk hR
  replace HB := Aside0.mk (below_step HB.out hb)
  clear hb hr3 ho hR
  have rc0 : w4.cell? ⟨w.heap.size, 0, none⟩ = some (.int .u8 0) := (blk_cell hr4 0).trans rfl
  have rf0 := blk_frozen hr4 0
  have rc1 : w4.cell? ⟨w.heap.size, 1, none⟩ = some (.bool false) := (blk_cell hr4 1).trans rfl
  have rf1 := blk_frozen hr4 1
  have rc2 : w4.cell? ⟨w.heap.size, 2, none⟩ = some (.slice none 0 0) := (blk_cell hr4 2).trans rfl
  have rf2 := blk_frozen hr4 2
  have rc3 : w4.cell? ⟨w.heap.size, 3, none⟩ = some (.int .u32 0) := (blk_cell hr4 3).trans rfl
  have rf3 := blk_frozen hr4 3
  have rl : w.heap.size < w4.heap.size := blk_lt hr4
  have hle : w.heap.size ≤ w.heap.size := Nat.le_refl _
  go_wp2_with fail
  exact bodyPost_ret (v := .tuple #[.agg #[.int .u8 4, .bool false, .slice Av [98, 121, 101].length cv, .int .u32 1000], .nilIface]) (by simp [results, Tryd.results35, go_sem, rc0, rc1, rc2, rc3]) rfl ⟨_, rfl, Kd.R_mono (Kd.R_far (Kd.R_far (Kd.R_far (Kd.R_far HR.out (fun k hk => hk.2) _) (fun k hk => hk.2) _) (fun k hk => hk.2) _) (fun k hk => hk.2) _) (fun _ _ => trivial), (Below.setCell (Below.setCell (Below.setCell (Below.setCell HB.out hle _) hle _) hle _) hle _)⟩
end Go.Proofs.YtbjjobifpmjhhaaDoor
