/- Feed, where all bytes have room. -/
import Derived.Test.YtkhlldhcmgkioaaDoorSplit0
import Derived.Deep.RegionHeld3
namespace Go.Proofs.YtkhlldhcmgkioaaDoor
open Go.RowKit Go.Proofs.YtkhlldhcmgkioaaDoorW.PrintWords Go.Proofs.YtkhlldhcmgkioaaDoorW.PrintLast Go.Proofs.YtkhlldhcmgkioaaDoorW.PrintMore
set_option linter.unusedVariables false
set_option linter.unusedSimpArgs false
attribute [local go_sem] max2_int min2_int max_two min_two
def FeedPost (wb : World) (g : Nat) (v : Value) (m : Bool) (l : List Int) (n : Int) (w : World) (e : Ending) (w' : World) : Prop := ∃ v', e = .returned (.int .i64 n) ∧ Sp wb w' g v' m false l ∧ Below wb.heap.size wb w' ∧ w.heap.size ≤ w'.heap.size ∧ (∀ k, k < w.heap.size → k ≠ g → some k ≠ v.ownBlock → w'.heap[k]? = w.heap[k]?) ∧ (v'.ownBlock = v.ownBlock ∨ ∃ b, v'.ownBlock = some b ∧ w.heap.size ≤ b)
theorem FeedPost.mk {wb : World} {g : Nat} {v v' : Value} {m : Bool} {l : List Int} {n : Int} {w w' : World} (h1 : Sp wb w' g v' m false l) (h2 : Below wb.heap.size wb w') (h3 : w.heap.size ≤ w'.heap.size) (h4 : ∀ k, k < w.heap.size → k ≠ g → some k ≠ v.ownBlock → w'.heap[k]? = w.heap[k]?) (h5 : v'.ownBlock = v.ownBlock ∨ ∃ b, v'.ownBlock = some b ∧ w.heap.size ≤ b) : FeedPost wb g v m l n w (.returned (.int .i64 n)) w' := ⟨v', rfl, h1, h2, h3, h4, h5⟩
set_option maxHeartbeats 8000000 in
set_option maxRecDepth 100000 in
theorem split_feed_fit (wb w : World) (g : Nat) (v : Value) (m : Bool) (l xs : List Int) (A : Option Addr) (c : Nat) (h : Sp wb w g v m false l) (hB : Below wb.heap.size wb w) (hgb : wb.heap.size ≤ g) (hC : Kd.C (Kd.int .u8) w A xs.length xs) (hc : xs.length ≤ c) (hfit : l.length + xs.length ≤ 4110) : Calls Tryd.prog 11 #[.pointer (some ⟨g, 0, none⟩), .slice A xs.length c] w (FeedPost wb g v m (l ++ xs) xs.length w) := by
  obtain ⟨Av, cv, rfl⟩ := Kd.R_slice h.row
  have hgl := blk_lt h.blk
  have c0 : w.cell? ⟨g, 0, none⟩ = some (.slice Av l.length cv) := (blk_cell h.blk 0).trans rfl
  have c2 : w.cell? ⟨g, 2, none⟩ = some (.bool false) := (blk_cell h.blk 2).trans rfl
  have hinfo : (Tryd.prog.info? 5).map (fun i => (i.zero, i.size, i.bytes)) = some (some (.int .u8 0), 1, 1) := by kernel_rfl
  have HI := Aside0.mk hinfo
  have HS := Aside0.mk h
  have HC := Aside0.mk hC
  have HB := Aside0.mk hB
  clear h hC hB hinfo
  obtain ⟨d, hd⟩ : ∃ d : Int, d = 4110 - (l.length : Int) := ⟨_, rfl⟩
  have hw : IntKind.i64.wrap (4110 - (l.length : Int)) = d := by rw [i64_w]; unfold wrap64; omega
  have hlt : ¬ d < (xs.length : Int) := by omega
  have hlt2 : decide (d < (xs.length : Int)) = false := decide_eq_false hlt
  have p1 : (xs.length : Int) ≤ (c : Int) := by omega
  have p0 : (0 : Int) ≤ (xs.length : Int) := by omega
  have HD := Aside0.mk hd
  clear hd
  go_enter Tryd.func11, Tryd.ntmps11
  go_wp2_with fail
  refine (split_bad_any g false _ c2).mono ?_
  rintro e w1 ⟨rfl, rfl⟩
  go_wp2_with fail
  refine start_ (n := 12) (S := fun w' => w'.cell? ⟨g, 0, none⟩ = some (.slice Av l.length cv)) (ds := [11]) #[false, false, false, false, false, false, false, false, false, false, false, false] (by kernel_rfl) rfl rfl (c0) (fun hHeld => ?_)
  refine pure_ (i := 0) (N := (some 17)) (v := ?_) (a' := ?_) #[true, false, false, false, false, false, false, false, false, false, false, false] rfl rfl (by kernel_rfl) (fun _ _ _ h => h) (Or.inl ⟨by rfl, ?_⟩) ?_ ?_
  rotate_left
  · intro w'
    go_simp
    first | done | with_reducible rfl
  rotate_left
  · simp only [Act.put, List.setIfInBounds_toArray, List.set_cons_zero, List.set_cons_succ, i64_w, i32_w]
    rfl
  refine pure_ (i := 1) (N := (some 18)) (v := ?_) (a' := ?_) #[true, true, false, false, false, false, false, false, false, false, false, false] rfl rfl (by kernel_rfl) (fun _ _ _ h => h) (Or.inl ⟨by rfl, ?_⟩) ?_ ?_
  rotate_left
  · intro w'
    go_simp
    first | done | with_reducible rfl
  rotate_left
  · simp only [Act.put, List.setIfInBounds_toArray, List.set_cons_zero, List.set_cons_succ, i64_w, i32_w]
    rfl
  refine pure_ (i := 2) (N := (some 19)) (v := ?_) (a' := ?_) #[true, true, true, false, false, false, false, false, false, false, false, false] rfl rfl (by kernel_rfl) (fun _ _ _ h => h) (Or.inl ⟨by rfl, ?_⟩) ?_ ?_
  rotate_left
  · intro w'
    go_simp
    first | done | with_reducible rfl
  rotate_left
  · simp only [Act.put, List.setIfInBounds_toArray, List.set_cons_zero, List.set_cons_succ, i64_w, i32_w]
    rfl
  refine pure_ (i := 3) (N := (some 20)) (v := ?_) (a' := ?_) #[true, true, true, true, false, false, false, false, false, false, false, false] rfl rfl (by kernel_rfl) (fun _ _ _ h => h) (Or.inl ⟨by rfl, ?_⟩) ?_ ?_
  rotate_left
  · intro w'
    go_simp
    first | done | with_reducible rfl
  rotate_left
  · simp only [Act.put, List.setIfInBounds_toArray, List.set_cons_zero, List.set_cons_succ, i64_w, i32_w]
    rfl
  refine take_ (i := 4) (N := (some 21)) (v := ?_) (a' := ?_) #[true, true, true, true, true, false, false, false, false, false, false, false] rfl rfl (by kernel_rfl) (fun _ _ _ h => h) (Or.inl ⟨by rfl, ?_⟩) hHeld ?_ ?_
  rotate_left
  · rintro w' s0
    go_simp
    first | done | with_reducible rfl
  rotate_left
  · simp only [Act.put, List.setIfInBounds_toArray, List.set_cons_zero, List.set_cons_succ, i64_w, i32_w]
    rfl
  refine pure_ (i := 5) (N := (some 22)) (v := ?_) (a' := ?_) #[true, true, true, true, true, true, false, false, false, false, false, false] rfl rfl (by kernel_rfl) (fun _ _ _ h => h) (Or.inl ⟨by rfl, ?_⟩) ?_ ?_
  rotate_left
  · intro w'
    go_simp
    first | done | with_reducible rfl
  rotate_left
  · simp only [Act.put, List.setIfInBounds_toArray, List.set_cons_zero, List.set_cons_succ, i64_w, i32_w]
    rfl
  refine pure_ (i := 6) (N := (some 23)) (v := ?_) (a' := ?_) #[true, true, true, true, true, true, true, false, false, false, false, false] rfl rfl (by kernel_rfl) (fun _ _ _ h => h) (Or.inl ⟨by rfl, ?_⟩) ?_ ?_
  rotate_left
  · intro w'
    go_simp
    first | done | with_reducible rfl
  rotate_left
  · simp only [Act.put, List.setIfInBounds_toArray, List.set_cons_zero, List.set_cons_succ, i64_w, i32_w]
    rfl
  refine pure_ (i := 7) (N := (some 24)) (v := ?_) (a' := ?_) #[true, true, true, true, true, true, true, true, false, false, false, false] rfl rfl (by kernel_rfl) (fun _ _ _ h => h) (Or.inl ⟨by rfl, ?_⟩) ?_ ?_
  rotate_left
  · intro w'
    go_simp
    first | done | with_reducible rfl
  rotate_left
  · simp only [Act.put, List.setIfInBounds_toArray, List.set_cons_zero, List.set_cons_succ, i64_w, i32_w]
    rfl
  refine one_ (i := 8) (N := (some 25)) #[true, true, true, true, true, true, true, true, true, false, false, false] rfl rfl (by kernel_rfl) (by decide) (fun K hK => ?_)
  refine Kd.R_append_rows_step (Kd.int .u8) (w0 := wb) wb.heap.size (by rfl) (.tmp 21) (.tmp 24) 22 5 (.int .u8 0) 1 rfl Tryd.underlying22 HI.out rfl (by decide) (by omega) (.slice Av l.length cv) l xs _ _ _ (fun _ => True) (fun _ => False) rfl rfl ?aO ?aR (fun _ _ h => h) (fun _ h => h.elim) ?aF ?aB ?aS ?aL ?_
  (case aO => exact Kd.R_drew HS.out.row)
  (case aR => exact Kd.C_drew HC.out)
  (case aF => exact fun _ _ => trivial)
  (case aB => exact below_drew HB.out)
  (case aS => exact HB.out.size)
  (case aL => omega)
  intro v1 w1 ho hb hg1 hat
  obtain ⟨A1, c1, e1⟩ := Kd.R_slice ho
  obtain ⟨mm, hmm⟩ : ∃ mm, mm = (l ++ xs).length := ⟨_, rfl⟩
  rw [← hmm] at e1
  clear hmm
  subst e1
  have hk1 : w1.heap[g]? = some (.cells #[.slice Av l.length cv, .bool m, .bool false] 47 (0, 0)) := blk_grown (blk_drew HS.out.blk) hg1 HS.out.ne
  have g0 : w1.cell? ⟨g, 0, none⟩ = some (.slice Av l.length cv) := (blk_cell hk1 0).trans rfl
  have gf0 := blk_frozen hk1 0
  have gl := blk_lt hk1
  have HK1 := Aside0.mk hk1
  have HO := Aside0.mk ho
  have HB1 := Aside0.mk hb
  have HG1 := Aside0.mk hg1
  have HAT := Aside0.mk hat
  clear hk1 ho hb hg1 hat
  refine hK.out _ _ (g0) (fun hHeld => ?_)
  clear hK K
  refine norm_ (a' := ?_) ?_ ?_
  rotate_left
  · show Act.put _ (some 25) _ = _
    simp only [Act.put, List.setIfInBounds_toArray, List.set_cons_zero, List.set_cons_succ, i64_w, i32_w]
    rfl
  refine pure_ (i := 9) (N := (some 26)) (v := ?_) (a' := ?_) #[true, true, true, true, true, true, true, true, true, true, false, false] rfl rfl (by kernel_rfl) (fun _ _ _ h => h) (Or.inl ⟨by rfl, ?_⟩) ?_ ?_
  rotate_left
  · intro w'
    go_simp
    first | done | with_reducible rfl
  rotate_left
  · simp only [Act.put, List.setIfInBounds_toArray, List.set_cons_zero, List.set_cons_succ, i64_w, i32_w]
    rfl
  refine pure_ (i := 10) (N := (some 27)) (v := ?_) (a' := ?_) #[true, true, true, true, true, true, true, true, true, true, true, false] rfl rfl (by kernel_rfl) (fun _ _ _ h => h) (Or.inl ⟨by rfl, ?_⟩) ?_ ?_
  rotate_left
  · intro w'
    go_simp
    first | done | with_reducible rfl
  rotate_left
  · simp only [Act.put, List.setIfInBounds_toArray, List.set_cons_zero, List.set_cons_succ, i64_w, i32_w]
    rfl
  refine last_ (i := 11) (N := none) #[true, true, true, true, true, true, true, true, true, true, true, true] rfl rfl (by kernel_rfl) (by decide) (fun K hK => ?_)
  go_simp
  refine hK.out _ _ ?_
  clear hK K
  refine done_ (by kernel_rfl) ?_
  go_wp2_with fail
  have hne1 : (Value.slice A1 mm c1).ownBlock ≠ some g := fun e => Kd.R_ne HO.out HK1.out (by decide) e.symm
  go_ret
  refine FeedPost.mk (v' := .slice A1 mm c1) ⟨blk_put HK1.out 0 _ rfl, Kd.R_mono (Kd.R_far (Kd.R_types HO.out HK1.out (by intro q hq; simp [Kd.int, Kd.scalar] at hq; omega)) (p := ⟨g, 0, none⟩) (fun k hk => hk.2) _) (fun _ _ => trivial)⟩ (Below.setCell HB1.out hgb _) (by simpa [World.setCell] using HG1.out.size) (fun k hk hkg hkv => (Below.heap_setCell _ _ _ _ hkg).trans (HG1.out.block k hk hkv)) HAT.out
end Go.Proofs.YtkhlldhcmgkioaaDoor
