/- louverref16.Get by its contracts: one for each way. -/
import Derived.Test.YtabpngcjlikpkaaDoorRefHead
import Derived.Test.YtabpngcjlikpkaaDoorPAllx6
import Derived.Test.YtabpngcjlikpkaaDoorPAllx2
import Derived.Deep.RegionHeld3
namespace Go.Proofs.YtabpngcjlikpkaaDoor
open Go.RowKit Go.Proofs.YtabpngcjlikpkaaDoorW.PrintWords Go.Proofs.YtabpngcjlikpkaaDoorW.PrintLast Go.Proofs.YtabpngcjlikpkaaDoorW.PrintMore Go.Proofs.YtabpngcjlikpkaaDoor.PAll
set_option linter.unusedVariables false
theorem C_block {k : IntKind} {W W' : World} {g n : Nat} {xs : List Int} (h : Kd.C (Kd.int k) W (some ⟨g, 0, none⟩) n xs) (hb : W'.heap[g]? = W.heap[g]?) : Kd.C (Kd.int k) W' (some ⟨g, 0, none⟩) n xs := by
  have hr : ReadsInt W k (some ⟨g, 0, none⟩) n xs := Kd.reads_of_C h
  refine Kd.C_of_reads (d := (0 : Int)) (h1 := fun _ => rfl) ⟨hr.1, hr.2.1, fun hp => ?_⟩
  obtain ⟨ad, e, hc⟩ := hr.2.2 hp
  injection e with e
  subst e
  refine ⟨_, rfl, fun j hj => ?_⟩
  have := hc j hj
  rw [add_plain] at this ⊢
  rw [show W'.cell? ⟨g, j, none⟩ = W.cell? ⟨g, j, none⟩ by simp only [World.cell?, hb]]
  exact this
def RGetPost (r1 : Bool) (r2 : Int) (r3 : Bool) (r4 : Int) (r5 : List Int) (code : Int) (w : World) (e : Ending) (w' : World) : Prop := ∃ A c, e = .returned (.tuple #[.agg #[.bool r1, .int .u8 r2, .bool r3, .int .u32 r4, .slice A r5.length c], .int .i64 code]) ∧ Kd.C (Kd.int .u8) w' A r5.length r5 ∧ r5.length ≤ c ∧ Below w.heap.size w w'
theorem RGetPost.zero {code : Int} {w w' : World} (hb : Below w.heap.size w w') : RGetPost false 0 false 0 [] code w (.returned (.tuple #[.agg #[.bool false, .int .u8 0, .bool false, .int .u32 0, .slice none 0 0], .int .i64 code])) w' := ⟨none, 0, rfl, ⟨rfl, by decide, fun h => by simp at h⟩, Nat.le_refl _, hb⟩
set_option maxHeartbeats 8000000 in
set_option maxRecDepth 100000 in
theorem rget_code (k : Nat) (s : ByteArray) (m : Bool) (w : World) (f sz code : Int) (sh : Bool) (hc : (code != 0) = true) (HR : Aside0 (louverref16_Head.f k s m = some (f, sz, code, sh))) : Calls Tryd.prog 18 #[.string s, .bool m] w (RGetPost false 0 false 0 [] code w) := by
  have hu37 := Tryd.underlying37
  have hu30 := Tryd.underlying30
  go_enter Tryd.func18, Tryd.ntmps18
  go_wp2_with fail
  refine (louverref16_Head.calls k s m f sz code sh _ HR.out).mono ?_
  rintro e w1 ⟨rfl, hb⟩
  have HB1 := Aside0.mk (below_step (below_alloc (Below.refl w.heap.size w) (.cells #[.bool false, .int .u8 0, .bool false, .int .u32 0, .slice none 0 0] 37)) hb)
  have HP1 : Aside0 (w1.heap[w.heap.size]? = some (.cells #[.bool false, .int .u8 0, .bool false, .int .u32 0, .slice none 0 0] 37 (0, 0))) := ⟨blk_below (last_at _ _ _ rfl) hb⟩
  clear hb
  go_upto_region 2 with fail
  have hB2 : Below w.heap.size w (w1.alloc (.cells #[.int .i64 f, .int .i64 sz, .int .i64 code, .bool sh] 30)) := below_alloc HB1.out _
  have hP2 : (w1.alloc (.cells #[.int .i64 f, .int .i64 sz, .int .i64 code, .bool sh] 30)).heap[w.heap.size]? = some (.cells #[.bool false, .int .u8 0, .bool false, .int .u32 0, .slice none 0 0] 37 (0, 0)) := blk_alloc HP1.out _
  have hH2 : (w1.alloc (.cells #[.int .i64 f, .int .i64 sz, .int .i64 code, .bool sh] 30)).heap[w1.heap.size]? = some (.cells #[.int .i64 f, .int .i64 sz, .int .i64 code, .bool sh] 30 (0, 0)) := last_at _ _ _ rfl
  have hgh : w.heap.size < w1.heap.size := blk_lt HP1.out
  generalize w1.alloc (.cells #[.int .i64 f, .int .i64 sz, .int .i64 code, .bool sh] 30) = w2 at hB2 hP2 hH2 ⊢
  generalize w1.heap.size = gh at hgh hH2 ⊢
  have HB2 := Aside0.mk hB2
  have HP2 := Aside0.mk hP2
  have HH2 := Aside0.mk hH2
  clear hB2 hP2 hH2 HB1 HP1
  have h0 : w2.cell? ⟨gh, 0, none⟩ = some (.int .i64 f) := (blk_cell HH2.out 0).trans rfl
  have h1 : w2.cell? ⟨gh, 1, none⟩ = some (.int .i64 sz) := (blk_cell HH2.out 1).trans rfl
  have h2 : w2.cell? ⟨gh, 2, none⟩ = some (.int .i64 code) := (blk_cell HH2.out 2).trans rfl
  have h3 : w2.cell? ⟨gh, 3, none⟩ = some (.bool sh) := (blk_cell HH2.out 3).trans rfl
  have hl := blk_lt HH2.out
  have p0 : w2.cell? ⟨w.heap.size, 0, none⟩ = some (.bool false) := (blk_cell HP2.out 0).trans rfl
  have pf0 := blk_frozen HP2.out 0
  have p1 : w2.cell? ⟨w.heap.size, 1, none⟩ = some (.int .u8 0) := (blk_cell HP2.out 1).trans rfl
  have pf1 := blk_frozen HP2.out 1
  have p2 : w2.cell? ⟨w.heap.size, 2, none⟩ = some (.bool false) := (blk_cell HP2.out 2).trans rfl
  have pf2 := blk_frozen HP2.out 2
  have p3 : w2.cell? ⟨w.heap.size, 3, none⟩ = some (.int .u32 0) := (blk_cell HP2.out 3).trans rfl
  have pf3 := blk_frozen HP2.out 3
  have p4 : w2.cell? ⟨w.heap.size, 4, none⟩ = some (.slice none 0 0) := (blk_cell HP2.out 4).trans rfl
  have pf4 := blk_frozen HP2.out 4
  have pl := blk_lt HP2.out
  have hle : w.heap.size ≤ w.heap.size := Nat.le_refl _
  have hne : gh ≠ w.heap.size := by omega
  go_wp2_with fail
  go_region
  go_wp2_with fail
  exact bodyPost_ret (v := .tuple #[.agg #[.bool false, .int .u8 0, .bool false, .int .u32 0, .slice none 0 0], .int .i64 code]) (by simp [results, Tryd.results18, go_sem, p0, p1, p2, p3, p4]) rfl (RGetPost.zero (below_drew (Below.setCell (Below.setCell (Below.setCell (Below.setCell (Below.setCell HB2.out hle _) hle _) hle _) hle _) hle _)))
set_option maxHeartbeats 8000000 in
set_option maxRecDepth 100000 in
theorem rget_short (k : Nat) (s : ByteArray) (m : Bool) (w : World) (f sz : Int) (HR : Aside0 (louverref16_Head.f k s m = some (f, sz, 0, true))) : Calls Tryd.prog 18 #[.string s, .bool m] w (RGetPost false 0 false 0 [] 1002 w) := by
  have hu37 := Tryd.underlying37
  have hu30 := Tryd.underlying30
  go_enter Tryd.func18, Tryd.ntmps18
  go_wp2_with fail
  refine (louverref16_Head.calls k s m f sz 0 true _ HR.out).mono ?_
  rintro e w1 ⟨rfl, hb⟩
  have HB1 := Aside0.mk (below_step (below_alloc (Below.refl w.heap.size w) (.cells #[.bool false, .int .u8 0, .bool false, .int .u32 0, .slice none 0 0] 37)) hb)
  have HP1 : Aside0 (w1.heap[w.heap.size]? = some (.cells #[.bool false, .int .u8 0, .bool false, .int .u32 0, .slice none 0 0] 37 (0, 0))) := ⟨blk_below (last_at _ _ _ rfl) hb⟩
  clear hb
  go_upto_region 2 with fail
  have hB2 : Below w.heap.size w (w1.alloc (.cells #[.int .i64 f, .int .i64 sz, .int .i64 0, .bool true] 30)) := below_alloc HB1.out _
  have hP2 : (w1.alloc (.cells #[.int .i64 f, .int .i64 sz, .int .i64 0, .bool true] 30)).heap[w.heap.size]? = some (.cells #[.bool false, .int .u8 0, .bool false, .int .u32 0, .slice none 0 0] 37 (0, 0)) := blk_alloc HP1.out _
  have hH2 : (w1.alloc (.cells #[.int .i64 f, .int .i64 sz, .int .i64 0, .bool true] 30)).heap[w1.heap.size]? = some (.cells #[.int .i64 f, .int .i64 sz, .int .i64 0, .bool true] 30 (0, 0)) := last_at _ _ _ rfl
  have hgh : w.heap.size < w1.heap.size := blk_lt HP1.out
  generalize w1.alloc (.cells #[.int .i64 f, .int .i64 sz, .int .i64 0, .bool true] 30) = w2 at hB2 hP2 hH2 ⊢
  generalize w1.heap.size = gh at hgh hH2 ⊢
  have HB2 := Aside0.mk hB2
  have HP2 := Aside0.mk hP2
  have HH2 := Aside0.mk hH2
  clear hB2 hP2 hH2 HB1 HP1
  have h0 : w2.cell? ⟨gh, 0, none⟩ = some (.int .i64 f) := (blk_cell HH2.out 0).trans rfl
  have h1 : w2.cell? ⟨gh, 1, none⟩ = some (.int .i64 sz) := (blk_cell HH2.out 1).trans rfl
  have h2 : w2.cell? ⟨gh, 2, none⟩ = some (.int .i64 0) := (blk_cell HH2.out 2).trans rfl
  have h3 : w2.cell? ⟨gh, 3, none⟩ = some (.bool true) := (blk_cell HH2.out 3).trans rfl
  have hl := blk_lt HH2.out
  have p0 : w2.cell? ⟨w.heap.size, 0, none⟩ = some (.bool false) := (blk_cell HP2.out 0).trans rfl
  have pf0 := blk_frozen HP2.out 0
  have p1 : w2.cell? ⟨w.heap.size, 1, none⟩ = some (.int .u8 0) := (blk_cell HP2.out 1).trans rfl
  have pf1 := blk_frozen HP2.out 1
  have p2 : w2.cell? ⟨w.heap.size, 2, none⟩ = some (.bool false) := (blk_cell HP2.out 2).trans rfl
  have pf2 := blk_frozen HP2.out 2
  have p3 : w2.cell? ⟨w.heap.size, 3, none⟩ = some (.int .u32 0) := (blk_cell HP2.out 3).trans rfl
  have pf3 := blk_frozen HP2.out 3
  have p4 : w2.cell? ⟨w.heap.size, 4, none⟩ = some (.slice none 0 0) := (blk_cell HP2.out 4).trans rfl
  have pf4 := blk_frozen HP2.out 4
  have pl := blk_lt HP2.out
  have hle : w.heap.size ≤ w.heap.size := Nat.le_refl _
  go_wp2_with fail
  exact bodyPost_ret (v := .tuple #[.agg #[.bool false, .int .u8 0, .bool false, .int .u32 0, .slice none 0 0], .int .i64 1002]) (by simp [results, Tryd.results18, go_sem, p0, p1, p2, p3, p4]) rfl (RGetPost.zero (Below.setCell (Below.setCell (Below.setCell (Below.setCell (Below.setCell HB2.out hle _) hle _) hle _) hle _) hle _))
set_option maxHeartbeats 8000000 in
set_option maxRecDepth 100000 in
theorem rget_other (k : Nat) (s : ByteArray) (m : Bool) (w : World) (f sz t : Int) (hs : IntKind.i64.wrap (f + sz) = t) (hne : ((s.size : Int) != t) = true) (HR : Aside0 (louverref16_Head.f k s m = some (f, sz, 0, false))) : Calls Tryd.prog 18 #[.string s, .bool m] w (RGetPost false 0 false 0 [] 1002 w) := by
  have hu37 := Tryd.underlying37
  have hu30 := Tryd.underlying30
  go_enter Tryd.func18, Tryd.ntmps18
  go_wp2_with fail
  refine (louverref16_Head.calls k s m f sz 0 false _ HR.out).mono ?_
  rintro e w1 ⟨rfl, hb⟩
  have HB1 := Aside0.mk (below_step (below_alloc (Below.refl w.heap.size w) (.cells #[.bool false, .int .u8 0, .bool false, .int .u32 0, .slice none 0 0] 37)) hb)
  have HP1 : Aside0 (w1.heap[w.heap.size]? = some (.cells #[.bool false, .int .u8 0, .bool false, .int .u32 0, .slice none 0 0] 37 (0, 0))) := ⟨blk_below (last_at _ _ _ rfl) hb⟩
  clear hb
  go_upto_region 2 with fail
  have hB2 : Below w.heap.size w (w1.alloc (.cells #[.int .i64 f, .int .i64 sz, .int .i64 0, .bool false] 30)) := below_alloc HB1.out _
  have hP2 : (w1.alloc (.cells #[.int .i64 f, .int .i64 sz, .int .i64 0, .bool false] 30)).heap[w.heap.size]? = some (.cells #[.bool false, .int .u8 0, .bool false, .int .u32 0, .slice none 0 0] 37 (0, 0)) := blk_alloc HP1.out _
  have hH2 : (w1.alloc (.cells #[.int .i64 f, .int .i64 sz, .int .i64 0, .bool false] 30)).heap[w1.heap.size]? = some (.cells #[.int .i64 f, .int .i64 sz, .int .i64 0, .bool false] 30 (0, 0)) := last_at _ _ _ rfl
  have hgh : w.heap.size < w1.heap.size := blk_lt HP1.out
  generalize w1.alloc (.cells #[.int .i64 f, .int .i64 sz, .int .i64 0, .bool false] 30) = w2 at hB2 hP2 hH2 ⊢
  generalize w1.heap.size = gh at hgh hH2 ⊢
  have HB2 := Aside0.mk hB2
  have HP2 := Aside0.mk hP2
  have HH2 := Aside0.mk hH2
  clear hB2 hP2 hH2 HB1 HP1
  have h0 : w2.cell? ⟨gh, 0, none⟩ = some (.int .i64 f) := (blk_cell HH2.out 0).trans rfl
  have h1 : w2.cell? ⟨gh, 1, none⟩ = some (.int .i64 sz) := (blk_cell HH2.out 1).trans rfl
  have h2 : w2.cell? ⟨gh, 2, none⟩ = some (.int .i64 0) := (blk_cell HH2.out 2).trans rfl
  have h3 : w2.cell? ⟨gh, 3, none⟩ = some (.bool false) := (blk_cell HH2.out 3).trans rfl
  have hl := blk_lt HH2.out
  have p0 : w2.cell? ⟨w.heap.size, 0, none⟩ = some (.bool false) := (blk_cell HP2.out 0).trans rfl
  have pf0 := blk_frozen HP2.out 0
  have p1 : w2.cell? ⟨w.heap.size, 1, none⟩ = some (.int .u8 0) := (blk_cell HP2.out 1).trans rfl
  have pf1 := blk_frozen HP2.out 1
  have p2 : w2.cell? ⟨w.heap.size, 2, none⟩ = some (.bool false) := (blk_cell HP2.out 2).trans rfl
  have pf2 := blk_frozen HP2.out 2
  have p3 : w2.cell? ⟨w.heap.size, 3, none⟩ = some (.int .u32 0) := (blk_cell HP2.out 3).trans rfl
  have pf3 := blk_frozen HP2.out 3
  have p4 : w2.cell? ⟨w.heap.size, 4, none⟩ = some (.slice none 0 0) := (blk_cell HP2.out 4).trans rfl
  have pf4 := blk_frozen HP2.out 4
  have pl := blk_lt HP2.out
  have hle : w.heap.size ≤ w.heap.size := Nat.le_refl _
  go_wp2_with fail
  exact bodyPost_ret (v := .tuple #[.agg #[.bool false, .int .u8 0, .bool false, .int .u32 0, .slice none 0 0], .int .i64 1002]) (by simp [results, Tryd.results18, go_sem, p0, p1, p2, p3, p4]) rfl (RGetPost.zero (Below.setCell (Below.setCell (Below.setCell (Below.setCell (Below.setCell HB2.out hle _) hle _) hle _) hle _) hle _))
set_option maxHeartbeats 8000000 in
set_option maxRecDepth 100000 in
theorem rget_ok_2 (k : Nat) (s D : ByteArray) (w : World) (dd t op key : Int) (fin : Bool) (r5 : List Int) (hsz : 2 ≤ s.size) (hs : IntKind.i64.wrap (2 + dd) = t) (hne : ((s.size : Int) != t) = false) (hf : decide (127 < bt s 0) = fin) (ho : Int.tmod (bt s 0) 16 = op) (hD : D.size = r5.length) (hDb : bytesOf D = r5) (hDl : r5.length ≤ 10000) (HR : Aside0 (louverref16_Head.f k s false = some (2, dd, 0, false))) (hcut : s.extract 2 s.size = D) (h0k : key = 0) : Calls Tryd.prog 18 #[.string s, .bool false] w (RGetPost fin op false key r5 0 w) := by
  subst h0k
  have hx : ∀ h : 0 < s.size, ((s[0]'h).toNat : Int) = bt s 0 := bt_at s 0
  have qi : (0 < (s.size : Int)) = True := eq_true (by omega)
  have qn : (0 < s.size) = True := eq_true (by omega)
  have p2 : (2 : Int) ≤ (s.size : Int) := by omega
  have hcv : ∀ W : World, (convert 9 23 (.string D)).run Tryd.prog W = .ok (.slice (some ⟨W.heap.size, 0, none⟩) r5.length (grownCap W r5.length 0 5)) (Lib.bytesWorld W 5 D) := fun W => by
    rw [← hD]
    exact print_bytes (P := Tryd.prog) 9 23 5 Tryd.underlying9 Tryd.underlying23 Tryd.underlying5 D W
  have HD := Aside0.mk hD
  have HDb := Aside0.mk hDb
  clear hD hDb
  have hu37 := Tryd.underlying37
  have hu30 := Tryd.underlying30
  go_enter Tryd.func18, Tryd.ntmps18
  go_wp2_with fail
  refine (louverref16_Head.calls k s false 2 dd 0 false _ HR.out).mono ?_
  rintro e w1 ⟨rfl, hb⟩
  have HB1 := Aside0.mk (below_step (below_alloc (Below.refl w.heap.size w) (.cells #[.bool false, .int .u8 0, .bool false, .int .u32 0, .slice none 0 0] 37)) hb)
  have HP1 : Aside0 (w1.heap[w.heap.size]? = some (.cells #[.bool false, .int .u8 0, .bool false, .int .u32 0, .slice none 0 0] 37 (0, 0))) := ⟨blk_below (last_at _ _ _ rfl) hb⟩
  clear hb
  go_upto_region 2 with fail
  have hB2 : Below w.heap.size w (w1.alloc (.cells #[.int .i64 2, .int .i64 dd, .int .i64 0, .bool false] 30)) := below_alloc HB1.out _
  have hP2 : (w1.alloc (.cells #[.int .i64 2, .int .i64 dd, .int .i64 0, .bool false] 30)).heap[w.heap.size]? = some (.cells #[.bool false, .int .u8 0, .bool false, .int .u32 0, .slice none 0 0] 37 (0, 0)) := blk_alloc HP1.out _
  have hH2 : (w1.alloc (.cells #[.int .i64 2, .int .i64 dd, .int .i64 0, .bool false] 30)).heap[w1.heap.size]? = some (.cells #[.int .i64 2, .int .i64 dd, .int .i64 0, .bool false] 30 (0, 0)) := last_at _ _ _ rfl
  have hgh : w.heap.size < w1.heap.size := blk_lt HP1.out
  generalize w1.alloc (.cells #[.int .i64 2, .int .i64 dd, .int .i64 0, .bool false] 30) = w2 at hB2 hP2 hH2 ⊢
  generalize w1.heap.size = gh at hgh hH2 ⊢
  have HB2 := Aside0.mk hB2
  have HP2 := Aside0.mk hP2
  have HH2 := Aside0.mk hH2
  clear hB2 hP2 hH2 HB1 HP1
  have h0 : w2.cell? ⟨gh, 0, none⟩ = some (.int .i64 2) := (blk_cell HH2.out 0).trans rfl
  have h1 : w2.cell? ⟨gh, 1, none⟩ = some (.int .i64 dd) := (blk_cell HH2.out 1).trans rfl
  have h2 : w2.cell? ⟨gh, 2, none⟩ = some (.int .i64 0) := (blk_cell HH2.out 2).trans rfl
  have h3 : w2.cell? ⟨gh, 3, none⟩ = some (.bool false) := (blk_cell HH2.out 3).trans rfl
  have hl := blk_lt HH2.out
  go_wp2_with fail
  go_region
  go_upto_region 7 with fail
  have hB3 : Below w.heap.size w (w2.alloc (.cells #[.bool fin, .int .u8 op, .bool false, .int .u32 0, .slice none 0 0] 37)).drew := below_drew (below_alloc HB2.out _)
  have hP3 : (w2.alloc (.cells #[.bool fin, .int .u8 op, .bool false, .int .u32 0, .slice none 0 0] 37)).drew.heap[w.heap.size]? = some (.cells #[.bool false, .int .u8 0, .bool false, .int .u32 0, .slice none 0 0] 37 (0, 0)) := blk_drew (blk_alloc HP2.out _)
  have hH3 : (w2.alloc (.cells #[.bool fin, .int .u8 op, .bool false, .int .u32 0, .slice none 0 0] 37)).drew.heap[gh]? = some (.cells #[.int .i64 2, .int .i64 dd, .int .i64 0, .bool false] 30 (0, 0)) := blk_drew (blk_alloc HH2.out _)
  have hF3 : (w2.alloc (.cells #[.bool fin, .int .u8 op, .bool false, .int .u32 0, .slice none 0 0] 37)).drew.heap[w2.heap.size]? = some (.cells #[.bool fin, .int .u8 op, .bool false, .int .u32 0, .slice none 0 0] 37 (0, 0)) := blk_drew (last_at _ _ _ rfl)
  have hgp : w.heap.size < w2.heap.size := blk_lt HP2.out
  generalize (w2.alloc (.cells #[.bool fin, .int .u8 op, .bool false, .int .u32 0, .slice none 0 0] 37)).drew = w3 at hB3 hP3 hH3 hF3 ⊢
  generalize w2.heap.size = gp at hF3 hgp ⊢
  clear HB2 HP2 HH2 h0 h1 h2 h3 hl
  have HB3 := Aside0.mk hB3
  have HP3 := Aside0.mk hP3
  have HF3 := Aside0.mk hF3
  clear hB3 hP3 hF3
  have h0 : w3.cell? ⟨gh, 0, none⟩ = some (.int .i64 2) := (blk_cell hH3 0).trans rfl
  have h1 : w3.cell? ⟨gh, 1, none⟩ = some (.int .i64 dd) := (blk_cell hH3 1).trans rfl
  have h2 : w3.cell? ⟨gh, 2, none⟩ = some (.int .i64 0) := (blk_cell hH3 2).trans rfl
  have h3 : w3.cell? ⟨gh, 3, none⟩ = some (.bool false) := (blk_cell hH3 3).trans rfl
  have hl := blk_lt hH3
  clear hH3
  have hbw : Below w3.heap.size w3 (Lib.bytesWorld w3 5 D) := bytes_below (Below.refl _ _) (Nat.le_refl _) _ _
  have hC7 : Kd.C (Kd.int .u8) (Lib.bytesWorld w3 5 D) (some ⟨w3.heap.size, 0, none⟩) r5.length r5 := by
    have h := bytes_reads w3 5 D (by rw [HD.out]; omega)
    rw [HD.out, HDb.out] at h
    exact Kd.C_of_reads (d := (0 : Int)) (h1 := fun _ => rfl) h
  have hB7 := below_step HB3.out hbw
  have hP7 := blk_below HP3.out hbw
  have hF7 := blk_below HF3.out hbw
  have hgd : gp < w3.heap.size := blk_lt HF3.out
  have hcap : r5.length ≤ grownCap w3 r5.length 0 5 := grownCap_ge _ _ _ _
  have HB7 := Aside0.mk hB7
  have HP7 := Aside0.mk hP7
  have HF7 := Aside0.mk hF7
  have HC7 := Aside0.mk hC7
  have HCAP := Aside0.mk hcap
  clear hbw hB7 hP7 hF7 hC7 hcap HB3 HP3 HF3
  have g0 : (Lib.bytesWorld w3 5 D).cell? ⟨gp, 0, none⟩ = some (.bool fin) := (blk_cell HF7.out 0).trans rfl
  have gf0 := blk_frozen HF7.out 0
  have g1 : (Lib.bytesWorld w3 5 D).cell? ⟨gp, 1, none⟩ = some (.int .u8 op) := (blk_cell HF7.out 1).trans rfl
  have gf1 := blk_frozen HF7.out 1
  have g2 : (Lib.bytesWorld w3 5 D).cell? ⟨gp, 2, none⟩ = some (.bool false) := (blk_cell HF7.out 2).trans rfl
  have gf2 := blk_frozen HF7.out 2
  have g3 : (Lib.bytesWorld w3 5 D).cell? ⟨gp, 3, none⟩ = some (.int .u32 0) := (blk_cell HF7.out 3).trans rfl
  have gf3 := blk_frozen HF7.out 3
  have g4 : (Lib.bytesWorld w3 5 D).cell? ⟨gp, 4, none⟩ = some (.slice none 0 0) := (blk_cell HF7.out 4).trans rfl
  have gf4 := blk_frozen HF7.out 4
  have gl := blk_lt HF7.out
  go_upto_region 12 with fail
  clear g0 g1 g2 g3 g4 gf0 gf1 gf2 gf3 gf4 gl
  have hB8 : Below w.heap.size w ((Lib.bytesWorld w3 5 D).setCell ⟨gp, 4, none⟩ (.slice (some ⟨w3.heap.size, 0, none⟩) r5.length (grownCap w3 r5.length 0 5))) := Below.setCell HB7.out (Nat.le_of_lt hgp) _
  have hP8 : ((Lib.bytesWorld w3 5 D).setCell ⟨gp, 4, none⟩ (.slice (some ⟨w3.heap.size, 0, none⟩) r5.length (grownCap w3 r5.length 0 5))).heap[w.heap.size]? = some (.cells #[.bool false, .int .u8 0, .bool false, .int .u32 0, .slice none 0 0] 37 (0, 0)) := blk_far HP7.out (Nat.ne_of_lt hgp) _
  have hF8 : ((Lib.bytesWorld w3 5 D).setCell ⟨gp, 4, none⟩ (.slice (some ⟨w3.heap.size, 0, none⟩) r5.length (grownCap w3 r5.length 0 5))).heap[gp]? = some (.cells #[.bool fin, .int .u8 op, .bool false, .int .u32 0, .slice (some ⟨w3.heap.size, 0, none⟩) r5.length (grownCap w3 r5.length 0 5)] 37 (0, 0)) := blk_put HF7.out 4 _ rfl
  have hC8 : Kd.C (Kd.int .u8) ((Lib.bytesWorld w3 5 D).setCell ⟨gp, 4, none⟩ (.slice (some ⟨w3.heap.size, 0, none⟩) r5.length (grownCap w3 r5.length 0 5))) (some ⟨w3.heap.size, 0, none⟩) r5.length r5 := C_block HC7.out (Below.heap_setCell _ _ _ _ (Nat.ne_of_gt hgd))
  generalize ((Lib.bytesWorld w3 5 D).setCell ⟨gp, 4, none⟩ (.slice (some ⟨w3.heap.size, 0, none⟩) r5.length (grownCap w3 r5.length 0 5))) = w8 at hB8 hP8 hF8 hC8 ⊢
  have hcap := HCAP.out
  generalize grownCap w3 r5.length 0 5 = cp at hF8 hcap ⊢
  generalize w3.heap.size = gd at hF8 hC8 hgd ⊢
  have HB8 := Aside0.mk hB8
  have HC8 := Aside0.mk hC8
  clear HB7 HP7 HF7 HC7 HCAP hB8 hC8 hcv
  have g0 : w8.cell? ⟨gp, 0, none⟩ = some (.bool fin) := (blk_cell hF8 0).trans rfl
  have g1 : w8.cell? ⟨gp, 1, none⟩ = some (.int .u8 op) := (blk_cell hF8 1).trans rfl
  have g2 : w8.cell? ⟨gp, 2, none⟩ = some (.bool false) := (blk_cell hF8 2).trans rfl
  have g3 : w8.cell? ⟨gp, 3, none⟩ = some (.int .u32 0) := (blk_cell hF8 3).trans rfl
  have g4 : w8.cell? ⟨gp, 4, none⟩ = some (.slice (some ⟨gd, 0, none⟩) r5.length cp) := (blk_cell hF8 4).trans rfl
  have gl := blk_lt hF8
  have p0 : w8.cell? ⟨w.heap.size, 0, none⟩ = some (.bool false) := (blk_cell hP8 0).trans rfl
  have pf0 := blk_frozen hP8 0
  have p1 : w8.cell? ⟨w.heap.size, 1, none⟩ = some (.int .u8 0) := (blk_cell hP8 1).trans rfl
  have pf1 := blk_frozen hP8 1
  have p2 : w8.cell? ⟨w.heap.size, 2, none⟩ = some (.bool false) := (blk_cell hP8 2).trans rfl
  have pf2 := blk_frozen hP8 2
  have p3 : w8.cell? ⟨w.heap.size, 3, none⟩ = some (.int .u32 0) := (blk_cell hP8 3).trans rfl
  have pf3 := blk_frozen hP8 3
  have p4 : w8.cell? ⟨w.heap.size, 4, none⟩ = some (.slice none 0 0) := (blk_cell hP8 4).trans rfl
  have pf4 := blk_frozen hP8 4
  have pl := blk_lt hP8
  clear hF8 hP8
  have hle : w.heap.size ≤ w.heap.size := Nat.le_refl _
  have hdn : gd ≠ w.heap.size := by omega
  clear h0 h1 h2 h3 hl
  go_wp2_with fail
  exact bodyPost_ret (v := .tuple #[.agg #[.bool fin, .int .u8 op, .bool false, .int .u32 0, .slice (some ⟨gd, 0, none⟩) r5.length cp], .int .i64 0]) (by simp [results, Tryd.results18, go_sem, p0, p1, p2, p3, p4]) rfl ⟨_, _, rfl, C_block HC8.out ((Below.heap_setCell _ _ _ _ hdn).trans ((Below.heap_setCell _ _ _ _ hdn).trans ((Below.heap_setCell _ _ _ _ hdn).trans ((Below.heap_setCell _ _ _ _ hdn).trans ((Below.heap_setCell _ _ _ _ hdn).trans (rfl)))))), hcap, Below.setCell (Below.setCell (Below.setCell (Below.setCell (Below.setCell HB8.out hle _) hle _) hle _) hle _) hle _⟩
set_option maxHeartbeats 8000000 in
set_option maxRecDepth 100000 in
theorem rget_ok_4 (k : Nat) (s D : ByteArray) (w : World) (dd t op key : Int) (fin : Bool) (r5 : List Int) (hsz : 4 ≤ s.size) (hs : IntKind.i64.wrap (4 + dd) = t) (hne : ((s.size : Int) != t) = false) (hf : decide (127 < bt s 0) = fin) (ho : Int.tmod (bt s 0) 16 = op) (hD : D.size = r5.length) (hDb : bytesOf D = r5) (hDl : r5.length ≤ 10000) (HR : Aside0 (louverref16_Head.f k s false = some (4, dd, 0, false))) (hcut : s.extract 4 s.size = D) (h0k : key = 0) : Calls Tryd.prog 18 #[.string s, .bool false] w (RGetPost fin op false key r5 0 w) := by
  subst h0k
  have hx : ∀ h : 0 < s.size, ((s[0]'h).toNat : Int) = bt s 0 := bt_at s 0
  have qi : (0 < (s.size : Int)) = True := eq_true (by omega)
  have qn : (0 < s.size) = True := eq_true (by omega)
  have p2 : (4 : Int) ≤ (s.size : Int) := by omega
  have hcv : ∀ W : World, (convert 9 23 (.string D)).run Tryd.prog W = .ok (.slice (some ⟨W.heap.size, 0, none⟩) r5.length (grownCap W r5.length 0 5)) (Lib.bytesWorld W 5 D) := fun W => by
    rw [← hD]
    exact print_bytes (P := Tryd.prog) 9 23 5 Tryd.underlying9 Tryd.underlying23 Tryd.underlying5 D W
  have HD := Aside0.mk hD
  have HDb := Aside0.mk hDb
  clear hD hDb
  have hu37 := Tryd.underlying37
  have hu30 := Tryd.underlying30
  go_enter Tryd.func18, Tryd.ntmps18
  go_wp2_with fail
  refine (louverref16_Head.calls k s false 4 dd 0 false _ HR.out).mono ?_
  rintro e w1 ⟨rfl, hb⟩
  have HB1 := Aside0.mk (below_step (below_alloc (Below.refl w.heap.size w) (.cells #[.bool false, .int .u8 0, .bool false, .int .u32 0, .slice none 0 0] 37)) hb)
  have HP1 : Aside0 (w1.heap[w.heap.size]? = some (.cells #[.bool false, .int .u8 0, .bool false, .int .u32 0, .slice none 0 0] 37 (0, 0))) := ⟨blk_below (last_at _ _ _ rfl) hb⟩
  clear hb
  go_upto_region 2 with fail
  have hB2 : Below w.heap.size w (w1.alloc (.cells #[.int .i64 4, .int .i64 dd, .int .i64 0, .bool false] 30)) := below_alloc HB1.out _
  have hP2 : (w1.alloc (.cells #[.int .i64 4, .int .i64 dd, .int .i64 0, .bool false] 30)).heap[w.heap.size]? = some (.cells #[.bool false, .int .u8 0, .bool false, .int .u32 0, .slice none 0 0] 37 (0, 0)) := blk_alloc HP1.out _
  have hH2 : (w1.alloc (.cells #[.int .i64 4, .int .i64 dd, .int .i64 0, .bool false] 30)).heap[w1.heap.size]? = some (.cells #[.int .i64 4, .int .i64 dd, .int .i64 0, .bool false] 30 (0, 0)) := last_at _ _ _ rfl
  have hgh : w.heap.size < w1.heap.size := blk_lt HP1.out
  generalize w1.alloc (.cells #[.int .i64 4, .int .i64 dd, .int .i64 0, .bool false] 30) = w2 at hB2 hP2 hH2 ⊢
  generalize w1.heap.size = gh at hgh hH2 ⊢
  have HB2 := Aside0.mk hB2
  have HP2 := Aside0.mk hP2
  have HH2 := Aside0.mk hH2
  clear hB2 hP2 hH2 HB1 HP1
  have h0 : w2.cell? ⟨gh, 0, none⟩ = some (.int .i64 4) := (blk_cell HH2.out 0).trans rfl
  have h1 : w2.cell? ⟨gh, 1, none⟩ = some (.int .i64 dd) := (blk_cell HH2.out 1).trans rfl
  have h2 : w2.cell? ⟨gh, 2, none⟩ = some (.int .i64 0) := (blk_cell HH2.out 2).trans rfl
  have h3 : w2.cell? ⟨gh, 3, none⟩ = some (.bool false) := (blk_cell HH2.out 3).trans rfl
  have hl := blk_lt HH2.out
  go_wp2_with fail
  go_region
  go_upto_region 7 with fail
  have hB3 : Below w.heap.size w (w2.alloc (.cells #[.bool fin, .int .u8 op, .bool false, .int .u32 0, .slice none 0 0] 37)).drew := below_drew (below_alloc HB2.out _)
  have hP3 : (w2.alloc (.cells #[.bool fin, .int .u8 op, .bool false, .int .u32 0, .slice none 0 0] 37)).drew.heap[w.heap.size]? = some (.cells #[.bool false, .int .u8 0, .bool false, .int .u32 0, .slice none 0 0] 37 (0, 0)) := blk_drew (blk_alloc HP2.out _)
  have hH3 : (w2.alloc (.cells #[.bool fin, .int .u8 op, .bool false, .int .u32 0, .slice none 0 0] 37)).drew.heap[gh]? = some (.cells #[.int .i64 4, .int .i64 dd, .int .i64 0, .bool false] 30 (0, 0)) := blk_drew (blk_alloc HH2.out _)
  have hF3 : (w2.alloc (.cells #[.bool fin, .int .u8 op, .bool false, .int .u32 0, .slice none 0 0] 37)).drew.heap[w2.heap.size]? = some (.cells #[.bool fin, .int .u8 op, .bool false, .int .u32 0, .slice none 0 0] 37 (0, 0)) := blk_drew (last_at _ _ _ rfl)
  have hgp : w.heap.size < w2.heap.size := blk_lt HP2.out
  generalize (w2.alloc (.cells #[.bool fin, .int .u8 op, .bool false, .int .u32 0, .slice none 0 0] 37)).drew = w3 at hB3 hP3 hH3 hF3 ⊢
  generalize w2.heap.size = gp at hF3 hgp ⊢
  clear HB2 HP2 HH2 h0 h1 h2 h3 hl
  have HB3 := Aside0.mk hB3
  have HP3 := Aside0.mk hP3
  have HF3 := Aside0.mk hF3
  clear hB3 hP3 hF3
  have h0 : w3.cell? ⟨gh, 0, none⟩ = some (.int .i64 4) := (blk_cell hH3 0).trans rfl
  have h1 : w3.cell? ⟨gh, 1, none⟩ = some (.int .i64 dd) := (blk_cell hH3 1).trans rfl
  have h2 : w3.cell? ⟨gh, 2, none⟩ = some (.int .i64 0) := (blk_cell hH3 2).trans rfl
  have h3 : w3.cell? ⟨gh, 3, none⟩ = some (.bool false) := (blk_cell hH3 3).trans rfl
  have hl := blk_lt hH3
  clear hH3
  have hbw : Below w3.heap.size w3 (Lib.bytesWorld w3 5 D) := bytes_below (Below.refl _ _) (Nat.le_refl _) _ _
  have hC7 : Kd.C (Kd.int .u8) (Lib.bytesWorld w3 5 D) (some ⟨w3.heap.size, 0, none⟩) r5.length r5 := by
    have h := bytes_reads w3 5 D (by rw [HD.out]; omega)
    rw [HD.out, HDb.out] at h
    exact Kd.C_of_reads (d := (0 : Int)) (h1 := fun _ => rfl) h
  have hB7 := below_step HB3.out hbw
  have hP7 := blk_below HP3.out hbw
  have hF7 := blk_below HF3.out hbw
  have hgd : gp < w3.heap.size := blk_lt HF3.out
  have hcap : r5.length ≤ grownCap w3 r5.length 0 5 := grownCap_ge _ _ _ _
  have HB7 := Aside0.mk hB7
  have HP7 := Aside0.mk hP7
  have HF7 := Aside0.mk hF7
  have HC7 := Aside0.mk hC7
  have HCAP := Aside0.mk hcap
  clear hbw hB7 hP7 hF7 hC7 hcap HB3 HP3 HF3
  have g0 : (Lib.bytesWorld w3 5 D).cell? ⟨gp, 0, none⟩ = some (.bool fin) := (blk_cell HF7.out 0).trans rfl
  have gf0 := blk_frozen HF7.out 0
  have g1 : (Lib.bytesWorld w3 5 D).cell? ⟨gp, 1, none⟩ = some (.int .u8 op) := (blk_cell HF7.out 1).trans rfl
  have gf1 := blk_frozen HF7.out 1
  have g2 : (Lib.bytesWorld w3 5 D).cell? ⟨gp, 2, none⟩ = some (.bool false) := (blk_cell HF7.out 2).trans rfl
  have gf2 := blk_frozen HF7.out 2
  have g3 : (Lib.bytesWorld w3 5 D).cell? ⟨gp, 3, none⟩ = some (.int .u32 0) := (blk_cell HF7.out 3).trans rfl
  have gf3 := blk_frozen HF7.out 3
  have g4 : (Lib.bytesWorld w3 5 D).cell? ⟨gp, 4, none⟩ = some (.slice none 0 0) := (blk_cell HF7.out 4).trans rfl
  have gf4 := blk_frozen HF7.out 4
  have gl := blk_lt HF7.out
  go_upto_region 12 with fail
  clear g0 g1 g2 g3 g4 gf0 gf1 gf2 gf3 gf4 gl
  have hB8 : Below w.heap.size w ((Lib.bytesWorld w3 5 D).setCell ⟨gp, 4, none⟩ (.slice (some ⟨w3.heap.size, 0, none⟩) r5.length (grownCap w3 r5.length 0 5))) := Below.setCell HB7.out (Nat.le_of_lt hgp) _
  have hP8 : ((Lib.bytesWorld w3 5 D).setCell ⟨gp, 4, none⟩ (.slice (some ⟨w3.heap.size, 0, none⟩) r5.length (grownCap w3 r5.length 0 5))).heap[w.heap.size]? = some (.cells #[.bool false, .int .u8 0, .bool false, .int .u32 0, .slice none 0 0] 37 (0, 0)) := blk_far HP7.out (Nat.ne_of_lt hgp) _
  have hF8 : ((Lib.bytesWorld w3 5 D).setCell ⟨gp, 4, none⟩ (.slice (some ⟨w3.heap.size, 0, none⟩) r5.length (grownCap w3 r5.length 0 5))).heap[gp]? = some (.cells #[.bool fin, .int .u8 op, .bool false, .int .u32 0, .slice (some ⟨w3.heap.size, 0, none⟩) r5.length (grownCap w3 r5.length 0 5)] 37 (0, 0)) := blk_put HF7.out 4 _ rfl
  have hC8 : Kd.C (Kd.int .u8) ((Lib.bytesWorld w3 5 D).setCell ⟨gp, 4, none⟩ (.slice (some ⟨w3.heap.size, 0, none⟩) r5.length (grownCap w3 r5.length 0 5))) (some ⟨w3.heap.size, 0, none⟩) r5.length r5 := C_block HC7.out (Below.heap_setCell _ _ _ _ (Nat.ne_of_gt hgd))
  generalize ((Lib.bytesWorld w3 5 D).setCell ⟨gp, 4, none⟩ (.slice (some ⟨w3.heap.size, 0, none⟩) r5.length (grownCap w3 r5.length 0 5))) = w8 at hB8 hP8 hF8 hC8 ⊢
  have hcap := HCAP.out
  generalize grownCap w3 r5.length 0 5 = cp at hF8 hcap ⊢
  generalize w3.heap.size = gd at hF8 hC8 hgd ⊢
  have HB8 := Aside0.mk hB8
  have HC8 := Aside0.mk hC8
  clear HB7 HP7 HF7 HC7 HCAP hB8 hC8 hcv
  have g0 : w8.cell? ⟨gp, 0, none⟩ = some (.bool fin) := (blk_cell hF8 0).trans rfl
  have g1 : w8.cell? ⟨gp, 1, none⟩ = some (.int .u8 op) := (blk_cell hF8 1).trans rfl
  have g2 : w8.cell? ⟨gp, 2, none⟩ = some (.bool false) := (blk_cell hF8 2).trans rfl
  have g3 : w8.cell? ⟨gp, 3, none⟩ = some (.int .u32 0) := (blk_cell hF8 3).trans rfl
  have g4 : w8.cell? ⟨gp, 4, none⟩ = some (.slice (some ⟨gd, 0, none⟩) r5.length cp) := (blk_cell hF8 4).trans rfl
  have gl := blk_lt hF8
  have p0 : w8.cell? ⟨w.heap.size, 0, none⟩ = some (.bool false) := (blk_cell hP8 0).trans rfl
  have pf0 := blk_frozen hP8 0
  have p1 : w8.cell? ⟨w.heap.size, 1, none⟩ = some (.int .u8 0) := (blk_cell hP8 1).trans rfl
  have pf1 := blk_frozen hP8 1
  have p2 : w8.cell? ⟨w.heap.size, 2, none⟩ = some (.bool false) := (blk_cell hP8 2).trans rfl
  have pf2 := blk_frozen hP8 2
  have p3 : w8.cell? ⟨w.heap.size, 3, none⟩ = some (.int .u32 0) := (blk_cell hP8 3).trans rfl
  have pf3 := blk_frozen hP8 3
  have p4 : w8.cell? ⟨w.heap.size, 4, none⟩ = some (.slice none 0 0) := (blk_cell hP8 4).trans rfl
  have pf4 := blk_frozen hP8 4
  have pl := blk_lt hP8
  clear hF8 hP8
  have hle : w.heap.size ≤ w.heap.size := Nat.le_refl _
  have hdn : gd ≠ w.heap.size := by omega
  clear h0 h1 h2 h3 hl
  go_wp2_with fail
  exact bodyPost_ret (v := .tuple #[.agg #[.bool fin, .int .u8 op, .bool false, .int .u32 0, .slice (some ⟨gd, 0, none⟩) r5.length cp], .int .i64 0]) (by simp [results, Tryd.results18, go_sem, p0, p1, p2, p3, p4]) rfl ⟨_, _, rfl, C_block HC8.out ((Below.heap_setCell _ _ _ _ hdn).trans ((Below.heap_setCell _ _ _ _ hdn).trans ((Below.heap_setCell _ _ _ _ hdn).trans ((Below.heap_setCell _ _ _ _ hdn).trans ((Below.heap_setCell _ _ _ _ hdn).trans (rfl)))))), hcap, Below.setCell (Below.setCell (Below.setCell (Below.setCell (Below.setCell HB8.out hle _) hle _) hle _) hle _) hle _⟩
set_option maxHeartbeats 8000000 in
set_option maxRecDepth 100000 in
theorem rget_ok_6 (k : Nat) (s D : ByteArray) (w : World) (dd t op key : Int) (fin : Bool) (r5 : List Int) (hsz : 6 ≤ s.size) (hs : IntKind.i64.wrap (6 + dd) = t) (hne : ((s.size : Int) != t) = false) (hf : decide (127 < bt s 0) = fin) (ho : Int.tmod (bt s 0) 16 = op) (hD : D.size = r5.length) (hDb : bytesOf D = r5) (hDl : r5.length ≤ 10000) (HR : Aside0 (louverref16_Head.f k s true = some (6, dd, 0, false))) (D0 : ByteArray) (hcut : s.extract 6 s.size = D0) (HV : Aside0 (louverref07_Value.f k (s.extract 2 6) = some key)) (HT : Aside0 (louverref16_Turn.f k D0 key = some D)) : Calls Tryd.prog 18 #[.string s, .bool true] w (RGetPost fin op true key r5 0 w) := by
  have hx : ∀ h : 0 < s.size, ((s[0]'h).toNat : Int) = bt s 0 := bt_at s 0
  have qi : (0 < (s.size : Int)) = True := eq_true (by omega)
  have qn : (0 < s.size) = True := eq_true (by omega)
  have p2 : (6 : Int) ≤ (s.size : Int) := by omega
  have hcv : ∀ W : World, (convert 9 23 (.string D)).run Tryd.prog W = .ok (.slice (some ⟨W.heap.size, 0, none⟩) r5.length (grownCap W r5.length 0 5)) (Lib.bytesWorld W 5 D) := fun W => by
    rw [← hD]
    exact print_bytes (P := Tryd.prog) 9 23 5 Tryd.underlying9 Tryd.underlying23 Tryd.underlying5 D W
  have HD := Aside0.mk hD
  have HDb := Aside0.mk hDb
  clear hD hDb
  have hu37 := Tryd.underlying37
  have hu30 := Tryd.underlying30
  go_enter Tryd.func18, Tryd.ntmps18
  go_wp2_with fail
  refine (louverref16_Head.calls k s true 6 dd 0 false _ HR.out).mono ?_
  rintro e w1 ⟨rfl, hb⟩
  have HB1 := Aside0.mk (below_step (below_alloc (Below.refl w.heap.size w) (.cells #[.bool false, .int .u8 0, .bool false, .int .u32 0, .slice none 0 0] 37)) hb)
  have HP1 : Aside0 (w1.heap[w.heap.size]? = some (.cells #[.bool false, .int .u8 0, .bool false, .int .u32 0, .slice none 0 0] 37 (0, 0))) := ⟨blk_below (last_at _ _ _ rfl) hb⟩
  clear hb
  go_upto_region 2 with fail
  have hB2 : Below w.heap.size w (w1.alloc (.cells #[.int .i64 6, .int .i64 dd, .int .i64 0, .bool false] 30)) := below_alloc HB1.out _
  have hP2 : (w1.alloc (.cells #[.int .i64 6, .int .i64 dd, .int .i64 0, .bool false] 30)).heap[w.heap.size]? = some (.cells #[.bool false, .int .u8 0, .bool false, .int .u32 0, .slice none 0 0] 37 (0, 0)) := blk_alloc HP1.out _
  have hH2 : (w1.alloc (.cells #[.int .i64 6, .int .i64 dd, .int .i64 0, .bool false] 30)).heap[w1.heap.size]? = some (.cells #[.int .i64 6, .int .i64 dd, .int .i64 0, .bool false] 30 (0, 0)) := last_at _ _ _ rfl
  have hgh : w.heap.size < w1.heap.size := blk_lt HP1.out
  generalize w1.alloc (.cells #[.int .i64 6, .int .i64 dd, .int .i64 0, .bool false] 30) = w2 at hB2 hP2 hH2 ⊢
  generalize w1.heap.size = gh at hgh hH2 ⊢
  have HB2 := Aside0.mk hB2
  have HP2 := Aside0.mk hP2
  have HH2 := Aside0.mk hH2
  clear hB2 hP2 hH2 HB1 HP1
  have h0 : w2.cell? ⟨gh, 0, none⟩ = some (.int .i64 6) := (blk_cell HH2.out 0).trans rfl
  have h1 : w2.cell? ⟨gh, 1, none⟩ = some (.int .i64 dd) := (blk_cell HH2.out 1).trans rfl
  have h2 : w2.cell? ⟨gh, 2, none⟩ = some (.int .i64 0) := (blk_cell HH2.out 2).trans rfl
  have h3 : w2.cell? ⟨gh, 3, none⟩ = some (.bool false) := (blk_cell HH2.out 3).trans rfl
  have hl := blk_lt HH2.out
  go_wp2_with fail
  go_region
  go_upto_region 7 with fail
  have hB3 : Below w.heap.size w (w2.alloc (.cells #[.bool fin, .int .u8 op, .bool true, .int .u32 0, .slice none 0 0] 37)).drew := below_drew (below_alloc HB2.out _)
  have hP3 : (w2.alloc (.cells #[.bool fin, .int .u8 op, .bool true, .int .u32 0, .slice none 0 0] 37)).drew.heap[w.heap.size]? = some (.cells #[.bool false, .int .u8 0, .bool false, .int .u32 0, .slice none 0 0] 37 (0, 0)) := blk_drew (blk_alloc HP2.out _)
  have hH3 : (w2.alloc (.cells #[.bool fin, .int .u8 op, .bool true, .int .u32 0, .slice none 0 0] 37)).drew.heap[gh]? = some (.cells #[.int .i64 6, .int .i64 dd, .int .i64 0, .bool false] 30 (0, 0)) := blk_drew (blk_alloc HH2.out _)
  have hF3 : (w2.alloc (.cells #[.bool fin, .int .u8 op, .bool true, .int .u32 0, .slice none 0 0] 37)).drew.heap[w2.heap.size]? = some (.cells #[.bool fin, .int .u8 op, .bool true, .int .u32 0, .slice none 0 0] 37 (0, 0)) := blk_drew (last_at _ _ _ rfl)
  have hgp : w.heap.size < w2.heap.size := blk_lt HP2.out
  generalize (w2.alloc (.cells #[.bool fin, .int .u8 op, .bool true, .int .u32 0, .slice none 0 0] 37)).drew = w3 at hB3 hP3 hH3 hF3 ⊢
  generalize w2.heap.size = gp at hF3 hgp ⊢
  clear HB2 HP2 HH2 h0 h1 h2 h3 hl
  have HB3 := Aside0.mk hB3
  have HP3 := Aside0.mk hP3
  have HF3 := Aside0.mk hF3
  clear hB3 hP3 hF3
  have h0 : w3.cell? ⟨gh, 0, none⟩ = some (.int .i64 6) := (blk_cell hH3 0).trans rfl
  have h1 : w3.cell? ⟨gh, 1, none⟩ = some (.int .i64 dd) := (blk_cell hH3 1).trans rfl
  have h2 : w3.cell? ⟨gh, 2, none⟩ = some (.int .i64 0) := (blk_cell hH3 2).trans rfl
  have h3 : w3.cell? ⟨gh, 3, none⟩ = some (.bool false) := (blk_cell hH3 3).trans rfl
  have hl := blk_lt hH3
  clear hH3
  go_wp2_with fail
  refine (louverref07_Value.calls k (s.extract 2 6) key _ HV.out).mono ?_
  rintro e w4 ⟨rfl, hdr⟩
  have hb := Drawn0.below hdr
  clear hdr h0 h1 h2 h3 hl
  have HB4 := Aside0.mk (below_step HB3.out hb)
  have HP4 := Aside0.mk (blk_below HP3.out hb)
  have HF4 := Aside0.mk (blk_below HF3.out hb)
  clear hb HB3 HP3 HF3
  have g0 : w4.cell? ⟨gp, 0, none⟩ = some (.bool fin) := (blk_cell HF4.out 0).trans rfl
  have gf0 := blk_frozen HF4.out 0
  have g1 : w4.cell? ⟨gp, 1, none⟩ = some (.int .u8 op) := (blk_cell HF4.out 1).trans rfl
  have gf1 := blk_frozen HF4.out 1
  have g2 : w4.cell? ⟨gp, 2, none⟩ = some (.bool true) := (blk_cell HF4.out 2).trans rfl
  have gf2 := blk_frozen HF4.out 2
  have g3 : w4.cell? ⟨gp, 3, none⟩ = some (.int .u32 0) := (blk_cell HF4.out 3).trans rfl
  have gf3 := blk_frozen HF4.out 3
  have g4 : w4.cell? ⟨gp, 4, none⟩ = some (.slice none 0 0) := (blk_cell HF4.out 4).trans rfl
  have gf4 := blk_frozen HF4.out 4
  have gl := blk_lt HF4.out
  go_wp2_with fail
  have hB5 : Below w.heap.size w (w4.setCell ⟨gp, 3, none⟩ (.int .u32 key)) := Below.setCell HB4.out (Nat.le_of_lt hgp) _
  have hP5 : (w4.setCell ⟨gp, 3, none⟩ (.int .u32 key)).heap[w.heap.size]? = some (.cells #[.bool false, .int .u8 0, .bool false, .int .u32 0, .slice none 0 0] 37 (0, 0)) := blk_far HP4.out (Nat.ne_of_lt hgp) _
  have hF5 : (w4.setCell ⟨gp, 3, none⟩ (.int .u32 key)).heap[gp]? = some (.cells #[.bool fin, .int .u8 op, .bool true, .int .u32 key, .slice none 0 0] 37 (0, 0)) := blk_put HF4.out 3 _ rfl
  generalize w4.setCell ⟨gp, 3, none⟩ (.int .u32 key) = w5 at hB5 hP5 hF5 ⊢
  clear HB4 HP4 HF4 g0 g1 g2 g3 g4 gf0 gf1 gf2 gf3 gf4 gl
  refine (louverref16_Turn.calls k D0 key D _ HT.out).mono ?_
  rintro e w6 ⟨rfl, hb⟩
  have HB6 := Aside0.mk (below_step hB5 hb)
  have HP6 := Aside0.mk (blk_below hP5 hb)
  have HF6 := Aside0.mk (blk_below hF5 hb)
  clear hb hB5 hP5 hF5
  have hbw : Below w6.heap.size w6 (Lib.bytesWorld w6 5 D) := bytes_below (Below.refl _ _) (Nat.le_refl _) _ _
  have hC7 : Kd.C (Kd.int .u8) (Lib.bytesWorld w6 5 D) (some ⟨w6.heap.size, 0, none⟩) r5.length r5 := by
    have h := bytes_reads w6 5 D (by rw [HD.out]; omega)
    rw [HD.out, HDb.out] at h
    exact Kd.C_of_reads (d := (0 : Int)) (h1 := fun _ => rfl) h
  have hB7 := below_step HB6.out hbw
  have hP7 := blk_below HP6.out hbw
  have hF7 := blk_below HF6.out hbw
  have hgd : gp < w6.heap.size := blk_lt HF6.out
  have hcap : r5.length ≤ grownCap w6 r5.length 0 5 := grownCap_ge _ _ _ _
  have HB7 := Aside0.mk hB7
  have HP7 := Aside0.mk hP7
  have HF7 := Aside0.mk hF7
  have HC7 := Aside0.mk hC7
  have HCAP := Aside0.mk hcap
  clear hbw hB7 hP7 hF7 hC7 hcap HB6 HP6 HF6
  have g0 : (Lib.bytesWorld w6 5 D).cell? ⟨gp, 0, none⟩ = some (.bool fin) := (blk_cell HF7.out 0).trans rfl
  have gf0 := blk_frozen HF7.out 0
  have g1 : (Lib.bytesWorld w6 5 D).cell? ⟨gp, 1, none⟩ = some (.int .u8 op) := (blk_cell HF7.out 1).trans rfl
  have gf1 := blk_frozen HF7.out 1
  have g2 : (Lib.bytesWorld w6 5 D).cell? ⟨gp, 2, none⟩ = some (.bool true) := (blk_cell HF7.out 2).trans rfl
  have gf2 := blk_frozen HF7.out 2
  have g3 : (Lib.bytesWorld w6 5 D).cell? ⟨gp, 3, none⟩ = some (.int .u32 key) := (blk_cell HF7.out 3).trans rfl
  have gf3 := blk_frozen HF7.out 3
  have g4 : (Lib.bytesWorld w6 5 D).cell? ⟨gp, 4, none⟩ = some (.slice none 0 0) := (blk_cell HF7.out 4).trans rfl
  have gf4 := blk_frozen HF7.out 4
  have gl := blk_lt HF7.out
  go_upto_region 12 with fail
  clear g0 g1 g2 g3 g4 gf0 gf1 gf2 gf3 gf4 gl
  have hB8 : Below w.heap.size w ((Lib.bytesWorld w6 5 D).setCell ⟨gp, 4, none⟩ (.slice (some ⟨w6.heap.size, 0, none⟩) r5.length (grownCap w6 r5.length 0 5))) := Below.setCell HB7.out (Nat.le_of_lt hgp) _
  have hP8 : ((Lib.bytesWorld w6 5 D).setCell ⟨gp, 4, none⟩ (.slice (some ⟨w6.heap.size, 0, none⟩) r5.length (grownCap w6 r5.length 0 5))).heap[w.heap.size]? = some (.cells #[.bool false, .int .u8 0, .bool false, .int .u32 0, .slice none 0 0] 37 (0, 0)) := blk_far HP7.out (Nat.ne_of_lt hgp) _
  have hF8 : ((Lib.bytesWorld w6 5 D).setCell ⟨gp, 4, none⟩ (.slice (some ⟨w6.heap.size, 0, none⟩) r5.length (grownCap w6 r5.length 0 5))).heap[gp]? = some (.cells #[.bool fin, .int .u8 op, .bool true, .int .u32 key, .slice (some ⟨w6.heap.size, 0, none⟩) r5.length (grownCap w6 r5.length 0 5)] 37 (0, 0)) := blk_put HF7.out 4 _ rfl
  have hC8 : Kd.C (Kd.int .u8) ((Lib.bytesWorld w6 5 D).setCell ⟨gp, 4, none⟩ (.slice (some ⟨w6.heap.size, 0, none⟩) r5.length (grownCap w6 r5.length 0 5))) (some ⟨w6.heap.size, 0, none⟩) r5.length r5 := C_block HC7.out (Below.heap_setCell _ _ _ _ (Nat.ne_of_gt hgd))
  generalize ((Lib.bytesWorld w6 5 D).setCell ⟨gp, 4, none⟩ (.slice (some ⟨w6.heap.size, 0, none⟩) r5.length (grownCap w6 r5.length 0 5))) = w8 at hB8 hP8 hF8 hC8 ⊢
  have hcap := HCAP.out
  generalize grownCap w6 r5.length 0 5 = cp at hF8 hcap ⊢
  generalize w6.heap.size = gd at hF8 hC8 hgd ⊢
  have HB8 := Aside0.mk hB8
  have HC8 := Aside0.mk hC8
  clear HB7 HP7 HF7 HC7 HCAP hB8 hC8 hcv
  have g0 : w8.cell? ⟨gp, 0, none⟩ = some (.bool fin) := (blk_cell hF8 0).trans rfl
  have g1 : w8.cell? ⟨gp, 1, none⟩ = some (.int .u8 op) := (blk_cell hF8 1).trans rfl
  have g2 : w8.cell? ⟨gp, 2, none⟩ = some (.bool true) := (blk_cell hF8 2).trans rfl
  have g3 : w8.cell? ⟨gp, 3, none⟩ = some (.int .u32 key) := (blk_cell hF8 3).trans rfl
  have g4 : w8.cell? ⟨gp, 4, none⟩ = some (.slice (some ⟨gd, 0, none⟩) r5.length cp) := (blk_cell hF8 4).trans rfl
  have gl := blk_lt hF8
  have p0 : w8.cell? ⟨w.heap.size, 0, none⟩ = some (.bool false) := (blk_cell hP8 0).trans rfl
  have pf0 := blk_frozen hP8 0
  have p1 : w8.cell? ⟨w.heap.size, 1, none⟩ = some (.int .u8 0) := (blk_cell hP8 1).trans rfl
  have pf1 := blk_frozen hP8 1
  have p2 : w8.cell? ⟨w.heap.size, 2, none⟩ = some (.bool false) := (blk_cell hP8 2).trans rfl
  have pf2 := blk_frozen hP8 2
  have p3 : w8.cell? ⟨w.heap.size, 3, none⟩ = some (.int .u32 0) := (blk_cell hP8 3).trans rfl
  have pf3 := blk_frozen hP8 3
  have p4 : w8.cell? ⟨w.heap.size, 4, none⟩ = some (.slice none 0 0) := (blk_cell hP8 4).trans rfl
  have pf4 := blk_frozen hP8 4
  have pl := blk_lt hP8
  clear hF8 hP8
  have hle : w.heap.size ≤ w.heap.size := Nat.le_refl _
  have hdn : gd ≠ w.heap.size := by omega
  go_wp2_with fail
  exact bodyPost_ret (v := .tuple #[.agg #[.bool fin, .int .u8 op, .bool true, .int .u32 key, .slice (some ⟨gd, 0, none⟩) r5.length cp], .int .i64 0]) (by simp [results, Tryd.results18, go_sem, p0, p1, p2, p3, p4]) rfl ⟨_, _, rfl, C_block HC8.out ((Below.heap_setCell _ _ _ _ hdn).trans ((Below.heap_setCell _ _ _ _ hdn).trans ((Below.heap_setCell _ _ _ _ hdn).trans ((Below.heap_setCell _ _ _ _ hdn).trans ((Below.heap_setCell _ _ _ _ hdn).trans (rfl)))))), hcap, Below.setCell (Below.setCell (Below.setCell (Below.setCell (Below.setCell HB8.out hle _) hle _) hle _) hle _) hle _⟩
set_option maxHeartbeats 8000000 in
set_option maxRecDepth 100000 in
theorem rget_ok_8 (k : Nat) (s D : ByteArray) (w : World) (dd t op key : Int) (fin : Bool) (r5 : List Int) (hsz : 8 ≤ s.size) (hs : IntKind.i64.wrap (8 + dd) = t) (hne : ((s.size : Int) != t) = false) (hf : decide (127 < bt s 0) = fin) (ho : Int.tmod (bt s 0) 16 = op) (hD : D.size = r5.length) (hDb : bytesOf D = r5) (hDl : r5.length ≤ 10000) (HR : Aside0 (louverref16_Head.f k s true = some (8, dd, 0, false))) (D0 : ByteArray) (hcut : s.extract 8 s.size = D0) (HV : Aside0 (louverref07_Value.f k (s.extract 4 8) = some key)) (HT : Aside0 (louverref16_Turn.f k D0 key = some D)) : Calls Tryd.prog 18 #[.string s, .bool true] w (RGetPost fin op true key r5 0 w) := by
  have hx : ∀ h : 0 < s.size, ((s[0]'h).toNat : Int) = bt s 0 := bt_at s 0
  have qi : (0 < (s.size : Int)) = True := eq_true (by omega)
  have qn : (0 < s.size) = True := eq_true (by omega)
  have p2 : (8 : Int) ≤ (s.size : Int) := by omega
  have hcv : ∀ W : World, (convert 9 23 (.string D)).run Tryd.prog W = .ok (.slice (some ⟨W.heap.size, 0, none⟩) r5.length (grownCap W r5.length 0 5)) (Lib.bytesWorld W 5 D) := fun W => by
    rw [← hD]
    exact print_bytes (P := Tryd.prog) 9 23 5 Tryd.underlying9 Tryd.underlying23 Tryd.underlying5 D W
  have HD := Aside0.mk hD
  have HDb := Aside0.mk hDb
  clear hD hDb
  have hu37 := Tryd.underlying37
  have hu30 := Tryd.underlying30
  go_enter Tryd.func18, Tryd.ntmps18
  go_wp2_with fail
  refine (louverref16_Head.calls k s true 8 dd 0 false _ HR.out).mono ?_
  rintro e w1 ⟨rfl, hb⟩
  have HB1 := Aside0.mk (below_step (below_alloc (Below.refl w.heap.size w) (.cells #[.bool false, .int .u8 0, .bool false, .int .u32 0, .slice none 0 0] 37)) hb)
  have HP1 : Aside0 (w1.heap[w.heap.size]? = some (.cells #[.bool false, .int .u8 0, .bool false, .int .u32 0, .slice none 0 0] 37 (0, 0))) := ⟨blk_below (last_at _ _ _ rfl) hb⟩
  clear hb
  go_upto_region 2 with fail
  have hB2 : Below w.heap.size w (w1.alloc (.cells #[.int .i64 8, .int .i64 dd, .int .i64 0, .bool false] 30)) := below_alloc HB1.out _
  have hP2 : (w1.alloc (.cells #[.int .i64 8, .int .i64 dd, .int .i64 0, .bool false] 30)).heap[w.heap.size]? = some (.cells #[.bool false, .int .u8 0, .bool false, .int .u32 0, .slice none 0 0] 37 (0, 0)) := blk_alloc HP1.out _
  have hH2 : (w1.alloc (.cells #[.int .i64 8, .int .i64 dd, .int .i64 0, .bool false] 30)).heap[w1.heap.size]? = some (.cells #[.int .i64 8, .int .i64 dd, .int .i64 0, .bool false] 30 (0, 0)) := last_at _ _ _ rfl
  have hgh : w.heap.size < w1.heap.size := blk_lt HP1.out
  generalize w1.alloc (.cells #[.int .i64 8, .int .i64 dd, .int .i64 0, .bool false] 30) = w2 at hB2 hP2 hH2 ⊢
  generalize w1.heap.size = gh at hgh hH2 ⊢
  have HB2 := Aside0.mk hB2
  have HP2 := Aside0.mk hP2
  have HH2 := Aside0.mk hH2
  clear hB2 hP2 hH2 HB1 HP1
  have h0 : w2.cell? ⟨gh, 0, none⟩ = some (.int .i64 8) := (blk_cell HH2.out 0).trans rfl
  have h1 : w2.cell? ⟨gh, 1, none⟩ = some (.int .i64 dd) := (blk_cell HH2.out 1).trans rfl
  have h2 : w2.cell? ⟨gh, 2, none⟩ = some (.int .i64 0) := (blk_cell HH2.out 2).trans rfl
  have h3 : w2.cell? ⟨gh, 3, none⟩ = some (.bool false) := (blk_cell HH2.out 3).trans rfl
  have hl := blk_lt HH2.out
  go_wp2_with fail
  go_region
  go_upto_region 7 with fail
  have hB3 : Below w.heap.size w (w2.alloc (.cells #[.bool fin, .int .u8 op, .bool true, .int .u32 0, .slice none 0 0] 37)).drew := below_drew (below_alloc HB2.out _)
  have hP3 : (w2.alloc (.cells #[.bool fin, .int .u8 op, .bool true, .int .u32 0, .slice none 0 0] 37)).drew.heap[w.heap.size]? = some (.cells #[.bool false, .int .u8 0, .bool false, .int .u32 0, .slice none 0 0] 37 (0, 0)) := blk_drew (blk_alloc HP2.out _)
  have hH3 : (w2.alloc (.cells #[.bool fin, .int .u8 op, .bool true, .int .u32 0, .slice none 0 0] 37)).drew.heap[gh]? = some (.cells #[.int .i64 8, .int .i64 dd, .int .i64 0, .bool false] 30 (0, 0)) := blk_drew (blk_alloc HH2.out _)
  have hF3 : (w2.alloc (.cells #[.bool fin, .int .u8 op, .bool true, .int .u32 0, .slice none 0 0] 37)).drew.heap[w2.heap.size]? = some (.cells #[.bool fin, .int .u8 op, .bool true, .int .u32 0, .slice none 0 0] 37 (0, 0)) := blk_drew (last_at _ _ _ rfl)
  have hgp : w.heap.size < w2.heap.size := blk_lt HP2.out
  generalize (w2.alloc (.cells #[.bool fin, .int .u8 op, .bool true, .int .u32 0, .slice none 0 0] 37)).drew = w3 at hB3 hP3 hH3 hF3 ⊢
  generalize w2.heap.size = gp at hF3 hgp ⊢
  clear HB2 HP2 HH2 h0 h1 h2 h3 hl
  have HB3 := Aside0.mk hB3
  have HP3 := Aside0.mk hP3
  have HF3 := Aside0.mk hF3
  clear hB3 hP3 hF3
  have h0 : w3.cell? ⟨gh, 0, none⟩ = some (.int .i64 8) := (blk_cell hH3 0).trans rfl
  have h1 : w3.cell? ⟨gh, 1, none⟩ = some (.int .i64 dd) := (blk_cell hH3 1).trans rfl
  have h2 : w3.cell? ⟨gh, 2, none⟩ = some (.int .i64 0) := (blk_cell hH3 2).trans rfl
  have h3 : w3.cell? ⟨gh, 3, none⟩ = some (.bool false) := (blk_cell hH3 3).trans rfl
  have hl := blk_lt hH3
  clear hH3
  go_wp2_with fail
  refine (louverref07_Value.calls k (s.extract 4 8) key _ HV.out).mono ?_
  rintro e w4 ⟨rfl, hdr⟩
  have hb := Drawn0.below hdr
  clear hdr h0 h1 h2 h3 hl
  have HB4 := Aside0.mk (below_step HB3.out hb)
  have HP4 := Aside0.mk (blk_below HP3.out hb)
  have HF4 := Aside0.mk (blk_below HF3.out hb)
  clear hb HB3 HP3 HF3
  have g0 : w4.cell? ⟨gp, 0, none⟩ = some (.bool fin) := (blk_cell HF4.out 0).trans rfl
  have gf0 := blk_frozen HF4.out 0
  have g1 : w4.cell? ⟨gp, 1, none⟩ = some (.int .u8 op) := (blk_cell HF4.out 1).trans rfl
  have gf1 := blk_frozen HF4.out 1
  have g2 : w4.cell? ⟨gp, 2, none⟩ = some (.bool true) := (blk_cell HF4.out 2).trans rfl
  have gf2 := blk_frozen HF4.out 2
  have g3 : w4.cell? ⟨gp, 3, none⟩ = some (.int .u32 0) := (blk_cell HF4.out 3).trans rfl
  have gf3 := blk_frozen HF4.out 3
  have g4 : w4.cell? ⟨gp, 4, none⟩ = some (.slice none 0 0) := (blk_cell HF4.out 4).trans rfl
  have gf4 := blk_frozen HF4.out 4
  have gl := blk_lt HF4.out
  go_wp2_with fail
  have hB5 : Below w.heap.size w (w4.setCell ⟨gp, 3, none⟩ (.int .u32 key)) := Below.setCell HB4.out (Nat.le_of_lt hgp) _
  have hP5 : (w4.setCell ⟨gp, 3, none⟩ (.int .u32 key)).heap[w.heap.size]? = some (.cells #[.bool false, .int .u8 0, .bool false, .int .u32 0, .slice none 0 0] 37 (0, 0)) := blk_far HP4.out (Nat.ne_of_lt hgp) _
  have hF5 : (w4.setCell ⟨gp, 3, none⟩ (.int .u32 key)).heap[gp]? = some (.cells #[.bool fin, .int .u8 op, .bool true, .int .u32 key, .slice none 0 0] 37 (0, 0)) := blk_put HF4.out 3 _ rfl
  generalize w4.setCell ⟨gp, 3, none⟩ (.int .u32 key) = w5 at hB5 hP5 hF5 ⊢
  clear HB4 HP4 HF4 g0 g1 g2 g3 g4 gf0 gf1 gf2 gf3 gf4 gl
  refine (louverref16_Turn.calls k D0 key D _ HT.out).mono ?_
  rintro e w6 ⟨rfl, hb⟩
  have HB6 := Aside0.mk (below_step hB5 hb)
  have HP6 := Aside0.mk (blk_below hP5 hb)
  have HF6 := Aside0.mk (blk_below hF5 hb)
  clear hb hB5 hP5 hF5
  have hbw : Below w6.heap.size w6 (Lib.bytesWorld w6 5 D) := bytes_below (Below.refl _ _) (Nat.le_refl _) _ _
  have hC7 : Kd.C (Kd.int .u8) (Lib.bytesWorld w6 5 D) (some ⟨w6.heap.size, 0, none⟩) r5.length r5 := by
    have h := bytes_reads w6 5 D (by rw [HD.out]; omega)
    rw [HD.out, HDb.out] at h
    exact Kd.C_of_reads (d := (0 : Int)) (h1 := fun _ => rfl) h
  have hB7 := below_step HB6.out hbw
  have hP7 := blk_below HP6.out hbw
  have hF7 := blk_below HF6.out hbw
  have hgd : gp < w6.heap.size := blk_lt HF6.out
  have hcap : r5.length ≤ grownCap w6 r5.length 0 5 := grownCap_ge _ _ _ _
  have HB7 := Aside0.mk hB7
  have HP7 := Aside0.mk hP7
  have HF7 := Aside0.mk hF7
  have HC7 := Aside0.mk hC7
  have HCAP := Aside0.mk hcap
  clear hbw hB7 hP7 hF7 hC7 hcap HB6 HP6 HF6
  have g0 : (Lib.bytesWorld w6 5 D).cell? ⟨gp, 0, none⟩ = some (.bool fin) := (blk_cell HF7.out 0).trans rfl
  have gf0 := blk_frozen HF7.out 0
  have g1 : (Lib.bytesWorld w6 5 D).cell? ⟨gp, 1, none⟩ = some (.int .u8 op) := (blk_cell HF7.out 1).trans rfl
  have gf1 := blk_frozen HF7.out 1
  have g2 : (Lib.bytesWorld w6 5 D).cell? ⟨gp, 2, none⟩ = some (.bool true) := (blk_cell HF7.out 2).trans rfl
  have gf2 := blk_frozen HF7.out 2
  have g3 : (Lib.bytesWorld w6 5 D).cell? ⟨gp, 3, none⟩ = some (.int .u32 key) := (blk_cell HF7.out 3).trans rfl
  have gf3 := blk_frozen HF7.out 3
  have g4 : (Lib.bytesWorld w6 5 D).cell? ⟨gp, 4, none⟩ = some (.slice none 0 0) := (blk_cell HF7.out 4).trans rfl
  have gf4 := blk_frozen HF7.out 4
  have gl := blk_lt HF7.out
  go_upto_region 12 with fail
  clear g0 g1 g2 g3 g4 gf0 gf1 gf2 gf3 gf4 gl
  have hB8 : Below w.heap.size w ((Lib.bytesWorld w6 5 D).setCell ⟨gp, 4, none⟩ (.slice (some ⟨w6.heap.size, 0, none⟩) r5.length (grownCap w6 r5.length 0 5))) := Below.setCell HB7.out (Nat.le_of_lt hgp) _
  have hP8 : ((Lib.bytesWorld w6 5 D).setCell ⟨gp, 4, none⟩ (.slice (some ⟨w6.heap.size, 0, none⟩) r5.length (grownCap w6 r5.length 0 5))).heap[w.heap.size]? = some (.cells #[.bool false, .int .u8 0, .bool false, .int .u32 0, .slice none 0 0] 37 (0, 0)) := blk_far HP7.out (Nat.ne_of_lt hgp) _
  have hF8 : ((Lib.bytesWorld w6 5 D).setCell ⟨gp, 4, none⟩ (.slice (some ⟨w6.heap.size, 0, none⟩) r5.length (grownCap w6 r5.length 0 5))).heap[gp]? = some (.cells #[.bool fin, .int .u8 op, .bool true, .int .u32 key, .slice (some ⟨w6.heap.size, 0, none⟩) r5.length (grownCap w6 r5.length 0 5)] 37 (0, 0)) := blk_put HF7.out 4 _ rfl
  have hC8 : Kd.C (Kd.int .u8) ((Lib.bytesWorld w6 5 D).setCell ⟨gp, 4, none⟩ (.slice (some ⟨w6.heap.size, 0, none⟩) r5.length (grownCap w6 r5.length 0 5))) (some ⟨w6.heap.size, 0, none⟩) r5.length r5 := C_block HC7.out (Below.heap_setCell _ _ _ _ (Nat.ne_of_gt hgd))
  generalize ((Lib.bytesWorld w6 5 D).setCell ⟨gp, 4, none⟩ (.slice (some ⟨w6.heap.size, 0, none⟩) r5.length (grownCap w6 r5.length 0 5))) = w8 at hB8 hP8 hF8 hC8 ⊢
  have hcap := HCAP.out
  generalize grownCap w6 r5.length 0 5 = cp at hF8 hcap ⊢
  generalize w6.heap.size = gd at hF8 hC8 hgd ⊢
  have HB8 := Aside0.mk hB8
  have HC8 := Aside0.mk hC8
  clear HB7 HP7 HF7 HC7 HCAP hB8 hC8 hcv
  have g0 : w8.cell? ⟨gp, 0, none⟩ = some (.bool fin) := (blk_cell hF8 0).trans rfl
  have g1 : w8.cell? ⟨gp, 1, none⟩ = some (.int .u8 op) := (blk_cell hF8 1).trans rfl
  have g2 : w8.cell? ⟨gp, 2, none⟩ = some (.bool true) := (blk_cell hF8 2).trans rfl
  have g3 : w8.cell? ⟨gp, 3, none⟩ = some (.int .u32 key) := (blk_cell hF8 3).trans rfl
  have g4 : w8.cell? ⟨gp, 4, none⟩ = some (.slice (some ⟨gd, 0, none⟩) r5.length cp) := (blk_cell hF8 4).trans rfl
  have gl := blk_lt hF8
  have p0 : w8.cell? ⟨w.heap.size, 0, none⟩ = some (.bool false) := (blk_cell hP8 0).trans rfl
  have pf0 := blk_frozen hP8 0
  have p1 : w8.cell? ⟨w.heap.size, 1, none⟩ = some (.int .u8 0) := (blk_cell hP8 1).trans rfl
  have pf1 := blk_frozen hP8 1
  have p2 : w8.cell? ⟨w.heap.size, 2, none⟩ = some (.bool false) := (blk_cell hP8 2).trans rfl
  have pf2 := blk_frozen hP8 2
  have p3 : w8.cell? ⟨w.heap.size, 3, none⟩ = some (.int .u32 0) := (blk_cell hP8 3).trans rfl
  have pf3 := blk_frozen hP8 3
  have p4 : w8.cell? ⟨w.heap.size, 4, none⟩ = some (.slice none 0 0) := (blk_cell hP8 4).trans rfl
  have pf4 := blk_frozen hP8 4
  have pl := blk_lt hP8
  clear hF8 hP8
  have hle : w.heap.size ≤ w.heap.size := Nat.le_refl _
  have hdn : gd ≠ w.heap.size := by omega
  go_wp2_with fail
  exact bodyPost_ret (v := .tuple #[.agg #[.bool fin, .int .u8 op, .bool true, .int .u32 key, .slice (some ⟨gd, 0, none⟩) r5.length cp], .int .i64 0]) (by simp [results, Tryd.results18, go_sem, p0, p1, p2, p3, p4]) rfl ⟨_, _, rfl, C_block HC8.out ((Below.heap_setCell _ _ _ _ hdn).trans ((Below.heap_setCell _ _ _ _ hdn).trans ((Below.heap_setCell _ _ _ _ hdn).trans ((Below.heap_setCell _ _ _ _ hdn).trans ((Below.heap_setCell _ _ _ _ hdn).trans (rfl)))))), hcap, Below.setCell (Below.setCell (Below.setCell (Below.setCell (Below.setCell HB8.out hle _) hle _) hle _) hle _) hle _⟩
end Go.Proofs.YtabpngcjlikpkaaDoor
