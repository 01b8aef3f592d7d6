/- What the law's row rests on, part 10. -/
import Derived.Test.YtkhlldhcmgkioaaDoorZ9
import Derived.Deep.RegionHeld3
/- louverref16.Get by its contracts: one for each way. -/
namespace Go.Proofs.YtkhlldhcmgkioaaDoor
open Go.RowKit Go.Proofs.YtkhlldhcmgkioaaDoorW.PrintWords Go.Proofs.YtkhlldhcmgkioaaDoorW.PrintLast Go.Proofs.YtkhlldhcmgkioaaDoorW.PrintMore Go.Proofs.YtkhlldhcmgkioaaDoor.PAll
set_option linter.unusedVariables false
theorem C_block {k : IntKind} {W W' : World} {g n : Nat} {xs : List Int} (h : Kd.C (Kd.int k) W (some ⟨g, 0, none⟩) n xs) (hb : W'.heap[g]? = W.heap[g]?) : Kd.C (Kd.int k) W' (some ⟨g, 0, none⟩) n xs := by
  have hr : ReadsInt W k (some ⟨g, 0, none⟩) n xs := Kd.reads_of_C h
  refine Kd.C_of_reads (d := (0 : Int)) (h1 := fun _ => rfl) ⟨hr.1, hr.2.1, fun hp => ?_⟩
  obtain ⟨ad, e, hc⟩ := hr.2.2 hp
  injection e with e
  subst e
  refine ⟨_, rfl, fun j hj => ?_⟩
  have := hc j hj
  rw [add_plain] at this ⊢
  rw [show W'.cell? ⟨g, j, none⟩ = W.cell? ⟨g, j, none⟩ by simp only [World.cell?, hb]]
  exact this
theorem setCell_typed {W : World} {p : Addr} {v : Value} {k t : Nat} (h : ∃ cells fr, W.heap[k]? = some (.cells cells t fr)) : ∃ cells fr, (W.setCell p v).heap[k]? = some (.cells cells t fr) := by
  obtain ⟨c, fr, h⟩ := h
  by_cases e : k = p.block
  · subst e
    refine ⟨if p.spot.isSome then c else c.setIfInBounds p.off v, fr, ?_⟩
    simp only [World.setCell, Array.getElem?_modify, if_pos, h, Option.map_some]
  · exact ⟨c, fr, (Below.heap_setCell W p v k e).trans h⟩
theorem bytes_typed (W : World) (e : TypeId) (s : ByteArray) : ∃ cells fr, (Lib.bytesWorld W e s).heap[W.heap.size]? = some (.cells cells e fr) := by
  have h : (W.drew.alloc (.cells (Lib.bytesCells W e s) e)).heap[W.heap.size]? = some (.cells (Lib.bytesCells W e s) e (0, 0)) := blk_new W.drew _
  unfold Lib.bytesWorld World.freeze
  rw [if_neg (by decide)]
  refine ⟨Lib.bytesCells W e s, if (0 == 0) = true then ((Lib.bytesCells W e s).size, (Lib.bytesCells W e s).size + 1) else (min 0 (Lib.bytesCells W e s).size, max 0 ((Lib.bytesCells W e s).size + 1)), ?_⟩
  simp only [Array.getElem?_modify, if_pos, h, Option.map_some]
def RGetPost (r1 : Bool) (r2 : Int) (r3 : Bool) (r4 : Int) (r5 : List Int) (code : Int) (w : World) (e : Ending) (w' : World) : Prop := ∃ A c, e = .returned (.tuple #[.agg #[.bool r1, .int .u8 r2, .bool r3, .int .u32 r4, .slice A r5.length c], .int .i64 code]) ∧ Kd.C (Kd.int .u8) w' A r5.length r5 ∧ r5.length ≤ c ∧ Below w.heap.size w w' ∧ ∀ ad, A = some ad → ∃ cells fr, w'.heap[ad.block]? = some (.cells cells 5 fr)
theorem RGetPost.zero {code : Int} {w w' : World} (hb : Below w.heap.size w w') : RGetPost false 0 false 0 [] code w (.returned (.tuple #[.agg #[.bool false, .int .u8 0, .bool false, .int .u32 0, .slice none 0 0], .int .i64 code])) w' := ⟨none, 0, rfl, ⟨rfl, by decide, fun h => by simp at h⟩, Nat.le_refl _, hb, fun ad e => by cases e⟩
set_option maxHeartbeats 8000000 in
set_option maxRecDepth 100000 in
theorem rget_ok_2 (k : Nat) (s D : ByteArray) (w : World) (dd t op key : Int) (fin : Bool) (r5 : List Int) (hsz : 2 ≤ s.size) (hs : IntKind.i64.wrap (2 + dd) = t) (hne : ((s.size : Int) != t) = false) (hf : decide (127 < bt s 0) = fin) (ho : Int.tmod (bt s 0) 16 = op) (hD : D.size = r5.length) (hDb : bytesOf D = r5) (hDl : r5.length ≤ 10000) (HR : Aside0 (louverref16_Head.f k s false = some (2, dd, 0, false))) (hcut : s.extract 2 s.size = D) (h0k : key = 0) : Calls Tryd.prog 21 #[.string s, .bool false] w (RGetPost fin op false key r5 0 w) := by
  subst h0k
  have hx : ∀ h : 0 < s.size, ((s[0]'h).toNat : Int) = bt s 0 := bt_at s 0
  have qi : (0 < (s.size : Int)) = True := eq_true (by omega)
  have qn : (0 < s.size) = True := eq_true (by omega)
  have p2 : (2 : Int) ≤ (s.size : Int) := by omega
  have hcv : ∀ W : World, (convert 9 22 (.string D)).run Tryd.prog W = .ok (.slice (some ⟨W.heap.size, 0, none⟩) r5.length (grownCap W r5.length 0 5)) (Lib.bytesWorld W 5 D) := fun W => by
    rw [← hD]
    exact print_bytes (P := Tryd.prog) 9 22 5 Tryd.underlying9 Tryd.underlying22 Tryd.underlying5 D W
  have HD := Aside0.mk hD
  have HDb := Aside0.mk hDb
  clear hD hDb
  have hu37 := Tryd.underlying31
  have hu30 := Tryd.underlying54
  go_enter Tryd.func21, Tryd.ntmps21
  go_wp2_with fail
  refine (louverref16_Head.calls k s false 2 dd 0 false _ HR.out).mono ?_
  rintro e w1 ⟨rfl, hb⟩
  have HB1 := Aside0.mk (below_step (below_alloc (Below.refl w.heap.size w) (.cells #[.bool false, .int .u8 0, .bool false, .int .u32 0, .slice none 0 0] 31)) hb)
  have HP1 : Aside0 (w1.heap[w.heap.size]? = some (.cells #[.bool false, .int .u8 0, .bool false, .int .u32 0, .slice none 0 0] 31 (0, 0))) := ⟨blk_below (last_at _ _ _ rfl) hb⟩
  clear hb
  go_upto_region 2 with fail
  have hB2 : Below w.heap.size w (w1.alloc (.cells #[.int .i64 2, .int .i64 dd, .int .i64 0, .bool false] 54)) := below_alloc HB1.out _
  have hP2 : (w1.alloc (.cells #[.int .i64 2, .int .i64 dd, .int .i64 0, .bool false] 54)).heap[w.heap.size]? = some (.cells #[.bool false, .int .u8 0, .bool false, .int .u32 0, .slice none 0 0] 31 (0, 0)) := blk_alloc HP1.out _
  have hH2 : (w1.alloc (.cells #[.int .i64 2, .int .i64 dd, .int .i64 0, .bool false] 54)).heap[w1.heap.size]? = some (.cells #[.int .i64 2, .int .i64 dd, .int .i64 0, .bool false] 54 (0, 0)) := last_at _ _ _ rfl
  have hgh : w.heap.size < w1.heap.size := blk_lt HP1.out
  generalize w1.alloc (.cells #[.int .i64 2, .int .i64 dd, .int .i64 0, .bool false] 54) = w2 at hB2 hP2 hH2 ⊢
  generalize w1.heap.size = gh at hgh hH2 ⊢
  have HB2 := Aside0.mk hB2
  have HP2 := Aside0.mk hP2
  have HH2 := Aside0.mk hH2
  clear hB2 hP2 hH2 HB1 HP1
  have h0 : w2.cell? ⟨gh, 0, none⟩ = some (.int .i64 2) := (blk_cell HH2.out 0).trans rfl
  have h1 : w2.cell? ⟨gh, 1, none⟩ = some (.int .i64 dd) := (blk_cell HH2.out 1).trans rfl
  have h2 : w2.cell? ⟨gh, 2, none⟩ = some (.int .i64 0) := (blk_cell HH2.out 2).trans rfl
  have h3 : w2.cell? ⟨gh, 3, none⟩ = some (.bool false) := (blk_cell HH2.out 3).trans rfl
  have hl := blk_lt HH2.out
  go_wp2_with fail
  go_region
  go_upto_region 7 with fail
  have hB3 : Below w.heap.size w (w2.alloc (.cells #[.bool fin, .int .u8 op, .bool false, .int .u32 0, .slice none 0 0] 31)).drew := below_drew (below_alloc HB2.out _)
  have hP3 : (w2.alloc (.cells #[.bool fin, .int .u8 op, .bool false, .int .u32 0, .slice none 0 0] 31)).drew.heap[w.heap.size]? = some (.cells #[.bool false, .int .u8 0, .bool false, .int .u32 0, .slice none 0 0] 31 (0, 0)) := blk_drew (blk_alloc HP2.out _)
  have hH3 : (w2.alloc (.cells #[.bool fin, .int .u8 op, .bool false, .int .u32 0, .slice none 0 0] 31)).drew.heap[gh]? = some (.cells #[.int .i64 2, .int .i64 dd, .int .i64 0, .bool false] 54 (0, 0)) := blk_drew (blk_alloc HH2.out _)
  have hF3 : (w2.alloc (.cells #[.bool fin, .int .u8 op, .bool false, .int .u32 0, .slice none 0 0] 31)).drew.heap[w2.heap.size]? = some (.cells #[.bool fin, .int .u8 op, .bool false, .int .u32 0, .slice none 0 0] 31 (0, 0)) := blk_drew (last_at _ _ _ rfl)
  have hgp : w.heap.size < w2.heap.size := blk_lt HP2.out
  generalize (w2.alloc (.cells #[.bool fin, .int .u8 op, .bool false, .int .u32 0, .slice none 0 0] 31)).drew = w3 at hB3 hP3 hH3 hF3 ⊢
  generalize w2.heap.size = gp at hF3 hgp ⊢
  clear HB2 HP2 HH2 h0 h1 h2 h3 hl
  have HB3 := Aside0.mk hB3
  have HP3 := Aside0.mk hP3
  have HF3 := Aside0.mk hF3
  clear hB3 hP3 hF3
  have h0 : w3.cell? ⟨gh, 0, none⟩ = some (.int .i64 2) := (blk_cell hH3 0).trans rfl
  have h1 : w3.cell? ⟨gh, 1, none⟩ = some (.int .i64 dd) := (blk_cell hH3 1).trans rfl
  have h2 : w3.cell? ⟨gh, 2, none⟩ = some (.int .i64 0) := (blk_cell hH3 2).trans rfl
  have h3 : w3.cell? ⟨gh, 3, none⟩ = some (.bool false) := (blk_cell hH3 3).trans rfl
  have hl := blk_lt hH3
  clear hH3
  have hbw : Below w3.heap.size w3 (Lib.bytesWorld w3 5 D) := bytes_below (Below.refl _ _) (Nat.le_refl _) _ _
  have hC7 : Kd.C (Kd.int .u8) (Lib.bytesWorld w3 5 D) (some ⟨w3.heap.size, 0, none⟩) r5.length r5 := by
    have h := bytes_reads w3 5 D (by rw [HD.out]; omega)
    rw [HD.out, HDb.out] at h
    exact Kd.C_of_reads (d := (0 : Int)) (h1 := fun _ => rfl) h
  have hB7 := below_step HB3.out hbw
  have hP7 := blk_below HP3.out hbw
  have hF7 := blk_below HF3.out hbw
  have hgd : gp < w3.heap.size := blk_lt HF3.out
  have hcap : r5.length ≤ grownCap w3 r5.length 0 5 := grownCap_ge _ _ _ _
  have HB7 := Aside0.mk hB7
  have HP7 := Aside0.mk hP7
  have HF7 := Aside0.mk hF7
  have HC7 := Aside0.mk hC7
  have HCAP := Aside0.mk hcap
  clear hbw hB7 hP7 hF7 hC7 hcap HB3 HP3 HF3
  have g0 : (Lib.bytesWorld w3 5 D).cell? ⟨gp, 0, none⟩ = some (.bool fin) := (blk_cell HF7.out 0).trans rfl
  have gf0 := blk_frozen HF7.out 0
  have g1 : (Lib.bytesWorld w3 5 D).cell? ⟨gp, 1, none⟩ = some (.int .u8 op) := (blk_cell HF7.out 1).trans rfl
  have gf1 := blk_frozen HF7.out 1
  have g2 : (Lib.bytesWorld w3 5 D).cell? ⟨gp, 2, none⟩ = some (.bool false) := (blk_cell HF7.out 2).trans rfl
  have gf2 := blk_frozen HF7.out 2
  have g3 : (Lib.bytesWorld w3 5 D).cell? ⟨gp, 3, none⟩ = some (.int .u32 0) := (blk_cell HF7.out 3).trans rfl
  have gf3 := blk_frozen HF7.out 3
  have g4 : (Lib.bytesWorld w3 5 D).cell? ⟨gp, 4, none⟩ = some (.slice none 0 0) := (blk_cell HF7.out 4).trans rfl
  have gf4 := blk_frozen HF7.out 4
  have gl := blk_lt HF7.out
  go_upto_region 12 with fail
  clear g0 g1 g2 g3 g4 gf0 gf1 gf2 gf3 gf4 gl
  have hT8 := setCell_typed (p := ⟨gp, 4, none⟩) (v := (.slice (some ⟨w3.heap.size, 0, none⟩) r5.length (grownCap w3 r5.length 0 5))) (bytes_typed w3 5 D)
  have hB8 : Below w.heap.size w ((Lib.bytesWorld w3 5 D).setCell ⟨gp, 4, none⟩ (.slice (some ⟨w3.heap.size, 0, none⟩) r5.length (grownCap w3 r5.length 0 5))) := Below.setCell HB7.out (Nat.le_of_lt hgp) _
  have hP8 : ((Lib.bytesWorld w3 5 D).setCell ⟨gp, 4, none⟩ (.slice (some ⟨w3.heap.size, 0, none⟩) r5.length (grownCap w3 r5.length 0 5))).heap[w.heap.size]? = some (.cells #[.bool false, .int .u8 0, .bool false, .int .u32 0, .slice none 0 0] 31 (0, 0)) := blk_far HP7.out (Nat.ne_of_lt hgp) _
  have hF8 : ((Lib.bytesWorld w3 5 D).setCell ⟨gp, 4, none⟩ (.slice (some ⟨w3.heap.size, 0, none⟩) r5.length (grownCap w3 r5.length 0 5))).heap[gp]? = some (.cells #[.bool fin, .int .u8 op, .bool false, .int .u32 0, .slice (some ⟨w3.heap.size, 0, none⟩) r5.length (grownCap w3 r5.length 0 5)] 31 (0, 0)) := blk_put HF7.out 4 _ rfl
  have hC8 : Kd.C (Kd.int .u8) ((Lib.bytesWorld w3 5 D).setCell ⟨gp, 4, none⟩ (.slice (some ⟨w3.heap.size, 0, none⟩) r5.length (grownCap w3 r5.length 0 5))) (some ⟨w3.heap.size, 0, none⟩) r5.length r5 := C_block HC7.out (Below.heap_setCell _ _ _ _ (Nat.ne_of_gt hgd))
  generalize ((Lib.bytesWorld w3 5 D).setCell ⟨gp, 4, none⟩ (.slice (some ⟨w3.heap.size, 0, none⟩) r5.length (grownCap w3 r5.length 0 5))) = w8 at hB8 hP8 hF8 hC8 hT8 ⊢
  have hcap := HCAP.out
  generalize grownCap w3 r5.length 0 5 = cp at hF8 hcap ⊢
  generalize w3.heap.size = gd at hF8 hC8 hT8 hgd ⊢
  have HB8 := Aside0.mk hB8
  have HC8 := Aside0.mk hC8
  have HT8 := Aside0.mk hT8
  clear HB7 HP7 HF7 HC7 HCAP hB8 hC8 hT8 hcv
  have g0 : w8.cell? ⟨gp, 0, none⟩ = some (.bool fin) := (blk_cell hF8 0).trans rfl
  have g1 : w8.cell? ⟨gp, 1, none⟩ = some (.int .u8 op) := (blk_cell hF8 1).trans rfl
  have g2 : w8.cell? ⟨gp, 2, none⟩ = some (.bool false) := (blk_cell hF8 2).trans rfl
  have g3 : w8.cell? ⟨gp, 3, none⟩ = some (.int .u32 0) := (blk_cell hF8 3).trans rfl
  have g4 : w8.cell? ⟨gp, 4, none⟩ = some (.slice (some ⟨gd, 0, none⟩) r5.length cp) := (blk_cell hF8 4).trans rfl
  have gl := blk_lt hF8
  have p0 : w8.cell? ⟨w.heap.size, 0, none⟩ = some (.bool false) := (blk_cell hP8 0).trans rfl
  have pf0 := blk_frozen hP8 0
  have p1 : w8.cell? ⟨w.heap.size, 1, none⟩ = some (.int .u8 0) := (blk_cell hP8 1).trans rfl
  have pf1 := blk_frozen hP8 1
  have p2 : w8.cell? ⟨w.heap.size, 2, none⟩ = some (.bool false) := (blk_cell hP8 2).trans rfl
  have pf2 := blk_frozen hP8 2
  have p3 : w8.cell? ⟨w.heap.size, 3, none⟩ = some (.int .u32 0) := (blk_cell hP8 3).trans rfl
  have pf3 := blk_frozen hP8 3
  have p4 : w8.cell? ⟨w.heap.size, 4, none⟩ = some (.slice none 0 0) := (blk_cell hP8 4).trans rfl
  have pf4 := blk_frozen hP8 4
  have pl := blk_lt hP8
  clear hF8 hP8
  have hle : w.heap.size ≤ w.heap.size := Nat.le_refl _
  have hdn : gd ≠ w.heap.size := by omega
  clear h0 h1 h2 h3 hl
  go_wp2_with fail
  exact bodyPost_ret (v := .tuple #[.agg #[.bool fin, .int .u8 op, .bool false, .int .u32 0, .slice (some ⟨gd, 0, none⟩) r5.length cp], .int .i64 0]) (by simp [results, Tryd.results21, go_sem, p0, p1, p2, p3, p4]) rfl ⟨_, _, rfl, C_block HC8.out ((Below.heap_setCell _ _ _ _ hdn).trans ((Below.heap_setCell _ _ _ _ hdn).trans ((Below.heap_setCell _ _ _ _ hdn).trans ((Below.heap_setCell _ _ _ _ hdn).trans ((Below.heap_setCell _ _ _ _ hdn).trans (rfl)))))), hcap, Below.setCell (Below.setCell (Below.setCell (Below.setCell (Below.setCell HB8.out hle _) hle _) hle _) hle _) hle _, fun ad ea => by
    injection ea with ea
    subst ea
    exact setCell_typed (setCell_typed (setCell_typed (setCell_typed (setCell_typed HT8.out))))⟩
set_option maxHeartbeats 8000000 in
set_option maxRecDepth 100000 in
theorem rget_ok_4 (k : Nat) (s D : ByteArray) (w : World) (dd t op key : Int) (fin : Bool) (r5 : List Int) (hsz : 4 ≤ s.size) (hs : IntKind.i64.wrap (4 + dd) = t) (hne : ((s.size : Int) != t) = false) (hf : decide (127 < bt s 0) = fin) (ho : Int.tmod (bt s 0) 16 = op) (hD : D.size = r5.length) (hDb : bytesOf D = r5) (hDl : r5.length ≤ 10000) (HR : Aside0 (louverref16_Head.f k s false = some (4, dd, 0, false))) (hcut : s.extract 4 s.size = D) (h0k : key = 0) : Calls Tryd.prog 21 #[.string s, .bool false] w (RGetPost fin op false key r5 0 w) := by
  subst h0k
  have hx : ∀ h : 0 < s.size, ((s[0]'h).toNat : Int) = bt s 0 := bt_at s 0
  have qi : (0 < (s.size : Int)) = True := eq_true (by omega)
  have qn : (0 < s.size) = True := eq_true (by omega)
  have p2 : (4 : Int) ≤ (s.size : Int) := by omega
  have hcv : ∀ W : World, (convert 9 22 (.string D)).run Tryd.prog W = .ok (.slice (some ⟨W.heap.size, 0, none⟩) r5.length (grownCap W r5.length 0 5)) (Lib.bytesWorld W 5 D) := fun W => by
    rw [← hD]
    exact print_bytes (P := Tryd.prog) 9 22 5 Tryd.underlying9 Tryd.underlying22 Tryd.underlying5 D W
  have HD := Aside0.mk hD
  have HDb := Aside0.mk hDb
  clear hD hDb
  have hu37 := Tryd.underlying31
  have hu30 := Tryd.underlying54
  go_enter Tryd.func21, Tryd.ntmps21
  go_wp2_with fail
  refine (louverref16_Head.calls k s false 4 dd 0 false _ HR.out).mono ?_
  rintro e w1 ⟨rfl, hb⟩
  have HB1 := Aside0.mk (below_step (below_alloc (Below.refl w.heap.size w) (.cells #[.bool false, .int .u8 0, .bool false, .int .u32 0, .slice none 0 0] 31)) hb)
  have HP1 : Aside0 (w1.heap[w.heap.size]? = some (.cells #[.bool false, .int .u8 0, .bool false, .int .u32 0, .slice none 0 0] 31 (0, 0))) := ⟨blk_below (last_at _ _ _ rfl) hb⟩
  clear hb
  go_upto_region 2 with fail
  have hB2 : Below w.heap.size w (w1.alloc (.cells #[.int .i64 4, .int .i64 dd, .int .i64 0, .bool false] 54)) := below_alloc HB1.out _
  have hP2 : (w1.alloc (.cells #[.int .i64 4, .int .i64 dd, .int .i64 0, .bool false] 54)).heap[w.heap.size]? = some (.cells #[.bool false, .int .u8 0, .bool false, .int .u32 0, .slice none 0 0] 31 (0, 0)) := blk_alloc HP1.out _
  have hH2 : (w1.alloc (.cells #[.int .i64 4, .int .i64 dd, .int .i64 0, .bool false] 54)).heap[w1.heap.size]? = some (.cells #[.int .i64 4, .int .i64 dd, .int .i64 0, .bool false] 54 (0, 0)) := last_at _ _ _ rfl
  have hgh : w.heap.size < w1.heap.size := blk_lt HP1.out
  generalize w1.alloc (.cells #[.int .i64 4, .int .i64 dd, .int .i64 0, .bool false] 54) = w2 at hB2 hP2 hH2 ⊢
  generalize w1.heap.size = gh at hgh hH2 ⊢
  have HB2 := Aside0.mk hB2
  have HP2 := Aside0.mk hP2
  have HH2 := Aside0.mk hH2
  clear hB2 hP2 hH2 HB1 HP1
  have h0 : w2.cell? ⟨gh, 0, none⟩ = some (.int .i64 4) := (blk_cell HH2.out 0).trans rfl
  have h1 : w2.cell? ⟨gh, 1, none⟩ = some (.int .i64 dd) := (blk_cell HH2.out 1).trans rfl
  have h2 : w2.cell? ⟨gh, 2, none⟩ = some (.int .i64 0) := (blk_cell HH2.out 2).trans rfl
  have h3 : w2.cell? ⟨gh, 3, none⟩ = some (.bool false) := (blk_cell HH2.out 3).trans rfl
  have hl := blk_lt HH2.out
  go_wp2_with fail
  go_region
  go_upto_region 7 with fail
  have hB3 : Below w.heap.size w (w2.alloc (.cells #[.bool fin, .int .u8 op, .bool false, .int .u32 0, .slice none 0 0] 31)).drew := below_drew (below_alloc HB2.out _)
  have hP3 : (w2.alloc (.cells #[.bool fin, .int .u8 op, .bool false, .int .u32 0, .slice none 0 0] 31)).drew.heap[w.heap.size]? = some (.cells #[.bool false, .int .u8 0, .bool false, .int .u32 0, .slice none 0 0] 31 (0, 0)) := blk_drew (blk_alloc HP2.out _)
  have hH3 : (w2.alloc (.cells #[.bool fin, .int .u8 op, .bool false, .int .u32 0, .slice none 0 0] 31)).drew.heap[gh]? = some (.cells #[.int .i64 4, .int .i64 dd, .int .i64 0, .bool false] 54 (0, 0)) := blk_drew (blk_alloc HH2.out _)
  have hF3 : (w2.alloc (.cells #[.bool fin, .int .u8 op, .bool false, .int .u32 0, .slice none 0 0] 31)).drew.heap[w2.heap.size]? = some (.cells #[.bool fin, .int .u8 op, .bool false, .int .u32 0, .slice none 0 0] 31 (0, 0)) := blk_drew (last_at _ _ _ rfl)
  have hgp : w.heap.size < w2.heap.size := blk_lt HP2.out
  generalize (w2.alloc (.cells #[.bool fin, .int .u8 op, .bool false, .int .u32 0, .slice none 0 0] 31)).drew = w3 at hB3 hP3 hH3 hF3 ⊢
  generalize w2.heap.size = gp at hF3 hgp ⊢
  clear HB2 HP2 HH2 h0 h1 h2 h3 hl
  have HB3 := Aside0.mk hB3
  have HP3 := Aside0.mk hP3
  have HF3 := Aside0.mk hF3
  clear hB3 hP3 hF3
  have h0 : w3.cell? ⟨gh, 0, none⟩ = some (.int .i64 4) := (blk_cell hH3 0).trans rfl
  have h1 : w3.cell? ⟨gh, 1, none⟩ = some (.int .i64 dd) := (blk_cell hH3 1).trans rfl
  have h2 : w3.cell? ⟨gh, 2, none⟩ = some (.int .i64 0) := (blk_cell hH3 2).trans rfl
  have h3 : w3.cell? ⟨gh, 3, none⟩ = some (.bool false) := (blk_cell hH3 3).trans rfl
  have hl := blk_lt hH3
  clear hH3
  have hbw : Below w3.heap.size w3 (Lib.bytesWorld w3 5 D) := bytes_below (Below.refl _ _) (Nat.le_refl _) _ _
  have hC7 : Kd.C (Kd.int .u8) (Lib.bytesWorld w3 5 D) (some ⟨w3.heap.size, 0, none⟩) r5.length r5 := by
    have h := bytes_reads w3 5 D (by rw [HD.out]; omega)
    rw [HD.out, HDb.out] at h
    exact Kd.C_of_reads (d := (0 : Int)) (h1 := fun _ => rfl) h
  have hB7 := below_step HB3.out hbw
  have hP7 := blk_below HP3.out hbw
  have hF7 := blk_below HF3.out hbw
  have hgd : gp < w3.heap.size := blk_lt HF3.out
  have hcap : r5.length ≤ grownCap w3 r5.length 0 5 := grownCap_ge _ _ _ _
  have HB7 := Aside0.mk hB7
  have HP7 := Aside0.mk hP7
  have HF7 := Aside0.mk hF7
  have HC7 := Aside0.mk hC7
  have HCAP := Aside0.mk hcap
  clear hbw hB7 hP7 hF7 hC7 hcap HB3 HP3 HF3
  have g0 : (Lib.bytesWorld w3 5 D).cell? ⟨gp, 0, none⟩ = some (.bool fin) := (blk_cell HF7.out 0).trans rfl
  have gf0 := blk_frozen HF7.out 0
  have g1 : (Lib.bytesWorld w3 5 D).cell? ⟨gp, 1, none⟩ = some (.int .u8 op) := (blk_cell HF7.out 1).trans rfl
  have gf1 := blk_frozen HF7.out 1
  have g2 : (Lib.bytesWorld w3 5 D).cell? ⟨gp, 2, none⟩ = some (.bool false) := (blk_cell HF7.out 2).trans rfl
  have gf2 := blk_frozen HF7.out 2
  have g3 : (Lib.bytesWorld w3 5 D).cell? ⟨gp, 3, none⟩ = some (.int .u32 0) := (blk_cell HF7.out 3).trans rfl
  have gf3 := blk_frozen HF7.out 3
  have g4 : (Lib.bytesWorld w3 5 D).cell? ⟨gp, 4, none⟩ = some (.slice none 0 0) := (blk_cell HF7.out 4).trans rfl
  have gf4 := blk_frozen HF7.out 4
  have gl := blk_lt HF7.out
  go_upto_region 12 with fail
  clear g0 g1 g2 g3 g4 gf0 gf1 gf2 gf3 gf4 gl
  have hT8 := setCell_typed (p := ⟨gp, 4, none⟩) (v := (.slice (some ⟨w3.heap.size, 0, none⟩) r5.length (grownCap w3 r5.length 0 5))) (bytes_typed w3 5 D)
  have hB8 : Below w.heap.size w ((Lib.bytesWorld w3 5 D).setCell ⟨gp, 4, none⟩ (.slice (some ⟨w3.heap.size, 0, none⟩) r5.length (grownCap w3 r5.length 0 5))) := Below.setCell HB7.out (Nat.le_of_lt hgp) _
  have hP8 : ((Lib.bytesWorld w3 5 D).setCell ⟨gp, 4, none⟩ (.slice (some ⟨w3.heap.size, 0, none⟩) r5.length (grownCap w3 r5.length 0 5))).heap[w.heap.size]? = some (.cells #[.bool false, .int .u8 0, .bool false, .int .u32 0, .slice none 0 0] 31 (0, 0)) := blk_far HP7.out (Nat.ne_of_lt hgp) _
  have hF8 : ((Lib.bytesWorld w3 5 D).setCell ⟨gp, 4, none⟩ (.slice (some ⟨w3.heap.size, 0, none⟩) r5.length (grownCap w3 r5.length 0 5))).heap[gp]? = some (.cells #[.bool fin, .int .u8 op, .bool false, .int .u32 0, .slice (some ⟨w3.heap.size, 0, none⟩) r5.length (grownCap w3 r5.length 0 5)] 31 (0, 0)) := blk_put HF7.out 4 _ rfl
  have hC8 : Kd.C (Kd.int .u8) ((Lib.bytesWorld w3 5 D).setCell ⟨gp, 4, none⟩ (.slice (some ⟨w3.heap.size, 0, none⟩) r5.length (grownCap w3 r5.length 0 5))) (some ⟨w3.heap.size, 0, none⟩) r5.length r5 := C_block HC7.out (Below.heap_setCell _ _ _ _ (Nat.ne_of_gt hgd))
  generalize ((Lib.bytesWorld w3 5 D).setCell ⟨gp, 4, none⟩ (.slice (some ⟨w3.heap.size, 0, none⟩) r5.length (grownCap w3 r5.length 0 5))) = w8 at hB8 hP8 hF8 hC8 hT8 ⊢
  have hcap := HCAP.out
  generalize grownCap w3 r5.length 0 5 = cp at hF8 hcap ⊢
  generalize w3.heap.size = gd at hF8 hC8 hT8 hgd ⊢
  have HB8 := Aside0.mk hB8
  have HC8 := Aside0.mk hC8
  have HT8 := Aside0.mk hT8
  clear HB7 HP7 HF7 HC7 HCAP hB8 hC8 hT8 hcv
  have g0 : w8.cell? ⟨gp, 0, none⟩ = some (.bool fin) := (blk_cell hF8 0).trans rfl
  have g1 : w8.cell? ⟨gp, 1, none⟩ = some (.int .u8 op) := (blk_cell hF8 1).trans rfl
  have g2 : w8.cell? ⟨gp, 2, none⟩ = some (.bool false) := (blk_cell hF8 2).trans rfl
  have g3 : w8.cell? ⟨gp, 3, none⟩ = some (.int .u32 0) := (blk_cell hF8 3).trans rfl
  have g4 : w8.cell? ⟨gp, 4, none⟩ = some (.slice (some ⟨gd, 0, none⟩) r5.length cp) := (blk_cell hF8 4).trans rfl
  have gl := blk_lt hF8
  have p0 : w8.cell? ⟨w.heap.size, 0, none⟩ = some (.bool false) := (blk_cell hP8 0).trans rfl
  have pf0 := blk_frozen hP8 0
  have p1 : w8.cell? ⟨w.heap.size, 1, none⟩ = some (.int .u8 0) := (blk_cell hP8 1).trans rfl
  have pf1 := blk_frozen hP8 1
  have p2 : w8.cell? ⟨w.heap.size, 2, none⟩ = some (.bool false) := (blk_cell hP8 2).trans rfl
  have pf2 := blk_frozen hP8 2
  have p3 : w8.cell? ⟨w.heap.size, 3, none⟩ = some (.int .u32 0) := (blk_cell hP8 3).trans rfl
  have pf3 := blk_frozen hP8 3
  have p4 : w8.cell? ⟨w.heap.size, 4, none⟩ = some (.slice none 0 0) := (blk_cell hP8 4).trans rfl
  have pf4 := blk_frozen hP8 4
  have pl := blk_lt hP8
  clear hF8 hP8
  have hle : w.heap.size ≤ w.heap.size := Nat.le_refl _
  have hdn : gd ≠ w.heap.size := by omega
  clear h0 h1 h2 h3 hl
  go_wp2_with fail
  exact bodyPost_ret (v := .tuple #[.agg #[.bool fin, .int .u8 op, .bool false, .int .u32 0, .slice (some ⟨gd, 0, none⟩) r5.length cp], .int .i64 0]) (by simp [results, Tryd.results21, go_sem, p0, p1, p2, p3, p4]) rfl ⟨_, _, rfl, C_block HC8.out ((Below.heap_setCell _ _ _ _ hdn).trans ((Below.heap_setCell _ _ _ _ hdn).trans ((Below.heap_setCell _ _ _ _ hdn).trans ((Below.heap_setCell _ _ _ _ hdn).trans ((Below.heap_setCell _ _ _ _ hdn).trans (rfl)))))), hcap, Below.setCell (Below.setCell (Below.setCell (Below.setCell (Below.setCell HB8.out hle _) hle _) hle _) hle _) hle _, fun ad ea => by
    injection ea with ea
    subst ea
    exact setCell_typed (setCell_typed (setCell_typed (setCell_typed (setCell_typed HT8.out))))⟩
set_option maxHeartbeats 8000000 in
set_option maxRecDepth 100000 in
theorem rget_ok_6 (k : Nat) (s D : ByteArray) (w : World) (dd t op key : Int) (fin : Bool) (r5 : List Int) (hsz : 6 ≤ s.size) (hs : IntKind.i64.wrap (6 + dd) = t) (hne : ((s.size : Int) != t) = false) (hf : decide (127 < bt s 0) = fin) (ho : Int.tmod (bt s 0) 16 = op) (hD : D.size = r5.length) (hDb : bytesOf D = r5) (hDl : r5.length ≤ 10000) (HR : Aside0 (louverref16_Head.f k s true = some (6, dd, 0, false))) (D0 : ByteArray) (hcut : s.extract 6 s.size = D0) (HV : Aside0 (louverref07_Value.f k (s.extract 2 6) = some key)) (HT : Aside0 (louverref16_Turn.f k D0 key = some D)) : Calls Tryd.prog 21 #[.string s, .bool true] w (RGetPost fin op true key r5 0 w) := by
  have hx : ∀ h : 0 < s.size, ((s[0]'h).toNat : Int) = bt s 0 := bt_at s 0
  have qi : (0 < (s.size : Int)) = True := eq_true (by omega)
  have qn : (0 < s.size) = True := eq_true (by omega)
  have p2 : (6 : Int) ≤ (s.size : Int) := by omega
  have hcv : ∀ W : World, (convert 9 22 (.string D)).run Tryd.prog W = .ok (.slice (some ⟨W.heap.size, 0, none⟩) r5.length (grownCap W r5.length 0 5)) (Lib.bytesWorld W 5 D) := fun W => by
    rw [← hD]
    exact print_bytes (P := Tryd.prog) 9 22 5 Tryd.underlying9 Tryd.underlying22 Tryd.underlying5 D W
  have HD := Aside0.mk hD
  have HDb := Aside0.mk hDb
  clear hD hDb
  have hu37 := Tryd.underlying31
  have hu30 := Tryd.underlying54
  go_enter Tryd.func21, Tryd.ntmps21
  go_wp2_with fail
  refine (louverref16_Head.calls k s true 6 dd 0 false _ HR.out).mono ?_
  rintro e w1 ⟨rfl, hb⟩
  have HB1 := Aside0.mk (below_step (below_alloc (Below.refl w.heap.size w) (.cells #[.bool false, .int .u8 0, .bool false, .int .u32 0, .slice none 0 0] 31)) hb)
  have HP1 : Aside0 (w1.heap[w.heap.size]? = some (.cells #[.bool false, .int .u8 0, .bool false, .int .u32 0, .slice none 0 0] 31 (0, 0))) := ⟨blk_below (last_at _ _ _ rfl) hb⟩
  clear hb
  go_upto_region 2 with fail
  have hB2 : Below w.heap.size w (w1.alloc (.cells #[.int .i64 6, .int .i64 dd, .int .i64 0, .bool false] 54)) := below_alloc HB1.out _
  have hP2 : (w1.alloc (.cells #[.int .i64 6, .int .i64 dd, .int .i64 0, .bool false] 54)).heap[w.heap.size]? = some (.cells #[.bool false, .int .u8 0, .bool false, .int .u32 0, .slice none 0 0] 31 (0, 0)) := blk_alloc HP1.out _
  have hH2 : (w1.alloc (.cells #[.int .i64 6, .int .i64 dd, .int .i64 0, .bool false] 54)).heap[w1.heap.size]? = some (.cells #[.int .i64 6, .int .i64 dd, .int .i64 0, .bool false] 54 (0, 0)) := last_at _ _ _ rfl
  have hgh : w.heap.size < w1.heap.size := blk_lt HP1.out
  generalize w1.alloc (.cells #[.int .i64 6, .int .i64 dd, .int .i64 0, .bool false] 54) = w2 at hB2 hP2 hH2 ⊢
  generalize w1.heap.size = gh at hgh hH2 ⊢
  have HB2 := Aside0.mk hB2
  have HP2 := Aside0.mk hP2
  have HH2 := Aside0.mk hH2
  clear hB2 hP2 hH2 HB1 HP1
  have h0 : w2.cell? ⟨gh, 0, none⟩ = some (.int .i64 6) := (blk_cell HH2.out 0).trans rfl
  have h1 : w2.cell? ⟨gh, 1, none⟩ = some (.int .i64 dd) := (blk_cell HH2.out 1).trans rfl
  have h2 : w2.cell? ⟨gh, 2, none⟩ = some (.int .i64 0) := (blk_cell HH2.out 2).trans rfl
  have h3 : w2.cell? ⟨gh, 3, none⟩ = some (.bool false) := (blk_cell HH2.out 3).trans rfl
  have hl := blk_lt HH2.out
  go_wp2_with fail
  go_region
  go_upto_region 7 with fail
  have hB3 : Below w.heap.size w (w2.alloc (.cells #[.bool fin, .int .u8 op, .bool true, .int .u32 0, .slice none 0 0] 31)).drew := below_drew (below_alloc HB2.out _)
  have hP3 : (w2.alloc (.cells #[.bool fin, .int .u8 op, .bool true, .int .u32 0, .slice none 0 0] 31)).drew.heap[w.heap.size]? = some (.cells #[.bool false, .int .u8 0, .bool false, .int .u32 0, .slice none 0 0] 31 (0, 0)) := blk_drew (blk_alloc HP2.out _)
  have hH3 : (w2.alloc (.cells #[.bool fin, .int .u8 op, .bool true, .int .u32 0, .slice none 0 0] 31)).drew.heap[gh]? = some (.cells #[.int .i64 6, .int .i64 dd, .int .i64 0, .bool false] 54 (0, 0)) := blk_drew (blk_alloc HH2.out _)
  have hF3 : (w2.alloc (.cells #[.bool fin, .int .u8 op, .bool true, .int .u32 0, .slice none 0 0] 31)).drew.heap[w2.heap.size]? = some (.cells #[.bool fin, .int .u8 op, .bool true, .int .u32 0, .slice none 0 0] 31 (0, 0)) := blk_drew (last_at _ _ _ rfl)
  have hgp : w.heap.size < w2.heap.size := blk_lt HP2.out
  generalize (w2.alloc (.cells #[.bool fin, .int .u8 op, .bool true, .int .u32 0, .slice none 0 0] 31)).drew = w3 at hB3 hP3 hH3 hF3 ⊢
  generalize w2.heap.size = gp at hF3 hgp ⊢
  clear HB2 HP2 HH2 h0 h1 h2 h3 hl
  have HB3 := Aside0.mk hB3
  have HP3 := Aside0.mk hP3
  have HF3 := Aside0.mk hF3
  clear hB3 hP3 hF3
  have h0 : w3.cell? ⟨gh, 0, none⟩ = some (.int .i64 6) := (blk_cell hH3 0).trans rfl
  have h1 : w3.cell? ⟨gh, 1, none⟩ = some (.int .i64 dd) := (blk_cell hH3 1).trans rfl
  have h2 : w3.cell? ⟨gh, 2, none⟩ = some (.int .i64 0) := (blk_cell hH3 2).trans rfl
  have h3 : w3.cell? ⟨gh, 3, none⟩ = some (.bool false) := (blk_cell hH3 3).trans rfl
  have hl := blk_lt hH3
  clear hH3
  go_wp2_with fail
  refine (louverref07_Value.calls k (s.extract 2 6) key _ HV.out).mono ?_
  rintro e w4 ⟨rfl, hdr⟩
  have hb := Drawn0.below hdr
  clear hdr h0 h1 h2 h3 hl
  have HB4 := Aside0.mk (below_step HB3.out hb)
  have HP4 := Aside0.mk (blk_below HP3.out hb)
  have HF4 := Aside0.mk (blk_below HF3.out hb)
  clear hb HB3 HP3 HF3
  have g0 : w4.cell? ⟨gp, 0, none⟩ = some (.bool fin) := (blk_cell HF4.out 0).trans rfl
  have gf0 := blk_frozen HF4.out 0
  have g1 : w4.cell? ⟨gp, 1, none⟩ = some (.int .u8 op) := (blk_cell HF4.out 1).trans rfl
  have gf1 := blk_frozen HF4.out 1
  have g2 : w4.cell? ⟨gp, 2, none⟩ = some (.bool true) := (blk_cell HF4.out 2).trans rfl
  have gf2 := blk_frozen HF4.out 2
  have g3 : w4.cell? ⟨gp, 3, none⟩ = some (.int .u32 0) := (blk_cell HF4.out 3).trans rfl
  have gf3 := blk_frozen HF4.out 3
  have g4 : w4.cell? ⟨gp, 4, none⟩ = some (.slice none 0 0) := (blk_cell HF4.out 4).trans rfl
  have gf4 := blk_frozen HF4.out 4
  have gl := blk_lt HF4.out
  go_wp2_with fail
  have hB5 : Below w.heap.size w (w4.setCell ⟨gp, 3, none⟩ (.int .u32 key)) := Below.setCell HB4.out (Nat.le_of_lt hgp) _
  have hP5 : (w4.setCell ⟨gp, 3, none⟩ (.int .u32 key)).heap[w.heap.size]? = some (.cells #[.bool false, .int .u8 0, .bool false, .int .u32 0, .slice none 0 0] 31 (0, 0)) := blk_far HP4.out (Nat.ne_of_lt hgp) _
  have hF5 : (w4.setCell ⟨gp, 3, none⟩ (.int .u32 key)).heap[gp]? = some (.cells #[.bool fin, .int .u8 op, .bool true, .int .u32 key, .slice none 0 0] 31 (0, 0)) := blk_put HF4.out 3 _ rfl
  generalize w4.setCell ⟨gp, 3, none⟩ (.int .u32 key) = w5 at hB5 hP5 hF5 ⊢
  clear HB4 HP4 HF4 g0 g1 g2 g3 g4 gf0 gf1 gf2 gf3 gf4 gl
  refine (louverref16_Turn.calls k D0 key D _ HT.out).mono ?_
  rintro e w6 ⟨rfl, hb⟩
  have HB6 := Aside0.mk (below_step hB5 hb)
  have HP6 := Aside0.mk (blk_below hP5 hb)
  have HF6 := Aside0.mk (blk_below hF5 hb)
  clear hb hB5 hP5 hF5
  have hbw : Below w6.heap.size w6 (Lib.bytesWorld w6 5 D) := bytes_below (Below.refl _ _) (Nat.le_refl _) _ _
  have hC7 : Kd.C (Kd.int .u8) (Lib.bytesWorld w6 5 D) (some ⟨w6.heap.size, 0, none⟩) r5.length r5 := by
    have h := bytes_reads w6 5 D (by rw [HD.out]; omega)
    rw [HD.out, HDb.out] at h
    exact Kd.C_of_reads (d := (0 : Int)) (h1 := fun _ => rfl) h
  have hB7 := below_step HB6.out hbw
  have hP7 := blk_below HP6.out hbw
  have hF7 := blk_below HF6.out hbw
  have hgd : gp < w6.heap.size := blk_lt HF6.out
  have hcap : r5.length ≤ grownCap w6 r5.length 0 5 := grownCap_ge _ _ _ _
  have HB7 := Aside0.mk hB7
  have HP7 := Aside0.mk hP7
  have HF7 := Aside0.mk hF7
  have HC7 := Aside0.mk hC7
  have HCAP := Aside0.mk hcap
  clear hbw hB7 hP7 hF7 hC7 hcap HB6 HP6 HF6
  have g0 : (Lib.bytesWorld w6 5 D).cell? ⟨gp, 0, none⟩ = some (.bool fin) := (blk_cell HF7.out 0).trans rfl
  have gf0 := blk_frozen HF7.out 0
  have g1 : (Lib.bytesWorld w6 5 D).cell? ⟨gp, 1, none⟩ = some (.int .u8 op) := (blk_cell HF7.out 1).trans rfl
  have gf1 := blk_frozen HF7.out 1
  have g2 : (Lib.bytesWorld w6 5 D).cell? ⟨gp, 2, none⟩ = some (.bool true) := (blk_cell HF7.out 2).trans rfl
  have gf2 := blk_frozen HF7.out 2
  have g3 : (Lib.bytesWorld w6 5 D).cell? ⟨gp, 3, none⟩ = some (.int .u32 key) := (blk_cell HF7.out 3).trans rfl
  have gf3 := blk_frozen HF7.out 3
  have g4 : (Lib.bytesWorld w6 5 D).cell? ⟨gp, 4, none⟩ = some (.slice none 0 0) := (blk_cell HF7.out 4).trans rfl
  have gf4 := blk_frozen HF7.out 4
  have gl := blk_lt HF7.out
  go_upto_region 12 with fail
  clear g0 g1 g2 g3 g4 gf0 gf1 gf2 gf3 gf4 gl
  have hT8 := setCell_typed (p := ⟨gp, 4, none⟩) (v := (.slice (some ⟨w6.heap.size, 0, none⟩) r5.length (grownCap w6 r5.length 0 5))) (bytes_typed w6 5 D)
  have hB8 : Below w.heap.size w ((Lib.bytesWorld w6 5 D).setCell ⟨gp, 4, none⟩ (.slice (some ⟨w6.heap.size, 0, none⟩) r5.length (grownCap w6 r5.length 0 5))) := Below.setCell HB7.out (Nat.le_of_lt hgp) _
  have hP8 : ((Lib.bytesWorld w6 5 D).setCell ⟨gp, 4, none⟩ (.slice (some ⟨w6.heap.size, 0, none⟩) r5.length (grownCap w6 r5.length 0 5))).heap[w.heap.size]? = some (.cells #[.bool false, .int .u8 0, .bool false, .int .u32 0, .slice none 0 0] 31 (0, 0)) := blk_far HP7.out (Nat.ne_of_lt hgp) _
  have hF8 : ((Lib.bytesWorld w6 5 D).setCell ⟨gp, 4, none⟩ (.slice (some ⟨w6.heap.size, 0, none⟩) r5.length (grownCap w6 r5.length 0 5))).heap[gp]? = some (.cells #[.bool fin, .int .u8 op, .bool true, .int .u32 key, .slice (some ⟨w6.heap.size, 0, none⟩) r5.length (grownCap w6 r5.length 0 5)] 31 (0, 0)) := blk_put HF7.out 4 _ rfl
  have hC8 : Kd.C (Kd.int .u8) ((Lib.bytesWorld w6 5 D).setCell ⟨gp, 4, none⟩ (.slice (some ⟨w6.heap.size, 0, none⟩) r5.length (grownCap w6 r5.length 0 5))) (some ⟨w6.heap.size, 0, none⟩) r5.length r5 := C_block HC7.out (Below.heap_setCell _ _ _ _ (Nat.ne_of_gt hgd))
  generalize ((Lib.bytesWorld w6 5 D).setCell ⟨gp, 4, none⟩ (.slice (some ⟨w6.heap.size, 0, none⟩) r5.length (grownCap w6 r5.length 0 5))) = w8 at hB8 hP8 hF8 hC8 hT8 ⊢
  have hcap := HCAP.out
  generalize grownCap w6 r5.length 0 5 = cp at hF8 hcap ⊢
  generalize w6.heap.size = gd at hF8 hC8 hT8 hgd ⊢
  have HB8 := Aside0.mk hB8
  have HC8 := Aside0.mk hC8
  have HT8 := Aside0.mk hT8
  clear HB7 HP7 HF7 HC7 HCAP hB8 hC8 hT8 hcv
  have g0 : w8.cell? ⟨gp, 0, none⟩ = some (.bool fin) := (blk_cell hF8 0).trans rfl
  have g1 : w8.cell? ⟨gp, 1, none⟩ = some (.int .u8 op) := (blk_cell hF8 1).trans rfl
  have g2 : w8.cell? ⟨gp, 2, none⟩ = some (.bool true) := (blk_cell hF8 2).trans rfl
  have g3 : w8.cell? ⟨gp, 3, none⟩ = some (.int .u32 key) := (blk_cell hF8 3).trans rfl
  have g4 : w8.cell? ⟨gp, 4, none⟩ = some (.slice (some ⟨gd, 0, none⟩) r5.length cp) := (blk_cell hF8 4).trans rfl
  have gl := blk_lt hF8
  have p0 : w8.cell? ⟨w.heap.size, 0, none⟩ = some (.bool false) := (blk_cell hP8 0).trans rfl
  have pf0 := blk_frozen hP8 0
  have p1 : w8.cell? ⟨w.heap.size, 1, none⟩ = some (.int .u8 0) := (blk_cell hP8 1).trans rfl
  have pf1 := blk_frozen hP8 1
  have p2 : w8.cell? ⟨w.heap.size, 2, none⟩ = some (.bool false) := (blk_cell hP8 2).trans rfl
  have pf2 := blk_frozen hP8 2
  have p3 : w8.cell? ⟨w.heap.size, 3, none⟩ = some (.int .u32 0) := (blk_cell hP8 3).trans rfl
  have pf3 := blk_frozen hP8 3
  have p4 : w8.cell? ⟨w.heap.size, 4, none⟩ = some (.slice none 0 0) := (blk_cell hP8 4).trans rfl
  have pf4 := blk_frozen hP8 4
  have pl := blk_lt hP8
  clear hF8 hP8
  have hle : w.heap.size ≤ w.heap.size := Nat.le_refl _
  have hdn : gd ≠ w.heap.size := by omega
  go_wp2_with fail
  exact bodyPost_ret (v := .tuple #[.agg #[.bool fin, .int .u8 op, .bool true, .int .u32 key, .slice (some ⟨gd, 0, none⟩) r5.length cp], .int .i64 0]) (by simp [results, Tryd.results21, go_sem, p0, p1, p2, p3, p4]) rfl ⟨_, _, rfl, C_block HC8.out ((Below.heap_setCell _ _ _ _ hdn).trans ((Below.heap_setCell _ _ _ _ hdn).trans ((Below.heap_setCell _ _ _ _ hdn).trans ((Below.heap_setCell _ _ _ _ hdn).trans ((Below.heap_setCell _ _ _ _ hdn).trans (rfl)))))), hcap, Below.setCell (Below.setCell (Below.setCell (Below.setCell (Below.setCell HB8.out hle _) hle _) hle _) hle _) hle _, fun ad ea => by
    injection ea with ea
    subst ea
    exact setCell_typed (setCell_typed (setCell_typed (setCell_typed (setCell_typed HT8.out))))⟩
set_option maxHeartbeats 8000000 in
set_option maxRecDepth 100000 in
theorem rget_ok_8 (k : Nat) (s D : ByteArray) (w : World) (dd t op key : Int) (fin : Bool) (r5 : List Int) (hsz : 8 ≤ s.size) (hs : IntKind.i64.wrap (8 + dd) = t) (hne : ((s.size : Int) != t) = false) (hf : decide (127 < bt s 0) = fin) (ho : Int.tmod (bt s 0) 16 = op) (hD : D.size = r5.length) (hDb : bytesOf D = r5) (hDl : r5.length ≤ 10000) (HR : Aside0 (louverref16_Head.f k s true = some (8, dd, 0, false))) (D0 : ByteArray) (hcut : s.extract 8 s.size = D0) (HV : Aside0 (louverref07_Value.f k (s.extract 4 8) = some key)) (HT : Aside0 (louverref16_Turn.f k D0 key = some D)) : Calls Tryd.prog 21 #[.string s, .bool true] w (RGetPost fin op true key r5 0 w) := by
  have hx : ∀ h : 0 < s.size, ((s[0]'h).toNat : Int) = bt s 0 := bt_at s 0
  have qi : (0 < (s.size : Int)) = True := eq_true (by omega)
  have qn : (0 < s.size) = True := eq_true (by omega)
  have p2 : (8 : Int) ≤ (s.size : Int) := by omega
  have hcv : ∀ W : World, (convert 9 22 (.string D)).run Tryd.prog W = .ok (.slice (some ⟨W.heap.size, 0, none⟩) r5.length (grownCap W r5.length 0 5)) (Lib.bytesWorld W 5 D) := fun W => by
    rw [← hD]
    exact print_bytes (P := Tryd.prog) 9 22 5 Tryd.underlying9 Tryd.underlying22 Tryd.underlying5 D W
  have HD := Aside0.mk hD
  have HDb := Aside0.mk hDb
  clear hD hDb
  have hu37 := Tryd.underlying31
  have hu30 := Tryd.underlying54
  go_enter Tryd.func21, Tryd.ntmps21
  go_wp2_with fail
  refine (louverref16_Head.calls k s true 8 dd 0 false _ HR.out).mono ?_
  rintro e w1 ⟨rfl, hb⟩
  have HB1 := Aside0.mk (below_step (below_alloc (Below.refl w.heap.size w) (.cells #[.bool false, .int .u8 0, .bool false, .int .u32 0, .slice none 0 0] 31)) hb)
  have HP1 : Aside0 (w1.heap[w.heap.size]? = some (.cells #[.bool false, .int .u8 0, .bool false, .int .u32 0, .slice none 0 0] 31 (0, 0))) := ⟨blk_below (last_at _ _ _ rfl) hb⟩
  clear hb
  go_upto_region 2 with fail
  have hB2 : Below w.heap.size w (w1.alloc (.cells #[.int .i64 8, .int .i64 dd, .int .i64 0, .bool false] 54)) := below_alloc HB1.out _
  have hP2 : (w1.alloc (.cells #[.int .i64 8, .int .i64 dd, .int .i64 0, .bool false] 54)).heap[w.heap.size]? = some (.cells #[.bool false, .int .u8 0, .bool false, .int .u32 0, .slice none 0 0] 31 (0, 0)) := blk_alloc HP1.out _
  have hH2 : (w1.alloc (.cells #[.int .i64 8, .int .i64 dd, .int .i64 0, .bool false] 54)).heap[w1.heap.size]? = some (.cells #[.int .i64 8, .int .i64 dd, .int .i64 0, .bool false] 54 (0, 0)) := last_at _ _ _ rfl
  have hgh : w.heap.size < w1.heap.size := blk_lt HP1.out
  generalize w1.alloc (.cells #[.int .i64 8, .int .i64 dd, .int .i64 0, .bool false] 54) = w2 at hB2 hP2 hH2 ⊢
  generalize w1.heap.size = gh at hgh hH2 ⊢
  have HB2 := Aside0.mk hB2
  have HP2 := Aside0.mk hP2
  have HH2 := Aside0.mk hH2
  clear hB2 hP2 hH2 HB1 HP1
  have h0 : w2.cell? ⟨gh, 0, none⟩ = some (.int .i64 8) := (blk_cell HH2.out 0).trans rfl
  have h1 : w2.cell? ⟨gh, 1, none⟩ = some (.int .i64 dd) := (blk_cell HH2.out 1).trans rfl
  have h2 : w2.cell? ⟨gh, 2, none⟩ = some (.int .i64 0) := (blk_cell HH2.out 2).trans rfl
  have h3 : w2.cell? ⟨gh, 3, none⟩ = some (.bool false) := (blk_cell HH2.out 3).trans rfl
  have hl := blk_lt HH2.out
  go_wp2_with fail
  go_region
  go_upto_region 7 with fail
  have hB3 : Below w.heap.size w (w2.alloc (.cells #[.bool fin, .int .u8 op, .bool true, .int .u32 0, .slice none 0 0] 31)).drew := below_drew (below_alloc HB2.out _)
  have hP3 : (w2.alloc (.cells #[.bool fin, .int .u8 op, .bool true, .int .u32 0, .slice none 0 0] 31)).drew.heap[w.heap.size]? = some (.cells #[.bool false, .int .u8 0, .bool false, .int .u32 0, .slice none 0 0] 31 (0, 0)) := blk_drew (blk_alloc HP2.out _)
  have hH3 : (w2.alloc (.cells #[.bool fin, .int .u8 op, .bool true, .int .u32 0, .slice none 0 0] 31)).drew.heap[gh]? = some (.cells #[.int .i64 8, .int .i64 dd, .int .i64 0, .bool false] 54 (0, 0)) := blk_drew (blk_alloc HH2.out _)
  have hF3 : (w2.alloc (.cells #[.bool fin, .int .u8 op, .bool true, .int .u32 0, .slice none 0 0] 31)).drew.heap[w2.heap.size]? = some (.cells #[.bool fin, .int .u8 op, .bool true, .int .u32 0, .slice none 0 0] 31 (0, 0)) := blk_drew (last_at _ _ _ rfl)
  have hgp : w.heap.size < w2.heap.size := blk_lt HP2.out
  generalize (w2.alloc (.cells #[.bool fin, .int .u8 op, .bool true, .int .u32 0, .slice none 0 0] 31)).drew = w3 at hB3 hP3 hH3 hF3 ⊢
  generalize w2.heap.size = gp at hF3 hgp ⊢
  clear HB2 HP2 HH2 h0 h1 h2 h3 hl
  have HB3 := Aside0.mk hB3
  have HP3 := Aside0.mk hP3
  have HF3 := Aside0.mk hF3
  clear hB3 hP3 hF3
  have h0 : w3.cell? ⟨gh, 0, none⟩ = some (.int .i64 8) := (blk_cell hH3 0).trans rfl
  have h1 : w3.cell? ⟨gh, 1, none⟩ = some (.int .i64 dd) := (blk_cell hH3 1).trans rfl
  have h2 : w3.cell? ⟨gh, 2, none⟩ = some (.int .i64 0) := (blk_cell hH3 2).trans rfl
  have h3 : w3.cell? ⟨gh, 3, none⟩ = some (.bool false) := (blk_cell hH3 3).trans rfl
  have hl := blk_lt hH3
  clear hH3
  go_wp2_with fail
  refine (louverref07_Value.calls k (s.extract 4 8) key _ HV.out).mono ?_
  rintro e w4 ⟨rfl, hdr⟩
  have hb := Drawn0.below hdr
  clear hdr h0 h1 h2 h3 hl
  have HB4 := Aside0.mk (below_step HB3.out hb)
  have HP4 := Aside0.mk (blk_below HP3.out hb)
  have HF4 := Aside0.mk (blk_below HF3.out hb)
  clear hb HB3 HP3 HF3
  have g0 : w4.cell? ⟨gp, 0, none⟩ = some (.bool fin) := (blk_cell HF4.out 0).trans rfl
  have gf0 := blk_frozen HF4.out 0
  have g1 : w4.cell? ⟨gp, 1, none⟩ = some (.int .u8 op) := (blk_cell HF4.out 1).trans rfl
  have gf1 := blk_frozen HF4.out 1
  have g2 : w4.cell? ⟨gp, 2, none⟩ = some (.bool true) := (blk_cell HF4.out 2).trans rfl
  have gf2 := blk_frozen HF4.out 2
  have g3 : w4.cell? ⟨gp, 3, none⟩ = some (.int .u32 0) := (blk_cell HF4.out 3).trans rfl
  have gf3 := blk_frozen HF4.out 3
  have g4 : w4.cell? ⟨gp, 4, none⟩ = some (.slice none 0 0) := (blk_cell HF4.out 4).trans rfl
  have gf4 := blk_frozen HF4.out 4
  have gl := blk_lt HF4.out
  go_wp2_with fail
  have hB5 : Below w.heap.size w (w4.setCell ⟨gp, 3, none⟩ (.int .u32 key)) := Below.setCell HB4.out (Nat.le_of_lt hgp) _
  have hP5 : (w4.setCell ⟨gp, 3, none⟩ (.int .u32 key)).heap[w.heap.size]? = some (.cells #[.bool false, .int .u8 0, .bool false, .int .u32 0, .slice none 0 0] 31 (0, 0)) := blk_far HP4.out (Nat.ne_of_lt hgp) _
  have hF5 : (w4.setCell ⟨gp, 3, none⟩ (.int .u32 key)).heap[gp]? = some (.cells #[.bool fin, .int .u8 op, .bool true, .int .u32 key, .slice none 0 0] 31 (0, 0)) := blk_put HF4.out 3 _ rfl
  generalize w4.setCell ⟨gp, 3, none⟩ (.int .u32 key) = w5 at hB5 hP5 hF5 ⊢
  clear HB4 HP4 HF4 g0 g1 g2 g3 g4 gf0 gf1 gf2 gf3 gf4 gl
  refine (louverref16_Turn.calls k D0 key D _ HT.out).mono ?_
  rintro e w6 ⟨rfl, hb⟩
  have HB6 := Aside0.mk (below_step hB5 hb)
  have HP6 := Aside0.mk (blk_below hP5 hb)
  have HF6 := Aside0.mk (blk_below hF5 hb)
  clear hb hB5 hP5 hF5
  have hbw : Below w6.heap.size w6 (Lib.bytesWorld w6 5 D) := bytes_below (Below.refl _ _) (Nat.le_refl _) _ _
  have hC7 : Kd.C (Kd.int .u8) (Lib.bytesWorld w6 5 D) (some ⟨w6.heap.size, 0, none⟩) r5.length r5 := by
    have h := bytes_reads w6 5 D (by rw [HD.out]; omega)
    rw [HD.out, HDb.out] at h
    exact Kd.C_of_reads (d := (0 : Int)) (h1 := fun _ => rfl) h
  have hB7 := below_step HB6.out hbw
  have hP7 := blk_below HP6.out hbw
  have hF7 := blk_below HF6.out hbw
  have hgd : gp < w6.heap.size := blk_lt HF6.out
  have hcap : r5.length ≤ grownCap w6 r5.length 0 5 := grownCap_ge _ _ _ _
  have HB7 := Aside0.mk hB7
  have HP7 := Aside0.mk hP7
  have HF7 := Aside0.mk hF7
  have HC7 := Aside0.mk hC7
  have HCAP := Aside0.mk hcap
  clear hbw hB7 hP7 hF7 hC7 hcap HB6 HP6 HF6
  have g0 : (Lib.bytesWorld w6 5 D).cell? ⟨gp, 0, none⟩ = some (.bool fin) := (blk_cell HF7.out 0).trans rfl
  have gf0 := blk_frozen HF7.out 0
  have g1 : (Lib.bytesWorld w6 5 D).cell? ⟨gp, 1, none⟩ = some (.int .u8 op) := (blk_cell HF7.out 1).trans rfl
  have gf1 := blk_frozen HF7.out 1
  have g2 : (Lib.bytesWorld w6 5 D).cell? ⟨gp, 2, none⟩ = some (.bool true) := (blk_cell HF7.out 2).trans rfl
  have gf2 := blk_frozen HF7.out 2
  have g3 : (Lib.bytesWorld w6 5 D).cell? ⟨gp, 3, none⟩ = some (.int .u32 key) := (blk_cell HF7.out 3).trans rfl
  have gf3 := blk_frozen HF7.out 3
  have g4 : (Lib.bytesWorld w6 5 D).cell? ⟨gp, 4, none⟩ = some (.slice none 0 0) := (blk_cell HF7.out 4).trans rfl
  have gf4 := blk_frozen HF7.out 4
  have gl := blk_lt HF7.out
  go_upto_region 12 with fail
  clear g0 g1 g2 g3 g4 gf0 gf1 gf2 gf3 gf4 gl
  have hT8 := setCell_typed (p := ⟨gp, 4, none⟩) (v := (.slice (some ⟨w6.heap.size, 0, none⟩) r5.length (grownCap w6 r5.length 0 5))) (bytes_typed w6 5 D)
  have hB8 : Below w.heap.size w ((Lib.bytesWorld w6 5 D).setCell ⟨gp, 4, none⟩ (.slice (some ⟨w6.heap.size, 0, none⟩) r5.length (grownCap w6 r5.length 0 5))) := Below.setCell HB7.out (Nat.le_of_lt hgp) _
  have hP8 : ((Lib.bytesWorld w6 5 D).setCell ⟨gp, 4, none⟩ (.slice (some ⟨w6.heap.size, 0, none⟩) r5.length (grownCap w6 r5.length 0 5))).heap[w.heap.size]? = some (.cells #[.bool false, .int .u8 0, .bool false, .int .u32 0, .slice none 0 0] 31 (0, 0)) := blk_far HP7.out (Nat.ne_of_lt hgp) _
  have hF8 : ((Lib.bytesWorld w6 5 D).setCell ⟨gp, 4, none⟩ (.slice (some ⟨w6.heap.size, 0, none⟩) r5.length (grownCap w6 r5.length 0 5))).heap[gp]? = some (.cells #[.bool fin, .int .u8 op, .bool true, .int .u32 key, .slice (some ⟨w6.heap.size, 0, none⟩) r5.length (grownCap w6 r5.length 0 5)] 31 (0, 0)) := blk_put HF7.out 4 _ rfl
  have hC8 : Kd.C (Kd.int .u8) ((Lib.bytesWorld w6 5 D).setCell ⟨gp, 4, none⟩ (.slice (some ⟨w6.heap.size, 0, none⟩) r5.length (grownCap w6 r5.length 0 5))) (some ⟨w6.heap.size, 0, none⟩) r5.length r5 := C_block HC7.out (Below.heap_setCell _ _ _ _ (Nat.ne_of_gt hgd))
  generalize ((Lib.bytesWorld w6 5 D).setCell ⟨gp, 4, none⟩ (.slice (some ⟨w6.heap.size, 0, none⟩) r5.length (grownCap w6 r5.length 0 5))) = w8 at hB8 hP8 hF8 hC8 hT8 ⊢
  have hcap := HCAP.out
  generalize grownCap w6 r5.length 0 5 = cp at hF8 hcap ⊢
  generalize w6.heap.size = gd at hF8 hC8 hT8 hgd ⊢
  have HB8 := Aside0.mk hB8
  have HC8 := Aside0.mk hC8
  have HT8 := Aside0.mk hT8
  clear HB7 HP7 HF7 HC7 HCAP hB8 hC8 hT8 hcv
  have g0 : w8.cell? ⟨gp, 0, none⟩ = some (.bool fin) := (blk_cell hF8 0).trans rfl
  have g1 : w8.cell? ⟨gp, 1, none⟩ = some (.int .u8 op) := (blk_cell hF8 1).trans rfl
  have g2 : w8.cell? ⟨gp, 2, none⟩ = some (.bool true) := (blk_cell hF8 2).trans rfl
  have g3 : w8.cell? ⟨gp, 3, none⟩ = some (.int .u32 key) := (blk_cell hF8 3).trans rfl
  have g4 : w8.cell? ⟨gp, 4, none⟩ = some (.slice (some ⟨gd, 0, none⟩) r5.length cp) := (blk_cell hF8 4).trans rfl
  have gl := blk_lt hF8
  have p0 : w8.cell? ⟨w.heap.size, 0, none⟩ = some (.bool false) := (blk_cell hP8 0).trans rfl
  have pf0 := blk_frozen hP8 0
  have p1 : w8.cell? ⟨w.heap.size, 1, none⟩ = some (.int .u8 0) := (blk_cell hP8 1).trans rfl
  have pf1 := blk_frozen hP8 1
  have p2 : w8.cell? ⟨w.heap.size, 2, none⟩ = some (.bool false) := (blk_cell hP8 2).trans rfl
  have pf2 := blk_frozen hP8 2
  have p3 : w8.cell? ⟨w.heap.size, 3, none⟩ = some (.int .u32 0) := (blk_cell hP8 3).trans rfl
  have pf3 := blk_frozen hP8 3
  have p4 : w8.cell? ⟨w.heap.size, 4, none⟩ = some (.slice none 0 0) := (blk_cell hP8 4).trans rfl
  have pf4 := blk_frozen hP8 4
  have pl := blk_lt hP8
  clear hF8 hP8
  have hle : w.heap.size ≤ w.heap.size := Nat.le_refl _
  have hdn : gd ≠ w.heap.size := by omega
  go_wp2_with fail
  exact bodyPost_ret (v := .tuple #[.agg #[.bool fin, .int .u8 op, .bool true, .int .u32 key, .slice (some ⟨gd, 0, none⟩) r5.length cp], .int .i64 0]) (by simp [results, Tryd.results21, go_sem, p0, p1, p2, p3, p4]) rfl ⟨_, _, rfl, C_block HC8.out ((Below.heap_setCell _ _ _ _ hdn).trans ((Below.heap_setCell _ _ _ _ hdn).trans ((Below.heap_setCell _ _ _ _ hdn).trans ((Below.heap_setCell _ _ _ _ hdn).trans ((Below.heap_setCell _ _ _ _ hdn).trans (rfl)))))), hcap, Below.setCell (Below.setCell (Below.setCell (Below.setCell (Below.setCell HB8.out hle _) hle _) hle _) hle _) hle _, fun ad ea => by
    injection ea with ea
    subst ea
    exact setCell_typed (setCell_typed (setCell_typed (setCell_typed (setCell_typed HT8.out))))⟩
end Go.Proofs.YtkhlldhcmgkioaaDoor

/- louverref16.Get at any bytes. -/
namespace Go.Proofs.YtkhlldhcmgkioaaDoor
open Go.RowKit Go.Proofs.YtkhlldhcmgkioaaDoorW.PrintWords Go.Proofs.YtkhlldhcmgkioaaDoorW.PrintLast Go.Proofs.YtkhlldhcmgkioaaDoorW.PrintMore Go.Proofs.YtkhlldhcmgkioaaDoor.PAll
set_option linter.unusedVariables false
theorem bytesOf_str (l : List Int) (hl : ∀ x ∈ l, Byte x) : bytesOf (strOfNums l) = l := by
  apply List.ext_getElem
  · rw [bytesOf_length, str_size]
  · intro i h1 h2
    have := bt_str l i h2 (hl _ (List.getElem_mem h2))
    rw [← rd_bytesOf, rd_nat _ i h1] at this
    exact this
theorem raw_Byte {l : List Int} (hl : l.all isByte = true) (m : Bool) : ∀ x ∈ rawOf l m, Byte x := fun x hx => all_byte hl (List.mem_of_mem_drop hx)
theorem RGet_fine {l : List Int} (hl : l.all isByte = true) (m : Bool) (w : World) (hlen : l.length ≤ 9000) (hb : getBad l m = 0) : Calls Tryd.prog 21 #[.string (strOfNums l), .bool m] w (RGetPost (decide (128 ≤ rd l 0)) (rd l 0 % 16) m (keyIn l m) (if m = true then turned (rawOf l m) (keyIn l m) else rawOf l m) 0 w) := by
  obtain ⟨e1, e2, e3⟩ := getBad_ok hb
  have hR := refHead_f hl m 20000 (by omega)
  have hbd := headF_bounds hl m
  have hsz := str_size l
  obtain ⟨hf, h0⟩ := headF_front hl m e1 e2
  have b0 := rd_byte hl 0
  have e0 : bt (strOfNums l) 0 = rd l 0 := bt_rd hl 0 (by omega)
  unfold refH at hR
  rw [if_neg (by omega), if_neg (by rw [e2]; decide)] at hR
  have hs : IntKind.i64.wrap ((headF l m).1 + (headF l m).2.1) = (l.length : Int) := by rw [i64_w]; unfold wrap64; omega
  have hne : (((strOfNums l).size : Int) != (l.length : Int)) = false := bne_eq_false_iff_eq.mpr (by rw [hsz])
  have hfin : decide (127 < bt (strOfNums l) 0) = decide (128 ≤ rd l 0) := by rw [e0]; exact decide_eq_decide.mpr (by omega)
  have hop : Int.tmod (bt (strOfNums l) 0) 16 = rd l 0 % 16 := by rw [e0]; exact Int.tmod_eq_emod_of_nonneg b0.1
  have hraw := raw_Byte hl m
  have hrl : (rawOf l m).length ≤ 9000 := by unfold rawOf; rw [List.length_drop]; omega
  have hcut : ∀ F : Nat, (strOfNums l).extract F (strOfNums l).size = strOfNums (l.drop F) := fun F => by rw [hsz, str_cut, List.take_length]
  unfold rawOf at hraw hrl
  unfold rawOf keyIn
  rcases hf with ⟨rfl, hf⟩ | ⟨rfl, hf⟩
  · rw [if_neg (by decide), if_neg (by decide)]
    rcases hf with hf | hf
    · rw [hf] at hR hs hraw hrl e3 ⊢
      exact rget_ok_2 20000 _ (strOfNums (l.drop 2)) w _ _ _ _ _ _ (by omega) hs hne hfin hop (str_size _) (bytesOf_str _ hraw) (by exact Nat.le_trans hrl (by omega)) ⟨hR⟩ (hcut 2) rfl
    · rw [hf] at hR hs hraw hrl e3 ⊢
      exact rget_ok_4 20000 _ (strOfNums (l.drop 4)) w _ _ _ _ _ _ (by omega) hs hne hfin hop (str_size _) (bytesOf_str _ hraw) (by exact Nat.le_trans hrl (by omega)) ⟨hR⟩ (hcut 4) rfl
  · rw [if_pos rfl, if_pos rfl]
    rcases hf with hf | hf
    · rw [hf] at hR hs hraw hrl e3 ⊢
      simp only [show ((6 : Int).toNat) = 6 from rfl, show (6 : Nat) - 4 = 2 from rfl] at hraw hrl ⊢
      have hv := value_cut hl 2 6 (by omega) (by omega) (by omega) 20000 (by omega)
      have hkb := val_bounds hl 2 4
      rw [show (256 : Int) ^ 4 = 4294967296 from rfl] at hkb
      have hT := refTurn_k (l.drop 6) (val l 2 4) hraw (by omega) hkb.1 (by omega) 20000 (by omega)
      exact rget_ok_6 20000 _ (strOfNums (turned (l.drop 6) (val l 2 4))) w _ _ _ _ _ _ (by omega) hs hne hfin hop (str_size _) (bytesOf_str _ (turned_byte _ _ hraw)) (by rw [turned_len]; omega) ⟨hR⟩ _ (hcut 6) ⟨hv⟩ ⟨hT⟩
    · rw [hf] at hR hs hraw hrl e3 ⊢
      simp only [show ((8 : Int).toNat) = 8 from rfl, show (8 : Nat) - 4 = 4 from rfl] at hraw hrl ⊢
      have hv := value_cut hl 4 8 (by omega) (by omega) (by omega) 20000 (by omega)
      have hkb := val_bounds hl 4 4
      rw [show (256 : Int) ^ 4 = 4294967296 from rfl] at hkb
      have hT := refTurn_k (l.drop 8) (val l 4 4) hraw (by omega) hkb.1 (by omega) 20000 (by omega)
      exact rget_ok_8 20000 _ (strOfNums (turned (l.drop 8) (val l 4 4))) w _ _ _ _ _ _ (by omega) hs hne hfin hop (str_size _) (bytesOf_str _ (turned_byte _ _ hraw)) (by rw [turned_len]; omega) ⟨hR⟩ _ (hcut 8) ⟨hv⟩ ⟨hT⟩
end Go.Proofs.YtkhlldhcmgkioaaDoor

/- louverref17.All: all frames of bytes. -/
namespace Go.Proofs.YtkhlldhcmgkioaaDoor
open Go.RowKit Go.Proofs.YtkhlldhcmgkioaaDoorW.PrintWords Go.Proofs.YtkhlldhcmgkioaaDoorW.PrintLast Go.Proofs.YtkhlldhcmgkioaaDoorW.PrintMore Go.Proofs.YtkhlldhcmgkioaaDoor.PAll
set_option linter.unusedVariables false
set_option linter.unusedSimpArgs false
def sizeV : Value → Nat
  | .string b => b.size
  | .slice _ n _ => n
  | _ => 0
def AllPost (ps : List Pc) (c : Int) (n : Nat) (w : World) (e : Ending) (w' : World) : Prop := ∃ A cp, e = .returned (.tuple #[.slice A ps.length cp, .int .i64 c, .int .i64 n]) ∧ ps.length ≤ cp ∧ Kd.C k31 w' A ps.length ps ∧ Below w.heap.size w w'
theorem AllPost.mk {ps done : List Pc} {c c' : Int} {n : Nat} {w w' : World} {A : Option Addr} {cp : Nat} {r : List Int} (h : ps = done ++ [] ∧ c = c' ∧ r = r) (hc : done.length ≤ cp) (hC : Kd.C k31 w' A done.length done) (hb : Below w.heap.size w w') : AllPost ps c n w (.returned (.tuple #[.slice A done.length cp, .int .i64 c', .int .i64 n])) w' := by
  obtain ⟨h1, rfl, _⟩ := h
  rw [List.append_nil] at h1
  subst h1
  exact ⟨A, cp, rfl, hc, hC, hb⟩
def AllR (l0 : List Int) (m : Bool) (w : World) (s v : Value) (wr : World) : Prop := ∃ (l : List Int) (done : List Pc), s = .string (strOfNums l) ∧ l.all isByte = true ∧ (∀ ps c r, AllP m l ps c r → AllP m l0 (done ++ ps) c r) ∧ IsOut wr w.heap.size v done ∧ done.length + l.length ≤ l0.length ∧ Below w.heap.size w wr
theorem IsOut.empty (W : World) (base : Nat) (hb : base ≤ W.heap.size) : IsOut (W.alloc (.cells #[] 31)) base (.slice (some ⟨W.heap.size, 0, none⟩) 0 0) [] :=
  ⟨[], ⟨rfl, .inr ⟨W.heap.size, 0, #[], rfl, hb, blk_new W _, Nat.le_refl _, by decide, rfl, rfl⟩⟩, Reps.none _ _⟩
set_option maxHeartbeats 8000000 in
set_option maxRecDepth 100000 in
theorem refAll_any {l0 : List Int} (hl0 : l0.all isByte = true) (hn : l0.length ≤ 1000000) (m : Bool) {ps : List Pc} {c : Int} {r : List Int} (h : AllP m l0 ps c r) (w : World) : Calls Tryd.prog 13 #[.string (strOfNums l0), .bool m] w (AllPost ps c r.length w) := by
  have hu31 := Tryd.underlying31
  have hu54 := Tryd.underlying54
  have hinfo : (Tryd.prog.info? 31).map (fun i => (i.zero, i.size, i.bytes)) = some (some (.agg #[.bool false, .int .u8 0, .bool false, .int .u32 0, .slice none 0 0]), 5, 32) := by kernel_rfl
  have H := Aside0.mk h
  have hn0 := Aside0.mk hn
  clear h
  go_enter Tryd.func13, Tryd.ntmps13
  go_wp2_with fail
  go_loopw [0, 7] (fun s v wr => AllR l0 m w s v wr) (fun s _ _ => sizeV s)
  case atStart => exact ⟨l0, [], rfl, hl0, fun _ _ _ h => h, IsOut.empty _ _ (Nat.le_refl _), by simp, below_alloc (Below.refl _ _) _⟩
  case round =>
    obtain ⟨l, done, rfl, hl, hst, hO, hlen, hB⟩ := hrel
    have hR := refHead_f hl m 20000 (by omega)
    have hfb := headF_bounds hl m
    have hsz := str_size l
    have HC1 : ∀ n : Nat, (strOfNums l).extract 0 n = strOfNums (l.take n) := fun n => by rw [str_cut, List.drop_zero]
    have HC2 : ∀ n : Nat, (strOfNums l).extract n (strOfNums l).size = strOfNums (l.drop n) := fun n => by rw [hsz, str_cut, List.take_length]
    generalize hs : strOfNums l = s at hR hsz HC1 HC2 ⊢
    have HB := Aside0.mk hB
    have HO := Aside0.mk hO
    have HST := Aside0.mk hst
    clear hB hO hst
    by_cases hc : code1 l m = 0
    · by_cases hf : IsFr l m
      · have h1 := hf.min hl
        have hroom := hf.room
        have hRr : refH l m = ((headF l m).1, (headF l m).2.1, 0, false) := by
          unfold code1 at hc
          unfold refH
          rw [if_neg (by omega), if_neg (by rw [hf.told]; decide)]
        rw [hRr] at hR
        have HR := Aside0.mk hR
        have HF := Aside0.mk hf
        have HL := Aside0.mk hl
        have hcut1 := HC1 (size1 l m)
        have hcut2 := HC2 (size1 l m)
        have HT := Aside0.mk (show (l.take (size1 l m)).length ≤ 9000 by rw [List.length_take]; omega)
        have HN := Aside0.mk (show (done ++ [pieceOf (l.take (size1 l m)) m]).length + (l.drop (size1 l m)).length ≤ l0.length by simp; omega)
        have HSZ := Aside0.mk (show (strOfNums (l.drop (size1 l m))).size < s.size by rw [str_size, hsz, List.length_drop]; omega)
        have HI := Aside0.mk hinfo
        clear hR hRr HC1 HC2 hfb hl hf hinfo
        generalize hF : (headF l m).1 = f at HR h1 ⊢
        generalize hD : (headF l m).2.1 = d at HR h1 ⊢
        generalize hn : size1 l m = n at h1 hcut1 hcut2 HT HN HSZ hroom ⊢
        have hw : IntKind.i64.wrap (f + d) = (n : Int) := by rw [i64_w]; unfold wrap64; omega
        have hgt : decide ((s.size : Int) < (n : Int)) = false := decide_eq_false (by omega)
        have hle0 : (0 : Int) ≤ (n : Int) := by omega
        have hle1 : (n : Int) ≤ (s.size : Int) := by omega
        go_wp2_with fail
        refine (louverref16_Head.calls 20000 s m f d 0 false _ HR.out).mono ?_
        rintro e w1 ⟨rfl, hb⟩
        have HB1 := Aside0.mk (below_step HB.out hb)
        have HO1 := Aside0.mk (HO.out.below hb)
        clear hb HO HB HR
        go_upto_region 3 with fail
        have hb2 : Below w1.heap.size w1 (w1.alloc (.cells #[.int .i64 f, .int .i64 d, .int .i64 0, .bool false] 54)) := below_alloc (Below.refl _ _) _
        have hH2 : (w1.alloc (.cells #[.int .i64 f, .int .i64 d, .int .i64 0, .bool false] 54)).heap[w1.heap.size]? = some (.cells #[.int .i64 f, .int .i64 d, .int .i64 0, .bool false] 54 (0, 0)) := last_at _ _ _ rfl
        generalize w1.alloc (.cells #[.int .i64 f, .int .i64 d, .int .i64 0, .bool false] 54) = w2 at hb2 hH2 ⊢
        have HB2 := Aside0.mk (below_step HB1.out hb2)
        have HO2 := Aside0.mk (HO1.out.below hb2)
        have HH2 := Aside0.mk hH2
        generalize w1.heap.size = gh at hH2 HH2 ⊢
        have x0 : w2.cell? ⟨gh, 0, none⟩ = some (.int .i64 f) := (blk_cell hH2 0).trans rfl
        have x1 : w2.cell? ⟨gh, 1, none⟩ = some (.int .i64 d) := (blk_cell hH2 1).trans rfl
        have x2 : w2.cell? ⟨gh, 2, none⟩ = some (.int .i64 0) := (blk_cell hH2 2).trans rfl
        have x3 : w2.cell? ⟨gh, 3, none⟩ = some (.bool false) := (blk_cell hH2 3).trans rfl
        clear hH2 hb2 HB1 HO1
        go_wp2_with fail
        rw [show (f + d).toNat = n by omega, hcut1]
        obtain ⟨p, hp⟩ : ∃ p : Pc, p = pieceOf (l.take n) m := ⟨_, rfl⟩
        have hG : Calls Tryd.prog 21 #[.string (strOfNums (l.take n)), .bool m] w2 (RGetPost p.f0 p.f1 p.f2 p.f3 p.f4 0 w2) := by
          rw [hp]
          exact RGet_fine (take_byte HL.out n) m w2 HT.out (by rw [← hn]; exact HF.out.bad HL.out)
        have HP := Aside0.mk hp
        clear hp
        refine hG.mono ?_
        rintro e w3 ⟨A4, c4, rfl, hC4, hc4, hb, ht4⟩
        have hD4 : Dat w3 (.slice A4 p.f4.length c4) p.f4 := ⟨A4, c4, rfl, hc4, hC4, ht4⟩
        have HB3 := Aside0.mk (below_step HB2.out hb)
        have HO3 := Aside0.mk (HO2.out.below hb)
        have hH3 := blk_below HH2.out hb
        have HD3 := Aside0.mk hD4
        have HH3 := Aside0.mk hH3
        clear x0 x1 x2 x3 HB2 HO2 hH3 hD4 hC4 ht4 hb HH2 hcut1
        go_upto_region 8 with fail
        have hb4 : Below w3.heap.size w3 (w3.alloc (.cells #[.bool p.f0, .int .u8 p.f1, .bool p.f2, .int .u32 p.f3, .slice A4 p.f4.length c4] 31)) := below_alloc (Below.refl _ _) _
        have hP4 : (w3.alloc (.cells #[.bool p.f0, .int .u8 p.f1, .bool p.f2, .int .u32 p.f3, .slice A4 p.f4.length c4] 31)).heap[w3.heap.size]? = some (.cells #[.bool p.f0, .int .u8 p.f1, .bool p.f2, .int .u32 p.f3, .slice A4 p.f4.length c4] 31 (0, 0)) := last_at _ _ _ rfl
        generalize w3.alloc (.cells #[.bool p.f0, .int .u8 p.f1, .bool p.f2, .int .u32 p.f3, .slice A4 p.f4.length c4] 31) = w4 at hb4 hP4 ⊢
        have HB4 := Aside0.mk (below_step HB3.out hb4)
        obtain ⟨cs, hown, hreps⟩ := HO3.out.below hb4
        have hD5 := HD3.out.below hb4
        have hH4 := blk_below HH3.out hb4
        generalize w3.heap.size = gp at hP4 ⊢
        have y0 : w4.cell? ⟨gp, 0, none⟩ = some (.bool p.f0) := (blk_cell hP4 0).trans rfl
        have y1 : w4.cell? ⟨gp, 1, none⟩ = some (.int .u8 p.f1) := (blk_cell hP4 1).trans rfl
        have y2 : w4.cell? ⟨gp, 2, none⟩ = some (.bool p.f2) := (blk_cell hP4 2).trans rfl
        have y3 : w4.cell? ⟨gp, 3, none⟩ = some (.int .u32 p.f3) := (blk_cell hP4 3).trans rfl
        have y4 : w4.cell? ⟨gp, 4, none⟩ = some (.slice A4 p.f4.length c4) := (blk_cell hP4 4).trans rfl
        have HOW := Aside0.mk hown
        have HRE := Aside0.mk hreps
        have HD4 := Aside0.mk hD5
        have HH4 := Aside0.mk hH4
        have HN2 := Aside0.mk (show (done.length + 1) * 32 ≤ 140737488355328 by have h1 := HN.out; have h2 := hn0.out; simp at h1; omega)
        clear hown hreps hD5 hH4 hP4 hb4 HB3 HO3 HD3 HH3 hc4 hG
        go_wp2_with (at_builtin; refine print_append_cells (w0 := w) w.heap.size rfl (.tmp 48) (.tmp 50) 26 31 (.agg #[.bool false, .int .u8 0, .bool false, .int .u32 0, .slice none 0 0]) 5 32 rfl Tryd.underlying26 HI.out rfl (by decide) (by decide) u7 done.length cs [.bool p.f0, .int .u8 p.f1, .bool p.f2, .int .u32 p.f3, .slice A4 p.f4.length c4] rfl rfl rfl (by simp [Value.oneCell']) HOW.out HB4.out HB4.out.size HN2.out ?_; intro v1 w5 hown5 hb5 hg5 hat5; have hH5 := blk_grown HH4.out hg5 (own_ne HOW.out HH4.out (by decide)); have z0 : w5.cell? ⟨gh, 0, none⟩ = some (.int .i64 f) := (blk_cell hH5 0).trans rfl; have z1 : w5.cell? ⟨gh, 1, none⟩ = some (.int .i64 d) := (blk_cell hH5 1).trans rfl; have HO5 := Aside0.mk (IsOut.snoc HOW.out HRE.out HD4.out hown5 hg5); have HB5 := Aside0.mk hb5; clear hH5 hown5 hb5 hg5 hat5 HOW HRE HD4 HH4 y0 y1 y2 y3 y4)
        go_roundw
        case rel => exact ⟨l.drop n, done ++ [p], by rw [show (f + d).toNat = n by omega, ← hsz, hcut2], drop_byte HL.out n, by
          rw [HP.out, ← hn]
          have h := AllP.app_step (b := l0) (left := []) (got := done) HF.out (by simpa using HST.out)
          simpa using h, HO5.out, by rw [HP.out]; exact HN.out, HB5.out⟩
        case measure =>
          rw [show (f + d).toNat = n by omega, ← hsz, hcut2]
          exact HSZ.out
      · obtain ⟨A, cp, rfl, hcp, hC⟩ := HO.out.read
        have HU := Aside0.mk (H.out.uniq (HST.out _ _ _ (.stop hc hf)))
        have hRr : ∃ (f d : Int) (sh : Bool), refH l m = (f, d, 0, sh) ∧ (sh = true ∨ (sh = false ∧ decide ((s.size : Int) < wrap64 (f + d)) = true)) := by
          have hc' := hc
          unfold code1 at hc'
          unfold refH
          rw [if_neg (by omega)]
          by_cases ht : (headF l m).2.2.1 = true
          · rw [if_pos ht]; exact ⟨_, _, _, rfl, .inl rfl⟩
          · rw [if_neg ht]
            refine ⟨_, _, _, rfl, .inr ⟨rfl, decide_eq_true ?_⟩⟩
            rw [hsz]
            by_cases hr : size1 l m ≤ l.length
            · exact absurd ⟨hc, by simpa using ht, hr⟩ hf
            · unfold size1 at hr; unfold wrap64; omega
        obtain ⟨f, d, sh, hRr, hsh⟩ := hRr
        rw [hRr] at hR
        have HR := Aside0.mk hR
        clear hR hRr HC1 HC2 hfb
        go_wp2_with fail
        refine (louverref16_Head.calls 20000 s m f d 0 sh _ HR.out).mono ?_
        rintro e w1 ⟨rfl, hb⟩
        have HB1 := Aside0.mk (below_step HB.out hb)
        have hC1 := Kd.C_below hC hb
        clear hb HO HB HR hC
        go_upto_region 3 with fail
        have hb2 : Below w1.heap.size w1 (w1.alloc (.cells #[.int .i64 f, .int .i64 d, .int .i64 0, .bool sh] 54)) := below_alloc (Below.refl _ _) _
        have hH2 : (w1.alloc (.cells #[.int .i64 f, .int .i64 d, .int .i64 0, .bool sh] 54)).heap[w1.heap.size]? = some (.cells #[.int .i64 f, .int .i64 d, .int .i64 0, .bool sh] 54 (0, 0)) := last_at _ _ _ rfl
        generalize w1.alloc (.cells #[.int .i64 f, .int .i64 d, .int .i64 0, .bool sh] 54) = w2 at hb2 hH2 ⊢
        have HB2 := Aside0.mk (below_step HB1.out hb2)
        have HC2 := Aside0.mk (Kd.C_below hC1 hb2)
        generalize w1.heap.size = gh at hH2 ⊢
        have x0 : w2.cell? ⟨gh, 0, none⟩ = some (.int .i64 f) := (blk_cell hH2 0).trans rfl
        have x1 : w2.cell? ⟨gh, 1, none⟩ = some (.int .i64 d) := (blk_cell hH2 1).trans rfl
        have x2 : w2.cell? ⟨gh, 2, none⟩ = some (.int .i64 0) := (blk_cell hH2 2).trans rfl
        have x3 : w2.cell? ⟨gh, 3, none⟩ = some (.bool sh) := (blk_cell hH2 3).trans rfl
        have HS0 := Aside0.mk hsz
        clear hH2 hb2 HB1 hC1 hsz
        obtain ⟨h1, h2, h3⟩ := HU.out
        have h4 : AllPost ps c r.length w (.returned (.tuple #[.slice A done.length cp, .int .i64 0, .int .i64 s.size])) w2 := by
          rw [h3, ← HS0.out]
          exact AllPost.mk (r := r) ⟨h1, h2, rfl⟩ hcp HC2.out HB2.out
        have HP := Aside0.mk h4
        clear h1 h2 h3 h4 HU
        rcases hsh with rfl | ⟨rfl, hsh⟩
        · go_wp2_with fail
          exact bodyPost_ret (v := .tuple #[.slice A done.length cp, .int .i64 0, .int .i64 s.size]) (by simp [results, Tryd.results13, go_sem]) rfl HP.out
        · go_wp2_with fail
          exact bodyPost_ret (v := .tuple #[.slice A done.length cp, .int .i64 0, .int .i64 s.size]) (by simp [results, Tryd.results13, go_sem]) rfl HP.out
    · have HU := Aside0.mk (H.out.uniq (HST.out _ _ _ (.bad hc)))
      obtain ⟨A, cp, rfl, hcp, hC⟩ := HO.out.read
      have hRr : refH l m = (0, 0, code1 l m, false) := by
        unfold code1 at hc ⊢
        unfold refH
        rw [if_pos hc]
      rw [hRr] at hR
      have hcb : (code1 l m != 0) = true := bne_iff_ne.mpr hc
      have HR := Aside0.mk hR
      clear hR hRr HC1 HC2 hfb
      go_wp2_with fail
      refine (louverref16_Head.calls 20000 s m 0 0 (code1 l m) false _ HR.out).mono ?_
      rintro e w1 ⟨rfl, hb⟩
      have hC1 := Kd.C_below hC hb
      have HB1 := Aside0.mk (below_step HB.out hb)
      clear hb HO HB HR hC
      go_upto_region 3 with fail
      generalize code1 l m = cd at hc hcb HU ⊢
      have hb2 : Below w1.heap.size w1 (w1.alloc (.cells #[.int .i64 0, .int .i64 0, .int .i64 cd, .bool false] 54)) := below_alloc (Below.refl _ _) _
      have hH2 : (w1.alloc (.cells #[.int .i64 0, .int .i64 0, .int .i64 cd, .bool false] 54)).heap[w1.heap.size]? = some (.cells #[.int .i64 0, .int .i64 0, .int .i64 cd, .bool false] 54 (0, 0)) := last_at _ _ _ rfl
      generalize w1.alloc (.cells #[.int .i64 0, .int .i64 0, .int .i64 cd, .bool false] 54) = w2 at hb2 hH2 ⊢
      have HB2 := Aside0.mk (below_step HB1.out hb2)
      have HC2 := Aside0.mk (Kd.C_below hC1 hb2)
      generalize w1.heap.size = gh at hH2 ⊢
      have x2 : w2.cell? ⟨gh, 2, none⟩ = some (.int .i64 cd) := (blk_cell hH2 2).trans rfl
      clear hH2 hb2 HB1 hC1
      go_wp2_with fail
      go_region
      go_wp2_with fail
      obtain ⟨h1, h2, h3⟩ := HU.out
      rw [h3]
      refine bodyPost_ret (v := .tuple #[.slice A done.length cp, .int .i64 cd, .int .i64 0]) (by simp [results, Tryd.results13, go_sem]) rfl ?_
      exact AllPost.mk (r := r) ⟨h1, h2, rfl⟩ hcp (Kd.C_drew HC2.out) (below_drew HB2.out)
end Go.Proofs.YtkhlldhcmgkioaaDoor

