/- What the law's row rests on, part 11. -/
import Derived.Test.YtpmeapdcjmaeiaaDoorZ10
import Derived.Deep.RegionHeld3
set_option linter.unusedVariables false
set_option linter.unusedSimpArgs false
namespace Go.Proofs.YtpmeapdcjmaeiaaDoor.PAll
open Go.RowKit Go.Proofs.YtpmeapdcjmaeiaaDoorW.PrintWords Go.Proofs.YtpmeapdcjmaeiaaDoorW.PrintLast Go.Proofs.YtpmeapdcjmaeiaaDoorW.PrintMore
structure Ng (wb w W : World) (g : Nat) (v : Value) (m : Bool) (l : List Int) : Prop where
 bel : Below w.heap.size w W
 sp : Sp wb W g v m false l
 piece : W.heap[w.heap.size]? = some (.cells #[.bool false, .int .u8 0, .bool false, .int .u32 0, .slice none 0 0] 52 (0, 0))
 fault : W.heap[w.heap.size + 1]? = some (.cells #[.int .u8 0, .int .u32 0] 58 (0, 0))
theorem Ng.below {wb w W W' : World} {g : Nat} {v : Value} {m : Bool} {l : List Int} (h : Ng wb w W g v m l) (hb : Below W.heap.size W W') : Ng wb w W' g v m l := ⟨below_step h.bel hb, h.sp.below hb, blk_below h.piece hb, blk_below h.fault hb⟩
theorem Ng.lt {wb w W : World} {g : Nat} {v : Value} {m : Bool} {l : List Int} (h : Ng wb w W g v m l) : w.heap.size + 1 < W.heap.size := blk_lt h.fault
theorem NS.mk {wb w W : World} {g n c : Nat} {A : Option Addr} {m : Bool} {l : List Int} (h : Ng wb w W g (.slice A n c) m l) : Aside0 (Ng wb w W g (.slice A n c) m l) ∧ W.cell? ⟨g, 0, none⟩ = some (.slice A n c) ∧ W.cell? ⟨g, 1, none⟩ = some (.bool m) := ⟨⟨h⟩, (blk_cell h.sp.blk 0).trans rfl, (blk_cell h.sp.blk 1).trans rfl⟩
theorem Ng.put2 {wb w W : World} {g k : Nat} {v : Value} {m : Bool} {l : List Int} {cs : Array Value} (h : Ng wb w W g v m l) (h1 : w.heap.size + 1 < k) (h2 : g < k) (hb : W.heap[k]? = some (.cells cs 58 (0, 0))) (a b : Value) : Ng wb w ((W.setCell ⟨k, 0, none⟩ a).setCell ⟨k, 1, none⟩ b) g v m l := by
 have h0 : ∀ j, j ≠ k → ((W.setCell ⟨k, 0, none⟩ a).setCell ⟨k, 1, none⟩ b).heap[j]? = W.heap[j]? := fun j hj => (Below.heap_setCell _ _ _ _ hj).trans (Below.heap_setCell _ _ _ _ hj)
 exact ⟨Below.setCell (Below.setCell h.bel (by show _ ≤ k; omega) _) (by show _ ≤ k; omega) _, ⟨(h0 g (by omega)).trans h.sp.blk, Kd.R_mono (Kd.R_far (Kd.R_far (Kd.R_types h.sp.row hb (by intro q hq; simp [Kd.int, Kd.scalar] at hq; omega)) (p := ⟨k, 0, none⟩) (fun j hj => hj.2) a) (p := ⟨k, 1, none⟩) (fun j hj => hj.2) b) (fun _ _ => trivial)⟩, (h0 _ (by omega)).trans h.piece, (h0 _ (by omega)).trans h.fault⟩
set_option maxHeartbeats 8000000 in
set_option maxRecDepth 100000 in
theorem split_next_none (wb w : World) (g : Nat) (v : Value) (m : Bool) (l : List Int) (r1 r2 r3 : Int) (r4 : Bool) (h : Sp wb w g v m false l) (hg : Cond w) (hh : wsframe_Head.f l m = some (r1, r2, r3, r4)) (h4 : r4 = false) : Calls Tryd.prog 21 #[.pointer (some ⟨g, 0, none⟩)] w fun e w' => e = .returned (.tuple #[.agg #[.bool false, .int .u8 0, .bool false, .int .u32 0, .slice none 0 0], .agg #[.int .u8 0, .int .u32 0], .bool false]) ∧ Below w.heap.size w w' := by
 subst h4
 obtain ⟨Av, cv, rfl⟩ := Kd.R_slice h.row
 have c2 : w.cell? ⟨g, 2, none⟩ = some (.bool false) := (blk_cell h.blk 2).trans rfl
 have hgl := blk_lt h.blk
 have HS := Aside0.mk h
 have HC := Aside0.mk hg
 have HH := Aside0.mk hh
 clear h hg hh
 have hu31 := Tryd.underlying52
 have hu33 := Tryd.underlying58
 go_enter Tryd.func21, Tryd.ntmps21
 go_wp2_with fail
 refine (split_bad_any g false _ ?_).mono ?_
 ·exact (blk_cell (HS.out.below (below_alloc (below_alloc (Below.refl _ _) _) _)).blk 2).trans rfl
 rintro e w1 ⟨rfl, rfl⟩
 have hN0 : Ng wb w ((w.alloc (.cells #[.bool false, .int .u8 0, .bool false, .int .u32 0, .slice none 0 0] 52)).alloc (.cells #[.int .u8 0, .int .u32 0] 58)) g (.slice Av l.length cv) m l := ⟨below_alloc (below_alloc (Below.refl _ _) _) _, HS.out.below (below_alloc (below_alloc (Below.refl _ _) _) _), blk_alloc (last_at _ _ _ rfl) _, last_at _ _ _ (by simp)⟩
 generalize (w.alloc (.cells #[.bool false, .int .u8 0, .bool false, .int .u32 0, .slice none 0 0] 52)).alloc (.cells #[.int .u8 0, .int .u32 0] 58) = w1 at hN0 ⊢
 have HN0 := Aside0.mk hN0
 clear hN0 c2 HS
 go_upto_region 3 with fail
 refine wp_region_noPanic ?_
 refine wp_region_held_drew (S := fun w' => Aside0 (Ng wb w w' g (.slice Av l.length cv) m l) ∧ w'.cell? ⟨g, 0, none⟩ = some (.slice Av l.length cv) ∧ w'.cell? ⟨g, 1, none⟩ = some (.bool m)) (by kernel_rfl) (NS.mk (HN0.out.below (below_drew (Below.refl _ _)))) (fun hHeld => ?_)
 refine takeP 0 15 ?_
 refine takeP 1 16 ?_
 refine takeP 2 17 ?_
 refine takeP 3 18 ?_
 refine takeP 4 19 ?_
 refine takeP 5 20 ?_
 refine takeP 6 21 ?_
 refine takeP 7 22 ?_
 refine wpAnyH_ready (rs := [8, 13]) (by kernel_rfl) (by simp) ?_
 refine AllReadyH.cons rfl (fun K hK => ?_) (AllReadyH.cons rfl (fun K hK => ?_) AllReadyH.nil)
 ·go_simp
  go_at_call 33
  with_reducible refine (wsframe_Head.calls Av cv l m r1 r2 r3 false _ (Kd.R_reads' hHeld.1.out.sp.row).2.2 (Kd.R_reads' hHeld.1.out.sp.row).2.1 HH.out (HC.out.below hHeld.1.out.bel)).mono ?_
  rintro e w2 ⟨rfl, hb⟩
  have HG2 := Aside0.mk (hHeld.1.out.below hb)
  clear hb
  refine hK.out _ _ (NS.mk HG2.out) (fun hHeld => ?_)
  clear hK K
  try simp only [Act.put, z1_, z2_, z3_]
  refine takeP 9 14 ?_
  refine takeP 10 24 ?_
  refine takeP 11 25 ?_
  refine takeP 12 26 ?_
  refine wpAnyH_ready (rs := [13]) (by kernel_rfl) (by simp) ?_
  refine AllReadyH.cons rfl (fun K hK => ?_) AllReadyH.nil
  go_simp
  refine hK.out _ _ (NS.mk (HG2.out.below (below_alloc (Below.refl _ _) _))) (fun hHeld => ?_)
  clear hK K
  try simp only [Act.put, z1_, z2_, z3_]
  refine takeP 14 5 ?_
  refine wpAnyH_ready (rs := [15]) (by kernel_rfl) (by simp) ?_
  refine AllReadyH.cons rfl (fun K hK => ?_) AllReadyH.nil
  go_simp
  refine hK.out _ _ (NS.mk (HG2.out.below (below_alloc (Below.refl _ _) _))) (fun hHeld => ?_)
  clear hK K
  try simp only [Act.put, z1_, z2_, z3_]
  refine takeP 16 7 ?_
  refine wpAnyH_done (by kernel_rfl) ?_ _
  refine NoPanic.normal ?_
  have hG6 := hHeld.1.out
  clear hHeld
  have hbox : (w2.alloc (.cells #[.int .u8 r2, .int .u32 r3] 58)).heap[w2.heap.size]? = some (.cells #[.int .u8 r2, .int .u32 r3] 58 (0, 0)) := last_at w2 _ _ rfl
  have hgl2 := HG2.out.lt
  generalize w2.alloc (.cells #[.int .u8 r2, .int .u32 r3] 58) = W6 at hG6 hbox ⊢
  generalize w2.heap.size = gb at hbox hgl2 ⊢
  clear HG2 HN0
  have HG := Aside0.mk hG6
  have HBX6 := Aside0.mk hbox
  have k0 : W6.cell? ⟨gb, 0, none⟩ = some (.int .u8 r2) := (blk_cell hbox 0).trans rfl
  have k1 : W6.cell? ⟨gb, 1, none⟩ = some (.int .u32 r3) := (blk_cell hbox 1).trans rfl
  have kf0 := blk_frozen hbox 0
  have kf1 := blk_frozen hbox 1
  have kl := blk_lt hbox
  clear hG6 hbox
  have p0 : W6.cell? ⟨w.heap.size, 0, none⟩ = some (.bool false) := (blk_cell HG.out.piece 0).trans rfl
  have pf0 := blk_frozen HG.out.piece 0
  have p1 : W6.cell? ⟨w.heap.size, 1, none⟩ = some (.int .u8 0) := (blk_cell HG.out.piece 1).trans rfl
  have pf1 := blk_frozen HG.out.piece 1
  have p2 : W6.cell? ⟨w.heap.size, 2, none⟩ = some (.bool false) := (blk_cell HG.out.piece 2).trans rfl
  have pf2 := blk_frozen HG.out.piece 2
  have p3 : W6.cell? ⟨w.heap.size, 3, none⟩ = some (.int .u32 0) := (blk_cell HG.out.piece 3).trans rfl
  have pf3 := blk_frozen HG.out.piece 3
  have p4 : W6.cell? ⟨w.heap.size, 4, none⟩ = some (.slice none 0 0) := (blk_cell HG.out.piece 4).trans rfl
  have pf4 := blk_frozen HG.out.piece 4
  have r0_ : W6.cell? ⟨w.heap.size + 1, 0, none⟩ = some (.int .u8 0) := (blk_cell HG.out.fault 0).trans rfl
  have rf0 := blk_frozen HG.out.fault 0
  have r1_ : W6.cell? ⟨w.heap.size + 1, 1, none⟩ = some (.int .u32 0) := (blk_cell HG.out.fault 1).trans rfl
  have rf1 := blk_frozen HG.out.fault 1
  have pl := blk_lt HG.out.piece
  have rl := blk_lt HG.out.fault
  have q0 : W6.cell? ⟨g, 0, none⟩ = some (.slice Av l.length cv) := (blk_cell HG.out.sp.blk 0).trans rfl
  have q1 : W6.cell? ⟨g, 1, none⟩ = some (.bool m) := (blk_cell HG.out.sp.blk 1).trans rfl
  have hle0 : w.heap.size ≤ w.heap.size := Nat.le_refl _
  have hle1 : w.heap.size ≤ w.heap.size + 1 := by omega
  go_wp2_with fail
  exact bodyPost_ret (v := .tuple #[.agg #[.bool false, .int .u8 0, .bool false, .int .u32 0, .slice none 0 0], .agg #[.int .u8 0, .int .u32 0], .bool false]) (by simp [results, Tryd.results21, go_sem, p0, p1, p2, p3, p4, r0_, r1_]) rfl ⟨rfl, Below.setCell (Below.setCell (Below.setCell (Below.setCell (Below.setCell (Below.setCell (Below.setCell HG.out.bel hle0 _) hle0 _) hle0 _) hle0 _) hle0 _) hle1 _) hle1 _⟩
 ·have HW1 := Aside0.mk hHeld.1.out
  go_simp
  refine hK.out _ _ (NS.mk (HW1.out.below (below_alloc (Below.refl _ _) _))) (fun hHeld => ?_)
  clear hK K
  try simp only [Act.put, z1_, z2_, z3_]
  refine wpAnyH_ready (rs := [8]) (by kernel_rfl) (by simp) ?_
  refine AllReadyH.cons rfl (fun K hK => ?_) AllReadyH.nil
  go_simp
  go_at_call 33
  with_reducible refine (wsframe_Head.calls Av cv l m r1 r2 r3 false _ (Kd.R_reads' hHeld.1.out.sp.row).2.2 (Kd.R_reads' hHeld.1.out.sp.row).2.1 HH.out (HC.out.below hHeld.1.out.bel)).mono ?_
  rintro e w2 ⟨rfl, hb⟩
  have HG2 := Aside0.mk (hHeld.1.out.below hb)
  have hbx : w2.heap[w1.heap.size]? = some (.cells #[.int .u8 0, .int .u32 0] 58 (0, 0)) := blk_below (blk_drew (last_at w1 _ _ rfl)) hb
  have bc0 : w2.cell? ⟨w1.heap.size, 0, none⟩ = some (.int .u8 0) := (blk_cell hbx 0).trans rfl
  have bf0 := blk_frozen hbx 0
  have bc1 : w2.cell? ⟨w1.heap.size, 1, none⟩ = some (.int .u32 0) := (blk_cell hbx 1).trans rfl
  have bf1 := blk_frozen hbx 1
  have bl := blk_lt hbx
  have hgl2 : w.heap.size + 1 < w1.heap.size := HN0.out.lt
  have hgl3 : g < w1.heap.size := blk_lt HN0.out.sp.blk
  have HBX := Aside0.mk hbx
  clear hbx
  clear hb
  refine hK.out _ _ (NS.mk HG2.out) (fun hHeld => ?_)
  clear hK K
  try simp only [Act.put, z1_, z2_, z3_]
  refine takeP 9 14 ?_
  refine takeP 10 24 ?_
  refine takeP 11 25 ?_
  refine takeP 12 26 ?_
  refine takeP 14 5 ?_
  refine wpAnyH_ready (rs := [15]) (by kernel_rfl) (by simp) ?_
  refine AllReadyH.cons rfl (fun K hK => ?_) AllReadyH.nil
  go_simp
  refine hK.out _ _ (NS.mk (Ng.put2 HG2.out hgl2 hgl3 HBX.out _ _)) (fun hHeld => ?_)
  clear hK K
  try simp only [Act.put, z1_, z2_, z3_]
  refine takeP 16 7 ?_
  refine wpAnyH_done (by kernel_rfl) ?_ _
  refine NoPanic.normal ?_
  have hG6 := hHeld.1.out
  clear hHeld bc0 bc1 bf0 bf1 bl
  have hbox := blk_put (blk_put HBX.out 0 (.int .u8 r2) rfl) 1 (.int .u32 r3) rfl
  generalize ((w2.setCell ⟨w1.heap.size, 0, none⟩ (.int .u8 r2)).setCell ⟨w1.heap.size, 1, none⟩ (.int .u32 r3)) = W6 at hG6 hbox ⊢
  generalize w1.heap.size = gb at hbox hgl2 ⊢
  clear HG2 HN0
  have HG := Aside0.mk hG6
  have HBX6 := Aside0.mk hbox
  have k0 : W6.cell? ⟨gb, 0, none⟩ = some (.int .u8 r2) := (blk_cell hbox 0).trans rfl
  have k1 : W6.cell? ⟨gb, 1, none⟩ = some (.int .u32 r3) := (blk_cell hbox 1).trans rfl
  have kf0 := blk_frozen hbox 0
  have kf1 := blk_frozen hbox 1
  have kl := blk_lt hbox
  clear hG6 hbox
  have p0 : W6.cell? ⟨w.heap.size, 0, none⟩ = some (.bool false) := (blk_cell HG.out.piece 0).trans rfl
  have pf0 := blk_frozen HG.out.piece 0
  have p1 : W6.cell? ⟨w.heap.size, 1, none⟩ = some (.int .u8 0) := (blk_cell HG.out.piece 1).trans rfl
  have pf1 := blk_frozen HG.out.piece 1
  have p2 : W6.cell? ⟨w.heap.size, 2, none⟩ = some (.bool false) := (blk_cell HG.out.piece 2).trans rfl
  have pf2 := blk_frozen HG.out.piece 2
  have p3 : W6.cell? ⟨w.heap.size, 3, none⟩ = some (.int .u32 0) := (blk_cell HG.out.piece 3).trans rfl
  have pf3 := blk_frozen HG.out.piece 3
  have p4 : W6.cell? ⟨w.heap.size, 4, none⟩ = some (.slice none 0 0) := (blk_cell HG.out.piece 4).trans rfl
  have pf4 := blk_frozen HG.out.piece 4
  have r0_ : W6.cell? ⟨w.heap.size + 1, 0, none⟩ = some (.int .u8 0) := (blk_cell HG.out.fault 0).trans rfl
  have rf0 := blk_frozen HG.out.fault 0
  have r1_ : W6.cell? ⟨w.heap.size + 1, 1, none⟩ = some (.int .u32 0) := (blk_cell HG.out.fault 1).trans rfl
  have rf1 := blk_frozen HG.out.fault 1
  have pl := blk_lt HG.out.piece
  have rl := blk_lt HG.out.fault
  have q0 : W6.cell? ⟨g, 0, none⟩ = some (.slice Av l.length cv) := (blk_cell HG.out.sp.blk 0).trans rfl
  have q1 : W6.cell? ⟨g, 1, none⟩ = some (.bool m) := (blk_cell HG.out.sp.blk 1).trans rfl
  have hle0 : w.heap.size ≤ w.heap.size := Nat.le_refl _
  have hle1 : w.heap.size ≤ w.heap.size + 1 := by omega
  go_wp2_with fail
  exact bodyPost_ret (v := .tuple #[.agg #[.bool false, .int .u8 0, .bool false, .int .u32 0, .slice none 0 0], .agg #[.int .u8 0, .int .u32 0], .bool false]) (by simp [results, Tryd.results21, go_sem, p0, p1, p2, p3, p4, r0_, r1_]) rfl ⟨rfl, Below.setCell (Below.setCell (Below.setCell (Below.setCell (Below.setCell (Below.setCell (Below.setCell HG.out.bel hle0 _) hle0 _) hle0 _) hle0 _) hle0 _) hle1 _) hle1 _⟩
set_option maxHeartbeats 8000000 in
set_option maxRecDepth 100000 in
theorem split_next_more (wb w : World) (g : Nat) (v : Value) (m : Bool) (l : List Int) (r1 r2 r3 : Int) (r4 : Bool) (h : Sp wb w g v m false l) (hg : Cond w) (hh : wsframe_Head.f l m = some (r1, r2, r3, r4)) (h4 : r4 = true) (h2 : r2 = 0) (h3 : r3 = 0) (h1 : decide ((l.length : Int) < r1) = true) : Calls Tryd.prog 21 #[.pointer (some ⟨g, 0, none⟩)] w fun e w' => e = .returned (.tuple #[.agg #[.bool false, .int .u8 0, .bool false, .int .u32 0, .slice none 0 0], .agg #[.int .u8 0, .int .u32 0], .bool false]) ∧ Below w.heap.size w w' := by
 subst h4 h2 h3
 obtain ⟨Av, cv, rfl⟩ := Kd.R_slice h.row
 have c2 : w.cell? ⟨g, 2, none⟩ = some (.bool false) := (blk_cell h.blk 2).trans rfl
 have hgl := blk_lt h.blk
 have HS := Aside0.mk h
 have HC := Aside0.mk hg
 have HH := Aside0.mk hh
 clear h hg hh
 have hu31 := Tryd.underlying52
 have hu33 := Tryd.underlying58
 go_enter Tryd.func21, Tryd.ntmps21
 go_wp2_with fail
 refine (split_bad_any g false _ ?_).mono ?_
 ·exact (blk_cell (HS.out.below (below_alloc (below_alloc (Below.refl _ _) _) _)).blk 2).trans rfl
 rintro e w1 ⟨rfl, rfl⟩
 have hN0 : Ng wb w ((w.alloc (.cells #[.bool false, .int .u8 0, .bool false, .int .u32 0, .slice none 0 0] 52)).alloc (.cells #[.int .u8 0, .int .u32 0] 58)) g (.slice Av l.length cv) m l := ⟨below_alloc (below_alloc (Below.refl _ _) _) _, HS.out.below (below_alloc (below_alloc (Below.refl _ _) _) _), blk_alloc (last_at _ _ _ rfl) _, last_at _ _ _ (by simp)⟩
 generalize (w.alloc (.cells #[.bool false, .int .u8 0, .bool false, .int .u32 0, .slice none 0 0] 52)).alloc (.cells #[.int .u8 0, .int .u32 0] 58) = w1 at hN0 ⊢
 have HN0 := Aside0.mk hN0
 clear hN0 c2 HS
 go_upto_region 3 with fail
 refine wp_region_noPanic ?_
 refine wp_region_held_drew (S := fun w' => Aside0 (Ng wb w w' g (.slice Av l.length cv) m l) ∧ w'.cell? ⟨g, 0, none⟩ = some (.slice Av l.length cv) ∧ w'.cell? ⟨g, 1, none⟩ = some (.bool m)) (by kernel_rfl) (NS.mk (HN0.out.below (below_drew (Below.refl _ _)))) (fun hHeld => ?_)
 refine takeP 0 15 ?_
 refine takeP 1 16 ?_
 refine takeP 2 17 ?_
 refine takeP 3 18 ?_
 refine takeP 4 19 ?_
 refine takeP 5 20 ?_
 refine takeP 6 21 ?_
 refine takeP 7 22 ?_
 refine wpAnyH_ready (rs := [8, 13]) (by kernel_rfl) (by simp) ?_
 refine AllReadyH.cons rfl (fun K hK => ?_) (AllReadyH.cons rfl (fun K hK => ?_) AllReadyH.nil)
 ·go_simp
  go_at_call 33
  with_reducible refine (wsframe_Head.calls Av cv l m r1 0 0 true _ (Kd.R_reads' hHeld.1.out.sp.row).2.2 (Kd.R_reads' hHeld.1.out.sp.row).2.1 HH.out (HC.out.below hHeld.1.out.bel)).mono ?_
  rintro e w2 ⟨rfl, hb⟩
  have HG2 := Aside0.mk (hHeld.1.out.below hb)
  clear hb
  refine hK.out _ _ (NS.mk HG2.out) (fun hHeld => ?_)
  clear hK K
  try simp only [Act.put, z1_, z2_, z3_]
  refine takeP 9 14 ?_
  refine takeP 10 24 ?_
  refine takeP 11 25 ?_
  refine takeP 12 26 ?_
  refine wpAnyH_ready (rs := [13]) (by kernel_rfl) (by simp) ?_
  refine AllReadyH.cons rfl (fun K hK => ?_) AllReadyH.nil
  go_simp
  refine hK.out _ _ (NS.mk (HG2.out.below (below_alloc (Below.refl _ _) _))) (fun hHeld => ?_)
  clear hK K
  try simp only [Act.put, z1_, z2_, z3_]
  refine takeP 14 5 ?_
  refine wpAnyH_ready (rs := [15]) (by kernel_rfl) (by simp) ?_
  refine AllReadyH.cons rfl (fun K hK => ?_) AllReadyH.nil
  go_simp
  refine hK.out _ _ (NS.mk (HG2.out.below (below_alloc (Below.refl _ _) _))) (fun hHeld => ?_)
  clear hK K
  try simp only [Act.put, z1_, z2_, z3_]
  refine takeP 16 7 ?_
  refine wpAnyH_done (by kernel_rfl) ?_ _
  refine NoPanic.normal ?_
  have hG6 := hHeld.1.out
  clear hHeld
  have hbox : (w2.alloc (.cells #[.int .u8 0, .int .u32 0] 58)).heap[w2.heap.size]? = some (.cells #[.int .u8 0, .int .u32 0] 58 (0, 0)) := last_at w2 _ _ rfl
  have hgl2 := HG2.out.lt
  generalize w2.alloc (.cells #[.int .u8 0, .int .u32 0] 58) = W6 at hG6 hbox ⊢
  generalize w2.heap.size = gb at hbox hgl2 ⊢
  clear HG2 HN0
  have HG := Aside0.mk hG6
  have HBX6 := Aside0.mk hbox
  have k0 : W6.cell? ⟨gb, 0, none⟩ = some (.int .u8 0) := (blk_cell hbox 0).trans rfl
  have k1 : W6.cell? ⟨gb, 1, none⟩ = some (.int .u32 0) := (blk_cell hbox 1).trans rfl
  have kf0 := blk_frozen hbox 0
  have kf1 := blk_frozen hbox 1
  have kl := blk_lt hbox
  clear hG6 hbox
  have p0 : W6.cell? ⟨w.heap.size, 0, none⟩ = some (.bool false) := (blk_cell HG.out.piece 0).trans rfl
  have pf0 := blk_frozen HG.out.piece 0
  have p1 : W6.cell? ⟨w.heap.size, 1, none⟩ = some (.int .u8 0) := (blk_cell HG.out.piece 1).trans rfl
  have pf1 := blk_frozen HG.out.piece 1
  have p2 : W6.cell? ⟨w.heap.size, 2, none⟩ = some (.bool false) := (blk_cell HG.out.piece 2).trans rfl
  have pf2 := blk_frozen HG.out.piece 2
  have p3 : W6.cell? ⟨w.heap.size, 3, none⟩ = some (.int .u32 0) := (blk_cell HG.out.piece 3).trans rfl
  have pf3 := blk_frozen HG.out.piece 3
  have p4 : W6.cell? ⟨w.heap.size, 4, none⟩ = some (.slice none 0 0) := (blk_cell HG.out.piece 4).trans rfl
  have pf4 := blk_frozen HG.out.piece 4
  have r0_ : W6.cell? ⟨w.heap.size + 1, 0, none⟩ = some (.int .u8 0) := (blk_cell HG.out.fault 0).trans rfl
  have rf0 := blk_frozen HG.out.fault 0
  have r1_ : W6.cell? ⟨w.heap.size + 1, 1, none⟩ = some (.int .u32 0) := (blk_cell HG.out.fault 1).trans rfl
  have rf1 := blk_frozen HG.out.fault 1
  have pl := blk_lt HG.out.piece
  have rl := blk_lt HG.out.fault
  have q0 : W6.cell? ⟨g, 0, none⟩ = some (.slice Av l.length cv) := (blk_cell HG.out.sp.blk 0).trans rfl
  have q1 : W6.cell? ⟨g, 1, none⟩ = some (.bool m) := (blk_cell HG.out.sp.blk 1).trans rfl
  have hle0 : w.heap.size ≤ w.heap.size := Nat.le_refl _
  have hle1 : w.heap.size ≤ w.heap.size + 1 := by omega
  go_wp2_with fail
  exact bodyPost_ret (v := .tuple #[.agg #[.bool false, .int .u8 0, .bool false, .int .u32 0, .slice none 0 0], .agg #[.int .u8 0, .int .u32 0], .bool false]) (by simp [results, Tryd.results21, go_sem, p0, p1, p2, p3, p4, r0_, r1_]) rfl ⟨rfl, Below.setCell (Below.setCell (Below.setCell (Below.setCell (Below.setCell (Below.setCell (Below.setCell HG.out.bel hle0 _) hle0 _) hle0 _) hle0 _) hle0 _) hle1 _) hle1 _⟩
 ·have HW1 := Aside0.mk hHeld.1.out
  go_simp
  refine hK.out _ _ (NS.mk (HW1.out.below (below_alloc (Below.refl _ _) _))) (fun hHeld => ?_)
  clear hK K
  try simp only [Act.put, z1_, z2_, z3_]
  refine wpAnyH_ready (rs := [8]) (by kernel_rfl) (by simp) ?_
  refine AllReadyH.cons rfl (fun K hK => ?_) AllReadyH.nil
  go_simp
  go_at_call 33
  with_reducible refine (wsframe_Head.calls Av cv l m r1 0 0 true _ (Kd.R_reads' hHeld.1.out.sp.row).2.2 (Kd.R_reads' hHeld.1.out.sp.row).2.1 HH.out (HC.out.below hHeld.1.out.bel)).mono ?_
  rintro e w2 ⟨rfl, hb⟩
  have HG2 := Aside0.mk (hHeld.1.out.below hb)
  have hbx : w2.heap[w1.heap.size]? = some (.cells #[.int .u8 0, .int .u32 0] 58 (0, 0)) := blk_below (blk_drew (last_at w1 _ _ rfl)) hb
  have bc0 : w2.cell? ⟨w1.heap.size, 0, none⟩ = some (.int .u8 0) := (blk_cell hbx 0).trans rfl
  have bf0 := blk_frozen hbx 0
  have bc1 : w2.cell? ⟨w1.heap.size, 1, none⟩ = some (.int .u32 0) := (blk_cell hbx 1).trans rfl
  have bf1 := blk_frozen hbx 1
  have bl := blk_lt hbx
  have hgl2 : w.heap.size + 1 < w1.heap.size := HN0.out.lt
  have hgl3 : g < w1.heap.size := blk_lt HN0.out.sp.blk
  have HBX := Aside0.mk hbx
  clear hbx
  clear hb
  refine hK.out _ _ (NS.mk HG2.out) (fun hHeld => ?_)
  clear hK K
  try simp only [Act.put, z1_, z2_, z3_]
  refine takeP 9 14 ?_
  refine takeP 10 24 ?_
  refine takeP 11 25 ?_
  refine takeP 12 26 ?_
  refine takeP 14 5 ?_
  refine wpAnyH_ready (rs := [15]) (by kernel_rfl) (by simp) ?_
  refine AllReadyH.cons rfl (fun K hK => ?_) AllReadyH.nil
  go_simp
  refine hK.out _ _ (NS.mk (Ng.put2 HG2.out hgl2 hgl3 HBX.out _ _)) (fun hHeld => ?_)
  clear hK K
  try simp only [Act.put, z1_, z2_, z3_]
  refine takeP 16 7 ?_
  refine wpAnyH_done (by kernel_rfl) ?_ _
  refine NoPanic.normal ?_
  have hG6 := hHeld.1.out
  clear hHeld bc0 bc1 bf0 bf1 bl
  have hbox := blk_put (blk_put HBX.out 0 (.int .u8 0) rfl) 1 (.int .u32 0) rfl
  generalize ((w2.setCell ⟨w1.heap.size, 0, none⟩ (.int .u8 0)).setCell ⟨w1.heap.size, 1, none⟩ (.int .u32 0)) = W6 at hG6 hbox ⊢
  generalize w1.heap.size = gb at hbox hgl2 ⊢
  clear HG2 HN0
  have HG := Aside0.mk hG6
  have HBX6 := Aside0.mk hbox
  have k0 : W6.cell? ⟨gb, 0, none⟩ = some (.int .u8 0) := (blk_cell hbox 0).trans rfl
  have k1 : W6.cell? ⟨gb, 1, none⟩ = some (.int .u32 0) := (blk_cell hbox 1).trans rfl
  have kf0 := blk_frozen hbox 0
  have kf1 := blk_frozen hbox 1
  have kl := blk_lt hbox
  clear hG6 hbox
  have p0 : W6.cell? ⟨w.heap.size, 0, none⟩ = some (.bool false) := (blk_cell HG.out.piece 0).trans rfl
  have pf0 := blk_frozen HG.out.piece 0
  have p1 : W6.cell? ⟨w.heap.size, 1, none⟩ = some (.int .u8 0) := (blk_cell HG.out.piece 1).trans rfl
  have pf1 := blk_frozen HG.out.piece 1
  have p2 : W6.cell? ⟨w.heap.size, 2, none⟩ = some (.bool false) := (blk_cell HG.out.piece 2).trans rfl
  have pf2 := blk_frozen HG.out.piece 2
  have p3 : W6.cell? ⟨w.heap.size, 3, none⟩ = some (.int .u32 0) := (blk_cell HG.out.piece 3).trans rfl
  have pf3 := blk_frozen HG.out.piece 3
  have p4 : W6.cell? ⟨w.heap.size, 4, none⟩ = some (.slice none 0 0) := (blk_cell HG.out.piece 4).trans rfl
  have pf4 := blk_frozen HG.out.piece 4
  have r0_ : W6.cell? ⟨w.heap.size + 1, 0, none⟩ = some (.int .u8 0) := (blk_cell HG.out.fault 0).trans rfl
  have rf0 := blk_frozen HG.out.fault 0
  have r1_ : W6.cell? ⟨w.heap.size + 1, 1, none⟩ = some (.int .u32 0) := (blk_cell HG.out.fault 1).trans rfl
  have rf1 := blk_frozen HG.out.fault 1
  have pl := blk_lt HG.out.piece
  have rl := blk_lt HG.out.fault
  have q0 : W6.cell? ⟨g, 0, none⟩ = some (.slice Av l.length cv) := (blk_cell HG.out.sp.blk 0).trans rfl
  have q1 : W6.cell? ⟨g, 1, none⟩ = some (.bool m) := (blk_cell HG.out.sp.blk 1).trans rfl
  have hle0 : w.heap.size ≤ w.heap.size := Nat.le_refl _
  have hle1 : w.heap.size ≤ w.heap.size + 1 := by omega
  go_wp2_with fail
  exact bodyPost_ret (v := .tuple #[.agg #[.bool false, .int .u8 0, .bool false, .int .u32 0, .slice none 0 0], .agg #[.int .u8 0, .int .u32 0], .bool false]) (by simp [results, Tryd.results21, go_sem, p0, p1, p2, p3, p4, r0_, r1_]) rfl ⟨rfl, Below.setCell (Below.setCell (Below.setCell (Below.setCell (Below.setCell (Below.setCell (Below.setCell HG.out.bel hle0 _) hle0 _) hle0 _) hle0 _) hle0 _) hle1 _) hle1 _⟩
end Go.Proofs.YtpmeapdcjmaeiaaDoor.PAll
namespace Go.Proofs.YtpmeapdcjmaeiaaDoor.PAll
open Go.RowKit Go.Proofs.YtpmeapdcjmaeiaaDoorW.PrintWords Go.Proofs.YtpmeapdcjmaeiaaDoorW.PrintLast Go.Proofs.YtpmeapdcjmaeiaaDoorW.PrintMore
theorem put5s {W : World} {g : Nat} {t : TypeId} {a0 a1 a2 a3 a4 : Value} (h : W.heap[g]? = some (.cells #[a0, a1, a2, a3, a4] t (0, 0))) (v0 v1 v2 v3 v4 : Value) : (((((W.setCell ⟨g, 0, none⟩ v0).setCell ⟨g, 1, none⟩ v1).setCell ⟨g, 2, none⟩ v2).setCell ⟨g, 3, none⟩ v3).setCell ⟨g, 4, none⟩ v4).heap[g]? = some (.cells #[v0, v1, v2, v3, v4] t (0, 0)) :=
 blk_put (blk_put (blk_put (blk_put (blk_put h 0 v0 rfl) 1 v1 rfl) 2 v2 rfl) 3 v3 rfl) 4 v4 rfl
theorem takeS (i : Nat) (n : Tmp) {P : Program} {md : Region.Mode} {ops : Array Oper} {Q : Exit → Act → World → Prop} {S : World → Prop} {oi : Oper} {v : Value} {fuel : Nat} {listed : Array Bool} {a a' : Act} {w : World}
  (h : wpAnyH P md ops Q S fuel (listed.setIfInBounds i true) a' w) (hi : ops[i]? = some oi := by rfl) (hN : oi.dst = some n := by rfl)
  (hs : Region.noSelect ops = true := by kernel_rfl) (hf : Region.free md ops listed i = true := by kernel_rfl) (hr : (Region.ready md ops listed).contains i = true := by kernel_rfl)
  (hQ : ∀ c a w, Q (.panic c) (a.put oi.dst v) w → Q (.panic c) a w := by exact fun _ _ _ h => h)
  (hy : YieldsIf P ops S oi v a := by (refine Or.inl ⟨by rfl, ?_⟩; intro w_ hSw_; go_simp; first | done | (with_reducible rfl)))
  (ha : a.put (some n) v = a' := by (simp only [Act.put, z1_, z2_, z3_]; rfl)) (hS : S w := by assumption) : wpAnyH P md ops Q S (fuel + 1) listed a w :=
 takeN hi hN hs hf hr hQ hy ha hS h
theorem keep5 (W : World) (k : Nat) (a b c d e : Value) (j : Nat) (hj : j ≠ k) : (((((W.setCell ⟨k, 0, none⟩ a).setCell ⟨k, 1, none⟩ b).setCell ⟨k, 2, none⟩ c).setCell ⟨k, 3, none⟩ d).setCell ⟨k, 4, none⟩ e).heap[j]? = W.heap[j]? := (Below.heap_setCell _ _ _ _ hj).trans ((Below.heap_setCell _ _ _ _ hj).trans ((Below.heap_setCell _ _ _ _ hj).trans ((Below.heap_setCell _ _ _ _ hj).trans (Below.heap_setCell _ _ _ _ hj))))
theorem keep2 (W : World) (k : Nat) (a b : Value) (j : Nat) (hj : j ≠ k) : ((W.setCell ⟨k, 0, none⟩ a).setCell ⟨k, 1, none⟩ b).heap[j]? = W.heap[j]? := (Below.heap_setCell _ _ _ _ hj).trans (Below.heap_setCell _ _ _ _ hj)
theorem row5 {W : World} {n k : Nat} {v : Value} {l : List Int} {cs : Array Value} (h : Kd.R (Kd.int .u8) 5 W n (fun _ => True) v l) (hb : W.heap[k]? = some (.cells cs 52 (0, 0))) (a b c d e : Value) : Kd.R (Kd.int .u8) 5 (((((W.setCell ⟨k, 0, none⟩ a).setCell ⟨k, 1, none⟩ b).setCell ⟨k, 2, none⟩ c).setCell ⟨k, 3, none⟩ d).setCell ⟨k, 4, none⟩ e) n (fun _ => True) v l :=
 Kd.R_mono (Kd.R_far (Kd.R_far (Kd.R_far (Kd.R_far (Kd.R_far (Kd.R_types h hb (by intro q hq; simp [Kd.int, Kd.scalar] at hq; omega)) (p := ⟨k, 0, none⟩) (fun j hj => hj.2) a) (p := ⟨k, 1, none⟩) (fun j hj => hj.2) b) (p := ⟨k, 2, none⟩) (fun j hj => hj.2) c) (p := ⟨k, 3, none⟩) (fun j hj => hj.2) d) (p := ⟨k, 4, none⟩) (fun j hj => hj.2) e) (fun _ _ => trivial)
theorem row2 {W : World} {n k : Nat} {v : Value} {l : List Int} {cs : Array Value} (h : Kd.R (Kd.int .u8) 5 W n (fun _ => True) v l) (hb : W.heap[k]? = some (.cells cs 58 (0, 0))) (a b : Value) : Kd.R (Kd.int .u8) 5 ((W.setCell ⟨k, 0, none⟩ a).setCell ⟨k, 1, none⟩ b) n (fun _ => True) v l :=
 Kd.R_mono (Kd.R_far (Kd.R_far (Kd.R_types h hb (by intro q hq; simp [Kd.int, Kd.scalar] at hq; omega)) (p := ⟨k, 0, none⟩) (fun j hj => hj.2) a) (p := ⟨k, 1, none⟩) (fun j hj => hj.2) b) (fun _ _ => trivial)
theorem Ng.put5 {wb w W : World} {g k : Nat} {v : Value} {m : Bool} {l : List Int} {cs : Array Value} (h : Ng wb w W g v m l) (h1 : w.heap.size + 1 < k) (h2 : g < k) (hb : W.heap[k]? = some (.cells cs 52 (0, 0))) (a b c d e : Value) : Ng wb w (((((W.setCell ⟨k, 0, none⟩ a).setCell ⟨k, 1, none⟩ b).setCell ⟨k, 2, none⟩ c).setCell ⟨k, 3, none⟩ d).setCell ⟨k, 4, none⟩ e) g v m l := by
 have h0 := keep5 W k a b c d e
 exact ⟨Below.setCell (Below.setCell (Below.setCell (Below.setCell (Below.setCell h.bel (by show _ ≤ k; omega) _) (by show _ ≤ k; omega) _) (by show _ ≤ k; omega) _) (by show _ ≤ k; omega) _) (by show _ ≤ k; omega) _, ⟨(h0 g (by omega)).trans h.sp.blk, row5 h.sp.row hb a b c d e⟩, (h0 _ (by omega)).trans h.piece, (h0 _ (by omega)).trans h.fault⟩
structure FinS (wb w W : World) (g : Nat) (m : Bool) (v : Value) (d : List Int) (pv : Value) (p : List Int) : Prop where
 bel : Below wb.heap.size wb W
 base : wb.heap.size ≤ w.heap.size
 old : ∀ k, k < w.heap.size → k ≠ g → W.heap[k]? = w.heap[k]?
 low : g < w.heap.size
 blk : W.heap[g]? = some (.cells #[v, .bool m, .bool false] 71 (0, 0))
 row : Kd.R (Kd.int .u8) 5 W w.heap.size (fun _ => True) v d
 prow : Kd.R (Kd.int .u8) 5 W w.heap.size (fun _ => True) pv p
 piece : W.heap[w.heap.size]? = some (.cells #[.bool false, .int .u8 0, .bool false, .int .u32 0, .slice none 0 0] 52 (0, 0))
 fault : W.heap[w.heap.size + 1]? = some (.cells #[.int .u8 0, .int .u32 0] 58 (0, 0))
 ne : ∀ k, pv.ownBlock = some k → v.ownBlock ≠ some k
theorem FinS.of {wb w W : World} {g : Nat} {m : Bool} {v v1 : Value} {l d : List Int} {pv : Value} {p : List Int} (h : Ng wb w W g v1 m l) (hB : Below wb.heap.size wb w) (hgb : wb.heap.size ≤ g) (hgl : g < w.heap.size) (hd : Kd.R (Kd.int .u8) 5 W w.heap.size (fun _ => True) v d) (hp : Kd.R (Kd.int .u8) 5 W w.heap.size (fun _ => True) pv p) (hne : ∀ k, pv.ownBlock = some k → v.ownBlock ≠ some k) : FinS wb w (W.setCell ⟨g, 0, none⟩ v) g m v d pv p := by
 have h0 : ∀ j, j ≠ g → (W.setCell ⟨g, 0, none⟩ v).heap[j]? = W.heap[j]? := fun j hj => Below.heap_setCell _ _ _ _ hj
 have hr : ∀ {v : Value} {d : List Int} (u : Value), Kd.R (Kd.int .u8) 5 W w.heap.size (fun _ => True) v d → Kd.R (Kd.int .u8) 5 (W.setCell ⟨g, 0, none⟩ u) w.heap.size (fun _ => True) v d := fun u hd => Kd.R_mono (Kd.R_far (Kd.R_types hd h.sp.blk (by intro q hq; simp [Kd.int, Kd.scalar] at hq; omega)) (p := ⟨g, 0, none⟩) (fun j hj => hj.2) u) (fun _ _ => trivial)
 exact ⟨Below.setCell (below_step hB h.bel) (by show _ ≤ g; omega) _, hB.size, fun k hk hkg => (h0 k hkg).trans (h.bel.block k hk), hgl, blk_put h.sp.blk 0 v rfl, hr v hd, hr v hp, (h0 _ (by omega)).trans h.piece, (h0 _ (by omega)).trans h.fault, hne⟩
def NextPost (wb : World) (g : Nat) (m : Bool) (d : List Int) (s1 : Bool) (s2 : Int) (s3 : Bool) (s4 : Int) (s5 : List Int) (w : World) (e : Ending) (w' : World) : Prop := ∃ v pv, e = .returned (.tuple #[.agg #[.bool s1, .int .u8 s2, .bool s3, .int .u32 s4, pv], .agg #[.int .u8 0, .int .u32 0], .bool true]) ∧ Sp wb w' g v m false d ∧ Kd.R (Kd.int .u8) 5 w' w.heap.size (fun _ => True) v d ∧ Kd.R (Kd.int .u8) 5 w' w.heap.size (fun _ => True) pv s5 ∧ Below wb.heap.size wb w' ∧ (∀ k, k < w.heap.size → k ≠ g → w'.heap[k]? = w.heap[k]?) ∧ ∀ k, pv.ownBlock = some k → v.ownBlock ≠ some k
theorem NextPost.fin {wb w W : World} {g : Nat} {m : Bool} {v : Value} {d : List Int} {pv : Value} {s1 : Bool} {s2 : Int} {s3 : Bool} {s4 : Int} {s5 : List Int} (h : FinS wb w W g m v d pv s5) {a b c e f x y : Value} : NextPost wb g m d s1 s2 s3 s4 s5 w (.returned (.tuple #[.agg #[.bool s1, .int .u8 s2, .bool s3, .int .u32 s4, pv], .agg #[.int .u8 0, .int .u32 0], .bool true])) (((((((W.setCell ⟨w.heap.size, 0, none⟩ a).setCell ⟨w.heap.size, 1, none⟩ b).setCell ⟨w.heap.size, 2, none⟩ c).setCell ⟨w.heap.size, 3, none⟩ e).setCell ⟨w.heap.size, 4, none⟩ f).setCell ⟨w.heap.size + 1, 0, none⟩ x).setCell ⟨w.heap.size + 1, 1, none⟩ y) := by
 have h5 := keep5 W w.heap.size a b c e f
 have hf := (h5 (w.heap.size + 1) (by omega)).trans h.fault
 have r1 := row2 (row5 h.row h.piece a b c e f) hf x y
 have r2 := row2 (row5 h.prow h.piece a b c e f) hf x y
 have h7 : ∀ j, j ≠ w.heap.size → j ≠ w.heap.size + 1 → _ := fun j hj hj2 => (keep2 (((((W.setCell ⟨w.heap.size, 0, none⟩ a).setCell ⟨w.heap.size, 1, none⟩ b).setCell ⟨w.heap.size, 2, none⟩ c).setCell ⟨w.heap.size, 3, none⟩ e).setCell ⟨w.heap.size, 4, none⟩ f) (w.heap.size + 1) x y j hj2).trans (h5 j hj)
 have hb := h.base
 have hl := h.low
 have hle0 : wb.heap.size ≤ w.heap.size := hb
 have hle1 : wb.heap.size ≤ w.heap.size + 1 := by omega
 exact ⟨v, pv, rfl, ⟨(h7 g (by omega) (by omega)).trans h.blk, Kd.R_lower r1 hb⟩, r1, r2, Below.setCell (Below.setCell (Below.setCell (Below.setCell (Below.setCell (Below.setCell (Below.setCell h.bel hle0 _) hle0 _) hle0 _) hle0 _) hle0 _) hle1 _) hle1 _, fun k hk hkg => (h7 k (by omega) (by omega)).trans (h.old k hk hkg), h.ne⟩
set_option maxHeartbeats 8000000 in
set_option maxRecDepth 100000 in
theorem split_next_frame (wb w : World) (g : Nat) (v : Value) (m : Bool) (l tk dk : List Int) (kk : Nat) (r1 : Int) (s1 : Bool) (s2 : Int) (s3 : Bool) (s4 : Int) (s5 : List Int) (s6 s7 : Int) (h : Sp wb w g v m false l) (hB : Below wb.heap.size wb w) (hgb : wb.heap.size ≤ g) (hg : Cond w) (hh : wsframe_Head.f l m = some (r1, 0, 0, true)) (hr0 : 0 ≤ r1) (hr1 : r1 ≤ l.length) (htk : l.take r1.toNat = tk) (hdk : l.drop r1.toNat = dk) (hhg : wsframe_Get.f kk tk m = some (s1, s2, s3, s4, s5, s6, s7)) (hcl : bytes_Clone.f dk = some dk) : Calls Tryd.prog 21 #[.pointer (some ⟨g, 0, none⟩)] w (NextPost wb g m dk s1 s2 s3 s4 s5 w) := by
 have hdk8 : (Tryd.prog.info? 5).map (fun i => i.size) = some 1 := by kernel_rfl
 obtain ⟨i_, hi_⟩ : ∃ i, Tryd.prog.info? 5 = some i := by
  have h : (Tryd.prog.info? 5).isSome = true := by kernel_rfl
  exact Option.isSome_iff_exists.1 h
 have hsz_ : i_.size = 1 := by
  rw [hi_] at hdk8
  exact Option.some.inj hdk8
 obtain ⟨Av, cv, rfl⟩ := Kd.R_slice h.row
 have hlc := (Kd.R_reads' h.row).2.1
 obtain ⟨hcT, _, htc⟩ := print_take_int (P := Tryd.prog) (k := .u8) 26 5 Tryd.underlying26 hi_ hsz_ Av cv l r1 hr0 hr1 hlc
 obtain ⟨Ad, hcD, hrd, hdc⟩ := print_cut_int (P := Tryd.prog) (k := .u8) 26 5 Tryd.underlying26 hi_ hsz_ Av cv l r1 hr0 hr1 hlc
 have HTk : Aside0 (∀ W, Kd.C (Kd.int .u8) W Av l.length l → Kd.C (Kd.int .u8) W Av tk.length tk) := ⟨fun W h => htk ▸ Kd.C_take h (by omega)⟩
 have HDk : Aside0 (∀ W, Kd.C (Kd.int .u8) W Av l.length l → Kd.C (Kd.int .u8) W Ad dk.length dk) := ⟨fun W h => by
  have h1 := hrd W (Kd.reads_of_C h)
  rw [hdk] at h1
  exact Kd.C_of_reads (d := (0 : Int)) (h1 := fun _ => rfl) h1⟩
 rw [htk] at hcT htc
 rw [hdk] at hcD hdc
 have HB := Aside0.mk hB
 have HHG := Aside0.mk hhg
 obtain ⟨cd, hcd⟩ : ∃ cd, cd = cv - r1.toNat := ⟨_, rfl⟩
 rw [← hcd] at hcD hdc
 clear hhg hB htk hdk hrd hdk8 hsz_ hi_ i_ hlc hcd
 have c2 : w.cell? ⟨g, 2, none⟩ = some (.bool false) := (blk_cell h.blk 2).trans rfl
 have hgl := blk_lt h.blk
 have HS := Aside0.mk h
 have HC := Aside0.mk hg
 have HH := Aside0.mk hh
 clear h hg hh
 have hu31 := Tryd.underlying52
 have hu33 := Tryd.underlying58
 go_enter Tryd.func21, Tryd.ntmps21
 go_wp2_with fail
 refine (split_bad_any g false _ ?_).mono ?_
 ·exact (blk_cell (HS.out.below (below_alloc (below_alloc (Below.refl _ _) _) _)).blk 2).trans rfl
 rintro e w1 ⟨rfl, rfl⟩
 have hN0 : Ng wb w ((w.alloc (.cells #[.bool false, .int .u8 0, .bool false, .int .u32 0, .slice none 0 0] 52)).alloc (.cells #[.int .u8 0, .int .u32 0] 58)) g (.slice Av l.length cv) m l := ⟨below_alloc (below_alloc (Below.refl _ _) _) _, HS.out.below (below_alloc (below_alloc (Below.refl _ _) _) _), blk_alloc (last_at _ _ _ rfl) _, last_at _ _ _ (by simp)⟩
 generalize (w.alloc (.cells #[.bool false, .int .u8 0, .bool false, .int .u32 0, .slice none 0 0] 52)).alloc (.cells #[.int .u8 0, .int .u32 0] 58) = w1 at hN0 ⊢
 have HN0 := Aside0.mk hN0
 clear hN0 c2 HS
 go_upto_region 3 with fail
 refine wp_region_noPanic ?_
 refine wp_region_held_drew (S := fun w' => Aside0 (Ng wb w w' g (.slice Av l.length cv) m l) ∧ w'.cell? ⟨g, 0, none⟩ = some (.slice Av l.length cv) ∧ w'.cell? ⟨g, 1, none⟩ = some (.bool m)) (by kernel_rfl) (NS.mk (HN0.out.below (below_drew (Below.refl _ _)))) (fun hHeld => ?_)
 refine takeS 0 15 ?_
 refine takeS 1 16 ?_
 refine takeS 2 17 ?_
 refine takeS 3 18 ?_
 refine takeS 4 19 ?_
 refine takeS 5 20 ?_
 refine takeS 6 21 ?_
 refine takeS 7 22 ?_
 refine wpAnyH_ready (rs := [8, 13]) (by kernel_rfl) (by simp) ?_
 refine AllReadyH.cons rfl (fun K hK => ?_) (AllReadyH.cons rfl (fun K hK => ?_) AllReadyH.nil)
 focus
  go_simp
  go_at_call 33
  with_reducible refine (wsframe_Head.calls Av cv l m r1 0 0 true _ (Kd.R_reads' hHeld.1.out.sp.row).2.2 (Kd.R_reads' hHeld.1.out.sp.row).2.1 HH.out (HC.out.below hHeld.1.out.bel)).mono ?_
  rintro e w2 ⟨rfl, hb⟩
  have HG2 := Aside0.mk (hHeld.1.out.below hb)
  clear hb
  refine hK.out _ _ (NS.mk HG2.out) (fun hHeld => ?_)
  clear hK K
  try simp only [Act.put, z1_, z2_, z3_]
  refine takeS 9 14 ?_
  refine takeS 10 24 ?_
  refine takeS 11 25 ?_
  refine takeS 12 26 ?_
  refine wpAnyH_ready (rs := [13]) (by kernel_rfl) (by simp) ?_
  refine AllReadyH.cons rfl (fun K hK => ?_) AllReadyH.nil
  go_simp
  refine hK.out _ _ (NS.mk (HG2.out.below (below_alloc (Below.refl _ _) _))) (fun hHeld => ?_)
  clear hK K
  try simp only [Act.put, z1_, z2_, z3_]
  refine takeS 14 5 ?_
  refine wpAnyH_ready (rs := [15]) (by kernel_rfl) (by simp) ?_
  refine AllReadyH.cons rfl (fun K hK => ?_) AllReadyH.nil
  go_simp
  refine hK.out _ _ (NS.mk (HG2.out.below (below_alloc (Below.refl _ _) _))) (fun hHeld => ?_)
  clear hK K
  try simp only [Act.put, z1_, z2_, z3_]
  refine takeS 16 7 ?_
  refine wpAnyH_done (by kernel_rfl) ?_ _
  refine NoPanic.normal ?_
  have hG6 := hHeld.1.out
  clear hHeld
  have hbox : (w2.alloc (.cells #[.int .u8 0, .int .u32 0] 58)).heap[w2.heap.size]? = some (.cells #[.int .u8 0, .int .u32 0] 58 (0, 0)) := last_at w2 _ _ rfl
  have hgl2 := HG2.out.lt
  generalize w2.alloc (.cells #[.int .u8 0, .int .u32 0] 58) = W6 at hG6 hbox ⊢
  generalize w2.heap.size = gb at hbox hgl2 ⊢
  clear HG2 HN0
 rotate_left
 focus
  have HW1 := Aside0.mk hHeld.1.out
  go_simp
  refine hK.out _ _ (NS.mk (HW1.out.below (below_alloc (Below.refl _ _) _))) (fun hHeld => ?_)
  clear hK K
  try simp only [Act.put, z1_, z2_, z3_]
  refine wpAnyH_ready (rs := [8]) (by kernel_rfl) (by simp) ?_
  refine AllReadyH.cons rfl (fun K hK => ?_) AllReadyH.nil
  go_simp
  go_at_call 33
  with_reducible refine (wsframe_Head.calls Av cv l m r1 0 0 true _ (Kd.R_reads' hHeld.1.out.sp.row).2.2 (Kd.R_reads' hHeld.1.out.sp.row).2.1 HH.out (HC.out.below hHeld.1.out.bel)).mono ?_
  rintro e w2 ⟨rfl, hb⟩
  have HG2 := Aside0.mk (hHeld.1.out.below hb)
  have hbx : w2.heap[w1.heap.size]? = some (.cells #[.int .u8 0, .int .u32 0] 58 (0, 0)) := blk_below (blk_drew (last_at w1 _ _ rfl)) hb
  have bc0 : w2.cell? ⟨w1.heap.size, 0, none⟩ = some (.int .u8 0) := (blk_cell hbx 0).trans rfl
  have bf0 := blk_frozen hbx 0
  have bc1 : w2.cell? ⟨w1.heap.size, 1, none⟩ = some (.int .u32 0) := (blk_cell hbx 1).trans rfl
  have bf1 := blk_frozen hbx 1
  have bl := blk_lt hbx
  have hgl2 : w.heap.size + 1 < w1.heap.size := HN0.out.lt
  have hgl3 : g < w1.heap.size := blk_lt HN0.out.sp.blk
  have HBX := Aside0.mk hbx
  clear hbx
  clear hb
  refine hK.out _ _ (NS.mk HG2.out) (fun hHeld => ?_)
  clear hK K
  try simp only [Act.put, z1_, z2_, z3_]
  refine takeS 9 14 ?_
  refine takeS 10 24 ?_
  refine takeS 11 25 ?_
  refine takeS 12 26 ?_
  refine takeS 14 5 ?_
  refine wpAnyH_ready (rs := [15]) (by kernel_rfl) (by simp) ?_
  refine AllReadyH.cons rfl (fun K hK => ?_) AllReadyH.nil
  go_simp
  refine hK.out _ _ (NS.mk (Ng.put2 HG2.out hgl2 hgl3 HBX.out _ _)) (fun hHeld => ?_)
  clear hK K
  try simp only [Act.put, z1_, z2_, z3_]
  refine takeS 16 7 ?_
  refine wpAnyH_done (by kernel_rfl) ?_ _
  refine NoPanic.normal ?_
  have hG6 := hHeld.1.out
  clear hHeld bc0 bc1 bf0 bf1 bl
  have hbox := blk_put (blk_put HBX.out 0 (.int .u8 0) rfl) 1 (.int .u32 0) rfl
  generalize ((w2.setCell ⟨w1.heap.size, 0, none⟩ (.int .u8 0)).setCell ⟨w1.heap.size, 1, none⟩ (.int .u32 0)) = W6 at hG6 hbox ⊢
  generalize w1.heap.size = gb at hbox hgl2 ⊢
  clear HG2 HN0
 all_goals
  have HG := Aside0.mk hG6
  have HBX6 := Aside0.mk hbox
  have k0 : W6.cell? ⟨gb, 0, none⟩ = some (.int .u8 0) := (blk_cell hbox 0).trans rfl
  have k1 : W6.cell? ⟨gb, 1, none⟩ = some (.int .u32 0) := (blk_cell hbox 1).trans rfl
  have kf0 := blk_frozen hbox 0
  have kf1 := blk_frozen hbox 1
  have kl := blk_lt hbox
  clear hG6 hbox
  have p0 : W6.cell? ⟨w.heap.size, 0, none⟩ = some (.bool false) := (blk_cell HG.out.piece 0).trans rfl
  have pf0 := blk_frozen HG.out.piece 0
  have p1 : W6.cell? ⟨w.heap.size, 1, none⟩ = some (.int .u8 0) := (blk_cell HG.out.piece 1).trans rfl
  have pf1 := blk_frozen HG.out.piece 1
  have p2 : W6.cell? ⟨w.heap.size, 2, none⟩ = some (.bool false) := (blk_cell HG.out.piece 2).trans rfl
  have pf2 := blk_frozen HG.out.piece 2
  have p3 : W6.cell? ⟨w.heap.size, 3, none⟩ = some (.int .u32 0) := (blk_cell HG.out.piece 3).trans rfl
  have pf3 := blk_frozen HG.out.piece 3
  have p4 : W6.cell? ⟨w.heap.size, 4, none⟩ = some (.slice none 0 0) := (blk_cell HG.out.piece 4).trans rfl
  have pf4 := blk_frozen HG.out.piece 4
  have r0_ : W6.cell? ⟨w.heap.size + 1, 0, none⟩ = some (.int .u8 0) := (blk_cell HG.out.fault 0).trans rfl
  have rf0 := blk_frozen HG.out.fault 0
  have r1_ : W6.cell? ⟨w.heap.size + 1, 1, none⟩ = some (.int .u32 0) := (blk_cell HG.out.fault 1).trans rfl
  have rf1 := blk_frozen HG.out.fault 1
  have pl := blk_lt HG.out.piece
  have rl := blk_lt HG.out.fault
  have q0 : W6.cell? ⟨g, 0, none⟩ = some (.slice Av l.length cv) := (blk_cell HG.out.sp.blk 0).trans rfl
  have q1 : W6.cell? ⟨g, 1, none⟩ = some (.bool m) := (blk_cell HG.out.sp.blk 1).trans rfl
  have hle0 : w.heap.size ≤ w.heap.size := Nat.le_refl _
  have hle1 : w.heap.size ≤ w.heap.size + 1 := by omega
  have hgt : decide ((l.length : Int) < r1) = false := decide_eq_false (by omega)
  go_upto_region 11 with fail
  clear k0 k1 kf0 kf1 kl p0 p1 p2 p3 p4 pf0 pf1 pf2 pf3 pf4 r0_ r1_ rf0 rf1 pl rl q0 q1 hle0 hle1 HBX6
  have HGc := HG
  clear HG
  refine wp_region_noPanic ?_
  refine wp_region_held_drew (S := fun w' => Aside0 (Ng wb w w' g (.slice Av l.length cv) m l) ∧ w'.cell? ⟨g, 0, none⟩ = some (.slice Av l.length cv) ∧ w'.cell? ⟨g, 1, none⟩ = some (.bool m)) (by kernel_rfl) (NS.mk (HGc.out.below (below_drew (Below.refl _ _)))) (fun hHeld => ?_)
  refine takeS 0 55 ?_
  refine takeS 1 56 ?_
  refine takeS 2 57 ?_
  refine takeS 3 58 ?_
  refine takeS 4 59 ?_
  refine takeS 5 60 ?_
  refine takeS 6 61 ?_
  refine takeS 7 62 ?_
  refine takeS 8 63 ?_
  refine takeS 9 64 ?_
  refine wpAnyH_ready (rs := [10, 14, 15]) (by kernel_rfl) (by simp) ?_
  refine (AllReadyH.cons rfl (fun K hK => ?_) (AllReadyH.cons rfl (fun K hK => ?_) (AllReadyH.cons rfl (fun K hK => ?_) AllReadyH.nil)))
  focus
   go_simp
   go_at_call 34
   with_reducible refine (wsframe_Get.calls kk Av cv tk m s1 s2 s3 s4 s5 s6 s7 _ (HTk.out _ (Kd.R_reads' hHeld.1.out.sp.row).2.2) htc HHG.out (HC.out.below hHeld.1.out.bel)).mono ?_
   rintro e V1 ⟨vp, rfl, ho, hb⟩
   obtain ⟨Ap, cp, rfl⟩ := Kd.R_slice ho
   have HO : Aside0 (Kd.R (Kd.int .u8) 5 V1 w.heap.size (fun _ => True) (.slice Ap s5.length cp) s5) := ⟨Kd.R_lower ho (show w.heap.size ≤ _ from hHeld.1.out.bel.size)⟩
   have HGn : Aside0 (Ng wb w V1 g (.slice Av l.length cv) m l) := ⟨hHeld.1.out.below hb⟩
   clear ho hb HGc
   have HGc := HGn
   clear HGn
   refine hK.out _ _ (NS.mk HGc.out) (fun hHeld => ?_)
   clear hK K
   try simp only [Act.put, z1_, z2_, z3_]
   refine takeS 11 54 ?_
   refine takeS 12 66 ?_
   refine takeS 13 67 ?_
   refine wpAnyH_ready (rs := [14, 15]) (by kernel_rfl) (by simp) ?_
   refine (AllReadyH.cons rfl (fun K hK => ?_) (AllReadyH.cons rfl (fun K hK => ?_) AllReadyH.nil))
   focus
    go_simp
    refine hK.out _ _ (NS.mk (HGc.out.below (below_alloc (Below.refl _ _) _))) (fun hHeld => ?_)
    clear hK K
    try simp only [Act.put, z1_, z2_, z3_]
    have hbx : (V1.alloc (.cells #[.bool false, .int .u8 0, .bool false, .int .u32 0, .slice none 0 0] 52)).heap[V1.heap.size]? = some (.cells #[.bool false, .int .u8 0, .bool false, .int .u32 0, .slice none 0 0] 52 (0, 0)) := last_at V1 _ _ rfl
    have hgn : Ng wb w (V1.alloc (.cells #[.bool false, .int .u8 0, .bool false, .int .u32 0, .slice none 0 0] 52)) g (.slice Av l.length cv) m l := HGc.out.below (below_alloc (Below.refl _ _) _)
    have hlt_gp : w.heap.size + 1 < V1.heap.size := HGc.out.lt
    have hgt_gp : g < V1.heap.size := blk_lt HGc.out.sp.blk
    have hHOn := Kd.R_alloc HO.out (.cells #[.bool false, .int .u8 0, .bool false, .int .u32 0, .slice none 0 0] 52)
    generalize V1.alloc (.cells #[.bool false, .int .u8 0, .bool false, .int .u32 0, .slice none 0 0] 52) = V2 at hHeld hbx hgn hHOn ⊢
    generalize V1.heap.size = gp at hbx hlt_gp hgt_gp ⊢
    clear HGc HO
    have HGc := Aside0.mk hgn
    have HPb := Aside0.mk hbx
    clear hgn hbx
    have HO := Aside0.mk hHOn
    clear hHOn
    refine wpAnyH_ready (rs := [15]) (by kernel_rfl) (by simp) ?_
    refine (AllReadyH.cons rfl (fun K hK => ?_) AllReadyH.nil)
    focus
     go_simp
     refine hK.out _ _ (NS.mk (HGc.out.below (below_alloc (Below.refl _ _) _))) (fun hHeld => ?_)
     clear hK K
     try simp only [Act.put, z1_, z2_, z3_]
     have hbx : (V2.alloc (.cells #[.int .u8 0, .int .u32 0] 58)).heap[V2.heap.size]? = some (.cells #[.int .u8 0, .int .u32 0] 58 (0, 0)) := last_at V2 _ _ rfl
     have hgn : Ng wb w (V2.alloc (.cells #[.int .u8 0, .int .u32 0] 58)) g (.slice Av l.length cv) m l := HGc.out.below (below_alloc (Below.refl _ _) _)
     have hlt_gf : w.heap.size + 1 < V2.heap.size := HGc.out.lt
     have hgt_gf : g < V2.heap.size := blk_lt HGc.out.sp.blk
     have hne_ : gp < V2.heap.size := blk_lt HPb.out
     have hHPbn := blk_alloc HPb.out (.cells #[.int .u8 0, .int .u32 0] 58)
     have hHOn := Kd.R_alloc HO.out (.cells #[.int .u8 0, .int .u32 0] 58)
     generalize V2.alloc (.cells #[.int .u8 0, .int .u32 0] 58) = VZ at hHeld hbx hgn hHPbn hHOn ⊢
     generalize V2.heap.size = gf at hbx hlt_gf hgt_gf hne_ ⊢
     clear HGc HPb HO
     have HGc := Aside0.mk hgn
     have HFb := Aside0.mk hbx
     clear hgn hbx
     have HPb := Aside0.mk hHPbn
     clear hHPbn
     have HO := Aside0.mk hHOn
     clear hHOn
    rotate_left 1
   rotate_left 1
   focus
    go_simp
    refine hK.out _ _ (NS.mk (HGc.out.below (below_alloc (Below.refl _ _) _))) (fun hHeld => ?_)
    clear hK K
    try simp only [Act.put, z1_, z2_, z3_]
    have hbx : (V1.alloc (.cells #[.int .u8 0, .int .u32 0] 58)).heap[V1.heap.size]? = some (.cells #[.int .u8 0, .int .u32 0] 58 (0, 0)) := last_at V1 _ _ rfl
    have hgn : Ng wb w (V1.alloc (.cells #[.int .u8 0, .int .u32 0] 58)) g (.slice Av l.length cv) m l := HGc.out.below (below_alloc (Below.refl _ _) _)
    have hlt_gf : w.heap.size + 1 < V1.heap.size := HGc.out.lt
    have hgt_gf : g < V1.heap.size := blk_lt HGc.out.sp.blk
    have hHOn := Kd.R_alloc HO.out (.cells #[.int .u8 0, .int .u32 0] 58)
    generalize V1.alloc (.cells #[.int .u8 0, .int .u32 0] 58) = V4 at hHeld hbx hgn hHOn ⊢
    generalize V1.heap.size = gf at hbx hlt_gf hgt_gf ⊢
    clear HGc HO
    have HGc := Aside0.mk hgn
    have HFb := Aside0.mk hbx
    clear hgn hbx
    have HO := Aside0.mk hHOn
    clear hHOn
    refine wpAnyH_ready (rs := [14]) (by kernel_rfl) (by simp) ?_
    refine (AllReadyH.cons rfl (fun K hK => ?_) AllReadyH.nil)
    focus
     go_simp
     refine hK.out _ _ (NS.mk (HGc.out.below (below_alloc (Below.refl _ _) _))) (fun hHeld => ?_)
     clear hK K
     try simp only [Act.put, z1_, z2_, z3_]
     have hbx : (V4.alloc (.cells #[.bool false, .int .u8 0, .bool false, .int .u32 0, .slice none 0 0] 52)).heap[V4.heap.size]? = some (.cells #[.bool false, .int .u8 0, .bool false, .int .u32 0, .slice none 0 0] 52 (0, 0)) := last_at V4 _ _ rfl
     have hgn : Ng wb w (V4.alloc (.cells #[.bool false, .int .u8 0, .bool false, .int .u32 0, .slice none 0 0] 52)) g (.slice Av l.length cv) m l := HGc.out.below (below_alloc (Below.refl _ _) _)
     have hlt_gp : w.heap.size + 1 < V4.heap.size := HGc.out.lt
     have hgt_gp : g < V4.heap.size := blk_lt HGc.out.sp.blk
     have hne_ : gf < V4.heap.size := blk_lt HFb.out
     have hHFbn := blk_alloc HFb.out (.cells #[.bool false, .int .u8 0, .bool false, .int .u32 0, .slice none 0 0] 52)
     have hHOn := Kd.R_alloc HO.out (.cells #[.bool false, .int .u8 0, .bool false, .int .u32 0, .slice none 0 0] 52)
     generalize V4.alloc (.cells #[.bool false, .int .u8 0, .bool false, .int .u32 0, .slice none 0 0] 52) = VZ at hHeld hbx hgn hHFbn hHOn ⊢
     generalize V4.heap.size = gp at hbx hlt_gp hgt_gp hne_ ⊢
     clear HGc HFb HO
     have HGc := Aside0.mk hgn
     have HPb := Aside0.mk hbx
     clear hgn hbx
     have HFb := Aside0.mk hHFbn
     clear hHFbn
     have HO := Aside0.mk hHOn
     clear hHOn
    rotate_left 1
   rotate_left 1
  rotate_left 2
  focus
   go_simp
   refine hK.out _ _ (NS.mk ((HGc.out.below (below_drew (Below.refl _ _))).below (below_alloc (Below.refl _ _) _))) (fun hHeld => ?_)
   clear hK K
   try simp only [Act.put, z1_, z2_, z3_]
   have hbx : (W6.alloc (.cells #[.bool false, .int .u8 0, .bool false, .int .u32 0, .slice none 0 0] 52)).heap[W6.heap.size]? = some (.cells #[.bool false, .int .u8 0, .bool false, .int .u32 0, .slice none 0 0] 52 (0, 0)) := last_at W6 _ _ rfl
   have hgn : Ng wb w (W6.alloc (.cells #[.bool false, .int .u8 0, .bool false, .int .u32 0, .slice none 0 0] 52)) g (.slice Av l.length cv) m l := HGc.out.below (below_alloc (Below.refl _ _) _)
   have hlt_gp : w.heap.size + 1 < W6.heap.size := HGc.out.lt
   have hgt_gp : g < W6.heap.size := blk_lt HGc.out.sp.blk
   generalize W6.alloc (.cells #[.bool false, .int .u8 0, .bool false, .int .u32 0, .slice none 0 0] 52) = V6 at hHeld hbx hgn ⊢
   generalize W6.heap.size = gp at hbx hlt_gp hgt_gp ⊢
   clear HGc
   have HGc := Aside0.mk hgn
   have HPb := Aside0.mk hbx
   clear hgn hbx
   refine wpAnyH_ready (rs := [10, 15]) (by kernel_rfl) (by simp) ?_
   refine (AllReadyH.cons rfl (fun K hK => ?_) (AllReadyH.cons rfl (fun K hK => ?_) AllReadyH.nil))
   focus
    go_simp
    go_at_call 34
    with_reducible refine (wsframe_Get.calls kk Av cv tk m s1 s2 s3 s4 s5 s6 s7 _ (HTk.out _ (Kd.R_reads' hHeld.1.out.sp.row).2.2) htc HHG.out (HC.out.below hHeld.1.out.bel)).mono ?_
    rintro e V7 ⟨vp, rfl, ho, hb⟩
    obtain ⟨Ap, cp, rfl⟩ := Kd.R_slice ho
    have HO : Aside0 (Kd.R (Kd.int .u8) 5 V7 w.heap.size (fun _ => True) (.slice Ap s5.length cp) s5) := ⟨Kd.R_lower ho (show w.heap.size ≤ _ from hHeld.1.out.bel.size)⟩
    have HGn : Aside0 (Ng wb w V7 g (.slice Av l.length cv) m l) := ⟨hHeld.1.out.below hb⟩
    have HPbn := Aside0.mk (blk_below (blk_drew HPb.out) hb)
    clear ho hb HGc HPb
    have HGc := HGn
    clear HGn
    have HPb := HPbn
    clear HPbn
    refine hK.out _ _ (NS.mk HGc.out) (fun hHeld => ?_)
    clear hK K
    try simp only [Act.put, z1_, z2_, z3_]
    refine takeS 11 54 ?_
    refine takeS 12 66 ?_
    refine takeS 13 67 ?_
    refine wpAnyH_ready (rs := [15]) (by kernel_rfl) (by simp) ?_
    refine (AllReadyH.cons rfl (fun K hK => ?_) AllReadyH.nil)
    focus
     go_simp
     refine hK.out _ _ (NS.mk (HGc.out.below (below_alloc (Below.refl _ _) _))) (fun hHeld => ?_)
     clear hK K
     try simp only [Act.put, z1_, z2_, z3_]
     have hbx : (V7.alloc (.cells #[.int .u8 0, .int .u32 0] 58)).heap[V7.heap.size]? = some (.cells #[.int .u8 0, .int .u32 0] 58 (0, 0)) := last_at V7 _ _ rfl
     have hgn : Ng wb w (V7.alloc (.cells #[.int .u8 0, .int .u32 0] 58)) g (.slice Av l.length cv) m l := HGc.out.below (below_alloc (Below.refl _ _) _)
     have hlt_gf : w.heap.size + 1 < V7.heap.size := HGc.out.lt
     have hgt_gf : g < V7.heap.size := blk_lt HGc.out.sp.blk
     have hne_ : gp < V7.heap.size := blk_lt HPb.out
     have hHPbn := blk_alloc HPb.out (.cells #[.int .u8 0, .int .u32 0] 58)
     have hHOn := Kd.R_alloc HO.out (.cells #[.int .u8 0, .int .u32 0] 58)
     generalize V7.alloc (.cells #[.int .u8 0, .int .u32 0] 58) = VZ at hHeld hbx hgn hHPbn hHOn ⊢
     generalize V7.heap.size = gf at hbx hlt_gf hgt_gf hne_ ⊢
     clear HGc HPb HO
     have HGc := Aside0.mk hgn
     have HFb := Aside0.mk hbx
     clear hgn hbx
     have HPb := Aside0.mk hHPbn
     clear hHPbn
     have HO := Aside0.mk hHOn
     clear hHOn
    rotate_left 1
   rotate_left 1
   focus
    go_simp
    refine hK.out _ _ (NS.mk ((HGc.out.below (below_drew (Below.refl _ _))).below (below_alloc (Below.refl _ _) _))) (fun hHeld => ?_)
    clear hK K
    try simp only [Act.put, z1_, z2_, z3_]
    have hbx : (V6.alloc (.cells #[.int .u8 0, .int .u32 0] 58)).heap[V6.heap.size]? = some (.cells #[.int .u8 0, .int .u32 0] 58 (0, 0)) := last_at V6 _ _ rfl
    have hgn : Ng wb w (V6.alloc (.cells #[.int .u8 0, .int .u32 0] 58)) g (.slice Av l.length cv) m l := HGc.out.below (below_alloc (Below.refl _ _) _)
    have hlt_gf : w.heap.size + 1 < V6.heap.size := HGc.out.lt
    have hgt_gf : g < V6.heap.size := blk_lt HGc.out.sp.blk
    have hne_ : gp < V6.heap.size := blk_lt HPb.out
    have hHPbn := blk_alloc HPb.out (.cells #[.int .u8 0, .int .u32 0] 58)
    generalize V6.alloc (.cells #[.int .u8 0, .int .u32 0] 58) = V9 at hHeld hbx hgn hHPbn ⊢
    generalize V6.heap.size = gf at hbx hlt_gf hgt_gf hne_ ⊢
    clear HGc HPb
    have HGc := Aside0.mk hgn
    have HFb := Aside0.mk hbx
    clear hgn hbx
    have HPb := Aside0.mk hHPbn
    clear hHPbn
    refine wpAnyH_ready (rs := [10]) (by kernel_rfl) (by simp) ?_
    refine (AllReadyH.cons rfl (fun K hK => ?_) AllReadyH.nil)
    focus
     go_simp
     go_at_call 34
     with_reducible refine (wsframe_Get.calls kk Av cv tk m s1 s2 s3 s4 s5 s6 s7 _ (HTk.out _ (Kd.R_reads' hHeld.1.out.sp.row).2.2) htc HHG.out (HC.out.below hHeld.1.out.bel)).mono ?_
     rintro e VZ ⟨vp, rfl, ho, hb⟩
     obtain ⟨Ap, cp, rfl⟩ := Kd.R_slice ho
     have HO : Aside0 (Kd.R (Kd.int .u8) 5 VZ w.heap.size (fun _ => True) (.slice Ap s5.length cp) s5) := ⟨Kd.R_lower ho (show w.heap.size ≤ _ from hHeld.1.out.bel.size)⟩
     have HGn : Aside0 (Ng wb w VZ g (.slice Av l.length cv) m l) := ⟨hHeld.1.out.below hb⟩
     have HPbn := Aside0.mk (blk_below (blk_drew HPb.out) hb)
     have HFbn := Aside0.mk (blk_below (blk_drew HFb.out) hb)
     clear ho hb HGc HPb HFb
     have HGc := HGn
     clear HGn
     have HPb := HPbn
     clear HPbn
     have HFb := HFbn
     clear HFbn
     refine hK.out _ _ (NS.mk HGc.out) (fun hHeld => ?_)
     clear hK K
     try simp only [Act.put, z1_, z2_, z3_]
     refine takeS 11 54 ?_
     refine takeS 12 66 ?_
     refine takeS 13 67 ?_
    rotate_left 1
   rotate_left 1
  rotate_left 2
  focus
   go_simp
   refine hK.out _ _ (NS.mk ((HGc.out.below (below_drew (Below.refl _ _))).below (below_alloc (Below.refl _ _) _))) (fun hHeld => ?_)
   clear hK K
   try simp only [Act.put, z1_, z2_, z3_]
   have hbx : (W6.alloc (.cells #[.int .u8 0, .int .u32 0] 58)).heap[W6.heap.size]? = some (.cells #[.int .u8 0, .int .u32 0] 58 (0, 0)) := last_at W6 _ _ rfl
   have hgn : Ng wb w (W6.alloc (.cells #[.int .u8 0, .int .u32 0] 58)) g (.slice Av l.length cv) m l := HGc.out.below (below_alloc (Below.refl _ _) _)
   have hlt_gf : w.heap.size + 1 < W6.heap.size := HGc.out.lt
   have hgt_gf : g < W6.heap.size := blk_lt HGc.out.sp.blk
   generalize W6.alloc (.cells #[.int .u8 0, .int .u32 0] 58) = V11 at hHeld hbx hgn ⊢
   generalize W6.heap.size = gf at hbx hlt_gf hgt_gf ⊢
   clear HGc
   have HGc := Aside0.mk hgn
   have HFb := Aside0.mk hbx
   clear hgn hbx
   refine wpAnyH_ready (rs := [10, 14]) (by kernel_rfl) (by simp) ?_
   refine (AllReadyH.cons rfl (fun K hK => ?_) (AllReadyH.cons rfl (fun K hK => ?_) AllReadyH.nil))
   focus
    go_simp
    go_at_call 34
    with_reducible refine (wsframe_Get.calls kk Av cv tk m s1 s2 s3 s4 s5 s6 s7 _ (HTk.out _ (Kd.R_reads' hHeld.1.out.sp.row).2.2) htc HHG.out (HC.out.below hHeld.1.out.bel)).mono ?_
    rintro e V12 ⟨vp, rfl, ho, hb⟩
    obtain ⟨Ap, cp, rfl⟩ := Kd.R_slice ho
    have HO : Aside0 (Kd.R (Kd.int .u8) 5 V12 w.heap.size (fun _ => True) (.slice Ap s5.length cp) s5) := ⟨Kd.R_lower ho (show w.heap.size ≤ _ from hHeld.1.out.bel.size)⟩
    have HGn : Aside0 (Ng wb w V12 g (.slice Av l.length cv) m l) := ⟨hHeld.1.out.below hb⟩
    have HFbn := Aside0.mk (blk_below (blk_drew HFb.out) hb)
    clear ho hb HGc HFb
    have HGc := HGn
    clear HGn
    have HFb := HFbn
    clear HFbn
    refine hK.out _ _ (NS.mk HGc.out) (fun hHeld => ?_)
    clear hK K
    try simp only [Act.put, z1_, z2_, z3_]
    refine takeS 11 54 ?_
    refine takeS 12 66 ?_
    refine takeS 13 67 ?_
    refine wpAnyH_ready (rs := [14]) (by kernel_rfl) (by simp) ?_
    refine (AllReadyH.cons rfl (fun K hK => ?_) AllReadyH.nil)
    focus
     go_simp
     refine hK.out _ _ (NS.mk (HGc.out.below (below_alloc (Below.refl _ _) _))) (fun hHeld => ?_)
     clear hK K
     try simp only [Act.put, z1_, z2_, z3_]
     have hbx : (V12.alloc (.cells #[.bool false, .int .u8 0, .bool false, .int .u32 0, .slice none 0 0] 52)).heap[V12.heap.size]? = some (.cells #[.bool false, .int .u8 0, .bool false, .int .u32 0, .slice none 0 0] 52 (0, 0)) := last_at V12 _ _ rfl
     have hgn : Ng wb w (V12.alloc (.cells #[.bool false, .int .u8 0, .bool false, .int .u32 0, .slice none 0 0] 52)) g (.slice Av l.length cv) m l := HGc.out.below (below_alloc (Below.refl _ _) _)
     have hlt_gp : w.heap.size + 1 < V12.heap.size := HGc.out.lt
     have hgt_gp : g < V12.heap.size := blk_lt HGc.out.sp.blk
     have hne_ : gf < V12.heap.size := blk_lt HFb.out
     have hHFbn := blk_alloc HFb.out (.cells #[.bool false, .int .u8 0, .bool false, .int .u32 0, .slice none 0 0] 52)
     have hHOn := Kd.R_alloc HO.out (.cells #[.bool false, .int .u8 0, .bool false, .int .u32 0, .slice none 0 0] 52)
     generalize V12.alloc (.cells #[.bool false, .int .u8 0, .bool false, .int .u32 0, .slice none 0 0] 52) = VZ at hHeld hbx hgn hHFbn hHOn ⊢
     generalize V12.heap.size = gp at hbx hlt_gp hgt_gp hne_ ⊢
     clear HGc HFb HO
     have HGc := Aside0.mk hgn
     have HPb := Aside0.mk hbx
     clear hgn hbx
     have HFb := Aside0.mk hHFbn
     clear hHFbn
     have HO := Aside0.mk hHOn
     clear hHOn
    rotate_left 1
   rotate_left 1
   focus
    go_simp
    refine hK.out _ _ (NS.mk ((HGc.out.below (below_drew (Below.refl _ _))).below (below_alloc (Below.refl _ _) _))) (fun hHeld => ?_)
    clear hK K
    try simp only [Act.put, z1_, z2_, z3_]
    have hbx : (V11.alloc (.cells #[.bool false, .int .u8 0, .bool false, .int .u32 0, .slice none 0 0] 52)).heap[V11.heap.size]? = some (.cells #[.bool false, .int .u8 0, .bool false, .int .u32 0, .slice none 0 0] 52 (0, 0)) := last_at V11 _ _ rfl
    have hgn : Ng wb w (V11.alloc (.cells #[.bool false, .int .u8 0, .bool false, .int .u32 0, .slice none 0 0] 52)) g (.slice Av l.length cv) m l := HGc.out.below (below_alloc (Below.refl _ _) _)
    have hlt_gp : w.heap.size + 1 < V11.heap.size := HGc.out.lt
    have hgt_gp : g < V11.heap.size := blk_lt HGc.out.sp.blk
    have hne_ : gf < V11.heap.size := blk_lt HFb.out
    have hHFbn := blk_alloc HFb.out (.cells #[.bool false, .int .u8 0, .bool false, .int .u32 0, .slice none 0 0] 52)
    generalize V11.alloc (.cells #[.bool false, .int .u8 0, .bool false, .int .u32 0, .slice none 0 0] 52) = V14 at hHeld hbx hgn hHFbn ⊢
    generalize V11.heap.size = gp at hbx hlt_gp hgt_gp hne_ ⊢
    clear HGc HFb
    have HGc := Aside0.mk hgn
    have HPb := Aside0.mk hbx
    clear hgn hbx
    have HFb := Aside0.mk hHFbn
    clear hHFbn
    refine wpAnyH_ready (rs := [10]) (by kernel_rfl) (by simp) ?_
    refine (AllReadyH.cons rfl (fun K hK => ?_) AllReadyH.nil)
    focus
     go_simp
     go_at_call 34
     with_reducible refine (wsframe_Get.calls kk Av cv tk m s1 s2 s3 s4 s5 s6 s7 _ (HTk.out _ (Kd.R_reads' hHeld.1.out.sp.row).2.2) htc HHG.out (HC.out.below hHeld.1.out.bel)).mono ?_
     rintro e VZ ⟨vp, rfl, ho, hb⟩
     obtain ⟨Ap, cp, rfl⟩ := Kd.R_slice ho
     have HO : Aside0 (Kd.R (Kd.int .u8) 5 VZ w.heap.size (fun _ => True) (.slice Ap s5.length cp) s5) := ⟨Kd.R_lower ho (show w.heap.size ≤ _ from hHeld.1.out.bel.size)⟩
     have HGn : Aside0 (Ng wb w VZ g (.slice Av l.length cv) m l) := ⟨hHeld.1.out.below hb⟩
     have HPbn := Aside0.mk (blk_below (blk_drew HPb.out) hb)
     have HFbn := Aside0.mk (blk_below (blk_drew HFb.out) hb)
     clear ho hb HGc HPb HFb
     have HGc := HGn
     clear HGn
     have HPb := HPbn
     clear HPbn
     have HFb := HFbn
     clear HFbn
     refine hK.out _ _ (NS.mk HGc.out) (fun hHeld => ?_)
     clear hK K
     try simp only [Act.put, z1_, z2_, z3_]
     refine takeS 11 54 ?_
     refine takeS 12 66 ?_
     refine takeS 13 67 ?_
    rotate_left 1
   rotate_left 1
  rotate_left 2
  all_goals
   have hne : gp ≠ gf := by omega
   have c0_ : VZ.cell? ⟨gp, 0, none⟩ = some (.bool false) := (blk_cell HPb.out 0).trans rfl
   have cf0_ := blk_frozen HPb.out 0
   have c1_ : VZ.cell? ⟨gp, 1, none⟩ = some (.int .u8 0) := (blk_cell HPb.out 1).trans rfl
   have cf1_ := blk_frozen HPb.out 1
   have c2_ : VZ.cell? ⟨gp, 2, none⟩ = some (.bool false) := (blk_cell HPb.out 2).trans rfl
   have cf2_ := blk_frozen HPb.out 2
   have c3_ : VZ.cell? ⟨gp, 3, none⟩ = some (.int .u32 0) := (blk_cell HPb.out 3).trans rfl
   have cf3_ := blk_frozen HPb.out 3
   have c4_ : VZ.cell? ⟨gp, 4, none⟩ = some (.slice none 0 0) := (blk_cell HPb.out 4).trans rfl
   have cf4_ := blk_frozen HPb.out 4
   have cl_ := blk_lt HPb.out
   refine wpAnyH_ready (rs := [16]) (by kernel_rfl) (by simp) ?_
   refine AllReadyH.cons rfl (fun K hK => ?_) AllReadyH.nil
   go_simp
   refine hK.out _ _ (NS.mk (Ng.put5 HGc.out hlt_gp hgt_gp HPb.out _ _ _ _ _)) (fun hHeld => ?_)
   clear hK K
   try simp only [Act.put, z1_, z2_, z3_]
   have hgn := Ng.put5 HGc.out hlt_gp hgt_gp HPb.out (.bool s1) (.int .u8 s2) (.bool s3) (.int .u32 s4) (.slice Ap s5.length cp)
   have hbx := put5s HPb.out (.bool s1) (.int .u8 s2) (.bool s3) (.int .u32 s4) (.slice Ap s5.length cp)
   have hfx := (keep5 VZ gp (.bool s1) (.int .u8 s2) (.bool s3) (.int .u32 s4) (.slice Ap s5.length cp) _ hne.symm).trans HFb.out
   have hrx := row5 HO.out HPb.out (.bool s1) (.int .u8 s2) (.bool s3) (.int .u32 s4) (.slice Ap s5.length cp)
   generalize (((((VZ.setCell ⟨gp, 0, none⟩ (.bool s1)).setCell ⟨gp, 1, none⟩ (.int .u8 s2)).setCell ⟨gp, 2, none⟩ (.bool s3)).setCell ⟨gp, 3, none⟩ (.int .u32 s4)).setCell ⟨gp, 4, none⟩ (.slice Ap s5.length cp)) = V16 at hHeld hgn hbx hfx hrx ⊢
   clear HGc HPb HFb HO c0_ c1_ c2_ c3_ c4_ cf0_ cf1_ cf2_ cf3_ cf4_ cl_
   have HGc := Aside0.mk hgn
   have HPb := Aside0.mk hbx
   have HFb := Aside0.mk hfx
   have HO := Aside0.mk hrx
   clear hgn hbx hfx hrx
   have c0_ : V16.cell? ⟨gf, 0, none⟩ = some (.int .u8 0) := (blk_cell HFb.out 0).trans rfl
   have cf0_ := blk_frozen HFb.out 0
   have c1_ : V16.cell? ⟨gf, 1, none⟩ = some (.int .u32 0) := (blk_cell HFb.out 1).trans rfl
   have cf1_ := blk_frozen HFb.out 1
   have cl_ := blk_lt HFb.out
   refine wpAnyH_ready (rs := [17]) (by kernel_rfl) (by simp) ?_
   refine AllReadyH.cons rfl (fun K hK => ?_) AllReadyH.nil
   go_simp
   refine hK.out _ _ (NS.mk (Ng.put2 HGc.out hlt_gf hgt_gf HFb.out _ _)) (fun hHeld => ?_)
   clear hK K
   try simp only [Act.put, z1_, z2_, z3_]
   refine wpAnyH_done (by kernel_rfl) ?_ _
   refine NoPanic.normal ?_
   have hgn := Ng.put2 HGc.out hlt_gf hgt_gf HFb.out (.int .u8 s6) (.int .u32 s7)
   have hbx := (keep2 V16 gf (.int .u8 s6) (.int .u32 s7) _ hne).trans HPb.out
   have hrx := row2 HO.out HFb.out (.int .u8 s6) (.int .u32 s7)
   clear hHeld
   generalize ((V16.setCell ⟨gf, 0, none⟩ (.int .u8 s6)).setCell ⟨gf, 1, none⟩ (.int .u32 s7)) = X16 at hgn hbx hrx ⊢
   clear HGc HPb HFb HO c0_ c1_ cf0_ cf1_ cl_
   have HGc := Aside0.mk hgn
   have HPb := Aside0.mk hbx
   have HO := Aside0.mk hrx
   clear hgn hbx hrx
   have q0 : X16.cell? ⟨g, 0, none⟩ = some (.slice Av l.length cv) := (blk_cell HGc.out.sp.blk 0).trans rfl
   have qf0 := blk_frozen HGc.out.sp.blk 0
   have ql := blk_lt HGc.out.sp.blk
   go_wp2_with fail
   refine (bytes_Clone.calls Ad cd dk dk _ (HDk.out _ (Kd.R_reads' HGc.out.sp.row).2.2) hdc hcl).mono ?_
   rintro e w8 ⟨vd, rfl, hod, hb⟩
   obtain ⟨Ae, ce, rfl⟩ := Kd.R_slice hod
   clear q0 qf0 ql
   have HNE : Aside0 (∀ k, (Value.slice Ap s5.length cp).ownBlock = some k → (Value.slice Ae dk.length ce).ownBlock ≠ some k) := ⟨fun k h1 h2 => absurd (Kd.R_lt HO.out k h1) (Nat.not_lt.mpr (Kd.R_base hod k h2))⟩
   have HG8 : Aside0 (Ng wb w w8 g (.slice Av l.length cv) m l) := ⟨HGc.out.below hb⟩
   have HP8 := Aside0.mk (blk_below HPb.out hb)
   have HO8 := Aside0.mk (Kd.R_below HO.out hb)
   have HD8 := Aside0.mk (Kd.R_lower hod (show w.heap.size ≤ _ from HGc.out.bel.size))
   clear hod hb HGc HPb HO
   have q0 : w8.cell? ⟨g, 0, none⟩ = some (.slice Av l.length cv) := (blk_cell HG8.out.sp.blk 0).trans rfl
   have qf0 := blk_frozen HG8.out.sp.blk 0
   have ql := blk_lt HG8.out.sp.blk
   go_upto_region 13 with fail
   have hfin : FinS wb w (w8.setCell ⟨g, 0, none⟩ (.slice Ae dk.length ce)) g m (.slice Ae dk.length ce) dk (.slice Ap s5.length cp) s5 := FinS.of HG8.out HB.out hgb hgl HD8.out HO8.out HNE.out
   have hbx : (w8.setCell ⟨g, 0, none⟩ (.slice Ae dk.length ce)).heap[gp]? = some (.cells #[.bool s1, .int .u8 s2, .bool s3, .int .u32 s4, .slice Ap s5.length cp] 52 (0, 0)) := (Below.heap_setCell _ _ _ _ (by show gp ≠ g; omega)).trans HP8.out
   generalize (w8.setCell ⟨g, 0, none⟩ (.slice Ae dk.length ce)) = We at hfin hbx ⊢
   clear HG8 HP8 HO8 HD8 q0 qf0 ql
   have HFN := Aside0.mk hfin
   have HPb := Aside0.mk hbx
   clear hfin hbx
   have c0_ : We.cell? ⟨gp, 0, none⟩ = some (.bool s1) := (blk_cell HPb.out 0).trans rfl
   have cf0_ := blk_frozen HPb.out 0
   have c1_ : We.cell? ⟨gp, 1, none⟩ = some (.int .u8 s2) := (blk_cell HPb.out 1).trans rfl
   have cf1_ := blk_frozen HPb.out 1
   have c2_ : We.cell? ⟨gp, 2, none⟩ = some (.bool s3) := (blk_cell HPb.out 2).trans rfl
   have cf2_ := blk_frozen HPb.out 2
   have c3_ : We.cell? ⟨gp, 3, none⟩ = some (.int .u32 s4) := (blk_cell HPb.out 3).trans rfl
   have cf3_ := blk_frozen HPb.out 3
   have c4_ : We.cell? ⟨gp, 4, none⟩ = some (.slice Ap s5.length cp) := (blk_cell HPb.out 4).trans rfl
   have cf4_ := blk_frozen HPb.out 4
   have cl_ := blk_lt HPb.out
   have p0 : We.cell? ⟨w.heap.size, 0, none⟩ = some (.bool false) := (blk_cell HFN.out.piece 0).trans rfl
   have pf0 := blk_frozen HFN.out.piece 0
   have p1 : We.cell? ⟨w.heap.size, 1, none⟩ = some (.int .u8 0) := (blk_cell HFN.out.piece 1).trans rfl
   have pf1 := blk_frozen HFN.out.piece 1
   have p2 : We.cell? ⟨w.heap.size, 2, none⟩ = some (.bool false) := (blk_cell HFN.out.piece 2).trans rfl
   have pf2 := blk_frozen HFN.out.piece 2
   have p3 : We.cell? ⟨w.heap.size, 3, none⟩ = some (.int .u32 0) := (blk_cell HFN.out.piece 3).trans rfl
   have pf3 := blk_frozen HFN.out.piece 3
   have p4 : We.cell? ⟨w.heap.size, 4, none⟩ = some (.slice none 0 0) := (blk_cell HFN.out.piece 4).trans rfl
   have pf4 := blk_frozen HFN.out.piece 4
   have r0_ : We.cell? ⟨w.heap.size + 1, 0, none⟩ = some (.int .u8 0) := (blk_cell HFN.out.fault 0).trans rfl
   have rf0 := blk_frozen HFN.out.fault 0
   have r1_ : We.cell? ⟨w.heap.size + 1, 1, none⟩ = some (.int .u32 0) := (blk_cell HFN.out.fault 1).trans rfl
   have rf1 := blk_frozen HFN.out.fault 1
   have pl := blk_lt HFN.out.piece
   have rl := blk_lt HFN.out.fault
   go_wp2_with fail
   exact bodyPost_ret (v := .tuple #[.agg #[.bool s1, .int .u8 s2, .bool s3, .int .u32 s4, .slice Ap s5.length cp], .agg #[.int .u8 0, .int .u32 0], .bool true]) (by simp [results, Tryd.results21, go_sem, p0, p1, p2, p3, p4, r0_, r1_]) rfl (NextPost.fin HFN.out)
end Go.Proofs.YtpmeapdcjmaeiaaDoor.PAll
namespace Go.Proofs.YtpmeapdcjmaeiaaDoor.PAll
open Go.RowKit Go.Proofs.YtpmeapdcjmaeiaaDoorW.PrintWords Go.Proofs.YtpmeapdcjmaeiaaDoorW.PrintLast Go.Proofs.YtpmeapdcjmaeiaaDoorW.PrintMore
theorem NB.mk {W : World} {gb : Nat} {r3 : Int} (h : W.heap[gb]? = some (.cells #[.int .u8 3, .int .u32 r3] 58 (0, 0))) : Aside0 (W.heap[gb]? = some (.cells #[.int .u8 3, .int .u32 r3] 58 (0, 0))) ∧ W.cell? ⟨gb, 0, none⟩ = some (.int .u8 3) ∧ W.cell? ⟨gb, 1, none⟩ = some (.int .u32 r3) := ⟨⟨h⟩, (blk_cell h 0).trans rfl, (blk_cell h 1).trans rfl⟩
structure FinB (wb w W : World) (g : Nat) (m : Bool) : Prop where
 bel : Below wb.heap.size wb W
 base : wb.heap.size ≤ w.heap.size
 old : ∀ k, k < w.heap.size → k ≠ g → W.heap[k]? = w.heap[k]?
 low : g < w.heap.size
 blk : W.heap[g]? = some (.cells #[.slice none 0 0, .bool m, .bool true] 71 (0, 0))
 piece : W.heap[w.heap.size]? = some (.cells #[.bool false, .int .u8 0, .bool false, .int .u32 0, .slice none 0 0] 52 (0, 0))
 fault : W.heap[w.heap.size + 1]? = some (.cells #[.int .u8 0, .int .u32 0] 58 (0, 0))
theorem FinB.of {wb w W : World} {g : Nat} {m : Bool} {v1 : Value} {l : List Int} (h : Ng wb w W g v1 m l) (hB : Below wb.heap.size wb w) (hgb : wb.heap.size ≤ g) (hgl : g < w.heap.size) : FinB wb w ((W.setCell ⟨g, 2, none⟩ (.bool true)).setCell ⟨g, 0, none⟩ (.slice none 0 0)) g m := by
 have h0 : ∀ j, j ≠ g → ((W.setCell ⟨g, 2, none⟩ (.bool true)).setCell ⟨g, 0, none⟩ (.slice none 0 0)).heap[j]? = W.heap[j]? := fun j hj => (Below.heap_setCell _ _ _ _ hj).trans (Below.heap_setCell _ _ _ _ hj)
 exact ⟨Below.setCell (Below.setCell (below_step hB h.bel) (by show _ ≤ g; omega) _) (by show _ ≤ g; omega) _, hB.size, fun k hk hkg => (h0 k hkg).trans (h.bel.block k hk), hgl, blk_put (blk_put h.sp.blk 2 _ rfl) 0 _ rfl, (h0 _ (by omega)).trans h.piece, (h0 _ (by omega)).trans h.fault⟩
def NextBad (wb : World) (g : Nat) (m : Bool) (r3 : Int) (w : World) (e : Ending) (w' : World) : Prop := e = .returned (.tuple #[.agg #[.bool false, .int .u8 0, .bool false, .int .u32 0, .slice none 0 0], .agg #[.int .u8 3, .int .u32 r3], .bool true]) ∧ Sp wb w' g (.slice none 0 0) m true [] ∧ Below wb.heap.size wb w' ∧ ∀ k, k < w.heap.size → k ≠ g → w'.heap[k]? = w.heap[k]?
theorem NextBad.fin {wb w W U : World} {g : Nat} {m : Bool} {r3 : Int} (h : FinB wb w W g m) (hb : Below w.heap.size W U) : NextBad wb g m r3 w (.returned (.tuple #[.agg #[.bool false, .int .u8 0, .bool false, .int .u32 0, .slice none 0 0], .agg #[.int .u8 3, .int .u32 r3], .bool true])) U := ⟨rfl, ⟨(hb.block g h.low).trans h.blk, Kd.R_nil _ _ _ _ _⟩, h.bel.trans (hb.mono h.base), fun k hk hkg => (hb.block k hk).trans (h.old k hk hkg)⟩
set_option maxHeartbeats 8000000 in
set_option maxRecDepth 100000 in
theorem split_next_bad (wb w : World) (g : Nat) (v : Value) (m : Bool) (l : List Int) (r1 r3 : Int) (h : Sp wb w g v m false l) (hB : Below wb.heap.size wb w) (hgb : wb.heap.size ≤ g) (hg : Cond w) (hh : wsframe_Head.f l m = some (r1, 3, r3, true)) : Calls Tryd.prog 21 #[.pointer (some ⟨g, 0, none⟩)] w (NextBad wb g m r3 w) := by
 have HB := Aside0.mk hB
 clear hB
 obtain ⟨Av, cv, rfl⟩ := Kd.R_slice h.row
 have c2 : w.cell? ⟨g, 2, none⟩ = some (.bool false) := (blk_cell h.blk 2).trans rfl
 have hgl := blk_lt h.blk
 have HS := Aside0.mk h
 have HC := Aside0.mk hg
 have HH := Aside0.mk hh
 clear h hg hh
 have hu31 := Tryd.underlying52
 have hu33 := Tryd.underlying58
 go_enter Tryd.func21, Tryd.ntmps21
 go_wp2_with fail
 refine (split_bad_any g false _ ?_).mono ?_
 ·exact (blk_cell (HS.out.below (below_alloc (below_alloc (Below.refl _ _) _) _)).blk 2).trans rfl
 rintro e w1 ⟨rfl, rfl⟩
 have hN0 : Ng wb w ((w.alloc (.cells #[.bool false, .int .u8 0, .bool false, .int .u32 0, .slice none 0 0] 52)).alloc (.cells #[.int .u8 0, .int .u32 0] 58)) g (.slice Av l.length cv) m l := ⟨below_alloc (below_alloc (Below.refl _ _) _) _, HS.out.below (below_alloc (below_alloc (Below.refl _ _) _) _), blk_alloc (last_at _ _ _ rfl) _, last_at _ _ _ (by simp)⟩
 generalize (w.alloc (.cells #[.bool false, .int .u8 0, .bool false, .int .u32 0, .slice none 0 0] 52)).alloc (.cells #[.int .u8 0, .int .u32 0] 58) = w1 at hN0 ⊢
 have HN0 := Aside0.mk hN0
 clear hN0 c2 HS
 go_upto_region 3 with fail
 refine wp_region_noPanic ?_
 refine wp_region_held_drew (S := fun w' => Aside0 (Ng wb w w' g (.slice Av l.length cv) m l) ∧ w'.cell? ⟨g, 0, none⟩ = some (.slice Av l.length cv) ∧ w'.cell? ⟨g, 1, none⟩ = some (.bool m)) (by kernel_rfl) (NS.mk (HN0.out.below (below_drew (Below.refl _ _)))) (fun hHeld => ?_)
 refine takeP 0 15 ?_
 refine takeP 1 16 ?_
 refine takeP 2 17 ?_
 refine takeP 3 18 ?_
 refine takeP 4 19 ?_
 refine takeP 5 20 ?_
 refine takeP 6 21 ?_
 refine takeP 7 22 ?_
 refine wpAnyH_ready (rs := [8, 13]) (by kernel_rfl) (by simp) ?_
 refine AllReadyH.cons rfl (fun K hK => ?_) (AllReadyH.cons rfl (fun K hK => ?_) AllReadyH.nil)
 ·go_simp
  go_at_call 33
  with_reducible refine (wsframe_Head.calls Av cv l m r1 3 r3 true _ (Kd.R_reads' hHeld.1.out.sp.row).2.2 (Kd.R_reads' hHeld.1.out.sp.row).2.1 HH.out (HC.out.below hHeld.1.out.bel)).mono ?_
  rintro e w2 ⟨rfl, hb⟩
  have HG2 := Aside0.mk (hHeld.1.out.below hb)
  clear hb
  refine hK.out _ _ (NS.mk HG2.out) (fun hHeld => ?_)
  clear hK K
  try simp only [Act.put, z1_, z2_, z3_]
  refine takeP 9 14 ?_
  refine takeP 10 24 ?_
  refine takeP 11 25 ?_
  refine takeP 12 26 ?_
  refine wpAnyH_ready (rs := [13]) (by kernel_rfl) (by simp) ?_
  refine AllReadyH.cons rfl (fun K hK => ?_) AllReadyH.nil
  go_simp
  refine hK.out _ _ (NS.mk (HG2.out.below (below_alloc (Below.refl _ _) _))) (fun hHeld => ?_)
  clear hK K
  try simp only [Act.put, z1_, z2_, z3_]
  refine takeP 14 5 ?_
  refine wpAnyH_ready (rs := [15]) (by kernel_rfl) (by simp) ?_
  refine AllReadyH.cons rfl (fun K hK => ?_) AllReadyH.nil
  go_simp
  refine hK.out _ _ (NS.mk (HG2.out.below (below_alloc (Below.refl _ _) _))) (fun hHeld => ?_)
  clear hK K
  try simp only [Act.put, z1_, z2_, z3_]
  refine takeP 16 7 ?_
  refine wpAnyH_done (by kernel_rfl) ?_ _
  refine NoPanic.normal ?_
  have hG6 := hHeld.1.out
  clear hHeld
  have hbox : (w2.alloc (.cells #[.int .u8 3, .int .u32 r3] 58)).heap[w2.heap.size]? = some (.cells #[.int .u8 3, .int .u32 r3] 58 (0, 0)) := last_at w2 _ _ rfl
  have hgl2 := HG2.out.lt
  generalize w2.alloc (.cells #[.int .u8 3, .int .u32 r3] 58) = W6 at hG6 hbox ⊢
  generalize w2.heap.size = gb at hbox hgl2 ⊢
  clear HG2 HN0
  have HG := Aside0.mk hG6
  have HBX6 := Aside0.mk hbox
  have k0 : W6.cell? ⟨gb, 0, none⟩ = some (.int .u8 3) := (blk_cell hbox 0).trans rfl
  have k1 : W6.cell? ⟨gb, 1, none⟩ = some (.int .u32 r3) := (blk_cell hbox 1).trans rfl
  have kf0 := blk_frozen hbox 0
  have kf1 := blk_frozen hbox 1
  have kl := blk_lt hbox
  clear hG6 hbox
  have q0 : W6.cell? ⟨g, 0, none⟩ = some (.slice Av l.length cv) := (blk_cell HG.out.sp.blk 0).trans rfl
  have q2 : W6.cell? ⟨g, 2, none⟩ = some (.bool false) := (blk_cell HG.out.sp.blk 2).trans rfl
  have qf0 := blk_frozen HG.out.sp.blk 0
  have qf2 := blk_frozen HG.out.sp.blk 2
  have ql := blk_lt HG.out.sp.blk
  go_upto_region 8 with fail
  have hge : gb ≠ g := by omega
  have hfin : FinB wb w ((W6.setCell ⟨g, 2, none⟩ (.bool true)).setCell ⟨g, 0, none⟩ (.slice none 0 0)) g m := FinB.of HG.out HB.out hgb hgl
  have hbx : ((W6.setCell ⟨g, 2, none⟩ (.bool true)).setCell ⟨g, 0, none⟩ (.slice none 0 0)).heap[gb]? = some (.cells #[.int .u8 3, .int .u32 r3] 58 (0, 0)) := (Below.heap_setCell _ _ _ _ hge).trans ((Below.heap_setCell _ _ _ _ hge).trans HBX6.out)
  generalize ((W6.setCell ⟨g, 2, none⟩ (.bool true)).setCell ⟨g, 0, none⟩ (.slice none 0 0)) = W7 at hfin hbx ⊢
  clear HG HBX6 k0 k1 kf0 kf1 kl q0 q2 qf0 qf2 ql
  have HFN := Aside0.mk hfin
  have HBX7 := Aside0.mk hbx
  clear hfin hbx
  refine wp_region_noPanic ?_
  refine wp_region_held_drew (S := fun w' => Aside0 (w'.heap[gb]? = some (.cells #[.int .u8 3, .int .u32 r3] 58 (0, 0))) ∧ w'.cell? ⟨gb, 0, none⟩ = some (.int .u8 3) ∧ w'.cell? ⟨gb, 1, none⟩ = some (.int .u32 r3)) (by kernel_rfl) (NB.mk (blk_drew HBX7.out)) (fun hHeld => ?_)
  refine takeP 0 42 ?_
  refine takeP 1 43 ?_
  have hle0 : w.heap.size ≤ w.heap.size := Nat.le_refl _
  have hle1 : w.heap.size ≤ w.heap.size + 1 := by omega
  have hg0 : gb ≠ w.heap.size := by omega
  have hg1 : gb ≠ w.heap.size + 1 := by omega
  have p0 : W7.cell? ⟨w.heap.size, 0, none⟩ = some (.bool false) := (blk_cell HFN.out.piece 0).trans rfl
  have pf0 := blk_frozen HFN.out.piece 0
  have p1 : W7.cell? ⟨w.heap.size, 1, none⟩ = some (.int .u8 0) := (blk_cell HFN.out.piece 1).trans rfl
  have pf1 := blk_frozen HFN.out.piece 1
  have p2 : W7.cell? ⟨w.heap.size, 2, none⟩ = some (.bool false) := (blk_cell HFN.out.piece 2).trans rfl
  have pf2 := blk_frozen HFN.out.piece 2
  have p3 : W7.cell? ⟨w.heap.size, 3, none⟩ = some (.int .u32 0) := (blk_cell HFN.out.piece 3).trans rfl
  have pf3 := blk_frozen HFN.out.piece 3
  have p4 : W7.cell? ⟨w.heap.size, 4, none⟩ = some (.slice none 0 0) := (blk_cell HFN.out.piece 4).trans rfl
  have pf4 := blk_frozen HFN.out.piece 4
  have pl := blk_lt HFN.out.piece
  refine wpAnyH_ready (rs := [2]) (by kernel_rfl) (by simp) ?_
  refine AllReadyH.cons rfl (fun K hK => ?_) AllReadyH.nil
  go_simp
  have hbx := (keep5 W7 w.heap.size (.bool false) (.int .u8 0) (.bool false) (.int .u32 0) (.slice none 0 0) gb hg0).trans HBX7.out
  have hfl := (keep5 W7 w.heap.size (.bool false) (.int .u8 0) (.bool false) (.int .u32 0) (.slice none 0 0) (w.heap.size + 1) (by omega)).trans HFN.out.fault
  have hpc := put5s HFN.out.piece (.bool false) (.int .u8 0) (.bool false) (.int .u32 0) (.slice none 0 0)
  have hbl : Below w.heap.size W7 (((((W7.setCell ⟨w.heap.size, 0, none⟩ (.bool false)).setCell ⟨w.heap.size, 1, none⟩ (.int .u8 0)).setCell ⟨w.heap.size, 2, none⟩ (.bool false)).setCell ⟨w.heap.size, 3, none⟩ (.int .u32 0)).setCell ⟨w.heap.size, 4, none⟩ (.slice none 0 0)) := Below.setCell (Below.setCell (Below.setCell (Below.setCell (Below.setCell ⟨rfl, rfl, rfl, Nat.le_refl _, fun _ _ => rfl⟩ hle0 _) hle0 _) hle0 _) hle0 _) hle0 _
  generalize (((((W7.setCell ⟨w.heap.size, 0, none⟩ (.bool false)).setCell ⟨w.heap.size, 1, none⟩ (.int .u8 0)).setCell ⟨w.heap.size, 2, none⟩ (.bool false)).setCell ⟨w.heap.size, 3, none⟩ (.int .u32 0)).setCell ⟨w.heap.size, 4, none⟩ (.slice none 0 0)) = W8 at hbx hfl hpc hbl ⊢
  clear p0 p1 p2 p3 p4 pf0 pf1 pf2 pf3 pf4 pl
  have HBX8 := Aside0.mk hbx
  have HFL8 := Aside0.mk hfl
  have HPC8 := Aside0.mk hpc
  have HBL8 := Aside0.mk hbl
  clear hbx hfl hpc hbl
  refine hK.out _ _ (NB.mk (blk_drew HBX8.out)) (fun hHeld => ?_)
  clear hK K
  try simp only [Act.put, z1_, z2_, z3_]
  have r0_ : W8.cell? ⟨w.heap.size + 1, 0, none⟩ = some (.int .u8 0) := (blk_cell HFL8.out 0).trans rfl
  have rf0 := blk_frozen HFL8.out 0
  have r1_ : W8.cell? ⟨w.heap.size + 1, 1, none⟩ = some (.int .u32 0) := (blk_cell HFL8.out 1).trans rfl
  have rf1 := blk_frozen HFL8.out 1
  have rl := blk_lt HFL8.out
  refine wpAnyH_ready (rs := [3]) (by kernel_rfl) (by simp) ?_
  refine AllReadyH.cons rfl (fun K hK => ?_) AllReadyH.nil
  go_simp
  have hbx := (keep2 W8 (w.heap.size + 1) (.int .u8 3) (.int .u32 r3) gb hg1).trans HBX8.out
  have hpc := (keep2 W8 (w.heap.size + 1) (.int .u8 3) (.int .u32 r3) w.heap.size (by omega)).trans HPC8.out
  have hfl : ((W8.setCell ⟨w.heap.size + 1, 0, none⟩ (.int .u8 3)).setCell ⟨w.heap.size + 1, 1, none⟩ (.int .u32 r3)).heap[w.heap.size + 1]? = some (.cells #[.int .u8 3, .int .u32 r3] 58 (0, 0)) := blk_put (blk_put HFL8.out 0 _ rfl) 1 _ rfl
  have hbl : Below w.heap.size W7 ((W8.setCell ⟨w.heap.size + 1, 0, none⟩ (.int .u8 3)).setCell ⟨w.heap.size + 1, 1, none⟩ (.int .u32 r3)) := Below.setCell (Below.setCell HBL8.out hle1 _) hle1 _
  generalize ((W8.setCell ⟨w.heap.size + 1, 0, none⟩ (.int .u8 3)).setCell ⟨w.heap.size + 1, 1, none⟩ (.int .u32 r3)) = W9 at hbx hpc hfl hbl ⊢
  clear r0_ r1_ rf0 rf1 rl
  have HBX9 := Aside0.mk hbx
  have HPC9 := Aside0.mk hpc
  have HFL9 := Aside0.mk hfl
  have HBL9 := Aside0.mk hbl
  clear hbx hpc hfl hbl HBX8 HFL8 HPC8 HBL8
  refine hK.out _ _ (NB.mk (blk_drew HBX9.out)) (fun hHeld => ?_)
  clear hK K
  try simp only [Act.put, z1_, z2_, z3_]
  refine takeP 4 4 ?_
  refine wpAnyH_done (by kernel_rfl) ?_ _
  refine NoPanic.normal ?_
  have p0 : W9.cell? ⟨w.heap.size, 0, none⟩ = some (.bool false) := (blk_cell HPC9.out 0).trans rfl
  have p1 : W9.cell? ⟨w.heap.size, 1, none⟩ = some (.int .u8 0) := (blk_cell HPC9.out 1).trans rfl
  have p2 : W9.cell? ⟨w.heap.size, 2, none⟩ = some (.bool false) := (blk_cell HPC9.out 2).trans rfl
  have p3 : W9.cell? ⟨w.heap.size, 3, none⟩ = some (.int .u32 0) := (blk_cell HPC9.out 3).trans rfl
  have p4 : W9.cell? ⟨w.heap.size, 4, none⟩ = some (.slice none 0 0) := (blk_cell HPC9.out 4).trans rfl
  have r0_ : W9.cell? ⟨w.heap.size + 1, 0, none⟩ = some (.int .u8 3) := (blk_cell HFL9.out 0).trans rfl
  have r1_ : W9.cell? ⟨w.heap.size + 1, 1, none⟩ = some (.int .u32 r3) := (blk_cell HFL9.out 1).trans rfl
  clear hHeld
  go_wp2_with fail
  exact bodyPost_ret (v := .tuple #[.agg #[.bool false, .int .u8 0, .bool false, .int .u32 0, .slice none 0 0], .agg #[.int .u8 3, .int .u32 r3], .bool true]) (by simp [results, Tryd.results21, go_sem, p0, p1, p2, p3, p4, r0_, r1_]) rfl (NextBad.fin HFN.out (below_drew HBL9.out))
 ·have HW1 := Aside0.mk hHeld.1.out
  go_simp
  refine hK.out _ _ (NS.mk (HW1.out.below (below_alloc (Below.refl _ _) _))) (fun hHeld => ?_)
  clear hK K
  try simp only [Act.put, z1_, z2_, z3_]
  refine wpAnyH_ready (rs := [8]) (by kernel_rfl) (by simp) ?_
  refine AllReadyH.cons rfl (fun K hK => ?_) AllReadyH.nil
  go_simp
  go_at_call 33
  with_reducible refine (wsframe_Head.calls Av cv l m r1 3 r3 true _ (Kd.R_reads' hHeld.1.out.sp.row).2.2 (Kd.R_reads' hHeld.1.out.sp.row).2.1 HH.out (HC.out.below hHeld.1.out.bel)).mono ?_
  rintro e w2 ⟨rfl, hb⟩
  have HG2 := Aside0.mk (hHeld.1.out.below hb)
  have hbx : w2.heap[w1.heap.size]? = some (.cells #[.int .u8 0, .int .u32 0] 58 (0, 0)) := blk_below (blk_drew (last_at w1 _ _ rfl)) hb
  have bc0 : w2.cell? ⟨w1.heap.size, 0, none⟩ = some (.int .u8 0) := (blk_cell hbx 0).trans rfl
  have bf0 := blk_frozen hbx 0
  have bc1 : w2.cell? ⟨w1.heap.size, 1, none⟩ = some (.int .u32 0) := (blk_cell hbx 1).trans rfl
  have bf1 := blk_frozen hbx 1
  have bl := blk_lt hbx
  have hgl2 : w.heap.size + 1 < w1.heap.size := HN0.out.lt
  have hgl3 : g < w1.heap.size := blk_lt HN0.out.sp.blk
  have HBX := Aside0.mk hbx
  clear hbx
  clear hb
  refine hK.out _ _ (NS.mk HG2.out) (fun hHeld => ?_)
  clear hK K
  try simp only [Act.put, z1_, z2_, z3_]
  refine takeP 9 14 ?_
  refine takeP 10 24 ?_
  refine takeP 11 25 ?_
  refine takeP 12 26 ?_
  refine takeP 14 5 ?_
  refine wpAnyH_ready (rs := [15]) (by kernel_rfl) (by simp) ?_
  refine AllReadyH.cons rfl (fun K hK => ?_) AllReadyH.nil
  go_simp
  refine hK.out _ _ (NS.mk (Ng.put2 HG2.out hgl2 hgl3 HBX.out _ _)) (fun hHeld => ?_)
  clear hK K
  try simp only [Act.put, z1_, z2_, z3_]
  refine takeP 16 7 ?_
  refine wpAnyH_done (by kernel_rfl) ?_ _
  refine NoPanic.normal ?_
  have hG6 := hHeld.1.out
  clear hHeld bc0 bc1 bf0 bf1 bl
  have hbox := blk_put (blk_put HBX.out 0 (.int .u8 3) rfl) 1 (.int .u32 r3) rfl
  generalize ((w2.setCell ⟨w1.heap.size, 0, none⟩ (.int .u8 3)).setCell ⟨w1.heap.size, 1, none⟩ (.int .u32 r3)) = W6 at hG6 hbox ⊢
  generalize w1.heap.size = gb at hbox hgl2 ⊢
  clear HG2 HN0
  have HG := Aside0.mk hG6
  have HBX6 := Aside0.mk hbox
  have k0 : W6.cell? ⟨gb, 0, none⟩ = some (.int .u8 3) := (blk_cell hbox 0).trans rfl
  have k1 : W6.cell? ⟨gb, 1, none⟩ = some (.int .u32 r3) := (blk_cell hbox 1).trans rfl
  have kf0 := blk_frozen hbox 0
  have kf1 := blk_frozen hbox 1
  have kl := blk_lt hbox
  clear hG6 hbox
  have q0 : W6.cell? ⟨g, 0, none⟩ = some (.slice Av l.length cv) := (blk_cell HG.out.sp.blk 0).trans rfl
  have q2 : W6.cell? ⟨g, 2, none⟩ = some (.bool false) := (blk_cell HG.out.sp.blk 2).trans rfl
  have qf0 := blk_frozen HG.out.sp.blk 0
  have qf2 := blk_frozen HG.out.sp.blk 2
  have ql := blk_lt HG.out.sp.blk
  go_upto_region 8 with fail
  have hge : gb ≠ g := by omega
  have hfin : FinB wb w ((W6.setCell ⟨g, 2, none⟩ (.bool true)).setCell ⟨g, 0, none⟩ (.slice none 0 0)) g m := FinB.of HG.out HB.out hgb hgl
  have hbx : ((W6.setCell ⟨g, 2, none⟩ (.bool true)).setCell ⟨g, 0, none⟩ (.slice none 0 0)).heap[gb]? = some (.cells #[.int .u8 3, .int .u32 r3] 58 (0, 0)) := (Below.heap_setCell _ _ _ _ hge).trans ((Below.heap_setCell _ _ _ _ hge).trans HBX6.out)
  generalize ((W6.setCell ⟨g, 2, none⟩ (.bool true)).setCell ⟨g, 0, none⟩ (.slice none 0 0)) = W7 at hfin hbx ⊢
  clear HG HBX6 k0 k1 kf0 kf1 kl q0 q2 qf0 qf2 ql
  have HFN := Aside0.mk hfin
  have HBX7 := Aside0.mk hbx
  clear hfin hbx
  refine wp_region_noPanic ?_
  refine wp_region_held_drew (S := fun w' => Aside0 (w'.heap[gb]? = some (.cells #[.int .u8 3, .int .u32 r3] 58 (0, 0))) ∧ w'.cell? ⟨gb, 0, none⟩ = some (.int .u8 3) ∧ w'.cell? ⟨gb, 1, none⟩ = some (.int .u32 r3)) (by kernel_rfl) (NB.mk (blk_drew HBX7.out)) (fun hHeld => ?_)
  refine takeP 0 42 ?_
  refine takeP 1 43 ?_
  have hle0 : w.heap.size ≤ w.heap.size := Nat.le_refl _
  have hle1 : w.heap.size ≤ w.heap.size + 1 := by omega
  have hg0 : gb ≠ w.heap.size := by omega
  have hg1 : gb ≠ w.heap.size + 1 := by omega
  have p0 : W7.cell? ⟨w.heap.size, 0, none⟩ = some (.bool false) := (blk_cell HFN.out.piece 0).trans rfl
  have pf0 := blk_frozen HFN.out.piece 0
  have p1 : W7.cell? ⟨w.heap.size, 1, none⟩ = some (.int .u8 0) := (blk_cell HFN.out.piece 1).trans rfl
  have pf1 := blk_frozen HFN.out.piece 1
  have p2 : W7.cell? ⟨w.heap.size, 2, none⟩ = some (.bool false) := (blk_cell HFN.out.piece 2).trans rfl
  have pf2 := blk_frozen HFN.out.piece 2
  have p3 : W7.cell? ⟨w.heap.size, 3, none⟩ = some (.int .u32 0) := (blk_cell HFN.out.piece 3).trans rfl
  have pf3 := blk_frozen HFN.out.piece 3
  have p4 : W7.cell? ⟨w.heap.size, 4, none⟩ = some (.slice none 0 0) := (blk_cell HFN.out.piece 4).trans rfl
  have pf4 := blk_frozen HFN.out.piece 4
  have pl := blk_lt HFN.out.piece
  refine wpAnyH_ready (rs := [2]) (by kernel_rfl) (by simp) ?_
  refine AllReadyH.cons rfl (fun K hK => ?_) AllReadyH.nil
  go_simp
  have hbx := (keep5 W7 w.heap.size (.bool false) (.int .u8 0) (.bool false) (.int .u32 0) (.slice none 0 0) gb hg0).trans HBX7.out
  have hfl := (keep5 W7 w.heap.size (.bool false) (.int .u8 0) (.bool false) (.int .u32 0) (.slice none 0 0) (w.heap.size + 1) (by omega)).trans HFN.out.fault
  have hpc := put5s HFN.out.piece (.bool false) (.int .u8 0) (.bool false) (.int .u32 0) (.slice none 0 0)
  have hbl : Below w.heap.size W7 (((((W7.setCell ⟨w.heap.size, 0, none⟩ (.bool false)).setCell ⟨w.heap.size, 1, none⟩ (.int .u8 0)).setCell ⟨w.heap.size, 2, none⟩ (.bool false)).setCell ⟨w.heap.size, 3, none⟩ (.int .u32 0)).setCell ⟨w.heap.size, 4, none⟩ (.slice none 0 0)) := Below.setCell (Below.setCell (Below.setCell (Below.setCell (Below.setCell ⟨rfl, rfl, rfl, Nat.le_refl _, fun _ _ => rfl⟩ hle0 _) hle0 _) hle0 _) hle0 _) hle0 _
  generalize (((((W7.setCell ⟨w.heap.size, 0, none⟩ (.bool false)).setCell ⟨w.heap.size, 1, none⟩ (.int .u8 0)).setCell ⟨w.heap.size, 2, none⟩ (.bool false)).setCell ⟨w.heap.size, 3, none⟩ (.int .u32 0)).setCell ⟨w.heap.size, 4, none⟩ (.slice none 0 0)) = W8 at hbx hfl hpc hbl ⊢
  clear p0 p1 p2 p3 p4 pf0 pf1 pf2 pf3 pf4 pl
  have HBX8 := Aside0.mk hbx
  have HFL8 := Aside0.mk hfl
  have HPC8 := Aside0.mk hpc
  have HBL8 := Aside0.mk hbl
  clear hbx hfl hpc hbl
  refine hK.out _ _ (NB.mk (blk_drew HBX8.out)) (fun hHeld => ?_)
  clear hK K
  try simp only [Act.put, z1_, z2_, z3_]
  have r0_ : W8.cell? ⟨w.heap.size + 1, 0, none⟩ = some (.int .u8 0) := (blk_cell HFL8.out 0).trans rfl
  have rf0 := blk_frozen HFL8.out 0
  have r1_ : W8.cell? ⟨w.heap.size + 1, 1, none⟩ = some (.int .u32 0) := (blk_cell HFL8.out 1).trans rfl
  have rf1 := blk_frozen HFL8.out 1
  have rl := blk_lt HFL8.out
  refine wpAnyH_ready (rs := [3]) (by kernel_rfl) (by simp) ?_
  refine AllReadyH.cons rfl (fun K hK => ?_) AllReadyH.nil
  go_simp
  have hbx := (keep2 W8 (w.heap.size + 1) (.int .u8 3) (.int .u32 r3) gb hg1).trans HBX8.out
  have hpc := (keep2 W8 (w.heap.size + 1) (.int .u8 3) (.int .u32 r3) w.heap.size (by omega)).trans HPC8.out
  have hfl : ((W8.setCell ⟨w.heap.size + 1, 0, none⟩ (.int .u8 3)).setCell ⟨w.heap.size + 1, 1, none⟩ (.int .u32 r3)).heap[w.heap.size + 1]? = some (.cells #[.int .u8 3, .int .u32 r3] 58 (0, 0)) := blk_put (blk_put HFL8.out 0 _ rfl) 1 _ rfl
  have hbl : Below w.heap.size W7 ((W8.setCell ⟨w.heap.size + 1, 0, none⟩ (.int .u8 3)).setCell ⟨w.heap.size + 1, 1, none⟩ (.int .u32 r3)) := Below.setCell (Below.setCell HBL8.out hle1 _) hle1 _
  generalize ((W8.setCell ⟨w.heap.size + 1, 0, none⟩ (.int .u8 3)).setCell ⟨w.heap.size + 1, 1, none⟩ (.int .u32 r3)) = W9 at hbx hpc hfl hbl ⊢
  clear r0_ r1_ rf0 rf1 rl
  have HBX9 := Aside0.mk hbx
  have HPC9 := Aside0.mk hpc
  have HFL9 := Aside0.mk hfl
  have HBL9 := Aside0.mk hbl
  clear hbx hpc hfl hbl HBX8 HFL8 HPC8 HBL8
  refine hK.out _ _ (NB.mk (blk_drew HBX9.out)) (fun hHeld => ?_)
  clear hK K
  try simp only [Act.put, z1_, z2_, z3_]
  refine takeP 4 4 ?_
  refine wpAnyH_done (by kernel_rfl) ?_ _
  refine NoPanic.normal ?_
  have p0 : W9.cell? ⟨w.heap.size, 0, none⟩ = some (.bool false) := (blk_cell HPC9.out 0).trans rfl
  have p1 : W9.cell? ⟨w.heap.size, 1, none⟩ = some (.int .u8 0) := (blk_cell HPC9.out 1).trans rfl
  have p2 : W9.cell? ⟨w.heap.size, 2, none⟩ = some (.bool false) := (blk_cell HPC9.out 2).trans rfl
  have p3 : W9.cell? ⟨w.heap.size, 3, none⟩ = some (.int .u32 0) := (blk_cell HPC9.out 3).trans rfl
  have p4 : W9.cell? ⟨w.heap.size, 4, none⟩ = some (.slice none 0 0) := (blk_cell HPC9.out 4).trans rfl
  have r0_ : W9.cell? ⟨w.heap.size + 1, 0, none⟩ = some (.int .u8 3) := (blk_cell HFL9.out 0).trans rfl
  have r1_ : W9.cell? ⟨w.heap.size + 1, 1, none⟩ = some (.int .u32 r3) := (blk_cell HFL9.out 1).trans rfl
  clear hHeld
  go_wp2_with fail
  exact bodyPost_ret (v := .tuple #[.agg #[.bool false, .int .u8 0, .bool false, .int .u32 0, .slice none 0 0], .agg #[.int .u8 3, .int .u32 r3], .bool true]) (by simp [results, Tryd.results21, go_sem, p0, p1, p2, p3, p4, r0_, r1_]) rfl (NextBad.fin HFN.out (below_drew HBL9.out))
end Go.Proofs.YtpmeapdcjmaeiaaDoor.PAll
