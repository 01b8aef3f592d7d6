/- What Next answers where no frame is told. -/
import Derived.Test.YtkhlldhcmgkioaaDoorSplit0
import Derived.Test.YtkhlldhcmgkioaaDoorPAllx1
import Derived.Deep.RegionHeld3
namespace Go.Proofs.YtkhlldhcmgkioaaDoor.PAll
open Go.RowKit Go.Proofs.YtkhlldhcmgkioaaDoorW.PrintWords Go.Proofs.YtkhlldhcmgkioaaDoorW.PrintLast Go.Proofs.YtkhlldhcmgkioaaDoorW.PrintMore 
set_option linter.unusedVariables false
set_option linter.unusedSimpArgs false
/-- What stands throughout: the splitter, and the two boxes of the results. -/
structure Ng (wb w W : World) (g : Nat) (v : Value) (m : Bool) (l : List Int) : Prop where
  bel : Below w.heap.size w W
  sp : Sp wb W g v m false l
  piece : W.heap[w.heap.size]? = some (.cells #[.bool false, .int .u8 0, .bool false, .int .u32 0, .slice none 0 0] 31 (0, 0))
  fault : W.heap[w.heap.size + 1]? = some (.cells #[.int .u8 0, .int .u32 0] 33 (0, 0))
theorem Ng.below {wb w W W' : World} {g : Nat} {v : Value} {m : Bool} {l : List Int} (h : Ng wb w W g v m l) (hb : Below W.heap.size W W') : Ng wb w W' g v m l := ⟨below_step h.bel hb, h.sp.below hb, blk_below h.piece hb, blk_below h.fault hb⟩
theorem Ng.lt {wb w W : World} {g : Nat} {v : Value} {m : Bool} {l : List Int} (h : Ng wb w W g v m l) : w.heap.size + 1 < W.heap.size := blk_lt h.fault
theorem NS.mk {wb w W : World} {g n c : Nat} {A : Option Addr} {m : Bool} {l : List Int} (h : Ng wb w W g (.slice A n c) m l) : Aside0 (Ng wb w W g (.slice A n c) m l) ∧ W.cell? ⟨g, 0, none⟩ = some (.slice A n c) ∧ W.cell? ⟨g, 1, none⟩ = some (.bool m) := ⟨⟨h⟩, (blk_cell h.sp.blk 0).trans rfl, (blk_cell h.sp.blk 1).trans rfl⟩
theorem Ng.put2 {wb w W : World} {g k : Nat} {v : Value} {m : Bool} {l : List Int} {cs : Array Value} (h : Ng wb w W g v m l) (h1 : w.heap.size + 1 < k) (h2 : g < k) (hb : W.heap[k]? = some (.cells cs 33 (0, 0))) (a b : Value) : Ng wb w ((W.setCell ⟨k, 0, none⟩ a).setCell ⟨k, 1, none⟩ b) g v m l := by
  have h0 : ∀ j, j ≠ k → ((W.setCell ⟨k, 0, none⟩ a).setCell ⟨k, 1, none⟩ b).heap[j]? = W.heap[j]? := fun j hj => (Below.heap_setCell _ _ _ _ hj).trans (Below.heap_setCell _ _ _ _ hj)
  exact ⟨Below.setCell (Below.setCell h.bel (by show _ ≤ k; omega) _) (by show _ ≤ k; omega) _, ⟨(h0 g (by omega)).trans h.sp.blk, Kd.R_mono (Kd.R_far (Kd.R_far (Kd.R_types h.sp.row hb (by intro q hq; simp [Kd.int, Kd.scalar] at hq; omega)) (p := ⟨k, 0, none⟩) (fun j hj => hj.2) a) (p := ⟨k, 1, none⟩) (fun j hj => hj.2) b) (fun _ _ => trivial)⟩, (h0 _ (by omega)).trans h.piece, (h0 _ (by omega)).trans h.fault⟩
set_option maxHeartbeats 8000000 in
set_option maxRecDepth 100000 in
theorem split_next_none (wb w : World) (g : Nat) (v : Value) (m : Bool) (l : List Int) (r1 r2 r3 : Int) (r4 : Bool) (h : Sp wb w g v m false l) (hg : Cond w) (hh : wsframe_Head.f l m = some (r1, r2, r3, r4)) (h4 : r4 = false) : Calls Tryd.prog 12 #[.pointer (some ⟨g, 0, none⟩)] w fun e w' => e = .returned (.tuple #[.agg #[.bool false, .int .u8 0, .bool false, .int .u32 0, .slice none 0 0], .agg #[.int .u8 0, .int .u32 0], .bool false]) ∧ Below w.heap.size w w' := by
  subst h4
  obtain ⟨Av, cv, rfl⟩ := Kd.R_slice h.row
  have c2 : w.cell? ⟨g, 2, none⟩ = some (.bool false) := (blk_cell h.blk 2).trans rfl
  have hgl := blk_lt h.blk
  have HS := Aside0.mk h
  have HC := Aside0.mk hg
  have HH := Aside0.mk hh
  clear h hg hh
  have hu31 := Tryd.underlying31
  have hu33 := Tryd.underlying33
  go_enter Tryd.func12, Tryd.ntmps12
  go_wp2_with fail
  refine (split_bad_any g false _ ?_).mono ?_
  · exact (blk_cell (HS.out.below (below_alloc (below_alloc (Below.refl _ _) _) _)).blk 2).trans rfl
  rintro e w1 ⟨rfl, rfl⟩
  have hN0 : Ng wb w ((w.alloc (.cells #[.bool false, .int .u8 0, .bool false, .int .u32 0, .slice none 0 0] 31)).alloc (.cells #[.int .u8 0, .int .u32 0] 33)) g (.slice Av l.length cv) m l := ⟨below_alloc (below_alloc (Below.refl _ _) _) _, HS.out.below (below_alloc (below_alloc (Below.refl _ _) _) _), blk_alloc (last_at _ _ _ rfl) _, last_at _ _ _ (by simp)⟩
  generalize (w.alloc (.cells #[.bool false, .int .u8 0, .bool false, .int .u32 0, .slice none 0 0] 31)).alloc (.cells #[.int .u8 0, .int .u32 0] 33) = w1 at hN0 ⊢
  have HN0 := Aside0.mk hN0
  clear hN0 c2 HS
  go_upto_region 3 with fail
  refine wp_region_noPanic ?_
  refine wp_region_held_drew (S := fun w' => Aside0 (Ng wb w w' g (.slice Av l.length cv) m l) ∧ w'.cell? ⟨g, 0, none⟩ = some (.slice Av l.length cv) ∧ w'.cell? ⟨g, 1, none⟩ = some (.bool m)) (by kernel_rfl) (NS.mk (HN0.out.below (below_drew (Below.refl _ _)))) (fun hHeld => ?_)
  refine takeN (i := 0) (N := (some 15)) (v := ?v1) (a' := ?a1) rfl rfl (by kernel_rfl) (by kernel_rfl) (by kernel_rfl) (fun _ _ _ h => h) (Or.inl ⟨by rfl, ?hy1⟩) ?ha1 (by assumption) ?rest1
  case hy1 =>
    intro w_ hSw_
    go_simp
    first | done | (with_reducible rfl)
  case ha1 =>
    simp only [Act.put, List.setIfInBounds_toArray, List.set_cons_zero, List.set_cons_succ]
    rfl
  refine takeN (i := 1) (N := (some 16)) (v := ?v2) (a' := ?a2) rfl rfl (by kernel_rfl) (by kernel_rfl) (by kernel_rfl) (fun _ _ _ h => h) (Or.inl ⟨by rfl, ?hy2⟩) ?ha2 (by assumption) ?rest2
  case hy2 =>
    intro w_ hSw_
    go_simp
    first | done | (with_reducible rfl)
  case ha2 =>
    simp only [Act.put, List.setIfInBounds_toArray, List.set_cons_zero, List.set_cons_succ]
    rfl
  refine takeN (i := 2) (N := (some 17)) (v := ?v3) (a' := ?a3) rfl rfl (by kernel_rfl) (by kernel_rfl) (by kernel_rfl) (fun _ _ _ h => h) (Or.inl ⟨by rfl, ?hy3⟩) ?ha3 (by assumption) ?rest3
  case hy3 =>
    intro w_ hSw_
    go_simp
    first | done | (with_reducible rfl)
  case ha3 =>
    simp only [Act.put, List.setIfInBounds_toArray, List.set_cons_zero, List.set_cons_succ]
    rfl
  refine takeN (i := 3) (N := (some 18)) (v := ?v4) (a' := ?a4) rfl rfl (by kernel_rfl) (by kernel_rfl) (by kernel_rfl) (fun _ _ _ h => h) (Or.inl ⟨by rfl, ?hy4⟩) ?ha4 (by assumption) ?rest4
  case hy4 =>
    intro w_ hSw_
    go_simp
    first | done | (with_reducible rfl)
  case ha4 =>
    simp only [Act.put, List.setIfInBounds_toArray, List.set_cons_zero, List.set_cons_succ]
    rfl
  refine takeN (i := 4) (N := (some 19)) (v := ?v5) (a' := ?a5) rfl rfl (by kernel_rfl) (by kernel_rfl) (by kernel_rfl) (fun _ _ _ h => h) (Or.inl ⟨by rfl, ?hy5⟩) ?ha5 (by assumption) ?rest5
  case hy5 =>
    intro w_ hSw_
    go_simp
    first | done | (with_reducible rfl)
  case ha5 =>
    simp only [Act.put, List.setIfInBounds_toArray, List.set_cons_zero, List.set_cons_succ]
    rfl
  refine takeN (i := 5) (N := (some 20)) (v := ?v6) (a' := ?a6) rfl rfl (by kernel_rfl) (by kernel_rfl) (by kernel_rfl) (fun _ _ _ h => h) (Or.inl ⟨by rfl, ?hy6⟩) ?ha6 (by assumption) ?rest6
  case hy6 =>
    intro w_ hSw_
    go_simp
    first | done | (with_reducible rfl)
  case ha6 =>
    simp only [Act.put, List.setIfInBounds_toArray, List.set_cons_zero, List.set_cons_succ]
    rfl
  refine takeN (i := 6) (N := (some 21)) (v := ?v7) (a' := ?a7) rfl rfl (by kernel_rfl) (by kernel_rfl) (by kernel_rfl) (fun _ _ _ h => h) (Or.inl ⟨by rfl, ?hy7⟩) ?ha7 (by assumption) ?rest7
  case hy7 =>
    intro w_ hSw_
    go_simp
    first | done | (with_reducible rfl)
  case ha7 =>
    simp only [Act.put, List.setIfInBounds_toArray, List.set_cons_zero, List.set_cons_succ]
    rfl
  refine takeN (i := 7) (N := (some 22)) (v := ?v8) (a' := ?a8) rfl rfl (by kernel_rfl) (by kernel_rfl) (by kernel_rfl) (fun _ _ _ h => h) (Or.inl ⟨by rfl, ?hy8⟩) ?ha8 (by assumption) ?rest8
  case hy8 =>
    intro w_ hSw_
    go_simp
    first | done | (with_reducible rfl)
  case ha8 =>
    simp only [Act.put, List.setIfInBounds_toArray, List.set_cons_zero, List.set_cons_succ]
    rfl
  refine wpAnyH_ready (rs := [8, 13]) (by kernel_rfl) (by simp) ?_
  refine AllReadyH.cons rfl (fun K hK => ?_) (AllReadyH.cons rfl (fun K hK => ?_) AllReadyH.nil)
  · go_simp
    go_at_call 17
    with_reducible refine (wsframe_Head.calls Av cv l m r1 r2 r3 false _ (Kd.R_reads' hHeld.1.out.sp.row).2.2 (Kd.R_reads' hHeld.1.out.sp.row).2.1 HH.out (HC.out.below hHeld.1.out.bel)).mono ?_
    rintro e w2 ⟨rfl, hb⟩
    have HG2 := Aside0.mk (hHeld.1.out.below hb)
    clear hb
    refine hK.out _ _ (NS.mk HG2.out) (fun hHeld => ?_)
    clear hK K
    try simp only [Act.put, List.setIfInBounds_toArray, List.set_cons_zero, List.set_cons_succ]
    refine takeN (i := 9) (N := (some 14)) (v := ?v9) (a' := ?a9) rfl rfl (by kernel_rfl) (by kernel_rfl) (by kernel_rfl) (fun _ _ _ h => h) (Or.inl ⟨by rfl, ?hy9⟩) ?ha9 (by assumption) ?rest9
    case hy9 =>
      intro w_ hSw_
      go_simp
      first | done | (with_reducible rfl)
    case ha9 =>
      simp only [Act.put, List.setIfInBounds_toArray, List.set_cons_zero, List.set_cons_succ]
      rfl
    refine takeN (i := 10) (N := (some 24)) (v := ?v10) (a' := ?a10) rfl rfl (by kernel_rfl) (by kernel_rfl) (by kernel_rfl) (fun _ _ _ h => h) (Or.inl ⟨by rfl, ?hy10⟩) ?ha10 (by assumption) ?rest10
    case hy10 =>
      intro w_ hSw_
      go_simp
      first | done | (with_reducible rfl)
    case ha10 =>
      simp only [Act.put, List.setIfInBounds_toArray, List.set_cons_zero, List.set_cons_succ]
      rfl
    refine takeN (i := 11) (N := (some 25)) (v := ?v11) (a' := ?a11) rfl rfl (by kernel_rfl) (by kernel_rfl) (by kernel_rfl) (fun _ _ _ h => h) (Or.inl ⟨by rfl, ?hy11⟩) ?ha11 (by assumption) ?rest11
    case hy11 =>
      intro w_ hSw_
      go_simp
      first | done | (with_reducible rfl)
    case ha11 =>
      simp only [Act.put, List.setIfInBounds_toArray, List.set_cons_zero, List.set_cons_succ]
      rfl
    refine takeN (i := 12) (N := (some 26)) (v := ?v12) (a' := ?a12) rfl rfl (by kernel_rfl) (by kernel_rfl) (by kernel_rfl) (fun _ _ _ h => h) (Or.inl ⟨by rfl, ?hy12⟩) ?ha12 (by assumption) ?rest12
    case hy12 =>
      intro w_ hSw_
      go_simp
      first | done | (with_reducible rfl)
    case ha12 =>
      simp only [Act.put, List.setIfInBounds_toArray, List.set_cons_zero, List.set_cons_succ]
      rfl
    refine wpAnyH_ready (rs := [13]) (by kernel_rfl) (by simp) ?_
    refine AllReadyH.cons rfl (fun K hK => ?_) AllReadyH.nil
    go_simp
    refine hK.out _ _ (NS.mk (HG2.out.below (below_alloc (Below.refl _ _) _))) (fun hHeld => ?_)
    clear hK K
    try simp only [Act.put, List.setIfInBounds_toArray, List.set_cons_zero, List.set_cons_succ]
    refine takeN (i := 14) (N := (some 5)) (v := ?v13) (a' := ?a13) rfl rfl (by kernel_rfl) (by kernel_rfl) (by kernel_rfl) (fun _ _ _ h => h) (Or.inl ⟨by rfl, ?hy13⟩) ?ha13 (by assumption) ?rest13
    case hy13 =>
      intro w_ hSw_
      go_simp
      first | done | (with_reducible rfl)
    case ha13 =>
      simp only [Act.put, List.setIfInBounds_toArray, List.set_cons_zero, List.set_cons_succ]
      rfl
    refine wpAnyH_ready (rs := [15]) (by kernel_rfl) (by simp) ?_
    refine AllReadyH.cons rfl (fun K hK => ?_) AllReadyH.nil
    go_simp
    refine hK.out _ _ (NS.mk (HG2.out.below (below_alloc (Below.refl _ _) _))) (fun hHeld => ?_)
    clear hK K
    try simp only [Act.put, List.setIfInBounds_toArray, List.set_cons_zero, List.set_cons_succ]
    refine takeN (i := 16) (N := (some 7)) (v := ?v14) (a' := ?a14) rfl rfl (by kernel_rfl) (by kernel_rfl) (by kernel_rfl) (fun _ _ _ h => h) (Or.inl ⟨by rfl, ?hy14⟩) ?ha14 (by assumption) ?rest14
    case hy14 =>
      intro w_ hSw_
      go_simp
      first | done | (with_reducible rfl)
    case ha14 =>
      simp only [Act.put, List.setIfInBounds_toArray, List.set_cons_zero, List.set_cons_succ]
      rfl
    refine wpAnyH_done (by kernel_rfl) ?_ _
    refine NoPanic.normal ?_
    have hG6 := hHeld.1.out
    clear hHeld
    have hbox : (w2.alloc (.cells #[.int .u8 r2, .int .u32 r3] 33)).heap[w2.heap.size]? = some (.cells #[.int .u8 r2, .int .u32 r3] 33 (0, 0)) := last_at w2 _ _ rfl
    have hgl2 := HG2.out.lt
    generalize w2.alloc (.cells #[.int .u8 r2, .int .u32 r3] 33) = W6 at hG6 hbox ⊢
    generalize w2.heap.size = gb at hbox hgl2 ⊢
    clear HG2 HN0
    have HG := Aside0.mk hG6
    have HBX6 := Aside0.mk hbox
    have k0 : W6.cell? ⟨gb, 0, none⟩ = some (.int .u8 r2) := (blk_cell hbox 0).trans rfl
    have k1 : W6.cell? ⟨gb, 1, none⟩ = some (.int .u32 r3) := (blk_cell hbox 1).trans rfl
    have kf0 := blk_frozen hbox 0
    have kf1 := blk_frozen hbox 1
    have kl := blk_lt hbox
    clear hG6 hbox
    have p0 : W6.cell? ⟨w.heap.size, 0, none⟩ = some (.bool false) := (blk_cell HG.out.piece 0).trans rfl
    have pf0 := blk_frozen HG.out.piece 0
    have p1 : W6.cell? ⟨w.heap.size, 1, none⟩ = some (.int .u8 0) := (blk_cell HG.out.piece 1).trans rfl
    have pf1 := blk_frozen HG.out.piece 1
    have p2 : W6.cell? ⟨w.heap.size, 2, none⟩ = some (.bool false) := (blk_cell HG.out.piece 2).trans rfl
    have pf2 := blk_frozen HG.out.piece 2
    have p3 : W6.cell? ⟨w.heap.size, 3, none⟩ = some (.int .u32 0) := (blk_cell HG.out.piece 3).trans rfl
    have pf3 := blk_frozen HG.out.piece 3
    have p4 : W6.cell? ⟨w.heap.size, 4, none⟩ = some (.slice none 0 0) := (blk_cell HG.out.piece 4).trans rfl
    have pf4 := blk_frozen HG.out.piece 4
    have r0_ : W6.cell? ⟨w.heap.size + 1, 0, none⟩ = some (.int .u8 0) := (blk_cell HG.out.fault 0).trans rfl
    have rf0 := blk_frozen HG.out.fault 0
    have r1_ : W6.cell? ⟨w.heap.size + 1, 1, none⟩ = some (.int .u32 0) := (blk_cell HG.out.fault 1).trans rfl
    have rf1 := blk_frozen HG.out.fault 1
    have pl := blk_lt HG.out.piece
    have rl := blk_lt HG.out.fault
    have q0 : W6.cell? ⟨g, 0, none⟩ = some (.slice Av l.length cv) := (blk_cell HG.out.sp.blk 0).trans rfl
    have q1 : W6.cell? ⟨g, 1, none⟩ = some (.bool m) := (blk_cell HG.out.sp.blk 1).trans rfl
    have hle0 : w.heap.size ≤ w.heap.size := Nat.le_refl _
    have hle1 : w.heap.size ≤ w.heap.size + 1 := by omega
    go_wp2_with fail
    exact bodyPost_ret (v := .tuple #[.agg #[.bool false, .int .u8 0, .bool false, .int .u32 0, .slice none 0 0], .agg #[.int .u8 0, .int .u32 0], .bool false]) (by simp [results, Tryd.results12, go_sem, p0, p1, p2, p3, p4, r0_, r1_]) rfl ⟨rfl, Below.setCell (Below.setCell (Below.setCell (Below.setCell (Below.setCell (Below.setCell (Below.setCell HG.out.bel hle0 _) hle0 _) hle0 _) hle0 _) hle0 _) hle1 _) hle1 _⟩
  · have HW1 := Aside0.mk hHeld.1.out
    go_simp
    refine hK.out _ _ (NS.mk (HW1.out.below (below_alloc (Below.refl _ _) _))) (fun hHeld => ?_)
    clear hK K
    try simp only [Act.put, List.setIfInBounds_toArray, List.set_cons_zero, List.set_cons_succ]
    refine wpAnyH_ready (rs := [8]) (by kernel_rfl) (by simp) ?_
    refine AllReadyH.cons rfl (fun K hK => ?_) AllReadyH.nil
    go_simp
    go_at_call 17
    with_reducible refine (wsframe_Head.calls Av cv l m r1 r2 r3 false _ (Kd.R_reads' hHeld.1.out.sp.row).2.2 (Kd.R_reads' hHeld.1.out.sp.row).2.1 HH.out (HC.out.below hHeld.1.out.bel)).mono ?_
    rintro e w2 ⟨rfl, hb⟩
    have HG2 := Aside0.mk (hHeld.1.out.below hb)
    have hbx : w2.heap[w1.heap.size]? = some (.cells #[.int .u8 0, .int .u32 0] 33 (0, 0)) := blk_below (blk_drew (last_at w1 _ _ rfl)) hb
    have bc0 : w2.cell? ⟨w1.heap.size, 0, none⟩ = some (.int .u8 0) := (blk_cell hbx 0).trans rfl
    have bf0 := blk_frozen hbx 0
    have bc1 : w2.cell? ⟨w1.heap.size, 1, none⟩ = some (.int .u32 0) := (blk_cell hbx 1).trans rfl
    have bf1 := blk_frozen hbx 1
    have bl := blk_lt hbx
    have hgl2 : w.heap.size + 1 < w1.heap.size := HN0.out.lt
    have hgl3 : g < w1.heap.size := blk_lt HN0.out.sp.blk
    have HBX := Aside0.mk hbx
    clear hbx
    clear hb
    refine hK.out _ _ (NS.mk HG2.out) (fun hHeld => ?_)
    clear hK K
    try simp only [Act.put, List.setIfInBounds_toArray, List.set_cons_zero, List.set_cons_succ]
    refine takeN (i := 9) (N := (some 14)) (v := ?v15) (a' := ?a15) rfl rfl (by kernel_rfl) (by kernel_rfl) (by kernel_rfl) (fun _ _ _ h => h) (Or.inl ⟨by rfl, ?hy15⟩) ?ha15 (by assumption) ?rest15
    case hy15 =>
      intro w_ hSw_
      go_simp
      first | done | (with_reducible rfl)
    case ha15 =>
      simp only [Act.put, List.setIfInBounds_toArray, List.set_cons_zero, List.set_cons_succ]
      rfl
    refine takeN (i := 10) (N := (some 24)) (v := ?v16) (a' := ?a16) rfl rfl (by kernel_rfl) (by kernel_rfl) (by kernel_rfl) (fun _ _ _ h => h) (Or.inl ⟨by rfl, ?hy16⟩) ?ha16 (by assumption) ?rest16
    case hy16 =>
      intro w_ hSw_
      go_simp
      first | done | (with_reducible rfl)
    case ha16 =>
      simp only [Act.put, List.setIfInBounds_toArray, List.set_cons_zero, List.set_cons_succ]
      rfl
    refine takeN (i := 11) (N := (some 25)) (v := ?v17) (a' := ?a17) rfl rfl (by kernel_rfl) (by kernel_rfl) (by kernel_rfl) (fun _ _ _ h => h) (Or.inl ⟨by rfl, ?hy17⟩) ?ha17 (by assumption) ?rest17
    case hy17 =>
      intro w_ hSw_
      go_simp
      first | done | (with_reducible rfl)
    case ha17 =>
      simp only [Act.put, List.setIfInBounds_toArray, List.set_cons_zero, List.set_cons_succ]
      rfl
    refine takeN (i := 12) (N := (some 26)) (v := ?v18) (a' := ?a18) rfl rfl (by kernel_rfl) (by kernel_rfl) (by kernel_rfl) (fun _ _ _ h => h) (Or.inl ⟨by rfl, ?hy18⟩) ?ha18 (by assumption) ?rest18
    case hy18 =>
      intro w_ hSw_
      go_simp
      first | done | (with_reducible rfl)
    case ha18 =>
      simp only [Act.put, List.setIfInBounds_toArray, List.set_cons_zero, List.set_cons_succ]
      rfl
    refine takeN (i := 14) (N := (some 5)) (v := ?v19) (a' := ?a19) rfl rfl (by kernel_rfl) (by kernel_rfl) (by kernel_rfl) (fun _ _ _ h => h) (Or.inl ⟨by rfl, ?hy19⟩) ?ha19 (by assumption) ?rest19
    case hy19 =>
      intro w_ hSw_
      go_simp
      first | done | (with_reducible rfl)
    case ha19 =>
      simp only [Act.put, List.setIfInBounds_toArray, List.set_cons_zero, List.set_cons_succ]
      rfl
    refine wpAnyH_ready (rs := [15]) (by kernel_rfl) (by simp) ?_
    refine AllReadyH.cons rfl (fun K hK => ?_) AllReadyH.nil
    go_simp
    refine hK.out _ _ (NS.mk (Ng.put2 HG2.out hgl2 hgl3 HBX.out _ _)) (fun hHeld => ?_)
    clear hK K
    try simp only [Act.put, List.setIfInBounds_toArray, List.set_cons_zero, List.set_cons_succ]
    refine takeN (i := 16) (N := (some 7)) (v := ?v20) (a' := ?a20) rfl rfl (by kernel_rfl) (by kernel_rfl) (by kernel_rfl) (fun _ _ _ h => h) (Or.inl ⟨by rfl, ?hy20⟩) ?ha20 (by assumption) ?rest20
    case hy20 =>
      intro w_ hSw_
      go_simp
      first | done | (with_reducible rfl)
    case ha20 =>
      simp only [Act.put, List.setIfInBounds_toArray, List.set_cons_zero, List.set_cons_succ]
      rfl
    refine wpAnyH_done (by kernel_rfl) ?_ _
    refine NoPanic.normal ?_
    have hG6 := hHeld.1.out
    clear hHeld bc0 bc1 bf0 bf1 bl
    have hbox := blk_put (blk_put HBX.out 0 (.int .u8 r2) rfl) 1 (.int .u32 r3) rfl
    generalize ((w2.setCell ⟨w1.heap.size, 0, none⟩ (.int .u8 r2)).setCell ⟨w1.heap.size, 1, none⟩ (.int .u32 r3)) = W6 at hG6 hbox ⊢
    generalize w1.heap.size = gb at hbox hgl2 ⊢
    clear HG2 HN0
    have HG := Aside0.mk hG6
    have HBX6 := Aside0.mk hbox
    have k0 : W6.cell? ⟨gb, 0, none⟩ = some (.int .u8 r2) := (blk_cell hbox 0).trans rfl
    have k1 : W6.cell? ⟨gb, 1, none⟩ = some (.int .u32 r3) := (blk_cell hbox 1).trans rfl
    have kf0 := blk_frozen hbox 0
    have kf1 := blk_frozen hbox 1
    have kl := blk_lt hbox
    clear hG6 hbox
    have p0 : W6.cell? ⟨w.heap.size, 0, none⟩ = some (.bool false) := (blk_cell HG.out.piece 0).trans rfl
    have pf0 := blk_frozen HG.out.piece 0
    have p1 : W6.cell? ⟨w.heap.size, 1, none⟩ = some (.int .u8 0) := (blk_cell HG.out.piece 1).trans rfl
    have pf1 := blk_frozen HG.out.piece 1
    have p2 : W6.cell? ⟨w.heap.size, 2, none⟩ = some (.bool false) := (blk_cell HG.out.piece 2).trans rfl
    have pf2 := blk_frozen HG.out.piece 2
    have p3 : W6.cell? ⟨w.heap.size, 3, none⟩ = some (.int .u32 0) := (blk_cell HG.out.piece 3).trans rfl
    have pf3 := blk_frozen HG.out.piece 3
    have p4 : W6.cell? ⟨w.heap.size, 4, none⟩ = some (.slice none 0 0) := (blk_cell HG.out.piece 4).trans rfl
    have pf4 := blk_frozen HG.out.piece 4
    have r0_ : W6.cell? ⟨w.heap.size + 1, 0, none⟩ = some (.int .u8 0) := (blk_cell HG.out.fault 0).trans rfl
    have rf0 := blk_frozen HG.out.fault 0
    have r1_ : W6.cell? ⟨w.heap.size + 1, 1, none⟩ = some (.int .u32 0) := (blk_cell HG.out.fault 1).trans rfl
    have rf1 := blk_frozen HG.out.fault 1
    have pl := blk_lt HG.out.piece
    have rl := blk_lt HG.out.fault
    have q0 : W6.cell? ⟨g, 0, none⟩ = some (.slice Av l.length cv) := (blk_cell HG.out.sp.blk 0).trans rfl
    have q1 : W6.cell? ⟨g, 1, none⟩ = some (.bool m) := (blk_cell HG.out.sp.blk 1).trans rfl
    have hle0 : w.heap.size ≤ w.heap.size := Nat.le_refl _
    have hle1 : w.heap.size ≤ w.heap.size + 1 := by omega
    go_wp2_with fail
    exact bodyPost_ret (v := .tuple #[.agg #[.bool false, .int .u8 0, .bool false, .int .u32 0, .slice none 0 0], .agg #[.int .u8 0, .int .u32 0], .bool false]) (by simp [results, Tryd.results12, go_sem, p0, p1, p2, p3, p4, r0_, r1_]) rfl ⟨rfl, Below.setCell (Below.setCell (Below.setCell (Below.setCell (Below.setCell (Below.setCell (Below.setCell HG.out.bel hle0 _) hle0 _) hle0 _) hle0 _) hle0 _) hle1 _) hle1 _⟩
set_option maxHeartbeats 8000000 in
set_option maxRecDepth 100000 in
theorem split_next_more (wb w : World) (g : Nat) (v : Value) (m : Bool) (l : List Int) (r1 r2 r3 : Int) (r4 : Bool) (h : Sp wb w g v m false l) (hg : Cond w) (hh : wsframe_Head.f l m = some (r1, r2, r3, r4)) (h4 : r4 = true) (h2 : r2 = 0) (h3 : r3 = 0) (h1 : decide ((l.length : Int) < r1) = true) : Calls Tryd.prog 12 #[.pointer (some ⟨g, 0, none⟩)] w fun e w' => e = .returned (.tuple #[.agg #[.bool false, .int .u8 0, .bool false, .int .u32 0, .slice none 0 0], .agg #[.int .u8 0, .int .u32 0], .bool false]) ∧ Below w.heap.size w w' := by
  subst h4 h2 h3
  obtain ⟨Av, cv, rfl⟩ := Kd.R_slice h.row
  have c2 : w.cell? ⟨g, 2, none⟩ = some (.bool false) := (blk_cell h.blk 2).trans rfl
  have hgl := blk_lt h.blk
  have HS := Aside0.mk h
  have HC := Aside0.mk hg
  have HH := Aside0.mk hh
  clear h hg hh
  have hu31 := Tryd.underlying31
  have hu33 := Tryd.underlying33
  go_enter Tryd.func12, Tryd.ntmps12
  go_wp2_with fail
  refine (split_bad_any g false _ ?_).mono ?_
  · exact (blk_cell (HS.out.below (below_alloc (below_alloc (Below.refl _ _) _) _)).blk 2).trans rfl
  rintro e w1 ⟨rfl, rfl⟩
  have hN0 : Ng wb w ((w.alloc (.cells #[.bool false, .int .u8 0, .bool false, .int .u32 0, .slice none 0 0] 31)).alloc (.cells #[.int .u8 0, .int .u32 0] 33)) g (.slice Av l.length cv) m l := ⟨below_alloc (below_alloc (Below.refl _ _) _) _, HS.out.below (below_alloc (below_alloc (Below.refl _ _) _) _), blk_alloc (last_at _ _ _ rfl) _, last_at _ _ _ (by simp)⟩
  generalize (w.alloc (.cells #[.bool false, .int .u8 0, .bool false, .int .u32 0, .slice none 0 0] 31)).alloc (.cells #[.int .u8 0, .int .u32 0] 33) = w1 at hN0 ⊢
  have HN0 := Aside0.mk hN0
  clear hN0 c2 HS
  go_upto_region 3 with fail
  refine wp_region_noPanic ?_
  refine wp_region_held_drew (S := fun w' => Aside0 (Ng wb w w' g (.slice Av l.length cv) m l) ∧ w'.cell? ⟨g, 0, none⟩ = some (.slice Av l.length cv) ∧ w'.cell? ⟨g, 1, none⟩ = some (.bool m)) (by kernel_rfl) (NS.mk (HN0.out.below (below_drew (Below.refl _ _)))) (fun hHeld => ?_)
  refine takeN (i := 0) (N := (some 15)) (v := ?v21) (a' := ?a21) rfl rfl (by kernel_rfl) (by kernel_rfl) (by kernel_rfl) (fun _ _ _ h => h) (Or.inl ⟨by rfl, ?hy21⟩) ?ha21 (by assumption) ?rest21
  case hy21 =>
    intro w_ hSw_
    go_simp
    first | done | (with_reducible rfl)
  case ha21 =>
    simp only [Act.put, List.setIfInBounds_toArray, List.set_cons_zero, List.set_cons_succ]
    rfl
  refine takeN (i := 1) (N := (some 16)) (v := ?v22) (a' := ?a22) rfl rfl (by kernel_rfl) (by kernel_rfl) (by kernel_rfl) (fun _ _ _ h => h) (Or.inl ⟨by rfl, ?hy22⟩) ?ha22 (by assumption) ?rest22
  case hy22 =>
    intro w_ hSw_
    go_simp
    first | done | (with_reducible rfl)
  case ha22 =>
    simp only [Act.put, List.setIfInBounds_toArray, List.set_cons_zero, List.set_cons_succ]
    rfl
  refine takeN (i := 2) (N := (some 17)) (v := ?v23) (a' := ?a23) rfl rfl (by kernel_rfl) (by kernel_rfl) (by kernel_rfl) (fun _ _ _ h => h) (Or.inl ⟨by rfl, ?hy23⟩) ?ha23 (by assumption) ?rest23
  case hy23 =>
    intro w_ hSw_
    go_simp
    first | done | (with_reducible rfl)
  case ha23 =>
    simp only [Act.put, List.setIfInBounds_toArray, List.set_cons_zero, List.set_cons_succ]
    rfl
  refine takeN (i := 3) (N := (some 18)) (v := ?v24) (a' := ?a24) rfl rfl (by kernel_rfl) (by kernel_rfl) (by kernel_rfl) (fun _ _ _ h => h) (Or.inl ⟨by rfl, ?hy24⟩) ?ha24 (by assumption) ?rest24
  case hy24 =>
    intro w_ hSw_
    go_simp
    first | done | (with_reducible rfl)
  case ha24 =>
    simp only [Act.put, List.setIfInBounds_toArray, List.set_cons_zero, List.set_cons_succ]
    rfl
  refine takeN (i := 4) (N := (some 19)) (v := ?v25) (a' := ?a25) rfl rfl (by kernel_rfl) (by kernel_rfl) (by kernel_rfl) (fun _ _ _ h => h) (Or.inl ⟨by rfl, ?hy25⟩) ?ha25 (by assumption) ?rest25
  case hy25 =>
    intro w_ hSw_
    go_simp
    first | done | (with_reducible rfl)
  case ha25 =>
    simp only [Act.put, List.setIfInBounds_toArray, List.set_cons_zero, List.set_cons_succ]
    rfl
  refine takeN (i := 5) (N := (some 20)) (v := ?v26) (a' := ?a26) rfl rfl (by kernel_rfl) (by kernel_rfl) (by kernel_rfl) (fun _ _ _ h => h) (Or.inl ⟨by rfl, ?hy26⟩) ?ha26 (by assumption) ?rest26
  case hy26 =>
    intro w_ hSw_
    go_simp
    first | done | (with_reducible rfl)
  case ha26 =>
    simp only [Act.put, List.setIfInBounds_toArray, List.set_cons_zero, List.set_cons_succ]
    rfl
  refine takeN (i := 6) (N := (some 21)) (v := ?v27) (a' := ?a27) rfl rfl (by kernel_rfl) (by kernel_rfl) (by kernel_rfl) (fun _ _ _ h => h) (Or.inl ⟨by rfl, ?hy27⟩) ?ha27 (by assumption) ?rest27
  case hy27 =>
    intro w_ hSw_
    go_simp
    first | done | (with_reducible rfl)
  case ha27 =>
    simp only [Act.put, List.setIfInBounds_toArray, List.set_cons_zero, List.set_cons_succ]
    rfl
  refine takeN (i := 7) (N := (some 22)) (v := ?v28) (a' := ?a28) rfl rfl (by kernel_rfl) (by kernel_rfl) (by kernel_rfl) (fun _ _ _ h => h) (Or.inl ⟨by rfl, ?hy28⟩) ?ha28 (by assumption) ?rest28
  case hy28 =>
    intro w_ hSw_
    go_simp
    first | done | (with_reducible rfl)
  case ha28 =>
    simp only [Act.put, List.setIfInBounds_toArray, List.set_cons_zero, List.set_cons_succ]
    rfl
  refine wpAnyH_ready (rs := [8, 13]) (by kernel_rfl) (by simp) ?_
  refine AllReadyH.cons rfl (fun K hK => ?_) (AllReadyH.cons rfl (fun K hK => ?_) AllReadyH.nil)
  · go_simp
    go_at_call 17
    with_reducible refine (wsframe_Head.calls Av cv l m r1 0 0 true _ (Kd.R_reads' hHeld.1.out.sp.row).2.2 (Kd.R_reads' hHeld.1.out.sp.row).2.1 HH.out (HC.out.below hHeld.1.out.bel)).mono ?_
    rintro e w2 ⟨rfl, hb⟩
    have HG2 := Aside0.mk (hHeld.1.out.below hb)
    clear hb
    refine hK.out _ _ (NS.mk HG2.out) (fun hHeld => ?_)
    clear hK K
    try simp only [Act.put, List.setIfInBounds_toArray, List.set_cons_zero, List.set_cons_succ]
    refine takeN (i := 9) (N := (some 14)) (v := ?v29) (a' := ?a29) rfl rfl (by kernel_rfl) (by kernel_rfl) (by kernel_rfl) (fun _ _ _ h => h) (Or.inl ⟨by rfl, ?hy29⟩) ?ha29 (by assumption) ?rest29
    case hy29 =>
      intro w_ hSw_
      go_simp
      first | done | (with_reducible rfl)
    case ha29 =>
      simp only [Act.put, List.setIfInBounds_toArray, List.set_cons_zero, List.set_cons_succ]
      rfl
    refine takeN (i := 10) (N := (some 24)) (v := ?v30) (a' := ?a30) rfl rfl (by kernel_rfl) (by kernel_rfl) (by kernel_rfl) (fun _ _ _ h => h) (Or.inl ⟨by rfl, ?hy30⟩) ?ha30 (by assumption) ?rest30
    case hy30 =>
      intro w_ hSw_
      go_simp
      first | done | (with_reducible rfl)
    case ha30 =>
      simp only [Act.put, List.setIfInBounds_toArray, List.set_cons_zero, List.set_cons_succ]
      rfl
    refine takeN (i := 11) (N := (some 25)) (v := ?v31) (a' := ?a31) rfl rfl (by kernel_rfl) (by kernel_rfl) (by kernel_rfl) (fun _ _ _ h => h) (Or.inl ⟨by rfl, ?hy31⟩) ?ha31 (by assumption) ?rest31
    case hy31 =>
      intro w_ hSw_
      go_simp
      first | done | (with_reducible rfl)
    case ha31 =>
      simp only [Act.put, List.setIfInBounds_toArray, List.set_cons_zero, List.set_cons_succ]
      rfl
    refine takeN (i := 12) (N := (some 26)) (v := ?v32) (a' := ?a32) rfl rfl (by kernel_rfl) (by kernel_rfl) (by kernel_rfl) (fun _ _ _ h => h) (Or.inl ⟨by rfl, ?hy32⟩) ?ha32 (by assumption) ?rest32
    case hy32 =>
      intro w_ hSw_
      go_simp
      first | done | (with_reducible rfl)
    case ha32 =>
      simp only [Act.put, List.setIfInBounds_toArray, List.set_cons_zero, List.set_cons_succ]
      rfl
    refine wpAnyH_ready (rs := [13]) (by kernel_rfl) (by simp) ?_
    refine AllReadyH.cons rfl (fun K hK => ?_) AllReadyH.nil
    go_simp
    refine hK.out _ _ (NS.mk (HG2.out.below (below_alloc (Below.refl _ _) _))) (fun hHeld => ?_)
    clear hK K
    try simp only [Act.put, List.setIfInBounds_toArray, List.set_cons_zero, List.set_cons_succ]
    refine takeN (i := 14) (N := (some 5)) (v := ?v33) (a' := ?a33) rfl rfl (by kernel_rfl) (by kernel_rfl) (by kernel_rfl) (fun _ _ _ h => h) (Or.inl ⟨by rfl, ?hy33⟩) ?ha33 (by assumption) ?rest33
    case hy33 =>
      intro w_ hSw_
      go_simp
      first | done | (with_reducible rfl)
    case ha33 =>
      simp only [Act.put, List.setIfInBounds_toArray, List.set_cons_zero, List.set_cons_succ]
      rfl
    refine wpAnyH_ready (rs := [15]) (by kernel_rfl) (by simp) ?_
    refine AllReadyH.cons rfl (fun K hK => ?_) AllReadyH.nil
    go_simp
    refine hK.out _ _ (NS.mk (HG2.out.below (below_alloc (Below.refl _ _) _))) (fun hHeld => ?_)
    clear hK K
    try simp only [Act.put, List.setIfInBounds_toArray, List.set_cons_zero, List.set_cons_succ]
    refine takeN (i := 16) (N := (some 7)) (v := ?v34) (a' := ?a34) rfl rfl (by kernel_rfl) (by kernel_rfl) (by kernel_rfl) (fun _ _ _ h => h) (Or.inl ⟨by rfl, ?hy34⟩) ?ha34 (by assumption) ?rest34
    case hy34 =>
      intro w_ hSw_
      go_simp
      first | done | (with_reducible rfl)
    case ha34 =>
      simp only [Act.put, List.setIfInBounds_toArray, List.set_cons_zero, List.set_cons_succ]
      rfl
    refine wpAnyH_done (by kernel_rfl) ?_ _
    refine NoPanic.normal ?_
    have hG6 := hHeld.1.out
    clear hHeld
    have hbox : (w2.alloc (.cells #[.int .u8 0, .int .u32 0] 33)).heap[w2.heap.size]? = some (.cells #[.int .u8 0, .int .u32 0] 33 (0, 0)) := last_at w2 _ _ rfl
    have hgl2 := HG2.out.lt
    generalize w2.alloc (.cells #[.int .u8 0, .int .u32 0] 33) = W6 at hG6 hbox ⊢
    generalize w2.heap.size = gb at hbox hgl2 ⊢
    clear HG2 HN0
    have HG := Aside0.mk hG6
    have HBX6 := Aside0.mk hbox
    have k0 : W6.cell? ⟨gb, 0, none⟩ = some (.int .u8 0) := (blk_cell hbox 0).trans rfl
    have k1 : W6.cell? ⟨gb, 1, none⟩ = some (.int .u32 0) := (blk_cell hbox 1).trans rfl
    have kf0 := blk_frozen hbox 0
    have kf1 := blk_frozen hbox 1
    have kl := blk_lt hbox
    clear hG6 hbox
    have p0 : W6.cell? ⟨w.heap.size, 0, none⟩ = some (.bool false) := (blk_cell HG.out.piece 0).trans rfl
    have pf0 := blk_frozen HG.out.piece 0
    have p1 : W6.cell? ⟨w.heap.size, 1, none⟩ = some (.int .u8 0) := (blk_cell HG.out.piece 1).trans rfl
    have pf1 := blk_frozen HG.out.piece 1
    have p2 : W6.cell? ⟨w.heap.size, 2, none⟩ = some (.bool false) := (blk_cell HG.out.piece 2).trans rfl
    have pf2 := blk_frozen HG.out.piece 2
    have p3 : W6.cell? ⟨w.heap.size, 3, none⟩ = some (.int .u32 0) := (blk_cell HG.out.piece 3).trans rfl
    have pf3 := blk_frozen HG.out.piece 3
    have p4 : W6.cell? ⟨w.heap.size, 4, none⟩ = some (.slice none 0 0) := (blk_cell HG.out.piece 4).trans rfl
    have pf4 := blk_frozen HG.out.piece 4
    have r0_ : W6.cell? ⟨w.heap.size + 1, 0, none⟩ = some (.int .u8 0) := (blk_cell HG.out.fault 0).trans rfl
    have rf0 := blk_frozen HG.out.fault 0
    have r1_ : W6.cell? ⟨w.heap.size + 1, 1, none⟩ = some (.int .u32 0) := (blk_cell HG.out.fault 1).trans rfl
    have rf1 := blk_frozen HG.out.fault 1
    have pl := blk_lt HG.out.piece
    have rl := blk_lt HG.out.fault
    have q0 : W6.cell? ⟨g, 0, none⟩ = some (.slice Av l.length cv) := (blk_cell HG.out.sp.blk 0).trans rfl
    have q1 : W6.cell? ⟨g, 1, none⟩ = some (.bool m) := (blk_cell HG.out.sp.blk 1).trans rfl
    have hle0 : w.heap.size ≤ w.heap.size := Nat.le_refl _
    have hle1 : w.heap.size ≤ w.heap.size + 1 := by omega
    go_wp2_with fail
    exact bodyPost_ret (v := .tuple #[.agg #[.bool false, .int .u8 0, .bool false, .int .u32 0, .slice none 0 0], .agg #[.int .u8 0, .int .u32 0], .bool false]) (by simp [results, Tryd.results12, go_sem, p0, p1, p2, p3, p4, r0_, r1_]) rfl ⟨rfl, Below.setCell (Below.setCell (Below.setCell (Below.setCell (Below.setCell (Below.setCell (Below.setCell HG.out.bel hle0 _) hle0 _) hle0 _) hle0 _) hle0 _) hle1 _) hle1 _⟩
  · have HW1 := Aside0.mk hHeld.1.out
    go_simp
    refine hK.out _ _ (NS.mk (HW1.out.below (below_alloc (Below.refl _ _) _))) (fun hHeld => ?_)
    clear hK K
    try simp only [Act.put, List.setIfInBounds_toArray, List.set_cons_zero, List.set_cons_succ]
    refine wpAnyH_ready (rs := [8]) (by kernel_rfl) (by simp) ?_
    refine AllReadyH.cons rfl (fun K hK => ?_) AllReadyH.nil
    go_simp
    go_at_call 17
    with_reducible refine (wsframe_Head.calls Av cv l m r1 0 0 true _ (Kd.R_reads' hHeld.1.out.sp.row).2.2 (Kd.R_reads' hHeld.1.out.sp.row).2.1 HH.out (HC.out.below hHeld.1.out.bel)).mono ?_
    rintro e w2 ⟨rfl, hb⟩
    have HG2 := Aside0.mk (hHeld.1.out.below hb)
    have hbx : w2.heap[w1.heap.size]? = some (.cells #[.int .u8 0, .int .u32 0] 33 (0, 0)) := blk_below (blk_drew (last_at w1 _ _ rfl)) hb
    have bc0 : w2.cell? ⟨w1.heap.size, 0, none⟩ = some (.int .u8 0) := (blk_cell hbx 0).trans rfl
    have bf0 := blk_frozen hbx 0
    have bc1 : w2.cell? ⟨w1.heap.size, 1, none⟩ = some (.int .u32 0) := (blk_cell hbx 1).trans rfl
    have bf1 := blk_frozen hbx 1
    have bl := blk_lt hbx
    have hgl2 : w.heap.size + 1 < w1.heap.size := HN0.out.lt
    have hgl3 : g < w1.heap.size := blk_lt HN0.out.sp.blk
    have HBX := Aside0.mk hbx
    clear hbx
    clear hb
    refine hK.out _ _ (NS.mk HG2.out) (fun hHeld => ?_)
    clear hK K
    try simp only [Act.put, List.setIfInBounds_toArray, List.set_cons_zero, List.set_cons_succ]
    refine takeN (i := 9) (N := (some 14)) (v := ?v35) (a' := ?a35) rfl rfl (by kernel_rfl) (by kernel_rfl) (by kernel_rfl) (fun _ _ _ h => h) (Or.inl ⟨by rfl, ?hy35⟩) ?ha35 (by assumption) ?rest35
    case hy35 =>
      intro w_ hSw_
      go_simp
      first | done | (with_reducible rfl)
    case ha35 =>
      simp only [Act.put, List.setIfInBounds_toArray, List.set_cons_zero, List.set_cons_succ]
      rfl
    refine takeN (i := 10) (N := (some 24)) (v := ?v36) (a' := ?a36) rfl rfl (by kernel_rfl) (by kernel_rfl) (by kernel_rfl) (fun _ _ _ h => h) (Or.inl ⟨by rfl, ?hy36⟩) ?ha36 (by assumption) ?rest36
    case hy36 =>
      intro w_ hSw_
      go_simp
      first | done | (with_reducible rfl)
    case ha36 =>
      simp only [Act.put, List.setIfInBounds_toArray, List.set_cons_zero, List.set_cons_succ]
      rfl
    refine takeN (i := 11) (N := (some 25)) (v := ?v37) (a' := ?a37) rfl rfl (by kernel_rfl) (by kernel_rfl) (by kernel_rfl) (fun _ _ _ h => h) (Or.inl ⟨by rfl, ?hy37⟩) ?ha37 (by assumption) ?rest37
    case hy37 =>
      intro w_ hSw_
      go_simp
      first | done | (with_reducible rfl)
    case ha37 =>
      simp only [Act.put, List.setIfInBounds_toArray, List.set_cons_zero, List.set_cons_succ]
      rfl
    refine takeN (i := 12) (N := (some 26)) (v := ?v38) (a' := ?a38) rfl rfl (by kernel_rfl) (by kernel_rfl) (by kernel_rfl) (fun _ _ _ h => h) (Or.inl ⟨by rfl, ?hy38⟩) ?ha38 (by assumption) ?rest38
    case hy38 =>
      intro w_ hSw_
      go_simp
      first | done | (with_reducible rfl)
    case ha38 =>
      simp only [Act.put, List.setIfInBounds_toArray, List.set_cons_zero, List.set_cons_succ]
      rfl
    refine takeN (i := 14) (N := (some 5)) (v := ?v39) (a' := ?a39) rfl rfl (by kernel_rfl) (by kernel_rfl) (by kernel_rfl) (fun _ _ _ h => h) (Or.inl ⟨by rfl, ?hy39⟩) ?ha39 (by assumption) ?rest39
    case hy39 =>
      intro w_ hSw_
      go_simp
      first | done | (with_reducible rfl)
    case ha39 =>
      simp only [Act.put, List.setIfInBounds_toArray, List.set_cons_zero, List.set_cons_succ]
      rfl
    refine wpAnyH_ready (rs := [15]) (by kernel_rfl) (by simp) ?_
    refine AllReadyH.cons rfl (fun K hK => ?_) AllReadyH.nil
    go_simp
    refine hK.out _ _ (NS.mk (Ng.put2 HG2.out hgl2 hgl3 HBX.out _ _)) (fun hHeld => ?_)
    clear hK K
    try simp only [Act.put, List.setIfInBounds_toArray, List.set_cons_zero, List.set_cons_succ]
    refine takeN (i := 16) (N := (some 7)) (v := ?v40) (a' := ?a40) rfl rfl (by kernel_rfl) (by kernel_rfl) (by kernel_rfl) (fun _ _ _ h => h) (Or.inl ⟨by rfl, ?hy40⟩) ?ha40 (by assumption) ?rest40
    case hy40 =>
      intro w_ hSw_
      go_simp
      first | done | (with_reducible rfl)
    case ha40 =>
      simp only [Act.put, List.setIfInBounds_toArray, List.set_cons_zero, List.set_cons_succ]
      rfl
    refine wpAnyH_done (by kernel_rfl) ?_ _
    refine NoPanic.normal ?_
    have hG6 := hHeld.1.out
    clear hHeld bc0 bc1 bf0 bf1 bl
    have hbox := blk_put (blk_put HBX.out 0 (.int .u8 0) rfl) 1 (.int .u32 0) rfl
    generalize ((w2.setCell ⟨w1.heap.size, 0, none⟩ (.int .u8 0)).setCell ⟨w1.heap.size, 1, none⟩ (.int .u32 0)) = W6 at hG6 hbox ⊢
    generalize w1.heap.size = gb at hbox hgl2 ⊢
    clear HG2 HN0
    have HG := Aside0.mk hG6
    have HBX6 := Aside0.mk hbox
    have k0 : W6.cell? ⟨gb, 0, none⟩ = some (.int .u8 0) := (blk_cell hbox 0).trans rfl
    have k1 : W6.cell? ⟨gb, 1, none⟩ = some (.int .u32 0) := (blk_cell hbox 1).trans rfl
    have kf0 := blk_frozen hbox 0
    have kf1 := blk_frozen hbox 1
    have kl := blk_lt hbox
    clear hG6 hbox
    have p0 : W6.cell? ⟨w.heap.size, 0, none⟩ = some (.bool false) := (blk_cell HG.out.piece 0).trans rfl
    have pf0 := blk_frozen HG.out.piece 0
    have p1 : W6.cell? ⟨w.heap.size, 1, none⟩ = some (.int .u8 0) := (blk_cell HG.out.piece 1).trans rfl
    have pf1 := blk_frozen HG.out.piece 1
    have p2 : W6.cell? ⟨w.heap.size, 2, none⟩ = some (.bool false) := (blk_cell HG.out.piece 2).trans rfl
    have pf2 := blk_frozen HG.out.piece 2
    have p3 : W6.cell? ⟨w.heap.size, 3, none⟩ = some (.int .u32 0) := (blk_cell HG.out.piece 3).trans rfl
    have pf3 := blk_frozen HG.out.piece 3
    have p4 : W6.cell? ⟨w.heap.size, 4, none⟩ = some (.slice none 0 0) := (blk_cell HG.out.piece 4).trans rfl
    have pf4 := blk_frozen HG.out.piece 4
    have r0_ : W6.cell? ⟨w.heap.size + 1, 0, none⟩ = some (.int .u8 0) := (blk_cell HG.out.fault 0).trans rfl
    have rf0 := blk_frozen HG.out.fault 0
    have r1_ : W6.cell? ⟨w.heap.size + 1, 1, none⟩ = some (.int .u32 0) := (blk_cell HG.out.fault 1).trans rfl
    have rf1 := blk_frozen HG.out.fault 1
    have pl := blk_lt HG.out.piece
    have rl := blk_lt HG.out.fault
    have q0 : W6.cell? ⟨g, 0, none⟩ = some (.slice Av l.length cv) := (blk_cell HG.out.sp.blk 0).trans rfl
    have q1 : W6.cell? ⟨g, 1, none⟩ = some (.bool m) := (blk_cell HG.out.sp.blk 1).trans rfl
    have hle0 : w.heap.size ≤ w.heap.size := Nat.le_refl _
    have hle1 : w.heap.size ≤ w.heap.size + 1 := by omega
    go_wp2_with fail
    exact bodyPost_ret (v := .tuple #[.agg #[.bool false, .int .u8 0, .bool false, .int .u32 0, .slice none 0 0], .agg #[.int .u8 0, .int .u32 0], .bool false]) (by simp [results, Tryd.results12, go_sem, p0, p1, p2, p3, p4, r0_, r1_]) rfl ⟨rfl, Below.setCell (Below.setCell (Below.setCell (Below.setCell (Below.setCell (Below.setCell (Below.setCell HG.out.bel hle0 _) hle0 _) hle0 _) hle0 _) hle0 _) hle1 _) hle1 _⟩
end Go.Proofs.YtkhlldhcmgkioaaDoor.PAll
