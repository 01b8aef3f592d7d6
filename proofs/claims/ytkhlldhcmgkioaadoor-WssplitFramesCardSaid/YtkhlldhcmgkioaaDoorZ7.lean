/- What the law's row rests on, part 7. -/
import Derived.Test.YtkhlldhcmgkioaaDoorZ6
import Derived.Deep.RegionHeld3
/- What Next answers where no frame is told. -/
namespace Go.Proofs.YtkhlldhcmgkioaaDoor.PAll
open Go.RowKit Go.Proofs.YtkhlldhcmgkioaaDoorW.PrintWords Go.Proofs.YtkhlldhcmgkioaaDoorW.PrintLast Go.Proofs.YtkhlldhcmgkioaaDoorW.PrintMore 
set_option linter.unusedVariables false
set_option linter.unusedSimpArgs false
/-- What stands throughout: the splitter, and the two boxes of the results. -/
structure Ng (wb w W : World) (g : Nat) (v : Value) (m : Bool) (l : List Int) : Prop where
  bel : Below w.heap.size w W
  sp : Sp wb W g v m false l
  piece : W.heap[w.heap.size]? = some (.cells #[.bool false, .int .u8 0, .bool false, .int .u32 0, .slice none 0 0] 31 (0, 0))
  fault : W.heap[w.heap.size + 1]? = some (.cells #[.int .u8 0, .int .u32 0] 33 (0, 0))
theorem Ng.below {wb w W W' : World} {g : Nat} {v : Value} {m : Bool} {l : List Int} (h : Ng wb w W g v m l) (hb : Below W.heap.size W W') : Ng wb w W' g v m l := ⟨below_step h.bel hb, h.sp.below hb, blk_below h.piece hb, blk_below h.fault hb⟩
theorem Ng.lt {wb w W : World} {g : Nat} {v : Value} {m : Bool} {l : List Int} (h : Ng wb w W g v m l) : w.heap.size + 1 < W.heap.size := blk_lt h.fault
theorem NS.mk {wb w W : World} {g n c : Nat} {A : Option Addr} {m : Bool} {l : List Int} (h : Ng wb w W g (.slice A n c) m l) : Aside0 (Ng wb w W g (.slice A n c) m l) ∧ W.cell? ⟨g, 0, none⟩ = some (.slice A n c) ∧ W.cell? ⟨g, 1, none⟩ = some (.bool m) := ⟨⟨h⟩, (blk_cell h.sp.blk 0).trans rfl, (blk_cell h.sp.blk 1).trans rfl⟩
theorem Ng.put2 {wb w W : World} {g k : Nat} {v : Value} {m : Bool} {l : List Int} {cs : Array Value} (h : Ng wb w W g v m l) (h1 : w.heap.size + 1 < k) (h2 : g < k) (hb : W.heap[k]? = some (.cells cs 33 (0, 0))) (a b : Value) : Ng wb w ((W.setCell ⟨k, 0, none⟩ a).setCell ⟨k, 1, none⟩ b) g v m l := by
  have h0 : ∀ j, j ≠ k → ((W.setCell ⟨k, 0, none⟩ a).setCell ⟨k, 1, none⟩ b).heap[j]? = W.heap[j]? := fun j hj => (Below.heap_setCell _ _ _ _ hj).trans (Below.heap_setCell _ _ _ _ hj)
  exact ⟨Below.setCell (Below.setCell h.bel (by show _ ≤ k; omega) _) (by show _ ≤ k; omega) _, ⟨(h0 g (by omega)).trans h.sp.blk, Kd.R_mono (Kd.R_far (Kd.R_far (Kd.R_types h.sp.row hb (by intro q hq; simp [Kd.int, Kd.scalar] at hq; omega)) (p := ⟨k, 0, none⟩) (fun j hj => hj.2) a) (p := ⟨k, 1, none⟩) (fun j hj => hj.2) b) (fun _ _ => trivial)⟩, (h0 _ (by omega)).trans h.piece, (h0 _ (by omega)).trans h.fault⟩
set_option maxHeartbeats 8000000 in
set_option maxRecDepth 100000 in
theorem split_next_none (wb w : World) (g : Nat) (v : Value) (m : Bool) (l : List Int) (r1 r2 r3 : Int) (r4 : Bool) (h : Sp wb w g v m false l) (hg : Cond w) (hh : wsframe_Head.f l m = some (r1, r2, r3, r4)) (h4 : r4 = false) : Calls Tryd.prog 12 #[.pointer (some ⟨g, 0, none⟩)] w fun e w' => e = .returned (.tuple #[.agg #[.bool false, .int .u8 0, .bool false, .int .u32 0, .slice none 0 0], .agg #[.int .u8 0, .int .u32 0], .bool false]) ∧ Below w.heap.size w w' := by
  subst h4
  obtain ⟨Av, cv, rfl⟩ := Kd.R_slice h.row
  have c2 : w.cell? ⟨g, 2, none⟩ = some (.bool false) := (blk_cell h.blk 2).trans rfl
  have hgl := blk_lt h.blk
  have HS := Aside0.mk h
  have HC := Aside0.mk hg
  have HH := Aside0.mk hh
  clear h hg hh
  have hu31 := Tryd.underlying31
  have hu33 := Tryd.underlying33
  go_enter Tryd.func12, Tryd.ntmps12
  go_wp2_with fail
  refine (split_bad_any g false _ ?_).mono ?_
  · exact (blk_cell (HS.out.below (below_alloc (below_alloc (Below.refl _ _) _) _)).blk 2).trans rfl
  rintro e w1 ⟨rfl, rfl⟩
  have hN0 : Ng wb w ((w.alloc (.cells #[.bool false, .int .u8 0, .bool false, .int .u32 0, .slice none 0 0] 31)).alloc (.cells #[.int .u8 0, .int .u32 0] 33)) g (.slice Av l.length cv) m l := ⟨below_alloc (below_alloc (Below.refl _ _) _) _, HS.out.below (below_alloc (below_alloc (Below.refl _ _) _) _), blk_alloc (last_at _ _ _ rfl) _, last_at _ _ _ (by simp)⟩
  generalize (w.alloc (.cells #[.bool false, .int .u8 0, .bool false, .int .u32 0, .slice none 0 0] 31)).alloc (.cells #[.int .u8 0, .int .u32 0] 33) = w1 at hN0 ⊢
  have HN0 := Aside0.mk hN0
  clear hN0 c2 HS
  go_upto_region 3 with fail
  refine wp_region_noPanic ?_
  refine wp_region_held_drew (S := fun w' => Aside0 (Ng wb w w' g (.slice Av l.length cv) m l) ∧ w'.cell? ⟨g, 0, none⟩ = some (.slice Av l.length cv) ∧ w'.cell? ⟨g, 1, none⟩ = some (.bool m)) (by kernel_rfl) (NS.mk (HN0.out.below (below_drew (Below.refl _ _)))) (fun hHeld => ?_)
  refine takeN (i := 0) (N := (some 15)) (v := ?v1) (a' := ?a1) rfl rfl (by kernel_rfl) (by kernel_rfl) (by kernel_rfl) (fun _ _ _ h => h) (Or.inl ⟨by rfl, ?hy1⟩) ?ha1 (by assumption) ?rest1
  case hy1 =>
    intro w_ hSw_
    go_simp
    first | done | (with_reducible rfl)
  case ha1 =>
    simp only [Act.put, List.setIfInBounds_toArray, List.set_cons_zero, List.set_cons_succ]
    rfl
  refine takeN (i := 1) (N := (some 16)) (v := ?v2) (a' := ?a2) rfl rfl (by kernel_rfl) (by kernel_rfl) (by kernel_rfl) (fun _ _ _ h => h) (Or.inl ⟨by rfl, ?hy2⟩) ?ha2 (by assumption) ?rest2
  case hy2 =>
    intro w_ hSw_
    go_simp
    first | done | (with_reducible rfl)
  case ha2 =>
    simp only [Act.put, List.setIfInBounds_toArray, List.set_cons_zero, List.set_cons_succ]
    rfl
  refine takeN (i := 2) (N := (some 17)) (v := ?v3) (a' := ?a3) rfl rfl (by kernel_rfl) (by kernel_rfl) (by kernel_rfl) (fun _ _ _ h => h) (Or.inl ⟨by rfl, ?hy3⟩) ?ha3 (by assumption) ?rest3
  case hy3 =>
    intro w_ hSw_
    go_simp
    first | done | (with_reducible rfl)
  case ha3 =>
    simp only [Act.put, List.setIfInBounds_toArray, List.set_cons_zero, List.set_cons_succ]
    rfl
  refine takeN (i := 3) (N := (some 18)) (v := ?v4) (a' := ?a4) rfl rfl (by kernel_rfl) (by kernel_rfl) (by kernel_rfl) (fun _ _ _ h => h) (Or.inl ⟨by rfl, ?hy4⟩) ?ha4 (by assumption) ?rest4
  case hy4 =>
    intro w_ hSw_
    go_simp
    first | done | (with_reducible rfl)
  case ha4 =>
    simp only [Act.put, List.setIfInBounds_toArray, List.set_cons_zero, List.set_cons_succ]
    rfl
  refine takeN (i := 4) (N := (some 19)) (v := ?v5) (a' := ?a5) rfl rfl (by kernel_rfl) (by kernel_rfl) (by kernel_rfl) (fun _ _ _ h => h) (Or.inl ⟨by rfl, ?hy5⟩) ?ha5 (by assumption) ?rest5
  case hy5 =>
    intro w_ hSw_
    go_simp
    first | done | (with_reducible rfl)
  case ha5 =>
    simp only [Act.put, List.setIfInBounds_toArray, List.set_cons_zero, List.set_cons_succ]
    rfl
  refine takeN (i := 5) (N := (some 20)) (v := ?v6) (a' := ?a6) rfl rfl (by kernel_rfl) (by kernel_rfl) (by kernel_rfl) (fun _ _ _ h => h) (Or.inl ⟨by rfl, ?hy6⟩) ?ha6 (by assumption) ?rest6
  case hy6 =>
    intro w_ hSw_
    go_simp
    first | done | (with_reducible rfl)
  case ha6 =>
    simp only [Act.put, List.setIfInBounds_toArray, List.set_cons_zero, List.set_cons_succ]
    rfl
  refine takeN (i := 6) (N := (some 21)) (v := ?v7) (a' := ?a7) rfl rfl (by kernel_rfl) (by kernel_rfl) (by kernel_rfl) (fun _ _ _ h => h) (Or.inl ⟨by rfl, ?hy7⟩) ?ha7 (by assumption) ?rest7
  case hy7 =>
    intro w_ hSw_
    go_simp
    first | done | (with_reducible rfl)
  case ha7 =>
    simp only [Act.put, List.setIfInBounds_toArray, List.set_cons_zero, List.set_cons_succ]
    rfl
  refine takeN (i := 7) (N := (some 22)) (v := ?v8) (a' := ?a8) rfl rfl (by kernel_rfl) (by kernel_rfl) (by kernel_rfl) (fun _ _ _ h => h) (Or.inl ⟨by rfl, ?hy8⟩) ?ha8 (by assumption) ?rest8
  case hy8 =>
    intro w_ hSw_
    go_simp
    first | done | (with_reducible rfl)
  case ha8 =>
    simp only [Act.put, List.setIfInBounds_toArray, List.set_cons_zero, List.set_cons_succ]
    rfl
  refine wpAnyH_ready (rs := [8, 13]) (by kernel_rfl) (by simp) ?_
  refine AllReadyH.cons rfl (fun K hK => ?_) (AllReadyH.cons rfl (fun K hK => ?_) AllReadyH.nil)
  · go_simp
    go_at_call 17
    with_reducible refine (wsframe_Head.calls Av cv l m r1 r2 r3 false _ (Kd.R_reads' hHeld.1.out.sp.row).2.2 (Kd.R_reads' hHeld.1.out.sp.row).2.1 HH.out (HC.out.below hHeld.1.out.bel)).mono ?_
    rintro e w2 ⟨rfl, hb⟩
    have HG2 := Aside0.mk (hHeld.1.out.below hb)
    clear hb
    refine hK.out _ _ (NS.mk HG2.out) (fun hHeld => ?_)
    clear hK K
    try simp only [Act.put, List.setIfInBounds_toArray, List.set_cons_zero, List.set_cons_succ]
    refine takeN (i := 9) (N := (some 14)) (v := ?v9) (a' := ?a9) rfl rfl (by kernel_rfl) (by kernel_rfl) (by kernel_rfl) (fun _ _ _ h => h) (Or.inl ⟨by rfl, ?hy9⟩) ?ha9 (by assumption) ?rest9
    case hy9 =>
      intro w_ hSw_
      go_simp
      first | done | (with_reducible rfl)
    case ha9 =>
      simp only [Act.put, List.setIfInBounds_toArray, List.set_cons_zero, List.set_cons_succ]
      rfl
    refine takeN (i := 10) (N := (some 24)) (v := ?v10) (a' := ?a10) rfl rfl (by kernel_rfl) (by kernel_rfl) (by kernel_rfl) (fun _ _ _ h => h) (Or.inl ⟨by rfl, ?hy10⟩) ?ha10 (by assumption) ?rest10
    case hy10 =>
      intro w_ hSw_
      go_simp
      first | done | (with_reducible rfl)
    case ha10 =>
      simp only [Act.put, List.setIfInBounds_toArray, List.set_cons_zero, List.set_cons_succ]
      rfl
    refine takeN (i := 11) (N := (some 25)) (v := ?v11) (a' := ?a11) rfl rfl (by kernel_rfl) (by kernel_rfl) (by kernel_rfl) (fun _ _ _ h => h) (Or.inl ⟨by rfl, ?hy11⟩) ?ha11 (by assumption) ?rest11
    case hy11 =>
      intro w_ hSw_
      go_simp
      first | done | (with_reducible rfl)
    case ha11 =>
      simp only [Act.put, List.setIfInBounds_toArray, List.set_cons_zero, List.set_cons_succ]
      rfl
    refine takeN (i := 12) (N := (some 26)) (v := ?v12) (a' := ?a12) rfl rfl (by kernel_rfl) (by kernel_rfl) (by kernel_rfl) (fun _ _ _ h => h) (Or.inl ⟨by rfl, ?hy12⟩) ?ha12 (by assumption) ?rest12
    case hy12 =>
      intro w_ hSw_
      go_simp
      first | done | (with_reducible rfl)
    case ha12 =>
      simp only [Act.put, List.setIfInBounds_toArray, List.set_cons_zero, List.set_cons_succ]
      rfl
    refine wpAnyH_ready (rs := [13]) (by kernel_rfl) (by simp) ?_
    refine AllReadyH.cons rfl (fun K hK => ?_) AllReadyH.nil
    go_simp
    refine hK.out _ _ (NS.mk (HG2.out.below (below_alloc (Below.refl _ _) _))) (fun hHeld => ?_)
    clear hK K
    try simp only [Act.put, List.setIfInBounds_toArray, List.set_cons_zero, List.set_cons_succ]
    refine takeN (i := 14) (N := (some 5)) (v := ?v13) (a' := ?a13) rfl rfl (by kernel_rfl) (by kernel_rfl) (by kernel_rfl) (fun _ _ _ h => h) (Or.inl ⟨by rfl, ?hy13⟩) ?ha13 (by assumption) ?rest13
    case hy13 =>
      intro w_ hSw_
      go_simp
      first | done | (with_reducible rfl)
    case ha13 =>
      simp only [Act.put, List.setIfInBounds_toArray, List.set_cons_zero, List.set_cons_succ]
      rfl
    refine wpAnyH_ready (rs := [15]) (by kernel_rfl) (by simp) ?_
    refine AllReadyH.cons rfl (fun K hK => ?_) AllReadyH.nil
    go_simp
    refine hK.out _ _ (NS.mk (HG2.out.below (below_alloc (Below.refl _ _) _))) (fun hHeld => ?_)
    clear hK K
    try simp only [Act.put, List.setIfInBounds_toArray, List.set_cons_zero, List.set_cons_succ]
    refine takeN (i := 16) (N := (some 7)) (v := ?v14) (a' := ?a14) rfl rfl (by kernel_rfl) (by kernel_rfl) (by kernel_rfl) (fun _ _ _ h => h) (Or.inl ⟨by rfl, ?hy14⟩) ?ha14 (by assumption) ?rest14
    case hy14 =>
      intro w_ hSw_
      go_simp
      first | done | (with_reducible rfl)
    case ha14 =>
      simp only [Act.put, List.setIfInBounds_toArray, List.set_cons_zero, List.set_cons_succ]
      rfl
    refine wpAnyH_done (by kernel_rfl) ?_ _
    refine NoPanic.normal ?_
    have hG6 := hHeld.1.out
    clear hHeld
    have hbox : (w2.alloc (.cells #[.int .u8 r2, .int .u32 r3] 33)).heap[w2.heap.size]? = some (.cells #[.int .u8 r2, .int .u32 r3] 33 (0, 0)) := last_at w2 _ _ rfl
    have hgl2 := HG2.out.lt
    generalize w2.alloc (.cells #[.int .u8 r2, .int .u32 r3] 33) = W6 at hG6 hbox ⊢
    generalize w2.heap.size = gb at hbox hgl2 ⊢
    clear HG2 HN0
    have HG := Aside0.mk hG6
    have HBX6 := Aside0.mk hbox
    have k0 : W6.cell? ⟨gb, 0, none⟩ = some (.int .u8 r2) := (blk_cell hbox 0).trans rfl
    have k1 : W6.cell? ⟨gb, 1, none⟩ = some (.int .u32 r3) := (blk_cell hbox 1).trans rfl
    have kf0 := blk_frozen hbox 0
    have kf1 := blk_frozen hbox 1
    have kl := blk_lt hbox
    clear hG6 hbox
    have p0 : W6.cell? ⟨w.heap.size, 0, none⟩ = some (.bool false) := (blk_cell HG.out.piece 0).trans rfl
    have pf0 := blk_frozen HG.out.piece 0
    have p1 : W6.cell? ⟨w.heap.size, 1, none⟩ = some (.int .u8 0) := (blk_cell HG.out.piece 1).trans rfl
    have pf1 := blk_frozen HG.out.piece 1
    have p2 : W6.cell? ⟨w.heap.size, 2, none⟩ = some (.bool false) := (blk_cell HG.out.piece 2).trans rfl
    have pf2 := blk_frozen HG.out.piece 2
    have p3 : W6.cell? ⟨w.heap.size, 3, none⟩ = some (.int .u32 0) := (blk_cell HG.out.piece 3).trans rfl
    have pf3 := blk_frozen HG.out.piece 3
    have p4 : W6.cell? ⟨w.heap.size, 4, none⟩ = some (.slice none 0 0) := (blk_cell HG.out.piece 4).trans rfl
    have pf4 := blk_frozen HG.out.piece 4
    have r0_ : W6.cell? ⟨w.heap.size + 1, 0, none⟩ = some (.int .u8 0) := (blk_cell HG.out.fault 0).trans rfl
    have rf0 := blk_frozen HG.out.fault 0
    have r1_ : W6.cell? ⟨w.heap.size + 1, 1, none⟩ = some (.int .u32 0) := (blk_cell HG.out.fault 1).trans rfl
    have rf1 := blk_frozen HG.out.fault 1
    have pl := blk_lt HG.out.piece
    have rl := blk_lt HG.out.fault
    have q0 : W6.cell? ⟨g, 0, none⟩ = some (.slice Av l.length cv) := (blk_cell HG.out.sp.blk 0).trans rfl
    have q1 : W6.cell? ⟨g, 1, none⟩ = some (.bool m) := (blk_cell HG.out.sp.blk 1).trans rfl
    have hle0 : w.heap.size ≤ w.heap.size := Nat.le_refl _
    have hle1 : w.heap.size ≤ w.heap.size + 1 := by omega
    go_wp2_with fail
    exact bodyPost_ret (v := .tuple #[.agg #[.bool false, .int .u8 0, .bool false, .int .u32 0, .slice none 0 0], .agg #[.int .u8 0, .int .u32 0], .bool false]) (by simp [results, Tryd.results12, go_sem, p0, p1, p2, p3, p4, r0_, r1_]) rfl ⟨rfl, Below.setCell (Below.setCell (Below.setCell (Below.setCell (Below.setCell (Below.setCell (Below.setCell HG.out.bel hle0 _) hle0 _) hle0 _) hle0 _) hle0 _) hle1 _) hle1 _⟩
  · have HW1 := Aside0.mk hHeld.1.out
    go_simp
    refine hK.out _ _ (NS.mk (HW1.out.below (below_alloc (Below.refl _ _) _))) (fun hHeld => ?_)
    clear hK K
    try simp only [Act.put, List.setIfInBounds_toArray, List.set_cons_zero, List.set_cons_succ]
    refine wpAnyH_ready (rs := [8]) (by kernel_rfl) (by simp) ?_
    refine AllReadyH.cons rfl (fun K hK => ?_) AllReadyH.nil
    go_simp
    go_at_call 17
    with_reducible refine (wsframe_Head.calls Av cv l m r1 r2 r3 false _ (Kd.R_reads' hHeld.1.out.sp.row).2.2 (Kd.R_reads' hHeld.1.out.sp.row).2.1 HH.out (HC.out.below hHeld.1.out.bel)).mono ?_
    rintro e w2 ⟨rfl, hb⟩
    have HG2 := Aside0.mk (hHeld.1.out.below hb)
    have hbx : w2.heap[w1.heap.size]? = some (.cells #[.int .u8 0, .int .u32 0] 33 (0, 0)) := blk_below (blk_drew (last_at w1 _ _ rfl)) hb
    have bc0 : w2.cell? ⟨w1.heap.size, 0, none⟩ = some (.int .u8 0) := (blk_cell hbx 0).trans rfl
    have bf0 := blk_frozen hbx 0
    have bc1 : w2.cell? ⟨w1.heap.size, 1, none⟩ = some (.int .u32 0) := (blk_cell hbx 1).trans rfl
    have bf1 := blk_frozen hbx 1
    have bl := blk_lt hbx
    have hgl2 : w.heap.size + 1 < w1.heap.size := HN0.out.lt
    have hgl3 : g < w1.heap.size := blk_lt HN0.out.sp.blk
    have HBX := Aside0.mk hbx
    clear hbx
    clear hb
    refine hK.out _ _ (NS.mk HG2.out) (fun hHeld => ?_)
    clear hK K
    try simp only [Act.put, List.setIfInBounds_toArray, List.set_cons_zero, List.set_cons_succ]
    refine takeN (i := 9) (N := (some 14)) (v := ?v15) (a' := ?a15) rfl rfl (by kernel_rfl) (by kernel_rfl) (by kernel_rfl) (fun _ _ _ h => h) (Or.inl ⟨by rfl, ?hy15⟩) ?ha15 (by assumption) ?rest15
    case hy15 =>
      intro w_ hSw_
      go_simp
      first | done | (with_reducible rfl)
    case ha15 =>
      simp only [Act.put, List.setIfInBounds_toArray, List.set_cons_zero, List.set_cons_succ]
      rfl
    refine takeN (i := 10) (N := (some 24)) (v := ?v16) (a' := ?a16) rfl rfl (by kernel_rfl) (by kernel_rfl) (by kernel_rfl) (fun _ _ _ h => h) (Or.inl ⟨by rfl, ?hy16⟩) ?ha16 (by assumption) ?rest16
    case hy16 =>
      intro w_ hSw_
      go_simp
      first | done | (with_reducible rfl)
    case ha16 =>
      simp only [Act.put, List.setIfInBounds_toArray, List.set_cons_zero, List.set_cons_succ]
      rfl
    refine takeN (i := 11) (N := (some 25)) (v := ?v17) (a' := ?a17) rfl rfl (by kernel_rfl) (by kernel_rfl) (by kernel_rfl) (fun _ _ _ h => h) (Or.inl ⟨by rfl, ?hy17⟩) ?ha17 (by assumption) ?rest17
    case hy17 =>
      intro w_ hSw_
      go_simp
      first | done | (with_reducible rfl)
    case ha17 =>
      simp only [Act.put, List.setIfInBounds_toArray, List.set_cons_zero, List.set_cons_succ]
      rfl
    refine takeN (i := 12) (N := (some 26)) (v := ?v18) (a' := ?a18) rfl rfl (by kernel_rfl) (by kernel_rfl) (by kernel_rfl) (fun _ _ _ h => h) (Or.inl ⟨by rfl, ?hy18⟩) ?ha18 (by assumption) ?rest18
    case hy18 =>
      intro w_ hSw_
      go_simp
      first | done | (with_reducible rfl)
    case ha18 =>
      simp only [Act.put, List.setIfInBounds_toArray, List.set_cons_zero, List.set_cons_succ]
      rfl
    refine takeN (i := 14) (N := (some 5)) (v := ?v19) (a' := ?a19) rfl rfl (by kernel_rfl) (by kernel_rfl) (by kernel_rfl) (fun _ _ _ h => h) (Or.inl ⟨by rfl, ?hy19⟩) ?ha19 (by assumption) ?rest19
    case hy19 =>
      intro w_ hSw_
      go_simp
      first | done | (with_reducible rfl)
    case ha19 =>
      simp only [Act.put, List.setIfInBounds_toArray, List.set_cons_zero, List.set_cons_succ]
      rfl
    refine wpAnyH_ready (rs := [15]) (by kernel_rfl) (by simp) ?_
    refine AllReadyH.cons rfl (fun K hK => ?_) AllReadyH.nil
    go_simp
    refine hK.out _ _ (NS.mk (Ng.put2 HG2.out hgl2 hgl3 HBX.out _ _)) (fun hHeld => ?_)
    clear hK K
    try simp only [Act.put, List.setIfInBounds_toArray, List.set_cons_zero, List.set_cons_succ]
    refine takeN (i := 16) (N := (some 7)) (v := ?v20) (a' := ?a20) rfl rfl (by kernel_rfl) (by kernel_rfl) (by kernel_rfl) (fun _ _ _ h => h) (Or.inl ⟨by rfl, ?hy20⟩) ?ha20 (by assumption) ?rest20
    case hy20 =>
      intro w_ hSw_
      go_simp
      first | done | (with_reducible rfl)
    case ha20 =>
      simp only [Act.put, List.setIfInBounds_toArray, List.set_cons_zero, List.set_cons_succ]
      rfl
    refine wpAnyH_done (by kernel_rfl) ?_ _
    refine NoPanic.normal ?_
    have hG6 := hHeld.1.out
    clear hHeld bc0 bc1 bf0 bf1 bl
    have hbox := blk_put (blk_put HBX.out 0 (.int .u8 r2) rfl) 1 (.int .u32 r3) rfl
    generalize ((w2.setCell ⟨w1.heap.size, 0, none⟩ (.int .u8 r2)).setCell ⟨w1.heap.size, 1, none⟩ (.int .u32 r3)) = W6 at hG6 hbox ⊢
    generalize w1.heap.size = gb at hbox hgl2 ⊢
    clear HG2 HN0
    have HG := Aside0.mk hG6
    have HBX6 := Aside0.mk hbox
    have k0 : W6.cell? ⟨gb, 0, none⟩ = some (.int .u8 r2) := (blk_cell hbox 0).trans rfl
    have k1 : W6.cell? ⟨gb, 1, none⟩ = some (.int .u32 r3) := (blk_cell hbox 1).trans rfl
    have kf0 := blk_frozen hbox 0
    have kf1 := blk_frozen hbox 1
    have kl := blk_lt hbox
    clear hG6 hbox
    have p0 : W6.cell? ⟨w.heap.size, 0, none⟩ = some (.bool false) := (blk_cell HG.out.piece 0).trans rfl
    have pf0 := blk_frozen HG.out.piece 0
    have p1 : W6.cell? ⟨w.heap.size, 1, none⟩ = some (.int .u8 0) := (blk_cell HG.out.piece 1).trans rfl
    have pf1 := blk_frozen HG.out.piece 1
    have p2 : W6.cell? ⟨w.heap.size, 2, none⟩ = some (.bool false) := (blk_cell HG.out.piece 2).trans rfl
    have pf2 := blk_frozen HG.out.piece 2
    have p3 : W6.cell? ⟨w.heap.size, 3, none⟩ = some (.int .u32 0) := (blk_cell HG.out.piece 3).trans rfl
    have pf3 := blk_frozen HG.out.piece 3
    have p4 : W6.cell? ⟨w.heap.size, 4, none⟩ = some (.slice none 0 0) := (blk_cell HG.out.piece 4).trans rfl
    have pf4 := blk_frozen HG.out.piece 4
    have r0_ : W6.cell? ⟨w.heap.size + 1, 0, none⟩ = some (.int .u8 0) := (blk_cell HG.out.fault 0).trans rfl
    have rf0 := blk_frozen HG.out.fault 0
    have r1_ : W6.cell? ⟨w.heap.size + 1, 1, none⟩ = some (.int .u32 0) := (blk_cell HG.out.fault 1).trans rfl
    have rf1 := blk_frozen HG.out.fault 1
    have pl := blk_lt HG.out.piece
    have rl := blk_lt HG.out.fault
    have q0 : W6.cell? ⟨g, 0, none⟩ = some (.slice Av l.length cv) := (blk_cell HG.out.sp.blk 0).trans rfl
    have q1 : W6.cell? ⟨g, 1, none⟩ = some (.bool m) := (blk_cell HG.out.sp.blk 1).trans rfl
    have hle0 : w.heap.size ≤ w.heap.size := Nat.le_refl _
    have hle1 : w.heap.size ≤ w.heap.size + 1 := by omega
    go_wp2_with fail
    exact bodyPost_ret (v := .tuple #[.agg #[.bool false, .int .u8 0, .bool false, .int .u32 0, .slice none 0 0], .agg #[.int .u8 0, .int .u32 0], .bool false]) (by simp [results, Tryd.results12, go_sem, p0, p1, p2, p3, p4, r0_, r1_]) rfl ⟨rfl, Below.setCell (Below.setCell (Below.setCell (Below.setCell (Below.setCell (Below.setCell (Below.setCell HG.out.bel hle0 _) hle0 _) hle0 _) hle0 _) hle0 _) hle1 _) hle1 _⟩
set_option maxHeartbeats 8000000 in
set_option maxRecDepth 100000 in
theorem split_next_more (wb w : World) (g : Nat) (v : Value) (m : Bool) (l : List Int) (r1 r2 r3 : Int) (r4 : Bool) (h : Sp wb w g v m false l) (hg : Cond w) (hh : wsframe_Head.f l m = some (r1, r2, r3, r4)) (h4 : r4 = true) (h2 : r2 = 0) (h3 : r3 = 0) (h1 : decide ((l.length : Int) < r1) = true) : Calls Tryd.prog 12 #[.pointer (some ⟨g, 0, none⟩)] w fun e w' => e = .returned (.tuple #[.agg #[.bool false, .int .u8 0, .bool false, .int .u32 0, .slice none 0 0], .agg #[.int .u8 0, .int .u32 0], .bool false]) ∧ Below w.heap.size w w' := by
  subst h4 h2 h3
  obtain ⟨Av, cv, rfl⟩ := Kd.R_slice h.row
  have c2 : w.cell? ⟨g, 2, none⟩ = some (.bool false) := (blk_cell h.blk 2).trans rfl
  have hgl := blk_lt h.blk
  have HS := Aside0.mk h
  have HC := Aside0.mk hg
  have HH := Aside0.mk hh
  clear h hg hh
  have hu31 := Tryd.underlying31
  have hu33 := Tryd.underlying33
  go_enter Tryd.func12, Tryd.ntmps12
  go_wp2_with fail
  refine (split_bad_any g false _ ?_).mono ?_
  · exact (blk_cell (HS.out.below (below_alloc (below_alloc (Below.refl _ _) _) _)).blk 2).trans rfl
  rintro e w1 ⟨rfl, rfl⟩
  have hN0 : Ng wb w ((w.alloc (.cells #[.bool false, .int .u8 0, .bool false, .int .u32 0, .slice none 0 0] 31)).alloc (.cells #[.int .u8 0, .int .u32 0] 33)) g (.slice Av l.length cv) m l := ⟨below_alloc (below_alloc (Below.refl _ _) _) _, HS.out.below (below_alloc (below_alloc (Below.refl _ _) _) _), blk_alloc (last_at _ _ _ rfl) _, last_at _ _ _ (by simp)⟩
  generalize (w.alloc (.cells #[.bool false, .int .u8 0, .bool false, .int .u32 0, .slice none 0 0] 31)).alloc (.cells #[.int .u8 0, .int .u32 0] 33) = w1 at hN0 ⊢
  have HN0 := Aside0.mk hN0
  clear hN0 c2 HS
  go_upto_region 3 with fail
  refine wp_region_noPanic ?_
  refine wp_region_held_drew (S := fun w' => Aside0 (Ng wb w w' g (.slice Av l.length cv) m l) ∧ w'.cell? ⟨g, 0, none⟩ = some (.slice Av l.length cv) ∧ w'.cell? ⟨g, 1, none⟩ = some (.bool m)) (by kernel_rfl) (NS.mk (HN0.out.below (below_drew (Below.refl _ _)))) (fun hHeld => ?_)
  refine takeN (i := 0) (N := (some 15)) (v := ?v21) (a' := ?a21) rfl rfl (by kernel_rfl) (by kernel_rfl) (by kernel_rfl) (fun _ _ _ h => h) (Or.inl ⟨by rfl, ?hy21⟩) ?ha21 (by assumption) ?rest21
  case hy21 =>
    intro w_ hSw_
    go_simp
    first | done | (with_reducible rfl)
  case ha21 =>
    simp only [Act.put, List.setIfInBounds_toArray, List.set_cons_zero, List.set_cons_succ]
    rfl
  refine takeN (i := 1) (N := (some 16)) (v := ?v22) (a' := ?a22) rfl rfl (by kernel_rfl) (by kernel_rfl) (by kernel_rfl) (fun _ _ _ h => h) (Or.inl ⟨by rfl, ?hy22⟩) ?ha22 (by assumption) ?rest22
  case hy22 =>
    intro w_ hSw_
    go_simp
    first | done | (with_reducible rfl)
  case ha22 =>
    simp only [Act.put, List.setIfInBounds_toArray, List.set_cons_zero, List.set_cons_succ]
    rfl
  refine takeN (i := 2) (N := (some 17)) (v := ?v23) (a' := ?a23) rfl rfl (by kernel_rfl) (by kernel_rfl) (by kernel_rfl) (fun _ _ _ h => h) (Or.inl ⟨by rfl, ?hy23⟩) ?ha23 (by assumption) ?rest23
  case hy23 =>
    intro w_ hSw_
    go_simp
    first | done | (with_reducible rfl)
  case ha23 =>
    simp only [Act.put, List.setIfInBounds_toArray, List.set_cons_zero, List.set_cons_succ]
    rfl
  refine takeN (i := 3) (N := (some 18)) (v := ?v24) (a' := ?a24) rfl rfl (by kernel_rfl) (by kernel_rfl) (by kernel_rfl) (fun _ _ _ h => h) (Or.inl ⟨by rfl, ?hy24⟩) ?ha24 (by assumption) ?rest24
  case hy24 =>
    intro w_ hSw_
    go_simp
    first | done | (with_reducible rfl)
  case ha24 =>
    simp only [Act.put, List.setIfInBounds_toArray, List.set_cons_zero, List.set_cons_succ]
    rfl
  refine takeN (i := 4) (N := (some 19)) (v := ?v25) (a' := ?a25) rfl rfl (by kernel_rfl) (by kernel_rfl) (by kernel_rfl) (fun _ _ _ h => h) (Or.inl ⟨by rfl, ?hy25⟩) ?ha25 (by assumption) ?rest25
  case hy25 =>
    intro w_ hSw_
    go_simp
    first | done | (with_reducible rfl)
  case ha25 =>
    simp only [Act.put, List.setIfInBounds_toArray, List.set_cons_zero, List.set_cons_succ]
    rfl
  refine takeN (i := 5) (N := (some 20)) (v := ?v26) (a' := ?a26) rfl rfl (by kernel_rfl) (by kernel_rfl) (by kernel_rfl) (fun _ _ _ h => h) (Or.inl ⟨by rfl, ?hy26⟩) ?ha26 (by assumption) ?rest26
  case hy26 =>
    intro w_ hSw_
    go_simp
    first | done | (with_reducible rfl)
  case ha26 =>
    simp only [Act.put, List.setIfInBounds_toArray, List.set_cons_zero, List.set_cons_succ]
    rfl
  refine takeN (i := 6) (N := (some 21)) (v := ?v27) (a' := ?a27) rfl rfl (by kernel_rfl) (by kernel_rfl) (by kernel_rfl) (fun _ _ _ h => h) (Or.inl ⟨by rfl, ?hy27⟩) ?ha27 (by assumption) ?rest27
  case hy27 =>
    intro w_ hSw_
    go_simp
    first | done | (with_reducible rfl)
  case ha27 =>
    simp only [Act.put, List.setIfInBounds_toArray, List.set_cons_zero, List.set_cons_succ]
    rfl
  refine takeN (i := 7) (N := (some 22)) (v := ?v28) (a' := ?a28) rfl rfl (by kernel_rfl) (by kernel_rfl) (by kernel_rfl) (fun _ _ _ h => h) (Or.inl ⟨by rfl, ?hy28⟩) ?ha28 (by assumption) ?rest28
  case hy28 =>
    intro w_ hSw_
    go_simp
    first | done | (with_reducible rfl)
  case ha28 =>
    simp only [Act.put, List.setIfInBounds_toArray, List.set_cons_zero, List.set_cons_succ]
    rfl
  refine wpAnyH_ready (rs := [8, 13]) (by kernel_rfl) (by simp) ?_
  refine AllReadyH.cons rfl (fun K hK => ?_) (AllReadyH.cons rfl (fun K hK => ?_) AllReadyH.nil)
  · go_simp
    go_at_call 17
    with_reducible refine (wsframe_Head.calls Av cv l m r1 0 0 true _ (Kd.R_reads' hHeld.1.out.sp.row).2.2 (Kd.R_reads' hHeld.1.out.sp.row).2.1 HH.out (HC.out.below hHeld.1.out.bel)).mono ?_
    rintro e w2 ⟨rfl, hb⟩
    have HG2 := Aside0.mk (hHeld.1.out.below hb)
    clear hb
    refine hK.out _ _ (NS.mk HG2.out) (fun hHeld => ?_)
    clear hK K
    try simp only [Act.put, List.setIfInBounds_toArray, List.set_cons_zero, List.set_cons_succ]
    refine takeN (i := 9) (N := (some 14)) (v := ?v29) (a' := ?a29) rfl rfl (by kernel_rfl) (by kernel_rfl) (by kernel_rfl) (fun _ _ _ h => h) (Or.inl ⟨by rfl, ?hy29⟩) ?ha29 (by assumption) ?rest29
    case hy29 =>
      intro w_ hSw_
      go_simp
      first | done | (with_reducible rfl)
    case ha29 =>
      simp only [Act.put, List.setIfInBounds_toArray, List.set_cons_zero, List.set_cons_succ]
      rfl
    refine takeN (i := 10) (N := (some 24)) (v := ?v30) (a' := ?a30) rfl rfl (by kernel_rfl) (by kernel_rfl) (by kernel_rfl) (fun _ _ _ h => h) (Or.inl ⟨by rfl, ?hy30⟩) ?ha30 (by assumption) ?rest30
    case hy30 =>
      intro w_ hSw_
      go_simp
      first | done | (with_reducible rfl)
    case ha30 =>
      simp only [Act.put, List.setIfInBounds_toArray, List.set_cons_zero, List.set_cons_succ]
      rfl
    refine takeN (i := 11) (N := (some 25)) (v := ?v31) (a' := ?a31) rfl rfl (by kernel_rfl) (by kernel_rfl) (by kernel_rfl) (fun _ _ _ h => h) (Or.inl ⟨by rfl, ?hy31⟩) ?ha31 (by assumption) ?rest31
    case hy31 =>
      intro w_ hSw_
      go_simp
      first | done | (with_reducible rfl)
    case ha31 =>
      simp only [Act.put, List.setIfInBounds_toArray, List.set_cons_zero, List.set_cons_succ]
      rfl
    refine takeN (i := 12) (N := (some 26)) (v := ?v32) (a' := ?a32) rfl rfl (by kernel_rfl) (by kernel_rfl) (by kernel_rfl) (fun _ _ _ h => h) (Or.inl ⟨by rfl, ?hy32⟩) ?ha32 (by assumption) ?rest32
    case hy32 =>
      intro w_ hSw_
      go_simp
      first | done | (with_reducible rfl)
    case ha32 =>
      simp only [Act.put, List.setIfInBounds_toArray, List.set_cons_zero, List.set_cons_succ]
      rfl
    refine wpAnyH_ready (rs := [13]) (by kernel_rfl) (by simp) ?_
    refine AllReadyH.cons rfl (fun K hK => ?_) AllReadyH.nil
    go_simp
    refine hK.out _ _ (NS.mk (HG2.out.below (below_alloc (Below.refl _ _) _))) (fun hHeld => ?_)
    clear hK K
    try simp only [Act.put, List.setIfInBounds_toArray, List.set_cons_zero, List.set_cons_succ]
    refine takeN (i := 14) (N := (some 5)) (v := ?v33) (a' := ?a33) rfl rfl (by kernel_rfl) (by kernel_rfl) (by kernel_rfl) (fun _ _ _ h => h) (Or.inl ⟨by rfl, ?hy33⟩) ?ha33 (by assumption) ?rest33
    case hy33 =>
      intro w_ hSw_
      go_simp
      first | done | (with_reducible rfl)
    case ha33 =>
      simp only [Act.put, List.setIfInBounds_toArray, List.set_cons_zero, List.set_cons_succ]
      rfl
    refine wpAnyH_ready (rs := [15]) (by kernel_rfl) (by simp) ?_
    refine AllReadyH.cons rfl (fun K hK => ?_) AllReadyH.nil
    go_simp
    refine hK.out _ _ (NS.mk (HG2.out.below (below_alloc (Below.refl _ _) _))) (fun hHeld => ?_)
    clear hK K
    try simp only [Act.put, List.setIfInBounds_toArray, List.set_cons_zero, List.set_cons_succ]
    refine takeN (i := 16) (N := (some 7)) (v := ?v34) (a' := ?a34) rfl rfl (by kernel_rfl) (by kernel_rfl) (by kernel_rfl) (fun _ _ _ h => h) (Or.inl ⟨by rfl, ?hy34⟩) ?ha34 (by assumption) ?rest34
    case hy34 =>
      intro w_ hSw_
      go_simp
      first | done | (with_reducible rfl)
    case ha34 =>
      simp only [Act.put, List.setIfInBounds_toArray, List.set_cons_zero, List.set_cons_succ]
      rfl
    refine wpAnyH_done (by kernel_rfl) ?_ _
    refine NoPanic.normal ?_
    have hG6 := hHeld.1.out
    clear hHeld
    have hbox : (w2.alloc (.cells #[.int .u8 0, .int .u32 0] 33)).heap[w2.heap.size]? = some (.cells #[.int .u8 0, .int .u32 0] 33 (0, 0)) := last_at w2 _ _ rfl
    have hgl2 := HG2.out.lt
    generalize w2.alloc (.cells #[.int .u8 0, .int .u32 0] 33) = W6 at hG6 hbox ⊢
    generalize w2.heap.size = gb at hbox hgl2 ⊢
    clear HG2 HN0
    have HG := Aside0.mk hG6
    have HBX6 := Aside0.mk hbox
    have k0 : W6.cell? ⟨gb, 0, none⟩ = some (.int .u8 0) := (blk_cell hbox 0).trans rfl
    have k1 : W6.cell? ⟨gb, 1, none⟩ = some (.int .u32 0) := (blk_cell hbox 1).trans rfl
    have kf0 := blk_frozen hbox 0
    have kf1 := blk_frozen hbox 1
    have kl := blk_lt hbox
    clear hG6 hbox
    have p0 : W6.cell? ⟨w.heap.size, 0, none⟩ = some (.bool false) := (blk_cell HG.out.piece 0).trans rfl
    have pf0 := blk_frozen HG.out.piece 0
    have p1 : W6.cell? ⟨w.heap.size, 1, none⟩ = some (.int .u8 0) := (blk_cell HG.out.piece 1).trans rfl
    have pf1 := blk_frozen HG.out.piece 1
    have p2 : W6.cell? ⟨w.heap.size, 2, none⟩ = some (.bool false) := (blk_cell HG.out.piece 2).trans rfl
    have pf2 := blk_frozen HG.out.piece 2
    have p3 : W6.cell? ⟨w.heap.size, 3, none⟩ = some (.int .u32 0) := (blk_cell HG.out.piece 3).trans rfl
    have pf3 := blk_frozen HG.out.piece 3
    have p4 : W6.cell? ⟨w.heap.size, 4, none⟩ = some (.slice none 0 0) := (blk_cell HG.out.piece 4).trans rfl
    have pf4 := blk_frozen HG.out.piece 4
    have r0_ : W6.cell? ⟨w.heap.size + 1, 0, none⟩ = some (.int .u8 0) := (blk_cell HG.out.fault 0).trans rfl
    have rf0 := blk_frozen HG.out.fault 0
    have r1_ : W6.cell? ⟨w.heap.size + 1, 1, none⟩ = some (.int .u32 0) := (blk_cell HG.out.fault 1).trans rfl
    have rf1 := blk_frozen HG.out.fault 1
    have pl := blk_lt HG.out.piece
    have rl := blk_lt HG.out.fault
    have q0 : W6.cell? ⟨g, 0, none⟩ = some (.slice Av l.length cv) := (blk_cell HG.out.sp.blk 0).trans rfl
    have q1 : W6.cell? ⟨g, 1, none⟩ = some (.bool m) := (blk_cell HG.out.sp.blk 1).trans rfl
    have hle0 : w.heap.size ≤ w.heap.size := Nat.le_refl _
    have hle1 : w.heap.size ≤ w.heap.size + 1 := by omega
    go_wp2_with fail
    exact bodyPost_ret (v := .tuple #[.agg #[.bool false, .int .u8 0, .bool false, .int .u32 0, .slice none 0 0], .agg #[.int .u8 0, .int .u32 0], .bool false]) (by simp [results, Tryd.results12, go_sem, p0, p1, p2, p3, p4, r0_, r1_]) rfl ⟨rfl, Below.setCell (Below.setCell (Below.setCell (Below.setCell (Below.setCell (Below.setCell (Below.setCell HG.out.bel hle0 _) hle0 _) hle0 _) hle0 _) hle0 _) hle1 _) hle1 _⟩
  · have HW1 := Aside0.mk hHeld.1.out
    go_simp
    refine hK.out _ _ (NS.mk (HW1.out.below (below_alloc (Below.refl _ _) _))) (fun hHeld => ?_)
    clear hK K
    try simp only [Act.put, List.setIfInBounds_toArray, List.set_cons_zero, List.set_cons_succ]
    refine wpAnyH_ready (rs := [8]) (by kernel_rfl) (by simp) ?_
    refine AllReadyH.cons rfl (fun K hK => ?_) AllReadyH.nil
    go_simp
    go_at_call 17
    with_reducible refine (wsframe_Head.calls Av cv l m r1 0 0 true _ (Kd.R_reads' hHeld.1.out.sp.row).2.2 (Kd.R_reads' hHeld.1.out.sp.row).2.1 HH.out (HC.out.below hHeld.1.out.bel)).mono ?_
    rintro e w2 ⟨rfl, hb⟩
    have HG2 := Aside0.mk (hHeld.1.out.below hb)
    have hbx : w2.heap[w1.heap.size]? = some (.cells #[.int .u8 0, .int .u32 0] 33 (0, 0)) := blk_below (blk_drew (last_at w1 _ _ rfl)) hb
    have bc0 : w2.cell? ⟨w1.heap.size, 0, none⟩ = some (.int .u8 0) := (blk_cell hbx 0).trans rfl
    have bf0 := blk_frozen hbx 0
    have bc1 : w2.cell? ⟨w1.heap.size, 1, none⟩ = some (.int .u32 0) := (blk_cell hbx 1).trans rfl
    have bf1 := blk_frozen hbx 1
    have bl := blk_lt hbx
    have hgl2 : w.heap.size + 1 < w1.heap.size := HN0.out.lt
    have hgl3 : g < w1.heap.size := blk_lt HN0.out.sp.blk
    have HBX := Aside0.mk hbx
    clear hbx
    clear hb
    refine hK.out _ _ (NS.mk HG2.out) (fun hHeld => ?_)
    clear hK K
    try simp only [Act.put, List.setIfInBounds_toArray, List.set_cons_zero, List.set_cons_succ]
    refine takeN (i := 9) (N := (some 14)) (v := ?v35) (a' := ?a35) rfl rfl (by kernel_rfl) (by kernel_rfl) (by kernel_rfl) (fun _ _ _ h => h) (Or.inl ⟨by rfl, ?hy35⟩) ?ha35 (by assumption) ?rest35
    case hy35 =>
      intro w_ hSw_
      go_simp
      first | done | (with_reducible rfl)
    case ha35 =>
      simp only [Act.put, List.setIfInBounds_toArray, List.set_cons_zero, List.set_cons_succ]
      rfl
    refine takeN (i := 10) (N := (some 24)) (v := ?v36) (a' := ?a36) rfl rfl (by kernel_rfl) (by kernel_rfl) (by kernel_rfl) (fun _ _ _ h => h) (Or.inl ⟨by rfl, ?hy36⟩) ?ha36 (by assumption) ?rest36
    case hy36 =>
      intro w_ hSw_
      go_simp
      first | done | (with_reducible rfl)
    case ha36 =>
      simp only [Act.put, List.setIfInBounds_toArray, List.set_cons_zero, List.set_cons_succ]
      rfl
    refine takeN (i := 11) (N := (some 25)) (v := ?v37) (a' := ?a37) rfl rfl (by kernel_rfl) (by kernel_rfl) (by kernel_rfl) (fun _ _ _ h => h) (Or.inl ⟨by rfl, ?hy37⟩) ?ha37 (by assumption) ?rest37
    case hy37 =>
      intro w_ hSw_
      go_simp
      first | done | (with_reducible rfl)
    case ha37 =>
      simp only [Act.put, List.setIfInBounds_toArray, List.set_cons_zero, List.set_cons_succ]
      rfl
    refine takeN (i := 12) (N := (some 26)) (v := ?v38) (a' := ?a38) rfl rfl (by kernel_rfl) (by kernel_rfl) (by kernel_rfl) (fun _ _ _ h => h) (Or.inl ⟨by rfl, ?hy38⟩) ?ha38 (by assumption) ?rest38
    case hy38 =>
      intro w_ hSw_
      go_simp
      first | done | (with_reducible rfl)
    case ha38 =>
      simp only [Act.put, List.setIfInBounds_toArray, List.set_cons_zero, List.set_cons_succ]
      rfl
    refine takeN (i := 14) (N := (some 5)) (v := ?v39) (a' := ?a39) rfl rfl (by kernel_rfl) (by kernel_rfl) (by kernel_rfl) (fun _ _ _ h => h) (Or.inl ⟨by rfl, ?hy39⟩) ?ha39 (by assumption) ?rest39
    case hy39 =>
      intro w_ hSw_
      go_simp
      first | done | (with_reducible rfl)
    case ha39 =>
      simp only [Act.put, List.setIfInBounds_toArray, List.set_cons_zero, List.set_cons_succ]
      rfl
    refine wpAnyH_ready (rs := [15]) (by kernel_rfl) (by simp) ?_
    refine AllReadyH.cons rfl (fun K hK => ?_) AllReadyH.nil
    go_simp
    refine hK.out _ _ (NS.mk (Ng.put2 HG2.out hgl2 hgl3 HBX.out _ _)) (fun hHeld => ?_)
    clear hK K
    try simp only [Act.put, List.setIfInBounds_toArray, List.set_cons_zero, List.set_cons_succ]
    refine takeN (i := 16) (N := (some 7)) (v := ?v40) (a' := ?a40) rfl rfl (by kernel_rfl) (by kernel_rfl) (by kernel_rfl) (fun _ _ _ h => h) (Or.inl ⟨by rfl, ?hy40⟩) ?ha40 (by assumption) ?rest40
    case hy40 =>
      intro w_ hSw_
      go_simp
      first | done | (with_reducible rfl)
    case ha40 =>
      simp only [Act.put, List.setIfInBounds_toArray, List.set_cons_zero, List.set_cons_succ]
      rfl
    refine wpAnyH_done (by kernel_rfl) ?_ _
    refine NoPanic.normal ?_
    have hG6 := hHeld.1.out
    clear hHeld bc0 bc1 bf0 bf1 bl
    have hbox := blk_put (blk_put HBX.out 0 (.int .u8 0) rfl) 1 (.int .u32 0) rfl
    generalize ((w2.setCell ⟨w1.heap.size, 0, none⟩ (.int .u8 0)).setCell ⟨w1.heap.size, 1, none⟩ (.int .u32 0)) = W6 at hG6 hbox ⊢
    generalize w1.heap.size = gb at hbox hgl2 ⊢
    clear HG2 HN0
    have HG := Aside0.mk hG6
    have HBX6 := Aside0.mk hbox
    have k0 : W6.cell? ⟨gb, 0, none⟩ = some (.int .u8 0) := (blk_cell hbox 0).trans rfl
    have k1 : W6.cell? ⟨gb, 1, none⟩ = some (.int .u32 0) := (blk_cell hbox 1).trans rfl
    have kf0 := blk_frozen hbox 0
    have kf1 := blk_frozen hbox 1
    have kl := blk_lt hbox
    clear hG6 hbox
    have p0 : W6.cell? ⟨w.heap.size, 0, none⟩ = some (.bool false) := (blk_cell HG.out.piece 0).trans rfl
    have pf0 := blk_frozen HG.out.piece 0
    have p1 : W6.cell? ⟨w.heap.size, 1, none⟩ = some (.int .u8 0) := (blk_cell HG.out.piece 1).trans rfl
    have pf1 := blk_frozen HG.out.piece 1
    have p2 : W6.cell? ⟨w.heap.size, 2, none⟩ = some (.bool false) := (blk_cell HG.out.piece 2).trans rfl
    have pf2 := blk_frozen HG.out.piece 2
    have p3 : W6.cell? ⟨w.heap.size, 3, none⟩ = some (.int .u32 0) := (blk_cell HG.out.piece 3).trans rfl
    have pf3 := blk_frozen HG.out.piece 3
    have p4 : W6.cell? ⟨w.heap.size, 4, none⟩ = some (.slice none 0 0) := (blk_cell HG.out.piece 4).trans rfl
    have pf4 := blk_frozen HG.out.piece 4
    have r0_ : W6.cell? ⟨w.heap.size + 1, 0, none⟩ = some (.int .u8 0) := (blk_cell HG.out.fault 0).trans rfl
    have rf0 := blk_frozen HG.out.fault 0
    have r1_ : W6.cell? ⟨w.heap.size + 1, 1, none⟩ = some (.int .u32 0) := (blk_cell HG.out.fault 1).trans rfl
    have rf1 := blk_frozen HG.out.fault 1
    have pl := blk_lt HG.out.piece
    have rl := blk_lt HG.out.fault
    have q0 : W6.cell? ⟨g, 0, none⟩ = some (.slice Av l.length cv) := (blk_cell HG.out.sp.blk 0).trans rfl
    have q1 : W6.cell? ⟨g, 1, none⟩ = some (.bool m) := (blk_cell HG.out.sp.blk 1).trans rfl
    have hle0 : w.heap.size ≤ w.heap.size := Nat.le_refl _
    have hle1 : w.heap.size ≤ w.heap.size + 1 := by omega
    go_wp2_with fail
    exact bodyPost_ret (v := .tuple #[.agg #[.bool false, .int .u8 0, .bool false, .int .u32 0, .slice none 0 0], .agg #[.int .u8 0, .int .u32 0], .bool false]) (by simp [results, Tryd.results12, go_sem, p0, p1, p2, p3, p4, r0_, r1_]) rfl ⟨rfl, Below.setCell (Below.setCell (Below.setCell (Below.setCell (Below.setCell (Below.setCell (Below.setCell HG.out.bel hle0 _) hle0 _) hle0 _) hle0 _) hle0 _) hle1 _) hle1 _⟩
end Go.Proofs.YtkhlldhcmgkioaaDoor.PAll
/- What Next answers where a frame is told. -/
namespace Go.Proofs.YtkhlldhcmgkioaaDoor.PAll
open Go.RowKit Go.Proofs.YtkhlldhcmgkioaaDoorW.PrintWords Go.Proofs.YtkhlldhcmgkioaaDoorW.PrintLast Go.Proofs.YtkhlldhcmgkioaaDoorW.PrintMore 
set_option linter.unusedVariables false
set_option linter.unusedSimpArgs false
theorem put5s {W : World} {g : Nat} {t : TypeId} {a0 a1 a2 a3 a4 : Value} (h : W.heap[g]? = some (.cells #[a0, a1, a2, a3, a4] t (0, 0))) (v0 v1 v2 v3 v4 : Value) : (((((W.setCell ⟨g, 0, none⟩ v0).setCell ⟨g, 1, none⟩ v1).setCell ⟨g, 2, none⟩ v2).setCell ⟨g, 3, none⟩ v3).setCell ⟨g, 4, none⟩ v4).heap[g]? = some (.cells #[v0, v1, v2, v3, v4] t (0, 0)) :=
  blk_put (blk_put (blk_put (blk_put (blk_put h 0 v0 rfl) 1 v1 rfl) 2 v2 rfl) 3 v3 rfl) 4 v4 rfl
theorem keep5 (W : World) (k : Nat) (a b c d e : Value) (j : Nat) (hj : j ≠ k) : (((((W.setCell ⟨k, 0, none⟩ a).setCell ⟨k, 1, none⟩ b).setCell ⟨k, 2, none⟩ c).setCell ⟨k, 3, none⟩ d).setCell ⟨k, 4, none⟩ e).heap[j]? = W.heap[j]? := (Below.heap_setCell _ _ _ _ hj).trans ((Below.heap_setCell _ _ _ _ hj).trans ((Below.heap_setCell _ _ _ _ hj).trans ((Below.heap_setCell _ _ _ _ hj).trans (Below.heap_setCell _ _ _ _ hj))))
theorem keep2 (W : World) (k : Nat) (a b : Value) (j : Nat) (hj : j ≠ k) : ((W.setCell ⟨k, 0, none⟩ a).setCell ⟨k, 1, none⟩ b).heap[j]? = W.heap[j]? := (Below.heap_setCell _ _ _ _ hj).trans (Below.heap_setCell _ _ _ _ hj)
theorem row5 {W : World} {n k : Nat} {v : Value} {l : List Int} {cs : Array Value} (h : Kd.R (Kd.int .u8) 5 W n (fun _ => True) v l) (hb : W.heap[k]? = some (.cells cs 31 (0, 0))) (a b c d e : Value) : Kd.R (Kd.int .u8) 5 (((((W.setCell ⟨k, 0, none⟩ a).setCell ⟨k, 1, none⟩ b).setCell ⟨k, 2, none⟩ c).setCell ⟨k, 3, none⟩ d).setCell ⟨k, 4, none⟩ e) n (fun _ => True) v l :=
  Kd.R_mono (Kd.R_far (Kd.R_far (Kd.R_far (Kd.R_far (Kd.R_far (Kd.R_types h hb (by intro q hq; simp [Kd.int, Kd.scalar] at hq; omega)) (p := ⟨k, 0, none⟩) (fun j hj => hj.2) a) (p := ⟨k, 1, none⟩) (fun j hj => hj.2) b) (p := ⟨k, 2, none⟩) (fun j hj => hj.2) c) (p := ⟨k, 3, none⟩) (fun j hj => hj.2) d) (p := ⟨k, 4, none⟩) (fun j hj => hj.2) e) (fun _ _ => trivial)
theorem row2 {W : World} {n k : Nat} {v : Value} {l : List Int} {cs : Array Value} (h : Kd.R (Kd.int .u8) 5 W n (fun _ => True) v l) (hb : W.heap[k]? = some (.cells cs 33 (0, 0))) (a b : Value) : Kd.R (Kd.int .u8) 5 ((W.setCell ⟨k, 0, none⟩ a).setCell ⟨k, 1, none⟩ b) n (fun _ => True) v l :=
  Kd.R_mono (Kd.R_far (Kd.R_far (Kd.R_types h hb (by intro q hq; simp [Kd.int, Kd.scalar] at hq; omega)) (p := ⟨k, 0, none⟩) (fun j hj => hj.2) a) (p := ⟨k, 1, none⟩) (fun j hj => hj.2) b) (fun _ _ => trivial)
theorem Ng.put5 {wb w W : World} {g k : Nat} {v : Value} {m : Bool} {l : List Int} {cs : Array Value} (h : Ng wb w W g v m l) (h1 : w.heap.size + 1 < k) (h2 : g < k) (hb : W.heap[k]? = some (.cells cs 31 (0, 0))) (a b c d e : Value) : Ng wb w (((((W.setCell ⟨k, 0, none⟩ a).setCell ⟨k, 1, none⟩ b).setCell ⟨k, 2, none⟩ c).setCell ⟨k, 3, none⟩ d).setCell ⟨k, 4, none⟩ e) g v m l := by
  have h0 := keep5 W k a b c d e
  exact ⟨Below.setCell (Below.setCell (Below.setCell (Below.setCell (Below.setCell h.bel (by show _ ≤ k; omega) _) (by show _ ≤ k; omega) _) (by show _ ≤ k; omega) _) (by show _ ≤ k; omega) _) (by show _ ≤ k; omega) _, ⟨(h0 g (by omega)).trans h.sp.blk, row5 h.sp.row hb a b c d e⟩, (h0 _ (by omega)).trans h.piece, (h0 _ (by omega)).trans h.fault⟩
/-- All that stands before the results are laid. -/
structure Fin (wb w W : World) (g : Nat) (m : Bool) (v : Value) (d : List Int) (pv : Value) (p : List Int) : Prop where
  bel : Below wb.heap.size wb W
  base : wb.heap.size ≤ w.heap.size
  old : ∀ k, k < w.heap.size → k ≠ g → W.heap[k]? = w.heap[k]?
  low : g < w.heap.size
  blk : W.heap[g]? = some (.cells #[v, .bool m, .bool false] 47 (0, 0))
  row : Kd.R (Kd.int .u8) 5 W w.heap.size (fun _ => True) v d
  prow : Kd.R (Kd.int .u8) 5 W w.heap.size (fun _ => True) pv p
  piece : W.heap[w.heap.size]? = some (.cells #[.bool false, .int .u8 0, .bool false, .int .u32 0, .slice none 0 0] 31 (0, 0))
  fault : W.heap[w.heap.size + 1]? = some (.cells #[.int .u8 0, .int .u32 0] 33 (0, 0))
  ne : ∀ k, pv.ownBlock = some k → v.ownBlock ≠ some k
theorem Fin.of {wb w W : World} {g : Nat} {m : Bool} {v v1 : Value} {l d : List Int} {pv : Value} {p : List Int} (h : Ng wb w W g v1 m l) (hB : Below wb.heap.size wb w) (hgb : wb.heap.size ≤ g) (hgl : g < w.heap.size) (hd : Kd.R (Kd.int .u8) 5 W w.heap.size (fun _ => True) v d) (hp : Kd.R (Kd.int .u8) 5 W w.heap.size (fun _ => True) pv p) (hne : ∀ k, pv.ownBlock = some k → v.ownBlock ≠ some k) : Fin wb w (W.setCell ⟨g, 0, none⟩ v) g m v d pv p := by
  have h0 : ∀ j, j ≠ g → (W.setCell ⟨g, 0, none⟩ v).heap[j]? = W.heap[j]? := fun j hj => Below.heap_setCell _ _ _ _ hj
  have hr : ∀ {v : Value} {d : List Int} (u : Value), Kd.R (Kd.int .u8) 5 W w.heap.size (fun _ => True) v d → Kd.R (Kd.int .u8) 5 (W.setCell ⟨g, 0, none⟩ u) w.heap.size (fun _ => True) v d := fun u hd => Kd.R_mono (Kd.R_far (Kd.R_types hd h.sp.blk (by intro q hq; simp [Kd.int, Kd.scalar] at hq; omega)) (p := ⟨g, 0, none⟩) (fun j hj => hj.2) u) (fun _ _ => trivial)
  exact ⟨Below.setCell (below_step hB h.bel) (by show _ ≤ g; omega) _, hB.size, fun k hk hkg => (h0 k hkg).trans (h.bel.block k hk), hgl, blk_put h.sp.blk 0 v rfl, hr v hd, hr v hp, (h0 _ (by omega)).trans h.piece, (h0 _ (by omega)).trans h.fault, hne⟩
def NextPost (wb : World) (g : Nat) (m : Bool) (d : List Int) (s1 : Bool) (s2 : Int) (s3 : Bool) (s4 : Int) (s5 : List Int) (w : World) (e : Ending) (w' : World) : Prop := ∃ v pv, e = .returned (.tuple #[.agg #[.bool s1, .int .u8 s2, .bool s3, .int .u32 s4, pv], .agg #[.int .u8 0, .int .u32 0], .bool true]) ∧ Sp wb w' g v m false d ∧ Kd.R (Kd.int .u8) 5 w' w.heap.size (fun _ => True) v d ∧ Kd.R (Kd.int .u8) 5 w' w.heap.size (fun _ => True) pv s5 ∧ Below wb.heap.size wb w' ∧ (∀ k, k < w.heap.size → k ≠ g → w'.heap[k]? = w.heap[k]?) ∧ ∀ k, pv.ownBlock = some k → v.ownBlock ≠ some k
theorem NextPost.fin {wb w W : World} {g : Nat} {m : Bool} {v : Value} {d : List Int} {pv : Value} {s1 : Bool} {s2 : Int} {s3 : Bool} {s4 : Int} {s5 : List Int} (h : Fin wb w W g m v d pv s5) {a b c e f x y : Value} : NextPost wb g m d s1 s2 s3 s4 s5 w (.returned (.tuple #[.agg #[.bool s1, .int .u8 s2, .bool s3, .int .u32 s4, pv], .agg #[.int .u8 0, .int .u32 0], .bool true])) (((((((W.setCell ⟨w.heap.size, 0, none⟩ a).setCell ⟨w.heap.size, 1, none⟩ b).setCell ⟨w.heap.size, 2, none⟩ c).setCell ⟨w.heap.size, 3, none⟩ e).setCell ⟨w.heap.size, 4, none⟩ f).setCell ⟨w.heap.size + 1, 0, none⟩ x).setCell ⟨w.heap.size + 1, 1, none⟩ y) := by
  have h5 := keep5 W w.heap.size a b c e f
  have hf := (h5 (w.heap.size + 1) (by omega)).trans h.fault
  have r1 := row2 (row5 h.row h.piece a b c e f) hf x y
  have r2 := row2 (row5 h.prow h.piece a b c e f) hf x y
  have h7 : ∀ j, j ≠ w.heap.size → j ≠ w.heap.size + 1 → _ := fun j hj hj2 => (keep2 (((((W.setCell ⟨w.heap.size, 0, none⟩ a).setCell ⟨w.heap.size, 1, none⟩ b).setCell ⟨w.heap.size, 2, none⟩ c).setCell ⟨w.heap.size, 3, none⟩ e).setCell ⟨w.heap.size, 4, none⟩ f) (w.heap.size + 1) x y j hj2).trans (h5 j hj)
  have hb := h.base
  have hl := h.low
  have hle0 : wb.heap.size ≤ w.heap.size := hb
  have hle1 : wb.heap.size ≤ w.heap.size + 1 := by omega
  exact ⟨v, pv, rfl, ⟨(h7 g (by omega) (by omega)).trans h.blk, Kd.R_lower r1 hb⟩, r1, r2, Below.setCell (Below.setCell (Below.setCell (Below.setCell (Below.setCell (Below.setCell (Below.setCell h.bel hle0 _) hle0 _) hle0 _) hle0 _) hle0 _) hle1 _) hle1 _, fun k hk hkg => (h7 k (by omega) (by omega)).trans (h.old k hk hkg), h.ne⟩
set_option maxHeartbeats 8000000 in
set_option maxRecDepth 100000 in
theorem split_next_frame (wb w : World) (g : Nat) (v : Value) (m : Bool) (l tk dk : List Int) (kk : Nat) (r1 : Int) (s1 : Bool) (s2 : Int) (s3 : Bool) (s4 : Int) (s5 : List Int) (s6 s7 : Int) (h : Sp wb w g v m false l) (hB : Below wb.heap.size wb w) (hgb : wb.heap.size ≤ g) (hg : Cond w) (hh : wsframe_Head.f l m = some (r1, 0, 0, true)) (hr0 : 0 ≤ r1) (hr1 : r1 ≤ l.length) (htk : l.take r1.toNat = tk) (hdk : l.drop r1.toNat = dk) (hhg : wsframe_Get.f kk tk m = some (s1, s2, s3, s4, s5, s6, s7)) (hcl : bytes_Clone.f dk = some dk) : Calls Tryd.prog 12 #[.pointer (some ⟨g, 0, none⟩)] w (NextPost wb g m dk s1 s2 s3 s4 s5 w) := by
  have hdk8 : (Tryd.prog.info? 5).map (fun i => i.size) = some 1 := by kernel_rfl
  obtain ⟨i_, hi_⟩ : ∃ i, Tryd.prog.info? 5 = some i := by
    have h : (Tryd.prog.info? 5).isSome = true := by kernel_rfl
    exact Option.isSome_iff_exists.1 h
  have hsz_ : i_.size = 1 := by
    rw [hi_] at hdk8
    exact Option.some.inj hdk8
  obtain ⟨Av, cv, rfl⟩ := Kd.R_slice h.row
  have hlc := (Kd.R_reads' h.row).2.1
  obtain ⟨hcT, _, htc⟩ := print_take_int (P := Tryd.prog) (k := .u8) 22 5 Tryd.underlying22 hi_ hsz_ Av cv l r1 hr0 hr1 hlc
  obtain ⟨Ad, hcD, hrd, hdc⟩ := print_cut_int (P := Tryd.prog) (k := .u8) 22 5 Tryd.underlying22 hi_ hsz_ Av cv l r1 hr0 hr1 hlc
  have HTk : Aside0 (∀ W, Kd.C (Kd.int .u8) W Av l.length l → Kd.C (Kd.int .u8) W Av tk.length tk) := ⟨fun W h => htk ▸ Kd.C_take h (by omega)⟩
  have HDk : Aside0 (∀ W, Kd.C (Kd.int .u8) W Av l.length l → Kd.C (Kd.int .u8) W Ad dk.length dk) := ⟨fun W h => by
    have h1 := hrd W (Kd.reads_of_C h)
    rw [hdk] at h1
    exact Kd.C_of_reads (d := (0 : Int)) (h1 := fun _ => rfl) h1⟩
  rw [htk] at hcT htc
  rw [hdk] at hcD hdc
  have HB := Aside0.mk hB
  have HHG := Aside0.mk hhg
  obtain ⟨cd, hcd⟩ : ∃ cd, cd = cv - r1.toNat := ⟨_, rfl⟩
  rw [← hcd] at hcD hdc
  clear hhg hB htk hdk hrd hdk8 hsz_ hi_ i_ hlc hcd
  have c2 : w.cell? ⟨g, 2, none⟩ = some (.bool false) := (blk_cell h.blk 2).trans rfl
  have hgl := blk_lt h.blk
  have HS := Aside0.mk h
  have HC := Aside0.mk hg
  have HH := Aside0.mk hh
  clear h hg hh
  have hu31 := Tryd.underlying31
  have hu33 := Tryd.underlying33
  go_enter Tryd.func12, Tryd.ntmps12
  go_wp2_with fail
  refine (split_bad_any g false _ ?_).mono ?_
  · exact (blk_cell (HS.out.below (below_alloc (below_alloc (Below.refl _ _) _) _)).blk 2).trans rfl
  rintro e w1 ⟨rfl, rfl⟩
  have hN0 : Ng wb w ((w.alloc (.cells #[.bool false, .int .u8 0, .bool false, .int .u32 0, .slice none 0 0] 31)).alloc (.cells #[.int .u8 0, .int .u32 0] 33)) g (.slice Av l.length cv) m l := ⟨below_alloc (below_alloc (Below.refl _ _) _) _, HS.out.below (below_alloc (below_alloc (Below.refl _ _) _) _), blk_alloc (last_at _ _ _ rfl) _, last_at _ _ _ (by simp)⟩
  generalize (w.alloc (.cells #[.bool false, .int .u8 0, .bool false, .int .u32 0, .slice none 0 0] 31)).alloc (.cells #[.int .u8 0, .int .u32 0] 33) = w1 at hN0 ⊢
  have HN0 := Aside0.mk hN0
  clear hN0 c2 HS
  go_upto_region 3 with fail
  refine wp_region_noPanic ?_
  refine wp_region_held_drew (S := fun w' => Aside0 (Ng wb w w' g (.slice Av l.length cv) m l) ∧ w'.cell? ⟨g, 0, none⟩ = some (.slice Av l.length cv) ∧ w'.cell? ⟨g, 1, none⟩ = some (.bool m)) (by kernel_rfl) (NS.mk (HN0.out.below (below_drew (Below.refl _ _)))) (fun hHeld => ?_)
  refine takeN (i := 0) (N := (some 15)) (v := ?v41) (a' := ?a41) rfl rfl (by kernel_rfl) (by kernel_rfl) (by kernel_rfl) (fun _ _ _ h => h) (Or.inl ⟨by rfl, ?hy41⟩) ?ha41 (by assumption) ?rest41
  case hy41 =>
    intro w_ hSw_
    go_simp
    first | done | (with_reducible rfl)
  case ha41 =>
    simp only [Act.put, List.setIfInBounds_toArray, List.set_cons_zero, List.set_cons_succ]
    rfl
  refine takeN (i := 1) (N := (some 16)) (v := ?v42) (a' := ?a42) rfl rfl (by kernel_rfl) (by kernel_rfl) (by kernel_rfl) (fun _ _ _ h => h) (Or.inl ⟨by rfl, ?hy42⟩) ?ha42 (by assumption) ?rest42
  case hy42 =>
    intro w_ hSw_
    go_simp
    first | done | (with_reducible rfl)
  case ha42 =>
    simp only [Act.put, List.setIfInBounds_toArray, List.set_cons_zero, List.set_cons_succ]
    rfl
  refine takeN (i := 2) (N := (some 17)) (v := ?v43) (a' := ?a43) rfl rfl (by kernel_rfl) (by kernel_rfl) (by kernel_rfl) (fun _ _ _ h => h) (Or.inl ⟨by rfl, ?hy43⟩) ?ha43 (by assumption) ?rest43
  case hy43 =>
    intro w_ hSw_
    go_simp
    first | done | (with_reducible rfl)
  case ha43 =>
    simp only [Act.put, List.setIfInBounds_toArray, List.set_cons_zero, List.set_cons_succ]
    rfl
  refine takeN (i := 3) (N := (some 18)) (v := ?v44) (a' := ?a44) rfl rfl (by kernel_rfl) (by kernel_rfl) (by kernel_rfl) (fun _ _ _ h => h) (Or.inl ⟨by rfl, ?hy44⟩) ?ha44 (by assumption) ?rest44
  case hy44 =>
    intro w_ hSw_
    go_simp
    first | done | (with_reducible rfl)
  case ha44 =>
    simp only [Act.put, List.setIfInBounds_toArray, List.set_cons_zero, List.set_cons_succ]
    rfl
  refine takeN (i := 4) (N := (some 19)) (v := ?v45) (a' := ?a45) rfl rfl (by kernel_rfl) (by kernel_rfl) (by kernel_rfl) (fun _ _ _ h => h) (Or.inl ⟨by rfl, ?hy45⟩) ?ha45 (by assumption) ?rest45
  case hy45 =>
    intro w_ hSw_
    go_simp
    first | done | (with_reducible rfl)
  case ha45 =>
    simp only [Act.put, List.setIfInBounds_toArray, List.set_cons_zero, List.set_cons_succ]
    rfl
  refine takeN (i := 5) (N := (some 20)) (v := ?v46) (a' := ?a46) rfl rfl (by kernel_rfl) (by kernel_rfl) (by kernel_rfl) (fun _ _ _ h => h) (Or.inl ⟨by rfl, ?hy46⟩) ?ha46 (by assumption) ?rest46
  case hy46 =>
    intro w_ hSw_
    go_simp
    first | done | (with_reducible rfl)
  case ha46 =>
    simp only [Act.put, List.setIfInBounds_toArray, List.set_cons_zero, List.set_cons_succ]
    rfl
  refine takeN (i := 6) (N := (some 21)) (v := ?v47) (a' := ?a47) rfl rfl (by kernel_rfl) (by kernel_rfl) (by kernel_rfl) (fun _ _ _ h => h) (Or.inl ⟨by rfl, ?hy47⟩) ?ha47 (by assumption) ?rest47
  case hy47 =>
    intro w_ hSw_
    go_simp
    first | done | (with_reducible rfl)
  case ha47 =>
    simp only [Act.put, List.setIfInBounds_toArray, List.set_cons_zero, List.set_cons_succ]
    rfl
  refine takeN (i := 7) (N := (some 22)) (v := ?v48) (a' := ?a48) rfl rfl (by kernel_rfl) (by kernel_rfl) (by kernel_rfl) (fun _ _ _ h => h) (Or.inl ⟨by rfl, ?hy48⟩) ?ha48 (by assumption) ?rest48
  case hy48 =>
    intro w_ hSw_
    go_simp
    first | done | (with_reducible rfl)
  case ha48 =>
    simp only [Act.put, List.setIfInBounds_toArray, List.set_cons_zero, List.set_cons_succ]
    rfl
  refine wpAnyH_ready (rs := [8, 13]) (by kernel_rfl) (by simp) ?_
  refine AllReadyH.cons rfl (fun K hK => ?_) (AllReadyH.cons rfl (fun K hK => ?_) AllReadyH.nil)
  · go_simp
    go_at_call 17
    with_reducible refine (wsframe_Head.calls Av cv l m r1 0 0 true _ (Kd.R_reads' hHeld.1.out.sp.row).2.2 (Kd.R_reads' hHeld.1.out.sp.row).2.1 HH.out (HC.out.below hHeld.1.out.bel)).mono ?_
    rintro e w2 ⟨rfl, hb⟩
    have HG2 := Aside0.mk (hHeld.1.out.below hb)
    clear hb
    refine hK.out _ _ (NS.mk HG2.out) (fun hHeld => ?_)
    clear hK K
    try simp only [Act.put, List.setIfInBounds_toArray, List.set_cons_zero, List.set_cons_succ]
    refine takeN (i := 9) (N := (some 14)) (v := ?v49) (a' := ?a49) rfl rfl (by kernel_rfl) (by kernel_rfl) (by kernel_rfl) (fun _ _ _ h => h) (Or.inl ⟨by rfl, ?hy49⟩) ?ha49 (by assumption) ?rest49
    case hy49 =>
      intro w_ hSw_
      go_simp
      first | done | (with_reducible rfl)
    case ha49 =>
      simp only [Act.put, List.setIfInBounds_toArray, List.set_cons_zero, List.set_cons_succ]
      rfl
    refine takeN (i := 10) (N := (some 24)) (v := ?v50) (a' := ?a50) rfl rfl (by kernel_rfl) (by kernel_rfl) (by kernel_rfl) (fun _ _ _ h => h) (Or.inl ⟨by rfl, ?hy50⟩) ?ha50 (by assumption) ?rest50
    case hy50 =>
      intro w_ hSw_
      go_simp
      first | done | (with_reducible rfl)
    case ha50 =>
      simp only [Act.put, List.setIfInBounds_toArray, List.set_cons_zero, List.set_cons_succ]
      rfl
    refine takeN (i := 11) (N := (some 25)) (v := ?v51) (a' := ?a51) rfl rfl (by kernel_rfl) (by kernel_rfl) (by kernel_rfl) (fun _ _ _ h => h) (Or.inl ⟨by rfl, ?hy51⟩) ?ha51 (by assumption) ?rest51
    case hy51 =>
      intro w_ hSw_
      go_simp
      first | done | (with_reducible rfl)
    case ha51 =>
      simp only [Act.put, List.setIfInBounds_toArray, List.set_cons_zero, List.set_cons_succ]
      rfl
    refine takeN (i := 12) (N := (some 26)) (v := ?v52) (a' := ?a52) rfl rfl (by kernel_rfl) (by kernel_rfl) (by kernel_rfl) (fun _ _ _ h => h) (Or.inl ⟨by rfl, ?hy52⟩) ?ha52 (by assumption) ?rest52
    case hy52 =>
      intro w_ hSw_
      go_simp
      first | done | (with_reducible rfl)
    case ha52 =>
      simp only [Act.put, List.setIfInBounds_toArray, List.set_cons_zero, List.set_cons_succ]
      rfl
    refine wpAnyH_ready (rs := [13]) (by kernel_rfl) (by simp) ?_
    refine AllReadyH.cons rfl (fun K hK => ?_) AllReadyH.nil
    go_simp
    refine hK.out _ _ (NS.mk (HG2.out.below (below_alloc (Below.refl _ _) _))) (fun hHeld => ?_)
    clear hK K
    try simp only [Act.put, List.setIfInBounds_toArray, List.set_cons_zero, List.set_cons_succ]
    refine takeN (i := 14) (N := (some 5)) (v := ?v53) (a' := ?a53) rfl rfl (by kernel_rfl) (by kernel_rfl) (by kernel_rfl) (fun _ _ _ h => h) (Or.inl ⟨by rfl, ?hy53⟩) ?ha53 (by assumption) ?rest53
    case hy53 =>
      intro w_ hSw_
      go_simp
      first | done | (with_reducible rfl)
    case ha53 =>
      simp only [Act.put, List.setIfInBounds_toArray, List.set_cons_zero, List.set_cons_succ]
      rfl
    refine wpAnyH_ready (rs := [15]) (by kernel_rfl) (by simp) ?_
    refine AllReadyH.cons rfl (fun K hK => ?_) AllReadyH.nil
    go_simp
    refine hK.out _ _ (NS.mk (HG2.out.below (below_alloc (Below.refl _ _) _))) (fun hHeld => ?_)
    clear hK K
    try simp only [Act.put, List.setIfInBounds_toArray, List.set_cons_zero, List.set_cons_succ]
    refine takeN (i := 16) (N := (some 7)) (v := ?v54) (a' := ?a54) rfl rfl (by kernel_rfl) (by kernel_rfl) (by kernel_rfl) (fun _ _ _ h => h) (Or.inl ⟨by rfl, ?hy54⟩) ?ha54 (by assumption) ?rest54
    case hy54 =>
      intro w_ hSw_
      go_simp
      first | done | (with_reducible rfl)
    case ha54 =>
      simp only [Act.put, List.setIfInBounds_toArray, List.set_cons_zero, List.set_cons_succ]
      rfl
    refine wpAnyH_done (by kernel_rfl) ?_ _
    refine NoPanic.normal ?_
    have hG6 := hHeld.1.out
    clear hHeld
    have hbox : (w2.alloc (.cells #[.int .u8 0, .int .u32 0] 33)).heap[w2.heap.size]? = some (.cells #[.int .u8 0, .int .u32 0] 33 (0, 0)) := last_at w2 _ _ rfl
    have hgl2 := HG2.out.lt
    generalize w2.alloc (.cells #[.int .u8 0, .int .u32 0] 33) = W6 at hG6 hbox ⊢
    generalize w2.heap.size = gb at hbox hgl2 ⊢
    clear HG2 HN0
    have HG := Aside0.mk hG6
    have HBX6 := Aside0.mk hbox
    have k0 : W6.cell? ⟨gb, 0, none⟩ = some (.int .u8 0) := (blk_cell hbox 0).trans rfl
    have k1 : W6.cell? ⟨gb, 1, none⟩ = some (.int .u32 0) := (blk_cell hbox 1).trans rfl
    have kf0 := blk_frozen hbox 0
    have kf1 := blk_frozen hbox 1
    have kl := blk_lt hbox
    clear hG6 hbox
    have p0 : W6.cell? ⟨w.heap.size, 0, none⟩ = some (.bool false) := (blk_cell HG.out.piece 0).trans rfl
    have pf0 := blk_frozen HG.out.piece 0
    have p1 : W6.cell? ⟨w.heap.size, 1, none⟩ = some (.int .u8 0) := (blk_cell HG.out.piece 1).trans rfl
    have pf1 := blk_frozen HG.out.piece 1
    have p2 : W6.cell? ⟨w.heap.size, 2, none⟩ = some (.bool false) := (blk_cell HG.out.piece 2).trans rfl
    have pf2 := blk_frozen HG.out.piece 2
    have p3 : W6.cell? ⟨w.heap.size, 3, none⟩ = some (.int .u32 0) := (blk_cell HG.out.piece 3).trans rfl
    have pf3 := blk_frozen HG.out.piece 3
    have p4 : W6.cell? ⟨w.heap.size, 4, none⟩ = some (.slice none 0 0) := (blk_cell HG.out.piece 4).trans rfl
    have pf4 := blk_frozen HG.out.piece 4
    have r0_ : W6.cell? ⟨w.heap.size + 1, 0, none⟩ = some (.int .u8 0) := (blk_cell HG.out.fault 0).trans rfl
    have rf0 := blk_frozen HG.out.fault 0
    have r1_ : W6.cell? ⟨w.heap.size + 1, 1, none⟩ = some (.int .u32 0) := (blk_cell HG.out.fault 1).trans rfl
    have rf1 := blk_frozen HG.out.fault 1
    have pl := blk_lt HG.out.piece
    have rl := blk_lt HG.out.fault
    have q0 : W6.cell? ⟨g, 0, none⟩ = some (.slice Av l.length cv) := (blk_cell HG.out.sp.blk 0).trans rfl
    have q1 : W6.cell? ⟨g, 1, none⟩ = some (.bool m) := (blk_cell HG.out.sp.blk 1).trans rfl
    have hle0 : w.heap.size ≤ w.heap.size := Nat.le_refl _
    have hle1 : w.heap.size ≤ w.heap.size + 1 := by omega
    have hgt : decide ((l.length : Int) < r1) = false := decide_eq_false (by omega)
    go_upto_region 11 with fail
    clear k0 k1 kf0 kf1 kl p0 p1 p2 p3 p4 pf0 pf1 pf2 pf3 pf4 r0_ r1_ rf0 rf1 pl rl q0 q1 hle0 hle1 HBX6
    have HGc := HG
    clear HG
    refine wp_region_noPanic ?_
    refine wp_region_held_drew (S := fun w' => Aside0 (Ng wb w w' g (.slice Av l.length cv) m l) ∧ w'.cell? ⟨g, 0, none⟩ = some (.slice Av l.length cv) ∧ w'.cell? ⟨g, 1, none⟩ = some (.bool m)) (by kernel_rfl) (NS.mk (HGc.out.below (below_drew (Below.refl _ _)))) (fun hHeld => ?_)
    refine takeN (i := 0) (N := (some 55)) (v := ?v61) (a' := ?a61) rfl rfl (by kernel_rfl) (by kernel_rfl) (by kernel_rfl) (fun _ _ _ h => h) (Or.inl ⟨by rfl, ?hy61⟩) ?ha61 (by assumption) ?rest61
    case hy61 =>
      intro w_ hSw_
      go_simp
      first | done | (with_reducible rfl)
    case ha61 =>
      simp only [Act.put, List.setIfInBounds_toArray, List.set_cons_zero, List.set_cons_succ]
      rfl
    refine takeN (i := 1) (N := (some 56)) (v := ?v62) (a' := ?a62) rfl rfl (by kernel_rfl) (by kernel_rfl) (by kernel_rfl) (fun _ _ _ h => h) (Or.inl ⟨by rfl, ?hy62⟩) ?ha62 (by assumption) ?rest62
    case hy62 =>
      intro w_ hSw_
      go_simp
      first | done | (with_reducible rfl)
    case ha62 =>
      simp only [Act.put, List.setIfInBounds_toArray, List.set_cons_zero, List.set_cons_succ]
      rfl
    refine takeN (i := 2) (N := (some 57)) (v := ?v63) (a' := ?a63) rfl rfl (by kernel_rfl) (by kernel_rfl) (by kernel_rfl) (fun _ _ _ h => h) (Or.inl ⟨by rfl, ?hy63⟩) ?ha63 (by assumption) ?rest63
    case hy63 =>
      intro w_ hSw_
      go_simp
      first | done | (with_reducible rfl)
    case ha63 =>
      simp only [Act.put, List.setIfInBounds_toArray, List.set_cons_zero, List.set_cons_succ]
      rfl
    refine takeN (i := 3) (N := (some 58)) (v := ?v64) (a' := ?a64) rfl rfl (by kernel_rfl) (by kernel_rfl) (by kernel_rfl) (fun _ _ _ h => h) (Or.inl ⟨by rfl, ?hy64⟩) ?ha64 (by assumption) ?rest64
    case hy64 =>
      intro w_ hSw_
      go_simp
      first | done | (with_reducible rfl)
    case ha64 =>
      simp only [Act.put, List.setIfInBounds_toArray, List.set_cons_zero, List.set_cons_succ]
      rfl
    refine takeN (i := 4) (N := (some 59)) (v := ?v65) (a' := ?a65) rfl rfl (by kernel_rfl) (by kernel_rfl) (by kernel_rfl) (fun _ _ _ h => h) (Or.inl ⟨by rfl, ?hy65⟩) ?ha65 (by assumption) ?rest65
    case hy65 =>
      intro w_ hSw_
      go_simp
      first | done | (with_reducible rfl)
    case ha65 =>
      simp only [Act.put, List.setIfInBounds_toArray, List.set_cons_zero, List.set_cons_succ]
      rfl
    refine takeN (i := 5) (N := (some 60)) (v := ?v66) (a' := ?a66) rfl rfl (by kernel_rfl) (by kernel_rfl) (by kernel_rfl) (fun _ _ _ h => h) (Or.inl ⟨by rfl, ?hy66⟩) ?ha66 (by assumption) ?rest66
    case hy66 =>
      intro w_ hSw_
      go_simp
      first | done | (with_reducible rfl)
    case ha66 =>
      simp only [Act.put, List.setIfInBounds_toArray, List.set_cons_zero, List.set_cons_succ]
      rfl
    refine takeN (i := 6) (N := (some 61)) (v := ?v67) (a' := ?a67) rfl rfl (by kernel_rfl) (by kernel_rfl) (by kernel_rfl) (fun _ _ _ h => h) (Or.inl ⟨by rfl, ?hy67⟩) ?ha67 (by assumption) ?rest67
    case hy67 =>
      intro w_ hSw_
      go_simp
      first | done | (with_reducible rfl)
    case ha67 =>
      simp only [Act.put, List.setIfInBounds_toArray, List.set_cons_zero, List.set_cons_succ]
      rfl
    refine takeN (i := 7) (N := (some 62)) (v := ?v68) (a' := ?a68) rfl rfl (by kernel_rfl) (by kernel_rfl) (by kernel_rfl) (fun _ _ _ h => h) (Or.inl ⟨by rfl, ?hy68⟩) ?ha68 (by assumption) ?rest68
    case hy68 =>
      intro w_ hSw_
      go_simp
      first | done | (with_reducible rfl)
    case ha68 =>
      simp only [Act.put, List.setIfInBounds_toArray, List.set_cons_zero, List.set_cons_succ]
      rfl
    refine takeN (i := 8) (N := (some 63)) (v := ?v69) (a' := ?a69) rfl rfl (by kernel_rfl) (by kernel_rfl) (by kernel_rfl) (fun _ _ _ h => h) (Or.inl ⟨by rfl, ?hy69⟩) ?ha69 (by assumption) ?rest69
    case hy69 =>
      intro w_ hSw_
      go_simp
      first | done | (with_reducible rfl)
    case ha69 =>
      simp only [Act.put, List.setIfInBounds_toArray, List.set_cons_zero, List.set_cons_succ]
      rfl
    refine takeN (i := 9) (N := (some 64)) (v := ?v70) (a' := ?a70) rfl rfl (by kernel_rfl) (by kernel_rfl) (by kernel_rfl) (fun _ _ _ h => h) (Or.inl ⟨by rfl, ?hy70⟩) ?ha70 (by assumption) ?rest70
    case hy70 =>
      intro w_ hSw_
      go_simp
      first | done | (with_reducible rfl)
    case ha70 =>
      simp only [Act.put, List.setIfInBounds_toArray, List.set_cons_zero, List.set_cons_succ]
      rfl
    refine wpAnyH_ready (rs := [10, 14, 15]) (by kernel_rfl) (by simp) ?_
    refine (AllReadyH.cons rfl (fun K hK => ?_) (AllReadyH.cons rfl (fun K hK => ?_) (AllReadyH.cons rfl (fun K hK => ?_) AllReadyH.nil)))
    · go_simp
      go_at_call 18
      with_reducible refine (wsframe_Get.calls kk Av cv tk m s1 s2 s3 s4 s5 s6 s7 _ (HTk.out _ (Kd.R_reads' hHeld.1.out.sp.row).2.2) htc HHG.out (HC.out.below hHeld.1.out.bel)).mono ?_
      rintro e V1 ⟨vp, rfl, ho, hb⟩
      obtain ⟨Ap, cp, rfl⟩ := Kd.R_slice ho
      have HO : Aside0 (Kd.R (Kd.int .u8) 5 V1 w.heap.size (fun _ => True) (.slice Ap s5.length cp) s5) := ⟨Kd.R_lower ho (show w.heap.size ≤ _ from hHeld.1.out.bel.size)⟩
      have HGn : Aside0 (Ng wb w V1 g (.slice Av l.length cv) m l) := ⟨hHeld.1.out.below hb⟩
      clear ho hb HGc
      have HGc := HGn
      clear HGn
      refine hK.out _ _ (NS.mk HGc.out) (fun hHeld => ?_)
      clear hK K
      try simp only [Act.put, List.setIfInBounds_toArray, List.set_cons_zero, List.set_cons_succ]
      refine takeN (i := 11) (N := (some 54)) (v := ?v71) (a' := ?a71) rfl rfl (by kernel_rfl) (by kernel_rfl) (by kernel_rfl) (fun _ _ _ h => h) (Or.inl ⟨by rfl, ?hy71⟩) ?ha71 (by assumption) ?rest71
      case hy71 =>
        intro w_ hSw_
        go_simp
        first | done | (with_reducible rfl)
      case ha71 =>
        simp only [Act.put, List.setIfInBounds_toArray, List.set_cons_zero, List.set_cons_succ]
        rfl
      refine takeN (i := 12) (N := (some 66)) (v := ?v72) (a' := ?a72) rfl rfl (by kernel_rfl) (by kernel_rfl) (by kernel_rfl) (fun _ _ _ h => h) (Or.inl ⟨by rfl, ?hy72⟩) ?ha72 (by assumption) ?rest72
      case hy72 =>
        intro w_ hSw_
        go_simp
        first | done | (with_reducible rfl)
      case ha72 =>
        simp only [Act.put, List.setIfInBounds_toArray, List.set_cons_zero, List.set_cons_succ]
        rfl
      refine takeN (i := 13) (N := (some 67)) (v := ?v73) (a' := ?a73) rfl rfl (by kernel_rfl) (by kernel_rfl) (by kernel_rfl) (fun _ _ _ h => h) (Or.inl ⟨by rfl, ?hy73⟩) ?ha73 (by assumption) ?rest73
      case hy73 =>
        intro w_ hSw_
        go_simp
        first | done | (with_reducible rfl)
      case ha73 =>
        simp only [Act.put, List.setIfInBounds_toArray, List.set_cons_zero, List.set_cons_succ]
        rfl
      refine wpAnyH_ready (rs := [14, 15]) (by kernel_rfl) (by simp) ?_
      refine (AllReadyH.cons rfl (fun K hK => ?_) (AllReadyH.cons rfl (fun K hK => ?_) AllReadyH.nil))
      · go_simp
        refine hK.out _ _ (NS.mk (HGc.out.below (below_alloc (Below.refl _ _) _))) (fun hHeld => ?_)
        clear hK K
        try simp only [Act.put, List.setIfInBounds_toArray, List.set_cons_zero, List.set_cons_succ]
        have hbx : (V1.alloc (.cells #[.bool false, .int .u8 0, .bool false, .int .u32 0, .slice none 0 0] 31)).heap[V1.heap.size]? = some (.cells #[.bool false, .int .u8 0, .bool false, .int .u32 0, .slice none 0 0] 31 (0, 0)) := last_at V1 _ _ rfl
        have hgn : Ng wb w (V1.alloc (.cells #[.bool false, .int .u8 0, .bool false, .int .u32 0, .slice none 0 0] 31)) g (.slice Av l.length cv) m l := HGc.out.below (below_alloc (Below.refl _ _) _)
        have hlt_gp : w.heap.size + 1 < V1.heap.size := HGc.out.lt
        have hgt_gp : g < V1.heap.size := blk_lt HGc.out.sp.blk
        have hHOn := Kd.R_alloc HO.out (.cells #[.bool false, .int .u8 0, .bool false, .int .u32 0, .slice none 0 0] 31)
        generalize V1.alloc (.cells #[.bool false, .int .u8 0, .bool false, .int .u32 0, .slice none 0 0] 31) = V2 at hHeld hbx hgn hHOn ⊢
        generalize V1.heap.size = gp at hbx hlt_gp hgt_gp ⊢
        clear HGc HO
        have HGc := Aside0.mk hgn
        have HPb := Aside0.mk hbx
        clear hgn hbx
        have HO := Aside0.mk hHOn
        clear hHOn
        refine wpAnyH_ready (rs := [15]) (by kernel_rfl) (by simp) ?_
        refine (AllReadyH.cons rfl (fun K hK => ?_) AllReadyH.nil)
        · go_simp
          refine hK.out _ _ (NS.mk (HGc.out.below (below_alloc (Below.refl _ _) _))) (fun hHeld => ?_)
          clear hK K
          try simp only [Act.put, List.setIfInBounds_toArray, List.set_cons_zero, List.set_cons_succ]
          have hbx : (V2.alloc (.cells #[.int .u8 0, .int .u32 0] 33)).heap[V2.heap.size]? = some (.cells #[.int .u8 0, .int .u32 0] 33 (0, 0)) := last_at V2 _ _ rfl
          have hgn : Ng wb w (V2.alloc (.cells #[.int .u8 0, .int .u32 0] 33)) g (.slice Av l.length cv) m l := HGc.out.below (below_alloc (Below.refl _ _) _)
          have hlt_gf : w.heap.size + 1 < V2.heap.size := HGc.out.lt
          have hgt_gf : g < V2.heap.size := blk_lt HGc.out.sp.blk
          have hne_ : gp < V2.heap.size := blk_lt HPb.out
          have hHPbn := blk_alloc HPb.out (.cells #[.int .u8 0, .int .u32 0] 33)
          have hHOn := Kd.R_alloc HO.out (.cells #[.int .u8 0, .int .u32 0] 33)
          generalize V2.alloc (.cells #[.int .u8 0, .int .u32 0] 33) = V3 at hHeld hbx hgn hHPbn hHOn ⊢
          generalize V2.heap.size = gf at hbx hlt_gf hgt_gf hne_ ⊢
          clear HGc HPb HO
          have HGc := Aside0.mk hgn
          have HFb := Aside0.mk hbx
          clear hgn hbx
          have HPb := Aside0.mk hHPbn
          clear hHPbn
          have HO := Aside0.mk hHOn
          clear hHOn
          have hne : gp ≠ gf := by omega
          have c0_ : V3.cell? ⟨gp, 0, none⟩ = some (.bool false) := (blk_cell HPb.out 0).trans rfl
          have cf0_ := blk_frozen HPb.out 0
          have c1_ : V3.cell? ⟨gp, 1, none⟩ = some (.int .u8 0) := (blk_cell HPb.out 1).trans rfl
          have cf1_ := blk_frozen HPb.out 1
          have c2_ : V3.cell? ⟨gp, 2, none⟩ = some (.bool false) := (blk_cell HPb.out 2).trans rfl
          have cf2_ := blk_frozen HPb.out 2
          have c3_ : V3.cell? ⟨gp, 3, none⟩ = some (.int .u32 0) := (blk_cell HPb.out 3).trans rfl
          have cf3_ := blk_frozen HPb.out 3
          have c4_ : V3.cell? ⟨gp, 4, none⟩ = some (.slice none 0 0) := (blk_cell HPb.out 4).trans rfl
          have cf4_ := blk_frozen HPb.out 4
          have cl_ := blk_lt HPb.out
          refine wpAnyH_ready (rs := [16]) (by kernel_rfl) (by simp) ?_
          refine AllReadyH.cons rfl (fun K hK => ?_) AllReadyH.nil
          go_simp
          refine hK.out _ _ (NS.mk (Ng.put5 HGc.out hlt_gp hgt_gp HPb.out _ _ _ _ _)) (fun hHeld => ?_)
          clear hK K
          try simp only [Act.put, List.setIfInBounds_toArray, List.set_cons_zero, List.set_cons_succ]
          have hgn := Ng.put5 HGc.out hlt_gp hgt_gp HPb.out (.bool s1) (.int .u8 s2) (.bool s3) (.int .u32 s4) (.slice Ap s5.length cp)
          have hbx := put5s HPb.out (.bool s1) (.int .u8 s2) (.bool s3) (.int .u32 s4) (.slice Ap s5.length cp)
          have hfx := (keep5 V3 gp (.bool s1) (.int .u8 s2) (.bool s3) (.int .u32 s4) (.slice Ap s5.length cp) _ hne.symm).trans HFb.out
          have hrx := row5 HO.out HPb.out (.bool s1) (.int .u8 s2) (.bool s3) (.int .u32 s4) (.slice Ap s5.length cp)
          generalize (((((V3.setCell ⟨gp, 0, none⟩ (.bool s1)).setCell ⟨gp, 1, none⟩ (.int .u8 s2)).setCell ⟨gp, 2, none⟩ (.bool s3)).setCell ⟨gp, 3, none⟩ (.int .u32 s4)).setCell ⟨gp, 4, none⟩ (.slice Ap s5.length cp)) = V4 at hHeld hgn hbx hfx hrx ⊢
          clear HGc HPb HFb HO c0_ c1_ c2_ c3_ c4_ cf0_ cf1_ cf2_ cf3_ cf4_ cl_
          have HGc := Aside0.mk hgn
          have HPb := Aside0.mk hbx
          have HFb := Aside0.mk hfx
          have HO := Aside0.mk hrx
          clear hgn hbx hfx hrx
          have c0_ : V4.cell? ⟨gf, 0, none⟩ = some (.int .u8 0) := (blk_cell HFb.out 0).trans rfl
          have cf0_ := blk_frozen HFb.out 0
          have c1_ : V4.cell? ⟨gf, 1, none⟩ = some (.int .u32 0) := (blk_cell HFb.out 1).trans rfl
          have cf1_ := blk_frozen HFb.out 1
          have cl_ := blk_lt HFb.out
          refine wpAnyH_ready (rs := [17]) (by kernel_rfl) (by simp) ?_
          refine AllReadyH.cons rfl (fun K hK => ?_) AllReadyH.nil
          go_simp
          refine hK.out _ _ (NS.mk (Ng.put2 HGc.out hlt_gf hgt_gf HFb.out _ _)) (fun hHeld => ?_)
          clear hK K
          try simp only [Act.put, List.setIfInBounds_toArray, List.set_cons_zero, List.set_cons_succ]
          refine wpAnyH_done (by kernel_rfl) ?_ _
          refine NoPanic.normal ?_
          have hgn := Ng.put2 HGc.out hlt_gf hgt_gf HFb.out (.int .u8 s6) (.int .u32 s7)
          have hbx := (keep2 V4 gf (.int .u8 s6) (.int .u32 s7) _ hne).trans HPb.out
          have hrx := row2 HO.out HFb.out (.int .u8 s6) (.int .u32 s7)
          clear hHeld
          generalize ((V4.setCell ⟨gf, 0, none⟩ (.int .u8 s6)).setCell ⟨gf, 1, none⟩ (.int .u32 s7)) = X4 at hgn hbx hrx ⊢
          clear HGc HPb HFb HO c0_ c1_ cf0_ cf1_ cl_
          have HGc := Aside0.mk hgn
          have HPb := Aside0.mk hbx
          have HO := Aside0.mk hrx
          clear hgn hbx hrx
          have q0 : X4.cell? ⟨g, 0, none⟩ = some (.slice Av l.length cv) := (blk_cell HGc.out.sp.blk 0).trans rfl
          have qf0 := blk_frozen HGc.out.sp.blk 0
          have ql := blk_lt HGc.out.sp.blk
          go_wp2_with fail
          refine (bytes_Clone.calls Ad cd dk dk _ (HDk.out _ (Kd.R_reads' HGc.out.sp.row).2.2) hdc hcl).mono ?_
          rintro e w8 ⟨vd, rfl, hod, hb⟩
          obtain ⟨Ae, ce, rfl⟩ := Kd.R_slice hod
          clear q0 qf0 ql
          have HNE : Aside0 (∀ k, (Value.slice Ap s5.length cp).ownBlock = some k → (Value.slice Ae dk.length ce).ownBlock ≠ some k) := ⟨fun k h1 h2 => absurd (Kd.R_lt HO.out k h1) (Nat.not_lt.mpr (Kd.R_base hod k h2))⟩
          have HG8 : Aside0 (Ng wb w w8 g (.slice Av l.length cv) m l) := ⟨HGc.out.below hb⟩
          have HP8 := Aside0.mk (blk_below HPb.out hb)
          have HO8 := Aside0.mk (Kd.R_below HO.out hb)
          have HD8 := Aside0.mk (Kd.R_lower hod (show w.heap.size ≤ _ from HGc.out.bel.size))
          clear hod hb HGc HPb HO
          have q0 : w8.cell? ⟨g, 0, none⟩ = some (.slice Av l.length cv) := (blk_cell HG8.out.sp.blk 0).trans rfl
          have qf0 := blk_frozen HG8.out.sp.blk 0
          have ql := blk_lt HG8.out.sp.blk
          go_upto_region 13 with fail
          have hfin : Fin wb w (w8.setCell ⟨g, 0, none⟩ (.slice Ae dk.length ce)) g m (.slice Ae dk.length ce) dk (.slice Ap s5.length cp) s5 := Fin.of HG8.out HB.out hgb hgl HD8.out HO8.out HNE.out
          have hbx : (w8.setCell ⟨g, 0, none⟩ (.slice Ae dk.length ce)).heap[gp]? = some (.cells #[.bool s1, .int .u8 s2, .bool s3, .int .u32 s4, .slice Ap s5.length cp] 31 (0, 0)) := (Below.heap_setCell _ _ _ _ (by show gp ≠ g; omega)).trans HP8.out
          generalize (w8.setCell ⟨g, 0, none⟩ (.slice Ae dk.length ce)) = We at hfin hbx ⊢
          clear HG8 HP8 HO8 HD8 q0 qf0 ql
          have HFN := Aside0.mk hfin
          have HPb := Aside0.mk hbx
          clear hfin hbx
          have c0_ : We.cell? ⟨gp, 0, none⟩ = some (.bool s1) := (blk_cell HPb.out 0).trans rfl
          have cf0_ := blk_frozen HPb.out 0
          have c1_ : We.cell? ⟨gp, 1, none⟩ = some (.int .u8 s2) := (blk_cell HPb.out 1).trans rfl
          have cf1_ := blk_frozen HPb.out 1
          have c2_ : We.cell? ⟨gp, 2, none⟩ = some (.bool s3) := (blk_cell HPb.out 2).trans rfl
          have cf2_ := blk_frozen HPb.out 2
          have c3_ : We.cell? ⟨gp, 3, none⟩ = some (.int .u32 s4) := (blk_cell HPb.out 3).trans rfl
          have cf3_ := blk_frozen HPb.out 3
          have c4_ : We.cell? ⟨gp, 4, none⟩ = some (.slice Ap s5.length cp) := (blk_cell HPb.out 4).trans rfl
          have cf4_ := blk_frozen HPb.out 4
          have cl_ := blk_lt HPb.out
          have p0 : We.cell? ⟨w.heap.size, 0, none⟩ = some (.bool false) := (blk_cell HFN.out.piece 0).trans rfl
          have pf0 := blk_frozen HFN.out.piece 0
          have p1 : We.cell? ⟨w.heap.size, 1, none⟩ = some (.int .u8 0) := (blk_cell HFN.out.piece 1).trans rfl
          have pf1 := blk_frozen HFN.out.piece 1
          have p2 : We.cell? ⟨w.heap.size, 2, none⟩ = some (.bool false) := (blk_cell HFN.out.piece 2).trans rfl
          have pf2 := blk_frozen HFN.out.piece 2
          have p3 : We.cell? ⟨w.heap.size, 3, none⟩ = some (.int .u32 0) := (blk_cell HFN.out.piece 3).trans rfl
          have pf3 := blk_frozen HFN.out.piece 3
          have p4 : We.cell? ⟨w.heap.size, 4, none⟩ = some (.slice none 0 0) := (blk_cell HFN.out.piece 4).trans rfl
          have pf4 := blk_frozen HFN.out.piece 4
          have r0_ : We.cell? ⟨w.heap.size + 1, 0, none⟩ = some (.int .u8 0) := (blk_cell HFN.out.fault 0).trans rfl
          have rf0 := blk_frozen HFN.out.fault 0
          have r1_ : We.cell? ⟨w.heap.size + 1, 1, none⟩ = some (.int .u32 0) := (blk_cell HFN.out.fault 1).trans rfl
          have rf1 := blk_frozen HFN.out.fault 1
          have pl := blk_lt HFN.out.piece
          have rl := blk_lt HFN.out.fault
          go_wp2_with fail
          exact bodyPost_ret (v := .tuple #[.agg #[.bool s1, .int .u8 s2, .bool s3, .int .u32 s4, .slice Ap s5.length cp], .agg #[.int .u8 0, .int .u32 0], .bool true]) (by simp [results, Tryd.results12, go_sem, p0, p1, p2, p3, p4, r0_, r1_]) rfl (NextPost.fin HFN.out)
      · go_simp
        refine hK.out _ _ (NS.mk (HGc.out.below (below_alloc (Below.refl _ _) _))) (fun hHeld => ?_)
        clear hK K
        try simp only [Act.put, List.setIfInBounds_toArray, List.set_cons_zero, List.set_cons_succ]
        have hbx : (V1.alloc (.cells #[.int .u8 0, .int .u32 0] 33)).heap[V1.heap.size]? = some (.cells #[.int .u8 0, .int .u32 0] 33 (0, 0)) := last_at V1 _ _ rfl
        have hgn : Ng wb w (V1.alloc (.cells #[.int .u8 0, .int .u32 0] 33)) g (.slice Av l.length cv) m l := HGc.out.below (below_alloc (Below.refl _ _) _)
        have hlt_gf : w.heap.size + 1 < V1.heap.size := HGc.out.lt
        have hgt_gf : g < V1.heap.size := blk_lt HGc.out.sp.blk
        have hHOn := Kd.R_alloc HO.out (.cells #[.int .u8 0, .int .u32 0] 33)
        generalize V1.alloc (.cells #[.int .u8 0, .int .u32 0] 33) = V5 at hHeld hbx hgn hHOn ⊢
        generalize V1.heap.size = gf at hbx hlt_gf hgt_gf ⊢
        clear HGc HO
        have HGc := Aside0.mk hgn
        have HFb := Aside0.mk hbx
        clear hgn hbx
        have HO := Aside0.mk hHOn
        clear hHOn
        refine wpAnyH_ready (rs := [14]) (by kernel_rfl) (by simp) ?_
        refine (AllReadyH.cons rfl (fun K hK => ?_) AllReadyH.nil)
        · go_simp
          refine hK.out _ _ (NS.mk (HGc.out.below (below_alloc (Below.refl _ _) _))) (fun hHeld => ?_)
          clear hK K
          try simp only [Act.put, List.setIfInBounds_toArray, List.set_cons_zero, List.set_cons_succ]
          have hbx : (V5.alloc (.cells #[.bool false, .int .u8 0, .bool false, .int .u32 0, .slice none 0 0] 31)).heap[V5.heap.size]? = some (.cells #[.bool false, .int .u8 0, .bool false, .int .u32 0, .slice none 0 0] 31 (0, 0)) := last_at V5 _ _ rfl
          have hgn : Ng wb w (V5.alloc (.cells #[.bool false, .int .u8 0, .bool false, .int .u32 0, .slice none 0 0] 31)) g (.slice Av l.length cv) m l := HGc.out.below (below_alloc (Below.refl _ _) _)
          have hlt_gp : w.heap.size + 1 < V5.heap.size := HGc.out.lt
          have hgt_gp : g < V5.heap.size := blk_lt HGc.out.sp.blk
          have hne_ : gf < V5.heap.size := blk_lt HFb.out
          have hHFbn := blk_alloc HFb.out (.cells #[.bool false, .int .u8 0, .bool false, .int .u32 0, .slice none 0 0] 31)
          have hHOn := Kd.R_alloc HO.out (.cells #[.bool false, .int .u8 0, .bool false, .int .u32 0, .slice none 0 0] 31)
          generalize V5.alloc (.cells #[.bool false, .int .u8 0, .bool false, .int .u32 0, .slice none 0 0] 31) = V6 at hHeld hbx hgn hHFbn hHOn ⊢
          generalize V5.heap.size = gp at hbx hlt_gp hgt_gp hne_ ⊢
          clear HGc HFb HO
          have HGc := Aside0.mk hgn
          have HPb := Aside0.mk hbx
          clear hgn hbx
          have HFb := Aside0.mk hHFbn
          clear hHFbn
          have HO := Aside0.mk hHOn
          clear hHOn
          have hne : gp ≠ gf := by omega
          have c0_ : V6.cell? ⟨gp, 0, none⟩ = some (.bool false) := (blk_cell HPb.out 0).trans rfl
          have cf0_ := blk_frozen HPb.out 0
          have c1_ : V6.cell? ⟨gp, 1, none⟩ = some (.int .u8 0) := (blk_cell HPb.out 1).trans rfl
          have cf1_ := blk_frozen HPb.out 1
          have c2_ : V6.cell? ⟨gp, 2, none⟩ = some (.bool false) := (blk_cell HPb.out 2).trans rfl
          have cf2_ := blk_frozen HPb.out 2
          have c3_ : V6.cell? ⟨gp, 3, none⟩ = some (.int .u32 0) := (blk_cell HPb.out 3).trans rfl
          have cf3_ := blk_frozen HPb.out 3
          have c4_ : V6.cell? ⟨gp, 4, none⟩ = some (.slice none 0 0) := (blk_cell HPb.out 4).trans rfl
          have cf4_ := blk_frozen HPb.out 4
          have cl_ := blk_lt HPb.out
          refine wpAnyH_ready (rs := [16]) (by kernel_rfl) (by simp) ?_
          refine AllReadyH.cons rfl (fun K hK => ?_) AllReadyH.nil
          go_simp
          refine hK.out _ _ (NS.mk (Ng.put5 HGc.out hlt_gp hgt_gp HPb.out _ _ _ _ _)) (fun hHeld => ?_)
          clear hK K
          try simp only [Act.put, List.setIfInBounds_toArray, List.set_cons_zero, List.set_cons_succ]
          have hgn := Ng.put5 HGc.out hlt_gp hgt_gp HPb.out (.bool s1) (.int .u8 s2) (.bool s3) (.int .u32 s4) (.slice Ap s5.length cp)
          have hbx := put5s HPb.out (.bool s1) (.int .u8 s2) (.bool s3) (.int .u32 s4) (.slice Ap s5.length cp)
          have hfx := (keep5 V6 gp (.bool s1) (.int .u8 s2) (.bool s3) (.int .u32 s4) (.slice Ap s5.length cp) _ hne.symm).trans HFb.out
          have hrx := row5 HO.out HPb.out (.bool s1) (.int .u8 s2) (.bool s3) (.int .u32 s4) (.slice Ap s5.length cp)
          generalize (((((V6.setCell ⟨gp, 0, none⟩ (.bool s1)).setCell ⟨gp, 1, none⟩ (.int .u8 s2)).setCell ⟨gp, 2, none⟩ (.bool s3)).setCell ⟨gp, 3, none⟩ (.int .u32 s4)).setCell ⟨gp, 4, none⟩ (.slice Ap s5.length cp)) = V7 at hHeld hgn hbx hfx hrx ⊢
          clear HGc HPb HFb HO c0_ c1_ c2_ c3_ c4_ cf0_ cf1_ cf2_ cf3_ cf4_ cl_
          have HGc := Aside0.mk hgn
          have HPb := Aside0.mk hbx
          have HFb := Aside0.mk hfx
          have HO := Aside0.mk hrx
          clear hgn hbx hfx hrx
          have c0_ : V7.cell? ⟨gf, 0, none⟩ = some (.int .u8 0) := (blk_cell HFb.out 0).trans rfl
          have cf0_ := blk_frozen HFb.out 0
          have c1_ : V7.cell? ⟨gf, 1, none⟩ = some (.int .u32 0) := (blk_cell HFb.out 1).trans rfl
          have cf1_ := blk_frozen HFb.out 1
          have cl_ := blk_lt HFb.out
          refine wpAnyH_ready (rs := [17]) (by kernel_rfl) (by simp) ?_
          refine AllReadyH.cons rfl (fun K hK => ?_) AllReadyH.nil
          go_simp
          refine hK.out _ _ (NS.mk (Ng.put2 HGc.out hlt_gf hgt_gf HFb.out _ _)) (fun hHeld => ?_)
          clear hK K
          try simp only [Act.put, List.setIfInBounds_toArray, List.set_cons_zero, List.set_cons_succ]
          refine wpAnyH_done (by kernel_rfl) ?_ _
          refine NoPanic.normal ?_
          have hgn := Ng.put2 HGc.out hlt_gf hgt_gf HFb.out (.int .u8 s6) (.int .u32 s7)
          have hbx := (keep2 V7 gf (.int .u8 s6) (.int .u32 s7) _ hne).trans HPb.out
          have hrx := row2 HO.out HFb.out (.int .u8 s6) (.int .u32 s7)
          clear hHeld
          generalize ((V7.setCell ⟨gf, 0, none⟩ (.int .u8 s6)).setCell ⟨gf, 1, none⟩ (.int .u32 s7)) = X7 at hgn hbx hrx ⊢
          clear HGc HPb HFb HO c0_ c1_ cf0_ cf1_ cl_
          have HGc := Aside0.mk hgn
          have HPb := Aside0.mk hbx
          have HO := Aside0.mk hrx
          clear hgn hbx hrx
          have q0 : X7.cell? ⟨g, 0, none⟩ = some (.slice Av l.length cv) := (blk_cell HGc.out.sp.blk 0).trans rfl
          have qf0 := blk_frozen HGc.out.sp.blk 0
          have ql := blk_lt HGc.out.sp.blk
          go_wp2_with fail
          refine (bytes_Clone.calls Ad cd dk dk _ (HDk.out _ (Kd.R_reads' HGc.out.sp.row).2.2) hdc hcl).mono ?_
          rintro e w8 ⟨vd, rfl, hod, hb⟩
          obtain ⟨Ae, ce, rfl⟩ := Kd.R_slice hod
          clear q0 qf0 ql
          have HNE : Aside0 (∀ k, (Value.slice Ap s5.length cp).ownBlock = some k → (Value.slice Ae dk.length ce).ownBlock ≠ some k) := ⟨fun k h1 h2 => absurd (Kd.R_lt HO.out k h1) (Nat.not_lt.mpr (Kd.R_base hod k h2))⟩
          have HG8 : Aside0 (Ng wb w w8 g (.slice Av l.length cv) m l) := ⟨HGc.out.below hb⟩
          have HP8 := Aside0.mk (blk_below HPb.out hb)
          have HO8 := Aside0.mk (Kd.R_below HO.out hb)
          have HD8 := Aside0.mk (Kd.R_lower hod (show w.heap.size ≤ _ from HGc.out.bel.size))
          clear hod hb HGc HPb HO
          have q0 : w8.cell? ⟨g, 0, none⟩ = some (.slice Av l.length cv) := (blk_cell HG8.out.sp.blk 0).trans rfl
          have qf0 := blk_frozen HG8.out.sp.blk 0
          have ql := blk_lt HG8.out.sp.blk
          go_upto_region 13 with fail
          have hfin : Fin wb w (w8.setCell ⟨g, 0, none⟩ (.slice Ae dk.length ce)) g m (.slice Ae dk.length ce) dk (.slice Ap s5.length cp) s5 := Fin.of HG8.out HB.out hgb hgl HD8.out HO8.out HNE.out
          have hbx : (w8.setCell ⟨g, 0, none⟩ (.slice Ae dk.length ce)).heap[gp]? = some (.cells #[.bool s1, .int .u8 s2, .bool s3, .int .u32 s4, .slice Ap s5.length cp] 31 (0, 0)) := (Below.heap_setCell _ _ _ _ (by show gp ≠ g; omega)).trans HP8.out
          generalize (w8.setCell ⟨g, 0, none⟩ (.slice Ae dk.length ce)) = We at hfin hbx ⊢
          clear HG8 HP8 HO8 HD8 q0 qf0 ql
          have HFN := Aside0.mk hfin
          have HPb := Aside0.mk hbx
          clear hfin hbx
          have c0_ : We.cell? ⟨gp, 0, none⟩ = some (.bool s1) := (blk_cell HPb.out 0).trans rfl
          have cf0_ := blk_frozen HPb.out 0
          have c1_ : We.cell? ⟨gp, 1, none⟩ = some (.int .u8 s2) := (blk_cell HPb.out 1).trans rfl
          have cf1_ := blk_frozen HPb.out 1
          have c2_ : We.cell? ⟨gp, 2, none⟩ = some (.bool s3) := (blk_cell HPb.out 2).trans rfl
          have cf2_ := blk_frozen HPb.out 2
          have c3_ : We.cell? ⟨gp, 3, none⟩ = some (.int .u32 s4) := (blk_cell HPb.out 3).trans rfl
          have cf3_ := blk_frozen HPb.out 3
          have c4_ : We.cell? ⟨gp, 4, none⟩ = some (.slice Ap s5.length cp) := (blk_cell HPb.out 4).trans rfl
          have cf4_ := blk_frozen HPb.out 4
          have cl_ := blk_lt HPb.out
          have p0 : We.cell? ⟨w.heap.size, 0, none⟩ = some (.bool false) := (blk_cell HFN.out.piece 0).trans rfl
          have pf0 := blk_frozen HFN.out.piece 0
          have p1 : We.cell? ⟨w.heap.size, 1, none⟩ = some (.int .u8 0) := (blk_cell HFN.out.piece 1).trans rfl
          have pf1 := blk_frozen HFN.out.piece 1
          have p2 : We.cell? ⟨w.heap.size, 2, none⟩ = some (.bool false) := (blk_cell HFN.out.piece 2).trans rfl
          have pf2 := blk_frozen HFN.out.piece 2
          have p3 : We.cell? ⟨w.heap.size, 3, none⟩ = some (.int .u32 0) := (blk_cell HFN.out.piece 3).trans rfl
          have pf3 := blk_frozen HFN.out.piece 3
          have p4 : We.cell? ⟨w.heap.size, 4, none⟩ = some (.slice none 0 0) := (blk_cell HFN.out.piece 4).trans rfl
          have pf4 := blk_frozen HFN.out.piece 4
          have r0_ : We.cell? ⟨w.heap.size + 1, 0, none⟩ = some (.int .u8 0) := (blk_cell HFN.out.fault 0).trans rfl
          have rf0 := blk_frozen HFN.out.fault 0
          have r1_ : We.cell? ⟨w.heap.size + 1, 1, none⟩ = some (.int .u32 0) := (blk_cell HFN.out.fault 1).trans rfl
          have rf1 := blk_frozen HFN.out.fault 1
          have pl := blk_lt HFN.out.piece
          have rl := blk_lt HFN.out.fault
          go_wp2_with fail
          exact bodyPost_ret (v := .tuple #[.agg #[.bool s1, .int .u8 s2, .bool s3, .int .u32 s4, .slice Ap s5.length cp], .agg #[.int .u8 0, .int .u32 0], .bool true]) (by simp [results, Tryd.results12, go_sem, p0, p1, p2, p3, p4, r0_, r1_]) rfl (NextPost.fin HFN.out)
    · go_simp
      refine hK.out _ _ (NS.mk ((HGc.out.below (below_drew (Below.refl _ _))).below (below_alloc (Below.refl _ _) _))) (fun hHeld => ?_)
      clear hK K
      try simp only [Act.put, List.setIfInBounds_toArray, List.set_cons_zero, List.set_cons_succ]
      have hbx : (W6.alloc (.cells #[.bool false, .int .u8 0, .bool false, .int .u32 0, .slice none 0 0] 31)).heap[W6.heap.size]? = some (.cells #[.bool false, .int .u8 0, .bool false, .int .u32 0, .slice none 0 0] 31 (0, 0)) := last_at W6 _ _ rfl
      have hgn : Ng wb w (W6.alloc (.cells #[.bool false, .int .u8 0, .bool false, .int .u32 0, .slice none 0 0] 31)) g (.slice Av l.length cv) m l := HGc.out.below (below_alloc (Below.refl _ _) _)
      have hlt_gp : w.heap.size + 1 < W6.heap.size := HGc.out.lt
      have hgt_gp : g < W6.heap.size := blk_lt HGc.out.sp.blk
      generalize W6.alloc (.cells #[.bool false, .int .u8 0, .bool false, .int .u32 0, .slice none 0 0] 31) = V8 at hHeld hbx hgn ⊢
      generalize W6.heap.size = gp at hbx hlt_gp hgt_gp ⊢
      clear HGc
      have HGc := Aside0.mk hgn
      have HPb := Aside0.mk hbx
      clear hgn hbx
      refine wpAnyH_ready (rs := [10, 15]) (by kernel_rfl) (by simp) ?_
      refine (AllReadyH.cons rfl (fun K hK => ?_) (AllReadyH.cons rfl (fun K hK => ?_) AllReadyH.nil))
      · go_simp
        go_at_call 18
        with_reducible refine (wsframe_Get.calls kk Av cv tk m s1 s2 s3 s4 s5 s6 s7 _ (HTk.out _ (Kd.R_reads' hHeld.1.out.sp.row).2.2) htc HHG.out (HC.out.below hHeld.1.out.bel)).mono ?_
        rintro e V9 ⟨vp, rfl, ho, hb⟩
        obtain ⟨Ap, cp, rfl⟩ := Kd.R_slice ho
        have HO : Aside0 (Kd.R (Kd.int .u8) 5 V9 w.heap.size (fun _ => True) (.slice Ap s5.length cp) s5) := ⟨Kd.R_lower ho (show w.heap.size ≤ _ from hHeld.1.out.bel.size)⟩
        have HGn : Aside0 (Ng wb w V9 g (.slice Av l.length cv) m l) := ⟨hHeld.1.out.below hb⟩
        have HPbn := Aside0.mk (blk_below (blk_drew HPb.out) hb)
        clear ho hb HGc HPb
        have HGc := HGn
        clear HGn
        have HPb := HPbn
        clear HPbn
        refine hK.out _ _ (NS.mk HGc.out) (fun hHeld => ?_)
        clear hK K
        try simp only [Act.put, List.setIfInBounds_toArray, List.set_cons_zero, List.set_cons_succ]
        refine takeN (i := 11) (N := (some 54)) (v := ?v74) (a' := ?a74) rfl rfl (by kernel_rfl) (by kernel_rfl) (by kernel_rfl) (fun _ _ _ h => h) (Or.inl ⟨by rfl, ?hy74⟩) ?ha74 (by assumption) ?rest74
        case hy74 =>
          intro w_ hSw_
          go_simp
          first | done | (with_reducible rfl)
        case ha74 =>
          simp only [Act.put, List.setIfInBounds_toArray, List.set_cons_zero, List.set_cons_succ]
          rfl
        refine takeN (i := 12) (N := (some 66)) (v := ?v75) (a' := ?a75) rfl rfl (by kernel_rfl) (by kernel_rfl) (by kernel_rfl) (fun _ _ _ h => h) (Or.inl ⟨by rfl, ?hy75⟩) ?ha75 (by assumption) ?rest75
        case hy75 =>
          intro w_ hSw_
          go_simp
          first | done | (with_reducible rfl)
        case ha75 =>
          simp only [Act.put, List.setIfInBounds_toArray, List.set_cons_zero, List.set_cons_succ]
          rfl
        refine takeN (i := 13) (N := (some 67)) (v := ?v76) (a' := ?a76) rfl rfl (by kernel_rfl) (by kernel_rfl) (by kernel_rfl) (fun _ _ _ h => h) (Or.inl ⟨by rfl, ?hy76⟩) ?ha76 (by assumption) ?rest76
        case hy76 =>
          intro w_ hSw_
          go_simp
          first | done | (with_reducible rfl)
        case ha76 =>
          simp only [Act.put, List.setIfInBounds_toArray, List.set_cons_zero, List.set_cons_succ]
          rfl
        refine wpAnyH_ready (rs := [15]) (by kernel_rfl) (by simp) ?_
        refine (AllReadyH.cons rfl (fun K hK => ?_) AllReadyH.nil)
        · go_simp
          refine hK.out _ _ (NS.mk (HGc.out.below (below_alloc (Below.refl _ _) _))) (fun hHeld => ?_)
          clear hK K
          try simp only [Act.put, List.setIfInBounds_toArray, List.set_cons_zero, List.set_cons_succ]
          have hbx : (V9.alloc (.cells #[.int .u8 0, .int .u32 0] 33)).heap[V9.heap.size]? = some (.cells #[.int .u8 0, .int .u32 0] 33 (0, 0)) := last_at V9 _ _ rfl
          have hgn : Ng wb w (V9.alloc (.cells #[.int .u8 0, .int .u32 0] 33)) g (.slice Av l.length cv) m l := HGc.out.below (below_alloc (Below.refl _ _) _)
          have hlt_gf : w.heap.size + 1 < V9.heap.size := HGc.out.lt
          have hgt_gf : g < V9.heap.size := blk_lt HGc.out.sp.blk
          have hne_ : gp < V9.heap.size := blk_lt HPb.out
          have hHPbn := blk_alloc HPb.out (.cells #[.int .u8 0, .int .u32 0] 33)
          have hHOn := Kd.R_alloc HO.out (.cells #[.int .u8 0, .int .u32 0] 33)
          generalize V9.alloc (.cells #[.int .u8 0, .int .u32 0] 33) = V10 at hHeld hbx hgn hHPbn hHOn ⊢
          generalize V9.heap.size = gf at hbx hlt_gf hgt_gf hne_ ⊢
          clear HGc HPb HO
          have HGc := Aside0.mk hgn
          have HFb := Aside0.mk hbx
          clear hgn hbx
          have HPb := Aside0.mk hHPbn
          clear hHPbn
          have HO := Aside0.mk hHOn
          clear hHOn
          have hne : gp ≠ gf := by omega
          have c0_ : V10.cell? ⟨gp, 0, none⟩ = some (.bool false) := (blk_cell HPb.out 0).trans rfl
          have cf0_ := blk_frozen HPb.out 0
          have c1_ : V10.cell? ⟨gp, 1, none⟩ = some (.int .u8 0) := (blk_cell HPb.out 1).trans rfl
          have cf1_ := blk_frozen HPb.out 1
          have c2_ : V10.cell? ⟨gp, 2, none⟩ = some (.bool false) := (blk_cell HPb.out 2).trans rfl
          have cf2_ := blk_frozen HPb.out 2
          have c3_ : V10.cell? ⟨gp, 3, none⟩ = some (.int .u32 0) := (blk_cell HPb.out 3).trans rfl
          have cf3_ := blk_frozen HPb.out 3
          have c4_ : V10.cell? ⟨gp, 4, none⟩ = some (.slice none 0 0) := (blk_cell HPb.out 4).trans rfl
          have cf4_ := blk_frozen HPb.out 4
          have cl_ := blk_lt HPb.out
          refine wpAnyH_ready (rs := [16]) (by kernel_rfl) (by simp) ?_
          refine AllReadyH.cons rfl (fun K hK => ?_) AllReadyH.nil
          go_simp
          refine hK.out _ _ (NS.mk (Ng.put5 HGc.out hlt_gp hgt_gp HPb.out _ _ _ _ _)) (fun hHeld => ?_)
          clear hK K
          try simp only [Act.put, List.setIfInBounds_toArray, List.set_cons_zero, List.set_cons_succ]
          have hgn := Ng.put5 HGc.out hlt_gp hgt_gp HPb.out (.bool s1) (.int .u8 s2) (.bool s3) (.int .u32 s4) (.slice Ap s5.length cp)
          have hbx := put5s HPb.out (.bool s1) (.int .u8 s2) (.bool s3) (.int .u32 s4) (.slice Ap s5.length cp)
          have hfx := (keep5 V10 gp (.bool s1) (.int .u8 s2) (.bool s3) (.int .u32 s4) (.slice Ap s5.length cp) _ hne.symm).trans HFb.out
          have hrx := row5 HO.out HPb.out (.bool s1) (.int .u8 s2) (.bool s3) (.int .u32 s4) (.slice Ap s5.length cp)
          generalize (((((V10.setCell ⟨gp, 0, none⟩ (.bool s1)).setCell ⟨gp, 1, none⟩ (.int .u8 s2)).setCell ⟨gp, 2, none⟩ (.bool s3)).setCell ⟨gp, 3, none⟩ (.int .u32 s4)).setCell ⟨gp, 4, none⟩ (.slice Ap s5.length cp)) = V11 at hHeld hgn hbx hfx hrx ⊢
          clear HGc HPb HFb HO c0_ c1_ c2_ c3_ c4_ cf0_ cf1_ cf2_ cf3_ cf4_ cl_
          have HGc := Aside0.mk hgn
          have HPb := Aside0.mk hbx
          have HFb := Aside0.mk hfx
          have HO := Aside0.mk hrx
          clear hgn hbx hfx hrx
          have c0_ : V11.cell? ⟨gf, 0, none⟩ = some (.int .u8 0) := (blk_cell HFb.out 0).trans rfl
          have cf0_ := blk_frozen HFb.out 0
          have c1_ : V11.cell? ⟨gf, 1, none⟩ = some (.int .u32 0) := (blk_cell HFb.out 1).trans rfl
          have cf1_ := blk_frozen HFb.out 1
          have cl_ := blk_lt HFb.out
          refine wpAnyH_ready (rs := [17]) (by kernel_rfl) (by simp) ?_
          refine AllReadyH.cons rfl (fun K hK => ?_) AllReadyH.nil
          go_simp
          refine hK.out _ _ (NS.mk (Ng.put2 HGc.out hlt_gf hgt_gf HFb.out _ _)) (fun hHeld => ?_)
          clear hK K
          try simp only [Act.put, List.setIfInBounds_toArray, List.set_cons_zero, List.set_cons_succ]
          refine wpAnyH_done (by kernel_rfl) ?_ _
          refine NoPanic.normal ?_
          have hgn := Ng.put2 HGc.out hlt_gf hgt_gf HFb.out (.int .u8 s6) (.int .u32 s7)
          have hbx := (keep2 V11 gf (.int .u8 s6) (.int .u32 s7) _ hne).trans HPb.out
          have hrx := row2 HO.out HFb.out (.int .u8 s6) (.int .u32 s7)
          clear hHeld
          generalize ((V11.setCell ⟨gf, 0, none⟩ (.int .u8 s6)).setCell ⟨gf, 1, none⟩ (.int .u32 s7)) = X11 at hgn hbx hrx ⊢
          clear HGc HPb HFb HO c0_ c1_ cf0_ cf1_ cl_
          have HGc := Aside0.mk hgn
          have HPb := Aside0.mk hbx
          have HO := Aside0.mk hrx
          clear hgn hbx hrx
          have q0 : X11.cell? ⟨g, 0, none⟩ = some (.slice Av l.length cv) := (blk_cell HGc.out.sp.blk 0).trans rfl
          have qf0 := blk_frozen HGc.out.sp.blk 0
          have ql := blk_lt HGc.out.sp.blk
          go_wp2_with fail
          refine (bytes_Clone.calls Ad cd dk dk _ (HDk.out _ (Kd.R_reads' HGc.out.sp.row).2.2) hdc hcl).mono ?_
          rintro e w8 ⟨vd, rfl, hod, hb⟩
          obtain ⟨Ae, ce, rfl⟩ := Kd.R_slice hod
          clear q0 qf0 ql
          have HNE : Aside0 (∀ k, (Value.slice Ap s5.length cp).ownBlock = some k → (Value.slice Ae dk.length ce).ownBlock ≠ some k) := ⟨fun k h1 h2 => absurd (Kd.R_lt HO.out k h1) (Nat.not_lt.mpr (Kd.R_base hod k h2))⟩
          have HG8 : Aside0 (Ng wb w w8 g (.slice Av l.length cv) m l) := ⟨HGc.out.below hb⟩
          have HP8 := Aside0.mk (blk_below HPb.out hb)
          have HO8 := Aside0.mk (Kd.R_below HO.out hb)
          have HD8 := Aside0.mk (Kd.R_lower hod (show w.heap.size ≤ _ from HGc.out.bel.size))
          clear hod hb HGc HPb HO
          have q0 : w8.cell? ⟨g, 0, none⟩ = some (.slice Av l.length cv) := (blk_cell HG8.out.sp.blk 0).trans rfl
          have qf0 := blk_frozen HG8.out.sp.blk 0
          have ql := blk_lt HG8.out.sp.blk
          go_upto_region 13 with fail
          have hfin : Fin wb w (w8.setCell ⟨g, 0, none⟩ (.slice Ae dk.length ce)) g m (.slice Ae dk.length ce) dk (.slice Ap s5.length cp) s5 := Fin.of HG8.out HB.out hgb hgl HD8.out HO8.out HNE.out
          have hbx : (w8.setCell ⟨g, 0, none⟩ (.slice Ae dk.length ce)).heap[gp]? = some (.cells #[.bool s1, .int .u8 s2, .bool s3, .int .u32 s4, .slice Ap s5.length cp] 31 (0, 0)) := (Below.heap_setCell _ _ _ _ (by show gp ≠ g; omega)).trans HP8.out
          generalize (w8.setCell ⟨g, 0, none⟩ (.slice Ae dk.length ce)) = We at hfin hbx ⊢
          clear HG8 HP8 HO8 HD8 q0 qf0 ql
          have HFN := Aside0.mk hfin
          have HPb := Aside0.mk hbx
          clear hfin hbx
          have c0_ : We.cell? ⟨gp, 0, none⟩ = some (.bool s1) := (blk_cell HPb.out 0).trans rfl
          have cf0_ := blk_frozen HPb.out 0
          have c1_ : We.cell? ⟨gp, 1, none⟩ = some (.int .u8 s2) := (blk_cell HPb.out 1).trans rfl
          have cf1_ := blk_frozen HPb.out 1
          have c2_ : We.cell? ⟨gp, 2, none⟩ = some (.bool s3) := (blk_cell HPb.out 2).trans rfl
          have cf2_ := blk_frozen HPb.out 2
          have c3_ : We.cell? ⟨gp, 3, none⟩ = some (.int .u32 s4) := (blk_cell HPb.out 3).trans rfl
          have cf3_ := blk_frozen HPb.out 3
          have c4_ : We.cell? ⟨gp, 4, none⟩ = some (.slice Ap s5.length cp) := (blk_cell HPb.out 4).trans rfl
          have cf4_ := blk_frozen HPb.out 4
          have cl_ := blk_lt HPb.out
          have p0 : We.cell? ⟨w.heap.size, 0, none⟩ = some (.bool false) := (blk_cell HFN.out.piece 0).trans rfl
          have pf0 := blk_frozen HFN.out.piece 0
          have p1 : We.cell? ⟨w.heap.size, 1, none⟩ = some (.int .u8 0) := (blk_cell HFN.out.piece 1).trans rfl
          have pf1 := blk_frozen HFN.out.piece 1
          have p2 : We.cell? ⟨w.heap.size, 2, none⟩ = some (.bool false) := (blk_cell HFN.out.piece 2).trans rfl
          have pf2 := blk_frozen HFN.out.piece 2
          have p3 : We.cell? ⟨w.heap.size, 3, none⟩ = some (.int .u32 0) := (blk_cell HFN.out.piece 3).trans rfl
          have pf3 := blk_frozen HFN.out.piece 3
          have p4 : We.cell? ⟨w.heap.size, 4, none⟩ = some (.slice none 0 0) := (blk_cell HFN.out.piece 4).trans rfl
          have pf4 := blk_frozen HFN.out.piece 4
          have r0_ : We.cell? ⟨w.heap.size + 1, 0, none⟩ = some (.int .u8 0) := (blk_cell HFN.out.fault 0).trans rfl
          have rf0 := blk_frozen HFN.out.fault 0
          have r1_ : We.cell? ⟨w.heap.size + 1, 1, none⟩ = some (.int .u32 0) := (blk_cell HFN.out.fault 1).trans rfl
          have rf1 := blk_frozen HFN.out.fault 1
          have pl := blk_lt HFN.out.piece
          have rl := blk_lt HFN.out.fault
          go_wp2_with fail
          exact bodyPost_ret (v := .tuple #[.agg #[.bool s1, .int .u8 s2, .bool s3, .int .u32 s4, .slice Ap s5.length cp], .agg #[.int .u8 0, .int .u32 0], .bool true]) (by simp [results, Tryd.results12, go_sem, p0, p1, p2, p3, p4, r0_, r1_]) rfl (NextPost.fin HFN.out)
      · go_simp
        refine hK.out _ _ (NS.mk ((HGc.out.below (below_drew (Below.refl _ _))).below (below_alloc (Below.refl _ _) _))) (fun hHeld => ?_)
        clear hK K
        try simp only [Act.put, List.setIfInBounds_toArray, List.set_cons_zero, List.set_cons_succ]
        have hbx : (V8.alloc (.cells #[.int .u8 0, .int .u32 0] 33)).heap[V8.heap.size]? = some (.cells #[.int .u8 0, .int .u32 0] 33 (0, 0)) := last_at V8 _ _ rfl
        have hgn : Ng wb w (V8.alloc (.cells #[.int .u8 0, .int .u32 0] 33)) g (.slice Av l.length cv) m l := HGc.out.below (below_alloc (Below.refl _ _) _)
        have hlt_gf : w.heap.size + 1 < V8.heap.size := HGc.out.lt
        have hgt_gf : g < V8.heap.size := blk_lt HGc.out.sp.blk
        have hne_ : gp < V8.heap.size := blk_lt HPb.out
        have hHPbn := blk_alloc HPb.out (.cells #[.int .u8 0, .int .u32 0] 33)
        generalize V8.alloc (.cells #[.int .u8 0, .int .u32 0] 33) = V12 at hHeld hbx hgn hHPbn ⊢
        generalize V8.heap.size = gf at hbx hlt_gf hgt_gf hne_ ⊢
        clear HGc HPb
        have HGc := Aside0.mk hgn
        have HFb := Aside0.mk hbx
        clear hgn hbx
        have HPb := Aside0.mk hHPbn
        clear hHPbn
        refine wpAnyH_ready (rs := [10]) (by kernel_rfl) (by simp) ?_
        refine (AllReadyH.cons rfl (fun K hK => ?_) AllReadyH.nil)
        · go_simp
          go_at_call 18
          with_reducible refine (wsframe_Get.calls kk Av cv tk m s1 s2 s3 s4 s5 s6 s7 _ (HTk.out _ (Kd.R_reads' hHeld.1.out.sp.row).2.2) htc HHG.out (HC.out.below hHeld.1.out.bel)).mono ?_
          rintro e V13 ⟨vp, rfl, ho, hb⟩
          obtain ⟨Ap, cp, rfl⟩ := Kd.R_slice ho
          have HO : Aside0 (Kd.R (Kd.int .u8) 5 V13 w.heap.size (fun _ => True) (.slice Ap s5.length cp) s5) := ⟨Kd.R_lower ho (show w.heap.size ≤ _ from hHeld.1.out.bel.size)⟩
          have HGn : Aside0 (Ng wb w V13 g (.slice Av l.length cv) m l) := ⟨hHeld.1.out.below hb⟩
          have HPbn := Aside0.mk (blk_below (blk_drew HPb.out) hb)
          have HFbn := Aside0.mk (blk_below (blk_drew HFb.out) hb)
          clear ho hb HGc HPb HFb
          have HGc := HGn
          clear HGn
          have HPb := HPbn
          clear HPbn
          have HFb := HFbn
          clear HFbn
          refine hK.out _ _ (NS.mk HGc.out) (fun hHeld => ?_)
          clear hK K
          try simp only [Act.put, List.setIfInBounds_toArray, List.set_cons_zero, List.set_cons_succ]
          refine takeN (i := 11) (N := (some 54)) (v := ?v77) (a' := ?a77) rfl rfl (by kernel_rfl) (by kernel_rfl) (by kernel_rfl) (fun _ _ _ h => h) (Or.inl ⟨by rfl, ?hy77⟩) ?ha77 (by assumption) ?rest77
          case hy77 =>
            intro w_ hSw_
            go_simp
            first | done | (with_reducible rfl)
          case ha77 =>
            simp only [Act.put, List.setIfInBounds_toArray, List.set_cons_zero, List.set_cons_succ]
            rfl
          refine takeN (i := 12) (N := (some 66)) (v := ?v78) (a' := ?a78) rfl rfl (by kernel_rfl) (by kernel_rfl) (by kernel_rfl) (fun _ _ _ h => h) (Or.inl ⟨by rfl, ?hy78⟩) ?ha78 (by assumption) ?rest78
          case hy78 =>
            intro w_ hSw_
            go_simp
            first | done | (with_reducible rfl)
          case ha78 =>
            simp only [Act.put, List.setIfInBounds_toArray, List.set_cons_zero, List.set_cons_succ]
            rfl
          refine takeN (i := 13) (N := (some 67)) (v := ?v79) (a' := ?a79) rfl rfl (by kernel_rfl) (by kernel_rfl) (by kernel_rfl) (fun _ _ _ h => h) (Or.inl ⟨by rfl, ?hy79⟩) ?ha79 (by assumption) ?rest79
          case hy79 =>
            intro w_ hSw_
            go_simp
            first | done | (with_reducible rfl)
          case ha79 =>
            simp only [Act.put, List.setIfInBounds_toArray, List.set_cons_zero, List.set_cons_succ]
            rfl
          have hne : gp ≠ gf := by omega
          have c0_ : V13.cell? ⟨gp, 0, none⟩ = some (.bool false) := (blk_cell HPb.out 0).trans rfl
          have cf0_ := blk_frozen HPb.out 0
          have c1_ : V13.cell? ⟨gp, 1, none⟩ = some (.int .u8 0) := (blk_cell HPb.out 1).trans rfl
          have cf1_ := blk_frozen HPb.out 1
          have c2_ : V13.cell? ⟨gp, 2, none⟩ = some (.bool false) := (blk_cell HPb.out 2).trans rfl
          have cf2_ := blk_frozen HPb.out 2
          have c3_ : V13.cell? ⟨gp, 3, none⟩ = some (.int .u32 0) := (blk_cell HPb.out 3).trans rfl
          have cf3_ := blk_frozen HPb.out 3
          have c4_ : V13.cell? ⟨gp, 4, none⟩ = some (.slice none 0 0) := (blk_cell HPb.out 4).trans rfl
          have cf4_ := blk_frozen HPb.out 4
          have cl_ := blk_lt HPb.out
          refine wpAnyH_ready (rs := [16]) (by kernel_rfl) (by simp) ?_
          refine AllReadyH.cons rfl (fun K hK => ?_) AllReadyH.nil
          go_simp
          refine hK.out _ _ (NS.mk (Ng.put5 HGc.out hlt_gp hgt_gp HPb.out _ _ _ _ _)) (fun hHeld => ?_)
          clear hK K
          try simp only [Act.put, List.setIfInBounds_toArray, List.set_cons_zero, List.set_cons_succ]
          have hgn := Ng.put5 HGc.out hlt_gp hgt_gp HPb.out (.bool s1) (.int .u8 s2) (.bool s3) (.int .u32 s4) (.slice Ap s5.length cp)
          have hbx := put5s HPb.out (.bool s1) (.int .u8 s2) (.bool s3) (.int .u32 s4) (.slice Ap s5.length cp)
          have hfx := (keep5 V13 gp (.bool s1) (.int .u8 s2) (.bool s3) (.int .u32 s4) (.slice Ap s5.length cp) _ hne.symm).trans HFb.out
          have hrx := row5 HO.out HPb.out (.bool s1) (.int .u8 s2) (.bool s3) (.int .u32 s4) (.slice Ap s5.length cp)
          generalize (((((V13.setCell ⟨gp, 0, none⟩ (.bool s1)).setCell ⟨gp, 1, none⟩ (.int .u8 s2)).setCell ⟨gp, 2, none⟩ (.bool s3)).setCell ⟨gp, 3, none⟩ (.int .u32 s4)).setCell ⟨gp, 4, none⟩ (.slice Ap s5.length cp)) = V14 at hHeld hgn hbx hfx hrx ⊢
          clear HGc HPb HFb HO c0_ c1_ c2_ c3_ c4_ cf0_ cf1_ cf2_ cf3_ cf4_ cl_
          have HGc := Aside0.mk hgn
          have HPb := Aside0.mk hbx
          have HFb := Aside0.mk hfx
          have HO := Aside0.mk hrx
          clear hgn hbx hfx hrx
          have c0_ : V14.cell? ⟨gf, 0, none⟩ = some (.int .u8 0) := (blk_cell HFb.out 0).trans rfl
          have cf0_ := blk_frozen HFb.out 0
          have c1_ : V14.cell? ⟨gf, 1, none⟩ = some (.int .u32 0) := (blk_cell HFb.out 1).trans rfl
          have cf1_ := blk_frozen HFb.out 1
          have cl_ := blk_lt HFb.out
          refine wpAnyH_ready (rs := [17]) (by kernel_rfl) (by simp) ?_
          refine AllReadyH.cons rfl (fun K hK => ?_) AllReadyH.nil
          go_simp
          refine hK.out _ _ (NS.mk (Ng.put2 HGc.out hlt_gf hgt_gf HFb.out _ _)) (fun hHeld => ?_)
          clear hK K
          try simp only [Act.put, List.setIfInBounds_toArray, List.set_cons_zero, List.set_cons_succ]
          refine wpAnyH_done (by kernel_rfl) ?_ _
          refine NoPanic.normal ?_
          have hgn := Ng.put2 HGc.out hlt_gf hgt_gf HFb.out (.int .u8 s6) (.int .u32 s7)
          have hbx := (keep2 V14 gf (.int .u8 s6) (.int .u32 s7) _ hne).trans HPb.out
          have hrx := row2 HO.out HFb.out (.int .u8 s6) (.int .u32 s7)
          clear hHeld
          generalize ((V14.setCell ⟨gf, 0, none⟩ (.int .u8 s6)).setCell ⟨gf, 1, none⟩ (.int .u32 s7)) = X14 at hgn hbx hrx ⊢
          clear HGc HPb HFb HO c0_ c1_ cf0_ cf1_ cl_
          have HGc := Aside0.mk hgn
          have HPb := Aside0.mk hbx
          have HO := Aside0.mk hrx
          clear hgn hbx hrx
          have q0 : X14.cell? ⟨g, 0, none⟩ = some (.slice Av l.length cv) := (blk_cell HGc.out.sp.blk 0).trans rfl
          have qf0 := blk_frozen HGc.out.sp.blk 0
          have ql := blk_lt HGc.out.sp.blk
          go_wp2_with fail
          refine (bytes_Clone.calls Ad cd dk dk _ (HDk.out _ (Kd.R_reads' HGc.out.sp.row).2.2) hdc hcl).mono ?_
          rintro e w8 ⟨vd, rfl, hod, hb⟩
          obtain ⟨Ae, ce, rfl⟩ := Kd.R_slice hod
          clear q0 qf0 ql
          have HNE : Aside0 (∀ k, (Value.slice Ap s5.length cp).ownBlock = some k → (Value.slice Ae dk.length ce).ownBlock ≠ some k) := ⟨fun k h1 h2 => absurd (Kd.R_lt HO.out k h1) (Nat.not_lt.mpr (Kd.R_base hod k h2))⟩
          have HG8 : Aside0 (Ng wb w w8 g (.slice Av l.length cv) m l) := ⟨HGc.out.below hb⟩
          have HP8 := Aside0.mk (blk_below HPb.out hb)
          have HO8 := Aside0.mk (Kd.R_below HO.out hb)
          have HD8 := Aside0.mk (Kd.R_lower hod (show w.heap.size ≤ _ from HGc.out.bel.size))
          clear hod hb HGc HPb HO
          have q0 : w8.cell? ⟨g, 0, none⟩ = some (.slice Av l.length cv) := (blk_cell HG8.out.sp.blk 0).trans rfl
          have qf0 := blk_frozen HG8.out.sp.blk 0
          have ql := blk_lt HG8.out.sp.blk
          go_upto_region 13 with fail
          have hfin : Fin wb w (w8.setCell ⟨g, 0, none⟩ (.slice Ae dk.length ce)) g m (.slice Ae dk.length ce) dk (.slice Ap s5.length cp) s5 := Fin.of HG8.out HB.out hgb hgl HD8.out HO8.out HNE.out
          have hbx : (w8.setCell ⟨g, 0, none⟩ (.slice Ae dk.length ce)).heap[gp]? = some (.cells #[.bool s1, .int .u8 s2, .bool s3, .int .u32 s4, .slice Ap s5.length cp] 31 (0, 0)) := (Below.heap_setCell _ _ _ _ (by show gp ≠ g; omega)).trans HP8.out
          generalize (w8.setCell ⟨g, 0, none⟩ (.slice Ae dk.length ce)) = We at hfin hbx ⊢
          clear HG8 HP8 HO8 HD8 q0 qf0 ql
          have HFN := Aside0.mk hfin
          have HPb := Aside0.mk hbx
          clear hfin hbx
          have c0_ : We.cell? ⟨gp, 0, none⟩ = some (.bool s1) := (blk_cell HPb.out 0).trans rfl
          have cf0_ := blk_frozen HPb.out 0
          have c1_ : We.cell? ⟨gp, 1, none⟩ = some (.int .u8 s2) := (blk_cell HPb.out 1).trans rfl
          have cf1_ := blk_frozen HPb.out 1
          have c2_ : We.cell? ⟨gp, 2, none⟩ = some (.bool s3) := (blk_cell HPb.out 2).trans rfl
          have cf2_ := blk_frozen HPb.out 2
          have c3_ : We.cell? ⟨gp, 3, none⟩ = some (.int .u32 s4) := (blk_cell HPb.out 3).trans rfl
          have cf3_ := blk_frozen HPb.out 3
          have c4_ : We.cell? ⟨gp, 4, none⟩ = some (.slice Ap s5.length cp) := (blk_cell HPb.out 4).trans rfl
          have cf4_ := blk_frozen HPb.out 4
          have cl_ := blk_lt HPb.out
          have p0 : We.cell? ⟨w.heap.size, 0, none⟩ = some (.bool false) := (blk_cell HFN.out.piece 0).trans rfl
          have pf0 := blk_frozen HFN.out.piece 0
          have p1 : We.cell? ⟨w.heap.size, 1, none⟩ = some (.int .u8 0) := (blk_cell HFN.out.piece 1).trans rfl
          have pf1 := blk_frozen HFN.out.piece 1
          have p2 : We.cell? ⟨w.heap.size, 2, none⟩ = some (.bool false) := (blk_cell HFN.out.piece 2).trans rfl
          have pf2 := blk_frozen HFN.out.piece 2
          have p3 : We.cell? ⟨w.heap.size, 3, none⟩ = some (.int .u32 0) := (blk_cell HFN.out.piece 3).trans rfl
          have pf3 := blk_frozen HFN.out.piece 3
          have p4 : We.cell? ⟨w.heap.size, 4, none⟩ = some (.slice none 0 0) := (blk_cell HFN.out.piece 4).trans rfl
          have pf4 := blk_frozen HFN.out.piece 4
          have r0_ : We.cell? ⟨w.heap.size + 1, 0, none⟩ = some (.int .u8 0) := (blk_cell HFN.out.fault 0).trans rfl
          have rf0 := blk_frozen HFN.out.fault 0
          have r1_ : We.cell? ⟨w.heap.size + 1, 1, none⟩ = some (.int .u32 0) := (blk_cell HFN.out.fault 1).trans rfl
          have rf1 := blk_frozen HFN.out.fault 1
          have pl := blk_lt HFN.out.piece
          have rl := blk_lt HFN.out.fault
          go_wp2_with fail
          exact bodyPost_ret (v := .tuple #[.agg #[.bool s1, .int .u8 s2, .bool s3, .int .u32 s4, .slice Ap s5.length cp], .agg #[.int .u8 0, .int .u32 0], .bool true]) (by simp [results, Tryd.results12, go_sem, p0, p1, p2, p3, p4, r0_, r1_]) rfl (NextPost.fin HFN.out)
    · go_simp
      refine hK.out _ _ (NS.mk ((HGc.out.below (below_drew (Below.refl _ _))).below (below_alloc (Below.refl _ _) _))) (fun hHeld => ?_)
      clear hK K
      try simp only [Act.put, List.setIfInBounds_toArray, List.set_cons_zero, List.set_cons_succ]
      have hbx : (W6.alloc (.cells #[.int .u8 0, .int .u32 0] 33)).heap[W6.heap.size]? = some (.cells #[.int .u8 0, .int .u32 0] 33 (0, 0)) := last_at W6 _ _ rfl
      have hgn : Ng wb w (W6.alloc (.cells #[.int .u8 0, .int .u32 0] 33)) g (.slice Av l.length cv) m l := HGc.out.below (below_alloc (Below.refl _ _) _)
      have hlt_gf : w.heap.size + 1 < W6.heap.size := HGc.out.lt
      have hgt_gf : g < W6.heap.size := blk_lt HGc.out.sp.blk
      generalize W6.alloc (.cells #[.int .u8 0, .int .u32 0] 33) = V15 at hHeld hbx hgn ⊢
      generalize W6.heap.size = gf at hbx hlt_gf hgt_gf ⊢
      clear HGc
      have HGc := Aside0.mk hgn
      have HFb := Aside0.mk hbx
      clear hgn hbx
      refine wpAnyH_ready (rs := [10, 14]) (by kernel_rfl) (by simp) ?_
      refine (AllReadyH.cons rfl (fun K hK => ?_) (AllReadyH.cons rfl (fun K hK => ?_) AllReadyH.nil))
      · go_simp
        go_at_call 18
        with_reducible refine (wsframe_Get.calls kk Av cv tk m s1 s2 s3 s4 s5 s6 s7 _ (HTk.out _ (Kd.R_reads' hHeld.1.out.sp.row).2.2) htc HHG.out (HC.out.below hHeld.1.out.bel)).mono ?_
        rintro e V16 ⟨vp, rfl, ho, hb⟩
        obtain ⟨Ap, cp, rfl⟩ := Kd.R_slice ho
        have HO : Aside0 (Kd.R (Kd.int .u8) 5 V16 w.heap.size (fun _ => True) (.slice Ap s5.length cp) s5) := ⟨Kd.R_lower ho (show w.heap.size ≤ _ from hHeld.1.out.bel.size)⟩
        have HGn : Aside0 (Ng wb w V16 g (.slice Av l.length cv) m l) := ⟨hHeld.1.out.below hb⟩
        have HFbn := Aside0.mk (blk_below (blk_drew HFb.out) hb)
        clear ho hb HGc HFb
        have HGc := HGn
        clear HGn
        have HFb := HFbn
        clear HFbn
        refine hK.out _ _ (NS.mk HGc.out) (fun hHeld => ?_)
        clear hK K
        try simp only [Act.put, List.setIfInBounds_toArray, List.set_cons_zero, List.set_cons_succ]
        refine takeN (i := 11) (N := (some 54)) (v := ?v80) (a' := ?a80) rfl rfl (by kernel_rfl) (by kernel_rfl) (by kernel_rfl) (fun _ _ _ h => h) (Or.inl ⟨by rfl, ?hy80⟩) ?ha80 (by assumption) ?rest80
        case hy80 =>
          intro w_ hSw_
          go_simp
          first | done | (with_reducible rfl)
        case ha80 =>
          simp only [Act.put, List.setIfInBounds_toArray, List.set_cons_zero, List.set_cons_succ]
          rfl
        refine takeN (i := 12) (N := (some 66)) (v := ?v81) (a' := ?a81) rfl rfl (by kernel_rfl) (by kernel_rfl) (by kernel_rfl) (fun _ _ _ h => h) (Or.inl ⟨by rfl, ?hy81⟩) ?ha81 (by assumption) ?rest81
        case hy81 =>
          intro w_ hSw_
          go_simp
          first | done | (with_reducible rfl)
        case ha81 =>
          simp only [Act.put, List.setIfInBounds_toArray, List.set_cons_zero, List.set_cons_succ]
          rfl
        refine takeN (i := 13) (N := (some 67)) (v := ?v82) (a' := ?a82) rfl rfl (by kernel_rfl) (by kernel_rfl) (by kernel_rfl) (fun _ _ _ h => h) (Or.inl ⟨by rfl, ?hy82⟩) ?ha82 (by assumption) ?rest82
        case hy82 =>
          intro w_ hSw_
          go_simp
          first | done | (with_reducible rfl)
        case ha82 =>
          simp only [Act.put, List.setIfInBounds_toArray, List.set_cons_zero, List.set_cons_succ]
          rfl
        refine wpAnyH_ready (rs := [14]) (by kernel_rfl) (by simp) ?_
        refine (AllReadyH.cons rfl (fun K hK => ?_) AllReadyH.nil)
        · go_simp
          refine hK.out _ _ (NS.mk (HGc.out.below (below_alloc (Below.refl _ _) _))) (fun hHeld => ?_)
          clear hK K
          try simp only [Act.put, List.setIfInBounds_toArray, List.set_cons_zero, List.set_cons_succ]
          have hbx : (V16.alloc (.cells #[.bool false, .int .u8 0, .bool false, .int .u32 0, .slice none 0 0] 31)).heap[V16.heap.size]? = some (.cells #[.bool false, .int .u8 0, .bool false, .int .u32 0, .slice none 0 0] 31 (0, 0)) := last_at V16 _ _ rfl
          have hgn : Ng wb w (V16.alloc (.cells #[.bool false, .int .u8 0, .bool false, .int .u32 0, .slice none 0 0] 31)) g (.slice Av l.length cv) m l := HGc.out.below (below_alloc (Below.refl _ _) _)
          have hlt_gp : w.heap.size + 1 < V16.heap.size := HGc.out.lt
          have hgt_gp : g < V16.heap.size := blk_lt HGc.out.sp.blk
          have hne_ : gf < V16.heap.size := blk_lt HFb.out
          have hHFbn := blk_alloc HFb.out (.cells #[.bool false, .int .u8 0, .bool false, .int .u32 0, .slice none 0 0] 31)
          have hHOn := Kd.R_alloc HO.out (.cells #[.bool false, .int .u8 0, .bool false, .int .u32 0, .slice none 0 0] 31)
          generalize V16.alloc (.cells #[.bool false, .int .u8 0, .bool false, .int .u32 0, .slice none 0 0] 31) = V17 at hHeld hbx hgn hHFbn hHOn ⊢
          generalize V16.heap.size = gp at hbx hlt_gp hgt_gp hne_ ⊢
          clear HGc HFb HO
          have HGc := Aside0.mk hgn
          have HPb := Aside0.mk hbx
          clear hgn hbx
          have HFb := Aside0.mk hHFbn
          clear hHFbn
          have HO := Aside0.mk hHOn
          clear hHOn
          have hne : gp ≠ gf := by omega
          have c0_ : V17.cell? ⟨gp, 0, none⟩ = some (.bool false) := (blk_cell HPb.out 0).trans rfl
          have cf0_ := blk_frozen HPb.out 0
          have c1_ : V17.cell? ⟨gp, 1, none⟩ = some (.int .u8 0) := (blk_cell HPb.out 1).trans rfl
          have cf1_ := blk_frozen HPb.out 1
          have c2_ : V17.cell? ⟨gp, 2, none⟩ = some (.bool false) := (blk_cell HPb.out 2).trans rfl
          have cf2_ := blk_frozen HPb.out 2
          have c3_ : V17.cell? ⟨gp, 3, none⟩ = some (.int .u32 0) := (blk_cell HPb.out 3).trans rfl
          have cf3_ := blk_frozen HPb.out 3
          have c4_ : V17.cell? ⟨gp, 4, none⟩ = some (.slice none 0 0) := (blk_cell HPb.out 4).trans rfl
          have cf4_ := blk_frozen HPb.out 4
          have cl_ := blk_lt HPb.out
          refine wpAnyH_ready (rs := [16]) (by kernel_rfl) (by simp) ?_
          refine AllReadyH.cons rfl (fun K hK => ?_) AllReadyH.nil
          go_simp
          refine hK.out _ _ (NS.mk (Ng.put5 HGc.out hlt_gp hgt_gp HPb.out _ _ _ _ _)) (fun hHeld => ?_)
          clear hK K
          try simp only [Act.put, List.setIfInBounds_toArray, List.set_cons_zero, List.set_cons_succ]
          have hgn := Ng.put5 HGc.out hlt_gp hgt_gp HPb.out (.bool s1) (.int .u8 s2) (.bool s3) (.int .u32 s4) (.slice Ap s5.length cp)
          have hbx := put5s HPb.out (.bool s1) (.int .u8 s2) (.bool s3) (.int .u32 s4) (.slice Ap s5.length cp)
          have hfx := (keep5 V17 gp (.bool s1) (.int .u8 s2) (.bool s3) (.int .u32 s4) (.slice Ap s5.length cp) _ hne.symm).trans HFb.out
          have hrx := row5 HO.out HPb.out (.bool s1) (.int .u8 s2) (.bool s3) (.int .u32 s4) (.slice Ap s5.length cp)
          generalize (((((V17.setCell ⟨gp, 0, none⟩ (.bool s1)).setCell ⟨gp, 1, none⟩ (.int .u8 s2)).setCell ⟨gp, 2, none⟩ (.bool s3)).setCell ⟨gp, 3, none⟩ (.int .u32 s4)).setCell ⟨gp, 4, none⟩ (.slice Ap s5.length cp)) = V18 at hHeld hgn hbx hfx hrx ⊢
          clear HGc HPb HFb HO c0_ c1_ c2_ c3_ c4_ cf0_ cf1_ cf2_ cf3_ cf4_ cl_
          have HGc := Aside0.mk hgn
          have HPb := Aside0.mk hbx
          have HFb := Aside0.mk hfx
          have HO := Aside0.mk hrx
          clear hgn hbx hfx hrx
          have c0_ : V18.cell? ⟨gf, 0, none⟩ = some (.int .u8 0) := (blk_cell HFb.out 0).trans rfl
          have cf0_ := blk_frozen HFb.out 0
          have c1_ : V18.cell? ⟨gf, 1, none⟩ = some (.int .u32 0) := (blk_cell HFb.out 1).trans rfl
          have cf1_ := blk_frozen HFb.out 1
          have cl_ := blk_lt HFb.out
          refine wpAnyH_ready (rs := [17]) (by kernel_rfl) (by simp) ?_
          refine AllReadyH.cons rfl (fun K hK => ?_) AllReadyH.nil
          go_simp
          refine hK.out _ _ (NS.mk (Ng.put2 HGc.out hlt_gf hgt_gf HFb.out _ _)) (fun hHeld => ?_)
          clear hK K
          try simp only [Act.put, List.setIfInBounds_toArray, List.set_cons_zero, List.set_cons_succ]
          refine wpAnyH_done (by kernel_rfl) ?_ _
          refine NoPanic.normal ?_
          have hgn := Ng.put2 HGc.out hlt_gf hgt_gf HFb.out (.int .u8 s6) (.int .u32 s7)
          have hbx := (keep2 V18 gf (.int .u8 s6) (.int .u32 s7) _ hne).trans HPb.out
          have hrx := row2 HO.out HFb.out (.int .u8 s6) (.int .u32 s7)
          clear hHeld
          generalize ((V18.setCell ⟨gf, 0, none⟩ (.int .u8 s6)).setCell ⟨gf, 1, none⟩ (.int .u32 s7)) = X18 at hgn hbx hrx ⊢
          clear HGc HPb HFb HO c0_ c1_ cf0_ cf1_ cl_
          have HGc := Aside0.mk hgn
          have HPb := Aside0.mk hbx
          have HO := Aside0.mk hrx
          clear hgn hbx hrx
          have q0 : X18.cell? ⟨g, 0, none⟩ = some (.slice Av l.length cv) := (blk_cell HGc.out.sp.blk 0).trans rfl
          have qf0 := blk_frozen HGc.out.sp.blk 0
          have ql := blk_lt HGc.out.sp.blk
          go_wp2_with fail
          refine (bytes_Clone.calls Ad cd dk dk _ (HDk.out _ (Kd.R_reads' HGc.out.sp.row).2.2) hdc hcl).mono ?_
          rintro e w8 ⟨vd, rfl, hod, hb⟩
          obtain ⟨Ae, ce, rfl⟩ := Kd.R_slice hod
          clear q0 qf0 ql
          have HNE : Aside0 (∀ k, (Value.slice Ap s5.length cp).ownBlock = some k → (Value.slice Ae dk.length ce).ownBlock ≠ some k) := ⟨fun k h1 h2 => absurd (Kd.R_lt HO.out k h1) (Nat.not_lt.mpr (Kd.R_base hod k h2))⟩
          have HG8 : Aside0 (Ng wb w w8 g (.slice Av l.length cv) m l) := ⟨HGc.out.below hb⟩
          have HP8 := Aside0.mk (blk_below HPb.out hb)
          have HO8 := Aside0.mk (Kd.R_below HO.out hb)
          have HD8 := Aside0.mk (Kd.R_lower hod (show w.heap.size ≤ _ from HGc.out.bel.size))
          clear hod hb HGc HPb HO
          have q0 : w8.cell? ⟨g, 0, none⟩ = some (.slice Av l.length cv) := (blk_cell HG8.out.sp.blk 0).trans rfl
          have qf0 := blk_frozen HG8.out.sp.blk 0
          have ql := blk_lt HG8.out.sp.blk
          go_upto_region 13 with fail
          have hfin : Fin wb w (w8.setCell ⟨g, 0, none⟩ (.slice Ae dk.length ce)) g m (.slice Ae dk.length ce) dk (.slice Ap s5.length cp) s5 := Fin.of HG8.out HB.out hgb hgl HD8.out HO8.out HNE.out
          have hbx : (w8.setCell ⟨g, 0, none⟩ (.slice Ae dk.length ce)).heap[gp]? = some (.cells #[.bool s1, .int .u8 s2, .bool s3, .int .u32 s4, .slice Ap s5.length cp] 31 (0, 0)) := (Below.heap_setCell _ _ _ _ (by show gp ≠ g; omega)).trans HP8.out
          generalize (w8.setCell ⟨g, 0, none⟩ (.slice Ae dk.length ce)) = We at hfin hbx ⊢
          clear HG8 HP8 HO8 HD8 q0 qf0 ql
          have HFN := Aside0.mk hfin
          have HPb := Aside0.mk hbx
          clear hfin hbx
          have c0_ : We.cell? ⟨gp, 0, none⟩ = some (.bool s1) := (blk_cell HPb.out 0).trans rfl
          have cf0_ := blk_frozen HPb.out 0
          have c1_ : We.cell? ⟨gp, 1, none⟩ = some (.int .u8 s2) := (blk_cell HPb.out 1).trans rfl
          have cf1_ := blk_frozen HPb.out 1
          have c2_ : We.cell? ⟨gp, 2, none⟩ = some (.bool s3) := (blk_cell HPb.out 2).trans rfl
          have cf2_ := blk_frozen HPb.out 2
          have c3_ : We.cell? ⟨gp, 3, none⟩ = some (.int .u32 s4) := (blk_cell HPb.out 3).trans rfl
          have cf3_ := blk_frozen HPb.out 3
          have c4_ : We.cell? ⟨gp, 4, none⟩ = some (.slice Ap s5.length cp) := (blk_cell HPb.out 4).trans rfl
          have cf4_ := blk_frozen HPb.out 4
          have cl_ := blk_lt HPb.out
          have p0 : We.cell? ⟨w.heap.size, 0, none⟩ = some (.bool false) := (blk_cell HFN.out.piece 0).trans rfl
          have pf0 := blk_frozen HFN.out.piece 0
          have p1 : We.cell? ⟨w.heap.size, 1, none⟩ = some (.int .u8 0) := (blk_cell HFN.out.piece 1).trans rfl
          have pf1 := blk_frozen HFN.out.piece 1
          have p2 : We.cell? ⟨w.heap.size, 2, none⟩ = some (.bool false) := (blk_cell HFN.out.piece 2).trans rfl
          have pf2 := blk_frozen HFN.out.piece 2
          have p3 : We.cell? ⟨w.heap.size, 3, none⟩ = some (.int .u32 0) := (blk_cell HFN.out.piece 3).trans rfl
          have pf3 := blk_frozen HFN.out.piece 3
          have p4 : We.cell? ⟨w.heap.size, 4, none⟩ = some (.slice none 0 0) := (blk_cell HFN.out.piece 4).trans rfl
          have pf4 := blk_frozen HFN.out.piece 4
          have r0_ : We.cell? ⟨w.heap.size + 1, 0, none⟩ = some (.int .u8 0) := (blk_cell HFN.out.fault 0).trans rfl
          have rf0 := blk_frozen HFN.out.fault 0
          have r1_ : We.cell? ⟨w.heap.size + 1, 1, none⟩ = some (.int .u32 0) := (blk_cell HFN.out.fault 1).trans rfl
          have rf1 := blk_frozen HFN.out.fault 1
          have pl := blk_lt HFN.out.piece
          have rl := blk_lt HFN.out.fault
          go_wp2_with fail
          exact bodyPost_ret (v := .tuple #[.agg #[.bool s1, .int .u8 s2, .bool s3, .int .u32 s4, .slice Ap s5.length cp], .agg #[.int .u8 0, .int .u32 0], .bool true]) (by simp [results, Tryd.results12, go_sem, p0, p1, p2, p3, p4, r0_, r1_]) rfl (NextPost.fin HFN.out)
      · go_simp
        refine hK.out _ _ (NS.mk ((HGc.out.below (below_drew (Below.refl _ _))).below (below_alloc (Below.refl _ _) _))) (fun hHeld => ?_)
        clear hK K
        try simp only [Act.put, List.setIfInBounds_toArray, List.set_cons_zero, List.set_cons_succ]
        have hbx : (V15.alloc (.cells #[.bool false, .int .u8 0, .bool false, .int .u32 0, .slice none 0 0] 31)).heap[V15.heap.size]? = some (.cells #[.bool false, .int .u8 0, .bool false, .int .u32 0, .slice none 0 0] 31 (0, 0)) := last_at V15 _ _ rfl
        have hgn : Ng wb w (V15.alloc (.cells #[.bool false, .int .u8 0, .bool false, .int .u32 0, .slice none 0 0] 31)) g (.slice Av l.length cv) m l := HGc.out.below (below_alloc (Below.refl _ _) _)
        have hlt_gp : w.heap.size + 1 < V15.heap.size := HGc.out.lt
        have hgt_gp : g < V15.heap.size := blk_lt HGc.out.sp.blk
        have hne_ : gf < V15.heap.size := blk_lt HFb.out
        have hHFbn := blk_alloc HFb.out (.cells #[.bool false, .int .u8 0, .bool false, .int .u32 0, .slice none 0 0] 31)
        generalize V15.alloc (.cells #[.bool false, .int .u8 0, .bool false, .int .u32 0, .slice none 0 0] 31) = V19 at hHeld hbx hgn hHFbn ⊢
        generalize V15.heap.size = gp at hbx hlt_gp hgt_gp hne_ ⊢
        clear HGc HFb
        have HGc := Aside0.mk hgn
        have HPb := Aside0.mk hbx
        clear hgn hbx
        have HFb := Aside0.mk hHFbn
        clear hHFbn
        refine wpAnyH_ready (rs := [10]) (by kernel_rfl) (by simp) ?_
        refine (AllReadyH.cons rfl (fun K hK => ?_) AllReadyH.nil)
        · go_simp
          go_at_call 18
          with_reducible refine (wsframe_Get.calls kk Av cv tk m s1 s2 s3 s4 s5 s6 s7 _ (HTk.out _ (Kd.R_reads' hHeld.1.out.sp.row).2.2) htc HHG.out (HC.out.below hHeld.1.out.bel)).mono ?_
          rintro e V20 ⟨vp, rfl, ho, hb⟩
          obtain ⟨Ap, cp, rfl⟩ := Kd.R_slice ho
          have HO : Aside0 (Kd.R (Kd.int .u8) 5 V20 w.heap.size (fun _ => True) (.slice Ap s5.length cp) s5) := ⟨Kd.R_lower ho (show w.heap.size ≤ _ from hHeld.1.out.bel.size)⟩
          have HGn : Aside0 (Ng wb w V20 g (.slice Av l.length cv) m l) := ⟨hHeld.1.out.below hb⟩
          have HPbn := Aside0.mk (blk_below (blk_drew HPb.out) hb)
          have HFbn := Aside0.mk (blk_below (blk_drew HFb.out) hb)
          clear ho hb HGc HPb HFb
          have HGc := HGn
          clear HGn
          have HPb := HPbn
          clear HPbn
          have HFb := HFbn
          clear HFbn
          refine hK.out _ _ (NS.mk HGc.out) (fun hHeld => ?_)
          clear hK K
          try simp only [Act.put, List.setIfInBounds_toArray, List.set_cons_zero, List.set_cons_succ]
          refine takeN (i := 11) (N := (some 54)) (v := ?v83) (a' := ?a83) rfl rfl (by kernel_rfl) (by kernel_rfl) (by kernel_rfl) (fun _ _ _ h => h) (Or.inl ⟨by rfl, ?hy83⟩) ?ha83 (by assumption) ?rest83
          case hy83 =>
            intro w_ hSw_
            go_simp
            first | done | (with_reducible rfl)
          case ha83 =>
            simp only [Act.put, List.setIfInBounds_toArray, List.set_cons_zero, List.set_cons_succ]
            rfl
          refine takeN (i := 12) (N := (some 66)) (v := ?v84) (a' := ?a84) rfl rfl (by kernel_rfl) (by kernel_rfl) (by kernel_rfl) (fun _ _ _ h => h) (Or.inl ⟨by rfl, ?hy84⟩) ?ha84 (by assumption) ?rest84
          case hy84 =>
            intro w_ hSw_
            go_simp
            first | done | (with_reducible rfl)
          case ha84 =>
            simp only [Act.put, List.setIfInBounds_toArray, List.set_cons_zero, List.set_cons_succ]
            rfl
          refine takeN (i := 13) (N := (some 67)) (v := ?v85) (a' := ?a85) rfl rfl (by kernel_rfl) (by kernel_rfl) (by kernel_rfl) (fun _ _ _ h => h) (Or.inl ⟨by rfl, ?hy85⟩) ?ha85 (by assumption) ?rest85
          case hy85 =>
            intro w_ hSw_
            go_simp
            first | done | (with_reducible rfl)
          case ha85 =>
            simp only [Act.put, List.setIfInBounds_toArray, List.set_cons_zero, List.set_cons_succ]
            rfl
          have hne : gp ≠ gf := by omega
          have c0_ : V20.cell? ⟨gp, 0, none⟩ = some (.bool false) := (blk_cell HPb.out 0).trans rfl
          have cf0_ := blk_frozen HPb.out 0
          have c1_ : V20.cell? ⟨gp, 1, none⟩ = some (.int .u8 0) := (blk_cell HPb.out 1).trans rfl
          have cf1_ := blk_frozen HPb.out 1
          have c2_ : V20.cell? ⟨gp, 2, none⟩ = some (.bool false) := (blk_cell HPb.out 2).trans rfl
          have cf2_ := blk_frozen HPb.out 2
          have c3_ : V20.cell? ⟨gp, 3, none⟩ = some (.int .u32 0) := (blk_cell HPb.out 3).trans rfl
          have cf3_ := blk_frozen HPb.out 3
          have c4_ : V20.cell? ⟨gp, 4, none⟩ = some (.slice none 0 0) := (blk_cell HPb.out 4).trans rfl
          have cf4_ := blk_frozen HPb.out 4
          have cl_ := blk_lt HPb.out
          refine wpAnyH_ready (rs := [16]) (by kernel_rfl) (by simp) ?_
          refine AllReadyH.cons rfl (fun K hK => ?_) AllReadyH.nil
          go_simp
          refine hK.out _ _ (NS.mk (Ng.put5 HGc.out hlt_gp hgt_gp HPb.out _ _ _ _ _)) (fun hHeld => ?_)
          clear hK K
          try simp only [Act.put, List.setIfInBounds_toArray, List.set_cons_zero, List.set_cons_succ]
          have hgn := Ng.put5 HGc.out hlt_gp hgt_gp HPb.out (.bool s1) (.int .u8 s2) (.bool s3) (.int .u32 s4) (.slice Ap s5.length cp)
          have hbx := put5s HPb.out (.bool s1) (.int .u8 s2) (.bool s3) (.int .u32 s4) (.slice Ap s5.length cp)
          have hfx := (keep5 V20 gp (.bool s1) (.int .u8 s2) (.bool s3) (.int .u32 s4) (.slice Ap s5.length cp) _ hne.symm).trans HFb.out
          have hrx := row5 HO.out HPb.out (.bool s1) (.int .u8 s2) (.bool s3) (.int .u32 s4) (.slice Ap s5.length cp)
          generalize (((((V20.setCell ⟨gp, 0, none⟩ (.bool s1)).setCell ⟨gp, 1, none⟩ (.int .u8 s2)).setCell ⟨gp, 2, none⟩ (.bool s3)).setCell ⟨gp, 3, none⟩ (.int .u32 s4)).setCell ⟨gp, 4, none⟩ (.slice Ap s5.length cp)) = V21 at hHeld hgn hbx hfx hrx ⊢
          clear HGc HPb HFb HO c0_ c1_ c2_ c3_ c4_ cf0_ cf1_ cf2_ cf3_ cf4_ cl_
          have HGc := Aside0.mk hgn
          have HPb := Aside0.mk hbx
          have HFb := Aside0.mk hfx
          have HO := Aside0.mk hrx
          clear hgn hbx hfx hrx
          have c0_ : V21.cell? ⟨gf, 0, none⟩ = some (.int .u8 0) := (blk_cell HFb.out 0).trans rfl
          have cf0_ := blk_frozen HFb.out 0
          have c1_ : V21.cell? ⟨gf, 1, none⟩ = some (.int .u32 0) := (blk_cell HFb.out 1).trans rfl
          have cf1_ := blk_frozen HFb.out 1
          have cl_ := blk_lt HFb.out
          refine wpAnyH_ready (rs := [17]) (by kernel_rfl) (by simp) ?_
          refine AllReadyH.cons rfl (fun K hK => ?_) AllReadyH.nil
          go_simp
          refine hK.out _ _ (NS.mk (Ng.put2 HGc.out hlt_gf hgt_gf HFb.out _ _)) (fun hHeld => ?_)
          clear hK K
          try simp only [Act.put, List.setIfInBounds_toArray, List.set_cons_zero, List.set_cons_succ]
          refine wpAnyH_done (by kernel_rfl) ?_ _
          refine NoPanic.normal ?_
          have hgn := Ng.put2 HGc.out hlt_gf hgt_gf HFb.out (.int .u8 s6) (.int .u32 s7)
          have hbx := (keep2 V21 gf (.int .u8 s6) (.int .u32 s7) _ hne).trans HPb.out
          have hrx := row2 HO.out HFb.out (.int .u8 s6) (.int .u32 s7)
          clear hHeld
          generalize ((V21.setCell ⟨gf, 0, none⟩ (.int .u8 s6)).setCell ⟨gf, 1, none⟩ (.int .u32 s7)) = X21 at hgn hbx hrx ⊢
          clear HGc HPb HFb HO c0_ c1_ cf0_ cf1_ cl_
          have HGc := Aside0.mk hgn
          have HPb := Aside0.mk hbx
          have HO := Aside0.mk hrx
          clear hgn hbx hrx
          have q0 : X21.cell? ⟨g, 0, none⟩ = some (.slice Av l.length cv) := (blk_cell HGc.out.sp.blk 0).trans rfl
          have qf0 := blk_frozen HGc.out.sp.blk 0
          have ql := blk_lt HGc.out.sp.blk
          go_wp2_with fail
          refine (bytes_Clone.calls Ad cd dk dk _ (HDk.out _ (Kd.R_reads' HGc.out.sp.row).2.2) hdc hcl).mono ?_
          rintro e w8 ⟨vd, rfl, hod, hb⟩
          obtain ⟨Ae, ce, rfl⟩ := Kd.R_slice hod
          clear q0 qf0 ql
          have HNE : Aside0 (∀ k, (Value.slice Ap s5.length cp).ownBlock = some k → (Value.slice Ae dk.length ce).ownBlock ≠ some k) := ⟨fun k h1 h2 => absurd (Kd.R_lt HO.out k h1) (Nat.not_lt.mpr (Kd.R_base hod k h2))⟩
          have HG8 : Aside0 (Ng wb w w8 g (.slice Av l.length cv) m l) := ⟨HGc.out.below hb⟩
          have HP8 := Aside0.mk (blk_below HPb.out hb)
          have HO8 := Aside0.mk (Kd.R_below HO.out hb)
          have HD8 := Aside0.mk (Kd.R_lower hod (show w.heap.size ≤ _ from HGc.out.bel.size))
          clear hod hb HGc HPb HO
          have q0 : w8.cell? ⟨g, 0, none⟩ = some (.slice Av l.length cv) := (blk_cell HG8.out.sp.blk 0).trans rfl
          have qf0 := blk_frozen HG8.out.sp.blk 0
          have ql := blk_lt HG8.out.sp.blk
          go_upto_region 13 with fail
          have hfin : Fin wb w (w8.setCell ⟨g, 0, none⟩ (.slice Ae dk.length ce)) g m (.slice Ae dk.length ce) dk (.slice Ap s5.length cp) s5 := Fin.of HG8.out HB.out hgb hgl HD8.out HO8.out HNE.out
          have hbx : (w8.setCell ⟨g, 0, none⟩ (.slice Ae dk.length ce)).heap[gp]? = some (.cells #[.bool s1, .int .u8 s2, .bool s3, .int .u32 s4, .slice Ap s5.length cp] 31 (0, 0)) := (Below.heap_setCell _ _ _ _ (by show gp ≠ g; omega)).trans HP8.out
          generalize (w8.setCell ⟨g, 0, none⟩ (.slice Ae dk.length ce)) = We at hfin hbx ⊢
          clear HG8 HP8 HO8 HD8 q0 qf0 ql
          have HFN := Aside0.mk hfin
          have HPb := Aside0.mk hbx
          clear hfin hbx
          have c0_ : We.cell? ⟨gp, 0, none⟩ = some (.bool s1) := (blk_cell HPb.out 0).trans rfl
          have cf0_ := blk_frozen HPb.out 0
          have c1_ : We.cell? ⟨gp, 1, none⟩ = some (.int .u8 s2) := (blk_cell HPb.out 1).trans rfl
          have cf1_ := blk_frozen HPb.out 1
          have c2_ : We.cell? ⟨gp, 2, none⟩ = some (.bool s3) := (blk_cell HPb.out 2).trans rfl
          have cf2_ := blk_frozen HPb.out 2
          have c3_ : We.cell? ⟨gp, 3, none⟩ = some (.int .u32 s4) := (blk_cell HPb.out 3).trans rfl
          have cf3_ := blk_frozen HPb.out 3
          have c4_ : We.cell? ⟨gp, 4, none⟩ = some (.slice Ap s5.length cp) := (blk_cell HPb.out 4).trans rfl
          have cf4_ := blk_frozen HPb.out 4
          have cl_ := blk_lt HPb.out
          have p0 : We.cell? ⟨w.heap.size, 0, none⟩ = some (.bool false) := (blk_cell HFN.out.piece 0).trans rfl
          have pf0 := blk_frozen HFN.out.piece 0
          have p1 : We.cell? ⟨w.heap.size, 1, none⟩ = some (.int .u8 0) := (blk_cell HFN.out.piece 1).trans rfl
          have pf1 := blk_frozen HFN.out.piece 1
          have p2 : We.cell? ⟨w.heap.size, 2, none⟩ = some (.bool false) := (blk_cell HFN.out.piece 2).trans rfl
          have pf2 := blk_frozen HFN.out.piece 2
          have p3 : We.cell? ⟨w.heap.size, 3, none⟩ = some (.int .u32 0) := (blk_cell HFN.out.piece 3).trans rfl
          have pf3 := blk_frozen HFN.out.piece 3
          have p4 : We.cell? ⟨w.heap.size, 4, none⟩ = some (.slice none 0 0) := (blk_cell HFN.out.piece 4).trans rfl
          have pf4 := blk_frozen HFN.out.piece 4
          have r0_ : We.cell? ⟨w.heap.size + 1, 0, none⟩ = some (.int .u8 0) := (blk_cell HFN.out.fault 0).trans rfl
          have rf0 := blk_frozen HFN.out.fault 0
          have r1_ : We.cell? ⟨w.heap.size + 1, 1, none⟩ = some (.int .u32 0) := (blk_cell HFN.out.fault 1).trans rfl
          have rf1 := blk_frozen HFN.out.fault 1
          have pl := blk_lt HFN.out.piece
          have rl := blk_lt HFN.out.fault
          go_wp2_with fail
          exact bodyPost_ret (v := .tuple #[.agg #[.bool s1, .int .u8 s2, .bool s3, .int .u32 s4, .slice Ap s5.length cp], .agg #[.int .u8 0, .int .u32 0], .bool true]) (by simp [results, Tryd.results12, go_sem, p0, p1, p2, p3, p4, r0_, r1_]) rfl (NextPost.fin HFN.out)
  · have HW1 := Aside0.mk hHeld.1.out
    go_simp
    refine hK.out _ _ (NS.mk (HW1.out.below (below_alloc (Below.refl _ _) _))) (fun hHeld => ?_)
    clear hK K
    try simp only [Act.put, List.setIfInBounds_toArray, List.set_cons_zero, List.set_cons_succ]
    refine wpAnyH_ready (rs := [8]) (by kernel_rfl) (by simp) ?_
    refine AllReadyH.cons rfl (fun K hK => ?_) AllReadyH.nil
    go_simp
    go_at_call 17
    with_reducible refine (wsframe_Head.calls Av cv l m r1 0 0 true _ (Kd.R_reads' hHeld.1.out.sp.row).2.2 (Kd.R_reads' hHeld.1.out.sp.row).2.1 HH.out (HC.out.below hHeld.1.out.bel)).mono ?_
    rintro e w2 ⟨rfl, hb⟩
    have HG2 := Aside0.mk (hHeld.1.out.below hb)
    have hbx : w2.heap[w1.heap.size]? = some (.cells #[.int .u8 0, .int .u32 0] 33 (0, 0)) := blk_below (blk_drew (last_at w1 _ _ rfl)) hb
    have bc0 : w2.cell? ⟨w1.heap.size, 0, none⟩ = some (.int .u8 0) := (blk_cell hbx 0).trans rfl
    have bf0 := blk_frozen hbx 0
    have bc1 : w2.cell? ⟨w1.heap.size, 1, none⟩ = some (.int .u32 0) := (blk_cell hbx 1).trans rfl
    have bf1 := blk_frozen hbx 1
    have bl := blk_lt hbx
    have hgl2 : w.heap.size + 1 < w1.heap.size := HN0.out.lt
    have hgl3 : g < w1.heap.size := blk_lt HN0.out.sp.blk
    have HBX := Aside0.mk hbx
    clear hbx
    clear hb
    refine hK.out _ _ (NS.mk HG2.out) (fun hHeld => ?_)
    clear hK K
    try simp only [Act.put, List.setIfInBounds_toArray, List.set_cons_zero, List.set_cons_succ]
    refine takeN (i := 9) (N := (some 14)) (v := ?v55) (a' := ?a55) rfl rfl (by kernel_rfl) (by kernel_rfl) (by kernel_rfl) (fun _ _ _ h => h) (Or.inl ⟨by rfl, ?hy55⟩) ?ha55 (by assumption) ?rest55
    case hy55 =>
      intro w_ hSw_
      go_simp
      first | done | (with_reducible rfl)
    case ha55 =>
      simp only [Act.put, List.setIfInBounds_toArray, List.set_cons_zero, List.set_cons_succ]
      rfl
    refine takeN (i := 10) (N := (some 24)) (v := ?v56) (a' := ?a56) rfl rfl (by kernel_rfl) (by kernel_rfl) (by kernel_rfl) (fun _ _ _ h => h) (Or.inl ⟨by rfl, ?hy56⟩) ?ha56 (by assumption) ?rest56
    case hy56 =>
      intro w_ hSw_
      go_simp
      first | done | (with_reducible rfl)
    case ha56 =>
      simp only [Act.put, List.setIfInBounds_toArray, List.set_cons_zero, List.set_cons_succ]
      rfl
    refine takeN (i := 11) (N := (some 25)) (v := ?v57) (a' := ?a57) rfl rfl (by kernel_rfl) (by kernel_rfl) (by kernel_rfl) (fun _ _ _ h => h) (Or.inl ⟨by rfl, ?hy57⟩) ?ha57 (by assumption) ?rest57
    case hy57 =>
      intro w_ hSw_
      go_simp
      first | done | (with_reducible rfl)
    case ha57 =>
      simp only [Act.put, List.setIfInBounds_toArray, List.set_cons_zero, List.set_cons_succ]
      rfl
    refine takeN (i := 12) (N := (some 26)) (v := ?v58) (a' := ?a58) rfl rfl (by kernel_rfl) (by kernel_rfl) (by kernel_rfl) (fun _ _ _ h => h) (Or.inl ⟨by rfl, ?hy58⟩) ?ha58 (by assumption) ?rest58
    case hy58 =>
      intro w_ hSw_
      go_simp
      first | done | (with_reducible rfl)
    case ha58 =>
      simp only [Act.put, List.setIfInBounds_toArray, List.set_cons_zero, List.set_cons_succ]
      rfl
    refine takeN (i := 14) (N := (some 5)) (v := ?v59) (a' := ?a59) rfl rfl (by kernel_rfl) (by kernel_rfl) (by kernel_rfl) (fun _ _ _ h => h) (Or.inl ⟨by rfl, ?hy59⟩) ?ha59 (by assumption) ?rest59
    case hy59 =>
      intro w_ hSw_
      go_simp
      first | done | (with_reducible rfl)
    case ha59 =>
      simp only [Act.put, List.setIfInBounds_toArray, List.set_cons_zero, List.set_cons_succ]
      rfl
    refine wpAnyH_ready (rs := [15]) (by kernel_rfl) (by simp) ?_
    refine AllReadyH.cons rfl (fun K hK => ?_) AllReadyH.nil
    go_simp
    refine hK.out _ _ (NS.mk (Ng.put2 HG2.out hgl2 hgl3 HBX.out _ _)) (fun hHeld => ?_)
    clear hK K
    try simp only [Act.put, List.setIfInBounds_toArray, List.set_cons_zero, List.set_cons_succ]
    refine takeN (i := 16) (N := (some 7)) (v := ?v60) (a' := ?a60) rfl rfl (by kernel_rfl) (by kernel_rfl) (by kernel_rfl) (fun _ _ _ h => h) (Or.inl ⟨by rfl, ?hy60⟩) ?ha60 (by assumption) ?rest60
    case hy60 =>
      intro w_ hSw_
      go_simp
      first | done | (with_reducible rfl)
    case ha60 =>
      simp only [Act.put, List.setIfInBounds_toArray, List.set_cons_zero, List.set_cons_succ]
      rfl
    refine wpAnyH_done (by kernel_rfl) ?_ _
    refine NoPanic.normal ?_
    have hG6 := hHeld.1.out
    clear hHeld bc0 bc1 bf0 bf1 bl
    have hbox := blk_put (blk_put HBX.out 0 (.int .u8 0) rfl) 1 (.int .u32 0) rfl
    generalize ((w2.setCell ⟨w1.heap.size, 0, none⟩ (.int .u8 0)).setCell ⟨w1.heap.size, 1, none⟩ (.int .u32 0)) = W6 at hG6 hbox ⊢
    generalize w1.heap.size = gb at hbox hgl2 ⊢
    clear HG2 HN0
    have HG := Aside0.mk hG6
    have HBX6 := Aside0.mk hbox
    have k0 : W6.cell? ⟨gb, 0, none⟩ = some (.int .u8 0) := (blk_cell hbox 0).trans rfl
    have k1 : W6.cell? ⟨gb, 1, none⟩ = some (.int .u32 0) := (blk_cell hbox 1).trans rfl
    have kf0 := blk_frozen hbox 0
    have kf1 := blk_frozen hbox 1
    have kl := blk_lt hbox
    clear hG6 hbox
    have p0 : W6.cell? ⟨w.heap.size, 0, none⟩ = some (.bool false) := (blk_cell HG.out.piece 0).trans rfl
    have pf0 := blk_frozen HG.out.piece 0
    have p1 : W6.cell? ⟨w.heap.size, 1, none⟩ = some (.int .u8 0) := (blk_cell HG.out.piece 1).trans rfl
    have pf1 := blk_frozen HG.out.piece 1
    have p2 : W6.cell? ⟨w.heap.size, 2, none⟩ = some (.bool false) := (blk_cell HG.out.piece 2).trans rfl
    have pf2 := blk_frozen HG.out.piece 2
    have p3 : W6.cell? ⟨w.heap.size, 3, none⟩ = some (.int .u32 0) := (blk_cell HG.out.piece 3).trans rfl
    have pf3 := blk_frozen HG.out.piece 3
    have p4 : W6.cell? ⟨w.heap.size, 4, none⟩ = some (.slice none 0 0) := (blk_cell HG.out.piece 4).trans rfl
    have pf4 := blk_frozen HG.out.piece 4
    have r0_ : W6.cell? ⟨w.heap.size + 1, 0, none⟩ = some (.int .u8 0) := (blk_cell HG.out.fault 0).trans rfl
    have rf0 := blk_frozen HG.out.fault 0
    have r1_ : W6.cell? ⟨w.heap.size + 1, 1, none⟩ = some (.int .u32 0) := (blk_cell HG.out.fault 1).trans rfl
    have rf1 := blk_frozen HG.out.fault 1
    have pl := blk_lt HG.out.piece
    have rl := blk_lt HG.out.fault
    have q0 : W6.cell? ⟨g, 0, none⟩ = some (.slice Av l.length cv) := (blk_cell HG.out.sp.blk 0).trans rfl
    have q1 : W6.cell? ⟨g, 1, none⟩ = some (.bool m) := (blk_cell HG.out.sp.blk 1).trans rfl
    have hle0 : w.heap.size ≤ w.heap.size := Nat.le_refl _
    have hle1 : w.heap.size ≤ w.heap.size + 1 := by omega
    have hgt : decide ((l.length : Int) < r1) = false := decide_eq_false (by omega)
    go_upto_region 11 with fail
    clear k0 k1 kf0 kf1 kl p0 p1 p2 p3 p4 pf0 pf1 pf2 pf3 pf4 r0_ r1_ rf0 rf1 pl rl q0 q1 hle0 hle1 HBX6
    have HGc := HG
    clear HG
    refine wp_region_noPanic ?_
    refine wp_region_held_drew (S := fun w' => Aside0 (Ng wb w w' g (.slice Av l.length cv) m l) ∧ w'.cell? ⟨g, 0, none⟩ = some (.slice Av l.length cv) ∧ w'.cell? ⟨g, 1, none⟩ = some (.bool m)) (by kernel_rfl) (NS.mk (HGc.out.below (below_drew (Below.refl _ _)))) (fun hHeld => ?_)
    refine takeN (i := 0) (N := (some 55)) (v := ?v86) (a' := ?a86) rfl rfl (by kernel_rfl) (by kernel_rfl) (by kernel_rfl) (fun _ _ _ h => h) (Or.inl ⟨by rfl, ?hy86⟩) ?ha86 (by assumption) ?rest86
    case hy86 =>
      intro w_ hSw_
      go_simp
      first | done | (with_reducible rfl)
    case ha86 =>
      simp only [Act.put, List.setIfInBounds_toArray, List.set_cons_zero, List.set_cons_succ]
      rfl
    refine takeN (i := 1) (N := (some 56)) (v := ?v87) (a' := ?a87) rfl rfl (by kernel_rfl) (by kernel_rfl) (by kernel_rfl) (fun _ _ _ h => h) (Or.inl ⟨by rfl, ?hy87⟩) ?ha87 (by assumption) ?rest87
    case hy87 =>
      intro w_ hSw_
      go_simp
      first | done | (with_reducible rfl)
    case ha87 =>
      simp only [Act.put, List.setIfInBounds_toArray, List.set_cons_zero, List.set_cons_succ]
      rfl
    refine takeN (i := 2) (N := (some 57)) (v := ?v88) (a' := ?a88) rfl rfl (by kernel_rfl) (by kernel_rfl) (by kernel_rfl) (fun _ _ _ h => h) (Or.inl ⟨by rfl, ?hy88⟩) ?ha88 (by assumption) ?rest88
    case hy88 =>
      intro w_ hSw_
      go_simp
      first | done | (with_reducible rfl)
    case ha88 =>
      simp only [Act.put, List.setIfInBounds_toArray, List.set_cons_zero, List.set_cons_succ]
      rfl
    refine takeN (i := 3) (N := (some 58)) (v := ?v89) (a' := ?a89) rfl rfl (by kernel_rfl) (by kernel_rfl) (by kernel_rfl) (fun _ _ _ h => h) (Or.inl ⟨by rfl, ?hy89⟩) ?ha89 (by assumption) ?rest89
    case hy89 =>
      intro w_ hSw_
      go_simp
      first | done | (with_reducible rfl)
    case ha89 =>
      simp only [Act.put, List.setIfInBounds_toArray, List.set_cons_zero, List.set_cons_succ]
      rfl
    refine takeN (i := 4) (N := (some 59)) (v := ?v90) (a' := ?a90) rfl rfl (by kernel_rfl) (by kernel_rfl) (by kernel_rfl) (fun _ _ _ h => h) (Or.inl ⟨by rfl, ?hy90⟩) ?ha90 (by assumption) ?rest90
    case hy90 =>
      intro w_ hSw_
      go_simp
      first | done | (with_reducible rfl)
    case ha90 =>
      simp only [Act.put, List.setIfInBounds_toArray, List.set_cons_zero, List.set_cons_succ]
      rfl
    refine takeN (i := 5) (N := (some 60)) (v := ?v91) (a' := ?a91) rfl rfl (by kernel_rfl) (by kernel_rfl) (by kernel_rfl) (fun _ _ _ h => h) (Or.inl ⟨by rfl, ?hy91⟩) ?ha91 (by assumption) ?rest91
    case hy91 =>
      intro w_ hSw_
      go_simp
      first | done | (with_reducible rfl)
    case ha91 =>
      simp only [Act.put, List.setIfInBounds_toArray, List.set_cons_zero, List.set_cons_succ]
      rfl
    refine takeN (i := 6) (N := (some 61)) (v := ?v92) (a' := ?a92) rfl rfl (by kernel_rfl) (by kernel_rfl) (by kernel_rfl) (fun _ _ _ h => h) (Or.inl ⟨by rfl, ?hy92⟩) ?ha92 (by assumption) ?rest92
    case hy92 =>
      intro w_ hSw_
      go_simp
      first | done | (with_reducible rfl)
    case ha92 =>
      simp only [Act.put, List.setIfInBounds_toArray, List.set_cons_zero, List.set_cons_succ]
      rfl
    refine takeN (i := 7) (N := (some 62)) (v := ?v93) (a' := ?a93) rfl rfl (by kernel_rfl) (by kernel_rfl) (by kernel_rfl) (fun _ _ _ h => h) (Or.inl ⟨by rfl, ?hy93⟩) ?ha93 (by assumption) ?rest93
    case hy93 =>
      intro w_ hSw_
      go_simp
      first | done | (with_reducible rfl)
    case ha93 =>
      simp only [Act.put, List.setIfInBounds_toArray, List.set_cons_zero, List.set_cons_succ]
      rfl
    refine takeN (i := 8) (N := (some 63)) (v := ?v94) (a' := ?a94) rfl rfl (by kernel_rfl) (by kernel_rfl) (by kernel_rfl) (fun _ _ _ h => h) (Or.inl ⟨by rfl, ?hy94⟩) ?ha94 (by assumption) ?rest94
    case hy94 =>
      intro w_ hSw_
      go_simp
      first | done | (with_reducible rfl)
    case ha94 =>
      simp only [Act.put, List.setIfInBounds_toArray, List.set_cons_zero, List.set_cons_succ]
      rfl
    refine takeN (i := 9) (N := (some 64)) (v := ?v95) (a' := ?a95) rfl rfl (by kernel_rfl) (by kernel_rfl) (by kernel_rfl) (fun _ _ _ h => h) (Or.inl ⟨by rfl, ?hy95⟩) ?ha95 (by assumption) ?rest95
    case hy95 =>
      intro w_ hSw_
      go_simp
      first | done | (with_reducible rfl)
    case ha95 =>
      simp only [Act.put, List.setIfInBounds_toArray, List.set_cons_zero, List.set_cons_succ]
      rfl
    refine wpAnyH_ready (rs := [10, 14, 15]) (by kernel_rfl) (by simp) ?_
    refine (AllReadyH.cons rfl (fun K hK => ?_) (AllReadyH.cons rfl (fun K hK => ?_) (AllReadyH.cons rfl (fun K hK => ?_) AllReadyH.nil)))
    · go_simp
      go_at_call 18
      with_reducible refine (wsframe_Get.calls kk Av cv tk m s1 s2 s3 s4 s5 s6 s7 _ (HTk.out _ (Kd.R_reads' hHeld.1.out.sp.row).2.2) htc HHG.out (HC.out.below hHeld.1.out.bel)).mono ?_
      rintro e V22 ⟨vp, rfl, ho, hb⟩
      obtain ⟨Ap, cp, rfl⟩ := Kd.R_slice ho
      have HO : Aside0 (Kd.R (Kd.int .u8) 5 V22 w.heap.size (fun _ => True) (.slice Ap s5.length cp) s5) := ⟨Kd.R_lower ho (show w.heap.size ≤ _ from hHeld.1.out.bel.size)⟩
      have HGn : Aside0 (Ng wb w V22 g (.slice Av l.length cv) m l) := ⟨hHeld.1.out.below hb⟩
      clear ho hb HGc
      have HGc := HGn
      clear HGn
      refine hK.out _ _ (NS.mk HGc.out) (fun hHeld => ?_)
      clear hK K
      try simp only [Act.put, List.setIfInBounds_toArray, List.set_cons_zero, List.set_cons_succ]
      refine takeN (i := 11) (N := (some 54)) (v := ?v96) (a' := ?a96) rfl rfl (by kernel_rfl) (by kernel_rfl) (by kernel_rfl) (fun _ _ _ h => h) (Or.inl ⟨by rfl, ?hy96⟩) ?ha96 (by assumption) ?rest96
      case hy96 =>
        intro w_ hSw_
        go_simp
        first | done | (with_reducible rfl)
      case ha96 =>
        simp only [Act.put, List.setIfInBounds_toArray, List.set_cons_zero, List.set_cons_succ]
        rfl
      refine takeN (i := 12) (N := (some 66)) (v := ?v97) (a' := ?a97) rfl rfl (by kernel_rfl) (by kernel_rfl) (by kernel_rfl) (fun _ _ _ h => h) (Or.inl ⟨by rfl, ?hy97⟩) ?ha97 (by assumption) ?rest97
      case hy97 =>
        intro w_ hSw_
        go_simp
        first | done | (with_reducible rfl)
      case ha97 =>
        simp only [Act.put, List.setIfInBounds_toArray, List.set_cons_zero, List.set_cons_succ]
        rfl
      refine takeN (i := 13) (N := (some 67)) (v := ?v98) (a' := ?a98) rfl rfl (by kernel_rfl) (by kernel_rfl) (by kernel_rfl) (fun _ _ _ h => h) (Or.inl ⟨by rfl, ?hy98⟩) ?ha98 (by assumption) ?rest98
      case hy98 =>
        intro w_ hSw_
        go_simp
        first | done | (with_reducible rfl)
      case ha98 =>
        simp only [Act.put, List.setIfInBounds_toArray, List.set_cons_zero, List.set_cons_succ]
        rfl
      refine wpAnyH_ready (rs := [14, 15]) (by kernel_rfl) (by simp) ?_
      refine (AllReadyH.cons rfl (fun K hK => ?_) (AllReadyH.cons rfl (fun K hK => ?_) AllReadyH.nil))
      · go_simp
        refine hK.out _ _ (NS.mk (HGc.out.below (below_alloc (Below.refl _ _) _))) (fun hHeld => ?_)
        clear hK K
        try simp only [Act.put, List.setIfInBounds_toArray, List.set_cons_zero, List.set_cons_succ]
        have hbx : (V22.alloc (.cells #[.bool false, .int .u8 0, .bool false, .int .u32 0, .slice none 0 0] 31)).heap[V22.heap.size]? = some (.cells #[.bool false, .int .u8 0, .bool false, .int .u32 0, .slice none 0 0] 31 (0, 0)) := last_at V22 _ _ rfl
        have hgn : Ng wb w (V22.alloc (.cells #[.bool false, .int .u8 0, .bool false, .int .u32 0, .slice none 0 0] 31)) g (.slice Av l.length cv) m l := HGc.out.below (below_alloc (Below.refl _ _) _)
        have hlt_gp : w.heap.size + 1 < V22.heap.size := HGc.out.lt
        have hgt_gp : g < V22.heap.size := blk_lt HGc.out.sp.blk
        have hHOn := Kd.R_alloc HO.out (.cells #[.bool false, .int .u8 0, .bool false, .int .u32 0, .slice none 0 0] 31)
        generalize V22.alloc (.cells #[.bool false, .int .u8 0, .bool false, .int .u32 0, .slice none 0 0] 31) = V23 at hHeld hbx hgn hHOn ⊢
        generalize V22.heap.size = gp at hbx hlt_gp hgt_gp ⊢
        clear HGc HO
        have HGc := Aside0.mk hgn
        have HPb := Aside0.mk hbx
        clear hgn hbx
        have HO := Aside0.mk hHOn
        clear hHOn
        refine wpAnyH_ready (rs := [15]) (by kernel_rfl) (by simp) ?_
        refine (AllReadyH.cons rfl (fun K hK => ?_) AllReadyH.nil)
        · go_simp
          refine hK.out _ _ (NS.mk (HGc.out.below (below_alloc (Below.refl _ _) _))) (fun hHeld => ?_)
          clear hK K
          try simp only [Act.put, List.setIfInBounds_toArray, List.set_cons_zero, List.set_cons_succ]
          have hbx : (V23.alloc (.cells #[.int .u8 0, .int .u32 0] 33)).heap[V23.heap.size]? = some (.cells #[.int .u8 0, .int .u32 0] 33 (0, 0)) := last_at V23 _ _ rfl
          have hgn : Ng wb w (V23.alloc (.cells #[.int .u8 0, .int .u32 0] 33)) g (.slice Av l.length cv) m l := HGc.out.below (below_alloc (Below.refl _ _) _)
          have hlt_gf : w.heap.size + 1 < V23.heap.size := HGc.out.lt
          have hgt_gf : g < V23.heap.size := blk_lt HGc.out.sp.blk
          have hne_ : gp < V23.heap.size := blk_lt HPb.out
          have hHPbn := blk_alloc HPb.out (.cells #[.int .u8 0, .int .u32 0] 33)
          have hHOn := Kd.R_alloc HO.out (.cells #[.int .u8 0, .int .u32 0] 33)
          generalize V23.alloc (.cells #[.int .u8 0, .int .u32 0] 33) = V24 at hHeld hbx hgn hHPbn hHOn ⊢
          generalize V23.heap.size = gf at hbx hlt_gf hgt_gf hne_ ⊢
          clear HGc HPb HO
          have HGc := Aside0.mk hgn
          have HFb := Aside0.mk hbx
          clear hgn hbx
          have HPb := Aside0.mk hHPbn
          clear hHPbn
          have HO := Aside0.mk hHOn
          clear hHOn
          have hne : gp ≠ gf := by omega
          have c0_ : V24.cell? ⟨gp, 0, none⟩ = some (.bool false) := (blk_cell HPb.out 0).trans rfl
          have cf0_ := blk_frozen HPb.out 0
          have c1_ : V24.cell? ⟨gp, 1, none⟩ = some (.int .u8 0) := (blk_cell HPb.out 1).trans rfl
          have cf1_ := blk_frozen HPb.out 1
          have c2_ : V24.cell? ⟨gp, 2, none⟩ = some (.bool false) := (blk_cell HPb.out 2).trans rfl
          have cf2_ := blk_frozen HPb.out 2
          have c3_ : V24.cell? ⟨gp, 3, none⟩ = some (.int .u32 0) := (blk_cell HPb.out 3).trans rfl
          have cf3_ := blk_frozen HPb.out 3
          have c4_ : V24.cell? ⟨gp, 4, none⟩ = some (.slice none 0 0) := (blk_cell HPb.out 4).trans rfl
          have cf4_ := blk_frozen HPb.out 4
          have cl_ := blk_lt HPb.out
          refine wpAnyH_ready (rs := [16]) (by kernel_rfl) (by simp) ?_
          refine AllReadyH.cons rfl (fun K hK => ?_) AllReadyH.nil
          go_simp
          refine hK.out _ _ (NS.mk (Ng.put5 HGc.out hlt_gp hgt_gp HPb.out _ _ _ _ _)) (fun hHeld => ?_)
          clear hK K
          try simp only [Act.put, List.setIfInBounds_toArray, List.set_cons_zero, List.set_cons_succ]
          have hgn := Ng.put5 HGc.out hlt_gp hgt_gp HPb.out (.bool s1) (.int .u8 s2) (.bool s3) (.int .u32 s4) (.slice Ap s5.length cp)
          have hbx := put5s HPb.out (.bool s1) (.int .u8 s2) (.bool s3) (.int .u32 s4) (.slice Ap s5.length cp)
          have hfx := (keep5 V24 gp (.bool s1) (.int .u8 s2) (.bool s3) (.int .u32 s4) (.slice Ap s5.length cp) _ hne.symm).trans HFb.out
          have hrx := row5 HO.out HPb.out (.bool s1) (.int .u8 s2) (.bool s3) (.int .u32 s4) (.slice Ap s5.length cp)
          generalize (((((V24.setCell ⟨gp, 0, none⟩ (.bool s1)).setCell ⟨gp, 1, none⟩ (.int .u8 s2)).setCell ⟨gp, 2, none⟩ (.bool s3)).setCell ⟨gp, 3, none⟩ (.int .u32 s4)).setCell ⟨gp, 4, none⟩ (.slice Ap s5.length cp)) = V25 at hHeld hgn hbx hfx hrx ⊢
          clear HGc HPb HFb HO c0_ c1_ c2_ c3_ c4_ cf0_ cf1_ cf2_ cf3_ cf4_ cl_
          have HGc := Aside0.mk hgn
          have HPb := Aside0.mk hbx
          have HFb := Aside0.mk hfx
          have HO := Aside0.mk hrx
          clear hgn hbx hfx hrx
          have c0_ : V25.cell? ⟨gf, 0, none⟩ = some (.int .u8 0) := (blk_cell HFb.out 0).trans rfl
          have cf0_ := blk_frozen HFb.out 0
          have c1_ : V25.cell? ⟨gf, 1, none⟩ = some (.int .u32 0) := (blk_cell HFb.out 1).trans rfl
          have cf1_ := blk_frozen HFb.out 1
          have cl_ := blk_lt HFb.out
          refine wpAnyH_ready (rs := [17]) (by kernel_rfl) (by simp) ?_
          refine AllReadyH.cons rfl (fun K hK => ?_) AllReadyH.nil
          go_simp
          refine hK.out _ _ (NS.mk (Ng.put2 HGc.out hlt_gf hgt_gf HFb.out _ _)) (fun hHeld => ?_)
          clear hK K
          try simp only [Act.put, List.setIfInBounds_toArray, List.set_cons_zero, List.set_cons_succ]
          refine wpAnyH_done (by kernel_rfl) ?_ _
          refine NoPanic.normal ?_
          have hgn := Ng.put2 HGc.out hlt_gf hgt_gf HFb.out (.int .u8 s6) (.int .u32 s7)
          have hbx := (keep2 V25 gf (.int .u8 s6) (.int .u32 s7) _ hne).trans HPb.out
          have hrx := row2 HO.out HFb.out (.int .u8 s6) (.int .u32 s7)
          clear hHeld
          generalize ((V25.setCell ⟨gf, 0, none⟩ (.int .u8 s6)).setCell ⟨gf, 1, none⟩ (.int .u32 s7)) = X25 at hgn hbx hrx ⊢
          clear HGc HPb HFb HO c0_ c1_ cf0_ cf1_ cl_
          have HGc := Aside0.mk hgn
          have HPb := Aside0.mk hbx
          have HO := Aside0.mk hrx
          clear hgn hbx hrx
          have q0 : X25.cell? ⟨g, 0, none⟩ = some (.slice Av l.length cv) := (blk_cell HGc.out.sp.blk 0).trans rfl
          have qf0 := blk_frozen HGc.out.sp.blk 0
          have ql := blk_lt HGc.out.sp.blk
          go_wp2_with fail
          refine (bytes_Clone.calls Ad cd dk dk _ (HDk.out _ (Kd.R_reads' HGc.out.sp.row).2.2) hdc hcl).mono ?_
          rintro e w8 ⟨vd, rfl, hod, hb⟩
          obtain ⟨Ae, ce, rfl⟩ := Kd.R_slice hod
          clear q0 qf0 ql
          have HNE : Aside0 (∀ k, (Value.slice Ap s5.length cp).ownBlock = some k → (Value.slice Ae dk.length ce).ownBlock ≠ some k) := ⟨fun k h1 h2 => absurd (Kd.R_lt HO.out k h1) (Nat.not_lt.mpr (Kd.R_base hod k h2))⟩
          have HG8 : Aside0 (Ng wb w w8 g (.slice Av l.length cv) m l) := ⟨HGc.out.below hb⟩
          have HP8 := Aside0.mk (blk_below HPb.out hb)
          have HO8 := Aside0.mk (Kd.R_below HO.out hb)
          have HD8 := Aside0.mk (Kd.R_lower hod (show w.heap.size ≤ _ from HGc.out.bel.size))
          clear hod hb HGc HPb HO
          have q0 : w8.cell? ⟨g, 0, none⟩ = some (.slice Av l.length cv) := (blk_cell HG8.out.sp.blk 0).trans rfl
          have qf0 := blk_frozen HG8.out.sp.blk 0
          have ql := blk_lt HG8.out.sp.blk
          go_upto_region 13 with fail
          have hfin : Fin wb w (w8.setCell ⟨g, 0, none⟩ (.slice Ae dk.length ce)) g m (.slice Ae dk.length ce) dk (.slice Ap s5.length cp) s5 := Fin.of HG8.out HB.out hgb hgl HD8.out HO8.out HNE.out
          have hbx : (w8.setCell ⟨g, 0, none⟩ (.slice Ae dk.length ce)).heap[gp]? = some (.cells #[.bool s1, .int .u8 s2, .bool s3, .int .u32 s4, .slice Ap s5.length cp] 31 (0, 0)) := (Below.heap_setCell _ _ _ _ (by show gp ≠ g; omega)).trans HP8.out
          generalize (w8.setCell ⟨g, 0, none⟩ (.slice Ae dk.length ce)) = We at hfin hbx ⊢
          clear HG8 HP8 HO8 HD8 q0 qf0 ql
          have HFN := Aside0.mk hfin
          have HPb := Aside0.mk hbx
          clear hfin hbx
          have c0_ : We.cell? ⟨gp, 0, none⟩ = some (.bool s1) := (blk_cell HPb.out 0).trans rfl
          have cf0_ := blk_frozen HPb.out 0
          have c1_ : We.cell? ⟨gp, 1, none⟩ = some (.int .u8 s2) := (blk_cell HPb.out 1).trans rfl
          have cf1_ := blk_frozen HPb.out 1
          have c2_ : We.cell? ⟨gp, 2, none⟩ = some (.bool s3) := (blk_cell HPb.out 2).trans rfl
          have cf2_ := blk_frozen HPb.out 2
          have c3_ : We.cell? ⟨gp, 3, none⟩ = some (.int .u32 s4) := (blk_cell HPb.out 3).trans rfl
          have cf3_ := blk_frozen HPb.out 3
          have c4_ : We.cell? ⟨gp, 4, none⟩ = some (.slice Ap s5.length cp) := (blk_cell HPb.out 4).trans rfl
          have cf4_ := blk_frozen HPb.out 4
          have cl_ := blk_lt HPb.out
          have p0 : We.cell? ⟨w.heap.size, 0, none⟩ = some (.bool false) := (blk_cell HFN.out.piece 0).trans rfl
          have pf0 := blk_frozen HFN.out.piece 0
          have p1 : We.cell? ⟨w.heap.size, 1, none⟩ = some (.int .u8 0) := (blk_cell HFN.out.piece 1).trans rfl
          have pf1 := blk_frozen HFN.out.piece 1
          have p2 : We.cell? ⟨w.heap.size, 2, none⟩ = some (.bool false) := (blk_cell HFN.out.piece 2).trans rfl
          have pf2 := blk_frozen HFN.out.piece 2
          have p3 : We.cell? ⟨w.heap.size, 3, none⟩ = some (.int .u32 0) := (blk_cell HFN.out.piece 3).trans rfl
          have pf3 := blk_frozen HFN.out.piece 3
          have p4 : We.cell? ⟨w.heap.size, 4, none⟩ = some (.slice none 0 0) := (blk_cell HFN.out.piece 4).trans rfl
          have pf4 := blk_frozen HFN.out.piece 4
          have r0_ : We.cell? ⟨w.heap.size + 1, 0, none⟩ = some (.int .u8 0) := (blk_cell HFN.out.fault 0).trans rfl
          have rf0 := blk_frozen HFN.out.fault 0
          have r1_ : We.cell? ⟨w.heap.size + 1, 1, none⟩ = some (.int .u32 0) := (blk_cell HFN.out.fault 1).trans rfl
          have rf1 := blk_frozen HFN.out.fault 1
          have pl := blk_lt HFN.out.piece
          have rl := blk_lt HFN.out.fault
          go_wp2_with fail
          exact bodyPost_ret (v := .tuple #[.agg #[.bool s1, .int .u8 s2, .bool s3, .int .u32 s4, .slice Ap s5.length cp], .agg #[.int .u8 0, .int .u32 0], .bool true]) (by simp [results, Tryd.results12, go_sem, p0, p1, p2, p3, p4, r0_, r1_]) rfl (NextPost.fin HFN.out)
      · go_simp
        refine hK.out _ _ (NS.mk (HGc.out.below (below_alloc (Below.refl _ _) _))) (fun hHeld => ?_)
        clear hK K
        try simp only [Act.put, List.setIfInBounds_toArray, List.set_cons_zero, List.set_cons_succ]
        have hbx : (V22.alloc (.cells #[.int .u8 0, .int .u32 0] 33)).heap[V22.heap.size]? = some (.cells #[.int .u8 0, .int .u32 0] 33 (0, 0)) := last_at V22 _ _ rfl
        have hgn : Ng wb w (V22.alloc (.cells #[.int .u8 0, .int .u32 0] 33)) g (.slice Av l.length cv) m l := HGc.out.below (below_alloc (Below.refl _ _) _)
        have hlt_gf : w.heap.size + 1 < V22.heap.size := HGc.out.lt
        have hgt_gf : g < V22.heap.size := blk_lt HGc.out.sp.blk
        have hHOn := Kd.R_alloc HO.out (.cells #[.int .u8 0, .int .u32 0] 33)
        generalize V22.alloc (.cells #[.int .u8 0, .int .u32 0] 33) = V26 at hHeld hbx hgn hHOn ⊢
        generalize V22.heap.size = gf at hbx hlt_gf hgt_gf ⊢
        clear HGc HO
        have HGc := Aside0.mk hgn
        have HFb := Aside0.mk hbx
        clear hgn hbx
        have HO := Aside0.mk hHOn
        clear hHOn
        refine wpAnyH_ready (rs := [14]) (by kernel_rfl) (by simp) ?_
        refine (AllReadyH.cons rfl (fun K hK => ?_) AllReadyH.nil)
        · go_simp
          refine hK.out _ _ (NS.mk (HGc.out.below (below_alloc (Below.refl _ _) _))) (fun hHeld => ?_)
          clear hK K
          try simp only [Act.put, List.setIfInBounds_toArray, List.set_cons_zero, List.set_cons_succ]
          have hbx : (V26.alloc (.cells #[.bool false, .int .u8 0, .bool false, .int .u32 0, .slice none 0 0] 31)).heap[V26.heap.size]? = some (.cells #[.bool false, .int .u8 0, .bool false, .int .u32 0, .slice none 0 0] 31 (0, 0)) := last_at V26 _ _ rfl
          have hgn : Ng wb w (V26.alloc (.cells #[.bool false, .int .u8 0, .bool false, .int .u32 0, .slice none 0 0] 31)) g (.slice Av l.length cv) m l := HGc.out.below (below_alloc (Below.refl _ _) _)
          have hlt_gp : w.heap.size + 1 < V26.heap.size := HGc.out.lt
          have hgt_gp : g < V26.heap.size := blk_lt HGc.out.sp.blk
          have hne_ : gf < V26.heap.size := blk_lt HFb.out
          have hHFbn := blk_alloc HFb.out (.cells #[.bool false, .int .u8 0, .bool false, .int .u32 0, .slice none 0 0] 31)
          have hHOn := Kd.R_alloc HO.out (.cells #[.bool false, .int .u8 0, .bool false, .int .u32 0, .slice none 0 0] 31)
          generalize V26.alloc (.cells #[.bool false, .int .u8 0, .bool false, .int .u32 0, .slice none 0 0] 31) = V27 at hHeld hbx hgn hHFbn hHOn ⊢
          generalize V26.heap.size = gp at hbx hlt_gp hgt_gp hne_ ⊢
          clear HGc HFb HO
          have HGc := Aside0.mk hgn
          have HPb := Aside0.mk hbx
          clear hgn hbx
          have HFb := Aside0.mk hHFbn
          clear hHFbn
          have HO := Aside0.mk hHOn
          clear hHOn
          have hne : gp ≠ gf := by omega
          have c0_ : V27.cell? ⟨gp, 0, none⟩ = some (.bool false) := (blk_cell HPb.out 0).trans rfl
          have cf0_ := blk_frozen HPb.out 0
          have c1_ : V27.cell? ⟨gp, 1, none⟩ = some (.int .u8 0) := (blk_cell HPb.out 1).trans rfl
          have cf1_ := blk_frozen HPb.out 1
          have c2_ : V27.cell? ⟨gp, 2, none⟩ = some (.bool false) := (blk_cell HPb.out 2).trans rfl
          have cf2_ := blk_frozen HPb.out 2
          have c3_ : V27.cell? ⟨gp, 3, none⟩ = some (.int .u32 0) := (blk_cell HPb.out 3).trans rfl
          have cf3_ := blk_frozen HPb.out 3
          have c4_ : V27.cell? ⟨gp, 4, none⟩ = some (.slice none 0 0) := (blk_cell HPb.out 4).trans rfl
          have cf4_ := blk_frozen HPb.out 4
          have cl_ := blk_lt HPb.out
          refine wpAnyH_ready (rs := [16]) (by kernel_rfl) (by simp) ?_
          refine AllReadyH.cons rfl (fun K hK => ?_) AllReadyH.nil
          go_simp
          refine hK.out _ _ (NS.mk (Ng.put5 HGc.out hlt_gp hgt_gp HPb.out _ _ _ _ _)) (fun hHeld => ?_)
          clear hK K
          try simp only [Act.put, List.setIfInBounds_toArray, List.set_cons_zero, List.set_cons_succ]
          have hgn := Ng.put5 HGc.out hlt_gp hgt_gp HPb.out (.bool s1) (.int .u8 s2) (.bool s3) (.int .u32 s4) (.slice Ap s5.length cp)
          have hbx := put5s HPb.out (.bool s1) (.int .u8 s2) (.bool s3) (.int .u32 s4) (.slice Ap s5.length cp)
          have hfx := (keep5 V27 gp (.bool s1) (.int .u8 s2) (.bool s3) (.int .u32 s4) (.slice Ap s5.length cp) _ hne.symm).trans HFb.out
          have hrx := row5 HO.out HPb.out (.bool s1) (.int .u8 s2) (.bool s3) (.int .u32 s4) (.slice Ap s5.length cp)
          generalize (((((V27.setCell ⟨gp, 0, none⟩ (.bool s1)).setCell ⟨gp, 1, none⟩ (.int .u8 s2)).setCell ⟨gp, 2, none⟩ (.bool s3)).setCell ⟨gp, 3, none⟩ (.int .u32 s4)).setCell ⟨gp, 4, none⟩ (.slice Ap s5.length cp)) = V28 at hHeld hgn hbx hfx hrx ⊢
          clear HGc HPb HFb HO c0_ c1_ c2_ c3_ c4_ cf0_ cf1_ cf2_ cf3_ cf4_ cl_
          have HGc := Aside0.mk hgn
          have HPb := Aside0.mk hbx
          have HFb := Aside0.mk hfx
          have HO := Aside0.mk hrx
          clear hgn hbx hfx hrx
          have c0_ : V28.cell? ⟨gf, 0, none⟩ = some (.int .u8 0) := (blk_cell HFb.out 0).trans rfl
          have cf0_ := blk_frozen HFb.out 0
          have c1_ : V28.cell? ⟨gf, 1, none⟩ = some (.int .u32 0) := (blk_cell HFb.out 1).trans rfl
          have cf1_ := blk_frozen HFb.out 1
          have cl_ := blk_lt HFb.out
          refine wpAnyH_ready (rs := [17]) (by kernel_rfl) (by simp) ?_
          refine AllReadyH.cons rfl (fun K hK => ?_) AllReadyH.nil
          go_simp
          refine hK.out _ _ (NS.mk (Ng.put2 HGc.out hlt_gf hgt_gf HFb.out _ _)) (fun hHeld => ?_)
          clear hK K
          try simp only [Act.put, List.setIfInBounds_toArray, List.set_cons_zero, List.set_cons_succ]
          refine wpAnyH_done (by kernel_rfl) ?_ _
          refine NoPanic.normal ?_
          have hgn := Ng.put2 HGc.out hlt_gf hgt_gf HFb.out (.int .u8 s6) (.int .u32 s7)
          have hbx := (keep2 V28 gf (.int .u8 s6) (.int .u32 s7) _ hne).trans HPb.out
          have hrx := row2 HO.out HFb.out (.int .u8 s6) (.int .u32 s7)
          clear hHeld
          generalize ((V28.setCell ⟨gf, 0, none⟩ (.int .u8 s6)).setCell ⟨gf, 1, none⟩ (.int .u32 s7)) = X28 at hgn hbx hrx ⊢
          clear HGc HPb HFb HO c0_ c1_ cf0_ cf1_ cl_
          have HGc := Aside0.mk hgn
          have HPb := Aside0.mk hbx
          have HO := Aside0.mk hrx
          clear hgn hbx hrx
          have q0 : X28.cell? ⟨g, 0, none⟩ = some (.slice Av l.length cv) := (blk_cell HGc.out.sp.blk 0).trans rfl
          have qf0 := blk_frozen HGc.out.sp.blk 0
          have ql := blk_lt HGc.out.sp.blk
          go_wp2_with fail
          refine (bytes_Clone.calls Ad cd dk dk _ (HDk.out _ (Kd.R_reads' HGc.out.sp.row).2.2) hdc hcl).mono ?_
          rintro e w8 ⟨vd, rfl, hod, hb⟩
          obtain ⟨Ae, ce, rfl⟩ := Kd.R_slice hod
          clear q0 qf0 ql
          have HNE : Aside0 (∀ k, (Value.slice Ap s5.length cp).ownBlock = some k → (Value.slice Ae dk.length ce).ownBlock ≠ some k) := ⟨fun k h1 h2 => absurd (Kd.R_lt HO.out k h1) (Nat.not_lt.mpr (Kd.R_base hod k h2))⟩
          have HG8 : Aside0 (Ng wb w w8 g (.slice Av l.length cv) m l) := ⟨HGc.out.below hb⟩
          have HP8 := Aside0.mk (blk_below HPb.out hb)
          have HO8 := Aside0.mk (Kd.R_below HO.out hb)
          have HD8 := Aside0.mk (Kd.R_lower hod (show w.heap.size ≤ _ from HGc.out.bel.size))
          clear hod hb HGc HPb HO
          have q0 : w8.cell? ⟨g, 0, none⟩ = some (.slice Av l.length cv) := (blk_cell HG8.out.sp.blk 0).trans rfl
          have qf0 := blk_frozen HG8.out.sp.blk 0
          have ql := blk_lt HG8.out.sp.blk
          go_upto_region 13 with fail
          have hfin : Fin wb w (w8.setCell ⟨g, 0, none⟩ (.slice Ae dk.length ce)) g m (.slice Ae dk.length ce) dk (.slice Ap s5.length cp) s5 := Fin.of HG8.out HB.out hgb hgl HD8.out HO8.out HNE.out
          have hbx : (w8.setCell ⟨g, 0, none⟩ (.slice Ae dk.length ce)).heap[gp]? = some (.cells #[.bool s1, .int .u8 s2, .bool s3, .int .u32 s4, .slice Ap s5.length cp] 31 (0, 0)) := (Below.heap_setCell _ _ _ _ (by show gp ≠ g; omega)).trans HP8.out
          generalize (w8.setCell ⟨g, 0, none⟩ (.slice Ae dk.length ce)) = We at hfin hbx ⊢
          clear HG8 HP8 HO8 HD8 q0 qf0 ql
          have HFN := Aside0.mk hfin
          have HPb := Aside0.mk hbx
          clear hfin hbx
          have c0_ : We.cell? ⟨gp, 0, none⟩ = some (.bool s1) := (blk_cell HPb.out 0).trans rfl
          have cf0_ := blk_frozen HPb.out 0
          have c1_ : We.cell? ⟨gp, 1, none⟩ = some (.int .u8 s2) := (blk_cell HPb.out 1).trans rfl
          have cf1_ := blk_frozen HPb.out 1
          have c2_ : We.cell? ⟨gp, 2, none⟩ = some (.bool s3) := (blk_cell HPb.out 2).trans rfl
          have cf2_ := blk_frozen HPb.out 2
          have c3_ : We.cell? ⟨gp, 3, none⟩ = some (.int .u32 s4) := (blk_cell HPb.out 3).trans rfl
          have cf3_ := blk_frozen HPb.out 3
          have c4_ : We.cell? ⟨gp, 4, none⟩ = some (.slice Ap s5.length cp) := (blk_cell HPb.out 4).trans rfl
          have cf4_ := blk_frozen HPb.out 4
          have cl_ := blk_lt HPb.out
          have p0 : We.cell? ⟨w.heap.size, 0, none⟩ = some (.bool false) := (blk_cell HFN.out.piece 0).trans rfl
          have pf0 := blk_frozen HFN.out.piece 0
          have p1 : We.cell? ⟨w.heap.size, 1, none⟩ = some (.int .u8 0) := (blk_cell HFN.out.piece 1).trans rfl
          have pf1 := blk_frozen HFN.out.piece 1
          have p2 : We.cell? ⟨w.heap.size, 2, none⟩ = some (.bool false) := (blk_cell HFN.out.piece 2).trans rfl
          have pf2 := blk_frozen HFN.out.piece 2
          have p3 : We.cell? ⟨w.heap.size, 3, none⟩ = some (.int .u32 0) := (blk_cell HFN.out.piece 3).trans rfl
          have pf3 := blk_frozen HFN.out.piece 3
          have p4 : We.cell? ⟨w.heap.size, 4, none⟩ = some (.slice none 0 0) := (blk_cell HFN.out.piece 4).trans rfl
          have pf4 := blk_frozen HFN.out.piece 4
          have r0_ : We.cell? ⟨w.heap.size + 1, 0, none⟩ = some (.int .u8 0) := (blk_cell HFN.out.fault 0).trans rfl
          have rf0 := blk_frozen HFN.out.fault 0
          have r1_ : We.cell? ⟨w.heap.size + 1, 1, none⟩ = some (.int .u32 0) := (blk_cell HFN.out.fault 1).trans rfl
          have rf1 := blk_frozen HFN.out.fault 1
          have pl := blk_lt HFN.out.piece
          have rl := blk_lt HFN.out.fault
          go_wp2_with fail
          exact bodyPost_ret (v := .tuple #[.agg #[.bool s1, .int .u8 s2, .bool s3, .int .u32 s4, .slice Ap s5.length cp], .agg #[.int .u8 0, .int .u32 0], .bool true]) (by simp [results, Tryd.results12, go_sem, p0, p1, p2, p3, p4, r0_, r1_]) rfl (NextPost.fin HFN.out)
    · go_simp
      refine hK.out _ _ (NS.mk ((HGc.out.below (below_drew (Below.refl _ _))).below (below_alloc (Below.refl _ _) _))) (fun hHeld => ?_)
      clear hK K
      try simp only [Act.put, List.setIfInBounds_toArray, List.set_cons_zero, List.set_cons_succ]
      have hbx : (W6.alloc (.cells #[.bool false, .int .u8 0, .bool false, .int .u32 0, .slice none 0 0] 31)).heap[W6.heap.size]? = some (.cells #[.bool false, .int .u8 0, .bool false, .int .u32 0, .slice none 0 0] 31 (0, 0)) := last_at W6 _ _ rfl
      have hgn : Ng wb w (W6.alloc (.cells #[.bool false, .int .u8 0, .bool false, .int .u32 0, .slice none 0 0] 31)) g (.slice Av l.length cv) m l := HGc.out.below (below_alloc (Below.refl _ _) _)
      have hlt_gp : w.heap.size + 1 < W6.heap.size := HGc.out.lt
      have hgt_gp : g < W6.heap.size := blk_lt HGc.out.sp.blk
      generalize W6.alloc (.cells #[.bool false, .int .u8 0, .bool false, .int .u32 0, .slice none 0 0] 31) = V29 at hHeld hbx hgn ⊢
      generalize W6.heap.size = gp at hbx hlt_gp hgt_gp ⊢
      clear HGc
      have HGc := Aside0.mk hgn
      have HPb := Aside0.mk hbx
      clear hgn hbx
      refine wpAnyH_ready (rs := [10, 15]) (by kernel_rfl) (by simp) ?_
      refine (AllReadyH.cons rfl (fun K hK => ?_) (AllReadyH.cons rfl (fun K hK => ?_) AllReadyH.nil))
      · go_simp
        go_at_call 18
        with_reducible refine (wsframe_Get.calls kk Av cv tk m s1 s2 s3 s4 s5 s6 s7 _ (HTk.out _ (Kd.R_reads' hHeld.1.out.sp.row).2.2) htc HHG.out (HC.out.below hHeld.1.out.bel)).mono ?_
        rintro e V30 ⟨vp, rfl, ho, hb⟩
        obtain ⟨Ap, cp, rfl⟩ := Kd.R_slice ho
        have HO : Aside0 (Kd.R (Kd.int .u8) 5 V30 w.heap.size (fun _ => True) (.slice Ap s5.length cp) s5) := ⟨Kd.R_lower ho (show w.heap.size ≤ _ from hHeld.1.out.bel.size)⟩
        have HGn : Aside0 (Ng wb w V30 g (.slice Av l.length cv) m l) := ⟨hHeld.1.out.below hb⟩
        have HPbn := Aside0.mk (blk_below (blk_drew HPb.out) hb)
        clear ho hb HGc HPb
        have HGc := HGn
        clear HGn
        have HPb := HPbn
        clear HPbn
        refine hK.out _ _ (NS.mk HGc.out) (fun hHeld => ?_)
        clear hK K
        try simp only [Act.put, List.setIfInBounds_toArray, List.set_cons_zero, List.set_cons_succ]
        refine takeN (i := 11) (N := (some 54)) (v := ?v99) (a' := ?a99) rfl rfl (by kernel_rfl) (by kernel_rfl) (by kernel_rfl) (fun _ _ _ h => h) (Or.inl ⟨by rfl, ?hy99⟩) ?ha99 (by assumption) ?rest99
        case hy99 =>
          intro w_ hSw_
          go_simp
          first | done | (with_reducible rfl)
        case ha99 =>
          simp only [Act.put, List.setIfInBounds_toArray, List.set_cons_zero, List.set_cons_succ]
          rfl
        refine takeN (i := 12) (N := (some 66)) (v := ?v100) (a' := ?a100) rfl rfl (by kernel_rfl) (by kernel_rfl) (by kernel_rfl) (fun _ _ _ h => h) (Or.inl ⟨by rfl, ?hy100⟩) ?ha100 (by assumption) ?rest100
        case hy100 =>
          intro w_ hSw_
          go_simp
          first | done | (with_reducible rfl)
        case ha100 =>
          simp only [Act.put, List.setIfInBounds_toArray, List.set_cons_zero, List.set_cons_succ]
          rfl
        refine takeN (i := 13) (N := (some 67)) (v := ?v101) (a' := ?a101) rfl rfl (by kernel_rfl) (by kernel_rfl) (by kernel_rfl) (fun _ _ _ h => h) (Or.inl ⟨by rfl, ?hy101⟩) ?ha101 (by assumption) ?rest101
        case hy101 =>
          intro w_ hSw_
          go_simp
          first | done | (with_reducible rfl)
        case ha101 =>
          simp only [Act.put, List.setIfInBounds_toArray, List.set_cons_zero, List.set_cons_succ]
          rfl
        refine wpAnyH_ready (rs := [15]) (by kernel_rfl) (by simp) ?_
        refine (AllReadyH.cons rfl (fun K hK => ?_) AllReadyH.nil)
        · go_simp
          refine hK.out _ _ (NS.mk (HGc.out.below (below_alloc (Below.refl _ _) _))) (fun hHeld => ?_)
          clear hK K
          try simp only [Act.put, List.setIfInBounds_toArray, List.set_cons_zero, List.set_cons_succ]
          have hbx : (V30.alloc (.cells #[.int .u8 0, .int .u32 0] 33)).heap[V30.heap.size]? = some (.cells #[.int .u8 0, .int .u32 0] 33 (0, 0)) := last_at V30 _ _ rfl
          have hgn : Ng wb w (V30.alloc (.cells #[.int .u8 0, .int .u32 0] 33)) g (.slice Av l.length cv) m l := HGc.out.below (below_alloc (Below.refl _ _) _)
          have hlt_gf : w.heap.size + 1 < V30.heap.size := HGc.out.lt
          have hgt_gf : g < V30.heap.size := blk_lt HGc.out.sp.blk
          have hne_ : gp < V30.heap.size := blk_lt HPb.out
          have hHPbn := blk_alloc HPb.out (.cells #[.int .u8 0, .int .u32 0] 33)
          have hHOn := Kd.R_alloc HO.out (.cells #[.int .u8 0, .int .u32 0] 33)
          generalize V30.alloc (.cells #[.int .u8 0, .int .u32 0] 33) = V31 at hHeld hbx hgn hHPbn hHOn ⊢
          generalize V30.heap.size = gf at hbx hlt_gf hgt_gf hne_ ⊢
          clear HGc HPb HO
          have HGc := Aside0.mk hgn
          have HFb := Aside0.mk hbx
          clear hgn hbx
          have HPb := Aside0.mk hHPbn
          clear hHPbn
          have HO := Aside0.mk hHOn
          clear hHOn
          have hne : gp ≠ gf := by omega
          have c0_ : V31.cell? ⟨gp, 0, none⟩ = some (.bool false) := (blk_cell HPb.out 0).trans rfl
          have cf0_ := blk_frozen HPb.out 0
          have c1_ : V31.cell? ⟨gp, 1, none⟩ = some (.int .u8 0) := (blk_cell HPb.out 1).trans rfl
          have cf1_ := blk_frozen HPb.out 1
          have c2_ : V31.cell? ⟨gp, 2, none⟩ = some (.bool false) := (blk_cell HPb.out 2).trans rfl
          have cf2_ := blk_frozen HPb.out 2
          have c3_ : V31.cell? ⟨gp, 3, none⟩ = some (.int .u32 0) := (blk_cell HPb.out 3).trans rfl
          have cf3_ := blk_frozen HPb.out 3
          have c4_ : V31.cell? ⟨gp, 4, none⟩ = some (.slice none 0 0) := (blk_cell HPb.out 4).trans rfl
          have cf4_ := blk_frozen HPb.out 4
          have cl_ := blk_lt HPb.out
          refine wpAnyH_ready (rs := [16]) (by kernel_rfl) (by simp) ?_
          refine AllReadyH.cons rfl (fun K hK => ?_) AllReadyH.nil
          go_simp
          refine hK.out _ _ (NS.mk (Ng.put5 HGc.out hlt_gp hgt_gp HPb.out _ _ _ _ _)) (fun hHeld => ?_)
          clear hK K
          try simp only [Act.put, List.setIfInBounds_toArray, List.set_cons_zero, List.set_cons_succ]
          have hgn := Ng.put5 HGc.out hlt_gp hgt_gp HPb.out (.bool s1) (.int .u8 s2) (.bool s3) (.int .u32 s4) (.slice Ap s5.length cp)
          have hbx := put5s HPb.out (.bool s1) (.int .u8 s2) (.bool s3) (.int .u32 s4) (.slice Ap s5.length cp)
          have hfx := (keep5 V31 gp (.bool s1) (.int .u8 s2) (.bool s3) (.int .u32 s4) (.slice Ap s5.length cp) _ hne.symm).trans HFb.out
          have hrx := row5 HO.out HPb.out (.bool s1) (.int .u8 s2) (.bool s3) (.int .u32 s4) (.slice Ap s5.length cp)
          generalize (((((V31.setCell ⟨gp, 0, none⟩ (.bool s1)).setCell ⟨gp, 1, none⟩ (.int .u8 s2)).setCell ⟨gp, 2, none⟩ (.bool s3)).setCell ⟨gp, 3, none⟩ (.int .u32 s4)).setCell ⟨gp, 4, none⟩ (.slice Ap s5.length cp)) = V32 at hHeld hgn hbx hfx hrx ⊢
          clear HGc HPb HFb HO c0_ c1_ c2_ c3_ c4_ cf0_ cf1_ cf2_ cf3_ cf4_ cl_
          have HGc := Aside0.mk hgn
          have HPb := Aside0.mk hbx
          have HFb := Aside0.mk hfx
          have HO := Aside0.mk hrx
          clear hgn hbx hfx hrx
          have c0_ : V32.cell? ⟨gf, 0, none⟩ = some (.int .u8 0) := (blk_cell HFb.out 0).trans rfl
          have cf0_ := blk_frozen HFb.out 0
          have c1_ : V32.cell? ⟨gf, 1, none⟩ = some (.int .u32 0) := (blk_cell HFb.out 1).trans rfl
          have cf1_ := blk_frozen HFb.out 1
          have cl_ := blk_lt HFb.out
          refine wpAnyH_ready (rs := [17]) (by kernel_rfl) (by simp) ?_
          refine AllReadyH.cons rfl (fun K hK => ?_) AllReadyH.nil
          go_simp
          refine hK.out _ _ (NS.mk (Ng.put2 HGc.out hlt_gf hgt_gf HFb.out _ _)) (fun hHeld => ?_)
          clear hK K
          try simp only [Act.put, List.setIfInBounds_toArray, List.set_cons_zero, List.set_cons_succ]
          refine wpAnyH_done (by kernel_rfl) ?_ _
          refine NoPanic.normal ?_
          have hgn := Ng.put2 HGc.out hlt_gf hgt_gf HFb.out (.int .u8 s6) (.int .u32 s7)
          have hbx := (keep2 V32 gf (.int .u8 s6) (.int .u32 s7) _ hne).trans HPb.out
          have hrx := row2 HO.out HFb.out (.int .u8 s6) (.int .u32 s7)
          clear hHeld
          generalize ((V32.setCell ⟨gf, 0, none⟩ (.int .u8 s6)).setCell ⟨gf, 1, none⟩ (.int .u32 s7)) = X32 at hgn hbx hrx ⊢
          clear HGc HPb HFb HO c0_ c1_ cf0_ cf1_ cl_
          have HGc := Aside0.mk hgn
          have HPb := Aside0.mk hbx
          have HO := Aside0.mk hrx
          clear hgn hbx hrx
          have q0 : X32.cell? ⟨g, 0, none⟩ = some (.slice Av l.length cv) := (blk_cell HGc.out.sp.blk 0).trans rfl
          have qf0 := blk_frozen HGc.out.sp.blk 0
          have ql := blk_lt HGc.out.sp.blk
          go_wp2_with fail
          refine (bytes_Clone.calls Ad cd dk dk _ (HDk.out _ (Kd.R_reads' HGc.out.sp.row).2.2) hdc hcl).mono ?_
          rintro e w8 ⟨vd, rfl, hod, hb⟩
          obtain ⟨Ae, ce, rfl⟩ := Kd.R_slice hod
          clear q0 qf0 ql
          have HNE : Aside0 (∀ k, (Value.slice Ap s5.length cp).ownBlock = some k → (Value.slice Ae dk.length ce).ownBlock ≠ some k) := ⟨fun k h1 h2 => absurd (Kd.R_lt HO.out k h1) (Nat.not_lt.mpr (Kd.R_base hod k h2))⟩
          have HG8 : Aside0 (Ng wb w w8 g (.slice Av l.length cv) m l) := ⟨HGc.out.below hb⟩
          have HP8 := Aside0.mk (blk_below HPb.out hb)
          have HO8 := Aside0.mk (Kd.R_below HO.out hb)
          have HD8 := Aside0.mk (Kd.R_lower hod (show w.heap.size ≤ _ from HGc.out.bel.size))
          clear hod hb HGc HPb HO
          have q0 : w8.cell? ⟨g, 0, none⟩ = some (.slice Av l.length cv) := (blk_cell HG8.out.sp.blk 0).trans rfl
          have qf0 := blk_frozen HG8.out.sp.blk 0
          have ql := blk_lt HG8.out.sp.blk
          go_upto_region 13 with fail
          have hfin : Fin wb w (w8.setCell ⟨g, 0, none⟩ (.slice Ae dk.length ce)) g m (.slice Ae dk.length ce) dk (.slice Ap s5.length cp) s5 := Fin.of HG8.out HB.out hgb hgl HD8.out HO8.out HNE.out
          have hbx : (w8.setCell ⟨g, 0, none⟩ (.slice Ae dk.length ce)).heap[gp]? = some (.cells #[.bool s1, .int .u8 s2, .bool s3, .int .u32 s4, .slice Ap s5.length cp] 31 (0, 0)) := (Below.heap_setCell _ _ _ _ (by show gp ≠ g; omega)).trans HP8.out
          generalize (w8.setCell ⟨g, 0, none⟩ (.slice Ae dk.length ce)) = We at hfin hbx ⊢
          clear HG8 HP8 HO8 HD8 q0 qf0 ql
          have HFN := Aside0.mk hfin
          have HPb := Aside0.mk hbx
          clear hfin hbx
          have c0_ : We.cell? ⟨gp, 0, none⟩ = some (.bool s1) := (blk_cell HPb.out 0).trans rfl
          have cf0_ := blk_frozen HPb.out 0
          have c1_ : We.cell? ⟨gp, 1, none⟩ = some (.int .u8 s2) := (blk_cell HPb.out 1).trans rfl
          have cf1_ := blk_frozen HPb.out 1
          have c2_ : We.cell? ⟨gp, 2, none⟩ = some (.bool s3) := (blk_cell HPb.out 2).trans rfl
          have cf2_ := blk_frozen HPb.out 2
          have c3_ : We.cell? ⟨gp, 3, none⟩ = some (.int .u32 s4) := (blk_cell HPb.out 3).trans rfl
          have cf3_ := blk_frozen HPb.out 3
          have c4_ : We.cell? ⟨gp, 4, none⟩ = some (.slice Ap s5.length cp) := (blk_cell HPb.out 4).trans rfl
          have cf4_ := blk_frozen HPb.out 4
          have cl_ := blk_lt HPb.out
          have p0 : We.cell? ⟨w.heap.size, 0, none⟩ = some (.bool false) := (blk_cell HFN.out.piece 0).trans rfl
          have pf0 := blk_frozen HFN.out.piece 0
          have p1 : We.cell? ⟨w.heap.size, 1, none⟩ = some (.int .u8 0) := (blk_cell HFN.out.piece 1).trans rfl
          have pf1 := blk_frozen HFN.out.piece 1
          have p2 : We.cell? ⟨w.heap.size, 2, none⟩ = some (.bool false) := (blk_cell HFN.out.piece 2).trans rfl
          have pf2 := blk_frozen HFN.out.piece 2
          have p3 : We.cell? ⟨w.heap.size, 3, none⟩ = some (.int .u32 0) := (blk_cell HFN.out.piece 3).trans rfl
          have pf3 := blk_frozen HFN.out.piece 3
          have p4 : We.cell? ⟨w.heap.size, 4, none⟩ = some (.slice none 0 0) := (blk_cell HFN.out.piece 4).trans rfl
          have pf4 := blk_frozen HFN.out.piece 4
          have r0_ : We.cell? ⟨w.heap.size + 1, 0, none⟩ = some (.int .u8 0) := (blk_cell HFN.out.fault 0).trans rfl
          have rf0 := blk_frozen HFN.out.fault 0
          have r1_ : We.cell? ⟨w.heap.size + 1, 1, none⟩ = some (.int .u32 0) := (blk_cell HFN.out.fault 1).trans rfl
          have rf1 := blk_frozen HFN.out.fault 1
          have pl := blk_lt HFN.out.piece
          have rl := blk_lt HFN.out.fault
          go_wp2_with fail
          exact bodyPost_ret (v := .tuple #[.agg #[.bool s1, .int .u8 s2, .bool s3, .int .u32 s4, .slice Ap s5.length cp], .agg #[.int .u8 0, .int .u32 0], .bool true]) (by simp [results, Tryd.results12, go_sem, p0, p1, p2, p3, p4, r0_, r1_]) rfl (NextPost.fin HFN.out)
      · go_simp
        refine hK.out _ _ (NS.mk ((HGc.out.below (below_drew (Below.refl _ _))).below (below_alloc (Below.refl _ _) _))) (fun hHeld => ?_)
        clear hK K
        try simp only [Act.put, List.setIfInBounds_toArray, List.set_cons_zero, List.set_cons_succ]
        have hbx : (V29.alloc (.cells #[.int .u8 0, .int .u32 0] 33)).heap[V29.heap.size]? = some (.cells #[.int .u8 0, .int .u32 0] 33 (0, 0)) := last_at V29 _ _ rfl
        have hgn : Ng wb w (V29.alloc (.cells #[.int .u8 0, .int .u32 0] 33)) g (.slice Av l.length cv) m l := HGc.out.below (below_alloc (Below.refl _ _) _)
        have hlt_gf : w.heap.size + 1 < V29.heap.size := HGc.out.lt
        have hgt_gf : g < V29.heap.size := blk_lt HGc.out.sp.blk
        have hne_ : gp < V29.heap.size := blk_lt HPb.out
        have hHPbn := blk_alloc HPb.out (.cells #[.int .u8 0, .int .u32 0] 33)
        generalize V29.alloc (.cells #[.int .u8 0, .int .u32 0] 33) = V33 at hHeld hbx hgn hHPbn ⊢
        generalize V29.heap.size = gf at hbx hlt_gf hgt_gf hne_ ⊢
        clear HGc HPb
        have HGc := Aside0.mk hgn
        have HFb := Aside0.mk hbx
        clear hgn hbx
        have HPb := Aside0.mk hHPbn
        clear hHPbn
        refine wpAnyH_ready (rs := [10]) (by kernel_rfl) (by simp) ?_
        refine (AllReadyH.cons rfl (fun K hK => ?_) AllReadyH.nil)
        · go_simp
          go_at_call 18
          with_reducible refine (wsframe_Get.calls kk Av cv tk m s1 s2 s3 s4 s5 s6 s7 _ (HTk.out _ (Kd.R_reads' hHeld.1.out.sp.row).2.2) htc HHG.out (HC.out.below hHeld.1.out.bel)).mono ?_
          rintro e V34 ⟨vp, rfl, ho, hb⟩
          obtain ⟨Ap, cp, rfl⟩ := Kd.R_slice ho
          have HO : Aside0 (Kd.R (Kd.int .u8) 5 V34 w.heap.size (fun _ => True) (.slice Ap s5.length cp) s5) := ⟨Kd.R_lower ho (show w.heap.size ≤ _ from hHeld.1.out.bel.size)⟩
          have HGn : Aside0 (Ng wb w V34 g (.slice Av l.length cv) m l) := ⟨hHeld.1.out.below hb⟩
          have HPbn := Aside0.mk (blk_below (blk_drew HPb.out) hb)
          have HFbn := Aside0.mk (blk_below (blk_drew HFb.out) hb)
          clear ho hb HGc HPb HFb
          have HGc := HGn
          clear HGn
          have HPb := HPbn
          clear HPbn
          have HFb := HFbn
          clear HFbn
          refine hK.out _ _ (NS.mk HGc.out) (fun hHeld => ?_)
          clear hK K
          try simp only [Act.put, List.setIfInBounds_toArray, List.set_cons_zero, List.set_cons_succ]
          refine takeN (i := 11) (N := (some 54)) (v := ?v102) (a' := ?a102) rfl rfl (by kernel_rfl) (by kernel_rfl) (by kernel_rfl) (fun _ _ _ h => h) (Or.inl ⟨by rfl, ?hy102⟩) ?ha102 (by assumption) ?rest102
          case hy102 =>
            intro w_ hSw_
            go_simp
            first | done | (with_reducible rfl)
          case ha102 =>
            simp only [Act.put, List.setIfInBounds_toArray, List.set_cons_zero, List.set_cons_succ]
            rfl
          refine takeN (i := 12) (N := (some 66)) (v := ?v103) (a' := ?a103) rfl rfl (by kernel_rfl) (by kernel_rfl) (by kernel_rfl) (fun _ _ _ h => h) (Or.inl ⟨by rfl, ?hy103⟩) ?ha103 (by assumption) ?rest103
          case hy103 =>
            intro w_ hSw_
            go_simp
            first | done | (with_reducible rfl)
          case ha103 =>
            simp only [Act.put, List.setIfInBounds_toArray, List.set_cons_zero, List.set_cons_succ]
            rfl
          refine takeN (i := 13) (N := (some 67)) (v := ?v104) (a' := ?a104) rfl rfl (by kernel_rfl) (by kernel_rfl) (by kernel_rfl) (fun _ _ _ h => h) (Or.inl ⟨by rfl, ?hy104⟩) ?ha104 (by assumption) ?rest104
          case hy104 =>
            intro w_ hSw_
            go_simp
            first | done | (with_reducible rfl)
          case ha104 =>
            simp only [Act.put, List.setIfInBounds_toArray, List.set_cons_zero, List.set_cons_succ]
            rfl
          have hne : gp ≠ gf := by omega
          have c0_ : V34.cell? ⟨gp, 0, none⟩ = some (.bool false) := (blk_cell HPb.out 0).trans rfl
          have cf0_ := blk_frozen HPb.out 0
          have c1_ : V34.cell? ⟨gp, 1, none⟩ = some (.int .u8 0) := (blk_cell HPb.out 1).trans rfl
          have cf1_ := blk_frozen HPb.out 1
          have c2_ : V34.cell? ⟨gp, 2, none⟩ = some (.bool false) := (blk_cell HPb.out 2).trans rfl
          have cf2_ := blk_frozen HPb.out 2
          have c3_ : V34.cell? ⟨gp, 3, none⟩ = some (.int .u32 0) := (blk_cell HPb.out 3).trans rfl
          have cf3_ := blk_frozen HPb.out 3
          have c4_ : V34.cell? ⟨gp, 4, none⟩ = some (.slice none 0 0) := (blk_cell HPb.out 4).trans rfl
          have cf4_ := blk_frozen HPb.out 4
          have cl_ := blk_lt HPb.out
          refine wpAnyH_ready (rs := [16]) (by kernel_rfl) (by simp) ?_
          refine AllReadyH.cons rfl (fun K hK => ?_) AllReadyH.nil
          go_simp
          refine hK.out _ _ (NS.mk (Ng.put5 HGc.out hlt_gp hgt_gp HPb.out _ _ _ _ _)) (fun hHeld => ?_)
          clear hK K
          try simp only [Act.put, List.setIfInBounds_toArray, List.set_cons_zero, List.set_cons_succ]
          have hgn := Ng.put5 HGc.out hlt_gp hgt_gp HPb.out (.bool s1) (.int .u8 s2) (.bool s3) (.int .u32 s4) (.slice Ap s5.length cp)
          have hbx := put5s HPb.out (.bool s1) (.int .u8 s2) (.bool s3) (.int .u32 s4) (.slice Ap s5.length cp)
          have hfx := (keep5 V34 gp (.bool s1) (.int .u8 s2) (.bool s3) (.int .u32 s4) (.slice Ap s5.length cp) _ hne.symm).trans HFb.out
          have hrx := row5 HO.out HPb.out (.bool s1) (.int .u8 s2) (.bool s3) (.int .u32 s4) (.slice Ap s5.length cp)
          generalize (((((V34.setCell ⟨gp, 0, none⟩ (.bool s1)).setCell ⟨gp, 1, none⟩ (.int .u8 s2)).setCell ⟨gp, 2, none⟩ (.bool s3)).setCell ⟨gp, 3, none⟩ (.int .u32 s4)).setCell ⟨gp, 4, none⟩ (.slice Ap s5.length cp)) = V35 at hHeld hgn hbx hfx hrx ⊢
          clear HGc HPb HFb HO c0_ c1_ c2_ c3_ c4_ cf0_ cf1_ cf2_ cf3_ cf4_ cl_
          have HGc := Aside0.mk hgn
          have HPb := Aside0.mk hbx
          have HFb := Aside0.mk hfx
          have HO := Aside0.mk hrx
          clear hgn hbx hfx hrx
          have c0_ : V35.cell? ⟨gf, 0, none⟩ = some (.int .u8 0) := (blk_cell HFb.out 0).trans rfl
          have cf0_ := blk_frozen HFb.out 0
          have c1_ : V35.cell? ⟨gf, 1, none⟩ = some (.int .u32 0) := (blk_cell HFb.out 1).trans rfl
          have cf1_ := blk_frozen HFb.out 1
          have cl_ := blk_lt HFb.out
          refine wpAnyH_ready (rs := [17]) (by kernel_rfl) (by simp) ?_
          refine AllReadyH.cons rfl (fun K hK => ?_) AllReadyH.nil
          go_simp
          refine hK.out _ _ (NS.mk (Ng.put2 HGc.out hlt_gf hgt_gf HFb.out _ _)) (fun hHeld => ?_)
          clear hK K
          try simp only [Act.put, List.setIfInBounds_toArray, List.set_cons_zero, List.set_cons_succ]
          refine wpAnyH_done (by kernel_rfl) ?_ _
          refine NoPanic.normal ?_
          have hgn := Ng.put2 HGc.out hlt_gf hgt_gf HFb.out (.int .u8 s6) (.int .u32 s7)
          have hbx := (keep2 V35 gf (.int .u8 s6) (.int .u32 s7) _ hne).trans HPb.out
          have hrx := row2 HO.out HFb.out (.int .u8 s6) (.int .u32 s7)
          clear hHeld
          generalize ((V35.setCell ⟨gf, 0, none⟩ (.int .u8 s6)).setCell ⟨gf, 1, none⟩ (.int .u32 s7)) = X35 at hgn hbx hrx ⊢
          clear HGc HPb HFb HO c0_ c1_ cf0_ cf1_ cl_
          have HGc := Aside0.mk hgn
          have HPb := Aside0.mk hbx
          have HO := Aside0.mk hrx
          clear hgn hbx hrx
          have q0 : X35.cell? ⟨g, 0, none⟩ = some (.slice Av l.length cv) := (blk_cell HGc.out.sp.blk 0).trans rfl
          have qf0 := blk_frozen HGc.out.sp.blk 0
          have ql := blk_lt HGc.out.sp.blk
          go_wp2_with fail
          refine (bytes_Clone.calls Ad cd dk dk _ (HDk.out _ (Kd.R_reads' HGc.out.sp.row).2.2) hdc hcl).mono ?_
          rintro e w8 ⟨vd, rfl, hod, hb⟩
          obtain ⟨Ae, ce, rfl⟩ := Kd.R_slice hod
          clear q0 qf0 ql
          have HNE : Aside0 (∀ k, (Value.slice Ap s5.length cp).ownBlock = some k → (Value.slice Ae dk.length ce).ownBlock ≠ some k) := ⟨fun k h1 h2 => absurd (Kd.R_lt HO.out k h1) (Nat.not_lt.mpr (Kd.R_base hod k h2))⟩
          have HG8 : Aside0 (Ng wb w w8 g (.slice Av l.length cv) m l) := ⟨HGc.out.below hb⟩
          have HP8 := Aside0.mk (blk_below HPb.out hb)
          have HO8 := Aside0.mk (Kd.R_below HO.out hb)
          have HD8 := Aside0.mk (Kd.R_lower hod (show w.heap.size ≤ _ from HGc.out.bel.size))
          clear hod hb HGc HPb HO
          have q0 : w8.cell? ⟨g, 0, none⟩ = some (.slice Av l.length cv) := (blk_cell HG8.out.sp.blk 0).trans rfl
          have qf0 := blk_frozen HG8.out.sp.blk 0
          have ql := blk_lt HG8.out.sp.blk
          go_upto_region 13 with fail
          have hfin : Fin wb w (w8.setCell ⟨g, 0, none⟩ (.slice Ae dk.length ce)) g m (.slice Ae dk.length ce) dk (.slice Ap s5.length cp) s5 := Fin.of HG8.out HB.out hgb hgl HD8.out HO8.out HNE.out
          have hbx : (w8.setCell ⟨g, 0, none⟩ (.slice Ae dk.length ce)).heap[gp]? = some (.cells #[.bool s1, .int .u8 s2, .bool s3, .int .u32 s4, .slice Ap s5.length cp] 31 (0, 0)) := (Below.heap_setCell _ _ _ _ (by show gp ≠ g; omega)).trans HP8.out
          generalize (w8.setCell ⟨g, 0, none⟩ (.slice Ae dk.length ce)) = We at hfin hbx ⊢
          clear HG8 HP8 HO8 HD8 q0 qf0 ql
          have HFN := Aside0.mk hfin
          have HPb := Aside0.mk hbx
          clear hfin hbx
          have c0_ : We.cell? ⟨gp, 0, none⟩ = some (.bool s1) := (blk_cell HPb.out 0).trans rfl
          have cf0_ := blk_frozen HPb.out 0
          have c1_ : We.cell? ⟨gp, 1, none⟩ = some (.int .u8 s2) := (blk_cell HPb.out 1).trans rfl
          have cf1_ := blk_frozen HPb.out 1
          have c2_ : We.cell? ⟨gp, 2, none⟩ = some (.bool s3) := (blk_cell HPb.out 2).trans rfl
          have cf2_ := blk_frozen HPb.out 2
          have c3_ : We.cell? ⟨gp, 3, none⟩ = some (.int .u32 s4) := (blk_cell HPb.out 3).trans rfl
          have cf3_ := blk_frozen HPb.out 3
          have c4_ : We.cell? ⟨gp, 4, none⟩ = some (.slice Ap s5.length cp) := (blk_cell HPb.out 4).trans rfl
          have cf4_ := blk_frozen HPb.out 4
          have cl_ := blk_lt HPb.out
          have p0 : We.cell? ⟨w.heap.size, 0, none⟩ = some (.bool false) := (blk_cell HFN.out.piece 0).trans rfl
          have pf0 := blk_frozen HFN.out.piece 0
          have p1 : We.cell? ⟨w.heap.size, 1, none⟩ = some (.int .u8 0) := (blk_cell HFN.out.piece 1).trans rfl
          have pf1 := blk_frozen HFN.out.piece 1
          have p2 : We.cell? ⟨w.heap.size, 2, none⟩ = some (.bool false) := (blk_cell HFN.out.piece 2).trans rfl
          have pf2 := blk_frozen HFN.out.piece 2
          have p3 : We.cell? ⟨w.heap.size, 3, none⟩ = some (.int .u32 0) := (blk_cell HFN.out.piece 3).trans rfl
          have pf3 := blk_frozen HFN.out.piece 3
          have p4 : We.cell? ⟨w.heap.size, 4, none⟩ = some (.slice none 0 0) := (blk_cell HFN.out.piece 4).trans rfl
          have pf4 := blk_frozen HFN.out.piece 4
          have r0_ : We.cell? ⟨w.heap.size + 1, 0, none⟩ = some (.int .u8 0) := (blk_cell HFN.out.fault 0).trans rfl
          have rf0 := blk_frozen HFN.out.fault 0
          have r1_ : We.cell? ⟨w.heap.size + 1, 1, none⟩ = some (.int .u32 0) := (blk_cell HFN.out.fault 1).trans rfl
          have rf1 := blk_frozen HFN.out.fault 1
          have pl := blk_lt HFN.out.piece
          have rl := blk_lt HFN.out.fault
          go_wp2_with fail
          exact bodyPost_ret (v := .tuple #[.agg #[.bool s1, .int .u8 s2, .bool s3, .int .u32 s4, .slice Ap s5.length cp], .agg #[.int .u8 0, .int .u32 0], .bool true]) (by simp [results, Tryd.results12, go_sem, p0, p1, p2, p3, p4, r0_, r1_]) rfl (NextPost.fin HFN.out)
    · go_simp
      refine hK.out _ _ (NS.mk ((HGc.out.below (below_drew (Below.refl _ _))).below (below_alloc (Below.refl _ _) _))) (fun hHeld => ?_)
      clear hK K
      try simp only [Act.put, List.setIfInBounds_toArray, List.set_cons_zero, List.set_cons_succ]
      have hbx : (W6.alloc (.cells #[.int .u8 0, .int .u32 0] 33)).heap[W6.heap.size]? = some (.cells #[.int .u8 0, .int .u32 0] 33 (0, 0)) := last_at W6 _ _ rfl
      have hgn : Ng wb w (W6.alloc (.cells #[.int .u8 0, .int .u32 0] 33)) g (.slice Av l.length cv) m l := HGc.out.below (below_alloc (Below.refl _ _) _)
      have hlt_gf : w.heap.size + 1 < W6.heap.size := HGc.out.lt
      have hgt_gf : g < W6.heap.size := blk_lt HGc.out.sp.blk
      generalize W6.alloc (.cells #[.int .u8 0, .int .u32 0] 33) = V36 at hHeld hbx hgn ⊢
      generalize W6.heap.size = gf at hbx hlt_gf hgt_gf ⊢
      clear HGc
      have HGc := Aside0.mk hgn
      have HFb := Aside0.mk hbx
      clear hgn hbx
      refine wpAnyH_ready (rs := [10, 14]) (by kernel_rfl) (by simp) ?_
      refine (AllReadyH.cons rfl (fun K hK => ?_) (AllReadyH.cons rfl (fun K hK => ?_) AllReadyH.nil))
      · go_simp
        go_at_call 18
        with_reducible refine (wsframe_Get.calls kk Av cv tk m s1 s2 s3 s4 s5 s6 s7 _ (HTk.out _ (Kd.R_reads' hHeld.1.out.sp.row).2.2) htc HHG.out (HC.out.below hHeld.1.out.bel)).mono ?_
        rintro e V37 ⟨vp, rfl, ho, hb⟩
        obtain ⟨Ap, cp, rfl⟩ := Kd.R_slice ho
        have HO : Aside0 (Kd.R (Kd.int .u8) 5 V37 w.heap.size (fun _ => True) (.slice Ap s5.length cp) s5) := ⟨Kd.R_lower ho (show w.heap.size ≤ _ from hHeld.1.out.bel.size)⟩
        have HGn : Aside0 (Ng wb w V37 g (.slice Av l.length cv) m l) := ⟨hHeld.1.out.below hb⟩
        have HFbn := Aside0.mk (blk_below (blk_drew HFb.out) hb)
        clear ho hb HGc HFb
        have HGc := HGn
        clear HGn
        have HFb := HFbn
        clear HFbn
        refine hK.out _ _ (NS.mk HGc.out) (fun hHeld => ?_)
        clear hK K
        try simp only [Act.put, List.setIfInBounds_toArray, List.set_cons_zero, List.set_cons_succ]
        refine takeN (i := 11) (N := (some 54)) (v := ?v105) (a' := ?a105) rfl rfl (by kernel_rfl) (by kernel_rfl) (by kernel_rfl) (fun _ _ _ h => h) (Or.inl ⟨by rfl, ?hy105⟩) ?ha105 (by assumption) ?rest105
        case hy105 =>
          intro w_ hSw_
          go_simp
          first | done | (with_reducible rfl)
        case ha105 =>
          simp only [Act.put, List.setIfInBounds_toArray, List.set_cons_zero, List.set_cons_succ]
          rfl
        refine takeN (i := 12) (N := (some 66)) (v := ?v106) (a' := ?a106) rfl rfl (by kernel_rfl) (by kernel_rfl) (by kernel_rfl) (fun _ _ _ h => h) (Or.inl ⟨by rfl, ?hy106⟩) ?ha106 (by assumption) ?rest106
        case hy106 =>
          intro w_ hSw_
          go_simp
          first | done | (with_reducible rfl)
        case ha106 =>
          simp only [Act.put, List.setIfInBounds_toArray, List.set_cons_zero, List.set_cons_succ]
          rfl
        refine takeN (i := 13) (N := (some 67)) (v := ?v107) (a' := ?a107) rfl rfl (by kernel_rfl) (by kernel_rfl) (by kernel_rfl) (fun _ _ _ h => h) (Or.inl ⟨by rfl, ?hy107⟩) ?ha107 (by assumption) ?rest107
        case hy107 =>
          intro w_ hSw_
          go_simp
          first | done | (with_reducible rfl)
        case ha107 =>
          simp only [Act.put, List.setIfInBounds_toArray, List.set_cons_zero, List.set_cons_succ]
          rfl
        refine wpAnyH_ready (rs := [14]) (by kernel_rfl) (by simp) ?_
        refine (AllReadyH.cons rfl (fun K hK => ?_) AllReadyH.nil)
        · go_simp
          refine hK.out _ _ (NS.mk (HGc.out.below (below_alloc (Below.refl _ _) _))) (fun hHeld => ?_)
          clear hK K
          try simp only [Act.put, List.setIfInBounds_toArray, List.set_cons_zero, List.set_cons_succ]
          have hbx : (V37.alloc (.cells #[.bool false, .int .u8 0, .bool false, .int .u32 0, .slice none 0 0] 31)).heap[V37.heap.size]? = some (.cells #[.bool false, .int .u8 0, .bool false, .int .u32 0, .slice none 0 0] 31 (0, 0)) := last_at V37 _ _ rfl
          have hgn : Ng wb w (V37.alloc (.cells #[.bool false, .int .u8 0, .bool false, .int .u32 0, .slice none 0 0] 31)) g (.slice Av l.length cv) m l := HGc.out.below (below_alloc (Below.refl _ _) _)
          have hlt_gp : w.heap.size + 1 < V37.heap.size := HGc.out.lt
          have hgt_gp : g < V37.heap.size := blk_lt HGc.out.sp.blk
          have hne_ : gf < V37.heap.size := blk_lt HFb.out
          have hHFbn := blk_alloc HFb.out (.cells #[.bool false, .int .u8 0, .bool false, .int .u32 0, .slice none 0 0] 31)
          have hHOn := Kd.R_alloc HO.out (.cells #[.bool false, .int .u8 0, .bool false, .int .u32 0, .slice none 0 0] 31)
          generalize V37.alloc (.cells #[.bool false, .int .u8 0, .bool false, .int .u32 0, .slice none 0 0] 31) = V38 at hHeld hbx hgn hHFbn hHOn ⊢
          generalize V37.heap.size = gp at hbx hlt_gp hgt_gp hne_ ⊢
          clear HGc HFb HO
          have HGc := Aside0.mk hgn
          have HPb := Aside0.mk hbx
          clear hgn hbx
          have HFb := Aside0.mk hHFbn
          clear hHFbn
          have HO := Aside0.mk hHOn
          clear hHOn
          have hne : gp ≠ gf := by omega
          have c0_ : V38.cell? ⟨gp, 0, none⟩ = some (.bool false) := (blk_cell HPb.out 0).trans rfl
          have cf0_ := blk_frozen HPb.out 0
          have c1_ : V38.cell? ⟨gp, 1, none⟩ = some (.int .u8 0) := (blk_cell HPb.out 1).trans rfl
          have cf1_ := blk_frozen HPb.out 1
          have c2_ : V38.cell? ⟨gp, 2, none⟩ = some (.bool false) := (blk_cell HPb.out 2).trans rfl
          have cf2_ := blk_frozen HPb.out 2
          have c3_ : V38.cell? ⟨gp, 3, none⟩ = some (.int .u32 0) := (blk_cell HPb.out 3).trans rfl
          have cf3_ := blk_frozen HPb.out 3
          have c4_ : V38.cell? ⟨gp, 4, none⟩ = some (.slice none 0 0) := (blk_cell HPb.out 4).trans rfl
          have cf4_ := blk_frozen HPb.out 4
          have cl_ := blk_lt HPb.out
          refine wpAnyH_ready (rs := [16]) (by kernel_rfl) (by simp) ?_
          refine AllReadyH.cons rfl (fun K hK => ?_) AllReadyH.nil
          go_simp
          refine hK.out _ _ (NS.mk (Ng.put5 HGc.out hlt_gp hgt_gp HPb.out _ _ _ _ _)) (fun hHeld => ?_)
          clear hK K
          try simp only [Act.put, List.setIfInBounds_toArray, List.set_cons_zero, List.set_cons_succ]
          have hgn := Ng.put5 HGc.out hlt_gp hgt_gp HPb.out (.bool s1) (.int .u8 s2) (.bool s3) (.int .u32 s4) (.slice Ap s5.length cp)
          have hbx := put5s HPb.out (.bool s1) (.int .u8 s2) (.bool s3) (.int .u32 s4) (.slice Ap s5.length cp)
          have hfx := (keep5 V38 gp (.bool s1) (.int .u8 s2) (.bool s3) (.int .u32 s4) (.slice Ap s5.length cp) _ hne.symm).trans HFb.out
          have hrx := row5 HO.out HPb.out (.bool s1) (.int .u8 s2) (.bool s3) (.int .u32 s4) (.slice Ap s5.length cp)
          generalize (((((V38.setCell ⟨gp, 0, none⟩ (.bool s1)).setCell ⟨gp, 1, none⟩ (.int .u8 s2)).setCell ⟨gp, 2, none⟩ (.bool s3)).setCell ⟨gp, 3, none⟩ (.int .u32 s4)).setCell ⟨gp, 4, none⟩ (.slice Ap s5.length cp)) = V39 at hHeld hgn hbx hfx hrx ⊢
          clear HGc HPb HFb HO c0_ c1_ c2_ c3_ c4_ cf0_ cf1_ cf2_ cf3_ cf4_ cl_
          have HGc := Aside0.mk hgn
          have HPb := Aside0.mk hbx
          have HFb := Aside0.mk hfx
          have HO := Aside0.mk hrx
          clear hgn hbx hfx hrx
          have c0_ : V39.cell? ⟨gf, 0, none⟩ = some (.int .u8 0) := (blk_cell HFb.out 0).trans rfl
          have cf0_ := blk_frozen HFb.out 0
          have c1_ : V39.cell? ⟨gf, 1, none⟩ = some (.int .u32 0) := (blk_cell HFb.out 1).trans rfl
          have cf1_ := blk_frozen HFb.out 1
          have cl_ := blk_lt HFb.out
          refine wpAnyH_ready (rs := [17]) (by kernel_rfl) (by simp) ?_
          refine AllReadyH.cons rfl (fun K hK => ?_) AllReadyH.nil
          go_simp
          refine hK.out _ _ (NS.mk (Ng.put2 HGc.out hlt_gf hgt_gf HFb.out _ _)) (fun hHeld => ?_)
          clear hK K
          try simp only [Act.put, List.setIfInBounds_toArray, List.set_cons_zero, List.set_cons_succ]
          refine wpAnyH_done (by kernel_rfl) ?_ _
          refine NoPanic.normal ?_
          have hgn := Ng.put2 HGc.out hlt_gf hgt_gf HFb.out (.int .u8 s6) (.int .u32 s7)
          have hbx := (keep2 V39 gf (.int .u8 s6) (.int .u32 s7) _ hne).trans HPb.out
          have hrx := row2 HO.out HFb.out (.int .u8 s6) (.int .u32 s7)
          clear hHeld
          generalize ((V39.setCell ⟨gf, 0, none⟩ (.int .u8 s6)).setCell ⟨gf, 1, none⟩ (.int .u32 s7)) = X39 at hgn hbx hrx ⊢
          clear HGc HPb HFb HO c0_ c1_ cf0_ cf1_ cl_
          have HGc := Aside0.mk hgn
          have HPb := Aside0.mk hbx
          have HO := Aside0.mk hrx
          clear hgn hbx hrx
          have q0 : X39.cell? ⟨g, 0, none⟩ = some (.slice Av l.length cv) := (blk_cell HGc.out.sp.blk 0).trans rfl
          have qf0 := blk_frozen HGc.out.sp.blk 0
          have ql := blk_lt HGc.out.sp.blk
          go_wp2_with fail
          refine (bytes_Clone.calls Ad cd dk dk _ (HDk.out _ (Kd.R_reads' HGc.out.sp.row).2.2) hdc hcl).mono ?_
          rintro e w8 ⟨vd, rfl, hod, hb⟩
          obtain ⟨Ae, ce, rfl⟩ := Kd.R_slice hod
          clear q0 qf0 ql
          have HNE : Aside0 (∀ k, (Value.slice Ap s5.length cp).ownBlock = some k → (Value.slice Ae dk.length ce).ownBlock ≠ some k) := ⟨fun k h1 h2 => absurd (Kd.R_lt HO.out k h1) (Nat.not_lt.mpr (Kd.R_base hod k h2))⟩
          have HG8 : Aside0 (Ng wb w w8 g (.slice Av l.length cv) m l) := ⟨HGc.out.below hb⟩
          have HP8 := Aside0.mk (blk_below HPb.out hb)
          have HO8 := Aside0.mk (Kd.R_below HO.out hb)
          have HD8 := Aside0.mk (Kd.R_lower hod (show w.heap.size ≤ _ from HGc.out.bel.size))
          clear hod hb HGc HPb HO
          have q0 : w8.cell? ⟨g, 0, none⟩ = some (.slice Av l.length cv) := (blk_cell HG8.out.sp.blk 0).trans rfl
          have qf0 := blk_frozen HG8.out.sp.blk 0
          have ql := blk_lt HG8.out.sp.blk
          go_upto_region 13 with fail
          have hfin : Fin wb w (w8.setCell ⟨g, 0, none⟩ (.slice Ae dk.length ce)) g m (.slice Ae dk.length ce) dk (.slice Ap s5.length cp) s5 := Fin.of HG8.out HB.out hgb hgl HD8.out HO8.out HNE.out
          have hbx : (w8.setCell ⟨g, 0, none⟩ (.slice Ae dk.length ce)).heap[gp]? = some (.cells #[.bool s1, .int .u8 s2, .bool s3, .int .u32 s4, .slice Ap s5.length cp] 31 (0, 0)) := (Below.heap_setCell _ _ _ _ (by show gp ≠ g; omega)).trans HP8.out
          generalize (w8.setCell ⟨g, 0, none⟩ (.slice Ae dk.length ce)) = We at hfin hbx ⊢
          clear HG8 HP8 HO8 HD8 q0 qf0 ql
          have HFN := Aside0.mk hfin
          have HPb := Aside0.mk hbx
          clear hfin hbx
          have c0_ : We.cell? ⟨gp, 0, none⟩ = some (.bool s1) := (blk_cell HPb.out 0).trans rfl
          have cf0_ := blk_frozen HPb.out 0
          have c1_ : We.cell? ⟨gp, 1, none⟩ = some (.int .u8 s2) := (blk_cell HPb.out 1).trans rfl
          have cf1_ := blk_frozen HPb.out 1
          have c2_ : We.cell? ⟨gp, 2, none⟩ = some (.bool s3) := (blk_cell HPb.out 2).trans rfl
          have cf2_ := blk_frozen HPb.out 2
          have c3_ : We.cell? ⟨gp, 3, none⟩ = some (.int .u32 s4) := (blk_cell HPb.out 3).trans rfl
          have cf3_ := blk_frozen HPb.out 3
          have c4_ : We.cell? ⟨gp, 4, none⟩ = some (.slice Ap s5.length cp) := (blk_cell HPb.out 4).trans rfl
          have cf4_ := blk_frozen HPb.out 4
          have cl_ := blk_lt HPb.out
          have p0 : We.cell? ⟨w.heap.size, 0, none⟩ = some (.bool false) := (blk_cell HFN.out.piece 0).trans rfl
          have pf0 := blk_frozen HFN.out.piece 0
          have p1 : We.cell? ⟨w.heap.size, 1, none⟩ = some (.int .u8 0) := (blk_cell HFN.out.piece 1).trans rfl
          have pf1 := blk_frozen HFN.out.piece 1
          have p2 : We.cell? ⟨w.heap.size, 2, none⟩ = some (.bool false) := (blk_cell HFN.out.piece 2).trans rfl
          have pf2 := blk_frozen HFN.out.piece 2
          have p3 : We.cell? ⟨w.heap.size, 3, none⟩ = some (.int .u32 0) := (blk_cell HFN.out.piece 3).trans rfl
          have pf3 := blk_frozen HFN.out.piece 3
          have p4 : We.cell? ⟨w.heap.size, 4, none⟩ = some (.slice none 0 0) := (blk_cell HFN.out.piece 4).trans rfl
          have pf4 := blk_frozen HFN.out.piece 4
          have r0_ : We.cell? ⟨w.heap.size + 1, 0, none⟩ = some (.int .u8 0) := (blk_cell HFN.out.fault 0).trans rfl
          have rf0 := blk_frozen HFN.out.fault 0
          have r1_ : We.cell? ⟨w.heap.size + 1, 1, none⟩ = some (.int .u32 0) := (blk_cell HFN.out.fault 1).trans rfl
          have rf1 := blk_frozen HFN.out.fault 1
          have pl := blk_lt HFN.out.piece
          have rl := blk_lt HFN.out.fault
          go_wp2_with fail
          exact bodyPost_ret (v := .tuple #[.agg #[.bool s1, .int .u8 s2, .bool s3, .int .u32 s4, .slice Ap s5.length cp], .agg #[.int .u8 0, .int .u32 0], .bool true]) (by simp [results, Tryd.results12, go_sem, p0, p1, p2, p3, p4, r0_, r1_]) rfl (NextPost.fin HFN.out)
      · go_simp
        refine hK.out _ _ (NS.mk ((HGc.out.below (below_drew (Below.refl _ _))).below (below_alloc (Below.refl _ _) _))) (fun hHeld => ?_)
        clear hK K
        try simp only [Act.put, List.setIfInBounds_toArray, List.set_cons_zero, List.set_cons_succ]
        have hbx : (V36.alloc (.cells #[.bool false, .int .u8 0, .bool false, .int .u32 0, .slice none 0 0] 31)).heap[V36.heap.size]? = some (.cells #[.bool false, .int .u8 0, .bool false, .int .u32 0, .slice none 0 0] 31 (0, 0)) := last_at V36 _ _ rfl
        have hgn : Ng wb w (V36.alloc (.cells #[.bool false, .int .u8 0, .bool false, .int .u32 0, .slice none 0 0] 31)) g (.slice Av l.length cv) m l := HGc.out.below (below_alloc (Below.refl _ _) _)
        have hlt_gp : w.heap.size + 1 < V36.heap.size := HGc.out.lt
        have hgt_gp : g < V36.heap.size := blk_lt HGc.out.sp.blk
        have hne_ : gf < V36.heap.size := blk_lt HFb.out
        have hHFbn := blk_alloc HFb.out (.cells #[.bool false, .int .u8 0, .bool false, .int .u32 0, .slice none 0 0] 31)
        generalize V36.alloc (.cells #[.bool false, .int .u8 0, .bool false, .int .u32 0, .slice none 0 0] 31) = V40 at hHeld hbx hgn hHFbn ⊢
        generalize V36.heap.size = gp at hbx hlt_gp hgt_gp hne_ ⊢
        clear HGc HFb
        have HGc := Aside0.mk hgn
        have HPb := Aside0.mk hbx
        clear hgn hbx
        have HFb := Aside0.mk hHFbn
        clear hHFbn
        refine wpAnyH_ready (rs := [10]) (by kernel_rfl) (by simp) ?_
        refine (AllReadyH.cons rfl (fun K hK => ?_) AllReadyH.nil)
        · go_simp
          go_at_call 18
          with_reducible refine (wsframe_Get.calls kk Av cv tk m s1 s2 s3 s4 s5 s6 s7 _ (HTk.out _ (Kd.R_reads' hHeld.1.out.sp.row).2.2) htc HHG.out (HC.out.below hHeld.1.out.bel)).mono ?_
          rintro e V41 ⟨vp, rfl, ho, hb⟩
          obtain ⟨Ap, cp, rfl⟩ := Kd.R_slice ho
          have HO : Aside0 (Kd.R (Kd.int .u8) 5 V41 w.heap.size (fun _ => True) (.slice Ap s5.length cp) s5) := ⟨Kd.R_lower ho (show w.heap.size ≤ _ from hHeld.1.out.bel.size)⟩
          have HGn : Aside0 (Ng wb w V41 g (.slice Av l.length cv) m l) := ⟨hHeld.1.out.below hb⟩
          have HPbn := Aside0.mk (blk_below (blk_drew HPb.out) hb)
          have HFbn := Aside0.mk (blk_below (blk_drew HFb.out) hb)
          clear ho hb HGc HPb HFb
          have HGc := HGn
          clear HGn
          have HPb := HPbn
          clear HPbn
          have HFb := HFbn
          clear HFbn
          refine hK.out _ _ (NS.mk HGc.out) (fun hHeld => ?_)
          clear hK K
          try simp only [Act.put, List.setIfInBounds_toArray, List.set_cons_zero, List.set_cons_succ]
          refine takeN (i := 11) (N := (some 54)) (v := ?v108) (a' := ?a108) rfl rfl (by kernel_rfl) (by kernel_rfl) (by kernel_rfl) (fun _ _ _ h => h) (Or.inl ⟨by rfl, ?hy108⟩) ?ha108 (by assumption) ?rest108
          case hy108 =>
            intro w_ hSw_
            go_simp
            first | done | (with_reducible rfl)
          case ha108 =>
            simp only [Act.put, List.setIfInBounds_toArray, List.set_cons_zero, List.set_cons_succ]
            rfl
          refine takeN (i := 12) (N := (some 66)) (v := ?v109) (a' := ?a109) rfl rfl (by kernel_rfl) (by kernel_rfl) (by kernel_rfl) (fun _ _ _ h => h) (Or.inl ⟨by rfl, ?hy109⟩) ?ha109 (by assumption) ?rest109
          case hy109 =>
            intro w_ hSw_
            go_simp
            first | done | (with_reducible rfl)
          case ha109 =>
            simp only [Act.put, List.setIfInBounds_toArray, List.set_cons_zero, List.set_cons_succ]
            rfl
          refine takeN (i := 13) (N := (some 67)) (v := ?v110) (a' := ?a110) rfl rfl (by kernel_rfl) (by kernel_rfl) (by kernel_rfl) (fun _ _ _ h => h) (Or.inl ⟨by rfl, ?hy110⟩) ?ha110 (by assumption) ?rest110
          case hy110 =>
            intro w_ hSw_
            go_simp
            first | done | (with_reducible rfl)
          case ha110 =>
            simp only [Act.put, List.setIfInBounds_toArray, List.set_cons_zero, List.set_cons_succ]
            rfl
          have hne : gp ≠ gf := by omega
          have c0_ : V41.cell? ⟨gp, 0, none⟩ = some (.bool false) := (blk_cell HPb.out 0).trans rfl
          have cf0_ := blk_frozen HPb.out 0
          have c1_ : V41.cell? ⟨gp, 1, none⟩ = some (.int .u8 0) := (blk_cell HPb.out 1).trans rfl
          have cf1_ := blk_frozen HPb.out 1
          have c2_ : V41.cell? ⟨gp, 2, none⟩ = some (.bool false) := (blk_cell HPb.out 2).trans rfl
          have cf2_ := blk_frozen HPb.out 2
          have c3_ : V41.cell? ⟨gp, 3, none⟩ = some (.int .u32 0) := (blk_cell HPb.out 3).trans rfl
          have cf3_ := blk_frozen HPb.out 3
          have c4_ : V41.cell? ⟨gp, 4, none⟩ = some (.slice none 0 0) := (blk_cell HPb.out 4).trans rfl
          have cf4_ := blk_frozen HPb.out 4
          have cl_ := blk_lt HPb.out
          refine wpAnyH_ready (rs := [16]) (by kernel_rfl) (by simp) ?_
          refine AllReadyH.cons rfl (fun K hK => ?_) AllReadyH.nil
          go_simp
          refine hK.out _ _ (NS.mk (Ng.put5 HGc.out hlt_gp hgt_gp HPb.out _ _ _ _ _)) (fun hHeld => ?_)
          clear hK K
          try simp only [Act.put, List.setIfInBounds_toArray, List.set_cons_zero, List.set_cons_succ]
          have hgn := Ng.put5 HGc.out hlt_gp hgt_gp HPb.out (.bool s1) (.int .u8 s2) (.bool s3) (.int .u32 s4) (.slice Ap s5.length cp)
          have hbx := put5s HPb.out (.bool s1) (.int .u8 s2) (.bool s3) (.int .u32 s4) (.slice Ap s5.length cp)
          have hfx := (keep5 V41 gp (.bool s1) (.int .u8 s2) (.bool s3) (.int .u32 s4) (.slice Ap s5.length cp) _ hne.symm).trans HFb.out
          have hrx := row5 HO.out HPb.out (.bool s1) (.int .u8 s2) (.bool s3) (.int .u32 s4) (.slice Ap s5.length cp)
          generalize (((((V41.setCell ⟨gp, 0, none⟩ (.bool s1)).setCell ⟨gp, 1, none⟩ (.int .u8 s2)).setCell ⟨gp, 2, none⟩ (.bool s3)).setCell ⟨gp, 3, none⟩ (.int .u32 s4)).setCell ⟨gp, 4, none⟩ (.slice Ap s5.length cp)) = V42 at hHeld hgn hbx hfx hrx ⊢
          clear HGc HPb HFb HO c0_ c1_ c2_ c3_ c4_ cf0_ cf1_ cf2_ cf3_ cf4_ cl_
          have HGc := Aside0.mk hgn
          have HPb := Aside0.mk hbx
          have HFb := Aside0.mk hfx
          have HO := Aside0.mk hrx
          clear hgn hbx hfx hrx
          have c0_ : V42.cell? ⟨gf, 0, none⟩ = some (.int .u8 0) := (blk_cell HFb.out 0).trans rfl
          have cf0_ := blk_frozen HFb.out 0
          have c1_ : V42.cell? ⟨gf, 1, none⟩ = some (.int .u32 0) := (blk_cell HFb.out 1).trans rfl
          have cf1_ := blk_frozen HFb.out 1
          have cl_ := blk_lt HFb.out
          refine wpAnyH_ready (rs := [17]) (by kernel_rfl) (by simp) ?_
          refine AllReadyH.cons rfl (fun K hK => ?_) AllReadyH.nil
          go_simp
          refine hK.out _ _ (NS.mk (Ng.put2 HGc.out hlt_gf hgt_gf HFb.out _ _)) (fun hHeld => ?_)
          clear hK K
          try simp only [Act.put, List.setIfInBounds_toArray, List.set_cons_zero, List.set_cons_succ]
          refine wpAnyH_done (by kernel_rfl) ?_ _
          refine NoPanic.normal ?_
          have hgn := Ng.put2 HGc.out hlt_gf hgt_gf HFb.out (.int .u8 s6) (.int .u32 s7)
          have hbx := (keep2 V42 gf (.int .u8 s6) (.int .u32 s7) _ hne).trans HPb.out
          have hrx := row2 HO.out HFb.out (.int .u8 s6) (.int .u32 s7)
          clear hHeld
          generalize ((V42.setCell ⟨gf, 0, none⟩ (.int .u8 s6)).setCell ⟨gf, 1, none⟩ (.int .u32 s7)) = X42 at hgn hbx hrx ⊢
          clear HGc HPb HFb HO c0_ c1_ cf0_ cf1_ cl_
          have HGc := Aside0.mk hgn
          have HPb := Aside0.mk hbx
          have HO := Aside0.mk hrx
          clear hgn hbx hrx
          have q0 : X42.cell? ⟨g, 0, none⟩ = some (.slice Av l.length cv) := (blk_cell HGc.out.sp.blk 0).trans rfl
          have qf0 := blk_frozen HGc.out.sp.blk 0
          have ql := blk_lt HGc.out.sp.blk
          go_wp2_with fail
          refine (bytes_Clone.calls Ad cd dk dk _ (HDk.out _ (Kd.R_reads' HGc.out.sp.row).2.2) hdc hcl).mono ?_
          rintro e w8 ⟨vd, rfl, hod, hb⟩
          obtain ⟨Ae, ce, rfl⟩ := Kd.R_slice hod
          clear q0 qf0 ql
          have HNE : Aside0 (∀ k, (Value.slice Ap s5.length cp).ownBlock = some k → (Value.slice Ae dk.length ce).ownBlock ≠ some k) := ⟨fun k h1 h2 => absurd (Kd.R_lt HO.out k h1) (Nat.not_lt.mpr (Kd.R_base hod k h2))⟩
          have HG8 : Aside0 (Ng wb w w8 g (.slice Av l.length cv) m l) := ⟨HGc.out.below hb⟩
          have HP8 := Aside0.mk (blk_below HPb.out hb)
          have HO8 := Aside0.mk (Kd.R_below HO.out hb)
          have HD8 := Aside0.mk (Kd.R_lower hod (show w.heap.size ≤ _ from HGc.out.bel.size))
          clear hod hb HGc HPb HO
          have q0 : w8.cell? ⟨g, 0, none⟩ = some (.slice Av l.length cv) := (blk_cell HG8.out.sp.blk 0).trans rfl
          have qf0 := blk_frozen HG8.out.sp.blk 0
          have ql := blk_lt HG8.out.sp.blk
          go_upto_region 13 with fail
          have hfin : Fin wb w (w8.setCell ⟨g, 0, none⟩ (.slice Ae dk.length ce)) g m (.slice Ae dk.length ce) dk (.slice Ap s5.length cp) s5 := Fin.of HG8.out HB.out hgb hgl HD8.out HO8.out HNE.out
          have hbx : (w8.setCell ⟨g, 0, none⟩ (.slice Ae dk.length ce)).heap[gp]? = some (.cells #[.bool s1, .int .u8 s2, .bool s3, .int .u32 s4, .slice Ap s5.length cp] 31 (0, 0)) := (Below.heap_setCell _ _ _ _ (by show gp ≠ g; omega)).trans HP8.out
          generalize (w8.setCell ⟨g, 0, none⟩ (.slice Ae dk.length ce)) = We at hfin hbx ⊢
          clear HG8 HP8 HO8 HD8 q0 qf0 ql
          have HFN := Aside0.mk hfin
          have HPb := Aside0.mk hbx
          clear hfin hbx
          have c0_ : We.cell? ⟨gp, 0, none⟩ = some (.bool s1) := (blk_cell HPb.out 0).trans rfl
          have cf0_ := blk_frozen HPb.out 0
          have c1_ : We.cell? ⟨gp, 1, none⟩ = some (.int .u8 s2) := (blk_cell HPb.out 1).trans rfl
          have cf1_ := blk_frozen HPb.out 1
          have c2_ : We.cell? ⟨gp, 2, none⟩ = some (.bool s3) := (blk_cell HPb.out 2).trans rfl
          have cf2_ := blk_frozen HPb.out 2
          have c3_ : We.cell? ⟨gp, 3, none⟩ = some (.int .u32 s4) := (blk_cell HPb.out 3).trans rfl
          have cf3_ := blk_frozen HPb.out 3
          have c4_ : We.cell? ⟨gp, 4, none⟩ = some (.slice Ap s5.length cp) := (blk_cell HPb.out 4).trans rfl
          have cf4_ := blk_frozen HPb.out 4
          have cl_ := blk_lt HPb.out
          have p0 : We.cell? ⟨w.heap.size, 0, none⟩ = some (.bool false) := (blk_cell HFN.out.piece 0).trans rfl
          have pf0 := blk_frozen HFN.out.piece 0
          have p1 : We.cell? ⟨w.heap.size, 1, none⟩ = some (.int .u8 0) := (blk_cell HFN.out.piece 1).trans rfl
          have pf1 := blk_frozen HFN.out.piece 1
          have p2 : We.cell? ⟨w.heap.size, 2, none⟩ = some (.bool false) := (blk_cell HFN.out.piece 2).trans rfl
          have pf2 := blk_frozen HFN.out.piece 2
          have p3 : We.cell? ⟨w.heap.size, 3, none⟩ = some (.int .u32 0) := (blk_cell HFN.out.piece 3).trans rfl
          have pf3 := blk_frozen HFN.out.piece 3
          have p4 : We.cell? ⟨w.heap.size, 4, none⟩ = some (.slice none 0 0) := (blk_cell HFN.out.piece 4).trans rfl
          have pf4 := blk_frozen HFN.out.piece 4
          have r0_ : We.cell? ⟨w.heap.size + 1, 0, none⟩ = some (.int .u8 0) := (blk_cell HFN.out.fault 0).trans rfl
          have rf0 := blk_frozen HFN.out.fault 0
          have r1_ : We.cell? ⟨w.heap.size + 1, 1, none⟩ = some (.int .u32 0) := (blk_cell HFN.out.fault 1).trans rfl
          have rf1 := blk_frozen HFN.out.fault 1
          have pl := blk_lt HFN.out.piece
          have rl := blk_lt HFN.out.fault
          go_wp2_with fail
          exact bodyPost_ret (v := .tuple #[.agg #[.bool s1, .int .u8 s2, .bool s3, .int .u32 s4, .slice Ap s5.length cp], .agg #[.int .u8 0, .int .u32 0], .bool true]) (by simp [results, Tryd.results12, go_sem, p0, p1, p2, p3, p4, r0_, r1_]) rfl (NextPost.fin HFN.out)
end Go.Proofs.YtkhlldhcmgkioaaDoor.PAll
/- What Next answers where the head is a fault. -/
namespace Go.Proofs.YtkhlldhcmgkioaaDoor.PAll
open Go.RowKit Go.Proofs.YtkhlldhcmgkioaaDoorW.PrintWords Go.Proofs.YtkhlldhcmgkioaaDoorW.PrintLast Go.Proofs.YtkhlldhcmgkioaaDoorW.PrintMore 
set_option linter.unusedVariables false
set_option linter.unusedSimpArgs false
theorem NB.mk {W : World} {gb : Nat} {r3 : Int} (h : W.heap[gb]? = some (.cells #[.int .u8 3, .int .u32 r3] 33 (0, 0))) : Aside0 (W.heap[gb]? = some (.cells #[.int .u8 3, .int .u32 r3] 33 (0, 0))) ∧ W.cell? ⟨gb, 0, none⟩ = some (.int .u8 3) ∧ W.cell? ⟨gb, 1, none⟩ = some (.int .u32 r3) := ⟨⟨h⟩, (blk_cell h 0).trans rfl, (blk_cell h 1).trans rfl⟩
structure FinB (wb w W : World) (g : Nat) (m : Bool) : Prop where
  bel : Below wb.heap.size wb W
  base : wb.heap.size ≤ w.heap.size
  old : ∀ k, k < w.heap.size → k ≠ g → W.heap[k]? = w.heap[k]?
  low : g < w.heap.size
  blk : W.heap[g]? = some (.cells #[.slice none 0 0, .bool m, .bool true] 47 (0, 0))
  piece : W.heap[w.heap.size]? = some (.cells #[.bool false, .int .u8 0, .bool false, .int .u32 0, .slice none 0 0] 31 (0, 0))
  fault : W.heap[w.heap.size + 1]? = some (.cells #[.int .u8 0, .int .u32 0] 33 (0, 0))
theorem FinB.of {wb w W : World} {g : Nat} {m : Bool} {v1 : Value} {l : List Int} (h : Ng wb w W g v1 m l) (hB : Below wb.heap.size wb w) (hgb : wb.heap.size ≤ g) (hgl : g < w.heap.size) : FinB wb w ((W.setCell ⟨g, 2, none⟩ (.bool true)).setCell ⟨g, 0, none⟩ (.slice none 0 0)) g m := by
  have h0 : ∀ j, j ≠ g → ((W.setCell ⟨g, 2, none⟩ (.bool true)).setCell ⟨g, 0, none⟩ (.slice none 0 0)).heap[j]? = W.heap[j]? := fun j hj => (Below.heap_setCell _ _ _ _ hj).trans (Below.heap_setCell _ _ _ _ hj)
  exact ⟨Below.setCell (Below.setCell (below_step hB h.bel) (by show _ ≤ g; omega) _) (by show _ ≤ g; omega) _, hB.size, fun k hk hkg => (h0 k hkg).trans (h.bel.block k hk), hgl, blk_put (blk_put h.sp.blk 2 _ rfl) 0 _ rfl, (h0 _ (by omega)).trans h.piece, (h0 _ (by omega)).trans h.fault⟩
def NextBad (wb : World) (g : Nat) (m : Bool) (r3 : Int) (w : World) (e : Ending) (w' : World) : Prop := e = .returned (.tuple #[.agg #[.bool false, .int .u8 0, .bool false, .int .u32 0, .slice none 0 0], .agg #[.int .u8 3, .int .u32 r3], .bool true]) ∧ Sp wb w' g (.slice none 0 0) m true [] ∧ Below wb.heap.size wb w' ∧ ∀ k, k < w.heap.size → k ≠ g → w'.heap[k]? = w.heap[k]?
theorem NextBad.fin {wb w W U : World} {g : Nat} {m : Bool} {r3 : Int} (h : FinB wb w W g m) (hb : Below w.heap.size W U) : NextBad wb g m r3 w (.returned (.tuple #[.agg #[.bool false, .int .u8 0, .bool false, .int .u32 0, .slice none 0 0], .agg #[.int .u8 3, .int .u32 r3], .bool true])) U := ⟨rfl, ⟨(hb.block g h.low).trans h.blk, Kd.R_nil _ _ _ _ _⟩, h.bel.trans (hb.mono h.base), fun k hk hkg => (hb.block k hk).trans (h.old k hk hkg)⟩
end Go.Proofs.YtkhlldhcmgkioaaDoor.PAll

