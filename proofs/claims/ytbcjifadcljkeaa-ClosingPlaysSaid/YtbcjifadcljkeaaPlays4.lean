import Derived.Test.YtbcjifadcljkeaaPlays2
namespace Go.Proofs.Ytbcjifadcljkeaa
open Go.RowKit Go.Proofs.YtbcjifadcljkeaaW.PrintWords Go.Proofs.YtbcjifadcljkeaaW.PrintLast Go.Proofs.YtbcjifadcljkeaaW.PrintMore Go.Proofs.Ytbcjifadcljkeaa.PAll Go.Proofs.Ytbcjifadcljkeaa.U
set_option linter.unusedVariables false
set_option maxHeartbeats 16000000 in
set_option maxRecDepth 100000 in
theorem plays_none (l : List S39) (hat : sendsP l = (-1)) (A1 : Option Addr) (c1 : Nat) (w : World) (hr : Kd.C k39 w A1 l.length l) (hc1 : l.length ≤ c1) (hl : l.length ≤ 9223372036854775807) : Calls Try.prog 5 #[.slice A1 l.length c1] w fun e w' => e = .returned (.bool true) ∧ Below w.heap.size w w' := by
  have HR0 := Aside0.mk hr
  have HS := Aside0.mk (sends_f l hl (l.length + 10) (Nat.le_refl _))
  clear hr
  go_enter Try.func5, Try.ntmps5
  go_wp2_with fail
  · refine (louverlaw19_fixed.yes _).mono ?_
    rintro e w1 ⟨rfl, hb⟩
    go_wp2_with fail
    go_ret
    exact ⟨rfl, hb⟩
  refine (closing_New.calls false false 0 0 0 w w (Below.refl _ _) rfl).mono ?_
  rintro e w1 ⟨g, rfl, hI, hB, hb⟩
  have HI1 := Aside0.mk hI
  have HB1 := Aside0.mk hB
  clear hI hB
  go_wp2_with fail
  refine (louverref19_Sends.calls (l.length + 10) A1 c1 l (sendsP l) _ (Kd.C_below HR0.out hb) hc1 HS.out).mono ?_
  rw [hat]
  rintro e w2 ⟨rfl, hb2⟩
  have HI2 := Aside0.mk (HI1.out.below hb2)
  have HB2 := Aside0.mk (below_step HB1.out hb2)
  clear hb2 HI1 HB1 HS hb
  go_wp2_with fail
  go_loopw [20] (fun i wr => PlaysR l w g i wr) (fun i _ => l.length - (intOf i).toNat)
  case atStart => exact ⟨0, false, false, 0, 0, 0, rfl, Nat.zero_le _, ⟨rfl, by simp, fun _ => ⟨rfl, rfl, rfl⟩⟩, HI2.out, HB2.out⟩
  case round =>
    obtain ⟨j, s0, s1, c, e, ec, rfl, hj, hD, hI, hB⟩ := hrel
    clear HI2 HB2
    have HI := Aside0.mk hI
    have HB := Aside0.mk hB
    have hg : g < wr.heap.size := hI.lt
    clear hI hB
    by_cases hlt : j < l.length
    · obtain ⟨ad, rfl, hx0, hx1, hx2⟩ := at_T39 HR0.out (j : Int) (by omega) (by omega)
      have hy0 := (HB.out.cell (World.block_lt_of_cell? _ _ hx0)).trans hx0
      have hy1 := (HB.out.cell (World.block_lt_of_cell? _ _ hx1)).trans hx1
      have hy2 := (HB.out.cell (World.block_lt_of_cell? _ _ hx2)).trans hx2
      rw [Int.toNat_natCast, rd_nat39 l j hlt] at hy0 hy1 hy2
      clear hx0 hx1 hx2
      have hwc := Aside0.mk (fun h hs => way_close hD hlt h 7000 (Nat.le_refl _) hs)
      have hwg := Aside0.mk (fun h => way_got hD hlt h 7000 (Nat.le_refl _))
      have hwb := Aside0.mk (fun h => way_bad hD hlt h 7000 (Nat.le_refl _))
      have hwk := Aside0.mk (way_cut hD hlt)
      generalize l[j] = o at *
      by_cases h300 : (o.f2.size : Int) > 300
      · have h3 : decide ((o.f2.size : Int) > 300) = true := decide_eq_true h300
        go_wp2_with fail
        refine (louverlaw19_fixed.yes _).mono ?_
        rintro e w3 ⟨rfl, hb⟩
        go_wp2_with fail
        go_ret
        exact ⟨rfl, below_step (below_alloc HB.out _) hb⟩
      · have h3 : decide ((o.f2.size : Int) > 300) = false := decide_eq_false h300
        have HZ : Aside0 (o.f2.size ≤ 3000) := ⟨by omega⟩
        go_upto_block 2 with fail
        (try simp only [Act.put, List.setIfInBounds_toArray, List.set_cons_zero, List.set_cons_succ])
        go_cut [8, 9] (fun v8 v9 wc => After l w g wr.heap.size o j v8 v9 wc)
        case first =>
          have h4 : o.f0 = 0 ∨ (o.f0 ≠ 0 ∧ o.f0 = 1) ∨ (o.f0 ≠ 0 ∧ o.f0 ≠ 1 ∧ o.f0 = 2) ∨ (o.f0 ≠ 0 ∧ o.f0 ≠ 1 ∧ o.f0 ≠ 2) := by omega
          rcases h4 with k | k | k | k
          · have k0b : (o.f0 == 0) = true := by simp [k]
            have HKK := Aside0.mk k
            clear k
            rcases hwc.out HKK.out HZ.out with ⟨t0, t1, c', e', ec', hf, hD', hj0, hs0⟩ | ⟨t0, t1, c', e', ec', hf, hD', hne⟩
            · have HD' := Aside0.mk hD'
              have HF := Aside0.mk hf
              clear hf hD'
              have HN := Aside0.mk (And.intro hj0 hs0)
              clear hj0 hs0
              go_wp2_with fail
              refine (closing_Door_Close.calls 7000 g s0 s1 c e ec o.f1 o.f2 true 8 false 0 (dataC o.f1 o.f2) true t0 t1 c' e' ec' w _ ((HI.out.alloc _).alloc _) (below_alloc (below_alloc HB.out _) _) HF.out).mono ?_
              rintro e w3 ⟨v, rfl, ho, hI3, hB3, hk3⟩
              obtain ⟨A, cp, rfl⟩ := Kd.R_slice ho
              have hp3 : w3.heap[wr.heap.size + 1]? = some (.cells #[.bool false, .int .u8 0, .bool false, .int .u32 0, .slice none 0 0] 27 (0, 0)) := hk3.blk (last_at _ _ _ (by simp)) (by omega) (by simp)
              have hq3 : w3.heap[wr.heap.size]? = some (.cells #[.int .i64 o.f0, .int .u32 o.f1, .string o.f2] 39 (0, 0)) := hk3.blk (blk_alloc (last_at _ _ _ rfl) _) (by omega) (by simp)
              have hr2 := Kd.R_types (Kd.R_types ho hI3.1 (by intro q hq; simp [Kd.int, Kd.scalar] at hq; omega)) hp3 (by intro q hq; simp [Kd.int, Kd.scalar] at hq; omega)
              have hR3 : ∀ V : World, (∀ k, k ≠ wr.heap.size + 1 → V.heap[k]? = w3.heap[k]?) → V.heap[wr.heap.size + 1]? = some (.cells #[.bool true, .int .u8 8, .bool false, .int .u32 0, .slice A (dataC o.f1 o.f2).length cp] 27 (0, 0)) → V.heap.size = w3.heap.size → Below w.heap.size w V → Rd w g wr.heap.size (wr.heap.size + 1) t0 t1 c' e' ec' o true 8 A (dataC o.f1 o.f2) cp V := fun V hV hp hs hB =>
                ⟨hB, is_mk ((hV g (by omega)).trans hI3.1) hI3.2, (hV _ (by omega)).trans hq3, hp, fun V' hV' => (Kd.R_reads' (Kd.R_step hr2 (fun k hk hlt => (hV'.2 k (by omega) hk.1.2 (by simp)).trans (hV k hk.2)))).2.2, by omega, by omega⟩
              have f0 := blk_frozen hp3 0
              have f1 := blk_frozen hp3 1
              have f2 := blk_frozen hp3 2
              have f3 := blk_frozen hp3 3
              have f4 := blk_frozen hp3 4
              have c0_ : w3.cell? ⟨wr.heap.size + 1, 0, none⟩ = some (.bool false) := (blk_cell hp3 0).trans rfl
              have c1_ : w3.cell? ⟨wr.heap.size + 1, 1, none⟩ = some (.int .u8 0) := (blk_cell hp3 1).trans rfl
              have c2_ : w3.cell? ⟨wr.heap.size + 1, 2, none⟩ = some (.bool false) := (blk_cell hp3 2).trans rfl
              have c3_ : w3.cell? ⟨wr.heap.size + 1, 3, none⟩ = some (.int .u32 0) := (blk_cell hp3 3).trans rfl
              have c4_ : w3.cell? ⟨wr.heap.size + 1, 4, none⟩ = some (.slice none 0 0) := (blk_cell hp3 4).trans rfl
              have q2 : w3.cell? ⟨wr.heap.size, 2, none⟩ = some (.string o.f2) := (blk_cell hq3 2).trans rfl
              have lp : wr.heap.size + 1 < w3.heap.size := blk_lt hp3
              have hput := put5 hp3 rfl (.bool true) (.int .u8 8) (.bool false) (.int .u32 0) (.slice A (dataC o.f1 o.f2).length cp)
              dsimp only at hput
              have HR := Aside0.mk (hR3 _ hput.2.1 hput.1 hput.2.2.1 (hput.2.2.2 _ (by have := HI.out.2; have := HI.out.lt; have := HB.out.size; omega) _ hB3))
              clear hput hR3 hr2 hp3 hq3 ho hI3 hB3 hk3
              go_wp2_with fail
              go_meet
              case rel => exact ⟨_, _, _, _, _, o.f2, _, _, HD'.out, HZ.out, rfl, .inl ⟨rfl, HN.out.1, HN.out.2, HR.out⟩⟩
            · have HD' := Aside0.mk hD'
              have HF := Aside0.mk hf
              clear hf hD'
              have HN := Aside0.mk hne
              clear hne
              go_wp2_with fail
              refine (closing_Door_Close.calls 7000 g s0 s1 c e ec o.f1 o.f2 false 0 false 0 [] false t0 t1 c' e' ec' w _ ((HI.out.alloc _).alloc _) (below_alloc (below_alloc HB.out _) _) HF.out).mono ?_
              rintro e w3 ⟨v, rfl, ho, hI3, hB3, hk3⟩
              obtain ⟨A, cp, rfl⟩ := Kd.R_slice ho
              have hp3 : w3.heap[wr.heap.size + 1]? = some (.cells #[.bool false, .int .u8 0, .bool false, .int .u32 0, .slice none 0 0] 27 (0, 0)) := hk3.blk (last_at _ _ _ (by simp)) (by omega) (by simp)
              have hq3 : w3.heap[wr.heap.size]? = some (.cells #[.int .i64 o.f0, .int .u32 o.f1, .string o.f2] 39 (0, 0)) := hk3.blk (blk_alloc (last_at _ _ _ rfl) _) (by omega) (by simp)
              have hr2 := Kd.R_types (Kd.R_types ho hI3.1 (by intro q hq; simp [Kd.int, Kd.scalar] at hq; omega)) hp3 (by intro q hq; simp [Kd.int, Kd.scalar] at hq; omega)
              have hR3 : ∀ V : World, (∀ k, k ≠ wr.heap.size + 1 → V.heap[k]? = w3.heap[k]?) → V.heap[wr.heap.size + 1]? = some (.cells #[.bool false, .int .u8 0, .bool false, .int .u32 0, .slice A (([] : List Int)).length cp] 27 (0, 0)) → V.heap.size = w3.heap.size → Below w.heap.size w V → Rd w g wr.heap.size (wr.heap.size + 1) t0 t1 c' e' ec' o false 0 A (([] : List Int)) cp V := fun V hV hp hs hB =>
                ⟨hB, is_mk ((hV g (by omega)).trans hI3.1) hI3.2, (hV _ (by omega)).trans hq3, hp, fun V' hV' => (Kd.R_reads' (Kd.R_step hr2 (fun k hk hlt => (hV'.2 k (by omega) hk.1.2 (by simp)).trans (hV k hk.2)))).2.2, by omega, by omega⟩
              have f0 := blk_frozen hp3 0
              have f1 := blk_frozen hp3 1
              have f2 := blk_frozen hp3 2
              have f3 := blk_frozen hp3 3
              have f4 := blk_frozen hp3 4
              have c0_ : w3.cell? ⟨wr.heap.size + 1, 0, none⟩ = some (.bool false) := (blk_cell hp3 0).trans rfl
              have c1_ : w3.cell? ⟨wr.heap.size + 1, 1, none⟩ = some (.int .u8 0) := (blk_cell hp3 1).trans rfl
              have c2_ : w3.cell? ⟨wr.heap.size + 1, 2, none⟩ = some (.bool false) := (blk_cell hp3 2).trans rfl
              have c3_ : w3.cell? ⟨wr.heap.size + 1, 3, none⟩ = some (.int .u32 0) := (blk_cell hp3 3).trans rfl
              have c4_ : w3.cell? ⟨wr.heap.size + 1, 4, none⟩ = some (.slice none 0 0) := (blk_cell hp3 4).trans rfl
              have q2 : w3.cell? ⟨wr.heap.size, 2, none⟩ = some (.string o.f2) := (blk_cell hq3 2).trans rfl
              have lp : wr.heap.size + 1 < w3.heap.size := blk_lt hp3
              have hput := put5 hp3 rfl (.bool false) (.int .u8 0) (.bool false) (.int .u32 0) (.slice A (([] : List Int)).length cp)
              dsimp only at hput
              have HR := Aside0.mk (hR3 _ hput.2.1 hput.1 hput.2.2.1 (hput.2.2.2 _ (by have := HI.out.2; have := HI.out.lt; have := HB.out.size; omega) _ hB3))
              clear hput hR3 hr2 hp3 hq3 ho hI3 hB3 hk3
              go_wp2_with fail
              go_meet
              case rel => exact ⟨_, _, _, _, _, o.f2, _, _, HD'.out, HZ.out, rfl, .inr ⟨rfl, HN.out, HR.out⟩⟩
          · have k0b : (o.f0 == 0) = false := by simp; omega
            have k1b : (o.f0 == 1) = true := by simp [k]
            have HKK := Aside0.mk k
            clear k
            rcases hwg.out HKK.out.2 with ⟨t0, t1, c', e', ec', hf, hD', hj0, hs0⟩ | ⟨t0, t1, c', e', ec', hf, hD', hne⟩
            · have HD' := Aside0.mk hD'
              have HF := Aside0.mk hf
              clear hf hD'
              have HN := Aside0.mk (And.intro hj0 hs0)
              clear hj0 hs0
              go_wp2_with fail
              refine (closing_Door_Got.calls 7000 g s0 s1 c e ec o.f1 true 8 false 0 (dataC o.f1 (⟨#[]⟩ : ByteArray)) true t0 t1 c' e' ec' w _ ((HI.out.alloc _).alloc _) (below_alloc (below_alloc HB.out _) _) HF.out).mono ?_
              rintro e w3 ⟨v, rfl, ho, hI3, hB3, hk3⟩
              obtain ⟨A, cp, rfl⟩ := Kd.R_slice ho
              have hp3 : w3.heap[wr.heap.size + 1]? = some (.cells #[.bool false, .int .u8 0, .bool false, .int .u32 0, .slice none 0 0] 27 (0, 0)) := hk3.blk (last_at _ _ _ (by simp)) (by omega) (by simp)
              have hq3 : w3.heap[wr.heap.size]? = some (.cells #[.int .i64 o.f0, .int .u32 o.f1, .string o.f2] 39 (0, 0)) := hk3.blk (blk_alloc (last_at _ _ _ rfl) _) (by omega) (by simp)
              have hr2 := Kd.R_types (Kd.R_types ho hI3.1 (by intro q hq; simp [Kd.int, Kd.scalar] at hq; omega)) hp3 (by intro q hq; simp [Kd.int, Kd.scalar] at hq; omega)
              have hR3 : ∀ V : World, (∀ k, k ≠ wr.heap.size + 1 → V.heap[k]? = w3.heap[k]?) → V.heap[wr.heap.size + 1]? = some (.cells #[.bool true, .int .u8 8, .bool false, .int .u32 0, .slice A (dataC o.f1 (⟨#[]⟩ : ByteArray)).length cp] 27 (0, 0)) → V.heap.size = w3.heap.size → Below w.heap.size w V → Rd w g wr.heap.size (wr.heap.size + 1) t0 t1 c' e' ec' o true 8 A (dataC o.f1 (⟨#[]⟩ : ByteArray)) cp V := fun V hV hp hs hB =>
                ⟨hB, is_mk ((hV g (by omega)).trans hI3.1) hI3.2, (hV _ (by omega)).trans hq3, hp, fun V' hV' => (Kd.R_reads' (Kd.R_step hr2 (fun k hk hlt => (hV'.2 k (by omega) hk.1.2 (by simp)).trans (hV k hk.2)))).2.2, by omega, by omega⟩
              have f0 := blk_frozen hp3 0
              have f1 := blk_frozen hp3 1
              have f2 := blk_frozen hp3 2
              have f3 := blk_frozen hp3 3
              have f4 := blk_frozen hp3 4
              have c0_ : w3.cell? ⟨wr.heap.size + 1, 0, none⟩ = some (.bool false) := (blk_cell hp3 0).trans rfl
              have c1_ : w3.cell? ⟨wr.heap.size + 1, 1, none⟩ = some (.int .u8 0) := (blk_cell hp3 1).trans rfl
              have c2_ : w3.cell? ⟨wr.heap.size + 1, 2, none⟩ = some (.bool false) := (blk_cell hp3 2).trans rfl
              have c3_ : w3.cell? ⟨wr.heap.size + 1, 3, none⟩ = some (.int .u32 0) := (blk_cell hp3 3).trans rfl
              have c4_ : w3.cell? ⟨wr.heap.size + 1, 4, none⟩ = some (.slice none 0 0) := (blk_cell hp3 4).trans rfl
              have q2 : w3.cell? ⟨wr.heap.size, 2, none⟩ = some (.string o.f2) := (blk_cell hq3 2).trans rfl
              have lp : wr.heap.size + 1 < w3.heap.size := blk_lt hp3
              have hput := put5 hp3 rfl (.bool true) (.int .u8 8) (.bool false) (.int .u32 0) (.slice A (dataC o.f1 (⟨#[]⟩ : ByteArray)).length cp)
              dsimp only at hput
              have HR := Aside0.mk (hR3 _ hput.2.1 hput.1 hput.2.2.1 (hput.2.2.2 _ (by have := HI.out.2; have := HI.out.lt; have := HB.out.size; omega) _ hB3))
              clear hput hR3 hr2 hp3 hq3 ho hI3 hB3 hk3
              go_wp2_with fail
              go_meet
              case rel => exact ⟨_, _, _, _, _, (⟨#[]⟩ : ByteArray), _, _, HD'.out, (by decide), rfl, .inl ⟨rfl, HN.out.1, HN.out.2, HR.out⟩⟩
            · have HD' := Aside0.mk hD'
              have HF := Aside0.mk hf
              clear hf hD'
              have HN := Aside0.mk hne
              clear hne
              go_wp2_with fail
              refine (closing_Door_Got.calls 7000 g s0 s1 c e ec o.f1 false 0 false 0 [] false t0 t1 c' e' ec' w _ ((HI.out.alloc _).alloc _) (below_alloc (below_alloc HB.out _) _) HF.out).mono ?_
              rintro e w3 ⟨v, rfl, ho, hI3, hB3, hk3⟩
              obtain ⟨A, cp, rfl⟩ := Kd.R_slice ho
              have hp3 : w3.heap[wr.heap.size + 1]? = some (.cells #[.bool false, .int .u8 0, .bool false, .int .u32 0, .slice none 0 0] 27 (0, 0)) := hk3.blk (last_at _ _ _ (by simp)) (by omega) (by simp)
              have hq3 : w3.heap[wr.heap.size]? = some (.cells #[.int .i64 o.f0, .int .u32 o.f1, .string o.f2] 39 (0, 0)) := hk3.blk (blk_alloc (last_at _ _ _ rfl) _) (by omega) (by simp)
              have hr2 := Kd.R_types (Kd.R_types ho hI3.1 (by intro q hq; simp [Kd.int, Kd.scalar] at hq; omega)) hp3 (by intro q hq; simp [Kd.int, Kd.scalar] at hq; omega)
              have hR3 : ∀ V : World, (∀ k, k ≠ wr.heap.size + 1 → V.heap[k]? = w3.heap[k]?) → V.heap[wr.heap.size + 1]? = some (.cells #[.bool false, .int .u8 0, .bool false, .int .u32 0, .slice A (([] : List Int)).length cp] 27 (0, 0)) → V.heap.size = w3.heap.size → Below w.heap.size w V → Rd w g wr.heap.size (wr.heap.size + 1) t0 t1 c' e' ec' o false 0 A (([] : List Int)) cp V := fun V hV hp hs hB =>
                ⟨hB, is_mk ((hV g (by omega)).trans hI3.1) hI3.2, (hV _ (by omega)).trans hq3, hp, fun V' hV' => (Kd.R_reads' (Kd.R_step hr2 (fun k hk hlt => (hV'.2 k (by omega) hk.1.2 (by simp)).trans (hV k hk.2)))).2.2, by omega, by omega⟩
              have f0 := blk_frozen hp3 0
              have f1 := blk_frozen hp3 1
              have f2 := blk_frozen hp3 2
              have f3 := blk_frozen hp3 3
              have f4 := blk_frozen hp3 4
              have c0_ : w3.cell? ⟨wr.heap.size + 1, 0, none⟩ = some (.bool false) := (blk_cell hp3 0).trans rfl
              have c1_ : w3.cell? ⟨wr.heap.size + 1, 1, none⟩ = some (.int .u8 0) := (blk_cell hp3 1).trans rfl
              have c2_ : w3.cell? ⟨wr.heap.size + 1, 2, none⟩ = some (.bool false) := (blk_cell hp3 2).trans rfl
              have c3_ : w3.cell? ⟨wr.heap.size + 1, 3, none⟩ = some (.int .u32 0) := (blk_cell hp3 3).trans rfl
              have c4_ : w3.cell? ⟨wr.heap.size + 1, 4, none⟩ = some (.slice none 0 0) := (blk_cell hp3 4).trans rfl
              have q2 : w3.cell? ⟨wr.heap.size, 2, none⟩ = some (.string o.f2) := (blk_cell hq3 2).trans rfl
              have lp : wr.heap.size + 1 < w3.heap.size := blk_lt hp3
              have hput := put5 hp3 rfl (.bool false) (.int .u8 0) (.bool false) (.int .u32 0) (.slice A (([] : List Int)).length cp)
              dsimp only at hput
              have HR := Aside0.mk (hR3 _ hput.2.1 hput.1 hput.2.2.1 (hput.2.2.2 _ (by have := HI.out.2; have := HI.out.lt; have := HB.out.size; omega) _ hB3))
              clear hput hR3 hr2 hp3 hq3 ho hI3 hB3 hk3
              go_wp2_with fail
              go_meet
              case rel => exact ⟨_, _, _, _, _, (⟨#[]⟩ : ByteArray), _, _, HD'.out, (by decide), rfl, .inr ⟨rfl, HN.out, HR.out⟩⟩
          · have k0b : (o.f0 == 0) = false := by simp; omega
            have k1b : (o.f0 == 1) = false := by simp; omega
            have k2b : (o.f0 == 2) = true := by simp [k]
            have HKK := Aside0.mk k
            clear k
            rcases hwb.out HKK.out.2.2 with ⟨t0, t1, c', e', ec', hf, hD', hj0, hs0⟩ | ⟨t0, t1, c', e', ec', hf, hD', hne⟩
            · have HD' := Aside0.mk hD'
              have HF := Aside0.mk hf
              clear hf hD'
              have HN := Aside0.mk (And.intro hj0 hs0)
              clear hj0 hs0
              go_wp2_with fail
              refine (closing_Door_Bad.calls 7000 g s0 s1 c e ec o.f1 true 8 false 0 (dataC o.f1 (⟨#[]⟩ : ByteArray)) true t0 t1 c' e' ec' w _ ((HI.out.alloc _).alloc _) (below_alloc (below_alloc HB.out _) _) HF.out).mono ?_
              rintro e w3 ⟨v, rfl, ho, hI3, hB3, hk3⟩
              obtain ⟨A, cp, rfl⟩ := Kd.R_slice ho
              have hp3 : w3.heap[wr.heap.size + 1]? = some (.cells #[.bool false, .int .u8 0, .bool false, .int .u32 0, .slice none 0 0] 27 (0, 0)) := hk3.blk (last_at _ _ _ (by simp)) (by omega) (by simp)
              have hq3 : w3.heap[wr.heap.size]? = some (.cells #[.int .i64 o.f0, .int .u32 o.f1, .string o.f2] 39 (0, 0)) := hk3.blk (blk_alloc (last_at _ _ _ rfl) _) (by omega) (by simp)
              have hr2 := Kd.R_types (Kd.R_types ho hI3.1 (by intro q hq; simp [Kd.int, Kd.scalar] at hq; omega)) hp3 (by intro q hq; simp [Kd.int, Kd.scalar] at hq; omega)
              have hR3 : ∀ V : World, (∀ k, k ≠ wr.heap.size + 1 → V.heap[k]? = w3.heap[k]?) → V.heap[wr.heap.size + 1]? = some (.cells #[.bool true, .int .u8 8, .bool false, .int .u32 0, .slice A (dataC o.f1 (⟨#[]⟩ : ByteArray)).length cp] 27 (0, 0)) → V.heap.size = w3.heap.size → Below w.heap.size w V → Rd w g wr.heap.size (wr.heap.size + 1) t0 t1 c' e' ec' o true 8 A (dataC o.f1 (⟨#[]⟩ : ByteArray)) cp V := fun V hV hp hs hB =>
                ⟨hB, is_mk ((hV g (by omega)).trans hI3.1) hI3.2, (hV _ (by omega)).trans hq3, hp, fun V' hV' => (Kd.R_reads' (Kd.R_step hr2 (fun k hk hlt => (hV'.2 k (by omega) hk.1.2 (by simp)).trans (hV k hk.2)))).2.2, by omega, by omega⟩
              have f0 := blk_frozen hp3 0
              have f1 := blk_frozen hp3 1
              have f2 := blk_frozen hp3 2
              have f3 := blk_frozen hp3 3
              have f4 := blk_frozen hp3 4
              have c0_ : w3.cell? ⟨wr.heap.size + 1, 0, none⟩ = some (.bool false) := (blk_cell hp3 0).trans rfl
              have c1_ : w3.cell? ⟨wr.heap.size + 1, 1, none⟩ = some (.int .u8 0) := (blk_cell hp3 1).trans rfl
              have c2_ : w3.cell? ⟨wr.heap.size + 1, 2, none⟩ = some (.bool false) := (blk_cell hp3 2).trans rfl
              have c3_ : w3.cell? ⟨wr.heap.size + 1, 3, none⟩ = some (.int .u32 0) := (blk_cell hp3 3).trans rfl
              have c4_ : w3.cell? ⟨wr.heap.size + 1, 4, none⟩ = some (.slice none 0 0) := (blk_cell hp3 4).trans rfl
              have q2 : w3.cell? ⟨wr.heap.size, 2, none⟩ = some (.string o.f2) := (blk_cell hq3 2).trans rfl
              have lp : wr.heap.size + 1 < w3.heap.size := blk_lt hp3
              have hput := put5 hp3 rfl (.bool true) (.int .u8 8) (.bool false) (.int .u32 0) (.slice A (dataC o.f1 (⟨#[]⟩ : ByteArray)).length cp)
              dsimp only at hput
              have HR := Aside0.mk (hR3 _ hput.2.1 hput.1 hput.2.2.1 (hput.2.2.2 _ (by have := HI.out.2; have := HI.out.lt; have := HB.out.size; omega) _ hB3))
              clear hput hR3 hr2 hp3 hq3 ho hI3 hB3 hk3
              go_wp2_with fail
              go_meet
              case rel => exact ⟨_, _, _, _, _, (⟨#[]⟩ : ByteArray), _, _, HD'.out, (by decide), rfl, .inl ⟨rfl, HN.out.1, HN.out.2, HR.out⟩⟩
            · have HD' := Aside0.mk hD'
              have HF := Aside0.mk hf
              clear hf hD'
              have HN := Aside0.mk hne
              clear hne
              go_wp2_with fail
              refine (closing_Door_Bad.calls 7000 g s0 s1 c e ec o.f1 false 0 false 0 [] false t0 t1 c' e' ec' w _ ((HI.out.alloc _).alloc _) (below_alloc (below_alloc HB.out _) _) HF.out).mono ?_
              rintro e w3 ⟨v, rfl, ho, hI3, hB3, hk3⟩
              obtain ⟨A, cp, rfl⟩ := Kd.R_slice ho
              have hp3 : w3.heap[wr.heap.size + 1]? = some (.cells #[.bool false, .int .u8 0, .bool false, .int .u32 0, .slice none 0 0] 27 (0, 0)) := hk3.blk (last_at _ _ _ (by simp)) (by omega) (by simp)
              have hq3 : w3.heap[wr.heap.size]? = some (.cells #[.int .i64 o.f0, .int .u32 o.f1, .string o.f2] 39 (0, 0)) := hk3.blk (blk_alloc (last_at _ _ _ rfl) _) (by omega) (by simp)
              have hr2 := Kd.R_types (Kd.R_types ho hI3.1 (by intro q hq; simp [Kd.int, Kd.scalar] at hq; omega)) hp3 (by intro q hq; simp [Kd.int, Kd.scalar] at hq; omega)
              have hR3 : ∀ V : World, (∀ k, k ≠ wr.heap.size + 1 → V.heap[k]? = w3.heap[k]?) → V.heap[wr.heap.size + 1]? = some (.cells #[.bool false, .int .u8 0, .bool false, .int .u32 0, .slice A (([] : List Int)).length cp] 27 (0, 0)) → V.heap.size = w3.heap.size → Below w.heap.size w V → Rd w g wr.heap.size (wr.heap.size + 1) t0 t1 c' e' ec' o false 0 A (([] : List Int)) cp V := fun V hV hp hs hB =>
                ⟨hB, is_mk ((hV g (by omega)).trans hI3.1) hI3.2, (hV _ (by omega)).trans hq3, hp, fun V' hV' => (Kd.R_reads' (Kd.R_step hr2 (fun k hk hlt => (hV'.2 k (by omega) hk.1.2 (by simp)).trans (hV k hk.2)))).2.2, by omega, by omega⟩
              have f0 := blk_frozen hp3 0
              have f1 := blk_frozen hp3 1
              have f2 := blk_frozen hp3 2
              have f3 := blk_frozen hp3 3
              have f4 := blk_frozen hp3 4
              have c0_ : w3.cell? ⟨wr.heap.size + 1, 0, none⟩ = some (.bool false) := (blk_cell hp3 0).trans rfl
              have c1_ : w3.cell? ⟨wr.heap.size + 1, 1, none⟩ = some (.int .u8 0) := (blk_cell hp3 1).trans rfl
              have c2_ : w3.cell? ⟨wr.heap.size + 1, 2, none⟩ = some (.bool false) := (blk_cell hp3 2).trans rfl
              have c3_ : w3.cell? ⟨wr.heap.size + 1, 3, none⟩ = some (.int .u32 0) := (blk_cell hp3 3).trans rfl
              have c4_ : w3.cell? ⟨wr.heap.size + 1, 4, none⟩ = some (.slice none 0 0) := (blk_cell hp3 4).trans rfl
              have q2 : w3.cell? ⟨wr.heap.size, 2, none⟩ = some (.string o.f2) := (blk_cell hq3 2).trans rfl
              have lp : wr.heap.size + 1 < w3.heap.size := blk_lt hp3
              have hput := put5 hp3 rfl (.bool false) (.int .u8 0) (.bool false) (.int .u32 0) (.slice A (([] : List Int)).length cp)
              dsimp only at hput
              have HR := Aside0.mk (hR3 _ hput.2.1 hput.1 hput.2.2.1 (hput.2.2.2 _ (by have := HI.out.2; have := HI.out.lt; have := HB.out.size; omega) _ hB3))
              clear hput hR3 hr2 hp3 hq3 ho hI3 hB3 hk3
              go_wp2_with fail
              go_meet
              case rel => exact ⟨_, _, _, _, _, (⟨#[]⟩ : ByteArray), _, _, HD'.out, (by decide), rfl, .inr ⟨rfl, HN.out, HR.out⟩⟩
          · have k0b : (o.f0 == 0) = false := by simp; omega
            have k1b : (o.f0 == 1) = false := by simp; omega
            have k2b : (o.f0 == 2) = false := by simp; omega
            have HKK := Aside0.mk k
            clear k
            obtain ⟨t0, t1, c', e', ec', hf, hD', hne⟩ := hwk.out HKK.out.1 HKK.out.2.1 HKK.out.2.2
            have HD' := Aside0.mk hD'
            have HF := Aside0.mk hf
            have HN := Aside0.mk hne
            clear hf hD' hne
            go_wp2_with fail
            refine (closing_Door_Cut.calls g s0 s1 c e ec t0 t1 c' e' ec' w _ ((HI.out.alloc _).alloc _) (below_alloc (below_alloc HB.out _) _) HF.out).mono ?_
            rintro e w3 ⟨rfl, hI3, hB3, hk3⟩
            have HR : Aside0 (Rd w g wr.heap.size (wr.heap.size + 1) t0 t1 c' e' ec' o false 0 none (([] : List Int)) 0 w3) := ⟨⟨hB3, hI3, hk3.blk (blk_alloc (last_at _ _ _ rfl) _) (by omega) (by simp), hk3.blk (last_at _ _ _ (by simp)) (by omega) (by simp), fun V _ => Kd.C_nil _ V, by omega, by omega⟩⟩
            clear hI3 hB3 hk3
            go_wp2_with fail
            go_meet
            case rel => exact ⟨_, _, _, _, _, (⟨#[]⟩ : ByteArray), _, _, HD'.out, (by decide), rfl, .inr ⟨rfl, HN.out, HR.out⟩⟩
        case rest =>
          clear hwc hwg hwb hwk hy0 hy1 hy2 h3 HI HB
          obtain ⟨t0, t1, c', e', ec', s, A, cp, hD', hss, rfl, hways⟩ := hcut
          have HZ2 := Aside0.mk hss
          clear hss
          obtain rfl : t0 = false := by rw [hD'.2.1, hat]; simp
          have HD' := Aside0.mk hD'
          clear hD'
          rcases hways with ⟨rfl, hj0, hs0, hR⟩ | ⟨rfl, hne, hR⟩
          · exact absurd (hat.symm.trans hs0) (by decide)
          · have heq : ((j : Int) == (-1)) = false := by rw [hat] at hne; exact beq_eq_false_iff_ne.mpr hne
            have HR := Aside0.mk hR
            clear hR hne
            go_wp2_with fail
            refine wp_region_noPanic ?_
            refine wp_region_held_drew (S := fun w' => Aside0 (Rd w g wr.heap.size (wr.heap.size + 1) false t1 c' e' ec' o false 0 A (([] : List Int)) cp w') ∧ w'.cell? ⟨wr.heap.size, 1, none⟩ = some (.int .u32 o.f1) ∧ w'.cell? ⟨wr.heap.size + 1, 0, none⟩ = some (.bool false) ∧ w'.cell? ⟨wr.heap.size + 1, 1, none⟩ = some (.int .u8 0) ∧ w'.cell? ⟨wr.heap.size + 1, 2, none⟩ = some (.bool false) ∧ w'.cell? ⟨wr.heap.size + 1, 4, none⟩ = some (.slice A (([] : List Int)).length cp) ∧ (convert 25 9 (.slice A (([] : List Int)).length cp)).run Try.prog w' = .ok (.string (strOfNums (([] : List Int)))) w') (by kernel_rfl) (rdS (Rd.below HR.out (below_drew (Below.refl _ _)))) (fun hHeld => ?_)
            refine takeN (i := 0) (N := (some 65)) (v := ?v1001) (a' := ?a1001) rfl rfl (by kernel_rfl) (by kernel_rfl) (by kernel_rfl) (fun _ _ _ h => h) (Or.inl ⟨by rfl, ?hy1001⟩) ?ha1001 (by assumption) ?rest1001
            case hy1001 =>
              intro w_ hSw_
              go_simp
              first | done | (with_reducible rfl)
            case ha1001 =>
              simp only [Act.put, List.setIfInBounds_toArray, List.set_cons_zero, List.set_cons_succ]
              rfl
            refine takeN (i := 1) (N := (some 66)) (v := ?v1002) (a' := ?a1002) rfl rfl (by kernel_rfl) (by kernel_rfl) (by kernel_rfl) (fun _ _ _ h => h) (Or.inl ⟨by rfl, ?hy1002⟩) ?ha1002 (by assumption) ?rest1002
            case hy1002 =>
              intro w_ hSw_
              go_simp
              first | done | (with_reducible rfl)
            case ha1002 =>
              simp only [Act.put, List.setIfInBounds_toArray, List.set_cons_zero, List.set_cons_succ]
              rfl
            refine takeN (i := 2) (N := (some 67)) (v := ?v1003) (a' := ?a1003) rfl rfl (by kernel_rfl) (by kernel_rfl) (by kernel_rfl) (fun _ _ _ h => h) (Or.inl ⟨by rfl, ?hy1003⟩) ?ha1003 (by assumption) ?rest1003
            case hy1003 =>
              intro w_ hSw_
              go_simp
              first | done | (with_reducible rfl)
            case ha1003 =>
              simp only [Act.put, List.setIfInBounds_toArray, List.set_cons_zero, List.set_cons_succ]
              rfl
            refine takeN (i := 3) (N := (some 68)) (v := ?v1004) (a' := ?a1004) rfl rfl (by kernel_rfl) (by kernel_rfl) (by kernel_rfl) (fun _ _ _ h => h) (Or.inl ⟨by rfl, ?hy1004⟩) ?ha1004 (by assumption) ?rest1004
            case hy1004 =>
              intro w_ hSw_
              go_simp
              first | done | (with_reducible rfl)
            case ha1004 =>
              simp only [Act.put, List.setIfInBounds_toArray, List.set_cons_zero, List.set_cons_succ]
              rfl
            refine takeN (i := 4) (N := (some 69)) (v := ?v1005) (a' := ?a1005) rfl rfl (by kernel_rfl) (by kernel_rfl) (by kernel_rfl) (fun _ _ _ h => h) (Or.inl ⟨by rfl, ?hy1005⟩) ?ha1005 (by assumption) ?rest1005
            case hy1005 =>
              intro w_ hSw_
              go_simp
              first | done | (with_reducible rfl)
            case ha1005 =>
              simp only [Act.put, List.setIfInBounds_toArray, List.set_cons_zero, List.set_cons_succ]
              rfl
            refine takeN (i := 5) (N := (some 70)) (v := ?v1006) (a' := ?a1006) rfl rfl (by kernel_rfl) (by kernel_rfl) (by kernel_rfl) (fun _ _ _ h => h) (Or.inl ⟨by rfl, ?hy1006⟩) ?ha1006 (by assumption) ?rest1006
            case hy1006 =>
              intro w_ hSw_
              go_simp
              first | done | (with_reducible rfl)
            case ha1006 =>
              simp only [Act.put, List.setIfInBounds_toArray, List.set_cons_zero, List.set_cons_succ]
              rfl
            refine takeN (i := 6) (N := (some 71)) (v := ?v1007) (a' := ?a1007) rfl rfl (by kernel_rfl) (by kernel_rfl) (by kernel_rfl) (fun _ _ _ h => h) (Or.inl ⟨by rfl, ?hy1007⟩) ?ha1007 (by assumption) ?rest1007
            case hy1007 =>
              intro w_ hSw_
              go_simp
              first | done | (with_reducible rfl)
            case ha1007 =>
              simp only [Act.put, List.setIfInBounds_toArray, List.set_cons_zero, List.set_cons_succ]
              rfl
            refine takeN (i := 7) (N := (some 72)) (v := ?v1008) (a' := ?a1008) rfl rfl (by kernel_rfl) (by kernel_rfl) (by kernel_rfl) (fun _ _ _ h => h) (Or.inl ⟨by rfl, ?hy1008⟩) ?ha1008 (by assumption) ?rest1008
            case hy1008 =>
              intro w_ hSw_
              go_simp
              first | done | (with_reducible rfl)
            case ha1008 =>
              simp only [Act.put, List.setIfInBounds_toArray, List.set_cons_zero, List.set_cons_succ]
              rfl
            refine takeN (i := 8) (N := (some 73)) (v := undef) (a' := ?a1009) rfl rfl (by kernel_rfl) (by kernel_rfl) (by kernel_rfl) (fun _ _ _ h => h) (Or.inr ⟨by rfl, rfl⟩) ?ha1009 (by assumption) ?rest1009
            case ha1009 =>
              simp only [Act.put, List.setIfInBounds_toArray, List.set_cons_zero, List.set_cons_succ]
              rfl
            refine takeN (i := 9) (N := (some 74)) (v := undef) (a' := ?a1010) rfl rfl (by kernel_rfl) (by kernel_rfl) (by kernel_rfl) (fun _ _ _ h => h) (Or.inr ⟨by rfl, rfl⟩) ?ha1010 (by assumption) ?rest1010
            case ha1010 =>
              simp only [Act.put, List.setIfInBounds_toArray, List.set_cons_zero, List.set_cons_succ]
              rfl
            refine takeN (i := 10) (N := (some 75)) (v := undef) (a' := ?a1011) rfl rfl (by kernel_rfl) (by kernel_rfl) (by kernel_rfl) (fun _ _ _ h => h) (Or.inr ⟨by rfl, rfl⟩) ?ha1011 (by assumption) ?rest1011
            case ha1011 =>
              simp only [Act.put, List.setIfInBounds_toArray, List.set_cons_zero, List.set_cons_succ]
              rfl
            refine takeN (i := 11) (N := (some 76)) (v := undef) (a' := ?a1012) rfl rfl (by kernel_rfl) (by kernel_rfl) (by kernel_rfl) (fun _ _ _ h => h) (Or.inr ⟨by rfl, rfl⟩) ?ha1012 (by assumption) ?rest1012
            case ha1012 =>
              simp only [Act.put, List.setIfInBounds_toArray, List.set_cons_zero, List.set_cons_succ]
              rfl
            refine takeN (i := 12) (N := (some 77)) (v := undef) (a' := ?a1013) rfl rfl (by kernel_rfl) (by kernel_rfl) (by kernel_rfl) (fun _ _ _ h => h) (Or.inr ⟨by rfl, rfl⟩) ?ha1013 (by assumption) ?rest1013
            case ha1013 =>
              simp only [Act.put, List.setIfInBounds_toArray, List.set_cons_zero, List.set_cons_succ]
              rfl
            refine takeN (i := 13) (N := (some 78)) (v := undef) (a' := ?a1014) rfl rfl (by kernel_rfl) (by kernel_rfl) (by kernel_rfl) (fun _ _ _ h => h) (Or.inr ⟨by rfl, rfl⟩) ?ha1014 (by assumption) ?rest1014
            case ha1014 =>
              simp only [Act.put, List.setIfInBounds_toArray, List.set_cons_zero, List.set_cons_succ]
              rfl
            refine takeN (i := 14) (N := (some 79)) (v := undef) (a' := ?a1015) rfl rfl (by kernel_rfl) (by kernel_rfl) (by kernel_rfl) (fun _ _ _ h => h) (Or.inr ⟨by rfl, rfl⟩) ?ha1015 (by assumption) ?rest1015
            case ha1015 =>
              simp only [Act.put, List.setIfInBounds_toArray, List.set_cons_zero, List.set_cons_succ]
              rfl
            refine takeN (i := 15) (N := (some 80)) (v := undef) (a' := ?a1016) rfl rfl (by kernel_rfl) (by kernel_rfl) (by kernel_rfl) (fun _ _ _ h => h) (Or.inr ⟨by rfl, rfl⟩) ?ha1016 (by assumption) ?rest1016
            case ha1016 =>
              simp only [Act.put, List.setIfInBounds_toArray, List.set_cons_zero, List.set_cons_succ]
              rfl
            refine takeN (i := 16) (N := (some 81)) (v := undef) (a' := ?a1017) rfl rfl (by kernel_rfl) (by kernel_rfl) (by kernel_rfl) (fun _ _ _ h => h) (Or.inr ⟨by rfl, rfl⟩) ?ha1017 (by assumption) ?rest1017
            case ha1017 =>
              simp only [Act.put, List.setIfInBounds_toArray, List.set_cons_zero, List.set_cons_succ]
              rfl
            refine takeN (i := 17) (N := (some 82)) (v := undef) (a' := ?a1018) rfl rfl (by kernel_rfl) (by kernel_rfl) (by kernel_rfl) (fun _ _ _ h => h) (Or.inr ⟨by rfl, rfl⟩) ?ha1018 (by assumption) ?rest1018
            case ha1018 =>
              simp only [Act.put, List.setIfInBounds_toArray, List.set_cons_zero, List.set_cons_succ]
              rfl
            refine takeN (i := 18) (N := (some 83)) (v := undef) (a' := ?a1019) rfl rfl (by kernel_rfl) (by kernel_rfl) (by kernel_rfl) (fun _ _ _ h => h) (Or.inr ⟨by rfl, rfl⟩) ?ha1019 (by assumption) ?rest1019
            case ha1019 =>
              simp only [Act.put, List.setIfInBounds_toArray, List.set_cons_zero, List.set_cons_succ]
              rfl
            refine takeN (i := 19) (N := (some 84)) (v := undef) (a' := ?a1020) rfl rfl (by kernel_rfl) (by kernel_rfl) (by kernel_rfl) (fun _ _ _ h => h) (Or.inr ⟨by rfl, rfl⟩) ?ha1020 (by assumption) ?rest1020
            case ha1020 =>
              simp only [Act.put, List.setIfInBounds_toArray, List.set_cons_zero, List.set_cons_succ]
              rfl
            refine takeN (i := 20) (N := (some 85)) (v := undef) (a' := ?a1021) rfl rfl (by kernel_rfl) (by kernel_rfl) (by kernel_rfl) (fun _ _ _ h => h) (Or.inr ⟨by rfl, rfl⟩) ?ha1021 (by assumption) ?rest1021
            case ha1021 =>
              simp only [Act.put, List.setIfInBounds_toArray, List.set_cons_zero, List.set_cons_succ]
              rfl
            refine takeN (i := 21) (N := (some 86)) (v := undef) (a' := ?a1022) rfl rfl (by kernel_rfl) (by kernel_rfl) (by kernel_rfl) (fun _ _ _ h => h) (Or.inr ⟨by rfl, rfl⟩) ?ha1022 (by assumption) ?rest1022
            case ha1022 =>
              simp only [Act.put, List.setIfInBounds_toArray, List.set_cons_zero, List.set_cons_succ]
              rfl
            refine takeN (i := 22) (N := (some 87)) (v := undef) (a' := ?a1023) rfl rfl (by kernel_rfl) (by kernel_rfl) (by kernel_rfl) (fun _ _ _ h => h) (Or.inr ⟨by rfl, rfl⟩) ?ha1023 (by assumption) ?rest1023
            case ha1023 =>
              simp only [Act.put, List.setIfInBounds_toArray, List.set_cons_zero, List.set_cons_succ]
              rfl
            refine takeN (i := 23) (N := (some 88)) (v := undef) (a' := ?a1024) rfl rfl (by kernel_rfl) (by kernel_rfl) (by kernel_rfl) (fun _ _ _ h => h) (Or.inr ⟨by rfl, rfl⟩) ?ha1024 (by assumption) ?rest1024
            case ha1024 =>
              simp only [Act.put, List.setIfInBounds_toArray, List.set_cons_zero, List.set_cons_succ]
              rfl
            refine takeN (i := 24) (N := (some 89)) (v := undef) (a' := ?a1025) rfl rfl (by kernel_rfl) (by kernel_rfl) (by kernel_rfl) (fun _ _ _ h => h) (Or.inr ⟨by rfl, rfl⟩) ?ha1025 (by assumption) ?rest1025
            case ha1025 =>
              simp only [Act.put, List.setIfInBounds_toArray, List.set_cons_zero, List.set_cons_succ]
              rfl
            refine takeN (i := 25) (N := (some 90)) (v := undef) (a' := ?a1026) rfl rfl (by kernel_rfl) (by kernel_rfl) (by kernel_rfl) (fun _ _ _ h => h) (Or.inr ⟨by rfl, rfl⟩) ?ha1026 (by assumption) ?rest1026
            case ha1026 =>
              simp only [Act.put, List.setIfInBounds_toArray, List.set_cons_zero, List.set_cons_succ]
              rfl
            refine takeN (i := 26) (N := (some 91)) (v := undef) (a' := ?a1027) rfl rfl (by kernel_rfl) (by kernel_rfl) (by kernel_rfl) (fun _ _ _ h => h) (Or.inr ⟨by rfl, rfl⟩) ?ha1027 (by assumption) ?rest1027
            case ha1027 =>
              simp only [Act.put, List.setIfInBounds_toArray, List.set_cons_zero, List.set_cons_succ]
              rfl
            refine takeN (i := 27) (N := (some 92)) (v := undef) (a' := ?a1028) rfl rfl (by kernel_rfl) (by kernel_rfl) (by kernel_rfl) (fun _ _ _ h => h) (Or.inr ⟨by rfl, rfl⟩) ?ha1028 (by assumption) ?rest1028
            case ha1028 =>
              simp only [Act.put, List.setIfInBounds_toArray, List.set_cons_zero, List.set_cons_succ]
              rfl
            refine takeN (i := 28) (N := (some 93)) (v := undef) (a' := ?a1029) rfl rfl (by kernel_rfl) (by kernel_rfl) (by kernel_rfl) (fun _ _ _ h => h) (Or.inr ⟨by rfl, rfl⟩) ?ha1029 (by assumption) ?rest1029
            case ha1029 =>
              simp only [Act.put, List.setIfInBounds_toArray, List.set_cons_zero, List.set_cons_succ]
              rfl
            refine takeN (i := 29) (N := (some 94)) (v := undef) (a' := ?a1030) rfl rfl (by kernel_rfl) (by kernel_rfl) (by kernel_rfl) (fun _ _ _ h => h) (Or.inr ⟨by rfl, rfl⟩) ?ha1030 (by assumption) ?rest1030
            case ha1030 =>
              simp only [Act.put, List.setIfInBounds_toArray, List.set_cons_zero, List.set_cons_succ]
              rfl
            refine takeN (i := 30) (N := (some 95)) (v := ?v1031) (a' := ?a1031) rfl rfl (by kernel_rfl) (by kernel_rfl) (by kernel_rfl) (fun _ _ _ h => h) (Or.inl ⟨by rfl, ?hy1031⟩) ?ha1031 (by assumption) ?rest1031
            case hy1031 =>
              intro w_ hSw_
              go_simp
              first | done | (with_reducible rfl)
            case ha1031 =>
              simp only [Act.put, List.setIfInBounds_toArray, List.set_cons_zero, List.set_cons_succ]
              rfl
            refine takeN (i := 31) (N := (some 96)) (v := ?v1032) (a' := ?a1032) rfl rfl (by kernel_rfl) (by kernel_rfl) (by kernel_rfl) (fun _ _ _ h => h) (Or.inl ⟨by rfl, ?hy1032⟩) ?ha1032 (by assumption) ?rest1032
            case hy1032 =>
              intro w_ hSw_
              go_simp
              first | done | (with_reducible rfl)
            case ha1032 =>
              simp only [Act.put, List.setIfInBounds_toArray, List.set_cons_zero, List.set_cons_succ]
              rfl
            refine takeN (i := 32) (N := (some 97)) (v := ?v1033) (a' := ?a1033) rfl rfl (by kernel_rfl) (by kernel_rfl) (by kernel_rfl) (fun _ _ _ h => h) (Or.inl ⟨by rfl, ?hy1033⟩) ?ha1033 (by assumption) ?rest1033
            case hy1033 =>
              intro w_ hSw_
              go_simp
              first | done | (with_reducible rfl)
            case ha1033 =>
              simp only [Act.put, List.setIfInBounds_toArray, List.set_cons_zero, List.set_cons_succ]
              rfl
            refine takeN (i := 33) (N := (some 98)) (v := ?v1034) (a' := ?a1034) rfl rfl (by kernel_rfl) (by kernel_rfl) (by kernel_rfl) (fun _ _ _ h => h) (Or.inl ⟨by rfl, ?hy1034⟩) ?ha1034 (by assumption) ?rest1034
            case hy1034 =>
              intro w_ hSw_
              go_simp
              first | done | (with_reducible rfl)
            case ha1034 =>
              simp only [Act.put, List.setIfInBounds_toArray, List.set_cons_zero, List.set_cons_succ]
              rfl
            refine takeN (i := 34) (N := (some 99)) (v := ?v1035) (a' := ?a1035) rfl rfl (by kernel_rfl) (by kernel_rfl) (by kernel_rfl) (fun _ _ _ h => h) (Or.inl ⟨by rfl, ?hy1035⟩) ?ha1035 (by assumption) ?rest1035
            case hy1035 =>
              intro w_ hSw_
              go_simp
              first | done | (with_reducible rfl)
            case ha1035 =>
              simp only [Act.put, List.setIfInBounds_toArray, List.set_cons_zero, List.set_cons_succ]
              rfl
            refine takeN (i := 35) (N := (some 100)) (v := ?v1036) (a' := ?a1036) rfl rfl (by kernel_rfl) (by kernel_rfl) (by kernel_rfl) (fun _ _ _ h => h) (Or.inl ⟨by rfl, ?hy1036⟩) ?ha1036 (by assumption) ?rest1036
            case hy1036 =>
              intro w_ hSw_
              go_simp
              first | done | (with_reducible rfl)
            case ha1036 =>
              simp only [Act.put, List.setIfInBounds_toArray, List.set_cons_zero, List.set_cons_succ]
              rfl
            refine takeN (i := 36) (N := (some 101)) (v := ?v1037) (a' := ?a1037) rfl rfl (by kernel_rfl) (by kernel_rfl) (by kernel_rfl) (fun _ _ _ h => h) (Or.inl ⟨by rfl, ?hy1037⟩) ?ha1037 (by assumption) ?rest1037
            case hy1037 =>
              intro w_ hSw_
              go_simp
              first | done | (with_reducible rfl)
            case ha1037 =>
              simp only [Act.put, List.setIfInBounds_toArray, List.set_cons_zero, List.set_cons_succ]
              rfl
            refine takeN (i := 37) (N := (some 102)) (v := ?v1038) (a' := ?a1038) rfl rfl (by kernel_rfl) (by kernel_rfl) (by kernel_rfl) (fun _ _ _ h => h) (Or.inl ⟨by rfl, ?hy1038⟩) ?ha1038 (by assumption) ?rest1038
            case hy1038 =>
              intro w_ hSw_
              go_simp
              first | done | (with_reducible rfl)
            case ha1038 =>
              simp only [Act.put, List.setIfInBounds_toArray, List.set_cons_zero, List.set_cons_succ]
              rfl
            refine takeN (i := 38) (N := (some 103)) (v := ?v1039) (a' := ?a1039) rfl rfl (by kernel_rfl) (by kernel_rfl) (by kernel_rfl) (fun _ _ _ h => h) (Or.inl ⟨by rfl, ?hy1039⟩) ?ha1039 (by assumption) ?rest1039
            case hy1039 =>
              intro w_ hSw_
              go_simp
              first | done | (with_reducible rfl)
            case ha1039 =>
              simp only [Act.put, List.setIfInBounds_toArray, List.set_cons_zero, List.set_cons_succ]
              rfl
            refine takeN (i := 39) (N := (some 104)) (v := ?v1040) (a' := ?a1040) rfl rfl (by kernel_rfl) (by kernel_rfl) (by kernel_rfl) (fun _ _ _ h => h) (Or.inl ⟨by rfl, ?hy1040⟩) ?ha1040 (by assumption) ?rest1040
            case hy1040 =>
              intro w_ hSw_
              go_simp
              first | done | (with_reducible rfl)
            case ha1040 =>
              simp only [Act.put, List.setIfInBounds_toArray, List.set_cons_zero, List.set_cons_succ]
              rfl
            refine takeN (i := 40) (N := (some 105)) (v := ?v1041) (a' := ?a1041) rfl rfl (by kernel_rfl) (by kernel_rfl) (by kernel_rfl) (fun _ _ _ h => h) (Or.inl ⟨by rfl, ?hy1041⟩) ?ha1041 (by assumption) ?rest1041
            case hy1041 =>
              intro w_ hSw_
              go_simp
              first | done | (with_reducible rfl)
            case ha1041 =>
              simp only [Act.put, List.setIfInBounds_toArray, List.set_cons_zero, List.set_cons_succ]
              rfl
            refine takeN (i := 41) (N := (some 106)) (v := ?v1042) (a' := ?a1042) rfl rfl (by kernel_rfl) (by kernel_rfl) (by kernel_rfl) (fun _ _ _ h => h) (Or.inl ⟨by rfl, ?hy1042⟩) ?ha1042 (by assumption) ?rest1042
            case hy1042 =>
              intro w_ hSw_
              go_simp
              first | done | (with_reducible rfl)
            case ha1042 =>
              simp only [Act.put, List.setIfInBounds_toArray, List.set_cons_zero, List.set_cons_succ]
              rfl
            refine takeN (i := 42) (N := (some 107)) (v := ?v1043) (a' := ?a1043) rfl rfl (by kernel_rfl) (by kernel_rfl) (by kernel_rfl) (fun _ _ _ h => h) (Or.inl ⟨by rfl, ?hy1043⟩) ?ha1043 (by assumption) ?rest1043
            case hy1043 =>
              intro w_ hSw_
              go_simp
              first | done | (with_reducible rfl)
            case ha1043 =>
              simp only [Act.put, List.setIfInBounds_toArray, List.set_cons_zero, List.set_cons_succ]
              rfl
            refine takeN (i := 43) (N := (some 108)) (v := ?v1044) (a' := ?a1044) rfl rfl (by kernel_rfl) (by kernel_rfl) (by kernel_rfl) (fun _ _ _ h => h) (Or.inl ⟨by rfl, ?hy1044⟩) ?ha1044 (by assumption) ?rest1044
            case hy1044 =>
              intro w_ hSw_
              go_simp
              first | done | (with_reducible rfl)
            case ha1044 =>
              simp only [Act.put, List.setIfInBounds_toArray, List.set_cons_zero, List.set_cons_succ]
              rfl
            refine takeN (i := 44) (N := (some 109)) (v := ?v1045) (a' := ?a1045) rfl rfl (by kernel_rfl) (by kernel_rfl) (by kernel_rfl) (fun _ _ _ h => h) (Or.inl ⟨by rfl, ?hy1045⟩) ?ha1045 (by assumption) ?rest1045
            case hy1045 =>
              intro w_ hSw_
              go_simp
              first | done | (with_reducible rfl)
            case ha1045 =>
              simp only [Act.put, List.setIfInBounds_toArray, List.set_cons_zero, List.set_cons_succ]
              rfl
            refine takeN (i := 45) (N := (some 110)) (v := ?v1046) (a' := ?a1046) rfl rfl (by kernel_rfl) (by kernel_rfl) (by kernel_rfl) (fun _ _ _ h => h) (Or.inl ⟨by rfl, ?hy1046⟩) ?ha1046 (by assumption) ?rest1046
            case hy1046 =>
              intro w_ hSw_
              go_simp
              first | done | (with_reducible rfl)
            case ha1046 =>
              simp only [Act.put, List.setIfInBounds_toArray, List.set_cons_zero, List.set_cons_succ]
              rfl
            refine wpAnyH_done (by kernel_rfl) ?_ _
            refine NoPanic.normal ?_
            replace HR := Aside0.mk (rdO hHeld)
            clear hHeld
            go_wp2_with fail
            have HE := Aside0.mk (show louverref19_End.f (l.length + 5) (l.take (j + 1)) = some (e', ec') by rw [end_f _ (by simp; omega) _ (by simp; omega), ← HD'.out.1])
            refine (calls_of_args (by rw [List.length_take, Nat.min_eq_left (by omega)]) (louverref19_End.calls (l.length + 5) (some ad) c1 (l.take (j + 1)) e' ec' _ (Kd.C_take (Kd.C_below HR0.out HR.out.bel) (by omega)) (by simp; omega) HE.out)).mono ?_
            rintro e w4 ⟨rfl, hb⟩
            replace HR := Aside0.mk (HR.out.below hb)
            clear hb HE
            have hg4 : g < w4.heap.size := HR.out.door.lt
            go_wp2_with fail
            refine wp_region_noPanic ?_
            refine wp_region_held_drew (S := fun w' => Aside0 (Re w g wr.heap.size (wr.heap.size + 1) false t1 c' e' ec' o false 0 A (([] : List Int)) cp w4.heap.size w') ∧ w'.cell? ⟨w4.heap.size, 0, none⟩ = some (.int .u8 e') ∧ w'.cell? ⟨w4.heap.size, 1, none⟩ = some (.int .u32 ec')) (by kernel_rfl) (reS ⟨HR.out.below (below_drew (below_alloc (Below.refl _ _) _)), last_at w4 _ _ rfl, by omega⟩) (fun hHeld => ?_)
            refine takeN (i := 0) (N := (some 116)) (v := ?v1047) (a' := ?a1047) rfl rfl (by kernel_rfl) (by kernel_rfl) (by kernel_rfl) (fun _ _ _ h => h) (Or.inl ⟨by rfl, ?hy1047⟩) ?ha1047 (by assumption) ?rest1047
            case hy1047 =>
              intro w_ hSw_
              go_simp
              first | done | (with_reducible rfl)
            case ha1047 =>
              simp only [Act.put, List.setIfInBounds_toArray, List.set_cons_zero, List.set_cons_succ]
              rfl
            refine takeN (i := 2) (N := (some 118)) (v := ?v1048) (a' := ?a1048) rfl rfl (by kernel_rfl) (by kernel_rfl) (by kernel_rfl) (fun _ _ _ h => h) (Or.inl ⟨by rfl, ?hy1048⟩) ?ha1048 (by assumption) ?rest1048
            case hy1048 =>
              intro w_ hSw_
              go_simp
              first | done | (with_reducible rfl)
            case ha1048 =>
              simp only [Act.put, List.setIfInBounds_toArray, List.set_cons_zero, List.set_cons_succ]
              rfl
            refine wpAnyH_ready (rs := [1]) (by kernel_rfl) (by simp) ?_
            refine AllReadyH.cons rfl (fun K hK => ?_) AllReadyH.nil
            go_simp
            go_at_call 12
            with_reducible refine (closing_Door_End.calls g false t1 c' e' ec' e' ec' false t1 c' e' ec' w _ (reO hHeld).rd.door (reO hHeld).rd.bel rfl).mono ?_
            rintro e w' ⟨rfl, hI, hB, hk⟩
            refine hK.out _ _ (reS (Re.keep (reO hHeld) hI hB hk)) (fun hHeld => ?_)
            clear hK K
            try simp only [Act.put, List.setIfInBounds_toArray, List.set_cons_zero, List.set_cons_succ]
            refine takeN (i := 3) (N := (some 119)) (v := ?v1049) (a' := ?a1049) rfl rfl (by kernel_rfl) (by kernel_rfl) (by kernel_rfl) (fun _ _ _ h => h) (Or.inl ⟨by rfl, ?hy1049⟩) ?ha1049 (by assumption) ?rest1049
            case hy1049 =>
              intro w_ hSw_
              go_simp
              first | done | (with_reducible rfl)
            case ha1049 =>
              simp only [Act.put, List.setIfInBounds_toArray, List.set_cons_zero, List.set_cons_succ]
              rfl
            refine takeN (i := 4) (N := (some 120)) (v := ?v1050) (a' := ?a1050) rfl rfl (by kernel_rfl) (by kernel_rfl) (by kernel_rfl) (fun _ _ _ h => h) (Or.inl ⟨by rfl, ?hy1050⟩) ?ha1050 (by assumption) ?rest1050
            case hy1050 =>
              intro w_ hSw_
              go_simp
              first | done | (with_reducible rfl)
            case ha1050 =>
              simp only [Act.put, List.setIfInBounds_toArray, List.set_cons_zero, List.set_cons_succ]
              rfl
            refine takeN (i := 5) (N := (some 121)) (v := ?v1051) (a' := ?a1051) rfl rfl (by kernel_rfl) (by kernel_rfl) (by kernel_rfl) (fun _ _ _ h => h) (Or.inl ⟨by rfl, ?hy1051⟩) ?ha1051 (by assumption) ?rest1051
            case hy1051 =>
              intro w_ hSw_
              go_simp
              first | done | (with_reducible rfl)
            case ha1051 =>
              simp only [Act.put, List.setIfInBounds_toArray, List.set_cons_zero, List.set_cons_succ]
              rfl
            refine takeN (i := 7) (N := (some 123)) (v := ?v1052) (a' := ?a1052) rfl rfl (by kernel_rfl) (by kernel_rfl) (by kernel_rfl) (fun _ _ _ h => h) (Or.inl ⟨by rfl, ?hy1052⟩) ?ha1052 (by assumption) ?rest1052
            case hy1052 =>
              intro w_ hSw_
              go_simp
              first | done | (with_reducible rfl)
            case ha1052 =>
              simp only [Act.put, List.setIfInBounds_toArray, List.set_cons_zero, List.set_cons_succ]
              rfl
            refine takeN (i := 8) (N := (some 124)) (v := ?v1053) (a' := ?a1053) rfl rfl (by kernel_rfl) (by kernel_rfl) (by kernel_rfl) (fun _ _ _ h => h) (Or.inl ⟨by rfl, ?hy1053⟩) ?ha1053 (by assumption) ?rest1053
            case hy1053 =>
              intro w_ hSw_
              go_simp
              first | done | (with_reducible rfl)
            case ha1053 =>
              simp only [Act.put, List.setIfInBounds_toArray, List.set_cons_zero, List.set_cons_succ]
              rfl
            refine takeN (i := 9) (N := (some 125)) (v := ?v1054) (a' := ?a1054) rfl rfl (by kernel_rfl) (by kernel_rfl) (by kernel_rfl) (fun _ _ _ h => h) (Or.inl ⟨by rfl, ?hy1054⟩) ?ha1054 (by assumption) ?rest1054
            case hy1054 =>
              intro w_ hSw_
              go_simp
              first | done | (with_reducible rfl)
            case ha1054 =>
              simp only [Act.put, List.setIfInBounds_toArray, List.set_cons_zero, List.set_cons_succ]
              rfl
            refine wpAnyH_ready (rs := [6]) (by kernel_rfl) (by simp) ?_
            refine AllReadyH.cons rfl (fun K hK => ?_) AllReadyH.nil
            go_simp
            go_at_call 15
            with_reducible refine (closing_Door_Through.calls g false t1 c' e' ec' (e' != 0) false t1 c' e' ec' w _ (reO hHeld).rd.door (reO hHeld).rd.bel rfl).mono ?_
            rintro e w' ⟨rfl, hI, hB, hk⟩
            refine hK.out _ _ (reS (Re.keep (reO hHeld) hI hB hk)) (fun hHeld => ?_)
            clear hK K
            try simp only [Act.put, List.setIfInBounds_toArray, List.set_cons_zero, List.set_cons_succ]
            refine takeN (i := 10) (N := (some 126)) (v := ?v1055) (a' := ?a1055) rfl rfl (by kernel_rfl) (by kernel_rfl) (by kernel_rfl) (fun _ _ _ h => h) (Or.inl ⟨by rfl, ?hy1055⟩) ?ha1055 (by assumption) ?rest1055
            case hy1055 =>
              intro w_ hSw_
              go_simp
              first | done | (with_reducible rfl)
            case ha1055 =>
              simp only [Act.put, List.setIfInBounds_toArray, List.set_cons_zero, List.set_cons_succ]
              rfl
            refine takeN (i := 11) (N := (some 127)) (v := ?v1056) (a' := ?a1056) rfl rfl (by kernel_rfl) (by kernel_rfl) (by kernel_rfl) (fun _ _ _ h => h) (Or.inl ⟨by rfl, ?hy1056⟩) ?ha1056 (by assumption) ?rest1056
            case hy1056 =>
              intro w_ hSw_
              go_simp
              first | done | (with_reducible rfl)
            case ha1056 =>
              simp only [Act.put, List.setIfInBounds_toArray, List.set_cons_zero, List.set_cons_succ]
              rfl
            refine takeN (i := 12) (N := (some 128)) (v := ?v1057) (a' := ?a1057) rfl rfl (by kernel_rfl) (by kernel_rfl) (by kernel_rfl) (fun _ _ _ h => h) (Or.inl ⟨by rfl, ?hy1057⟩) ?ha1057 (by assumption) ?rest1057
            case hy1057 =>
              intro w_ hSw_
              go_simp
              first | done | (with_reducible rfl)
            case ha1057 =>
              simp only [Act.put, List.setIfInBounds_toArray, List.set_cons_zero, List.set_cons_succ]
              rfl
            refine takeN (i := 13) (N := (some 129)) (v := ?v1058) (a' := ?a1058) rfl rfl (by kernel_rfl) (by kernel_rfl) (by kernel_rfl) (fun _ _ _ h => h) (Or.inl ⟨by rfl, ?hy1058⟩) ?ha1058 (by assumption) ?rest1058
            case hy1058 =>
              intro w_ hSw_
              go_simp
              first | done | (with_reducible rfl)
            case ha1058 =>
              simp only [Act.put, List.setIfInBounds_toArray, List.set_cons_zero, List.set_cons_succ]
              rfl
            refine takeN (i := 15) (N := (some 131)) (v := ?v1059) (a' := ?a1059) rfl rfl (by kernel_rfl) (by kernel_rfl) (by kernel_rfl) (fun _ _ _ h => h) (Or.inl ⟨by rfl, ?hy1059⟩) ?ha1059 (by assumption) ?rest1059
            case hy1059 =>
              intro w_ hSw_
              go_simp
              first | done | (with_reducible rfl)
            case ha1059 =>
              simp only [Act.put, List.setIfInBounds_toArray, List.set_cons_zero, List.set_cons_succ]
              rfl
            refine takeN (i := 16) (N := (some 132)) (v := ?v1060) (a' := ?a1060) rfl rfl (by kernel_rfl) (by kernel_rfl) (by kernel_rfl) (fun _ _ _ h => h) (Or.inl ⟨by rfl, ?hy1060⟩) ?ha1060 (by assumption) ?rest1060
            case hy1060 =>
              intro w_ hSw_
              go_simp
              first | done | (with_reducible rfl)
            case ha1060 =>
              simp only [Act.put, List.setIfInBounds_toArray, List.set_cons_zero, List.set_cons_succ]
              rfl
            refine wpAnyH_ready (rs := [14]) (by kernel_rfl) (by simp) ?_
            refine AllReadyH.cons rfl (fun K hK => ?_) AllReadyH.nil
            go_simp
            go_at_call 19
            with_reducible refine (closing_Door_Sent.calls g false t1 c' e' ec' false false t1 c' e' ec' w _ (reO hHeld).rd.door (reO hHeld).rd.bel rfl).mono ?_
            rintro e w' ⟨rfl, hI, hB, hk⟩
            refine hK.out _ _ (reS (Re.keep (reO hHeld) hI hB hk)) (fun hHeld => ?_)
            clear hK K
            try simp only [Act.put, List.setIfInBounds_toArray, List.set_cons_zero, List.set_cons_succ]
            refine takeN (i := 17) (N := (some 133)) (v := ?v1061) (a' := ?a1061) rfl rfl (by kernel_rfl) (by kernel_rfl) (by kernel_rfl) (fun _ _ _ h => h) (Or.inl ⟨by rfl, ?hy1061⟩) ?ha1061 (by assumption) ?rest1061
            case hy1061 =>
              intro w_ hSw_
              go_simp
              first | done | (with_reducible rfl)
            case ha1061 =>
              simp only [Act.put, List.setIfInBounds_toArray, List.set_cons_zero, List.set_cons_succ]
              rfl
            refine takeN (i := 18) (N := (some 134)) (v := undef) (a' := ?a1062) rfl rfl (by kernel_rfl) (by kernel_rfl) (by kernel_rfl) (fun _ _ _ h => h) (Or.inr ⟨by rfl, rfl⟩) ?ha1062 (by assumption) ?rest1062
            case ha1062 =>
              simp only [Act.put, List.setIfInBounds_toArray, List.set_cons_zero, List.set_cons_succ]
              rfl
            refine takeN (i := 19) (N := (some 135)) (v := undef) (a' := ?a1063) rfl rfl (by kernel_rfl) (by kernel_rfl) (by kernel_rfl) (fun _ _ _ h => h) (Or.inr ⟨by rfl, rfl⟩) ?ha1063 (by assumption) ?rest1063
            case ha1063 =>
              simp only [Act.put, List.setIfInBounds_toArray, List.set_cons_zero, List.set_cons_succ]
              rfl
            refine takeN (i := 20) (N := (some 136)) (v := undef) (a' := ?a1064) rfl rfl (by kernel_rfl) (by kernel_rfl) (by kernel_rfl) (fun _ _ _ h => h) (Or.inr ⟨by rfl, rfl⟩) ?ha1064 (by assumption) ?rest1064
            case ha1064 =>
              simp only [Act.put, List.setIfInBounds_toArray, List.set_cons_zero, List.set_cons_succ]
              rfl
            refine takeN (i := 21) (N := (some 137)) (v := ?v1065) (a' := ?a1065) rfl rfl (by kernel_rfl) (by kernel_rfl) (by kernel_rfl) (fun _ _ _ h => h) (Or.inl ⟨by rfl, ?hy1065⟩) ?ha1065 (by assumption) ?rest1065
            case hy1065 =>
              intro w_ hSw_
              go_simp
              first | done | (with_reducible rfl)
            case ha1065 =>
              simp only [Act.put, List.setIfInBounds_toArray, List.set_cons_zero, List.set_cons_succ]
              rfl
            refine takeN (i := 22) (N := (some 138)) (v := ?v1066) (a' := ?a1066) rfl rfl (by kernel_rfl) (by kernel_rfl) (by kernel_rfl) (fun _ _ _ h => h) (Or.inl ⟨by rfl, ?hy1066⟩) ?ha1066 (by assumption) ?rest1066
            case hy1066 =>
              intro w_ hSw_
              go_simp
              first | done | (with_reducible rfl)
            case ha1066 =>
              simp only [Act.put, List.setIfInBounds_toArray, List.set_cons_zero, List.set_cons_succ]
              rfl
            refine takeN (i := 23) (N := (some 139)) (v := ?v1067) (a' := ?a1067) rfl rfl (by kernel_rfl) (by kernel_rfl) (by kernel_rfl) (fun _ _ _ h => h) (Or.inl ⟨by rfl, ?hy1067⟩) ?ha1067 (by assumption) ?rest1067
            case hy1067 =>
              intro w_ hSw_
              go_simp
              first | done | (with_reducible rfl)
            case ha1067 =>
              simp only [Act.put, List.setIfInBounds_toArray, List.set_cons_zero, List.set_cons_succ]
              rfl
            refine wpAnyH_done (by kernel_rfl) ?_ _
            refine NoPanic.normal ?_
            have HX := Aside0.mk (reO hHeld)
            clear hHeld HR
            go_wp2_with fail
            go_roundw
            case rel => exact ⟨j + 1, _, _, _, _, _, by go_num, by omega, HD'.out, HX.out.rd.door, HX.out.rd.bel⟩
            case measure => simp [intOf]; omega
    · obtain rfl : j = l.length := by omega
      go_wp2_with fail
      refine (louverlaw19_fixed.yes _).mono ?_
      rintro e w3 ⟨rfl, hb⟩
      go_wp2_with fail
      go_ret
      exact ⟨rfl, below_step HB.out hb⟩
end Go.Proofs.Ytbcjifadcljkeaa
