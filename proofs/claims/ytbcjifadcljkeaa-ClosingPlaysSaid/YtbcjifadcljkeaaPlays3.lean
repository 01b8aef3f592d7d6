import Derived.Test.YtbcjifadcljkeaaPlays2
namespace Go.Proofs.Ytbcjifadcljkeaa
open Go.RowKit Go.Proofs.YtbcjifadcljkeaaW.PrintWords Go.Proofs.YtbcjifadcljkeaaW.PrintLast Go.Proofs.YtbcjifadcljkeaaW.PrintMore Go.Proofs.Ytbcjifadcljkeaa.PAll Go.Proofs.Ytbcjifadcljkeaa.U
set_option linter.unusedVariables false
set_option maxHeartbeats 16000000 in
set_option maxRecDepth 100000 in
theorem plays_zero (l : List S39) (hat : sendsP l = 0) (A1 : Option Addr) (c1 : Nat) (w : World) (hr : Kd.C k39 w A1 l.length l) (hc1 : l.length ≤ c1) (hl : l.length ≤ 9223372036854775807) : Calls Try.prog 5 #[.slice A1 l.length c1] w fun e w' => e = .returned (.bool true) ∧ Below w.heap.size w w' := by
  have HR0 := Aside0.mk hr
  have HS := Aside0.mk (sends_f l hl (l.length + 10) (Nat.le_refl _))
  clear hr
  go_enter Try.func5, Try.ntmps5
  go_wp2_with fail
  · refine (louverlaw19_fixed.yes _).mono ?_
    rintro e w1 ⟨rfl, hb⟩
    go_wp2_with fail
    go_ret
    exact ⟨rfl, hb⟩
  refine (closing_New.calls false false 0 0 0 w w (Below.refl _ _) rfl).mono ?_
  rintro e w1 ⟨g, rfl, hI, hB, hb⟩
  have HI1 := Aside0.mk hI
  have HB1 := Aside0.mk hB
  clear hI hB
  go_wp2_with fail
  refine (louverref19_Sends.calls (l.length + 10) A1 c1 l (sendsP l) _ (Kd.C_below HR0.out hb) hc1 HS.out).mono ?_
  rw [hat]
  rintro e w2 ⟨rfl, hb2⟩
  have HI2 := Aside0.mk (HI1.out.below hb2)
  have HB2 := Aside0.mk (below_step HB1.out hb2)
  clear hb2 HI1 HB1 HS hb
  go_wp2_with fail
  go_loopw [20] (fun i wr => PlaysR l w g i wr) (fun i _ => l.length - (intOf i).toNat)
  case atStart => exact ⟨0, false, false, 0, 0, 0, rfl, Nat.zero_le _, ⟨rfl, by simp, fun _ => ⟨rfl, rfl, rfl⟩⟩, HI2.out, HB2.out⟩
  case round =>
    obtain ⟨j, s0, s1, c, e, ec, rfl, hj, hD, hI, hB⟩ := hrel
    clear HI2 HB2
    have HI := Aside0.mk hI
    have HB := Aside0.mk hB
    have hg : g < wr.heap.size := hI.lt
    clear hI hB
    by_cases hlt : j < l.length
    · obtain ⟨ad, rfl, hx0, hx1, hx2⟩ := at_T39 HR0.out (j : Int) (by omega) (by omega)
      have hy0 := (HB.out.cell (World.block_lt_of_cell? _ _ hx0)).trans hx0
      have hy1 := (HB.out.cell (World.block_lt_of_cell? _ _ hx1)).trans hx1
      have hy2 := (HB.out.cell (World.block_lt_of_cell? _ _ hx2)).trans hx2
      rw [Int.toNat_natCast, rd_nat39 l j hlt] at hy0 hy1 hy2
      clear hx0 hx1 hx2
      have hwc := Aside0.mk (fun h hs => way_close hD hlt h 7000 (Nat.le_refl _) hs)
      have hwg := Aside0.mk (fun h => way_got hD hlt h 7000 (Nat.le_refl _))
      have hwb := Aside0.mk (fun h => way_bad hD hlt h 7000 (Nat.le_refl _))
      have hwk := Aside0.mk (way_cut hD hlt)
      generalize l[j] = o at *
      by_cases h300 : (o.f2.size : Int) > 300
      · have h3 : decide ((o.f2.size : Int) > 300) = true := decide_eq_true h300
        go_wp2_with fail
        refine (louverlaw19_fixed.yes _).mono ?_
        rintro e w3 ⟨rfl, hb⟩
        go_wp2_with fail
        go_ret
        exact ⟨rfl, below_step (below_alloc HB.out _) hb⟩
      · have h3 : decide ((o.f2.size : Int) > 300) = false := decide_eq_false h300
        have HZ : Aside0 (o.f2.size ≤ 3000) := ⟨by omega⟩
        go_upto_block 2 with fail
        (try simp only [Act.put, List.setIfInBounds_toArray, List.set_cons_zero, List.set_cons_succ])
        go_cut [8, 9] (fun v8 v9 wc => After l w g wr.heap.size o j v8 v9 wc)
        case first =>
          have h4 : o.f0 = 0 ∨ (o.f0 ≠ 0 ∧ o.f0 = 1) ∨ (o.f0 ≠ 0 ∧ o.f0 ≠ 1 ∧ o.f0 = 2) ∨ (o.f0 ≠ 0 ∧ o.f0 ≠ 1 ∧ o.f0 ≠ 2) := by omega
          rcases h4 with k | k | k | k
          · have k0b : (o.f0 == 0) = true := by simp [k]
            have HKK := Aside0.mk k
            clear k
            rcases hwc.out HKK.out HZ.out with ⟨t0, t1, c', e', ec', hf, hD', hj0, hs0⟩ | ⟨t0, t1, c', e', ec', hf, hD', hne⟩
            · have HD' := Aside0.mk hD'
              have HF := Aside0.mk hf
              clear hf hD'
              have HN := Aside0.mk (And.intro hj0 hs0)
              clear hj0 hs0
              go_wp2_with fail
              refine (closing_Door_Close.calls 7000 g s0 s1 c e ec o.f1 o.f2 true 8 false 0 (dataC o.f1 o.f2) true t0 t1 c' e' ec' w _ ((HI.out.alloc _).alloc _) (below_alloc (below_alloc HB.out _) _) HF.out).mono ?_
              rintro e w3 ⟨v, rfl, ho, hI3, hB3, hk3⟩
              obtain ⟨A, cp, rfl⟩ := Kd.R_slice ho
              have hp3 : w3.heap[wr.heap.size + 1]? = some (.cells #[.bool false, .int .u8 0, .bool false, .int .u32 0, .slice none 0 0] 27 (0, 0)) := hk3.blk (last_at _ _ _ (by simp)) (by omega) (by simp)
              have hq3 : w3.heap[wr.heap.size]? = some (.cells #[.int .i64 o.f0, .int .u32 o.f1, .string o.f2] 39 (0, 0)) := hk3.blk (blk_alloc (last_at _ _ _ rfl) _) (by omega) (by simp)
              have hr2 := Kd.R_types (Kd.R_types ho hI3.1 (by intro q hq; simp [Kd.int, Kd.scalar] at hq; omega)) hp3 (by intro q hq; simp [Kd.int, Kd.scalar] at hq; omega)
              have hR3 : ∀ V : World, (∀ k, k ≠ wr.heap.size + 1 → V.heap[k]? = w3.heap[k]?) → V.heap[wr.heap.size + 1]? = some (.cells #[.bool true, .int .u8 8, .bool false, .int .u32 0, .slice A (dataC o.f1 o.f2).length cp] 27 (0, 0)) → V.heap.size = w3.heap.size → Below w.heap.size w V → Rd w g wr.heap.size (wr.heap.size + 1) t0 t1 c' e' ec' o true 8 A (dataC o.f1 o.f2) cp V := fun V hV hp hs hB =>
                ⟨hB, is_mk ((hV g (by omega)).trans hI3.1) hI3.2, (hV _ (by omega)).trans hq3, hp, fun V' hV' => (Kd.R_reads' (Kd.R_step hr2 (fun k hk hlt => (hV'.2 k (by omega) hk.1.2 (by simp)).trans (hV k hk.2)))).2.2, by omega, by omega⟩
              have f0 := blk_frozen hp3 0
              have f1 := blk_frozen hp3 1
              have f2 := blk_frozen hp3 2
              have f3 := blk_frozen hp3 3
              have f4 := blk_frozen hp3 4
              have c0_ : w3.cell? ⟨wr.heap.size + 1, 0, none⟩ = some (.bool false) := (blk_cell hp3 0).trans rfl
              have c1_ : w3.cell? ⟨wr.heap.size + 1, 1, none⟩ = some (.int .u8 0) := (blk_cell hp3 1).trans rfl
              have c2_ : w3.cell? ⟨wr.heap.size + 1, 2, none⟩ = some (.bool false) := (blk_cell hp3 2).trans rfl
              have c3_ : w3.cell? ⟨wr.heap.size + 1, 3, none⟩ = some (.int .u32 0) := (blk_cell hp3 3).trans rfl
              have c4_ : w3.cell? ⟨wr.heap.size + 1, 4, none⟩ = some (.slice none 0 0) := (blk_cell hp3 4).trans rfl
              have q2 : w3.cell? ⟨wr.heap.size, 2, none⟩ = some (.string o.f2) := (blk_cell hq3 2).trans rfl
              have lp : wr.heap.size + 1 < w3.heap.size := blk_lt hp3
              have hput := put5 hp3 rfl (.bool true) (.int .u8 8) (.bool false) (.int .u32 0) (.slice A (dataC o.f1 o.f2).length cp)
              dsimp only at hput
              have HR := Aside0.mk (hR3 _ hput.2.1 hput.1 hput.2.2.1 (hput.2.2.2 _ (by have := HI.out.2; have := HI.out.lt; have := HB.out.size; omega) _ hB3))
              clear hput hR3 hr2 hp3 hq3 ho hI3 hB3 hk3
              go_wp2_with fail
              go_meet
              case rel => exact ⟨_, _, _, _, _, o.f2, _, _, HD'.out, HZ.out, rfl, .inl ⟨rfl, HN.out.1, HN.out.2, HR.out⟩⟩
            · have HD' := Aside0.mk hD'
              have HF := Aside0.mk hf
              clear hf hD'
              have HN := Aside0.mk hne
              clear hne
              go_wp2_with fail
              refine (closing_Door_Close.calls 7000 g s0 s1 c e ec o.f1 o.f2 false 0 false 0 [] false t0 t1 c' e' ec' w _ ((HI.out.alloc _).alloc _) (below_alloc (below_alloc HB.out _) _) HF.out).mono ?_
              rintro e w3 ⟨v, rfl, ho, hI3, hB3, hk3⟩
              obtain ⟨A, cp, rfl⟩ := Kd.R_slice ho
              have hp3 : w3.heap[wr.heap.size + 1]? = some (.cells #[.bool false, .int .u8 0, .bool false, .int .u32 0, .slice none 0 0] 27 (0, 0)) := hk3.blk (last_at _ _ _ (by simp)) (by omega) (by simp)
              have hq3 : w3.heap[wr.heap.size]? = some (.cells #[.int .i64 o.f0, .int .u32 o.f1, .string o.f2] 39 (0, 0)) := hk3.blk (blk_alloc (last_at _ _ _ rfl) _) (by omega) (by simp)
              have hr2 := Kd.R_types (Kd.R_types ho hI3.1 (by intro q hq; simp [Kd.int, Kd.scalar] at hq; omega)) hp3 (by intro q hq; simp [Kd.int, Kd.scalar] at hq; omega)
              have hR3 : ∀ V : World, (∀ k, k ≠ wr.heap.size + 1 → V.heap[k]? = w3.heap[k]?) → V.heap[wr.heap.size + 1]? = some (.cells #[.bool false, .int .u8 0, .bool false, .int .u32 0, .slice A (([] : List Int)).length cp] 27 (0, 0)) → V.heap.size = w3.heap.size → Below w.heap.size w V → Rd w g wr.heap.size (wr.heap.size + 1) t0 t1 c' e' ec' o false 0 A (([] : List Int)) cp V := fun V hV hp hs hB =>
                ⟨hB, is_mk ((hV g (by omega)).trans hI3.1) hI3.2, (hV _ (by omega)).trans hq3, hp, fun V' hV' => (Kd.R_reads' (Kd.R_step hr2 (fun k hk hlt => (hV'.2 k (by omega) hk.1.2 (by simp)).trans (hV k hk.2)))).2.2, by omega, by omega⟩
              have f0 := blk_frozen hp3 0
              have f1 := blk_frozen hp3 1
              have f2 := blk_frozen hp3 2
              have f3 := blk_frozen hp3 3
              have f4 := blk_frozen hp3 4
              have c0_ : w3.cell? ⟨wr.heap.size + 1, 0, none⟩ = some (.bool false) := (blk_cell hp3 0).trans rfl
              have c1_ : w3.cell? ⟨wr.heap.size + 1, 1, none⟩ = some (.int .u8 0) := (blk_cell hp3 1).trans rfl
              have c2_ : w3.cell? ⟨wr.heap.size + 1, 2, none⟩ = some (.bool false) := (blk_cell hp3 2).trans rfl
              have c3_ : w3.cell? ⟨wr.heap.size + 1, 3, none⟩ = some (.int .u32 0) := (blk_cell hp3 3).trans rfl
              have c4_ : w3.cell? ⟨wr.heap.size + 1, 4, none⟩ = some (.slice none 0 0) := (blk_cell hp3 4).trans rfl
              have q2 : w3.cell? ⟨wr.heap.size, 2, none⟩ = some (.string o.f2) := (blk_cell hq3 2).trans rfl
              have lp : wr.heap.size + 1 < w3.heap.size := blk_lt hp3
              have hput := put5 hp3 rfl (.bool false) (.int .u8 0) (.bool false) (.int .u32 0) (.slice A (([] : List Int)).length cp)
              dsimp only at hput
              have HR := Aside0.mk (hR3 _ hput.2.1 hput.1 hput.2.2.1 (hput.2.2.2 _ (by have := HI.out.2; have := HI.out.lt; have := HB.out.size; omega) _ hB3))
              clear hput hR3 hr2 hp3 hq3 ho hI3 hB3 hk3
              go_wp2_with fail
              go_meet
              case rel => exact ⟨_, _, _, _, _, o.f2, _, _, HD'.out, HZ.out, rfl, .inr ⟨rfl, HN.out, HR.out⟩⟩
          · have k0b : (o.f0 == 0) = false := by simp; omega
            have k1b : (o.f0 == 1) = true := by simp [k]
            have HKK := Aside0.mk k
            clear k
            rcases hwg.out HKK.out.2 with ⟨t0, t1, c', e', ec', hf, hD', hj0, hs0⟩ | ⟨t0, t1, c', e', ec', hf, hD', hne⟩
            · have HD' := Aside0.mk hD'
              have HF := Aside0.mk hf
              clear hf hD'
              have HN := Aside0.mk (And.intro hj0 hs0)
              clear hj0 hs0
              go_wp2_with fail
              refine (closing_Door_Got.calls 7000 g s0 s1 c e ec o.f1 true 8 false 0 (dataC o.f1 (⟨#[]⟩ : ByteArray)) true t0 t1 c' e' ec' w _ ((HI.out.alloc _).alloc _) (below_alloc (below_alloc HB.out _) _) HF.out).mono ?_
              rintro e w3 ⟨v, rfl, ho, hI3, hB3, hk3⟩
              obtain ⟨A, cp, rfl⟩ := Kd.R_slice ho
              have hp3 : w3.heap[wr.heap.size + 1]? = some (.cells #[.bool false, .int .u8 0, .bool false, .int .u32 0, .slice none 0 0] 27 (0, 0)) := hk3.blk (last_at _ _ _ (by simp)) (by omega) (by simp)
              have hq3 : w3.heap[wr.heap.size]? = some (.cells #[.int .i64 o.f0, .int .u32 o.f1, .string o.f2] 39 (0, 0)) := hk3.blk (blk_alloc (last_at _ _ _ rfl) _) (by omega) (by simp)
              have hr2 := Kd.R_types (Kd.R_types ho hI3.1 (by intro q hq; simp [Kd.int, Kd.scalar] at hq; omega)) hp3 (by intro q hq; simp [Kd.int, Kd.scalar] at hq; omega)
              have hR3 : ∀ V : World, (∀ k, k ≠ wr.heap.size + 1 → V.heap[k]? = w3.heap[k]?) → V.heap[wr.heap.size + 1]? = some (.cells #[.bool true, .int .u8 8, .bool false, .int .u32 0, .slice A (dataC o.f1 (⟨#[]⟩ : ByteArray)).length cp] 27 (0, 0)) → V.heap.size = w3.heap.size → Below w.heap.size w V → Rd w g wr.heap.size (wr.heap.size + 1) t0 t1 c' e' ec' o true 8 A (dataC o.f1 (⟨#[]⟩ : ByteArray)) cp V := fun V hV hp hs hB =>
                ⟨hB, is_mk ((hV g (by omega)).trans hI3.1) hI3.2, (hV _ (by omega)).trans hq3, hp, fun V' hV' => (Kd.R_reads' (Kd.R_step hr2 (fun k hk hlt => (hV'.2 k (by omega) hk.1.2 (by simp)).trans (hV k hk.2)))).2.2, by omega, by omega⟩
              have f0 := blk_frozen hp3 0
              have f1 := blk_frozen hp3 1
              have f2 := blk_frozen hp3 2
              have f3 := blk_frozen hp3 3
              have f4 := blk_frozen hp3 4
              have c0_ : w3.cell? ⟨wr.heap.size + 1, 0, none⟩ = some (.bool false) := (blk_cell hp3 0).trans rfl
              have c1_ : w3.cell? ⟨wr.heap.size + 1, 1, none⟩ = some (.int .u8 0) := (blk_cell hp3 1).trans rfl
              have c2_ : w3.cell? ⟨wr.heap.size + 1, 2, none⟩ = some (.bool false) := (blk_cell hp3 2).trans rfl
              have c3_ : w3.cell? ⟨wr.heap.size + 1, 3, none⟩ = some (.int .u32 0) := (blk_cell hp3 3).trans rfl
              have c4_ : w3.cell? ⟨wr.heap.size + 1, 4, none⟩ = some (.slice none 0 0) := (blk_cell hp3 4).trans rfl
              have q2 : w3.cell? ⟨wr.heap.size, 2, none⟩ = some (.string o.f2) := (blk_cell hq3 2).trans rfl
              have lp : wr.heap.size + 1 < w3.heap.size := blk_lt hp3
              have hput := put5 hp3 rfl (.bool true) (.int .u8 8) (.bool false) (.int .u32 0) (.slice A (dataC o.f1 (⟨#[]⟩ : ByteArray)).length cp)
              dsimp only at hput
              have HR := Aside0.mk (hR3 _ hput.2.1 hput.1 hput.2.2.1 (hput.2.2.2 _ (by have := HI.out.2; have := HI.out.lt; have := HB.out.size; omega) _ hB3))
              clear hput hR3 hr2 hp3 hq3 ho hI3 hB3 hk3
              go_wp2_with fail
              go_meet
              case rel => exact ⟨_, _, _, _, _, (⟨#[]⟩ : ByteArray), _, _, HD'.out, (by decide), rfl, .inl ⟨rfl, HN.out.1, HN.out.2, HR.out⟩⟩
            · have HD' := Aside0.mk hD'
              have HF := Aside0.mk hf
              clear hf hD'
              have HN := Aside0.mk hne
              clear hne
              go_wp2_with fail
              refine (closing_Door_Got.calls 7000 g s0 s1 c e ec o.f1 false 0 false 0 [] false t0 t1 c' e' ec' w _ ((HI.out.alloc _).alloc _) (below_alloc (below_alloc HB.out _) _) HF.out).mono ?_
              rintro e w3 ⟨v, rfl, ho, hI3, hB3, hk3⟩
              obtain ⟨A, cp, rfl⟩ := Kd.R_slice ho
              have hp3 : w3.heap[wr.heap.size + 1]? = some (.cells #[.bool false, .int .u8 0, .bool false, .int .u32 0, .slice none 0 0] 27 (0, 0)) := hk3.blk (last_at _ _ _ (by simp)) (by omega) (by simp)
              have hq3 : w3.heap[wr.heap.size]? = some (.cells #[.int .i64 o.f0, .int .u32 o.f1, .string o.f2] 39 (0, 0)) := hk3.blk (blk_alloc (last_at _ _ _ rfl) _) (by omega) (by simp)
              have hr2 := Kd.R_types (Kd.R_types ho hI3.1 (by intro q hq; simp [Kd.int, Kd.scalar] at hq; omega)) hp3 (by intro q hq; simp [Kd.int, Kd.scalar] at hq; omega)
              have hR3 : ∀ V : World, (∀ k, k ≠ wr.heap.size + 1 → V.heap[k]? = w3.heap[k]?) → V.heap[wr.heap.size + 1]? = some (.cells #[.bool false, .int .u8 0, .bool false, .int .u32 0, .slice A (([] : List Int)).length cp] 27 (0, 0)) → V.heap.size = w3.heap.size → Below w.heap.size w V → Rd w g wr.heap.size (wr.heap.size + 1) t0 t1 c' e' ec' o false 0 A (([] : List Int)) cp V := fun V hV hp hs hB =>
                ⟨hB, is_mk ((hV g (by omega)).trans hI3.1) hI3.2, (hV _ (by omega)).trans hq3, hp, fun V' hV' => (Kd.R_reads' (Kd.R_step hr2 (fun k hk hlt => (hV'.2 k (by omega) hk.1.2 (by simp)).trans (hV k hk.2)))).2.2, by omega, by omega⟩
              have f0 := blk_frozen hp3 0
              have f1 := blk_frozen hp3 1
              have f2 := blk_frozen hp3 2
              have f3 := blk_frozen hp3 3
              have f4 := blk_frozen hp3 4
              have c0_ : w3.cell? ⟨wr.heap.size + 1, 0, none⟩ = some (.bool false) := (blk_cell hp3 0).trans rfl
              have c1_ : w3.cell? ⟨wr.heap.size + 1, 1, none⟩ = some (.int .u8 0) := (blk_cell hp3 1).trans rfl
              have c2_ : w3.cell? ⟨wr.heap.size + 1, 2, none⟩ = some (.bool false) := (blk_cell hp3 2).trans rfl
              have c3_ : w3.cell? ⟨wr.heap.size + 1, 3, none⟩ = some (.int .u32 0) := (blk_cell hp3 3).trans rfl
              have c4_ : w3.cell? ⟨wr.heap.size + 1, 4, none⟩ = some (.slice none 0 0) := (blk_cell hp3 4).trans rfl
              have q2 : w3.cell? ⟨wr.heap.size, 2, none⟩ = some (.string o.f2) := (blk_cell hq3 2).trans rfl
              have lp : wr.heap.size + 1 < w3.heap.size := blk_lt hp3
              have hput := put5 hp3 rfl (.bool false) (.int .u8 0) (.bool false) (.int .u32 0) (.slice A (([] : List Int)).length cp)
              dsimp only at hput
              have HR := Aside0.mk (hR3 _ hput.2.1 hput.1 hput.2.2.1 (hput.2.2.2 _ (by have := HI.out.2; have := HI.out.lt; have := HB.out.size; omega) _ hB3))
              clear hput hR3 hr2 hp3 hq3 ho hI3 hB3 hk3
              go_wp2_with fail
              go_meet
              case rel => exact ⟨_, _, _, _, _, (⟨#[]⟩ : ByteArray), _, _, HD'.out, (by decide), rfl, .inr ⟨rfl, HN.out, HR.out⟩⟩
          · have k0b : (o.f0 == 0) = false := by simp; omega
            have k1b : (o.f0 == 1) = false := by simp; omega
            have k2b : (o.f0 == 2) = true := by simp [k]
            have HKK := Aside0.mk k
            clear k
            rcases hwb.out HKK.out.2.2 with ⟨t0, t1, c', e', ec', hf, hD', hj0, hs0⟩ | ⟨t0, t1, c', e', ec', hf, hD', hne⟩
            · have HD' := Aside0.mk hD'
              have HF := Aside0.mk hf
              clear hf hD'
              have HN := Aside0.mk (And.intro hj0 hs0)
              clear hj0 hs0
              go_wp2_with fail
              refine (closing_Door_Bad.calls 7000 g s0 s1 c e ec o.f1 true 8 false 0 (dataC o.f1 (⟨#[]⟩ : ByteArray)) true t0 t1 c' e' ec' w _ ((HI.out.alloc _).alloc _) (below_alloc (below_alloc HB.out _) _) HF.out).mono ?_
              rintro e w3 ⟨v, rfl, ho, hI3, hB3, hk3⟩
              obtain ⟨A, cp, rfl⟩ := Kd.R_slice ho
              have hp3 : w3.heap[wr.heap.size + 1]? = some (.cells #[.bool false, .int .u8 0, .bool false, .int .u32 0, .slice none 0 0] 27 (0, 0)) := hk3.blk (last_at _ _ _ (by simp)) (by omega) (by simp)
              have hq3 : w3.heap[wr.heap.size]? = some (.cells #[.int .i64 o.f0, .int .u32 o.f1, .string o.f2] 39 (0, 0)) := hk3.blk (blk_alloc (last_at _ _ _ rfl) _) (by omega) (by simp)
              have hr2 := Kd.R_types (Kd.R_types ho hI3.1 (by intro q hq; simp [Kd.int, Kd.scalar] at hq; omega)) hp3 (by intro q hq; simp [Kd.int, Kd.scalar] at hq; omega)
              have hR3 : ∀ V : World, (∀ k, k ≠ wr.heap.size + 1 → V.heap[k]? = w3.heap[k]?) → V.heap[wr.heap.size + 1]? = some (.cells #[.bool true, .int .u8 8, .bool false, .int .u32 0, .slice A (dataC o.f1 (⟨#[]⟩ : ByteArray)).length cp] 27 (0, 0)) → V.heap.size = w3.heap.size → Below w.heap.size w V → Rd w g wr.heap.size (wr.heap.size + 1) t0 t1 c' e' ec' o true 8 A (dataC o.f1 (⟨#[]⟩ : ByteArray)) cp V := fun V hV hp hs hB =>
                ⟨hB, is_mk ((hV g (by omega)).trans hI3.1) hI3.2, (hV _ (by omega)).trans hq3, hp, fun V' hV' => (Kd.R_reads' (Kd.R_step hr2 (fun k hk hlt => (hV'.2 k (by omega) hk.1.2 (by simp)).trans (hV k hk.2)))).2.2, by omega, by omega⟩
              have f0 := blk_frozen hp3 0
              have f1 := blk_frozen hp3 1
              have f2 := blk_frozen hp3 2
              have f3 := blk_frozen hp3 3
              have f4 := blk_frozen hp3 4
              have c0_ : w3.cell? ⟨wr.heap.size + 1, 0, none⟩ = some (.bool false) := (blk_cell hp3 0).trans rfl
              have c1_ : w3.cell? ⟨wr.heap.size + 1, 1, none⟩ = some (.int .u8 0) := (blk_cell hp3 1).trans rfl
              have c2_ : w3.cell? ⟨wr.heap.size + 1, 2, none⟩ = some (.bool false) := (blk_cell hp3 2).trans rfl
              have c3_ : w3.cell? ⟨wr.heap.size + 1, 3, none⟩ = some (.int .u32 0) := (blk_cell hp3 3).trans rfl
              have c4_ : w3.cell? ⟨wr.heap.size + 1, 4, none⟩ = some (.slice none 0 0) := (blk_cell hp3 4).trans rfl
              have q2 : w3.cell? ⟨wr.heap.size, 2, none⟩ = some (.string o.f2) := (blk_cell hq3 2).trans rfl
              have lp : wr.heap.size + 1 < w3.heap.size := blk_lt hp3
              have hput := put5 hp3 rfl (.bool true) (.int .u8 8) (.bool false) (.int .u32 0) (.slice A (dataC o.f1 (⟨#[]⟩ : ByteArray)).length cp)
              dsimp only at hput
              have HR := Aside0.mk (hR3 _ hput.2.1 hput.1 hput.2.2.1 (hput.2.2.2 _ (by have := HI.out.2; have := HI.out.lt; have := HB.out.size; omega) _ hB3))
              clear hput hR3 hr2 hp3 hq3 ho hI3 hB3 hk3
              go_wp2_with fail
              go_meet
              case rel => exact ⟨_, _, _, _, _, (⟨#[]⟩ : ByteArray), _, _, HD'.out, (by decide), rfl, .inl ⟨rfl, HN.out.1, HN.out.2, HR.out⟩⟩
            · have HD' := Aside0.mk hD'
              have HF := Aside0.mk hf
              clear hf hD'
              have HN := Aside0.mk hne
              clear hne
              go_wp2_with fail
              refine (closing_Door_Bad.calls 7000 g s0 s1 c e ec o.f1 false 0 false 0 [] false t0 t1 c' e' ec' w _ ((HI.out.alloc _).alloc _) (below_alloc (below_alloc HB.out _) _) HF.out).mono ?_
              rintro e w3 ⟨v, rfl, ho, hI3, hB3, hk3⟩
              obtain ⟨A, cp, rfl⟩ := Kd.R_slice ho
              have hp3 : w3.heap[wr.heap.size + 1]? = some (.cells #[.bool false, .int .u8 0, .bool false, .int .u32 0, .slice none 0 0] 27 (0, 0)) := hk3.blk (last_at _ _ _ (by simp)) (by omega) (by simp)
              have hq3 : w3.heap[wr.heap.size]? = some (.cells #[.int .i64 o.f0, .int .u32 o.f1, .string o.f2] 39 (0, 0)) := hk3.blk (blk_alloc (last_at _ _ _ rfl) _) (by omega) (by simp)
              have hr2 := Kd.R_types (Kd.R_types ho hI3.1 (by intro q hq; simp [Kd.int, Kd.scalar] at hq; omega)) hp3 (by intro q hq; simp [Kd.int, Kd.scalar] at hq; omega)
              have hR3 : ∀ V : World, (∀ k, k ≠ wr.heap.size + 1 → V.heap[k]? = w3.heap[k]?) → V.heap[wr.heap.size + 1]? = some (.cells #[.bool false, .int .u8 0, .bool false, .int .u32 0, .slice A (([] : List Int)).length cp] 27 (0, 0)) → V.heap.size = w3.heap.size → Below w.heap.size w V → Rd w g wr.heap.size (wr.heap.size + 1) t0 t1 c' e' ec' o false 0 A (([] : List Int)) cp V := fun V hV hp hs hB =>
                ⟨hB, is_mk ((hV g (by omega)).trans hI3.1) hI3.2, (hV _ (by omega)).trans hq3, hp, fun V' hV' => (Kd.R_reads' (Kd.R_step hr2 (fun k hk hlt => (hV'.2 k (by omega) hk.1.2 (by simp)).trans (hV k hk.2)))).2.2, by omega, by omega⟩
              have f0 := blk_frozen hp3 0
              have f1 := blk_frozen hp3 1
              have f2 := blk_frozen hp3 2
              have f3 := blk_frozen hp3 3
              have f4 := blk_frozen hp3 4
              have c0_ : w3.cell? ⟨wr.heap.size + 1, 0, none⟩ = some (.bool false) := (blk_cell hp3 0).trans rfl
              have c1_ : w3.cell? ⟨wr.heap.size + 1, 1, none⟩ = some (.int .u8 0) := (blk_cell hp3 1).trans rfl
              have c2_ : w3.cell? ⟨wr.heap.size + 1, 2, none⟩ = some (.bool false) := (blk_cell hp3 2).trans rfl
              have c3_ : w3.cell? ⟨wr.heap.size + 1, 3, none⟩ = some (.int .u32 0) := (blk_cell hp3 3).trans rfl
              have c4_ : w3.cell? ⟨wr.heap.size + 1, 4, none⟩ = some (.slice none 0 0) := (blk_cell hp3 4).trans rfl
              have q2 : w3.cell? ⟨wr.heap.size, 2, none⟩ = some (.string o.f2) := (blk_cell hq3 2).trans rfl
              have lp : wr.heap.size + 1 < w3.heap.size := blk_lt hp3
              have hput := put5 hp3 rfl (.bool false) (.int .u8 0) (.bool false) (.int .u32 0) (.slice A (([] : List Int)).length cp)
              dsimp only at hput
              have HR := Aside0.mk (hR3 _ hput.2.1 hput.1 hput.2.2.1 (hput.2.2.2 _ (by have := HI.out.2; have := HI.out.lt; have := HB.out.size; omega) _ hB3))
              clear hput hR3 hr2 hp3 hq3 ho hI3 hB3 hk3
              go_wp2_with fail
              go_meet
              case rel => exact ⟨_, _, _, _, _, (⟨#[]⟩ : ByteArray), _, _, HD'.out, (by decide), rfl, .inr ⟨rfl, HN.out, HR.out⟩⟩
          · have k0b : (o.f0 == 0) = false := by simp; omega
            have k1b : (o.f0 == 1) = false := by simp; omega
            have k2b : (o.f0 == 2) = false := by simp; omega
            have HKK := Aside0.mk k
            clear k
            obtain ⟨t0, t1, c', e', ec', hf, hD', hne⟩ := hwk.out HKK.out.1 HKK.out.2.1 HKK.out.2.2
            have HD' := Aside0.mk hD'
            have HF := Aside0.mk hf
            have HN := Aside0.mk hne
            clear hf hD' hne
            go_wp2_with fail
            refine (closing_Door_Cut.calls g s0 s1 c e ec t0 t1 c' e' ec' w _ ((HI.out.alloc _).alloc _) (below_alloc (below_alloc HB.out _) _) HF.out).mono ?_
            rintro e w3 ⟨rfl, hI3, hB3, hk3⟩
            have HR : Aside0 (Rd w g wr.heap.size (wr.heap.size + 1) t0 t1 c' e' ec' o false 0 none (([] : List Int)) 0 w3) := ⟨⟨hB3, hI3, hk3.blk (blk_alloc (last_at _ _ _ rfl) _) (by omega) (by simp), hk3.blk (last_at _ _ _ (by simp)) (by omega) (by simp), fun V _ => Kd.C_nil _ V, by omega, by omega⟩⟩
            clear hI3 hB3 hk3
            go_wp2_with fail
            go_meet
            case rel => exact ⟨_, _, _, _, _, (⟨#[]⟩ : ByteArray), _, _, HD'.out, (by decide), rfl, .inr ⟨rfl, HN.out, HR.out⟩⟩
        case rest =>
          clear hwc hwg hwb hwk hy0 hy1 hy2 h3 HI HB
          obtain ⟨t0, t1, c', e', ec', s, A, cp, hD', hss, rfl, hways⟩ := hcut
          have HZ2 := Aside0.mk hss
          clear hss
          obtain rfl : t0 = true := by rw [hD'.2.1, hat]; simp
          have HD' := Aside0.mk hD'
          clear hD'
          rcases hways with ⟨rfl, hj0, hs0, hR⟩ | ⟨rfl, hne, hR⟩
          · have heq : ((j : Int) == 0) = true := by simp [hj0]
            have HR := Aside0.mk hR
            clear hR hj0 hs0
            go_wp2_with fail
            have hsame := data_same o.f1 s
            refine wp_region_noPanic ?_
            refine wp_region_held_drew (S := fun w' => Aside0 (Rd w g wr.heap.size (wr.heap.size + 1) true t1 c' e' ec' o true 8 A (dataC o.f1 s) cp w') ∧ w'.cell? ⟨wr.heap.size, 1, none⟩ = some (.int .u32 o.f1) ∧ w'.cell? ⟨wr.heap.size + 1, 0, none⟩ = some (.bool true) ∧ w'.cell? ⟨wr.heap.size + 1, 1, none⟩ = some (.int .u8 8) ∧ w'.cell? ⟨wr.heap.size + 1, 2, none⟩ = some (.bool false) ∧ w'.cell? ⟨wr.heap.size + 1, 4, none⟩ = some (.slice A (dataC o.f1 s).length cp) ∧ (convert 25 9 (.slice A (dataC o.f1 s).length cp)).run Try.prog w' = .ok (.string (strOfNums (dataC o.f1 s))) w') (by kernel_rfl) (rdS (Rd.below HR.out (below_drew (Below.refl _ _)))) (fun hHeld => ?_)
            refine takeN (i := 0) (N := (some 65)) (v := ?v1) (a' := ?a1) rfl rfl (by kernel_rfl) (by kernel_rfl) (by kernel_rfl) (fun _ _ _ h => h) (Or.inl ⟨by rfl, ?hy1⟩) ?ha1 (by assumption) ?rest1
            case hy1 =>
              intro w_ hSw_
              go_simp
              first | done | (with_reducible rfl)
            case ha1 =>
              simp only [Act.put, List.setIfInBounds_toArray, List.set_cons_zero, List.set_cons_succ]
              rfl
            refine takeN (i := 1) (N := (some 66)) (v := ?v2) (a' := ?a2) rfl rfl (by kernel_rfl) (by kernel_rfl) (by kernel_rfl) (fun _ _ _ h => h) (Or.inl ⟨by rfl, ?hy2⟩) ?ha2 (by assumption) ?rest2
            case hy2 =>
              intro w_ hSw_
              go_simp
              first | done | (with_reducible rfl)
            case ha2 =>
              simp only [Act.put, List.setIfInBounds_toArray, List.set_cons_zero, List.set_cons_succ]
              rfl
            refine takeN (i := 2) (N := (some 67)) (v := ?v3) (a' := ?a3) rfl rfl (by kernel_rfl) (by kernel_rfl) (by kernel_rfl) (fun _ _ _ h => h) (Or.inl ⟨by rfl, ?hy3⟩) ?ha3 (by assumption) ?rest3
            case hy3 =>
              intro w_ hSw_
              go_simp
              first | done | (with_reducible rfl)
            case ha3 =>
              simp only [Act.put, List.setIfInBounds_toArray, List.set_cons_zero, List.set_cons_succ]
              rfl
            refine takeN (i := 3) (N := (some 68)) (v := ?v4) (a' := ?a4) rfl rfl (by kernel_rfl) (by kernel_rfl) (by kernel_rfl) (fun _ _ _ h => h) (Or.inl ⟨by rfl, ?hy4⟩) ?ha4 (by assumption) ?rest4
            case hy4 =>
              intro w_ hSw_
              go_simp
              first | done | (with_reducible rfl)
            case ha4 =>
              simp only [Act.put, List.setIfInBounds_toArray, List.set_cons_zero, List.set_cons_succ]
              rfl
            refine takeN (i := 4) (N := (some 69)) (v := ?v5) (a' := ?a5) rfl rfl (by kernel_rfl) (by kernel_rfl) (by kernel_rfl) (fun _ _ _ h => h) (Or.inl ⟨by rfl, ?hy5⟩) ?ha5 (by assumption) ?rest5
            case hy5 =>
              intro w_ hSw_
              go_simp
              first | done | (with_reducible rfl)
            case ha5 =>
              simp only [Act.put, List.setIfInBounds_toArray, List.set_cons_zero, List.set_cons_succ]
              rfl
            refine takeN (i := 5) (N := (some 70)) (v := ?v6) (a' := ?a6) rfl rfl (by kernel_rfl) (by kernel_rfl) (by kernel_rfl) (fun _ _ _ h => h) (Or.inl ⟨by rfl, ?hy6⟩) ?ha6 (by assumption) ?rest6
            case hy6 =>
              intro w_ hSw_
              go_simp
              first | done | (with_reducible rfl)
            case ha6 =>
              simp only [Act.put, List.setIfInBounds_toArray, List.set_cons_zero, List.set_cons_succ]
              rfl
            refine takeN (i := 6) (N := (some 71)) (v := ?v7) (a' := ?a7) rfl rfl (by kernel_rfl) (by kernel_rfl) (by kernel_rfl) (fun _ _ _ h => h) (Or.inl ⟨by rfl, ?hy7⟩) ?ha7 (by assumption) ?rest7
            case hy7 =>
              intro w_ hSw_
              go_simp
              first | done | (with_reducible rfl)
            case ha7 =>
              simp only [Act.put, List.setIfInBounds_toArray, List.set_cons_zero, List.set_cons_succ]
              rfl
            refine takeN (i := 7) (N := (some 72)) (v := ?v8) (a' := ?a8) rfl rfl (by kernel_rfl) (by kernel_rfl) (by kernel_rfl) (fun _ _ _ h => h) (Or.inl ⟨by rfl, ?hy8⟩) ?ha8 (by assumption) ?rest8
            case hy8 =>
              intro w_ hSw_
              go_simp
              first | done | (with_reducible rfl)
            case ha8 =>
              simp only [Act.put, List.setIfInBounds_toArray, List.set_cons_zero, List.set_cons_succ]
              rfl
            refine takeN (i := 8) (N := (some 73)) (v := ?v9) (a' := ?a9) rfl rfl (by kernel_rfl) (by kernel_rfl) (by kernel_rfl) (fun _ _ _ h => h) (Or.inl ⟨by rfl, ?hy9⟩) ?ha9 (by assumption) ?rest9
            case hy9 =>
              intro w_ hSw_
              go_simp
              first | done | (with_reducible rfl)
            case ha9 =>
              simp only [Act.put, List.setIfInBounds_toArray, List.set_cons_zero, List.set_cons_succ]
              rfl
            refine takeN (i := 9) (N := (some 74)) (v := ?v10) (a' := ?a10) rfl rfl (by kernel_rfl) (by kernel_rfl) (by kernel_rfl) (fun _ _ _ h => h) (Or.inl ⟨by rfl, ?hy10⟩) ?ha10 (by assumption) ?rest10
            case hy10 =>
              intro w_ hSw_
              go_simp
              first | done | (with_reducible rfl)
            case ha10 =>
              simp only [Act.put, List.setIfInBounds_toArray, List.set_cons_zero, List.set_cons_succ]
              rfl
            refine takeN (i := 10) (N := (some 75)) (v := ?v11) (a' := ?a11) rfl rfl (by kernel_rfl) (by kernel_rfl) (by kernel_rfl) (fun _ _ _ h => h) (Or.inl ⟨by rfl, ?hy11⟩) ?ha11 (by assumption) ?rest11
            case hy11 =>
              intro w_ hSw_
              go_simp
              first | done | (with_reducible rfl)
            case ha11 =>
              simp only [Act.put, List.setIfInBounds_toArray, List.set_cons_zero, List.set_cons_succ]
              rfl
            refine takeN (i := 11) (N := (some 76)) (v := ?v12) (a' := ?a12) rfl rfl (by kernel_rfl) (by kernel_rfl) (by kernel_rfl) (fun _ _ _ h => h) (Or.inl ⟨by rfl, ?hy12⟩) ?ha12 (by assumption) ?rest12
            case hy12 =>
              intro w_ hSw_
              go_simp
              first | done | (with_reducible rfl)
            case ha12 =>
              simp only [Act.put, List.setIfInBounds_toArray, List.set_cons_zero, List.set_cons_succ]
              rfl
            refine takeN (i := 12) (N := (some 77)) (v := ?v13) (a' := ?a13) rfl rfl (by kernel_rfl) (by kernel_rfl) (by kernel_rfl) (fun _ _ _ h => h) (Or.inl ⟨by rfl, ?hy13⟩) ?ha13 (by assumption) ?rest13
            case hy13 =>
              intro w_ hSw_
              go_simp
              first | done | (with_reducible rfl)
            case ha13 =>
              simp only [Act.put, List.setIfInBounds_toArray, List.set_cons_zero, List.set_cons_succ]
              rfl
            refine takeN (i := 13) (N := (some 78)) (v := ?v14) (a' := ?a14) rfl rfl (by kernel_rfl) (by kernel_rfl) (by kernel_rfl) (fun _ _ _ h => h) (Or.inl ⟨by rfl, ?hy14⟩) ?ha14 (by assumption) ?rest14
            case hy14 =>
              intro w_ hSw_
              go_simp
              first | done | (with_reducible rfl)
            case ha14 =>
              simp only [Act.put, List.setIfInBounds_toArray, List.set_cons_zero, List.set_cons_succ]
              rfl
            refine takeN (i := 14) (N := (some 79)) (v := ?v15) (a' := ?a15) rfl rfl (by kernel_rfl) (by kernel_rfl) (by kernel_rfl) (fun _ _ _ h => h) (Or.inl ⟨by rfl, ?hy15⟩) ?ha15 (by assumption) ?rest15
            case hy15 =>
              intro w_ hSw_
              go_simp
              first | done | (with_reducible rfl)
            case ha15 =>
              simp only [Act.put, List.setIfInBounds_toArray, List.set_cons_zero, List.set_cons_succ]
              rfl
            refine takeN (i := 15) (N := (some 80)) (v := ?v16) (a' := ?a16) rfl rfl (by kernel_rfl) (by kernel_rfl) (by kernel_rfl) (fun _ _ _ h => h) (Or.inl ⟨by rfl, ?hy16⟩) ?ha16 (by assumption) ?rest16
            case hy16 =>
              intro w_ hSw_
              go_simp
              first | done | (with_reducible rfl)
            case ha16 =>
              simp only [Act.put, List.setIfInBounds_toArray, List.set_cons_zero, List.set_cons_succ]
              rfl
            refine takeN (i := 16) (N := (some 81)) (v := ?v17) (a' := ?a17) rfl rfl (by kernel_rfl) (by kernel_rfl) (by kernel_rfl) (fun _ _ _ h => h) (Or.inl ⟨by rfl, ?hy17⟩) ?ha17 (by assumption) ?rest17
            case hy17 =>
              intro w_ hSw_
              go_simp
              first | done | (with_reducible rfl)
            case ha17 =>
              simp only [Act.put, List.setIfInBounds_toArray, List.set_cons_zero, List.set_cons_succ]
              rfl
            refine takeN (i := 17) (N := (some 82)) (v := ?v18) (a' := ?a18) rfl rfl (by kernel_rfl) (by kernel_rfl) (by kernel_rfl) (fun _ _ _ h => h) (Or.inl ⟨by rfl, ?hy18⟩) ?ha18 (by assumption) ?rest18
            case hy18 =>
              intro w_ hSw_
              go_simp
              first | done | (with_reducible rfl)
            case ha18 =>
              simp only [Act.put, List.setIfInBounds_toArray, List.set_cons_zero, List.set_cons_succ]
              rfl
            refine takeN (i := 18) (N := (some 83)) (v := ?v19) (a' := ?a19) rfl rfl (by kernel_rfl) (by kernel_rfl) (by kernel_rfl) (fun _ _ _ h => h) (Or.inl ⟨by rfl, ?hy19⟩) ?ha19 (by assumption) ?rest19
            case hy19 =>
              intro w_ hSw_
              go_simp
              first | done | (with_reducible rfl)
            case ha19 =>
              simp only [Act.put, List.setIfInBounds_toArray, List.set_cons_zero, List.set_cons_succ]
              rfl
            refine takeN (i := 19) (N := (some 84)) (v := ?v20) (a' := ?a20) rfl rfl (by kernel_rfl) (by kernel_rfl) (by kernel_rfl) (fun _ _ _ h => h) (Or.inl ⟨by rfl, ?hy20⟩) ?ha20 (by assumption) ?rest20
            case hy20 =>
              intro w_ hSw_
              go_simp
              first | done | (with_reducible rfl)
            case ha20 =>
              simp only [Act.put, List.setIfInBounds_toArray, List.set_cons_zero, List.set_cons_succ]
              rfl
            refine takeN (i := 20) (N := (some 85)) (v := ?v21) (a' := ?a21) rfl rfl (by kernel_rfl) (by kernel_rfl) (by kernel_rfl) (fun _ _ _ h => h) (Or.inl ⟨by rfl, ?hy21⟩) ?ha21 (by assumption) ?rest21
            case hy21 =>
              intro w_ hSw_
              go_simp
              first | done | (with_reducible rfl)
            case ha21 =>
              simp only [Act.put, List.setIfInBounds_toArray, List.set_cons_zero, List.set_cons_succ]
              rfl
            refine takeN (i := 21) (N := (some 86)) (v := ?v22) (a' := ?a22) rfl rfl (by kernel_rfl) (by kernel_rfl) (by kernel_rfl) (fun _ _ _ h => h) (Or.inl ⟨by rfl, ?hy22⟩) ?ha22 (by assumption) ?rest22
            case hy22 =>
              intro w_ hSw_
              go_simp
              first | done | (with_reducible rfl)
            case ha22 =>
              simp only [Act.put, List.setIfInBounds_toArray, List.set_cons_zero, List.set_cons_succ]
              rfl
            refine takeN (i := 22) (N := (some 87)) (v := ?v23) (a' := ?a23) rfl rfl (by kernel_rfl) (by kernel_rfl) (by kernel_rfl) (fun _ _ _ h => h) (Or.inl ⟨by rfl, ?hy23⟩) ?ha23 (by assumption) ?rest23
            case hy23 =>
              intro w_ hSw_
              go_simp
              first | done | (with_reducible rfl)
            case ha23 =>
              simp only [Act.put, List.setIfInBounds_toArray, List.set_cons_zero, List.set_cons_succ]
              rfl
            refine takeN (i := 23) (N := (some 88)) (v := ?v24) (a' := ?a24) rfl rfl (by kernel_rfl) (by kernel_rfl) (by kernel_rfl) (fun _ _ _ h => h) (Or.inl ⟨by rfl, ?hy24⟩) ?ha24 (by assumption) ?rest24
            case hy24 =>
              intro w_ hSw_
              go_simp
              first | done | (with_reducible rfl)
            case ha24 =>
              simp only [Act.put, List.setIfInBounds_toArray, List.set_cons_zero, List.set_cons_succ]
              rfl
            refine takeN (i := 24) (N := (some 89)) (v := ?v25) (a' := ?a25) rfl rfl (by kernel_rfl) (by kernel_rfl) (by kernel_rfl) (fun _ _ _ h => h) (Or.inl ⟨by rfl, ?hy25⟩) ?ha25 (by assumption) ?rest25
            case hy25 =>
              intro w_ hSw_
              go_simp
              first | done | (with_reducible rfl)
            case ha25 =>
              simp only [Act.put, List.setIfInBounds_toArray, List.set_cons_zero, List.set_cons_succ]
              rfl
            refine takeN (i := 25) (N := (some 90)) (v := ?v26) (a' := ?a26) rfl rfl (by kernel_rfl) (by kernel_rfl) (by kernel_rfl) (fun _ _ _ h => h) (Or.inl ⟨by rfl, ?hy26⟩) ?ha26 (by assumption) ?rest26
            case hy26 =>
              intro w_ hSw_
              go_simp
              first | done | (with_reducible rfl)
            case ha26 =>
              simp only [Act.put, List.setIfInBounds_toArray, List.set_cons_zero, List.set_cons_succ]
              rfl
            refine takeN (i := 26) (N := (some 91)) (v := ?v27) (a' := ?a27) rfl rfl (by kernel_rfl) (by kernel_rfl) (by kernel_rfl) (fun _ _ _ h => h) (Or.inl ⟨by rfl, ?hy27⟩) ?ha27 (by assumption) ?rest27
            case hy27 =>
              intro w_ hSw_
              go_simp
              first | done | (with_reducible rfl)
            case ha27 =>
              simp only [Act.put, List.setIfInBounds_toArray, List.set_cons_zero, List.set_cons_succ]
              rfl
            refine wpAnyH_ready (rs := [27]) (by kernel_rfl) (by simp) ?_
            refine AllReadyH.cons rfl (fun K hK => ?_) AllReadyH.nil
            go_simp
            go_at_call 17
            with_reducible refine (louverlaw19_data.calls 7000 o.f1 s (dataS o.f1 s) _ (data_f _ _ HZ2.out 7000 (Nat.le_refl _))).mono ?_
            rintro e w' ⟨rfl, hb⟩
            refine hK.out _ _ (rdS (Rd.below (rdO hHeld) hb)) (fun hHeld => ?_)
            clear hK K
            try simp only [Act.put, List.setIfInBounds_toArray, List.set_cons_zero, List.set_cons_succ]
            refine takeN (i := 28) (N := (some 93)) (v := ?v28) (a' := ?a28) rfl rfl (by kernel_rfl) (by kernel_rfl) (by kernel_rfl) (fun _ _ _ h => h) (Or.inl ⟨by rfl, ?hy28⟩) ?ha28 (by assumption) ?rest28
            case hy28 =>
              intro w_ hSw_
              go_simp
              first | done | (with_reducible rfl)
            case ha28 =>
              simp only [Act.put, List.setIfInBounds_toArray, List.set_cons_zero, List.set_cons_succ]
              rfl
            refine takeN (i := 29) (N := (some 94)) (v := ?v29) (a' := ?a29) rfl rfl (by kernel_rfl) (by kernel_rfl) (by kernel_rfl) (fun _ _ _ h => h) (Or.inl ⟨by rfl, ?hy29⟩) ?ha29 (by assumption) ?rest29
            case hy29 =>
              intro w_ hSw_
              go_simp
              first | done | (with_reducible rfl)
            case ha29 =>
              simp only [Act.put, List.setIfInBounds_toArray, List.set_cons_zero, List.set_cons_succ]
              rfl
            refine takeN (i := 30) (N := (some 95)) (v := ?v30) (a' := ?a30) rfl rfl (by kernel_rfl) (by kernel_rfl) (by kernel_rfl) (fun _ _ _ h => h) (Or.inl ⟨by rfl, ?hy30⟩) ?ha30 (by assumption) ?rest30
            case hy30 =>
              intro w_ hSw_
              go_simp
              first | done | (with_reducible rfl)
            case ha30 =>
              simp only [Act.put, List.setIfInBounds_toArray, List.set_cons_zero, List.set_cons_succ]
              rfl
            refine takeN (i := 31) (N := (some 96)) (v := ?v31) (a' := ?a31) rfl rfl (by kernel_rfl) (by kernel_rfl) (by kernel_rfl) (fun _ _ _ h => h) (Or.inl ⟨by rfl, ?hy31⟩) ?ha31 (by assumption) ?rest31
            case hy31 =>
              intro w_ hSw_
              go_simp
              first | done | (with_reducible rfl)
            case ha31 =>
              simp only [Act.put, List.setIfInBounds_toArray, List.set_cons_zero, List.set_cons_succ]
              rfl
            refine takeN (i := 32) (N := (some 97)) (v := ?v32) (a' := ?a32) rfl rfl (by kernel_rfl) (by kernel_rfl) (by kernel_rfl) (fun _ _ _ h => h) (Or.inl ⟨by rfl, ?hy32⟩) ?ha32 (by assumption) ?rest32
            case hy32 =>
              intro w_ hSw_
              go_simp
              first | done | (with_reducible rfl)
            case ha32 =>
              simp only [Act.put, List.setIfInBounds_toArray, List.set_cons_zero, List.set_cons_succ]
              rfl
            refine takeN (i := 33) (N := (some 98)) (v := ?v33) (a' := ?a33) rfl rfl (by kernel_rfl) (by kernel_rfl) (by kernel_rfl) (fun _ _ _ h => h) (Or.inl ⟨by rfl, ?hy33⟩) ?ha33 (by assumption) ?rest33
            case hy33 =>
              intro w_ hSw_
              go_simp
              first | done | (with_reducible rfl)
            case ha33 =>
              simp only [Act.put, List.setIfInBounds_toArray, List.set_cons_zero, List.set_cons_succ]
              rfl
            refine takeN (i := 34) (N := (some 99)) (v := ?v34) (a' := ?a34) rfl rfl (by kernel_rfl) (by kernel_rfl) (by kernel_rfl) (fun _ _ _ h => h) (Or.inl ⟨by rfl, ?hy34⟩) ?ha34 (by assumption) ?rest34
            case hy34 =>
              intro w_ hSw_
              go_simp
              first | done | (with_reducible rfl)
            case ha34 =>
              simp only [Act.put, List.setIfInBounds_toArray, List.set_cons_zero, List.set_cons_succ]
              rfl
            refine takeN (i := 35) (N := (some 100)) (v := ?v35) (a' := ?a35) rfl rfl (by kernel_rfl) (by kernel_rfl) (by kernel_rfl) (fun _ _ _ h => h) (Or.inl ⟨by rfl, ?hy35⟩) ?ha35 (by assumption) ?rest35
            case hy35 =>
              intro w_ hSw_
              go_simp
              first | done | (with_reducible rfl)
            case ha35 =>
              simp only [Act.put, List.setIfInBounds_toArray, List.set_cons_zero, List.set_cons_succ]
              rfl
            refine takeN (i := 36) (N := (some 101)) (v := undef) (a' := ?a36) rfl rfl (by kernel_rfl) (by kernel_rfl) (by kernel_rfl) (fun _ _ _ h => h) (Or.inr ⟨by rfl, rfl⟩) ?ha36 (by assumption) ?rest36
            case ha36 =>
              simp only [Act.put, List.setIfInBounds_toArray, List.set_cons_zero, List.set_cons_succ]
              rfl
            refine takeN (i := 37) (N := (some 102)) (v := undef) (a' := ?a37) rfl rfl (by kernel_rfl) (by kernel_rfl) (by kernel_rfl) (fun _ _ _ h => h) (Or.inr ⟨by rfl, rfl⟩) ?ha37 (by assumption) ?rest37
            case ha37 =>
              simp only [Act.put, List.setIfInBounds_toArray, List.set_cons_zero, List.set_cons_succ]
              rfl
            refine takeN (i := 38) (N := (some 103)) (v := undef) (a' := ?a38) rfl rfl (by kernel_rfl) (by kernel_rfl) (by kernel_rfl) (fun _ _ _ h => h) (Or.inr ⟨by rfl, rfl⟩) ?ha38 (by assumption) ?rest38
            case ha38 =>
              simp only [Act.put, List.setIfInBounds_toArray, List.set_cons_zero, List.set_cons_succ]
              rfl
            refine takeN (i := 39) (N := (some 104)) (v := undef) (a' := ?a39) rfl rfl (by kernel_rfl) (by kernel_rfl) (by kernel_rfl) (fun _ _ _ h => h) (Or.inr ⟨by rfl, rfl⟩) ?ha39 (by assumption) ?rest39
            case ha39 =>
              simp only [Act.put, List.setIfInBounds_toArray, List.set_cons_zero, List.set_cons_succ]
              rfl
            refine takeN (i := 40) (N := (some 105)) (v := undef) (a' := ?a40) rfl rfl (by kernel_rfl) (by kernel_rfl) (by kernel_rfl) (fun _ _ _ h => h) (Or.inr ⟨by rfl, rfl⟩) ?ha40 (by assumption) ?rest40
            case ha40 =>
              simp only [Act.put, List.setIfInBounds_toArray, List.set_cons_zero, List.set_cons_succ]
              rfl
            refine takeN (i := 41) (N := (some 106)) (v := undef) (a' := ?a41) rfl rfl (by kernel_rfl) (by kernel_rfl) (by kernel_rfl) (fun _ _ _ h => h) (Or.inr ⟨by rfl, rfl⟩) ?ha41 (by assumption) ?rest41
            case ha41 =>
              simp only [Act.put, List.setIfInBounds_toArray, List.set_cons_zero, List.set_cons_succ]
              rfl
            refine takeN (i := 42) (N := (some 107)) (v := undef) (a' := ?a42) rfl rfl (by kernel_rfl) (by kernel_rfl) (by kernel_rfl) (fun _ _ _ h => h) (Or.inr ⟨by rfl, rfl⟩) ?ha42 (by assumption) ?rest42
            case ha42 =>
              simp only [Act.put, List.setIfInBounds_toArray, List.set_cons_zero, List.set_cons_succ]
              rfl
            refine takeN (i := 43) (N := (some 108)) (v := undef) (a' := ?a43) rfl rfl (by kernel_rfl) (by kernel_rfl) (by kernel_rfl) (fun _ _ _ h => h) (Or.inr ⟨by rfl, rfl⟩) ?ha43 (by assumption) ?rest43
            case ha43 =>
              simp only [Act.put, List.setIfInBounds_toArray, List.set_cons_zero, List.set_cons_succ]
              rfl
            refine takeN (i := 44) (N := (some 109)) (v := ?v44) (a' := ?a44) rfl rfl (by kernel_rfl) (by kernel_rfl) (by kernel_rfl) (fun _ _ _ h => h) (Or.inl ⟨by rfl, ?hy44⟩) ?ha44 (by assumption) ?rest44
            case hy44 =>
              intro w_ hSw_
              go_simp
              first | done | (with_reducible rfl)
            case ha44 =>
              simp only [Act.put, List.setIfInBounds_toArray, List.set_cons_zero, List.set_cons_succ]
              rfl
            refine takeN (i := 45) (N := (some 110)) (v := ?v45) (a' := ?a45) rfl rfl (by kernel_rfl) (by kernel_rfl) (by kernel_rfl) (fun _ _ _ h => h) (Or.inl ⟨by rfl, ?hy45⟩) ?ha45 (by assumption) ?rest45
            case hy45 =>
              intro w_ hSw_
              go_simp
              first | done | (with_reducible rfl)
            case ha45 =>
              simp only [Act.put, List.setIfInBounds_toArray, List.set_cons_zero, List.set_cons_succ]
              rfl
            refine wpAnyH_done (by kernel_rfl) ?_ _
            refine NoPanic.normal ?_
            replace HR := Aside0.mk (rdO hHeld)
            clear hHeld hsame
            go_wp2_with fail
            have HE := Aside0.mk (show louverref19_End.f (l.length + 5) (l.take (j + 1)) = some (e', ec') by rw [end_f _ (by simp; omega) _ (by simp; omega), ← HD'.out.1])
            refine (calls_of_args (by rw [List.length_take, Nat.min_eq_left (by omega)]) (louverref19_End.calls (l.length + 5) (some ad) c1 (l.take (j + 1)) e' ec' _ (Kd.C_take (Kd.C_below HR0.out HR.out.bel) (by omega)) (by simp; omega) HE.out)).mono ?_
            rintro e w4 ⟨rfl, hb⟩
            replace HR := Aside0.mk (HR.out.below hb)
            clear hb HE
            have hg4 : g < w4.heap.size := HR.out.door.lt
            go_wp2_with fail
            refine wp_region_noPanic ?_
            refine wp_region_held_drew (S := fun w' => Aside0 (Re w g wr.heap.size (wr.heap.size + 1) true t1 c' e' ec' o true 8 A (dataC o.f1 s) cp w4.heap.size w') ∧ w'.cell? ⟨w4.heap.size, 0, none⟩ = some (.int .u8 e') ∧ w'.cell? ⟨w4.heap.size, 1, none⟩ = some (.int .u32 ec')) (by kernel_rfl) (reS ⟨HR.out.below (below_drew (below_alloc (Below.refl _ _) _)), last_at w4 _ _ rfl, by omega⟩) (fun hHeld => ?_)
            refine takeN (i := 0) (N := (some 116)) (v := ?v46) (a' := ?a46) rfl rfl (by kernel_rfl) (by kernel_rfl) (by kernel_rfl) (fun _ _ _ h => h) (Or.inl ⟨by rfl, ?hy46⟩) ?ha46 (by assumption) ?rest46
            case hy46 =>
              intro w_ hSw_
              go_simp
              first | done | (with_reducible rfl)
            case ha46 =>
              simp only [Act.put, List.setIfInBounds_toArray, List.set_cons_zero, List.set_cons_succ]
              rfl
            refine takeN (i := 2) (N := (some 118)) (v := ?v47) (a' := ?a47) rfl rfl (by kernel_rfl) (by kernel_rfl) (by kernel_rfl) (fun _ _ _ h => h) (Or.inl ⟨by rfl, ?hy47⟩) ?ha47 (by assumption) ?rest47
            case hy47 =>
              intro w_ hSw_
              go_simp
              first | done | (with_reducible rfl)
            case ha47 =>
              simp only [Act.put, List.setIfInBounds_toArray, List.set_cons_zero, List.set_cons_succ]
              rfl
            refine wpAnyH_ready (rs := [1]) (by kernel_rfl) (by simp) ?_
            refine AllReadyH.cons rfl (fun K hK => ?_) AllReadyH.nil
            go_simp
            go_at_call 12
            with_reducible refine (closing_Door_End.calls g true t1 c' e' ec' e' ec' true t1 c' e' ec' w _ (reO hHeld).rd.door (reO hHeld).rd.bel rfl).mono ?_
            rintro e w' ⟨rfl, hI, hB, hk⟩
            refine hK.out _ _ (reS (Re.keep (reO hHeld) hI hB hk)) (fun hHeld => ?_)
            clear hK K
            try simp only [Act.put, List.setIfInBounds_toArray, List.set_cons_zero, List.set_cons_succ]
            refine takeN (i := 3) (N := (some 119)) (v := ?v48) (a' := ?a48) rfl rfl (by kernel_rfl) (by kernel_rfl) (by kernel_rfl) (fun _ _ _ h => h) (Or.inl ⟨by rfl, ?hy48⟩) ?ha48 (by assumption) ?rest48
            case hy48 =>
              intro w_ hSw_
              go_simp
              first | done | (with_reducible rfl)
            case ha48 =>
              simp only [Act.put, List.setIfInBounds_toArray, List.set_cons_zero, List.set_cons_succ]
              rfl
            refine takeN (i := 4) (N := (some 120)) (v := ?v49) (a' := ?a49) rfl rfl (by kernel_rfl) (by kernel_rfl) (by kernel_rfl) (fun _ _ _ h => h) (Or.inl ⟨by rfl, ?hy49⟩) ?ha49 (by assumption) ?rest49
            case hy49 =>
              intro w_ hSw_
              go_simp
              first | done | (with_reducible rfl)
            case ha49 =>
              simp only [Act.put, List.setIfInBounds_toArray, List.set_cons_zero, List.set_cons_succ]
              rfl
            refine takeN (i := 5) (N := (some 121)) (v := ?v50) (a' := ?a50) rfl rfl (by kernel_rfl) (by kernel_rfl) (by kernel_rfl) (fun _ _ _ h => h) (Or.inl ⟨by rfl, ?hy50⟩) ?ha50 (by assumption) ?rest50
            case hy50 =>
              intro w_ hSw_
              go_simp
              first | done | (with_reducible rfl)
            case ha50 =>
              simp only [Act.put, List.setIfInBounds_toArray, List.set_cons_zero, List.set_cons_succ]
              rfl
            refine takeN (i := 7) (N := (some 123)) (v := ?v51) (a' := ?a51) rfl rfl (by kernel_rfl) (by kernel_rfl) (by kernel_rfl) (fun _ _ _ h => h) (Or.inl ⟨by rfl, ?hy51⟩) ?ha51 (by assumption) ?rest51
            case hy51 =>
              intro w_ hSw_
              go_simp
              first | done | (with_reducible rfl)
            case ha51 =>
              simp only [Act.put, List.setIfInBounds_toArray, List.set_cons_zero, List.set_cons_succ]
              rfl
            refine takeN (i := 8) (N := (some 124)) (v := ?v52) (a' := ?a52) rfl rfl (by kernel_rfl) (by kernel_rfl) (by kernel_rfl) (fun _ _ _ h => h) (Or.inl ⟨by rfl, ?hy52⟩) ?ha52 (by assumption) ?rest52
            case hy52 =>
              intro w_ hSw_
              go_simp
              first | done | (with_reducible rfl)
            case ha52 =>
              simp only [Act.put, List.setIfInBounds_toArray, List.set_cons_zero, List.set_cons_succ]
              rfl
            refine takeN (i := 9) (N := (some 125)) (v := ?v53) (a' := ?a53) rfl rfl (by kernel_rfl) (by kernel_rfl) (by kernel_rfl) (fun _ _ _ h => h) (Or.inl ⟨by rfl, ?hy53⟩) ?ha53 (by assumption) ?rest53
            case hy53 =>
              intro w_ hSw_
              go_simp
              first | done | (with_reducible rfl)
            case ha53 =>
              simp only [Act.put, List.setIfInBounds_toArray, List.set_cons_zero, List.set_cons_succ]
              rfl
            refine wpAnyH_ready (rs := [6]) (by kernel_rfl) (by simp) ?_
            refine AllReadyH.cons rfl (fun K hK => ?_) AllReadyH.nil
            go_simp
            go_at_call 15
            with_reducible refine (closing_Door_Through.calls g true t1 c' e' ec' (e' != 0) true t1 c' e' ec' w _ (reO hHeld).rd.door (reO hHeld).rd.bel rfl).mono ?_
            rintro e w' ⟨rfl, hI, hB, hk⟩
            refine hK.out _ _ (reS (Re.keep (reO hHeld) hI hB hk)) (fun hHeld => ?_)
            clear hK K
            try simp only [Act.put, List.setIfInBounds_toArray, List.set_cons_zero, List.set_cons_succ]
            refine takeN (i := 10) (N := (some 126)) (v := ?v54) (a' := ?a54) rfl rfl (by kernel_rfl) (by kernel_rfl) (by kernel_rfl) (fun _ _ _ h => h) (Or.inl ⟨by rfl, ?hy54⟩) ?ha54 (by assumption) ?rest54
            case hy54 =>
              intro w_ hSw_
              go_simp
              first | done | (with_reducible rfl)
            case ha54 =>
              simp only [Act.put, List.setIfInBounds_toArray, List.set_cons_zero, List.set_cons_succ]
              rfl
            refine takeN (i := 11) (N := (some 127)) (v := ?v55) (a' := ?a55) rfl rfl (by kernel_rfl) (by kernel_rfl) (by kernel_rfl) (fun _ _ _ h => h) (Or.inl ⟨by rfl, ?hy55⟩) ?ha55 (by assumption) ?rest55
            case hy55 =>
              intro w_ hSw_
              go_simp
              first | done | (with_reducible rfl)
            case ha55 =>
              simp only [Act.put, List.setIfInBounds_toArray, List.set_cons_zero, List.set_cons_succ]
              rfl
            refine takeN (i := 12) (N := (some 128)) (v := ?v56) (a' := ?a56) rfl rfl (by kernel_rfl) (by kernel_rfl) (by kernel_rfl) (fun _ _ _ h => h) (Or.inl ⟨by rfl, ?hy56⟩) ?ha56 (by assumption) ?rest56
            case hy56 =>
              intro w_ hSw_
              go_simp
              first | done | (with_reducible rfl)
            case ha56 =>
              simp only [Act.put, List.setIfInBounds_toArray, List.set_cons_zero, List.set_cons_succ]
              rfl
            refine takeN (i := 13) (N := (some 129)) (v := ?v57) (a' := ?a57) rfl rfl (by kernel_rfl) (by kernel_rfl) (by kernel_rfl) (fun _ _ _ h => h) (Or.inl ⟨by rfl, ?hy57⟩) ?ha57 (by assumption) ?rest57
            case hy57 =>
              intro w_ hSw_
              go_simp
              first | done | (with_reducible rfl)
            case ha57 =>
              simp only [Act.put, List.setIfInBounds_toArray, List.set_cons_zero, List.set_cons_succ]
              rfl
            refine takeN (i := 15) (N := (some 131)) (v := ?v58) (a' := ?a58) rfl rfl (by kernel_rfl) (by kernel_rfl) (by kernel_rfl) (fun _ _ _ h => h) (Or.inl ⟨by rfl, ?hy58⟩) ?ha58 (by assumption) ?rest58
            case hy58 =>
              intro w_ hSw_
              go_simp
              first | done | (with_reducible rfl)
            case ha58 =>
              simp only [Act.put, List.setIfInBounds_toArray, List.set_cons_zero, List.set_cons_succ]
              rfl
            refine takeN (i := 16) (N := (some 132)) (v := ?v59) (a' := ?a59) rfl rfl (by kernel_rfl) (by kernel_rfl) (by kernel_rfl) (fun _ _ _ h => h) (Or.inl ⟨by rfl, ?hy59⟩) ?ha59 (by assumption) ?rest59
            case hy59 =>
              intro w_ hSw_
              go_simp
              first | done | (with_reducible rfl)
            case ha59 =>
              simp only [Act.put, List.setIfInBounds_toArray, List.set_cons_zero, List.set_cons_succ]
              rfl
            refine wpAnyH_ready (rs := [14]) (by kernel_rfl) (by simp) ?_
            refine AllReadyH.cons rfl (fun K hK => ?_) AllReadyH.nil
            go_simp
            go_at_call 19
            with_reducible refine (closing_Door_Sent.calls g true t1 c' e' ec' true true t1 c' e' ec' w _ (reO hHeld).rd.door (reO hHeld).rd.bel rfl).mono ?_
            rintro e w' ⟨rfl, hI, hB, hk⟩
            refine hK.out _ _ (reS (Re.keep (reO hHeld) hI hB hk)) (fun hHeld => ?_)
            clear hK K
            try simp only [Act.put, List.setIfInBounds_toArray, List.set_cons_zero, List.set_cons_succ]
            refine takeN (i := 17) (N := (some 133)) (v := ?v60) (a' := ?a60) rfl rfl (by kernel_rfl) (by kernel_rfl) (by kernel_rfl) (fun _ _ _ h => h) (Or.inl ⟨by rfl, ?hy60⟩) ?ha60 (by assumption) ?rest60
            case hy60 =>
              intro w_ hSw_
              go_simp
              first | done | (with_reducible rfl)
            case ha60 =>
              simp only [Act.put, List.setIfInBounds_toArray, List.set_cons_zero, List.set_cons_succ]
              rfl
            refine takeN (i := 18) (N := (some 134)) (v := ?v61) (a' := ?a61) rfl rfl (by kernel_rfl) (by kernel_rfl) (by kernel_rfl) (fun _ _ _ h => h) (Or.inl ⟨by rfl, ?hy61⟩) ?ha61 (by assumption) ?rest61
            case hy61 =>
              intro w_ hSw_
              go_simp
              first | done | (with_reducible rfl)
            case ha61 =>
              simp only [Act.put, List.setIfInBounds_toArray, List.set_cons_zero, List.set_cons_succ]
              rfl
            refine takeN (i := 19) (N := (some 135)) (v := ?v62) (a' := ?a62) rfl rfl (by kernel_rfl) (by kernel_rfl) (by kernel_rfl) (fun _ _ _ h => h) (Or.inl ⟨by rfl, ?hy62⟩) ?ha62 (by assumption) ?rest62
            case hy62 =>
              intro w_ hSw_
              go_simp
              first | done | (with_reducible rfl)
            case ha62 =>
              simp only [Act.put, List.setIfInBounds_toArray, List.set_cons_zero, List.set_cons_succ]
              rfl
            refine takeN (i := 20) (N := (some 136)) (v := ?v63) (a' := ?a63) rfl rfl (by kernel_rfl) (by kernel_rfl) (by kernel_rfl) (fun _ _ _ h => h) (Or.inl ⟨by rfl, ?hy63⟩) ?ha63 (by assumption) ?rest63
            case hy63 =>
              intro w_ hSw_
              go_simp
              first | done | (with_reducible rfl)
            case ha63 =>
              simp only [Act.put, List.setIfInBounds_toArray, List.set_cons_zero, List.set_cons_succ]
              rfl
            refine takeN (i := 21) (N := (some 137)) (v := ?v64) (a' := ?a64) rfl rfl (by kernel_rfl) (by kernel_rfl) (by kernel_rfl) (fun _ _ _ h => h) (Or.inl ⟨by rfl, ?hy64⟩) ?ha64 (by assumption) ?rest64
            case hy64 =>
              intro w_ hSw_
              go_simp
              first | done | (with_reducible rfl)
            case ha64 =>
              simp only [Act.put, List.setIfInBounds_toArray, List.set_cons_zero, List.set_cons_succ]
              rfl
            refine takeN (i := 22) (N := (some 138)) (v := ?v65) (a' := ?a65) rfl rfl (by kernel_rfl) (by kernel_rfl) (by kernel_rfl) (fun _ _ _ h => h) (Or.inl ⟨by rfl, ?hy65⟩) ?ha65 (by assumption) ?rest65
            case hy65 =>
              intro w_ hSw_
              go_simp
              first | done | (with_reducible rfl)
            case ha65 =>
              simp only [Act.put, List.setIfInBounds_toArray, List.set_cons_zero, List.set_cons_succ]
              rfl
            refine takeN (i := 23) (N := (some 139)) (v := ?v66) (a' := ?a66) rfl rfl (by kernel_rfl) (by kernel_rfl) (by kernel_rfl) (fun _ _ _ h => h) (Or.inl ⟨by rfl, ?hy66⟩) ?ha66 (by assumption) ?rest66
            case hy66 =>
              intro w_ hSw_
              go_simp
              first | done | (with_reducible rfl)
            case ha66 =>
              simp only [Act.put, List.setIfInBounds_toArray, List.set_cons_zero, List.set_cons_succ]
              rfl
            refine wpAnyH_done (by kernel_rfl) ?_ _
            refine NoPanic.normal ?_
            have HX := Aside0.mk (reO hHeld)
            clear hHeld HR
            go_wp2_with fail
            go_roundw
            case rel => exact ⟨j + 1, _, _, _, _, _, by go_num, by omega, HD'.out, HX.out.rd.door, HX.out.rd.bel⟩
            case measure => simp [intOf]; omega
          · have heq : ((j : Int) == 0) = false := by rw [hat] at hne; exact beq_eq_false_iff_ne.mpr hne
            have HR := Aside0.mk hR
            clear hR hne
            go_wp2_with fail
            refine wp_region_noPanic ?_
            refine wp_region_held_drew (S := fun w' => Aside0 (Rd w g wr.heap.size (wr.heap.size + 1) true t1 c' e' ec' o false 0 A (([] : List Int)) cp w') ∧ w'.cell? ⟨wr.heap.size, 1, none⟩ = some (.int .u32 o.f1) ∧ w'.cell? ⟨wr.heap.size + 1, 0, none⟩ = some (.bool false) ∧ w'.cell? ⟨wr.heap.size + 1, 1, none⟩ = some (.int .u8 0) ∧ w'.cell? ⟨wr.heap.size + 1, 2, none⟩ = some (.bool false) ∧ w'.cell? ⟨wr.heap.size + 1, 4, none⟩ = some (.slice A (([] : List Int)).length cp) ∧ (convert 25 9 (.slice A (([] : List Int)).length cp)).run Try.prog w' = .ok (.string (strOfNums (([] : List Int)))) w') (by kernel_rfl) (rdS (Rd.below HR.out (below_drew (Below.refl _ _)))) (fun hHeld => ?_)
            refine takeN (i := 0) (N := (some 65)) (v := ?v67) (a' := ?a67) rfl rfl (by kernel_rfl) (by kernel_rfl) (by kernel_rfl) (fun _ _ _ h => h) (Or.inl ⟨by rfl, ?hy67⟩) ?ha67 (by assumption) ?rest67
            case hy67 =>
              intro w_ hSw_
              go_simp
              first | done | (with_reducible rfl)
            case ha67 =>
              simp only [Act.put, List.setIfInBounds_toArray, List.set_cons_zero, List.set_cons_succ]
              rfl
            refine takeN (i := 1) (N := (some 66)) (v := ?v68) (a' := ?a68) rfl rfl (by kernel_rfl) (by kernel_rfl) (by kernel_rfl) (fun _ _ _ h => h) (Or.inl ⟨by rfl, ?hy68⟩) ?ha68 (by assumption) ?rest68
            case hy68 =>
              intro w_ hSw_
              go_simp
              first | done | (with_reducible rfl)
            case ha68 =>
              simp only [Act.put, List.setIfInBounds_toArray, List.set_cons_zero, List.set_cons_succ]
              rfl
            refine takeN (i := 2) (N := (some 67)) (v := ?v69) (a' := ?a69) rfl rfl (by kernel_rfl) (by kernel_rfl) (by kernel_rfl) (fun _ _ _ h => h) (Or.inl ⟨by rfl, ?hy69⟩) ?ha69 (by assumption) ?rest69
            case hy69 =>
              intro w_ hSw_
              go_simp
              first | done | (with_reducible rfl)
            case ha69 =>
              simp only [Act.put, List.setIfInBounds_toArray, List.set_cons_zero, List.set_cons_succ]
              rfl
            refine takeN (i := 3) (N := (some 68)) (v := ?v70) (a' := ?a70) rfl rfl (by kernel_rfl) (by kernel_rfl) (by kernel_rfl) (fun _ _ _ h => h) (Or.inl ⟨by rfl, ?hy70⟩) ?ha70 (by assumption) ?rest70
            case hy70 =>
              intro w_ hSw_
              go_simp
              first | done | (with_reducible rfl)
            case ha70 =>
              simp only [Act.put, List.setIfInBounds_toArray, List.set_cons_zero, List.set_cons_succ]
              rfl
            refine takeN (i := 4) (N := (some 69)) (v := ?v71) (a' := ?a71) rfl rfl (by kernel_rfl) (by kernel_rfl) (by kernel_rfl) (fun _ _ _ h => h) (Or.inl ⟨by rfl, ?hy71⟩) ?ha71 (by assumption) ?rest71
            case hy71 =>
              intro w_ hSw_
              go_simp
              first | done | (with_reducible rfl)
            case ha71 =>
              simp only [Act.put, List.setIfInBounds_toArray, List.set_cons_zero, List.set_cons_succ]
              rfl
            refine takeN (i := 5) (N := (some 70)) (v := ?v72) (a' := ?a72) rfl rfl (by kernel_rfl) (by kernel_rfl) (by kernel_rfl) (fun _ _ _ h => h) (Or.inl ⟨by rfl, ?hy72⟩) ?ha72 (by assumption) ?rest72
            case hy72 =>
              intro w_ hSw_
              go_simp
              first | done | (with_reducible rfl)
            case ha72 =>
              simp only [Act.put, List.setIfInBounds_toArray, List.set_cons_zero, List.set_cons_succ]
              rfl
            refine takeN (i := 6) (N := (some 71)) (v := ?v73) (a' := ?a73) rfl rfl (by kernel_rfl) (by kernel_rfl) (by kernel_rfl) (fun _ _ _ h => h) (Or.inl ⟨by rfl, ?hy73⟩) ?ha73 (by assumption) ?rest73
            case hy73 =>
              intro w_ hSw_
              go_simp
              first | done | (with_reducible rfl)
            case ha73 =>
              simp only [Act.put, List.setIfInBounds_toArray, List.set_cons_zero, List.set_cons_succ]
              rfl
            refine takeN (i := 7) (N := (some 72)) (v := ?v74) (a' := ?a74) rfl rfl (by kernel_rfl) (by kernel_rfl) (by kernel_rfl) (fun _ _ _ h => h) (Or.inl ⟨by rfl, ?hy74⟩) ?ha74 (by assumption) ?rest74
            case hy74 =>
              intro w_ hSw_
              go_simp
              first | done | (with_reducible rfl)
            case ha74 =>
              simp only [Act.put, List.setIfInBounds_toArray, List.set_cons_zero, List.set_cons_succ]
              rfl
            refine takeN (i := 8) (N := (some 73)) (v := undef) (a' := ?a75) rfl rfl (by kernel_rfl) (by kernel_rfl) (by kernel_rfl) (fun _ _ _ h => h) (Or.inr ⟨by rfl, rfl⟩) ?ha75 (by assumption) ?rest75
            case ha75 =>
              simp only [Act.put, List.setIfInBounds_toArray, List.set_cons_zero, List.set_cons_succ]
              rfl
            refine takeN (i := 9) (N := (some 74)) (v := undef) (a' := ?a76) rfl rfl (by kernel_rfl) (by kernel_rfl) (by kernel_rfl) (fun _ _ _ h => h) (Or.inr ⟨by rfl, rfl⟩) ?ha76 (by assumption) ?rest76
            case ha76 =>
              simp only [Act.put, List.setIfInBounds_toArray, List.set_cons_zero, List.set_cons_succ]
              rfl
            refine takeN (i := 10) (N := (some 75)) (v := undef) (a' := ?a77) rfl rfl (by kernel_rfl) (by kernel_rfl) (by kernel_rfl) (fun _ _ _ h => h) (Or.inr ⟨by rfl, rfl⟩) ?ha77 (by assumption) ?rest77
            case ha77 =>
              simp only [Act.put, List.setIfInBounds_toArray, List.set_cons_zero, List.set_cons_succ]
              rfl
            refine takeN (i := 11) (N := (some 76)) (v := undef) (a' := ?a78) rfl rfl (by kernel_rfl) (by kernel_rfl) (by kernel_rfl) (fun _ _ _ h => h) (Or.inr ⟨by rfl, rfl⟩) ?ha78 (by assumption) ?rest78
            case ha78 =>
              simp only [Act.put, List.setIfInBounds_toArray, List.set_cons_zero, List.set_cons_succ]
              rfl
            refine takeN (i := 12) (N := (some 77)) (v := undef) (a' := ?a79) rfl rfl (by kernel_rfl) (by kernel_rfl) (by kernel_rfl) (fun _ _ _ h => h) (Or.inr ⟨by rfl, rfl⟩) ?ha79 (by assumption) ?rest79
            case ha79 =>
              simp only [Act.put, List.setIfInBounds_toArray, List.set_cons_zero, List.set_cons_succ]
              rfl
            refine takeN (i := 13) (N := (some 78)) (v := undef) (a' := ?a80) rfl rfl (by kernel_rfl) (by kernel_rfl) (by kernel_rfl) (fun _ _ _ h => h) (Or.inr ⟨by rfl, rfl⟩) ?ha80 (by assumption) ?rest80
            case ha80 =>
              simp only [Act.put, List.setIfInBounds_toArray, List.set_cons_zero, List.set_cons_succ]
              rfl
            refine takeN (i := 14) (N := (some 79)) (v := undef) (a' := ?a81) rfl rfl (by kernel_rfl) (by kernel_rfl) (by kernel_rfl) (fun _ _ _ h => h) (Or.inr ⟨by rfl, rfl⟩) ?ha81 (by assumption) ?rest81
            case ha81 =>
              simp only [Act.put, List.setIfInBounds_toArray, List.set_cons_zero, List.set_cons_succ]
              rfl
            refine takeN (i := 15) (N := (some 80)) (v := undef) (a' := ?a82) rfl rfl (by kernel_rfl) (by kernel_rfl) (by kernel_rfl) (fun _ _ _ h => h) (Or.inr ⟨by rfl, rfl⟩) ?ha82 (by assumption) ?rest82
            case ha82 =>
              simp only [Act.put, List.setIfInBounds_toArray, List.set_cons_zero, List.set_cons_succ]
              rfl
            refine takeN (i := 16) (N := (some 81)) (v := undef) (a' := ?a83) rfl rfl (by kernel_rfl) (by kernel_rfl) (by kernel_rfl) (fun _ _ _ h => h) (Or.inr ⟨by rfl, rfl⟩) ?ha83 (by assumption) ?rest83
            case ha83 =>
              simp only [Act.put, List.setIfInBounds_toArray, List.set_cons_zero, List.set_cons_succ]
              rfl
            refine takeN (i := 17) (N := (some 82)) (v := undef) (a' := ?a84) rfl rfl (by kernel_rfl) (by kernel_rfl) (by kernel_rfl) (fun _ _ _ h => h) (Or.inr ⟨by rfl, rfl⟩) ?ha84 (by assumption) ?rest84
            case ha84 =>
              simp only [Act.put, List.setIfInBounds_toArray, List.set_cons_zero, List.set_cons_succ]
              rfl
            refine takeN (i := 18) (N := (some 83)) (v := undef) (a' := ?a85) rfl rfl (by kernel_rfl) (by kernel_rfl) (by kernel_rfl) (fun _ _ _ h => h) (Or.inr ⟨by rfl, rfl⟩) ?ha85 (by assumption) ?rest85
            case ha85 =>
              simp only [Act.put, List.setIfInBounds_toArray, List.set_cons_zero, List.set_cons_succ]
              rfl
            refine takeN (i := 19) (N := (some 84)) (v := undef) (a' := ?a86) rfl rfl (by kernel_rfl) (by kernel_rfl) (by kernel_rfl) (fun _ _ _ h => h) (Or.inr ⟨by rfl, rfl⟩) ?ha86 (by assumption) ?rest86
            case ha86 =>
              simp only [Act.put, List.setIfInBounds_toArray, List.set_cons_zero, List.set_cons_succ]
              rfl
            refine takeN (i := 20) (N := (some 85)) (v := undef) (a' := ?a87) rfl rfl (by kernel_rfl) (by kernel_rfl) (by kernel_rfl) (fun _ _ _ h => h) (Or.inr ⟨by rfl, rfl⟩) ?ha87 (by assumption) ?rest87
            case ha87 =>
              simp only [Act.put, List.setIfInBounds_toArray, List.set_cons_zero, List.set_cons_succ]
              rfl
            refine takeN (i := 21) (N := (some 86)) (v := undef) (a' := ?a88) rfl rfl (by kernel_rfl) (by kernel_rfl) (by kernel_rfl) (fun _ _ _ h => h) (Or.inr ⟨by rfl, rfl⟩) ?ha88 (by assumption) ?rest88
            case ha88 =>
              simp only [Act.put, List.setIfInBounds_toArray, List.set_cons_zero, List.set_cons_succ]
              rfl
            refine takeN (i := 22) (N := (some 87)) (v := undef) (a' := ?a89) rfl rfl (by kernel_rfl) (by kernel_rfl) (by kernel_rfl) (fun _ _ _ h => h) (Or.inr ⟨by rfl, rfl⟩) ?ha89 (by assumption) ?rest89
            case ha89 =>
              simp only [Act.put, List.setIfInBounds_toArray, List.set_cons_zero, List.set_cons_succ]
              rfl
            refine takeN (i := 23) (N := (some 88)) (v := undef) (a' := ?a90) rfl rfl (by kernel_rfl) (by kernel_rfl) (by kernel_rfl) (fun _ _ _ h => h) (Or.inr ⟨by rfl, rfl⟩) ?ha90 (by assumption) ?rest90
            case ha90 =>
              simp only [Act.put, List.setIfInBounds_toArray, List.set_cons_zero, List.set_cons_succ]
              rfl
            refine takeN (i := 24) (N := (some 89)) (v := undef) (a' := ?a91) rfl rfl (by kernel_rfl) (by kernel_rfl) (by kernel_rfl) (fun _ _ _ h => h) (Or.inr ⟨by rfl, rfl⟩) ?ha91 (by assumption) ?rest91
            case ha91 =>
              simp only [Act.put, List.setIfInBounds_toArray, List.set_cons_zero, List.set_cons_succ]
              rfl
            refine takeN (i := 25) (N := (some 90)) (v := undef) (a' := ?a92) rfl rfl (by kernel_rfl) (by kernel_rfl) (by kernel_rfl) (fun _ _ _ h => h) (Or.inr ⟨by rfl, rfl⟩) ?ha92 (by assumption) ?rest92
            case ha92 =>
              simp only [Act.put, List.setIfInBounds_toArray, List.set_cons_zero, List.set_cons_succ]
              rfl
            refine takeN (i := 26) (N := (some 91)) (v := undef) (a' := ?a93) rfl rfl (by kernel_rfl) (by kernel_rfl) (by kernel_rfl) (fun _ _ _ h => h) (Or.inr ⟨by rfl, rfl⟩) ?ha93 (by assumption) ?rest93
            case ha93 =>
              simp only [Act.put, List.setIfInBounds_toArray, List.set_cons_zero, List.set_cons_succ]
              rfl
            refine takeN (i := 27) (N := (some 92)) (v := undef) (a' := ?a94) rfl rfl (by kernel_rfl) (by kernel_rfl) (by kernel_rfl) (fun _ _ _ h => h) (Or.inr ⟨by rfl, rfl⟩) ?ha94 (by assumption) ?rest94
            case ha94 =>
              simp only [Act.put, List.setIfInBounds_toArray, List.set_cons_zero, List.set_cons_succ]
              rfl
            refine takeN (i := 28) (N := (some 93)) (v := undef) (a' := ?a95) rfl rfl (by kernel_rfl) (by kernel_rfl) (by kernel_rfl) (fun _ _ _ h => h) (Or.inr ⟨by rfl, rfl⟩) ?ha95 (by assumption) ?rest95
            case ha95 =>
              simp only [Act.put, List.setIfInBounds_toArray, List.set_cons_zero, List.set_cons_succ]
              rfl
            refine takeN (i := 29) (N := (some 94)) (v := undef) (a' := ?a96) rfl rfl (by kernel_rfl) (by kernel_rfl) (by kernel_rfl) (fun _ _ _ h => h) (Or.inr ⟨by rfl, rfl⟩) ?ha96 (by assumption) ?rest96
            case ha96 =>
              simp only [Act.put, List.setIfInBounds_toArray, List.set_cons_zero, List.set_cons_succ]
              rfl
            refine takeN (i := 30) (N := (some 95)) (v := ?v97) (a' := ?a97) rfl rfl (by kernel_rfl) (by kernel_rfl) (by kernel_rfl) (fun _ _ _ h => h) (Or.inl ⟨by rfl, ?hy97⟩) ?ha97 (by assumption) ?rest97
            case hy97 =>
              intro w_ hSw_
              go_simp
              first | done | (with_reducible rfl)
            case ha97 =>
              simp only [Act.put, List.setIfInBounds_toArray, List.set_cons_zero, List.set_cons_succ]
              rfl
            refine takeN (i := 31) (N := (some 96)) (v := ?v98) (a' := ?a98) rfl rfl (by kernel_rfl) (by kernel_rfl) (by kernel_rfl) (fun _ _ _ h => h) (Or.inl ⟨by rfl, ?hy98⟩) ?ha98 (by assumption) ?rest98
            case hy98 =>
              intro w_ hSw_
              go_simp
              first | done | (with_reducible rfl)
            case ha98 =>
              simp only [Act.put, List.setIfInBounds_toArray, List.set_cons_zero, List.set_cons_succ]
              rfl
            refine takeN (i := 32) (N := (some 97)) (v := ?v99) (a' := ?a99) rfl rfl (by kernel_rfl) (by kernel_rfl) (by kernel_rfl) (fun _ _ _ h => h) (Or.inl ⟨by rfl, ?hy99⟩) ?ha99 (by assumption) ?rest99
            case hy99 =>
              intro w_ hSw_
              go_simp
              first | done | (with_reducible rfl)
            case ha99 =>
              simp only [Act.put, List.setIfInBounds_toArray, List.set_cons_zero, List.set_cons_succ]
              rfl
            refine takeN (i := 33) (N := (some 98)) (v := ?v100) (a' := ?a100) rfl rfl (by kernel_rfl) (by kernel_rfl) (by kernel_rfl) (fun _ _ _ h => h) (Or.inl ⟨by rfl, ?hy100⟩) ?ha100 (by assumption) ?rest100
            case hy100 =>
              intro w_ hSw_
              go_simp
              first | done | (with_reducible rfl)
            case ha100 =>
              simp only [Act.put, List.setIfInBounds_toArray, List.set_cons_zero, List.set_cons_succ]
              rfl
            refine takeN (i := 34) (N := (some 99)) (v := ?v101) (a' := ?a101) rfl rfl (by kernel_rfl) (by kernel_rfl) (by kernel_rfl) (fun _ _ _ h => h) (Or.inl ⟨by rfl, ?hy101⟩) ?ha101 (by assumption) ?rest101
            case hy101 =>
              intro w_ hSw_
              go_simp
              first | done | (with_reducible rfl)
            case ha101 =>
              simp only [Act.put, List.setIfInBounds_toArray, List.set_cons_zero, List.set_cons_succ]
              rfl
            refine takeN (i := 35) (N := (some 100)) (v := ?v102) (a' := ?a102) rfl rfl (by kernel_rfl) (by kernel_rfl) (by kernel_rfl) (fun _ _ _ h => h) (Or.inl ⟨by rfl, ?hy102⟩) ?ha102 (by assumption) ?rest102
            case hy102 =>
              intro w_ hSw_
              go_simp
              first | done | (with_reducible rfl)
            case ha102 =>
              simp only [Act.put, List.setIfInBounds_toArray, List.set_cons_zero, List.set_cons_succ]
              rfl
            refine takeN (i := 36) (N := (some 101)) (v := ?v103) (a' := ?a103) rfl rfl (by kernel_rfl) (by kernel_rfl) (by kernel_rfl) (fun _ _ _ h => h) (Or.inl ⟨by rfl, ?hy103⟩) ?ha103 (by assumption) ?rest103
            case hy103 =>
              intro w_ hSw_
              go_simp
              first | done | (with_reducible rfl)
            case ha103 =>
              simp only [Act.put, List.setIfInBounds_toArray, List.set_cons_zero, List.set_cons_succ]
              rfl
            refine takeN (i := 37) (N := (some 102)) (v := ?v104) (a' := ?a104) rfl rfl (by kernel_rfl) (by kernel_rfl) (by kernel_rfl) (fun _ _ _ h => h) (Or.inl ⟨by rfl, ?hy104⟩) ?ha104 (by assumption) ?rest104
            case hy104 =>
              intro w_ hSw_
              go_simp
              first | done | (with_reducible rfl)
            case ha104 =>
              simp only [Act.put, List.setIfInBounds_toArray, List.set_cons_zero, List.set_cons_succ]
              rfl
            refine takeN (i := 38) (N := (some 103)) (v := ?v105) (a' := ?a105) rfl rfl (by kernel_rfl) (by kernel_rfl) (by kernel_rfl) (fun _ _ _ h => h) (Or.inl ⟨by rfl, ?hy105⟩) ?ha105 (by assumption) ?rest105
            case hy105 =>
              intro w_ hSw_
              go_simp
              first | done | (with_reducible rfl)
            case ha105 =>
              simp only [Act.put, List.setIfInBounds_toArray, List.set_cons_zero, List.set_cons_succ]
              rfl
            refine takeN (i := 39) (N := (some 104)) (v := ?v106) (a' := ?a106) rfl rfl (by kernel_rfl) (by kernel_rfl) (by kernel_rfl) (fun _ _ _ h => h) (Or.inl ⟨by rfl, ?hy106⟩) ?ha106 (by assumption) ?rest106
            case hy106 =>
              intro w_ hSw_
              go_simp
              first | done | (with_reducible rfl)
            case ha106 =>
              simp only [Act.put, List.setIfInBounds_toArray, List.set_cons_zero, List.set_cons_succ]
              rfl
            refine takeN (i := 40) (N := (some 105)) (v := ?v107) (a' := ?a107) rfl rfl (by kernel_rfl) (by kernel_rfl) (by kernel_rfl) (fun _ _ _ h => h) (Or.inl ⟨by rfl, ?hy107⟩) ?ha107 (by assumption) ?rest107
            case hy107 =>
              intro w_ hSw_
              go_simp
              first | done | (with_reducible rfl)
            case ha107 =>
              simp only [Act.put, List.setIfInBounds_toArray, List.set_cons_zero, List.set_cons_succ]
              rfl
            refine takeN (i := 41) (N := (some 106)) (v := ?v108) (a' := ?a108) rfl rfl (by kernel_rfl) (by kernel_rfl) (by kernel_rfl) (fun _ _ _ h => h) (Or.inl ⟨by rfl, ?hy108⟩) ?ha108 (by assumption) ?rest108
            case hy108 =>
              intro w_ hSw_
              go_simp
              first | done | (with_reducible rfl)
            case ha108 =>
              simp only [Act.put, List.setIfInBounds_toArray, List.set_cons_zero, List.set_cons_succ]
              rfl
            refine takeN (i := 42) (N := (some 107)) (v := ?v109) (a' := ?a109) rfl rfl (by kernel_rfl) (by kernel_rfl) (by kernel_rfl) (fun _ _ _ h => h) (Or.inl ⟨by rfl, ?hy109⟩) ?ha109 (by assumption) ?rest109
            case hy109 =>
              intro w_ hSw_
              go_simp
              first | done | (with_reducible rfl)
            case ha109 =>
              simp only [Act.put, List.setIfInBounds_toArray, List.set_cons_zero, List.set_cons_succ]
              rfl
            refine takeN (i := 43) (N := (some 108)) (v := ?v110) (a' := ?a110) rfl rfl (by kernel_rfl) (by kernel_rfl) (by kernel_rfl) (fun _ _ _ h => h) (Or.inl ⟨by rfl, ?hy110⟩) ?ha110 (by assumption) ?rest110
            case hy110 =>
              intro w_ hSw_
              go_simp
              first | done | (with_reducible rfl)
            case ha110 =>
              simp only [Act.put, List.setIfInBounds_toArray, List.set_cons_zero, List.set_cons_succ]
              rfl
            refine takeN (i := 44) (N := (some 109)) (v := ?v111) (a' := ?a111) rfl rfl (by kernel_rfl) (by kernel_rfl) (by kernel_rfl) (fun _ _ _ h => h) (Or.inl ⟨by rfl, ?hy111⟩) ?ha111 (by assumption) ?rest111
            case hy111 =>
              intro w_ hSw_
              go_simp
              first | done | (with_reducible rfl)
            case ha111 =>
              simp only [Act.put, List.setIfInBounds_toArray, List.set_cons_zero, List.set_cons_succ]
              rfl
            refine takeN (i := 45) (N := (some 110)) (v := ?v112) (a' := ?a112) rfl rfl (by kernel_rfl) (by kernel_rfl) (by kernel_rfl) (fun _ _ _ h => h) (Or.inl ⟨by rfl, ?hy112⟩) ?ha112 (by assumption) ?rest112
            case hy112 =>
              intro w_ hSw_
              go_simp
              first | done | (with_reducible rfl)
            case ha112 =>
              simp only [Act.put, List.setIfInBounds_toArray, List.set_cons_zero, List.set_cons_succ]
              rfl
            refine wpAnyH_done (by kernel_rfl) ?_ _
            refine NoPanic.normal ?_
            replace HR := Aside0.mk (rdO hHeld)
            clear hHeld
            go_wp2_with fail
            have HE := Aside0.mk (show louverref19_End.f (l.length + 5) (l.take (j + 1)) = some (e', ec') by rw [end_f _ (by simp; omega) _ (by simp; omega), ← HD'.out.1])
            refine (calls_of_args (by rw [List.length_take, Nat.min_eq_left (by omega)]) (louverref19_End.calls (l.length + 5) (some ad) c1 (l.take (j + 1)) e' ec' _ (Kd.C_take (Kd.C_below HR0.out HR.out.bel) (by omega)) (by simp; omega) HE.out)).mono ?_
            rintro e w4 ⟨rfl, hb⟩
            replace HR := Aside0.mk (HR.out.below hb)
            clear hb HE
            have hg4 : g < w4.heap.size := HR.out.door.lt
            go_wp2_with fail
            refine wp_region_noPanic ?_
            refine wp_region_held_drew (S := fun w' => Aside0 (Re w g wr.heap.size (wr.heap.size + 1) true t1 c' e' ec' o false 0 A (([] : List Int)) cp w4.heap.size w') ∧ w'.cell? ⟨w4.heap.size, 0, none⟩ = some (.int .u8 e') ∧ w'.cell? ⟨w4.heap.size, 1, none⟩ = some (.int .u32 ec')) (by kernel_rfl) (reS ⟨HR.out.below (below_drew (below_alloc (Below.refl _ _) _)), last_at w4 _ _ rfl, by omega⟩) (fun hHeld => ?_)
            refine takeN (i := 0) (N := (some 116)) (v := ?v113) (a' := ?a113) rfl rfl (by kernel_rfl) (by kernel_rfl) (by kernel_rfl) (fun _ _ _ h => h) (Or.inl ⟨by rfl, ?hy113⟩) ?ha113 (by assumption) ?rest113
            case hy113 =>
              intro w_ hSw_
              go_simp
              first | done | (with_reducible rfl)
            case ha113 =>
              simp only [Act.put, List.setIfInBounds_toArray, List.set_cons_zero, List.set_cons_succ]
              rfl
            refine takeN (i := 2) (N := (some 118)) (v := ?v114) (a' := ?a114) rfl rfl (by kernel_rfl) (by kernel_rfl) (by kernel_rfl) (fun _ _ _ h => h) (Or.inl ⟨by rfl, ?hy114⟩) ?ha114 (by assumption) ?rest114
            case hy114 =>
              intro w_ hSw_
              go_simp
              first | done | (with_reducible rfl)
            case ha114 =>
              simp only [Act.put, List.setIfInBounds_toArray, List.set_cons_zero, List.set_cons_succ]
              rfl
            refine wpAnyH_ready (rs := [1]) (by kernel_rfl) (by simp) ?_
            refine AllReadyH.cons rfl (fun K hK => ?_) AllReadyH.nil
            go_simp
            go_at_call 12
            with_reducible refine (closing_Door_End.calls g true t1 c' e' ec' e' ec' true t1 c' e' ec' w _ (reO hHeld).rd.door (reO hHeld).rd.bel rfl).mono ?_
            rintro e w' ⟨rfl, hI, hB, hk⟩
            refine hK.out _ _ (reS (Re.keep (reO hHeld) hI hB hk)) (fun hHeld => ?_)
            clear hK K
            try simp only [Act.put, List.setIfInBounds_toArray, List.set_cons_zero, List.set_cons_succ]
            refine takeN (i := 3) (N := (some 119)) (v := ?v115) (a' := ?a115) rfl rfl (by kernel_rfl) (by kernel_rfl) (by kernel_rfl) (fun _ _ _ h => h) (Or.inl ⟨by rfl, ?hy115⟩) ?ha115 (by assumption) ?rest115
            case hy115 =>
              intro w_ hSw_
              go_simp
              first | done | (with_reducible rfl)
            case ha115 =>
              simp only [Act.put, List.setIfInBounds_toArray, List.set_cons_zero, List.set_cons_succ]
              rfl
            refine takeN (i := 4) (N := (some 120)) (v := ?v116) (a' := ?a116) rfl rfl (by kernel_rfl) (by kernel_rfl) (by kernel_rfl) (fun _ _ _ h => h) (Or.inl ⟨by rfl, ?hy116⟩) ?ha116 (by assumption) ?rest116
            case hy116 =>
              intro w_ hSw_
              go_simp
              first | done | (with_reducible rfl)
            case ha116 =>
              simp only [Act.put, List.setIfInBounds_toArray, List.set_cons_zero, List.set_cons_succ]
              rfl
            refine takeN (i := 5) (N := (some 121)) (v := ?v117) (a' := ?a117) rfl rfl (by kernel_rfl) (by kernel_rfl) (by kernel_rfl) (fun _ _ _ h => h) (Or.inl ⟨by rfl, ?hy117⟩) ?ha117 (by assumption) ?rest117
            case hy117 =>
              intro w_ hSw_
              go_simp
              first | done | (with_reducible rfl)
            case ha117 =>
              simp only [Act.put, List.setIfInBounds_toArray, List.set_cons_zero, List.set_cons_succ]
              rfl
            refine takeN (i := 7) (N := (some 123)) (v := ?v118) (a' := ?a118) rfl rfl (by kernel_rfl) (by kernel_rfl) (by kernel_rfl) (fun _ _ _ h => h) (Or.inl ⟨by rfl, ?hy118⟩) ?ha118 (by assumption) ?rest118
            case hy118 =>
              intro w_ hSw_
              go_simp
              first | done | (with_reducible rfl)
            case ha118 =>
              simp only [Act.put, List.setIfInBounds_toArray, List.set_cons_zero, List.set_cons_succ]
              rfl
            refine takeN (i := 8) (N := (some 124)) (v := ?v119) (a' := ?a119) rfl rfl (by kernel_rfl) (by kernel_rfl) (by kernel_rfl) (fun _ _ _ h => h) (Or.inl ⟨by rfl, ?hy119⟩) ?ha119 (by assumption) ?rest119
            case hy119 =>
              intro w_ hSw_
              go_simp
              first | done | (with_reducible rfl)
            case ha119 =>
              simp only [Act.put, List.setIfInBounds_toArray, List.set_cons_zero, List.set_cons_succ]
              rfl
            refine takeN (i := 9) (N := (some 125)) (v := ?v120) (a' := ?a120) rfl rfl (by kernel_rfl) (by kernel_rfl) (by kernel_rfl) (fun _ _ _ h => h) (Or.inl ⟨by rfl, ?hy120⟩) ?ha120 (by assumption) ?rest120
            case hy120 =>
              intro w_ hSw_
              go_simp
              first | done | (with_reducible rfl)
            case ha120 =>
              simp only [Act.put, List.setIfInBounds_toArray, List.set_cons_zero, List.set_cons_succ]
              rfl
            refine wpAnyH_ready (rs := [6]) (by kernel_rfl) (by simp) ?_
            refine AllReadyH.cons rfl (fun K hK => ?_) AllReadyH.nil
            go_simp
            go_at_call 15
            with_reducible refine (closing_Door_Through.calls g true t1 c' e' ec' (e' != 0) true t1 c' e' ec' w _ (reO hHeld).rd.door (reO hHeld).rd.bel rfl).mono ?_
            rintro e w' ⟨rfl, hI, hB, hk⟩
            refine hK.out _ _ (reS (Re.keep (reO hHeld) hI hB hk)) (fun hHeld => ?_)
            clear hK K
            try simp only [Act.put, List.setIfInBounds_toArray, List.set_cons_zero, List.set_cons_succ]
            refine takeN (i := 10) (N := (some 126)) (v := ?v121) (a' := ?a121) rfl rfl (by kernel_rfl) (by kernel_rfl) (by kernel_rfl) (fun _ _ _ h => h) (Or.inl ⟨by rfl, ?hy121⟩) ?ha121 (by assumption) ?rest121
            case hy121 =>
              intro w_ hSw_
              go_simp
              first | done | (with_reducible rfl)
            case ha121 =>
              simp only [Act.put, List.setIfInBounds_toArray, List.set_cons_zero, List.set_cons_succ]
              rfl
            refine takeN (i := 11) (N := (some 127)) (v := ?v122) (a' := ?a122) rfl rfl (by kernel_rfl) (by kernel_rfl) (by kernel_rfl) (fun _ _ _ h => h) (Or.inl ⟨by rfl, ?hy122⟩) ?ha122 (by assumption) ?rest122
            case hy122 =>
              intro w_ hSw_
              go_simp
              first | done | (with_reducible rfl)
            case ha122 =>
              simp only [Act.put, List.setIfInBounds_toArray, List.set_cons_zero, List.set_cons_succ]
              rfl
            refine takeN (i := 12) (N := (some 128)) (v := ?v123) (a' := ?a123) rfl rfl (by kernel_rfl) (by kernel_rfl) (by kernel_rfl) (fun _ _ _ h => h) (Or.inl ⟨by rfl, ?hy123⟩) ?ha123 (by assumption) ?rest123
            case hy123 =>
              intro w_ hSw_
              go_simp
              first | done | (with_reducible rfl)
            case ha123 =>
              simp only [Act.put, List.setIfInBounds_toArray, List.set_cons_zero, List.set_cons_succ]
              rfl
            refine takeN (i := 13) (N := (some 129)) (v := ?v124) (a' := ?a124) rfl rfl (by kernel_rfl) (by kernel_rfl) (by kernel_rfl) (fun _ _ _ h => h) (Or.inl ⟨by rfl, ?hy124⟩) ?ha124 (by assumption) ?rest124
            case hy124 =>
              intro w_ hSw_
              go_simp
              first | done | (with_reducible rfl)
            case ha124 =>
              simp only [Act.put, List.setIfInBounds_toArray, List.set_cons_zero, List.set_cons_succ]
              rfl
            refine takeN (i := 15) (N := (some 131)) (v := ?v125) (a' := ?a125) rfl rfl (by kernel_rfl) (by kernel_rfl) (by kernel_rfl) (fun _ _ _ h => h) (Or.inl ⟨by rfl, ?hy125⟩) ?ha125 (by assumption) ?rest125
            case hy125 =>
              intro w_ hSw_
              go_simp
              first | done | (with_reducible rfl)
            case ha125 =>
              simp only [Act.put, List.setIfInBounds_toArray, List.set_cons_zero, List.set_cons_succ]
              rfl
            refine takeN (i := 16) (N := (some 132)) (v := ?v126) (a' := ?a126) rfl rfl (by kernel_rfl) (by kernel_rfl) (by kernel_rfl) (fun _ _ _ h => h) (Or.inl ⟨by rfl, ?hy126⟩) ?ha126 (by assumption) ?rest126
            case hy126 =>
              intro w_ hSw_
              go_simp
              first | done | (with_reducible rfl)
            case ha126 =>
              simp only [Act.put, List.setIfInBounds_toArray, List.set_cons_zero, List.set_cons_succ]
              rfl
            refine wpAnyH_ready (rs := [14]) (by kernel_rfl) (by simp) ?_
            refine AllReadyH.cons rfl (fun K hK => ?_) AllReadyH.nil
            go_simp
            go_at_call 19
            with_reducible refine (closing_Door_Sent.calls g true t1 c' e' ec' true true t1 c' e' ec' w _ (reO hHeld).rd.door (reO hHeld).rd.bel rfl).mono ?_
            rintro e w' ⟨rfl, hI, hB, hk⟩
            refine hK.out _ _ (reS (Re.keep (reO hHeld) hI hB hk)) (fun hHeld => ?_)
            clear hK K
            try simp only [Act.put, List.setIfInBounds_toArray, List.set_cons_zero, List.set_cons_succ]
            refine takeN (i := 17) (N := (some 133)) (v := ?v127) (a' := ?a127) rfl rfl (by kernel_rfl) (by kernel_rfl) (by kernel_rfl) (fun _ _ _ h => h) (Or.inl ⟨by rfl, ?hy127⟩) ?ha127 (by assumption) ?rest127
            case hy127 =>
              intro w_ hSw_
              go_simp
              first | done | (with_reducible rfl)
            case ha127 =>
              simp only [Act.put, List.setIfInBounds_toArray, List.set_cons_zero, List.set_cons_succ]
              rfl
            refine takeN (i := 18) (N := (some 134)) (v := ?v128) (a' := ?a128) rfl rfl (by kernel_rfl) (by kernel_rfl) (by kernel_rfl) (fun _ _ _ h => h) (Or.inl ⟨by rfl, ?hy128⟩) ?ha128 (by assumption) ?rest128
            case hy128 =>
              intro w_ hSw_
              go_simp
              first | done | (with_reducible rfl)
            case ha128 =>
              simp only [Act.put, List.setIfInBounds_toArray, List.set_cons_zero, List.set_cons_succ]
              rfl
            refine takeN (i := 19) (N := (some 135)) (v := ?v129) (a' := ?a129) rfl rfl (by kernel_rfl) (by kernel_rfl) (by kernel_rfl) (fun _ _ _ h => h) (Or.inl ⟨by rfl, ?hy129⟩) ?ha129 (by assumption) ?rest129
            case hy129 =>
              intro w_ hSw_
              go_simp
              first | done | (with_reducible rfl)
            case ha129 =>
              simp only [Act.put, List.setIfInBounds_toArray, List.set_cons_zero, List.set_cons_succ]
              rfl
            refine takeN (i := 20) (N := (some 136)) (v := ?v130) (a' := ?a130) rfl rfl (by kernel_rfl) (by kernel_rfl) (by kernel_rfl) (fun _ _ _ h => h) (Or.inl ⟨by rfl, ?hy130⟩) ?ha130 (by assumption) ?rest130
            case hy130 =>
              intro w_ hSw_
              go_simp
              first | done | (with_reducible rfl)
            case ha130 =>
              simp only [Act.put, List.setIfInBounds_toArray, List.set_cons_zero, List.set_cons_succ]
              rfl
            refine takeN (i := 21) (N := (some 137)) (v := ?v131) (a' := ?a131) rfl rfl (by kernel_rfl) (by kernel_rfl) (by kernel_rfl) (fun _ _ _ h => h) (Or.inl ⟨by rfl, ?hy131⟩) ?ha131 (by assumption) ?rest131
            case hy131 =>
              intro w_ hSw_
              go_simp
              first | done | (with_reducible rfl)
            case ha131 =>
              simp only [Act.put, List.setIfInBounds_toArray, List.set_cons_zero, List.set_cons_succ]
              rfl
            refine takeN (i := 22) (N := (some 138)) (v := ?v132) (a' := ?a132) rfl rfl (by kernel_rfl) (by kernel_rfl) (by kernel_rfl) (fun _ _ _ h => h) (Or.inl ⟨by rfl, ?hy132⟩) ?ha132 (by assumption) ?rest132
            case hy132 =>
              intro w_ hSw_
              go_simp
              first | done | (with_reducible rfl)
            case ha132 =>
              simp only [Act.put, List.setIfInBounds_toArray, List.set_cons_zero, List.set_cons_succ]
              rfl
            refine takeN (i := 23) (N := (some 139)) (v := ?v133) (a' := ?a133) rfl rfl (by kernel_rfl) (by kernel_rfl) (by kernel_rfl) (fun _ _ _ h => h) (Or.inl ⟨by rfl, ?hy133⟩) ?ha133 (by assumption) ?rest133
            case hy133 =>
              intro w_ hSw_
              go_simp
              first | done | (with_reducible rfl)
            case ha133 =>
              simp only [Act.put, List.setIfInBounds_toArray, List.set_cons_zero, List.set_cons_succ]
              rfl
            refine wpAnyH_done (by kernel_rfl) ?_ _
            refine NoPanic.normal ?_
            have HX := Aside0.mk (reO hHeld)
            clear hHeld HR
            go_wp2_with fail
            go_roundw
            case rel => exact ⟨j + 1, _, _, _, _, _, by go_num, by omega, HD'.out, HX.out.rd.door, HX.out.rd.bel⟩
            case measure => simp [intOf]; omega
    · obtain rfl : j = l.length := by omega
      go_wp2_with fail
      refine (louverlaw19_fixed.yes _).mono ?_
      rintro e w3 ⟨rfl, hb⟩
      go_wp2_with fail
      go_ret
      exact ⟨rfl, below_step HB.out hb⟩
end Go.Proofs.Ytbcjifadcljkeaa
