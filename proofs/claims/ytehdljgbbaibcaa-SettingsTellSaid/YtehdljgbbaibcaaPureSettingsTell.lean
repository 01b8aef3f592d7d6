import Derived.Test.YtehdljgbbaibcaaSaysSettingsTell
import Derived.Test.YtehdljgbbaibcaaTell0
import Derived.Test.YtehdljgbbaibcaaTake
import Derived.Test.YtehdljgbbaibcaaPAllx3
namespace Go.Proofs.Ytehdljgbbaibcaa
open Go.RowKit Go.Proofs.YtehdljgbbaibcaaW.PrintWords Go.Proofs.YtehdljgbbaibcaaW.PrintLast Go.Proofs.YtehdljgbbaibcaaW.PrintMore Go.Proofs.Ytehdljgbbaibcaa.PAll
set_option linter.unusedVariables false
attribute [local go_sem high] eqB24
/-- What stands throughout: the two boxes, the third one, the told row. -/
structure Ts (w : World) (a b : S24) (wT : World) (A : Option Addr) (W : World) : Prop where
  t : Tl w a b W
  z : W.heap[wT.heap.size]? = some (.cells (cellsS a) 24 (0, 0))
  row : Kd.C k39 W A (tellL (tellRows a b)).length (tellL (tellRows a b))
theorem Ts.below {w : World} {a b : S24} {wT : World} {A : Option Addr} {W W' : World} (h : Ts w a b wT A W) (hb : Below W.heap.size W W') : Ts w a b wT A W' := ⟨h.t.below hb, blk_below h.z hb, Kd.C_below h.row hb⟩
def LawR (w : World) (a b : S24) (wT : World) (A : Option Addr) (i n : Value) (wr : World) : Prop := ∃ j : Nat, i = .int .i64 (j : Int) ∧ n = .int .i64 (j : Int) ∧ j ≤ (tellL (tellRows a b)).length ∧ Ts w a b wT A wr
theorem bool_ways (x y : Bool) : x = true ∨ (x = false ∧ y = false) ∨ (x = false ∧ y = true) := by cases x <;> cases y <;> simp
theorem one_C {W : World} {g : Nat} {x : S39} (h : W.heap[g]? = some (.cells #[.int .u16 x.f0, .int .u32 x.f1] 39 (0, 0))) : Kd.C k39 W (some ⟨g, 0, none⟩) [x].length [x] := by
  refine ⟨rfl, by simp, fun _ => ⟨_, rfl, fun j p hj => ?_⟩⟩
  have hj0 : j = 0 := by
    have := (List.getElem?_eq_some_iff.1 hj).1
    simp at this
    exact this
  subst hj0
  obtain rfl : x = p := by simpa using hj
  refine ⟨[.int .u16 x.f0, .int .u32 x.f1], rfl, k39_mk W x, fun k u hu => ?_⟩
  rw [Nat.zero_mul, add_plain]
  simp only [Nat.zero_add]
  refine (blk_cell h _).trans ?_
  match k, hu with
  | 0, hu => simpa using hu
  | 1, hu => simpa using hu
set_option maxHeartbeats 16000000 in
set_option maxRecDepth 100000 in
theorem telllaw_any (a b : S24) (hb : Fine b) (w : World) : Calls Try.prog 4 #[.agg (cellsS a), .agg (cellsS b)] w fun e w' => e = .returned (.bool true) ∧ Below w.heap.size w w' := by
  have hu24 := Try.underlying24
  have hu39 := Try.underlying39
  unfold cellsS
  go_enter Try.func4, Try.ntmps4
  go_wp2_with fail
  refine (tell_any a b _).mono ?_
  rintro e wT ⟨v, rfl, ho, hb⟩
  obtain ⟨A, c, rfl⟩ := Kd.R_slice ho
  have hlc := (Kd.R_reads' ho).2.1
  have HTl : Aside0 (Tl w a b wT) := ⟨⟨below_step (by repeat (first | exact Below.refl _ _ | apply below_alloc)) hb, blk_below (blk_alloc (last_at w _ _ rfl) _) hb, blk_below (last_at _ _ _ (by simp)) hb⟩⟩
  have HRow := Aside0.mk (Kd.R_reads' ho).2.2
  clear ho hb
  have cx0 : wT.cell? ⟨w.heap.size, 0, none⟩ = some (.int .u32 a.f0) := (blk_cell HTl.out.x 0).trans rfl
  have cx1 : wT.cell? ⟨w.heap.size, 1, none⟩ = some (.bool a.f1) := (blk_cell HTl.out.x 1).trans rfl
  have cx2 : wT.cell? ⟨w.heap.size, 2, none⟩ = some (.int .u32 a.f2) := (blk_cell HTl.out.x 2).trans rfl
  have cx3 : wT.cell? ⟨w.heap.size, 3, none⟩ = some (.int .u32 a.f3) := (blk_cell HTl.out.x 3).trans rfl
  have cx4 : wT.cell? ⟨w.heap.size, 4, none⟩ = some (.int .u32 a.f4) := (blk_cell HTl.out.x 4).trans rfl
  have cx5 : wT.cell? ⟨w.heap.size, 5, none⟩ = some (.int .u32 a.f5) := (blk_cell HTl.out.x 5).trans rfl
  have cx6 : wT.cell? ⟨w.heap.size, 6, none⟩ = some (.bool a.f6) := (blk_cell HTl.out.x 6).trans rfl
  have lx := blk_lt HTl.out.x
  have cy0 : wT.cell? ⟨w.heap.size + 1, 0, none⟩ = some (.int .u32 b.f0) := (blk_cell HTl.out.y 0).trans rfl
  have cy1 : wT.cell? ⟨w.heap.size + 1, 1, none⟩ = some (.bool b.f1) := (blk_cell HTl.out.y 1).trans rfl
  have cy2 : wT.cell? ⟨w.heap.size + 1, 2, none⟩ = some (.int .u32 b.f2) := (blk_cell HTl.out.y 2).trans rfl
  have cy3 : wT.cell? ⟨w.heap.size + 1, 3, none⟩ = some (.int .u32 b.f3) := (blk_cell HTl.out.y 3).trans rfl
  have cy4 : wT.cell? ⟨w.heap.size + 1, 4, none⟩ = some (.int .u32 b.f4) := (blk_cell HTl.out.y 4).trans rfl
  have cy5 : wT.cell? ⟨w.heap.size + 1, 5, none⟩ = some (.int .u32 b.f5) := (blk_cell HTl.out.y 5).trans rfl
  have cy6 : wT.cell? ⟨w.heap.size + 1, 6, none⟩ = some (.bool b.f6) := (blk_cell HTl.out.y 6).trans rfl
  have ly := blk_lt HTl.out.y
  go_wp2_with fail
  have HT : Aside0 (Ts w a b wT A (wT.alloc (.cells (cellsS a) 24))) := ⟨⟨HTl.out.below (below_alloc (Below.refl _ _) _), last_at wT _ _ rfl, Kd.C_alloc HRow.out _⟩⟩
  clear HTl HRow
  clear cx0 cx1 cx2 cx3 cx4 cx5 cx6 cy0 cy1 cy2 cy3 cy4 cy5 cy6 lx ly
  have hl7 := tell_seven a b
  have HI := Aside0.mk (tell_inc a b)
  have HO := Aside0.mk (tell_okay a b hb)
  have HA := Aside0.mk (tell_alone a b)
  have HM := Aside0.mk (tell_makes a b)
  have HN := Aside0.mk (tell_none a b)
  go_loopw [21, 6] (fun i n wr => LawR w a b wT A i n wr) (fun i _ _ => (tellL (tellRows a b)).length - (intOf i).toNat)
  case atStart => exact ⟨0, rfl, rfl, Nat.zero_le _, HT.out⟩
  case round =>
    obtain ⟨j, rfl, rfl, hj, hT⟩ := hrel
    clear HT
    have HT := Aside0.mk hT
    clear hT
    by_cases hlt : j < (tellL (tellRows a b)).length
    · obtain ⟨ad, rfl, hx0, hx1⟩ := at_T39 HT.out.row (j : Int) (by omega) (by omega)
      have hinc := HI.out j
      have hprev : 0 < j → ∃ id : Int, wr.cell? (ad.add ((j - 1) * 2)) = some (.int .u16 id) ∧ id < ((tellL (tellRows a b))[j]).f0 := by
        intro h0
        obtain ⟨ad2, e2, hp0, _⟩ := at_T39 HT.out.row ((j - 1 : Nat) : Int) (by omega) (by omega)
        injection e2 with e2
        subst e2
        rw [Int.toNat_natCast] at hp0
        refine ⟨_, hp0, ?_⟩
        have hq : rd_T39 (tellL (tellRows a b)) ((j - 1 : Nat) : Int) = (tellL (tellRows a b))[j - 1] := by
          have h3 : j - 1 < (tellL (tellRows a b)).length := by omega
          simp [rd_T39, h3]
        rw [hq]
        exact hinc h0 hlt
      have hal := HA.out ((tellL (tellRows a b))[j]) (List.getElem_mem hlt)
      have hok := HO.out ((tellL (tellRows a b))[j]) (List.getElem_mem hlt)
      have hx : rd_T39 (tellL (tellRows a b)) (j : Int) = (tellL (tellRows a b))[j] := by simp [rd_T39, hlt]
      rw [Int.toNat_natCast, hx] at hx0 hx1
      clear hx hinc
      generalize (tellL (tellRows a b))[j] = x at *
      have HP := Aside0.mk hprev
      have HAL := Aside0.mk hal
      have HOK := Aside0.mk hok
      clear hprev hal hok
      have href := ref_apply z24 [x] (by simp) (by intro y hy; simp at hy; subst hy; exact HOK.out)
      have HREF := Aside0.mk href
      clear href
      rcases Nat.eq_zero_or_pos j with hj0 | hj0
      · have h0b : decide ((j : Int) > 0) = false := decide_eq_false (by omega)
        have h0d : decide (0 < (j : Int)) = false := decide_eq_false (by omega)
        have h0e : decide (0 < j) = false := decide_eq_false (by omega)
        have HJ0 := Aside0.mk hj0
        clear hj0
        go_wp2_with fail
        refine wp_region_noPanic ?_
        refine wp_region_held_drew (S := fun w' => Aside0 (Ts w a b wT (some ad) w' ∧ w'.heap[wr.heap.size]? = some (.cells #[.int .u16 x.f0, .int .u32 x.f1] 39 (0, 0))) ∧ w'.cell? ⟨wr.heap.size, 0, none⟩ = some (.int .u16 x.f0)) (by kernel_rfl) (⟨⟨HT.out.below (below_drew (below_alloc (Below.refl _ _) _)), last_at wr _ _ rfl⟩, (blk_cell (last_at wr _ _ rfl) 0).trans rfl⟩) (fun hHeld => ?_)
        refine takeN (i := 0) (N := (some 26)) (v := ?v1) (a' := ?a1) rfl rfl (by kernel_rfl) (by kernel_rfl) (by kernel_rfl) (fun _ _ _ h => h) (Or.inl ⟨by rfl, ?hy1⟩) ?ha1 (by assumption) ?rest1
        case hy1 =>
          intro w_ hSw_
          go_simp
          first | done | (with_reducible rfl)
        case ha1 =>
          simp only [Act.put, List.setIfInBounds_toArray, List.set_cons_zero, List.set_cons_succ]
          rfl
        refine takeN (i := 1) (N := (some 27)) (v := ?v2) (a' := ?a2) rfl rfl (by kernel_rfl) (by kernel_rfl) (by kernel_rfl) (fun _ _ _ h => h) (Or.inl ⟨by rfl, ?hy2⟩) ?ha2 (by assumption) ?rest2
        case hy2 =>
          intro w_ hSw_
          go_simp
          first | done | (with_reducible rfl)
        case ha2 =>
          simp only [Act.put, List.setIfInBounds_toArray, List.set_cons_zero, List.set_cons_succ]
          rfl
        refine takeN (i := 2) (N := (some 28)) (v := ?v3) (a' := ?a3) rfl rfl (by kernel_rfl) (by kernel_rfl) (by kernel_rfl) (fun _ _ _ h => h) (Or.inl ⟨by rfl, ?hy3⟩) ?ha3 (by assumption) ?rest3
        case hy3 =>
          intro w_ hSw_
          go_simp
          first | done | (with_reducible rfl)
        case ha3 =>
          simp only [Act.put, List.setIfInBounds_toArray, List.set_cons_zero, List.set_cons_succ]
          rfl
        refine takeN (i := 3) (N := (some 29)) (v := undef) (a' := ?a4) rfl rfl (by kernel_rfl) (by kernel_rfl) (by kernel_rfl) (fun _ _ _ h => h) (Or.inr ⟨by rfl, rfl⟩) ?ha4 (by assumption) ?rest4
        case ha4 =>
          simp only [Act.put, List.setIfInBounds_toArray, List.set_cons_zero, List.set_cons_succ]
          rfl
        refine takeN (i := 4) (N := (some 30)) (v := undef) (a' := ?a5) rfl rfl (by kernel_rfl) (by kernel_rfl) (by kernel_rfl) (fun _ _ _ h => h) (Or.inr ⟨by rfl, rfl⟩) ?ha5 (by assumption) ?rest5
        case ha5 =>
          simp only [Act.put, List.setIfInBounds_toArray, List.set_cons_zero, List.set_cons_succ]
          rfl
        refine takeN (i := 5) (N := (some 31)) (v := undef) (a' := ?a6) rfl rfl (by kernel_rfl) (by kernel_rfl) (by kernel_rfl) (fun _ _ _ h => h) (Or.inr ⟨by rfl, rfl⟩) ?ha6 (by assumption) ?rest6
        case ha6 =>
          simp only [Act.put, List.setIfInBounds_toArray, List.set_cons_zero, List.set_cons_succ]
          rfl
        refine takeN (i := 6) (N := (some 32)) (v := undef) (a' := ?a7) rfl rfl (by kernel_rfl) (by kernel_rfl) (by kernel_rfl) (fun _ _ _ h => h) (Or.inr ⟨by rfl, rfl⟩) ?ha7 (by assumption) ?rest7
        case ha7 =>
          simp only [Act.put, List.setIfInBounds_toArray, List.set_cons_zero, List.set_cons_succ]
          rfl
        refine takeN (i := 7) (N := (some 33)) (v := undef) (a' := ?a8) rfl rfl (by kernel_rfl) (by kernel_rfl) (by kernel_rfl) (fun _ _ _ h => h) (Or.inr ⟨by rfl, rfl⟩) ?ha8 (by assumption) ?rest8
        case ha8 =>
          simp only [Act.put, List.setIfInBounds_toArray, List.set_cons_zero, List.set_cons_succ]
          rfl
        refine takeN (i := 8) (N := (some 34)) (v := undef) (a' := ?a9) rfl rfl (by kernel_rfl) (by kernel_rfl) (by kernel_rfl) (fun _ _ _ h => h) (Or.inr ⟨by rfl, rfl⟩) ?ha9 (by assumption) ?rest9
        case ha9 =>
          simp only [Act.put, List.setIfInBounds_toArray, List.set_cons_zero, List.set_cons_succ]
          rfl
        refine takeN (i := 9) (N := (some 35)) (v := undef) (a' := ?a10) rfl rfl (by kernel_rfl) (by kernel_rfl) (by kernel_rfl) (fun _ _ _ h => h) (Or.inr ⟨by rfl, rfl⟩) ?ha10 (by assumption) ?rest10
        case ha10 =>
          simp only [Act.put, List.setIfInBounds_toArray, List.set_cons_zero, List.set_cons_succ]
          rfl
        refine takeN (i := 10) (N := (some 36)) (v := undef) (a' := ?a11) rfl rfl (by kernel_rfl) (by kernel_rfl) (by kernel_rfl) (fun _ _ _ h => h) (Or.inr ⟨by rfl, rfl⟩) ?ha11 (by assumption) ?rest11
        case ha11 =>
          simp only [Act.put, List.setIfInBounds_toArray, List.set_cons_zero, List.set_cons_succ]
          rfl
        refine takeN (i := 11) (N := (some 37)) (v := undef) (a' := ?a12) rfl rfl (by kernel_rfl) (by kernel_rfl) (by kernel_rfl) (fun _ _ _ h => h) (Or.inr ⟨by rfl, rfl⟩) ?ha12 (by assumption) ?rest12
        case ha12 =>
          simp only [Act.put, List.setIfInBounds_toArray, List.set_cons_zero, List.set_cons_succ]
          rfl
        refine takeN (i := 12) (N := (some 38)) (v := ?v13) (a' := ?a13) rfl rfl (by kernel_rfl) (by kernel_rfl) (by kernel_rfl) (fun _ _ _ h => h) (Or.inl ⟨by rfl, ?hy13⟩) ?ha13 (by assumption) ?rest13
        case hy13 =>
          intro w_ hSw_
          go_simp
          first | done | (with_reducible rfl)
        case ha13 =>
          simp only [Act.put, List.setIfInBounds_toArray, List.set_cons_zero, List.set_cons_succ]
          rfl
        refine wpAnyH_done (by kernel_rfl) ?_ _
        refine NoPanic.normal ?_
        have HQ := hHeld.1
        clear hHeld HT
        generalize (wr.alloc (.cells #[.int .u16 x.f0, .int .u32 x.f1] 39)).drew = wq at HQ ⊢
        have HT := Aside0.mk HQ.out.1
        have HX := Aside0.mk HQ.out.2
        clear HQ
        have q0 : wq.cell? ⟨wr.heap.size, 0, none⟩ = some (.int .u16 x.f0) := (blk_cell HX.out 0).trans rfl
        have q1 : wq.cell? ⟨wr.heap.size, 1, none⟩ = some (.int .u32 x.f1) := (blk_cell HX.out 1).trans rfl
        have lq := blk_lt HX.out
        go_wp2_with fail
        refine (calls_of_args rfl (louverref09_Apply.calls ([x].length + 2) z24.f0 z24.f1 z24.f2 z24.f3 z24.f4 z24.f5 z24.f6 (some ⟨wq.heap.size, 0, none⟩) 1 [x] (refC z24 [x]).1.f0 (refC z24 [x]).1.f1 (refC z24 [x]).1.f2 (refC z24 [x]).1.f3 (refC z24 [x]).1.f4 (refC z24 [x]).1.f5 (refC z24 [x]).1.f6 (refC z24 [x]).2 _ (one_C (last_at wq _ _ rfl)) (by simp) HREF.out)).mono ?_
        rintro e wy ⟨rfl, hb⟩
        have hX2 : wy.heap[wr.heap.size]? = _ := blk_below (blk_alloc HX.out _) hb
        clear HX q0 q1 lq
        replace HT := Aside0.mk ((HT.out.below (below_alloc (Below.refl _ _) _)).below hb)
        clear hb
        have q0 : wy.cell? ⟨wr.heap.size, 0, none⟩ = some (.int .u16 x.f0) := (blk_cell hX2 0).trans rfl
        have q1 : wy.cell? ⟨wr.heap.size, 1, none⟩ = some (.int .u32 x.f1) := (blk_cell hX2 1).trans rfl
        have lq := blk_lt hX2
        have hways : ¬ (refC z24 [x]).2 = 99 ∨ ((refC z24 [x]).2 = 99 ∧ ¬ (refC z24 [x]).1 = z24) ∨ ((refC z24 [x]).2 = 99 ∧ (refC z24 [x]).1 = z24 ∧ x.f1 = 0) := by
          have := HAL.out
          by_cases h1 : (refC z24 [x]).2 = 99
          · by_cases h2 : (refC z24 [x]).1 = z24
            · by_cases h3 : x.f1 = 0
              · exact .inr (.inr ⟨h1, h2, h3⟩)
              · exact absurd ⟨h1, h2, h3⟩ this
            · exact .inr (.inl ⟨h1, h2⟩)
          · exact .inl h1
        clear hX2
        generalize refC z24 [x] = rc at *
        obtain ⟨y, code⟩ := rc
        (try simp only at hways)
        rcases hways with hc | ⟨hc, hy⟩ | ⟨hc, hy, hv⟩
        · have e1 : (code == 99) = false := by simp [hc]
          have HC := Aside0.mk hc
          clear hc
          go_wp2_with fail
          go_roundw
          case rel => exact ⟨j + 1, by go_num, by go_num, by omega, by first | exact HT.out.below (below_alloc (Below.refl _ _) _) | exact HT.out⟩
          case measure => simp [intOf]; omega
        · have e1 : (code == 99) = true := by simp [hc]
          have e2 := eq14_no hy
          simp only [z24] at e2
          have HC := Aside0.mk (And.intro hc hy)
          clear hc hy
          go_wp2_with fail
          go_roundw
          case rel => exact ⟨j + 1, by go_num, by go_num, by omega, by first | exact HT.out.below (below_alloc (Below.refl _ _) _) | exact HT.out⟩
          case measure => simp [intOf]; omega
        · have e1 : (code == 99) = true := by simp [hc]
          have e2 := eq14_yes hy
          simp only [z24] at e2
          have e3 : (x.f1 != 0) = false := by simp [hv]
          have HC := Aside0.mk (And.intro hc (And.intro hy hv))
          clear hc hy hv
          go_wp2_with fail
          go_roundw
          case rel => exact ⟨j + 1, by go_num, by go_num, by omega, by first | exact HT.out.below (below_alloc (Below.refl _ _) _) | exact HT.out⟩
          case measure => simp [intOf]; omega
      · obtain ⟨id, hid, hidlt⟩ := HP.out hj0
        have h0b : decide ((j : Int) > 0) = true := decide_eq_true (by omega)
        have h0d : decide (0 < (j : Int)) = true := decide_eq_true (by omega)
        have h0e : decide (0 < j) = true := decide_eq_true (by omega)
        have hw1 : IntKind.i64.wrap ((j : Int) - 1) = ((j - 1 : Nat) : Int) := by simp [IntKind.wrap, IntKind.bits, IntKind.signed]; omega
        have hw2 : (0 : Int) ≤ ((j - 1 : Nat) : Int) := by omega
        have hw3 : ((j - 1 : Nat) : Int) < ((tellL (tellRows a b)).length : Int) := by omega
        have hge : decide (id ≥ x.f0) = false := decide_eq_false (by omega)
        have hge2 : decide (x.f0 ≤ id) = false := decide_eq_false (by omega)
        go_wp2_with fail
        refine wp_region_noPanic ?_
        refine wp_region_held_drew (S := fun w' => Aside0 (Ts w a b wT (some ad) w' ∧ w'.heap[wr.heap.size]? = some (.cells #[.int .u16 x.f0, .int .u32 x.f1] 39 (0, 0))) ∧ w'.cell? ⟨wr.heap.size, 0, none⟩ = some (.int .u16 x.f0) ∧ w'.cell? (ad.add ((j - 1) * 2)) = some (.int .u16 id)) (by kernel_rfl) (⟨⟨HT.out.below (below_drew (below_alloc (Below.refl _ _) _)), last_at wr _ _ rfl⟩, (blk_cell (last_at wr _ _ rfl) 0).trans rfl, (((below_drew (below_alloc (Below.refl wr.heap.size wr) _)).cell (World.block_lt_of_cell? _ _ hid)).trans hid)⟩) (fun hHeld => ?_)
        refine takeN (i := 0) (N := (some 26)) (v := ?v14) (a' := ?a14) rfl rfl (by kernel_rfl) (by kernel_rfl) (by kernel_rfl) (fun _ _ _ h => h) (Or.inl ⟨by rfl, ?hy14⟩) ?ha14 (by assumption) ?rest14
        case hy14 =>
          intro w_ hSw_
          go_simp
          first | done | (with_reducible rfl)
        case ha14 =>
          simp only [Act.put, List.setIfInBounds_toArray, List.set_cons_zero, List.set_cons_succ]
          rfl
        refine takeN (i := 1) (N := (some 27)) (v := ?v15) (a' := ?a15) rfl rfl (by kernel_rfl) (by kernel_rfl) (by kernel_rfl) (fun _ _ _ h => h) (Or.inl ⟨by rfl, ?hy15⟩) ?ha15 (by assumption) ?rest15
        case hy15 =>
          intro w_ hSw_
          go_simp
          first | done | (with_reducible rfl)
        case ha15 =>
          simp only [Act.put, List.setIfInBounds_toArray, List.set_cons_zero, List.set_cons_succ]
          rfl
        refine takeN (i := 2) (N := (some 28)) (v := ?v16) (a' := ?a16) rfl rfl (by kernel_rfl) (by kernel_rfl) (by kernel_rfl) (fun _ _ _ h => h) (Or.inl ⟨by rfl, ?hy16⟩) ?ha16 (by assumption) ?rest16
        case hy16 =>
          intro w_ hSw_
          go_simp
          first | done | (with_reducible rfl)
        case ha16 =>
          simp only [Act.put, List.setIfInBounds_toArray, List.set_cons_zero, List.set_cons_succ]
          rfl
        refine takeN (i := 3) (N := (some 29)) (v := ?v17) (a' := ?a17) rfl rfl (by kernel_rfl) (by kernel_rfl) (by kernel_rfl) (fun _ _ _ h => h) (Or.inl ⟨by rfl, ?hy17⟩) ?ha17 (by assumption) ?rest17
        case hy17 =>
          intro w_ hSw_
          go_simp
          first | done | (with_reducible rfl)
        case ha17 =>
          simp only [Act.put, List.setIfInBounds_toArray, List.set_cons_zero, List.set_cons_succ]
          rfl
        refine takeN (i := 4) (N := (some 30)) (v := ?v18) (a' := ?a18) rfl rfl (by kernel_rfl) (by kernel_rfl) (by kernel_rfl) (fun _ _ _ h => h) (Or.inl ⟨by rfl, ?hy18⟩) ?ha18 (by assumption) ?rest18
        case hy18 =>
          intro w_ hSw_
          go_simp
          first | done | (with_reducible rfl)
        case ha18 =>
          simp only [Act.put, List.setIfInBounds_toArray, List.set_cons_zero, List.set_cons_succ]
          rfl
        refine takeN (i := 5) (N := (some 31)) (v := ?v19) (a' := ?a19) rfl rfl (by kernel_rfl) (by kernel_rfl) (by kernel_rfl) (fun _ _ _ h => h) (Or.inl ⟨by rfl, ?hy19⟩) ?ha19 (by assumption) ?rest19
        case hy19 =>
          intro w_ hSw_
          go_simp
          first | done | (with_reducible rfl)
        case ha19 =>
          simp only [Act.put, List.setIfInBounds_toArray, List.set_cons_zero, List.set_cons_succ]
          rfl
        refine takeN (i := 6) (N := (some 32)) (v := ?v20) (a' := ?a20) rfl rfl (by kernel_rfl) (by kernel_rfl) (by kernel_rfl) (fun _ _ _ h => h) (Or.inl ⟨by rfl, ?hy20⟩) ?ha20 (by assumption) ?rest20
        case hy20 =>
          intro w_ hSw_
          go_simp
          first | done | (with_reducible rfl)
        case ha20 =>
          simp only [Act.put, List.setIfInBounds_toArray, List.set_cons_zero, List.set_cons_succ]
          rfl
        refine takeN (i := 7) (N := (some 33)) (v := ?v21) (a' := ?a21) rfl rfl (by kernel_rfl) (by kernel_rfl) (by kernel_rfl) (fun _ _ _ h => h) (Or.inl ⟨by rfl, ?hy21⟩) ?ha21 (by assumption) ?rest21
        case hy21 =>
          intro w_ hSw_
          go_simp
          first | done | (with_reducible rfl)
        case ha21 =>
          simp only [Act.put, List.setIfInBounds_toArray, List.set_cons_zero, List.set_cons_succ]
          rfl
        refine takeN (i := 8) (N := (some 34)) (v := ?v22) (a' := ?a22) rfl rfl (by kernel_rfl) (by kernel_rfl) (by kernel_rfl) (fun _ _ _ h => h) (Or.inl ⟨by rfl, ?hy22⟩) ?ha22 (by assumption) ?rest22
        case hy22 =>
          intro w_ hSw_
          go_simp
          first | done | (with_reducible rfl)
        case ha22 =>
          simp only [Act.put, List.setIfInBounds_toArray, List.set_cons_zero, List.set_cons_succ]
          rfl
        refine takeN (i := 9) (N := (some 35)) (v := ?v23) (a' := ?a23) rfl rfl (by kernel_rfl) (by kernel_rfl) (by kernel_rfl) (fun _ _ _ h => h) (Or.inl ⟨by rfl, ?hy23⟩) ?ha23 (by assumption) ?rest23
        case hy23 =>
          intro w_ hSw_
          go_simp
          first | done | (with_reducible rfl)
        case ha23 =>
          simp only [Act.put, List.setIfInBounds_toArray, List.set_cons_zero, List.set_cons_succ]
          rfl
        refine takeN (i := 10) (N := (some 36)) (v := ?v24) (a' := ?a24) rfl rfl (by kernel_rfl) (by kernel_rfl) (by kernel_rfl) (fun _ _ _ h => h) (Or.inl ⟨by rfl, ?hy24⟩) ?ha24 (by assumption) ?rest24
        case hy24 =>
          intro w_ hSw_
          go_simp
          first | done | (with_reducible rfl)
        case ha24 =>
          simp only [Act.put, List.setIfInBounds_toArray, List.set_cons_zero, List.set_cons_succ]
          rfl
        refine takeN (i := 11) (N := (some 37)) (v := ?v25) (a' := ?a25) rfl rfl (by kernel_rfl) (by kernel_rfl) (by kernel_rfl) (fun _ _ _ h => h) (Or.inl ⟨by rfl, ?hy25⟩) ?ha25 (by assumption) ?rest25
        case hy25 =>
          intro w_ hSw_
          go_simp
          first | done | (with_reducible rfl)
        case ha25 =>
          simp only [Act.put, List.setIfInBounds_toArray, List.set_cons_zero, List.set_cons_succ]
          rfl
        refine takeN (i := 12) (N := (some 38)) (v := ?v26) (a' := ?a26) rfl rfl (by kernel_rfl) (by kernel_rfl) (by kernel_rfl) (fun _ _ _ h => h) (Or.inl ⟨by rfl, ?hy26⟩) ?ha26 (by assumption) ?rest26
        case hy26 =>
          intro w_ hSw_
          go_simp
          first | done | (with_reducible rfl)
        case ha26 =>
          simp only [Act.put, List.setIfInBounds_toArray, List.set_cons_zero, List.set_cons_succ]
          rfl
        refine wpAnyH_done (by kernel_rfl) ?_ _
        refine NoPanic.normal ?_
        have HQ := hHeld.1
        clear hHeld HT
        generalize (wr.alloc (.cells #[.int .u16 x.f0, .int .u32 x.f1] 39)).drew = wq at HQ ⊢
        have HT := Aside0.mk HQ.out.1
        have HX := Aside0.mk HQ.out.2
        clear HQ
        have q0 : wq.cell? ⟨wr.heap.size, 0, none⟩ = some (.int .u16 x.f0) := (blk_cell HX.out 0).trans rfl
        have q1 : wq.cell? ⟨wr.heap.size, 1, none⟩ = some (.int .u32 x.f1) := (blk_cell HX.out 1).trans rfl
        have lq := blk_lt HX.out
        go_wp2_with fail
        refine (calls_of_args rfl (louverref09_Apply.calls ([x].length + 2) z24.f0 z24.f1 z24.f2 z24.f3 z24.f4 z24.f5 z24.f6 (some ⟨wq.heap.size, 0, none⟩) 1 [x] (refC z24 [x]).1.f0 (refC z24 [x]).1.f1 (refC z24 [x]).1.f2 (refC z24 [x]).1.f3 (refC z24 [x]).1.f4 (refC z24 [x]).1.f5 (refC z24 [x]).1.f6 (refC z24 [x]).2 _ (one_C (last_at wq _ _ rfl)) (by simp) HREF.out)).mono ?_
        rintro e wy ⟨rfl, hb⟩
        have hX2 : wy.heap[wr.heap.size]? = _ := blk_below (blk_alloc HX.out _) hb
        clear HX q0 q1 lq
        replace HT := Aside0.mk ((HT.out.below (below_alloc (Below.refl _ _) _)).below hb)
        clear hb
        have q0 : wy.cell? ⟨wr.heap.size, 0, none⟩ = some (.int .u16 x.f0) := (blk_cell hX2 0).trans rfl
        have q1 : wy.cell? ⟨wr.heap.size, 1, none⟩ = some (.int .u32 x.f1) := (blk_cell hX2 1).trans rfl
        have lq := blk_lt hX2
        have hways : ¬ (refC z24 [x]).2 = 99 ∨ ((refC z24 [x]).2 = 99 ∧ ¬ (refC z24 [x]).1 = z24) ∨ ((refC z24 [x]).2 = 99 ∧ (refC z24 [x]).1 = z24 ∧ x.f1 = 0) := by
          have := HAL.out
          by_cases h1 : (refC z24 [x]).2 = 99
          · by_cases h2 : (refC z24 [x]).1 = z24
            · by_cases h3 : x.f1 = 0
              · exact .inr (.inr ⟨h1, h2, h3⟩)
              · exact absurd ⟨h1, h2, h3⟩ this
            · exact .inr (.inl ⟨h1, h2⟩)
          · exact .inl h1
        clear hX2
        generalize refC z24 [x] = rc at *
        obtain ⟨y, code⟩ := rc
        (try simp only at hways)
        rcases hways with hc | ⟨hc, hy⟩ | ⟨hc, hy, hv⟩
        · have e1 : (code == 99) = false := by simp [hc]
          have HC := Aside0.mk hc
          clear hc
          go_wp2_with fail
          go_roundw
          case rel => exact ⟨j + 1, by go_num, by go_num, by omega, by first | exact HT.out.below (below_alloc (Below.refl _ _) _) | exact HT.out⟩
          case measure => simp [intOf]; omega
        · have e1 : (code == 99) = true := by simp [hc]
          have e2 := eq14_no hy
          simp only [z24] at e2
          have HC := Aside0.mk (And.intro hc hy)
          clear hc hy
          go_wp2_with fail
          go_roundw
          case rel => exact ⟨j + 1, by go_num, by go_num, by omega, by first | exact HT.out.below (below_alloc (Below.refl _ _) _) | exact HT.out⟩
          case measure => simp [intOf]; omega
        · have e1 : (code == 99) = true := by simp [hc]
          have e2 := eq14_yes hy
          simp only [z24] at e2
          have e3 : (x.f1 != 0) = false := by simp [hv]
          have HC := Aside0.mk (And.intro hc (And.intro hy hv))
          clear hc hy hv
          go_wp2_with fail
          go_roundw
          case rel => exact ⟨j + 1, by go_num, by go_num, by omega, by first | exact HT.out.below (below_alloc (Below.refl _ _) _) | exact HT.out⟩
          case measure => simp [intOf]; omega
    · obtain rfl : j = (tellL (tellRows a b)).length := by omega
      have cx0 : wr.cell? ⟨w.heap.size, 0, none⟩ = some (.int .u32 a.f0) := (blk_cell HT.out.t.x 0).trans rfl
      have cx1 : wr.cell? ⟨w.heap.size, 1, none⟩ = some (.bool a.f1) := (blk_cell HT.out.t.x 1).trans rfl
      have cx2 : wr.cell? ⟨w.heap.size, 2, none⟩ = some (.int .u32 a.f2) := (blk_cell HT.out.t.x 2).trans rfl
      have cx3 : wr.cell? ⟨w.heap.size, 3, none⟩ = some (.int .u32 a.f3) := (blk_cell HT.out.t.x 3).trans rfl
      have cx4 : wr.cell? ⟨w.heap.size, 4, none⟩ = some (.int .u32 a.f4) := (blk_cell HT.out.t.x 4).trans rfl
      have cx5 : wr.cell? ⟨w.heap.size, 5, none⟩ = some (.int .u32 a.f5) := (blk_cell HT.out.t.x 5).trans rfl
      have cx6 : wr.cell? ⟨w.heap.size, 6, none⟩ = some (.bool a.f6) := (blk_cell HT.out.t.x 6).trans rfl
      have lx := blk_lt HT.out.t.x
      have cy0 : wr.cell? ⟨w.heap.size + 1, 0, none⟩ = some (.int .u32 b.f0) := (blk_cell HT.out.t.y 0).trans rfl
      have cy1 : wr.cell? ⟨w.heap.size + 1, 1, none⟩ = some (.bool b.f1) := (blk_cell HT.out.t.y 1).trans rfl
      have cy2 : wr.cell? ⟨w.heap.size + 1, 2, none⟩ = some (.int .u32 b.f2) := (blk_cell HT.out.t.y 2).trans rfl
      have cy3 : wr.cell? ⟨w.heap.size + 1, 3, none⟩ = some (.int .u32 b.f3) := (blk_cell HT.out.t.y 3).trans rfl
      have cy4 : wr.cell? ⟨w.heap.size + 1, 4, none⟩ = some (.int .u32 b.f4) := (blk_cell HT.out.t.y 4).trans rfl
      have cy5 : wr.cell? ⟨w.heap.size + 1, 5, none⟩ = some (.int .u32 b.f5) := (blk_cell HT.out.t.y 5).trans rfl
      have cy6 : wr.cell? ⟨w.heap.size + 1, 6, none⟩ = some (.bool b.f6) := (blk_cell HT.out.t.y 6).trans rfl
      have ly := blk_lt HT.out.t.y
      have cz0 : wr.cell? ⟨wT.heap.size, 0, none⟩ = some (.int .u32 a.f0) := (blk_cell HT.out.z 0).trans rfl
      have cz1 : wr.cell? ⟨wT.heap.size, 1, none⟩ = some (.bool a.f1) := (blk_cell HT.out.z 1).trans rfl
      have cz2 : wr.cell? ⟨wT.heap.size, 2, none⟩ = some (.int .u32 a.f2) := (blk_cell HT.out.z 2).trans rfl
      have cz3 : wr.cell? ⟨wT.heap.size, 3, none⟩ = some (.int .u32 a.f3) := (blk_cell HT.out.z 3).trans rfl
      have cz4 : wr.cell? ⟨wT.heap.size, 4, none⟩ = some (.int .u32 a.f4) := (blk_cell HT.out.z 4).trans rfl
      have cz5 : wr.cell? ⟨wT.heap.size, 5, none⟩ = some (.int .u32 a.f5) := (blk_cell HT.out.z 5).trans rfl
      have cz6 : wr.cell? ⟨wT.heap.size, 6, none⟩ = some (.bool a.f6) := (blk_cell HT.out.z 6).trans rfl
      have lz := blk_lt HT.out.z
      have hways : ¬ (a.f3 ≤ 2147483647) ∨ (a.f3 ≤ 2147483647 ∧ ¬ (b.f3 ≤ 2147483647)) ∨ (a.f3 ≤ 2147483647 ∧ b.f3 ≤ 2147483647 ∧ ¬ (16384 ≤ b.f4)) ∨ (a.f3 ≤ 2147483647 ∧ b.f3 ≤ 2147483647 ∧ 16384 ≤ b.f4 ∧ ¬ (b.f4 < 16777216)) ∨ (a.f3 ≤ 2147483647 ∧ b.f3 ≤ 2147483647 ∧ 16384 ≤ b.f4 ∧ b.f4 < 16777216) := by omega
      rcases hways with k | k | k | k | k
      · have g0 : decide (a.f3 ≤ 2147483647) = false := decide_eq_false (by omega)
        have HK := Aside0.mk k
        clear k
        go_wp2_with fail
        refine (tell_any b b _).mono ?_
        rintro e w5 ⟨v, rfl, ho, hb⟩
        rw [(tell_none b b).2 rfl] at ho
        obtain ⟨A5, c5, rfl⟩ := Kd.R_slice ho
        clear cx0 cx1 cx2 cx3 cx4 cx5 cx6 cy0 cy1 cy2 cy3 cy4 cy5 cy6 cz0 cz1 cz2 cz3 cz4 cz5 cz6 lx ly lz
        replace HT := Aside0.mk (HT.out.below hb)
        clear hb ho
        go_wp2_with fail
        refine (louverlaw09_fixed.calls true _ rfl).mono ?_
        rintro e w6 ⟨rfl, hb⟩
        replace HT := Aside0.mk (HT.out.below hb)
        clear hb
        have cx0 : w6.cell? ⟨w.heap.size, 0, none⟩ = some (.int .u32 a.f0) := (blk_cell HT.out.t.x 0).trans rfl
        have cx1 : w6.cell? ⟨w.heap.size, 1, none⟩ = some (.bool a.f1) := (blk_cell HT.out.t.x 1).trans rfl
        have cx2 : w6.cell? ⟨w.heap.size, 2, none⟩ = some (.int .u32 a.f2) := (blk_cell HT.out.t.x 2).trans rfl
        have cx3 : w6.cell? ⟨w.heap.size, 3, none⟩ = some (.int .u32 a.f3) := (blk_cell HT.out.t.x 3).trans rfl
        have cx4 : w6.cell? ⟨w.heap.size, 4, none⟩ = some (.int .u32 a.f4) := (blk_cell HT.out.t.x 4).trans rfl
        have cx5 : w6.cell? ⟨w.heap.size, 5, none⟩ = some (.int .u32 a.f5) := (blk_cell HT.out.t.x 5).trans rfl
        have cx6 : w6.cell? ⟨w.heap.size, 6, none⟩ = some (.bool a.f6) := (blk_cell HT.out.t.x 6).trans rfl
        have lx := blk_lt HT.out.t.x
        have cy0 : w6.cell? ⟨w.heap.size + 1, 0, none⟩ = some (.int .u32 b.f0) := (blk_cell HT.out.t.y 0).trans rfl
        have cy1 : w6.cell? ⟨w.heap.size + 1, 1, none⟩ = some (.bool b.f1) := (blk_cell HT.out.t.y 1).trans rfl
        have cy2 : w6.cell? ⟨w.heap.size + 1, 2, none⟩ = some (.int .u32 b.f2) := (blk_cell HT.out.t.y 2).trans rfl
        have cy3 : w6.cell? ⟨w.heap.size + 1, 3, none⟩ = some (.int .u32 b.f3) := (blk_cell HT.out.t.y 3).trans rfl
        have cy4 : w6.cell? ⟨w.heap.size + 1, 4, none⟩ = some (.int .u32 b.f4) := (blk_cell HT.out.t.y 4).trans rfl
        have cy5 : w6.cell? ⟨w.heap.size + 1, 5, none⟩ = some (.int .u32 b.f5) := (blk_cell HT.out.t.y 5).trans rfl
        have cy6 : w6.cell? ⟨w.heap.size + 1, 6, none⟩ = some (.bool b.f6) := (blk_cell HT.out.t.y 6).trans rfl
        have ly := blk_lt HT.out.t.y
        have cz0 : w6.cell? ⟨wT.heap.size, 0, none⟩ = some (.int .u32 a.f0) := (blk_cell HT.out.z 0).trans rfl
        have cz1 : w6.cell? ⟨wT.heap.size, 1, none⟩ = some (.bool a.f1) := (blk_cell HT.out.z 1).trans rfl
        have cz2 : w6.cell? ⟨wT.heap.size, 2, none⟩ = some (.int .u32 a.f2) := (blk_cell HT.out.z 2).trans rfl
        have cz3 : w6.cell? ⟨wT.heap.size, 3, none⟩ = some (.int .u32 a.f3) := (blk_cell HT.out.z 3).trans rfl
        have cz4 : w6.cell? ⟨wT.heap.size, 4, none⟩ = some (.int .u32 a.f4) := (blk_cell HT.out.z 4).trans rfl
        have cz5 : w6.cell? ⟨wT.heap.size, 5, none⟩ = some (.int .u32 a.f5) := (blk_cell HT.out.z 5).trans rfl
        have cz6 : w6.cell? ⟨wT.heap.size, 6, none⟩ = some (.bool a.f6) := (blk_cell HT.out.z 6).trans rfl
        have lz := blk_lt HT.out.z
        have hn7 : decide (((tellL (tellRows a b)).length : Int) ≤ 7) = true := decide_eq_true (by omega)
        by_cases hab : a = b
        · have e1 := eq14_yes hab
          have e2 : (((tellL (tellRows a b)).length : Int) == 0) = true := by rw [HN.out.2 hab]; rfl
          have HAB := Aside0.mk hab
          clear hab
          go_wp2_with fail
          go_ret
          exact ⟨rfl, HT.out.t.bel⟩
        · have e1 := eq14_no hab
          have e2 : (((tellL (tellRows a b)).length : Int) == 0) = false := by
            have h0 : ¬ (tellL (tellRows a b)).length = 0 := fun h => hab (HN.out.1 (List.eq_nil_of_length_eq_zero h))
            exact beq_eq_false_iff_ne.mpr (by omega)
          have HAB := Aside0.mk hab
          clear hab
          go_wp2_with fail
          go_ret
          exact ⟨rfl, HT.out.t.bel⟩
      · have g0 : decide (a.f3 ≤ 2147483647) = true := decide_eq_true (by omega)
        have g1 : decide (b.f3 ≤ 2147483647) = false := decide_eq_false (by omega)
        have HK := Aside0.mk k
        clear k
        go_wp2_with fail
        refine (tell_any b b _).mono ?_
        rintro e w5 ⟨v, rfl, ho, hb⟩
        rw [(tell_none b b).2 rfl] at ho
        obtain ⟨A5, c5, rfl⟩ := Kd.R_slice ho
        clear cx0 cx1 cx2 cx3 cx4 cx5 cx6 cy0 cy1 cy2 cy3 cy4 cy5 cy6 cz0 cz1 cz2 cz3 cz4 cz5 cz6 lx ly lz
        replace HT := Aside0.mk (HT.out.below hb)
        clear hb ho
        go_wp2_with fail
        refine (louverlaw09_fixed.calls true _ rfl).mono ?_
        rintro e w6 ⟨rfl, hb⟩
        replace HT := Aside0.mk (HT.out.below hb)
        clear hb
        have cx0 : w6.cell? ⟨w.heap.size, 0, none⟩ = some (.int .u32 a.f0) := (blk_cell HT.out.t.x 0).trans rfl
        have cx1 : w6.cell? ⟨w.heap.size, 1, none⟩ = some (.bool a.f1) := (blk_cell HT.out.t.x 1).trans rfl
        have cx2 : w6.cell? ⟨w.heap.size, 2, none⟩ = some (.int .u32 a.f2) := (blk_cell HT.out.t.x 2).trans rfl
        have cx3 : w6.cell? ⟨w.heap.size, 3, none⟩ = some (.int .u32 a.f3) := (blk_cell HT.out.t.x 3).trans rfl
        have cx4 : w6.cell? ⟨w.heap.size, 4, none⟩ = some (.int .u32 a.f4) := (blk_cell HT.out.t.x 4).trans rfl
        have cx5 : w6.cell? ⟨w.heap.size, 5, none⟩ = some (.int .u32 a.f5) := (blk_cell HT.out.t.x 5).trans rfl
        have cx6 : w6.cell? ⟨w.heap.size, 6, none⟩ = some (.bool a.f6) := (blk_cell HT.out.t.x 6).trans rfl
        have lx := blk_lt HT.out.t.x
        have cy0 : w6.cell? ⟨w.heap.size + 1, 0, none⟩ = some (.int .u32 b.f0) := (blk_cell HT.out.t.y 0).trans rfl
        have cy1 : w6.cell? ⟨w.heap.size + 1, 1, none⟩ = some (.bool b.f1) := (blk_cell HT.out.t.y 1).trans rfl
        have cy2 : w6.cell? ⟨w.heap.size + 1, 2, none⟩ = some (.int .u32 b.f2) := (blk_cell HT.out.t.y 2).trans rfl
        have cy3 : w6.cell? ⟨w.heap.size + 1, 3, none⟩ = some (.int .u32 b.f3) := (blk_cell HT.out.t.y 3).trans rfl
        have cy4 : w6.cell? ⟨w.heap.size + 1, 4, none⟩ = some (.int .u32 b.f4) := (blk_cell HT.out.t.y 4).trans rfl
        have cy5 : w6.cell? ⟨w.heap.size + 1, 5, none⟩ = some (.int .u32 b.f5) := (blk_cell HT.out.t.y 5).trans rfl
        have cy6 : w6.cell? ⟨w.heap.size + 1, 6, none⟩ = some (.bool b.f6) := (blk_cell HT.out.t.y 6).trans rfl
        have ly := blk_lt HT.out.t.y
        have cz0 : w6.cell? ⟨wT.heap.size, 0, none⟩ = some (.int .u32 a.f0) := (blk_cell HT.out.z 0).trans rfl
        have cz1 : w6.cell? ⟨wT.heap.size, 1, none⟩ = some (.bool a.f1) := (blk_cell HT.out.z 1).trans rfl
        have cz2 : w6.cell? ⟨wT.heap.size, 2, none⟩ = some (.int .u32 a.f2) := (blk_cell HT.out.z 2).trans rfl
        have cz3 : w6.cell? ⟨wT.heap.size, 3, none⟩ = some (.int .u32 a.f3) := (blk_cell HT.out.z 3).trans rfl
        have cz4 : w6.cell? ⟨wT.heap.size, 4, none⟩ = some (.int .u32 a.f4) := (blk_cell HT.out.z 4).trans rfl
        have cz5 : w6.cell? ⟨wT.heap.size, 5, none⟩ = some (.int .u32 a.f5) := (blk_cell HT.out.z 5).trans rfl
        have cz6 : w6.cell? ⟨wT.heap.size, 6, none⟩ = some (.bool a.f6) := (blk_cell HT.out.z 6).trans rfl
        have lz := blk_lt HT.out.z
        have hn7 : decide (((tellL (tellRows a b)).length : Int) ≤ 7) = true := decide_eq_true (by omega)
        by_cases hab : a = b
        · have e1 := eq14_yes hab
          have e2 : (((tellL (tellRows a b)).length : Int) == 0) = true := by rw [HN.out.2 hab]; rfl
          have HAB := Aside0.mk hab
          clear hab
          go_wp2_with fail
          go_ret
          exact ⟨rfl, HT.out.t.bel⟩
        · have e1 := eq14_no hab
          have e2 : (((tellL (tellRows a b)).length : Int) == 0) = false := by
            have h0 : ¬ (tellL (tellRows a b)).length = 0 := fun h => hab (HN.out.1 (List.eq_nil_of_length_eq_zero h))
            exact beq_eq_false_iff_ne.mpr (by omega)
          have HAB := Aside0.mk hab
          clear hab
          go_wp2_with fail
          go_ret
          exact ⟨rfl, HT.out.t.bel⟩
      · have g0 : decide (a.f3 ≤ 2147483647) = true := decide_eq_true (by omega)
        have g1 : decide (b.f3 ≤ 2147483647) = true := decide_eq_true (by omega)
        have g2 : decide (16384 ≤ b.f4) = false := decide_eq_false (by omega)
        have g2_ : decide (b.f4 ≥ 16384) = false := decide_eq_false (by omega)
        have HK := Aside0.mk k
        clear k
        go_wp2_with fail
        refine (tell_any b b _).mono ?_
        rintro e w5 ⟨v, rfl, ho, hb⟩
        rw [(tell_none b b).2 rfl] at ho
        obtain ⟨A5, c5, rfl⟩ := Kd.R_slice ho
        clear cx0 cx1 cx2 cx3 cx4 cx5 cx6 cy0 cy1 cy2 cy3 cy4 cy5 cy6 cz0 cz1 cz2 cz3 cz4 cz5 cz6 lx ly lz
        replace HT := Aside0.mk (HT.out.below hb)
        clear hb ho
        go_wp2_with fail
        refine (louverlaw09_fixed.calls true _ rfl).mono ?_
        rintro e w6 ⟨rfl, hb⟩
        replace HT := Aside0.mk (HT.out.below hb)
        clear hb
        have cx0 : w6.cell? ⟨w.heap.size, 0, none⟩ = some (.int .u32 a.f0) := (blk_cell HT.out.t.x 0).trans rfl
        have cx1 : w6.cell? ⟨w.heap.size, 1, none⟩ = some (.bool a.f1) := (blk_cell HT.out.t.x 1).trans rfl
        have cx2 : w6.cell? ⟨w.heap.size, 2, none⟩ = some (.int .u32 a.f2) := (blk_cell HT.out.t.x 2).trans rfl
        have cx3 : w6.cell? ⟨w.heap.size, 3, none⟩ = some (.int .u32 a.f3) := (blk_cell HT.out.t.x 3).trans rfl
        have cx4 : w6.cell? ⟨w.heap.size, 4, none⟩ = some (.int .u32 a.f4) := (blk_cell HT.out.t.x 4).trans rfl
        have cx5 : w6.cell? ⟨w.heap.size, 5, none⟩ = some (.int .u32 a.f5) := (blk_cell HT.out.t.x 5).trans rfl
        have cx6 : w6.cell? ⟨w.heap.size, 6, none⟩ = some (.bool a.f6) := (blk_cell HT.out.t.x 6).trans rfl
        have lx := blk_lt HT.out.t.x
        have cy0 : w6.cell? ⟨w.heap.size + 1, 0, none⟩ = some (.int .u32 b.f0) := (blk_cell HT.out.t.y 0).trans rfl
        have cy1 : w6.cell? ⟨w.heap.size + 1, 1, none⟩ = some (.bool b.f1) := (blk_cell HT.out.t.y 1).trans rfl
        have cy2 : w6.cell? ⟨w.heap.size + 1, 2, none⟩ = some (.int .u32 b.f2) := (blk_cell HT.out.t.y 2).trans rfl
        have cy3 : w6.cell? ⟨w.heap.size + 1, 3, none⟩ = some (.int .u32 b.f3) := (blk_cell HT.out.t.y 3).trans rfl
        have cy4 : w6.cell? ⟨w.heap.size + 1, 4, none⟩ = some (.int .u32 b.f4) := (blk_cell HT.out.t.y 4).trans rfl
        have cy5 : w6.cell? ⟨w.heap.size + 1, 5, none⟩ = some (.int .u32 b.f5) := (blk_cell HT.out.t.y 5).trans rfl
        have cy6 : w6.cell? ⟨w.heap.size + 1, 6, none⟩ = some (.bool b.f6) := (blk_cell HT.out.t.y 6).trans rfl
        have ly := blk_lt HT.out.t.y
        have cz0 : w6.cell? ⟨wT.heap.size, 0, none⟩ = some (.int .u32 a.f0) := (blk_cell HT.out.z 0).trans rfl
        have cz1 : w6.cell? ⟨wT.heap.size, 1, none⟩ = some (.bool a.f1) := (blk_cell HT.out.z 1).trans rfl
        have cz2 : w6.cell? ⟨wT.heap.size, 2, none⟩ = some (.int .u32 a.f2) := (blk_cell HT.out.z 2).trans rfl
        have cz3 : w6.cell? ⟨wT.heap.size, 3, none⟩ = some (.int .u32 a.f3) := (blk_cell HT.out.z 3).trans rfl
        have cz4 : w6.cell? ⟨wT.heap.size, 4, none⟩ = some (.int .u32 a.f4) := (blk_cell HT.out.z 4).trans rfl
        have cz5 : w6.cell? ⟨wT.heap.size, 5, none⟩ = some (.int .u32 a.f5) := (blk_cell HT.out.z 5).trans rfl
        have cz6 : w6.cell? ⟨wT.heap.size, 6, none⟩ = some (.bool a.f6) := (blk_cell HT.out.z 6).trans rfl
        have lz := blk_lt HT.out.z
        have hn7 : decide (((tellL (tellRows a b)).length : Int) ≤ 7) = true := decide_eq_true (by omega)
        by_cases hab : a = b
        · have e1 := eq14_yes hab
          have e2 : (((tellL (tellRows a b)).length : Int) == 0) = true := by rw [HN.out.2 hab]; rfl
          have HAB := Aside0.mk hab
          clear hab
          go_wp2_with fail
          go_ret
          exact ⟨rfl, HT.out.t.bel⟩
        · have e1 := eq14_no hab
          have e2 : (((tellL (tellRows a b)).length : Int) == 0) = false := by
            have h0 : ¬ (tellL (tellRows a b)).length = 0 := fun h => hab (HN.out.1 (List.eq_nil_of_length_eq_zero h))
            exact beq_eq_false_iff_ne.mpr (by omega)
          have HAB := Aside0.mk hab
          clear hab
          go_wp2_with fail
          go_ret
          exact ⟨rfl, HT.out.t.bel⟩
      · have g0 : decide (a.f3 ≤ 2147483647) = true := decide_eq_true (by omega)
        have g1 : decide (b.f3 ≤ 2147483647) = true := decide_eq_true (by omega)
        have g2 : decide (16384 ≤ b.f4) = true := decide_eq_true (by omega)
        have g2_ : decide (b.f4 ≥ 16384) = true := decide_eq_true (by omega)
        have g3 : decide (b.f4 < 16777216) = false := decide_eq_false (by omega)
        have HK := Aside0.mk k
        clear k
        go_wp2_with fail
        refine (tell_any b b _).mono ?_
        rintro e w5 ⟨v, rfl, ho, hb⟩
        rw [(tell_none b b).2 rfl] at ho
        obtain ⟨A5, c5, rfl⟩ := Kd.R_slice ho
        clear cx0 cx1 cx2 cx3 cx4 cx5 cx6 cy0 cy1 cy2 cy3 cy4 cy5 cy6 cz0 cz1 cz2 cz3 cz4 cz5 cz6 lx ly lz
        replace HT := Aside0.mk (HT.out.below hb)
        clear hb ho
        go_wp2_with fail
        refine (louverlaw09_fixed.calls true _ rfl).mono ?_
        rintro e w6 ⟨rfl, hb⟩
        replace HT := Aside0.mk (HT.out.below hb)
        clear hb
        have cx0 : w6.cell? ⟨w.heap.size, 0, none⟩ = some (.int .u32 a.f0) := (blk_cell HT.out.t.x 0).trans rfl
        have cx1 : w6.cell? ⟨w.heap.size, 1, none⟩ = some (.bool a.f1) := (blk_cell HT.out.t.x 1).trans rfl
        have cx2 : w6.cell? ⟨w.heap.size, 2, none⟩ = some (.int .u32 a.f2) := (blk_cell HT.out.t.x 2).trans rfl
        have cx3 : w6.cell? ⟨w.heap.size, 3, none⟩ = some (.int .u32 a.f3) := (blk_cell HT.out.t.x 3).trans rfl
        have cx4 : w6.cell? ⟨w.heap.size, 4, none⟩ = some (.int .u32 a.f4) := (blk_cell HT.out.t.x 4).trans rfl
        have cx5 : w6.cell? ⟨w.heap.size, 5, none⟩ = some (.int .u32 a.f5) := (blk_cell HT.out.t.x 5).trans rfl
        have cx6 : w6.cell? ⟨w.heap.size, 6, none⟩ = some (.bool a.f6) := (blk_cell HT.out.t.x 6).trans rfl
        have lx := blk_lt HT.out.t.x
        have cy0 : w6.cell? ⟨w.heap.size + 1, 0, none⟩ = some (.int .u32 b.f0) := (blk_cell HT.out.t.y 0).trans rfl
        have cy1 : w6.cell? ⟨w.heap.size + 1, 1, none⟩ = some (.bool b.f1) := (blk_cell HT.out.t.y 1).trans rfl
        have cy2 : w6.cell? ⟨w.heap.size + 1, 2, none⟩ = some (.int .u32 b.f2) := (blk_cell HT.out.t.y 2).trans rfl
        have cy3 : w6.cell? ⟨w.heap.size + 1, 3, none⟩ = some (.int .u32 b.f3) := (blk_cell HT.out.t.y 3).trans rfl
        have cy4 : w6.cell? ⟨w.heap.size + 1, 4, none⟩ = some (.int .u32 b.f4) := (blk_cell HT.out.t.y 4).trans rfl
        have cy5 : w6.cell? ⟨w.heap.size + 1, 5, none⟩ = some (.int .u32 b.f5) := (blk_cell HT.out.t.y 5).trans rfl
        have cy6 : w6.cell? ⟨w.heap.size + 1, 6, none⟩ = some (.bool b.f6) := (blk_cell HT.out.t.y 6).trans rfl
        have ly := blk_lt HT.out.t.y
        have cz0 : w6.cell? ⟨wT.heap.size, 0, none⟩ = some (.int .u32 a.f0) := (blk_cell HT.out.z 0).trans rfl
        have cz1 : w6.cell? ⟨wT.heap.size, 1, none⟩ = some (.bool a.f1) := (blk_cell HT.out.z 1).trans rfl
        have cz2 : w6.cell? ⟨wT.heap.size, 2, none⟩ = some (.int .u32 a.f2) := (blk_cell HT.out.z 2).trans rfl
        have cz3 : w6.cell? ⟨wT.heap.size, 3, none⟩ = some (.int .u32 a.f3) := (blk_cell HT.out.z 3).trans rfl
        have cz4 : w6.cell? ⟨wT.heap.size, 4, none⟩ = some (.int .u32 a.f4) := (blk_cell HT.out.z 4).trans rfl
        have cz5 : w6.cell? ⟨wT.heap.size, 5, none⟩ = some (.int .u32 a.f5) := (blk_cell HT.out.z 5).trans rfl
        have cz6 : w6.cell? ⟨wT.heap.size, 6, none⟩ = some (.bool a.f6) := (blk_cell HT.out.z 6).trans rfl
        have lz := blk_lt HT.out.z
        have hn7 : decide (((tellL (tellRows a b)).length : Int) ≤ 7) = true := decide_eq_true (by omega)
        by_cases hab : a = b
        · have e1 := eq14_yes hab
          have e2 : (((tellL (tellRows a b)).length : Int) == 0) = true := by rw [HN.out.2 hab]; rfl
          have HAB := Aside0.mk hab
          clear hab
          go_wp2_with fail
          go_ret
          exact ⟨rfl, HT.out.t.bel⟩
        · have e1 := eq14_no hab
          have e2 : (((tellL (tellRows a b)).length : Int) == 0) = false := by
            have h0 : ¬ (tellL (tellRows a b)).length = 0 := fun h => hab (HN.out.1 (List.eq_nil_of_length_eq_zero h))
            exact beq_eq_false_iff_ne.mpr (by omega)
          have HAB := Aside0.mk hab
          clear hab
          go_wp2_with fail
          go_ret
          exact ⟨rfl, HT.out.t.bel⟩
      · have g0 : decide (a.f3 ≤ 2147483647) = true := decide_eq_true (by omega)
        have g1 : decide (b.f3 ≤ 2147483647) = true := decide_eq_true (by omega)
        have g2 : decide (16384 ≤ b.f4) = true := decide_eq_true (by omega)
        have g2_ : decide (b.f4 ≥ 16384) = true := decide_eq_true (by omega)
        have g3 : decide (b.f4 < 16777216) = true := decide_eq_true (by omega)
        have HK := Aside0.mk k
        clear k
        rcases bool_ways b.f6 a.f6 with hf | ⟨hf, ha⟩ | ⟨hf, ha⟩
        · go_wp2_with fail
          refine ((louverref09_Apply.calls ((tellL (tellRows a b)).length + 2) a.f0 a.f1 a.f2 a.f3 a.f4 a.f5 a.f6 A c (tellL (tellRows a b)) b.f0 b.f1 b.f2 b.f3 b.f4 b.f5 b.f6 99 _ HT.out.row hlc (by rw [ref_apply a (tellL (tellRows a b)) (by omega) HO.out, HM.out HK.out.2.1 HK.out.2.2.1 (by have := HK.out.2.2.2; omega) (.inl hf)]))).mono ?_
          have HF := Aside0.mk hf
          clear hf
          rintro e w4 ⟨rfl, hb⟩
          clear cx0 cx1 cx2 cx3 cx4 cx5 cx6 cy0 cy1 cy2 cy3 cy4 cy5 cy6 cz0 cz1 cz2 cz3 cz4 cz5 cz6 lx ly lz
          replace HT := Aside0.mk (HT.out.below hb)
          clear hb
          have cx0 : w4.cell? ⟨w.heap.size, 0, none⟩ = some (.int .u32 a.f0) := (blk_cell HT.out.t.x 0).trans rfl
          have cx1 : w4.cell? ⟨w.heap.size, 1, none⟩ = some (.bool a.f1) := (blk_cell HT.out.t.x 1).trans rfl
          have cx2 : w4.cell? ⟨w.heap.size, 2, none⟩ = some (.int .u32 a.f2) := (blk_cell HT.out.t.x 2).trans rfl
          have cx3 : w4.cell? ⟨w.heap.size, 3, none⟩ = some (.int .u32 a.f3) := (blk_cell HT.out.t.x 3).trans rfl
          have cx4 : w4.cell? ⟨w.heap.size, 4, none⟩ = some (.int .u32 a.f4) := (blk_cell HT.out.t.x 4).trans rfl
          have cx5 : w4.cell? ⟨w.heap.size, 5, none⟩ = some (.int .u32 a.f5) := (blk_cell HT.out.t.x 5).trans rfl
          have cx6 : w4.cell? ⟨w.heap.size, 6, none⟩ = some (.bool a.f6) := (blk_cell HT.out.t.x 6).trans rfl
          have lx := blk_lt HT.out.t.x
          have cy0 : w4.cell? ⟨w.heap.size + 1, 0, none⟩ = some (.int .u32 b.f0) := (blk_cell HT.out.t.y 0).trans rfl
          have cy1 : w4.cell? ⟨w.heap.size + 1, 1, none⟩ = some (.bool b.f1) := (blk_cell HT.out.t.y 1).trans rfl
          have cy2 : w4.cell? ⟨w.heap.size + 1, 2, none⟩ = some (.int .u32 b.f2) := (blk_cell HT.out.t.y 2).trans rfl
          have cy3 : w4.cell? ⟨w.heap.size + 1, 3, none⟩ = some (.int .u32 b.f3) := (blk_cell HT.out.t.y 3).trans rfl
          have cy4 : w4.cell? ⟨w.heap.size + 1, 4, none⟩ = some (.int .u32 b.f4) := (blk_cell HT.out.t.y 4).trans rfl
          have cy5 : w4.cell? ⟨w.heap.size + 1, 5, none⟩ = some (.int .u32 b.f5) := (blk_cell HT.out.t.y 5).trans rfl
          have cy6 : w4.cell? ⟨w.heap.size + 1, 6, none⟩ = some (.bool b.f6) := (blk_cell HT.out.t.y 6).trans rfl
          have ly := blk_lt HT.out.t.y
          have cz0 : w4.cell? ⟨wT.heap.size, 0, none⟩ = some (.int .u32 a.f0) := (blk_cell HT.out.z 0).trans rfl
          have cz1 : w4.cell? ⟨wT.heap.size, 1, none⟩ = some (.bool a.f1) := (blk_cell HT.out.z 1).trans rfl
          have cz2 : w4.cell? ⟨wT.heap.size, 2, none⟩ = some (.int .u32 a.f2) := (blk_cell HT.out.z 2).trans rfl
          have cz3 : w4.cell? ⟨wT.heap.size, 3, none⟩ = some (.int .u32 a.f3) := (blk_cell HT.out.z 3).trans rfl
          have cz4 : w4.cell? ⟨wT.heap.size, 4, none⟩ = some (.int .u32 a.f4) := (blk_cell HT.out.z 4).trans rfl
          have cz5 : w4.cell? ⟨wT.heap.size, 5, none⟩ = some (.int .u32 a.f5) := (blk_cell HT.out.z 5).trans rfl
          have cz6 : w4.cell? ⟨wT.heap.size, 6, none⟩ = some (.bool a.f6) := (blk_cell HT.out.z 6).trans rfl
          have lz := blk_lt HT.out.z
          have e0 := eq14_yes (rfl : b = b)
          go_wp2_with fail
          refine (tell_any b b _).mono ?_
          rintro e w5 ⟨v, rfl, ho, hb⟩
          rw [(tell_none b b).2 rfl] at ho
          obtain ⟨A5, c5, rfl⟩ := Kd.R_slice ho
          clear cx0 cx1 cx2 cx3 cx4 cx5 cx6 cy0 cy1 cy2 cy3 cy4 cy5 cy6 cz0 cz1 cz2 cz3 cz4 cz5 cz6 lx ly lz
          replace HT := Aside0.mk ((HT.out.below (below_alloc (Below.refl _ _) _)).below hb)
          clear hb ho
          go_wp2_with fail
          refine (louverlaw09_fixed.calls true _ rfl).mono ?_
          rintro e w6 ⟨rfl, hb⟩
          replace HT := Aside0.mk (HT.out.below hb)
          clear hb
          have cx0 : w6.cell? ⟨w.heap.size, 0, none⟩ = some (.int .u32 a.f0) := (blk_cell HT.out.t.x 0).trans rfl
          have cx1 : w6.cell? ⟨w.heap.size, 1, none⟩ = some (.bool a.f1) := (blk_cell HT.out.t.x 1).trans rfl
          have cx2 : w6.cell? ⟨w.heap.size, 2, none⟩ = some (.int .u32 a.f2) := (blk_cell HT.out.t.x 2).trans rfl
          have cx3 : w6.cell? ⟨w.heap.size, 3, none⟩ = some (.int .u32 a.f3) := (blk_cell HT.out.t.x 3).trans rfl
          have cx4 : w6.cell? ⟨w.heap.size, 4, none⟩ = some (.int .u32 a.f4) := (blk_cell HT.out.t.x 4).trans rfl
          have cx5 : w6.cell? ⟨w.heap.size, 5, none⟩ = some (.int .u32 a.f5) := (blk_cell HT.out.t.x 5).trans rfl
          have cx6 : w6.cell? ⟨w.heap.size, 6, none⟩ = some (.bool a.f6) := (blk_cell HT.out.t.x 6).trans rfl
          have lx := blk_lt HT.out.t.x
          have cy0 : w6.cell? ⟨w.heap.size + 1, 0, none⟩ = some (.int .u32 b.f0) := (blk_cell HT.out.t.y 0).trans rfl
          have cy1 : w6.cell? ⟨w.heap.size + 1, 1, none⟩ = some (.bool b.f1) := (blk_cell HT.out.t.y 1).trans rfl
          have cy2 : w6.cell? ⟨w.heap.size + 1, 2, none⟩ = some (.int .u32 b.f2) := (blk_cell HT.out.t.y 2).trans rfl
          have cy3 : w6.cell? ⟨w.heap.size + 1, 3, none⟩ = some (.int .u32 b.f3) := (blk_cell HT.out.t.y 3).trans rfl
          have cy4 : w6.cell? ⟨w.heap.size + 1, 4, none⟩ = some (.int .u32 b.f4) := (blk_cell HT.out.t.y 4).trans rfl
          have cy5 : w6.cell? ⟨w.heap.size + 1, 5, none⟩ = some (.int .u32 b.f5) := (blk_cell HT.out.t.y 5).trans rfl
          have cy6 : w6.cell? ⟨w.heap.size + 1, 6, none⟩ = some (.bool b.f6) := (blk_cell HT.out.t.y 6).trans rfl
          have ly := blk_lt HT.out.t.y
          have cz0 : w6.cell? ⟨wT.heap.size, 0, none⟩ = some (.int .u32 a.f0) := (blk_cell HT.out.z 0).trans rfl
          have cz1 : w6.cell? ⟨wT.heap.size, 1, none⟩ = some (.bool a.f1) := (blk_cell HT.out.z 1).trans rfl
          have cz2 : w6.cell? ⟨wT.heap.size, 2, none⟩ = some (.int .u32 a.f2) := (blk_cell HT.out.z 2).trans rfl
          have cz3 : w6.cell? ⟨wT.heap.size, 3, none⟩ = some (.int .u32 a.f3) := (blk_cell HT.out.z 3).trans rfl
          have cz4 : w6.cell? ⟨wT.heap.size, 4, none⟩ = some (.int .u32 a.f4) := (blk_cell HT.out.z 4).trans rfl
          have cz5 : w6.cell? ⟨wT.heap.size, 5, none⟩ = some (.int .u32 a.f5) := (blk_cell HT.out.z 5).trans rfl
          have cz6 : w6.cell? ⟨wT.heap.size, 6, none⟩ = some (.bool a.f6) := (blk_cell HT.out.z 6).trans rfl
          have lz := blk_lt HT.out.z
          have hn7 : decide (((tellL (tellRows a b)).length : Int) ≤ 7) = true := decide_eq_true (by omega)
          by_cases hab : a = b
          · have e1 := eq14_yes hab
            have e2 : (((tellL (tellRows a b)).length : Int) == 0) = true := by rw [HN.out.2 hab]; rfl
            have HAB := Aside0.mk hab
            clear hab
            go_wp2_with fail
            go_ret
            exact ⟨rfl, HT.out.t.bel⟩
          · have e1 := eq14_no hab
            have e2 : (((tellL (tellRows a b)).length : Int) == 0) = false := by
              have h0 : ¬ (tellL (tellRows a b)).length = 0 := fun h => hab (HN.out.1 (List.eq_nil_of_length_eq_zero h))
              exact beq_eq_false_iff_ne.mpr (by omega)
            have HAB := Aside0.mk hab
            clear hab
            go_wp2_with fail
            go_ret
            exact ⟨rfl, HT.out.t.bel⟩
        · go_wp2_with fail
          refine (calls_of_args (by rw [ha]) (louverref09_Apply.calls ((tellL (tellRows a b)).length + 2) a.f0 a.f1 a.f2 a.f3 a.f4 a.f5 a.f6 A c (tellL (tellRows a b)) b.f0 b.f1 b.f2 b.f3 b.f4 b.f5 b.f6 99 _ HT.out.row hlc (by rw [ref_apply a (tellL (tellRows a b)) (by omega) HO.out, HM.out HK.out.2.1 HK.out.2.2.1 (by have := HK.out.2.2.2; omega) (.inr ha)]))).mono ?_
          have HF := Aside0.mk (And.intro hf ha)
          clear hf ha
          rintro e w4 ⟨rfl, hb⟩
          clear cx0 cx1 cx2 cx3 cx4 cx5 cx6 cy0 cy1 cy2 cy3 cy4 cy5 cy6 cz0 cz1 cz2 cz3 cz4 cz5 cz6 lx ly lz
          replace HT := Aside0.mk (HT.out.below hb)
          clear hb
          have cx0 : w4.cell? ⟨w.heap.size, 0, none⟩ = some (.int .u32 a.f0) := (blk_cell HT.out.t.x 0).trans rfl
          have cx1 : w4.cell? ⟨w.heap.size, 1, none⟩ = some (.bool a.f1) := (blk_cell HT.out.t.x 1).trans rfl
          have cx2 : w4.cell? ⟨w.heap.size, 2, none⟩ = some (.int .u32 a.f2) := (blk_cell HT.out.t.x 2).trans rfl
          have cx3 : w4.cell? ⟨w.heap.size, 3, none⟩ = some (.int .u32 a.f3) := (blk_cell HT.out.t.x 3).trans rfl
          have cx4 : w4.cell? ⟨w.heap.size, 4, none⟩ = some (.int .u32 a.f4) := (blk_cell HT.out.t.x 4).trans rfl
          have cx5 : w4.cell? ⟨w.heap.size, 5, none⟩ = some (.int .u32 a.f5) := (blk_cell HT.out.t.x 5).trans rfl
          have cx6 : w4.cell? ⟨w.heap.size, 6, none⟩ = some (.bool a.f6) := (blk_cell HT.out.t.x 6).trans rfl
          have lx := blk_lt HT.out.t.x
          have cy0 : w4.cell? ⟨w.heap.size + 1, 0, none⟩ = some (.int .u32 b.f0) := (blk_cell HT.out.t.y 0).trans rfl
          have cy1 : w4.cell? ⟨w.heap.size + 1, 1, none⟩ = some (.bool b.f1) := (blk_cell HT.out.t.y 1).trans rfl
          have cy2 : w4.cell? ⟨w.heap.size + 1, 2, none⟩ = some (.int .u32 b.f2) := (blk_cell HT.out.t.y 2).trans rfl
          have cy3 : w4.cell? ⟨w.heap.size + 1, 3, none⟩ = some (.int .u32 b.f3) := (blk_cell HT.out.t.y 3).trans rfl
          have cy4 : w4.cell? ⟨w.heap.size + 1, 4, none⟩ = some (.int .u32 b.f4) := (blk_cell HT.out.t.y 4).trans rfl
          have cy5 : w4.cell? ⟨w.heap.size + 1, 5, none⟩ = some (.int .u32 b.f5) := (blk_cell HT.out.t.y 5).trans rfl
          have cy6 : w4.cell? ⟨w.heap.size + 1, 6, none⟩ = some (.bool b.f6) := (blk_cell HT.out.t.y 6).trans rfl
          have ly := blk_lt HT.out.t.y
          have cz0 : w4.cell? ⟨wT.heap.size, 0, none⟩ = some (.int .u32 a.f0) := (blk_cell HT.out.z 0).trans rfl
          have cz1 : w4.cell? ⟨wT.heap.size, 1, none⟩ = some (.bool a.f1) := (blk_cell HT.out.z 1).trans rfl
          have cz2 : w4.cell? ⟨wT.heap.size, 2, none⟩ = some (.int .u32 a.f2) := (blk_cell HT.out.z 2).trans rfl
          have cz3 : w4.cell? ⟨wT.heap.size, 3, none⟩ = some (.int .u32 a.f3) := (blk_cell HT.out.z 3).trans rfl
          have cz4 : w4.cell? ⟨wT.heap.size, 4, none⟩ = some (.int .u32 a.f4) := (blk_cell HT.out.z 4).trans rfl
          have cz5 : w4.cell? ⟨wT.heap.size, 5, none⟩ = some (.int .u32 a.f5) := (blk_cell HT.out.z 5).trans rfl
          have cz6 : w4.cell? ⟨wT.heap.size, 6, none⟩ = some (.bool a.f6) := (blk_cell HT.out.z 6).trans rfl
          have lz := blk_lt HT.out.z
          have e0 := eq14_yes (rfl : b = b)
          go_wp2_with fail
          refine (tell_any b b _).mono ?_
          rintro e w5 ⟨v, rfl, ho, hb⟩
          rw [(tell_none b b).2 rfl] at ho
          obtain ⟨A5, c5, rfl⟩ := Kd.R_slice ho
          clear cx0 cx1 cx2 cx3 cx4 cx5 cx6 cy0 cy1 cy2 cy3 cy4 cy5 cy6 cz0 cz1 cz2 cz3 cz4 cz5 cz6 lx ly lz
          replace HT := Aside0.mk ((HT.out.below (below_alloc (Below.refl _ _) _)).below hb)
          clear hb ho
          go_wp2_with fail
          refine (louverlaw09_fixed.calls true _ rfl).mono ?_
          rintro e w6 ⟨rfl, hb⟩
          replace HT := Aside0.mk (HT.out.below hb)
          clear hb
          have cx0 : w6.cell? ⟨w.heap.size, 0, none⟩ = some (.int .u32 a.f0) := (blk_cell HT.out.t.x 0).trans rfl
          have cx1 : w6.cell? ⟨w.heap.size, 1, none⟩ = some (.bool a.f1) := (blk_cell HT.out.t.x 1).trans rfl
          have cx2 : w6.cell? ⟨w.heap.size, 2, none⟩ = some (.int .u32 a.f2) := (blk_cell HT.out.t.x 2).trans rfl
          have cx3 : w6.cell? ⟨w.heap.size, 3, none⟩ = some (.int .u32 a.f3) := (blk_cell HT.out.t.x 3).trans rfl
          have cx4 : w6.cell? ⟨w.heap.size, 4, none⟩ = some (.int .u32 a.f4) := (blk_cell HT.out.t.x 4).trans rfl
          have cx5 : w6.cell? ⟨w.heap.size, 5, none⟩ = some (.int .u32 a.f5) := (blk_cell HT.out.t.x 5).trans rfl
          have cx6 : w6.cell? ⟨w.heap.size, 6, none⟩ = some (.bool a.f6) := (blk_cell HT.out.t.x 6).trans rfl
          have lx := blk_lt HT.out.t.x
          have cy0 : w6.cell? ⟨w.heap.size + 1, 0, none⟩ = some (.int .u32 b.f0) := (blk_cell HT.out.t.y 0).trans rfl
          have cy1 : w6.cell? ⟨w.heap.size + 1, 1, none⟩ = some (.bool b.f1) := (blk_cell HT.out.t.y 1).trans rfl
          have cy2 : w6.cell? ⟨w.heap.size + 1, 2, none⟩ = some (.int .u32 b.f2) := (blk_cell HT.out.t.y 2).trans rfl
          have cy3 : w6.cell? ⟨w.heap.size + 1, 3, none⟩ = some (.int .u32 b.f3) := (blk_cell HT.out.t.y 3).trans rfl
          have cy4 : w6.cell? ⟨w.heap.size + 1, 4, none⟩ = some (.int .u32 b.f4) := (blk_cell HT.out.t.y 4).trans rfl
          have cy5 : w6.cell? ⟨w.heap.size + 1, 5, none⟩ = some (.int .u32 b.f5) := (blk_cell HT.out.t.y 5).trans rfl
          have cy6 : w6.cell? ⟨w.heap.size + 1, 6, none⟩ = some (.bool b.f6) := (blk_cell HT.out.t.y 6).trans rfl
          have ly := blk_lt HT.out.t.y
          have cz0 : w6.cell? ⟨wT.heap.size, 0, none⟩ = some (.int .u32 a.f0) := (blk_cell HT.out.z 0).trans rfl
          have cz1 : w6.cell? ⟨wT.heap.size, 1, none⟩ = some (.bool a.f1) := (blk_cell HT.out.z 1).trans rfl
          have cz2 : w6.cell? ⟨wT.heap.size, 2, none⟩ = some (.int .u32 a.f2) := (blk_cell HT.out.z 2).trans rfl
          have cz3 : w6.cell? ⟨wT.heap.size, 3, none⟩ = some (.int .u32 a.f3) := (blk_cell HT.out.z 3).trans rfl
          have cz4 : w6.cell? ⟨wT.heap.size, 4, none⟩ = some (.int .u32 a.f4) := (blk_cell HT.out.z 4).trans rfl
          have cz5 : w6.cell? ⟨wT.heap.size, 5, none⟩ = some (.int .u32 a.f5) := (blk_cell HT.out.z 5).trans rfl
          have cz6 : w6.cell? ⟨wT.heap.size, 6, none⟩ = some (.bool a.f6) := (blk_cell HT.out.z 6).trans rfl
          have lz := blk_lt HT.out.z
          have hn7 : decide (((tellL (tellRows a b)).length : Int) ≤ 7) = true := decide_eq_true (by omega)
          by_cases hab : a = b
          · have e1 := eq14_yes hab
            have e2 : (((tellL (tellRows a b)).length : Int) == 0) = true := by rw [HN.out.2 hab]; rfl
            have HAB := Aside0.mk hab
            clear hab
            go_wp2_with fail
            go_ret
            exact ⟨rfl, HT.out.t.bel⟩
          · have e1 := eq14_no hab
            have e2 : (((tellL (tellRows a b)).length : Int) == 0) = false := by
              have h0 : ¬ (tellL (tellRows a b)).length = 0 := fun h => hab (HN.out.1 (List.eq_nil_of_length_eq_zero h))
              exact beq_eq_false_iff_ne.mpr (by omega)
            have HAB := Aside0.mk hab
            clear hab
            go_wp2_with fail
            go_ret
            exact ⟨rfl, HT.out.t.bel⟩
        · go_wp2_with fail
          refine (calls_of_args (by unfold cellsS; rw [hf]) (tell_any b b _)).mono ?_
          have HF := Aside0.mk (And.intro hf ha)
          clear hf ha
          rintro e w5 ⟨v, rfl, ho, hb⟩
          rw [(tell_none b b).2 rfl] at ho
          obtain ⟨A5, c5, rfl⟩ := Kd.R_slice ho
          clear cx0 cx1 cx2 cx3 cx4 cx5 cx6 cy0 cy1 cy2 cy3 cy4 cy5 cy6 cz0 cz1 cz2 cz3 cz4 cz5 cz6 lx ly lz
          replace HT := Aside0.mk (HT.out.below hb)
          clear hb ho
          go_wp2_with fail
          refine (louverlaw09_fixed.calls true _ rfl).mono ?_
          rintro e w6 ⟨rfl, hb⟩
          replace HT := Aside0.mk (HT.out.below hb)
          clear hb
          have cx0 : w6.cell? ⟨w.heap.size, 0, none⟩ = some (.int .u32 a.f0) := (blk_cell HT.out.t.x 0).trans rfl
          have cx1 : w6.cell? ⟨w.heap.size, 1, none⟩ = some (.bool a.f1) := (blk_cell HT.out.t.x 1).trans rfl
          have cx2 : w6.cell? ⟨w.heap.size, 2, none⟩ = some (.int .u32 a.f2) := (blk_cell HT.out.t.x 2).trans rfl
          have cx3 : w6.cell? ⟨w.heap.size, 3, none⟩ = some (.int .u32 a.f3) := (blk_cell HT.out.t.x 3).trans rfl
          have cx4 : w6.cell? ⟨w.heap.size, 4, none⟩ = some (.int .u32 a.f4) := (blk_cell HT.out.t.x 4).trans rfl
          have cx5 : w6.cell? ⟨w.heap.size, 5, none⟩ = some (.int .u32 a.f5) := (blk_cell HT.out.t.x 5).trans rfl
          have cx6 : w6.cell? ⟨w.heap.size, 6, none⟩ = some (.bool a.f6) := (blk_cell HT.out.t.x 6).trans rfl
          have lx := blk_lt HT.out.t.x
          have cy0 : w6.cell? ⟨w.heap.size + 1, 0, none⟩ = some (.int .u32 b.f0) := (blk_cell HT.out.t.y 0).trans rfl
          have cy1 : w6.cell? ⟨w.heap.size + 1, 1, none⟩ = some (.bool b.f1) := (blk_cell HT.out.t.y 1).trans rfl
          have cy2 : w6.cell? ⟨w.heap.size + 1, 2, none⟩ = some (.int .u32 b.f2) := (blk_cell HT.out.t.y 2).trans rfl
          have cy3 : w6.cell? ⟨w.heap.size + 1, 3, none⟩ = some (.int .u32 b.f3) := (blk_cell HT.out.t.y 3).trans rfl
          have cy4 : w6.cell? ⟨w.heap.size + 1, 4, none⟩ = some (.int .u32 b.f4) := (blk_cell HT.out.t.y 4).trans rfl
          have cy5 : w6.cell? ⟨w.heap.size + 1, 5, none⟩ = some (.int .u32 b.f5) := (blk_cell HT.out.t.y 5).trans rfl
          have cy6 : w6.cell? ⟨w.heap.size + 1, 6, none⟩ = some (.bool b.f6) := (blk_cell HT.out.t.y 6).trans rfl
          have ly := blk_lt HT.out.t.y
          have cz0 : w6.cell? ⟨wT.heap.size, 0, none⟩ = some (.int .u32 a.f0) := (blk_cell HT.out.z 0).trans rfl
          have cz1 : w6.cell? ⟨wT.heap.size, 1, none⟩ = some (.bool a.f1) := (blk_cell HT.out.z 1).trans rfl
          have cz2 : w6.cell? ⟨wT.heap.size, 2, none⟩ = some (.int .u32 a.f2) := (blk_cell HT.out.z 2).trans rfl
          have cz3 : w6.cell? ⟨wT.heap.size, 3, none⟩ = some (.int .u32 a.f3) := (blk_cell HT.out.z 3).trans rfl
          have cz4 : w6.cell? ⟨wT.heap.size, 4, none⟩ = some (.int .u32 a.f4) := (blk_cell HT.out.z 4).trans rfl
          have cz5 : w6.cell? ⟨wT.heap.size, 5, none⟩ = some (.int .u32 a.f5) := (blk_cell HT.out.z 5).trans rfl
          have cz6 : w6.cell? ⟨wT.heap.size, 6, none⟩ = some (.bool a.f6) := (blk_cell HT.out.z 6).trans rfl
          have lz := blk_lt HT.out.z
          have hn7 : decide (((tellL (tellRows a b)).length : Int) ≤ 7) = true := decide_eq_true (by omega)
          by_cases hab : a = b
          · have e1 := eq14_yes hab
            have e2 : (((tellL (tellRows a b)).length : Int) == 0) = true := by rw [HN.out.2 hab]; rfl
            have HAB := Aside0.mk hab
            clear hab
            go_wp2_with fail
            go_ret
            exact ⟨rfl, HT.out.t.bel⟩
          · have e1 := eq14_no hab
            have e2 : (((tellL (tellRows a b)).length : Int) == 0) = false := by
              have h0 : ¬ (tellL (tellRows a b)).length = 0 := fun h => hab (HN.out.1 (List.eq_nil_of_length_eq_zero h))
              exact beq_eq_false_iff_ne.mpr (by omega)
            have HAB := Aside0.mk hab
            clear hab
            go_wp2_with fail
            go_ret
            exact ⟨rfl, HT.out.t.bel⟩
theorem fine_of {x : S24} (o0 : ((Lit.int .u32 x.f0).wf = true) ∧ (True) ∧ ((Lit.int .u32 x.f2).wf = true) ∧ ((Lit.int .u32 x.f3).wf = true) ∧ ((Lit.int .u32 x.f4).wf = true) ∧ ((Lit.int .u32 x.f5).wf = true) ∧ (True)) : Fine x := by
  simp [Lit.wf, IntKind.min, IntKind.max, IntKind.signed, IntKind.bits] at o0
  exact ⟨by omega, by omega, by omega, by omega, by omega⟩
theorem Pure.SettingsTell : Says.SettingsTell := by
  intro c0 x0 c1 x1 w r0 o0 r1 o1
  obtain rfl := k24_open r0
  obtain rfl := k24_open r1
  exact telllaw_any x0 x1 (fine_of o1) w
end Go.Proofs.Ytehdljgbbaibcaa
