/- Any bytes, cut into any pieces, are bad at the same byte as the document says, or a text: for all byte slices and sizes. -/
import Derived.Test.YtdoaipefnpkomaaPAllx4
import Derived.Test.YtdoaipefnpkomaaUtf1
import Derived.Test.YtdoaipefnpkomaaGood3
namespace Go.Proofs.Ytdoaipefnpkomaa.Pure
open Go.RowKit Go.Proofs.Ytdoaipefnpkomaa.PAll Go.Proofs.YtdoaipefnpkomaaW.PrintWords Go.Proofs.YtdoaipefnpkomaaW.PrintLast Go.Proofs.YtdoaipefnpkomaaW.PrintMore Go.Proofs.Ytdoaipefnpkomaa.U
attribute [local go_sem] max2_int min2_int max_two min_two
set_option linter.unusedVariables false

theorem feeds_step (l : List Int) (p K : Nat) (h : p + K ≤ l.length) (hg : (feedC s0 (l.take p)).2.2 = false) :
    (feedC (feedC s0 (l.take p)).2.1 ((l.drop p).take K)).2.2 = decide ((feedC s0 l).1 < p + K) ∧ (feedC (feedC s0 (l.take p)).2.1 ((l.drop p).take K)).1 = min K ((feedC s0 l).1 - p) ∧ p ≤ (feedC s0 l).1 ∧
    (feedC s0 (l.take (p + K))).2 = (feedC (feedC s0 (l.take p)).2.1 ((l.drop p).take K)).2 := by
  have e1 : l.take (p + K) = l.take p ++ (l.drop p).take K := by rw [List.take_add]
  have e2 : l = l.take p ++ ((l.drop p).take K ++ l.drop (p + K)) := by
    rw [← List.drop_drop, List.take_append_drop, List.take_append_drop]
  have hlp : (l.take p).length = p := by rw [List.length_take]; omega
  have hlK : ((l.drop p).take K).length = K := by rw [List.length_take, List.length_drop]; omega
  have ha := feedC_append_good hg ((l.drop p).take K)
  rw [← e1] at ha
  have hb := feedC_append_good hg ((l.drop p).take K ++ l.drop (p + K))
  rw [← e2, hlp] at hb
  generalize (feedC s0 (l.take p)).2.1 = st at *
  have hc := feedC_append st ((l.drop p).take K) (l.drop (p + K))
  have hall := feedC_all st ((l.drop p).take K)
  have hle := feedC_le st ((l.drop p).take K)
  generalize (l.drop p).take K = q at *
  rw [ha]
  cases hq : (feedC st q).2.2 with
  | true =>
    rw [if_pos hq] at hc
    rw [hc] at hb
    have h1 : (feedC s0 l).1 = p + (feedC st q).1 := by rw [hb]
    have h2 : (feedC st q).1 < K := by
      have : (feedC st q).1 ≠ q.length := fun e => by rw [hall.2 e] at hq; exact absurd hq (by decide)
      omega
    rw [h1]
    refine ⟨?_, by omega, by omega, rfl⟩
    rw [decide_eq_true (by omega)]
  | false =>
    rw [if_neg (by rw [hq]; decide)] at hc
    rw [hc] at hb
    have h0 := hall.1 hq
    have h1 : (feedC s0 l).1 = p + ((feedC st q).1 + (feedC (feedC st q).2.1 (l.drop (p + K))).1) := by rw [hb]
    rw [h1]
    refine ⟨?_, by omega, by omega, rfl⟩
    rw [decide_eq_false (by omega)]
theorem feeds_bad (l : List Int) (p K : Nat) (hg : (feedC s0 (l.take p)).2.2 = true) : (feedC s0 (l.take (p + K))).2.2 = true := by
  rw [List.take_add, feedC_append_bad hg]; exact hg

/-- What the loop knows at its head. -/
def Feeds (l0 l1 : List Int) (w : World) (g : Nat) (v n i : Value) (wr : World) : Prop :=
  ∃ (p j c' : Nat) (A' : Option Addr) (m lo hi : Int) (bad : Bool), v = .slice A' (l0.drop p).length c' ∧ n = .int .i64 (p : Int) ∧ i = .int .i64 (j : Int) ∧ p ≤ l0.length ∧ j ≤ l1.length + 1 ∧ (l1.length < j → p = l0.length) ∧
    (Kd.int .u8).C w A' (l0.drop p).length (l0.drop p) ∧ (l0.drop p).length ≤ c' ∧ IsS37 w wr g m lo hi bad ∧ Below w.heap.size w wr ∧
    bad = (feedC s0 (l0.take p)).2.2 ∧ (bad = false → (m, lo, hi) = (feedC s0 (l0.take p)).2.1)

set_option maxHeartbeats 4000000 in
set_option maxRecDepth 100000 in
theorem UtfFeeds : louverlaw15_UtfFeeds.Pure := by
  intro a0 len0 cap0 z0 a1 len1 cap1 z1 w w0 y0 w1 y1
  obtain ⟨l0, rfl, hr0, hm0, hw0, hc0⟩ := ReadsInt.ofRowC w0
  obtain ⟨l1, rfl, hr1, hm1, hw1, hc1⟩ := ReadsInt.ofRowC w1
  clear w0 w1
  by_cases b0 : 3000 < l0.length
  · go_enter Try.func4, Try.ntmps4
    go_wp2_with fail
    refine (louverlaw15_fixed.yes _).mono ?_
    rintro e w1 ⟨rfl, hb⟩
    go_wp2
    go_ret
    exact ⟨rfl, hb⟩
  by_cases b1 : 3000 < l1.length
  · go_enter Try.func4, Try.ntmps4
    go_wp2_with fail
    refine (louverlaw15_fixed.yes _).mono ?_
    rintro e w1 ⟨rfl, hb⟩
    go_wp2
    go_ret
    exact ⟨rfl, hb⟩
  have HC0 := Aside0.mk (Kd.C_of_reads (d := (0 : Int)) (h1 := fun _ => rfl) hr0)
  have HC1 := Aside0.mk (Kd.C_of_reads (d := (0 : Int)) (h1 := fun _ => rfl) hr1)
  have HW0 := Aside0.mk hw0
  have HW1 := Aside0.mk hw1
  clear hr0 hr1 hw0 hw1 hm0 hm1 y0 y1
  have d0 : decide (3000 < (l0.length : Int)) = false := decide_eq_false (by omega)
  have d1 : decide (3000 < (l1.length : Int)) = false := decide_eq_false (by omega)
  have hconv : (convert 22 9 (.slice a0 l0.length cap0)).run Try.prog w = .ok (.string (strOfNums l0)) w := Kd.C_string Try.underlying22 Try.underlying5 Try.underlying9 HC0.out
  go_enter Try.func4, Try.ntmps4
  go_wp2_with fail
  have hbytes : ∀ x ∈ l0, 0 ≤ x ∧ x ≤ 255 := fun x hx => by simpa [Lit.wf, IntKind.min, IntKind.max, IntKind.signed, IntKind.bits] using HW0.out x hx
  have hgood := good_f (strOfNums l0) (by rw [strOfNums_size]; omega) (2 * l0.length + 41) (by rw [strOfNums_size]; omega)
  rw [bs_str l0 hbytes] at hgood
  obtain ⟨G, hG⟩ : ∃ G, G = (feedC s0 l0).1 := ⟨_, rfl⟩
  obtain ⟨Wh, hWh⟩ : ∃ Wh, Wh = validC l0 := ⟨_, rfl⟩
  rw [← hG, ← hWh] at hgood
  have HG := Aside0.mk hG
  have HWh := Aside0.mk hWh
  have HGood := Aside0.mk hgood
  have hGle : G ≤ l0.length := by rw [hG]; exact feedC_le s0 l0
  clear hG hWh hgood hbytes hconv
  refine (louverref15_Good.calls _ (strOfNums l0) _ _ _ HGood.out).mono ?_
  rintro e w1 ⟨rfl, hb1⟩
  have HB1 := Aside0.mk hb1
  clear hb1
  go_wp2_with fail
  refine (utf_New.calls 0 128 191 false w _ HB1.out rfl).mono ?_
  rintro e w2 ⟨g, rfl, hI2, hB2, hb2⟩
  have HI2 := Aside0.mk hI2
  have HB2 := Aside0.mk hB2
  clear hI2 hB2 hb2 HGood HB1
  go_wp2_with fail
  go_loopw [8, 9, 10] (fun v n i wr => Feeds l0 l1 w g v n i wr) (fun _ _ i _ => l1.length + 2 - (intOf i).toNat)
  case atStart => exact ⟨0, 0, cap0, a0, 0, 128, 191, false, rfl, rfl, rfl, Nat.zero_le _, Nat.zero_le _, by omega, HC0.out, hc0, HI2.out, HB2.out, rfl, fun _ => rfl⟩
  case round =>
    obtain ⟨p, j, c', A', m, lo, hi, bad, rfl, rfl, rfl, hp, hj, hjl, hrd, hcc, hI, hB, hbad, hst⟩ := hrel
    have hdl : (l0.drop p).length = l0.length - p := List.length_drop
    generalize hq : l0.drop p = q at *
    have HQ := Aside0.mk hq
    have HDL := Aside0.mk hdl
    have HRD := Aside0.mk hrd
    have HI := Aside0.mk hI
    have HB := Aside0.mk hB
    have HBAD := Aside0.mk hbad
    have HST := Aside0.mk hst
    have HJL := Aside0.mk hjl
    have hq0 : q.length ≤ 3000 := by omega
    clear hq hdl hrd hI hB hbad hst hjl
    by_cases hlt : 0 < q.length
    · go_upto_if 41 with (fail)
      go_cut [11] (fun v wc => ∃ K : Nat, v = .int .i64 (K : Int) ∧ K ≤ q.length ∧ (l1.length ≤ j → K = q.length) ∧ wc = wr)
      case first =>
        by_cases hji : j < l1.length
        · obtain ⟨ad, rfl, hx⟩ := Kd.at_int HC1.out (j : Int) (by omega) (by omega)
          have hxr := (HB.out.cell (World.block_lt_of_cell? _ _ hx)).trans hx
          have hxb : 0 ≤ rd l1 (j : Int) ∧ rd l1 (j : Int) ≤ 255 := by
            have e : rd l1 (j : Int) = l1[j] := by simp [rd, hji]
            rw [e]
            simpa [Lit.wf, IntKind.min, IntKind.max, IntKind.signed, IntKind.bits] using HW1.out _ (List.getElem_mem hji)
          obtain ⟨hx0, hx1⟩ := hxb
          rw [Int.toNat_natCast] at hxr
          generalize rd l1 (j : Int) = x at *
          obtain ⟨y, rfl⟩ := Int.eq_ofNat_of_zero_le hx0
          clear hx
          by_cases hmin : q.length ≤ y
          · go_wp2
            go_meet
            case rel => exact ⟨q.length, rfl, Nat.le_refl _, fun _ => rfl, rfl⟩
          · go_wp2
            go_meet
            case rel => exact ⟨y, rfl, by omega, by omega, rfl⟩
        · go_wp2
          go_meet
          case rel => exact ⟨q.length, rfl, Nat.le_refl _, fun _ => rfl, rfl⟩
      case rest =>
        obtain ⟨K, rfl, hK, hKj, rfl⟩ := hcut
        obtain ⟨i0, hi0, _, hsz, _⟩ := info_parts info5
        obtain ⟨hcutT, hrdT, hlenT⟩ := print_take_of (P := Try.prog) (Value.int .u8) 0 22 5 .i64 Try.underlying22 hi0 hsz A' c' q (K : Int) (by omega) (by omega) hcc
        obtain ⟨A2, hcutD, hrdD, hlenD⟩ := print_drop_of (P := Try.prog) (Value.int .u8) 0 22 5 .i64 Try.underlying22 hi0 hsz A' c' q (K : Int) (by omega) (by omega) hcc
        simp only [Int.toNat_natCast] at hcutT hrdT hlenT hcutD hrdD hlenD
        have HRT := Aside0.mk (Kd.C_of_reads (h1 := fun _ => rfl) (hrdT _ (Kd.reads_of_C HRD.out)))
        have HRDD := Aside0.mk (Kd.C_of_reads (h1 := fun _ => rfl) (hrdD _ (Kd.reads_of_C HRD.out)))
        have HLT := Aside0.mk hlenT
        have HLD := Aside0.mk hlenD
        have hpK : p + K ≤ l0.length := by have := HDL.out; omega
        have HQ2 : Aside0 (l0.drop (p + K) = q.drop K) := ⟨by rw [← HQ.out, List.drop_drop]⟩
        have HJ2 : Aside0 (l1.length < j + 1 → p + K = l0.length) := ⟨fun h => by have := hKj (by omega); have := HDL.out; omega⟩
        have hj2 : j ≤ l1.length := by
          by_cases h : l1.length < j
          · have h1 := HJL.out h
            have h2 := HDL.out
            omega
          · omega
        have EK : Aside0 ((q.take K).length = K) := ⟨by rw [List.length_take]; omega⟩
        have HLK : Aside0 ((q.take K).length ≤ 140737488351232) := ⟨by rw [List.length_take]; omega⟩
        clear hrdT hrdD hlenT hlenD hKj hi0 hsz HRD HJL
        cases bad with
        | true =>
          have HF := Aside0.mk (feeds_bad l0 p K HBAD.out.symm)
          go_wp2_with fail
          refine (utf_Checker_Bad.calls g m lo hi true true m lo hi true w _ HI.out HB.out rfl).mono ?_
          rintro e w3 ⟨rfl, hI3, hB3, hk3⟩
          clear HI HB hk3
          have HI := Aside0.mk hI3
          have HB := Aside0.mk hB3
          clear hI3 hB3
          go_wp2_with fail
          refine calls_of_args (args' := #[.pointer (some ⟨g, 0, none⟩), .slice A' (q.take K).length c']) (by rw [EK.out]) ?_
          refine (utf_Checker_Feed.calls 0 g m lo hi true A' c' (q.take K) 0 m lo hi true w _ HI.out HB.out (Kd.C_below HRT.out HB.out) HLT.out (Kd.far_C 0 HRT.out (IsS37.ge HI.out)) (feed_bad _ _ _ _ _)).mono ?_
          rintro e w4 ⟨rfl, hI4, hB4, hk4⟩
          clear HI HB hk4
          have HI := Aside0.mk hI4
          have HB := Aside0.mk hB4
          clear hI4 hB4
          go_wp2
          go_roundw
          case rel => exact ⟨p + K, j + 1, _, A2, m, lo, hi, true, by rw [HQ2.out, List.length_drop], by go_num, by go_num, hpK, by omega, HJ2.out, by rw [HQ2.out]; exact HRDD.out, by rw [HQ2.out]; exact HLD.out, HI.out, HB.out, HF.out.symm, fun h => by cases h⟩
          case measure => simp [intOf]; omega
        | false =>
          have hst2 := HST.out rfl
          obtain ⟨s1, s2, s3, s4⟩ := feeds_step l0 p K hpK HBAD.out.symm
          have hokS : okS (m, lo, hi) := by rw [hst2]; exact feedC_ok okS0 _
          rw [← hst2, HQ.out] at s1 s2 s4
          have hfeed := feed_f (q.take K) HLK.out ((q.take K).length + 5) (Nat.le_refl _) (m, lo, hi) hokS
          rw [← HG.out] at s1 s2 s3
          obtain ⟨X, hX⟩ : ∃ X, X = (feedC (m, lo, hi) (q.take K)).1 := ⟨_, rfl⟩
          obtain ⟨st', hst'⟩ : ∃ st', st' = (feedC (m, lo, hi) (q.take K)).2.1 := ⟨_, rfl⟩
          obtain ⟨b', hb'⟩ : ∃ b', b' = (feedC (m, lo, hi) (q.take K)).2.2 := ⟨_, rfl⟩
          obtain ⟨m', lo', hi'⟩ := st'
          rw [← hX, ← hst', ← hb'] at hfeed
          rw [← hX] at s2
          rw [← hb'] at s1
          have HF := Aside0.mk hfeed
          have HS4 : Aside0 ((feedC s0 (l0.take (p + K))).2.2 = b' ∧ (feedC s0 (l0.take (p + K))).2.1 = (m', lo', hi')) := ⟨by rw [s4, hb', hst']; exact ⟨rfl, rfl⟩⟩
          clear hX hst' hb' hfeed hst2 hokS s4 HST
          by_cases hcase : p + K ≤ G
          · obtain rfl : b' = false := by rw [s1]; exact decide_eq_false (by omega)
            obtain rfl : X = K := by rw [s2]; omega
            clear s1 s2
            go_wp2_with fail
            refine (utf_Checker_Bad.calls g m lo hi false false m lo hi false w _ HI.out HB.out rfl).mono ?_
            rintro e w3 ⟨rfl, hI3, hB3, hk3⟩
            clear HI HB hk3
            have HI := Aside0.mk hI3
            have HB := Aside0.mk hB3
            clear hI3 hB3
            go_wp2_with fail
            refine calls_of_args (args' := #[.pointer (some ⟨g, 0, none⟩), .slice A' (q.take X).length c']) (by rw [EK.out]) ?_
            refine (utf_Checker_Feed.calls _ g m lo hi false A' c' (q.take X) X m' lo' hi' false w _ HI.out HB.out (Kd.C_below HRT.out HB.out) HLT.out (Kd.far_C 0 HRT.out (IsS37.ge HI.out)) HF.out).mono ?_
            rintro e w4 ⟨rfl, hI4, hB4, hk4⟩
            clear HI HB hk4
            have HI := Aside0.mk hI4
            have HB := Aside0.mk hB4
            clear hI4 hB4
            go_wp2_with fail
            refine (utf_Checker_Bad.calls g m' lo' hi' false false m' lo' hi' false w _ HI.out HB.out rfl).mono ?_
            rintro e w5 ⟨rfl, hI3, hB3, hk3⟩
            clear HI HB hk3
            have HI := Aside0.mk hI3
            have HB := Aside0.mk hB3
            clear hI3 hB3
            go_wp2
            go_roundw
            case rel => exact ⟨p + X, j + 1, _, A2, m', lo', hi', false, by rw [HQ2.out, List.length_drop], by go_num, by go_num, hpK, by omega, HJ2.out, by rw [HQ2.out]; exact HRDD.out, by rw [HQ2.out]; exact HLD.out, HI.out, HB.out, HS4.out.1.symm, fun _ => HS4.out.2.symm⟩
            case measure => simp [intOf]; omega
          · obtain rfl : b' = true := by rw [s1]; exact decide_eq_true (by omega)
            have hX1 : X + p ≤ G := by rw [s2]; omega
            have hX2 : G ≤ X + p := by rw [s2]; omega
            clear s1 s2
            go_wp2_with fail
            refine (utf_Checker_Bad.calls g m lo hi false false m lo hi false w _ HI.out HB.out rfl).mono ?_
            rintro e w3 ⟨rfl, hI3, hB3, hk3⟩
            clear HI HB hk3
            have HI := Aside0.mk hI3
            have HB := Aside0.mk hB3
            clear hI3 hB3
            go_wp2_with fail
            refine calls_of_args (args' := #[.pointer (some ⟨g, 0, none⟩), .slice A' (q.take K).length c']) (by rw [EK.out]) ?_
            refine (utf_Checker_Feed.calls _ g m lo hi false A' c' (q.take K) X m' lo' hi' true w _ HI.out HB.out (Kd.C_below HRT.out HB.out) HLT.out (Kd.far_C 0 HRT.out (IsS37.ge HI.out)) HF.out).mono ?_
            rintro e w4 ⟨rfl, hI4, hB4, hk4⟩
            clear HI HB hk4
            have HI := Aside0.mk hI4
            have HB := Aside0.mk hB4
            clear hI4 hB4
            go_wp2_with fail
            refine (utf_Checker_Bad.calls g m' lo' hi' true true m' lo' hi' true w _ HI.out HB.out rfl).mono ?_
            rintro e w5 ⟨rfl, hI3, hB3, hk3⟩
            clear HI HB hk3
            have HI := Aside0.mk hI3
            have HB := Aside0.mk hB3
            clear hI3 hB3
            go_wp2
            go_roundw
            case rel => exact ⟨p + K, j + 1, _, A2, m', lo', hi', true, by rw [HQ2.out, List.length_drop], by go_num, by go_num, hpK, by omega, HJ2.out, by rw [HQ2.out]; exact HRDD.out, by rw [HQ2.out]; exact HLD.out, HI.out, HB.out, HS4.out.1.symm, fun h => by cases h⟩
            case measure => simp [intOf]; omega
    · have hp2 : p = l0.length := by have := HDL.out; omega
      have htake : l0.take p = l0 := List.take_of_length_le (by omega)
      have hbad2 := HBAD.out
      have hst2 := HST.out
      rw [htake] at hbad2 hst2
      have hwhole : utf_Checker_Whole.f m lo hi bad = some (Wh, m, lo, hi, bad) := by
        rw [whole_f, HWh.out]
        unfold validC
        rw [← hbad2]
        cases bad with
        | true => rfl
        | false => rw [← hst2 rfl]
      have hbG : bad = decide (G < l0.length) := by
        have h1 := feedC_all s0 l0
        have h2 := feedC_le s0 l0
        rw [← hbad2, ← HG.out] at h1
        rw [← HG.out] at h2
        cases bad with
        | false => rw [decide_eq_false (by have := h1.1 rfl; omega)]
        | true => rw [decide_eq_true (by have : G ≠ l0.length := fun e => by have := h1.2 e; simp at this
                                         omega)]
      have hvalid := valid_f l0 (by omega) (l0.length + 5) (Nat.le_refl _)
      rw [← HWh.out] at hvalid
      have HV := Aside0.mk hvalid
      have HWF := Aside0.mk hwhole
      have HBG := Aside0.mk hbG
      clear hvalid hwhole hbG hbad2 hst2 htake HBAD HST
      go_wp2_with fail
      refine (louverlaw15_fixed.yes _).mono ?_
      rintro e w3 ⟨rfl, hb3⟩
      replace HI := Aside0.mk (IsS37.below HI.out hb3)
      replace HB := Aside0.mk (below_step HB.out hb3)
      clear hb3
      go_wp2_with fail
      refine (utf_Checker_Whole.calls g m lo hi bad Wh m lo hi bad w _ HI.out HB.out HWF.out).mono ?_
      rintro e w4 ⟨rfl, hI4, hB4, hk4⟩
      clear HI HB hk4
      have HI := Aside0.mk hI4
      have HB := Aside0.mk hB4
      clear hI4 hB4
      have hbb := HBG.out
      by_cases hgl : G < l0.length
      · obtain rfl : bad = true := by rw [hbb]; exact decide_eq_true hgl
        clear hbb HBG HWF
        go_wp2_with fail
        refine (utf_Checker_Bad.calls g m lo hi _ _ m lo hi _ w _ HI.out HB.out rfl).mono ?_
        rintro e w5 ⟨rfl, hI5, hB5, hk5⟩
        clear HI HB hk5 hI5
        have HB := Aside0.mk hB5
        clear hB5
        go_wp2_with fail
        refine (utf_Valid.calls _ a0 cap0 l0 Wh _ (Kd.C_below HC0.out HB.out) hc0 HV.out).mono ?_
        rintro e w6 ⟨rfl, hb6⟩
        replace HB := Aside0.mk (below_step HB.out hb6)
        clear hb6
        go_wp2
        go_ret
        exact ⟨rfl, HB.out⟩
      · obtain rfl : bad = false := by rw [hbb]; exact decide_eq_false hgl
        clear hbb HBG HWF
        go_wp2_with fail
        refine (utf_Checker_Bad.calls g m lo hi _ _ m lo hi _ w _ HI.out HB.out rfl).mono ?_
        rintro e w5 ⟨rfl, hI5, hB5, hk5⟩
        clear HI HB hk5 hI5
        have HB := Aside0.mk hB5
        clear hB5
        go_wp2_with fail
        refine (utf_Valid.calls _ a0 cap0 l0 Wh _ (Kd.C_below HC0.out HB.out) hc0 HV.out).mono ?_
        rintro e w6 ⟨rfl, hb6⟩
        replace HB := Aside0.mk (below_step HB.out hb6)
        clear hb6
        go_wp2
        go_ret
        exact ⟨rfl, HB.out⟩
end Go.Proofs.Ytdoaipefnpkomaa.Pure
