/- Any letter's bytes are a text, if they are written as said, whatever text stands ahead: for all rows of runes. -/
import Derived.Test.YtdoaipefnpkomaaPAllx4
import Derived.Test.YtdoaipefnpkomaaUtf1
import Derived.Test.YtdoaipefnpkomaaGood1
namespace Go.Proofs.Ytdoaipefnpkomaa.Pure
open Go.RowKit Go.Proofs.Ytdoaipefnpkomaa.PAll Go.Proofs.YtdoaipefnpkomaaW.PrintWords Go.Proofs.YtdoaipefnpkomaaW.PrintLast Go.Proofs.YtdoaipefnpkomaaW.PrintMore Go.Proofs.Ytdoaipefnpkomaa.U
attribute [local go_sem] max2_int min2_int max_two min_two
set_option linter.unusedVariables false

def letterP (c : Int) : Prop := 0 ≤ c ∧ c ≤ 1114111 ∧ (c < 55296 ∨ 57344 ≤ c)
theorem feed_good1 {s : St} {b : Int} {t : St} (h : oneC s b = (true, t)) (r : List Int) : feedC s (b :: r) = ((feedC t r).1 + 1, (feedC t r).2) := by
  rw [feedC_pos (by rw [h]), h]
theorem letter_feed {c : Int} (h : letterP c) {s : St} (hs : s.1 = 0) : (feedC s (writeC c)).2.2 = false ∧ (feedC s (writeC c)).2.1.1 = 0 := by
  obtain ⟨h0, h1, h2⟩ := h
  by_cases a : c < 128
  · have e : oneC s c = (true, 0, 128, 191) := by rw [oneC_zero hs]; exact first_1 a
    unfold writeC
    rw [if_pos a, feed_good1 e]
    exact ⟨rfl, rfl⟩
  · by_cases b : c < 2048
    · have e : oneC s (192 + c / 64) = (true, 1, 128, 191) := by rw [oneC_zero hs]; exact first_2 (by omega)
      rw [write2 (by omega), feed_good1 e, feed_good1 (one_in (by decide) (by omega))]
      exact ⟨rfl, rfl⟩
    · by_cases d : c < 65536
      · have e : oneC s (224 + c / 4096) = (true, 2, lo3 (224 + c / 4096), hi3 (224 + c / 4096)) := by rw [oneC_zero hs]; exact first_3 (by omega)
        rw [write3 (by omega), feed_good1 e, feed_good1 (one_in (by decide) (by unfold lo3 hi3; split <;> split <;> omega)), feed_good1 (one_in (by decide) (by omega))]
        exact ⟨rfl, rfl⟩
      · have e : oneC s (240 + c / 262144) = (true, 3, lo4 (240 + c / 262144), hi4 (240 + c / 262144)) := by rw [oneC_zero hs]; exact first_4 (by omega)
        rw [write4 (by omega), feed_good1 e, feed_good1 (one_in (by decide) (by unfold lo4 hi4; split <;> split <;> omega)), feed_good1 (one_in (by decide) (by omega)), feed_good1 (one_in (by decide) (by omega))]
        exact ⟨rfl, rfl⟩
theorem letters_feed (l : List Int) (h : ∀ c ∈ l, letterP c) : ∀ s : St, s.1 = 0 → (feedC s (l.flatMap writeC)).2.2 = false ∧ (feedC s (l.flatMap writeC)).2.1.1 = 0 := by
  induction l with
  | nil => intro s hs; exact ⟨rfl, hs⟩
  | cons c r ih =>
    intro s hs
    obtain ⟨a, b⟩ := letter_feed (h c (by simp)) hs
    obtain ⟨d, e⟩ := ih (fun x hx => h x (by simp [hx])) _ b
    rw [List.flatMap_cons, feedC_append_good a]
    exact ⟨d, e⟩
theorem writeC_len (c : Int) : 1 ≤ (writeC c).length ∧ (writeC c).length ≤ 4 := by
  unfold writeC; repeat' split
  all_goals simp
theorem flat_len (l : List Int) : (l.flatMap writeC).length ≤ 4 * l.length := by
  induction l with
  | nil => simp
  | cons c r ih =>
    rw [List.flatMap_cons, List.length_append, List.length_cons]
    have := writeC_len c
    omega
theorem encode_bs {c : Int} (h : letterP c) : bs (Utf8.encode c) = writeC c := by
  obtain ⟨h0, h1, h2⟩ := h
  obtain ⟨n, rfl⟩ := Int.eq_ofNat_of_zero_le h0
  have hv : Utf8.valid (n : Int) = true := by rw [validRune_eq]; unfold validRune; rw [decide_eq_true (by omega)]
  unfold Utf8.encode
  simp only [hv, if_true, Int.toNat_natCast]
  unfold writeC
  by_cases a : n < 128
  · rw [if_pos a, if_pos (show (n : Int) < 128 by omega)]
    simp [bs]
    omega
  · rw [if_neg a, if_neg (show ¬ (n : Int) < 128 by omega)]
    by_cases b : n < 2048
    · rw [if_pos b, if_pos (show (n : Int) < 2048 by omega)]
      simp [bs]
      omega
    · rw [if_neg b, if_neg (show ¬ (n : Int) < 2048 by omega)]
      by_cases d : n < 65536
      · rw [if_pos d, if_pos (show (n : Int) < 65536 by omega)]
        simp [bs]
        omega
      · rw [if_neg d, if_neg (show ¬ (n : Int) < 65536 by omega)]
        simp [bs]
        omega
theorem strCells_bs (s : ByteArray) : Lib.strCells s = nums .u8 (bs s) := by
  unfold Lib.strCells nums bs
  rw [List.map_map]
  rfl

/-- The first loop: what is written of the first j letters. -/
def Written (l0 : List Int) (w : World) (v i : Value) (wr : World) : Prop :=
  ∃ j : Nat, i = .int .i64 (j : Int) ∧ j ≤ l0.length ∧ (∀ c ∈ l0.take j, letterP c) ∧ wr.ownsRow w.heap.size 5 1 v ((l0.take j).flatMap writeC).length (nums .u8 ((l0.take j).flatMap writeC)) ∧ Below w.heap.size w wr
/-- The second loop: what is fed. -/
def Fed (xs : List Int) (w2 : World) (g : Nat) (i : Value) (wr : World) : Prop :=
  ∃ (j : Nat) (m lo hi : Int), i = .int .i64 (j : Int) ∧ j ≤ xs.length ∧ (m, lo, hi) = (feedC s0 (xs.take j)).2.1 ∧ IsS37 w2 wr g m lo hi false ∧ Below w2.heap.size w2 wr
theorem fed_step {xs : List Int} (h : (feedC s0 xs).2.2 = false) (j : Nat) (hj : j < xs.length) :
    (feedC (feedC s0 (xs.take j)).2.1 [xs[j]]).1 = 1 ∧ (feedC (feedC s0 (xs.take j)).2.1 [xs[j]]).2.2 = false ∧ (feedC (feedC s0 (xs.take j)).2.1 [xs[j]]).2.1 = (feedC s0 (xs.take (j + 1))).2.1 := by
  have e : xs.take (j + 1) = xs.take j ++ [xs[j]] := List.take_succ_eq_append_getElem hj
  have h1 : (feedC s0 (xs.take (j + 1))).2.2 = false := by
    rw [← List.take_append_drop (j + 1) xs] at h
    exact feedC_left h
  have h0 : (feedC s0 (xs.take j)).2.2 = false := by rw [e] at h1; exact feedC_left h1
  have a := feedC_append_good h0 [xs[j]]
  rw [← e] at a
  rw [a] at h1 ⊢
  exact ⟨by have := feedC_good h1; simpa using this, h1, rfl⟩
theorem flat_take (l : List Int) (j : Nat) (h : j < l.length) : (l.take (j + 1)).flatMap writeC = (l.take j).flatMap writeC ++ writeC l[j] := by
  rw [List.take_succ_eq_append_getElem h, List.flatMap_append]
  simp
theorem wf_i32 {x : Int} (h : (Lit.int .i32 x).wf = true) : -2147483648 ≤ x ∧ x ≤ 2147483647 := by
  simpa [Lit.wf, IntKind.min, IntKind.max, IntKind.signed, IntKind.bits] using h

set_option maxHeartbeats 4000000 in
set_option maxRecDepth 100000 in
theorem UtfLetters : louverlaw15_UtfLetters.Pure := by
  intro a0 len0 cap0 z0 w w0 y0
  obtain ⟨l0, rfl, hr0, hm0, hw0, hc0⟩ := ReadsInt.ofRowC w0
  clear w0
  by_cases b0 : 1000 < l0.length
  · go_enter Try.func5, Try.ntmps5
    go_wp2_with fail
    refine (louverlaw15_fixed.yes _).mono ?_
    rintro e w1 ⟨rfl, hb⟩
    go_wp2
    go_ret
    exact ⟨rfl, hb⟩
  have HC0 := Aside0.mk (Kd.C_of_reads (d := (0 : Int)) (h1 := fun _ => rfl) hr0)
  have HW0 := Aside0.mk hw0
  clear hr0 hw0 hm0 y0
  have d0 : decide (1000 < (l0.length : Int)) = false := decide_eq_false (by omega)
  obtain ⟨i0, hi0, hz0, hsz, hby⟩ := info_parts info5
  go_enter Try.func5, Try.ntmps5
  go_wp2_with fail
  go_loopw [3, 14] (fun v i wr => Written l0 w v i wr) (fun _ i _ => l0.length - (intOf i).toNat)
  case atStart => exact ⟨0, rfl, Nat.zero_le _, by simp, own_nil _ _ _ _, Below.refl _ _⟩
  case round =>
    obtain ⟨j, rfl, hj, hval, hown, hB⟩ := hrel
    have HOWN := Aside0.mk hown
    have HB := Aside0.mk hB
    have HV := Aside0.mk hval
    clear hown hB hval
    by_cases hlt : j < l0.length
    · obtain ⟨ad, rfl, hx⟩ := Kd.at_int HC0.out (j : Int) (by omega) (by omega)
      have hxr := (HB.out.cell (World.block_lt_of_cell? _ _ hx)).trans hx
      have e : rd l0 (j : Int) = l0[j] := by simp [rd, hlt]
      have hxb := wf_i32 (HW0.out _ (List.getElem_mem hlt))
      have hft := flat_take l0 j hlt
      have hmem : ∀ c ∈ l0.take (j + 1), c ∈ l0.take j ∨ c = l0[j] := fun c hc => by
        rw [List.take_succ_eq_append_getElem hlt, List.mem_append, List.mem_singleton] at hc
        exact hc
      rw [e, Int.toNat_natCast] at hxr
      clear hx e
      generalize l0[j] = x at *
      have hfl := flat_len (l0.take j)
      generalize hys : (l0.take j).flatMap writeC = ys at *
      have HFT := Aside0.mk hft
      have HM := Aside0.mk hmem
      obtain ⟨hx0, hx1⟩ := hxb
      clear hft hmem hys
      have htl : (l0.take j).length ≤ 1000 := by rw [List.length_take]; omega
      by_cases hv : letterP x
      · have HE := Aside0.mk (encode_bs hv)
        have hes : (Utf8.encode x).size ≤ 4 := by
          have h1 := bs_length (Utf8.encode x)
          rw [HE.out] at h1
          have h2 := writeC_len x
          omega
        obtain ⟨v0, v1, v2⟩ := hv
        have HVX : Aside0 (letterP x) := ⟨⟨v0, v1, v2⟩⟩
        by_cases hs : x < 55296
        · go_wp2_with (at_builtin; refine Lib.wpList_append_own_string _ rfl (.tmp 33) (.tmp 35) 22 9 rfl w.heap.size 5 i0 Try.underlying22 Try.underlying9 hi0 hz0 hsz hby _ _ _ rfl HOWN.out _ rfl ?c1a ?c1b ?c1c ?_)
          case c1a => unfold maxLen; omega
          case c1b => omega
          case c1c => exact HB.out.size
          · intro v' w' hown' hgrow _
            rw [strCells_bs, HE.out, ← nums_append, ← HFT.out] at hown'
            have hB' := HB.out.grown hgrow HB.out.size (own_base HOWN.out)
            have hlen : ys.length + (Utf8.encode x).size = (List.flatMap writeC (List.take (j + 1) l0)).length := by
              rw [HFT.out, List.length_append, ← bs_length, HE.out]
            rw [hlen] at hown'
            have HO' := Aside0.mk hown'
            have HB' := Aside0.mk hB'
            clear hown' hgrow hB' hlen HOWN HB
            go_wp2
            go_roundw
            case rel => exact ⟨j + 1, by go_num, by omega, fun c hc => (HM.out c hc).elim (HV.out c) (fun e => by rw [e]; exact HVX.out), HO'.out, HB'.out⟩
            case measure => simp [intOf]; omega
        · go_wp2_with (at_builtin; refine Lib.wpList_append_own_string _ rfl (.tmp 33) (.tmp 35) 22 9 rfl w.heap.size 5 i0 Try.underlying22 Try.underlying9 hi0 hz0 hsz hby _ _ _ rfl HOWN.out _ rfl ?k2a ?k2b ?k2c ?_)
          case k2a => unfold maxLen; omega
          case k2b => omega
          case k2c => exact HB.out.size
          · intro v' w' hown' hgrow _
            rw [strCells_bs, HE.out, ← nums_append, ← HFT.out] at hown'
            have hB' := HB.out.grown hgrow HB.out.size (own_base HOWN.out)
            have hlen : ys.length + (Utf8.encode x).size = (List.flatMap writeC (List.take (j + 1) l0)).length := by
              rw [HFT.out, List.length_append, ← bs_length, HE.out]
            rw [hlen] at hown'
            have HO' := Aside0.mk hown'
            have HB' := Aside0.mk hB'
            clear hown' hgrow hB' hlen HOWN HB
            go_wp2
            go_roundw
            case rel => exact ⟨j + 1, by go_num, by omega, fun c hc => (HM.out c hc).elim (HV.out c) (fun e => by rw [e]; exact HVX.out), HO'.out, HB'.out⟩
            case measure => simp [intOf]; omega
      · have hbad : x < 0 ∨ 1114111 < x ∨ (55296 ≤ x ∧ x < 57344) := by unfold letterP at hv; omega
        clear HFT HM
        rcases hbad with h | h | h
        · go_wp2_with fail
          refine (louverlaw15_fixed.yes _).mono ?_
          rintro e w1 ⟨rfl, hb⟩
          have HB1 := Aside0.mk (below_step HB.out hb)
          clear hb
          go_wp2
          go_ret
          exact ⟨rfl, HB1.out⟩
        · go_wp2_with fail
          refine (louverlaw15_fixed.yes _).mono ?_
          rintro e w1 ⟨rfl, hb⟩
          have HB1 := Aside0.mk (below_step HB.out hb)
          clear hb
          go_wp2
          go_ret
          exact ⟨rfl, HB1.out⟩
        · obtain ⟨h1, h2⟩ := h
          go_wp2_with fail
          refine (louverlaw15_fixed.yes _).mono ?_
          rintro e w1 ⟨rfl, hb⟩
          have HB1 := Aside0.mk (below_step HB.out hb)
          clear hb
          go_wp2
          go_ret
          exact ⟨rfl, HB1.out⟩
    · obtain rfl : j = l0.length := by omega
      have hfl := flat_len l0
      have hall := HV.out
      have hown := HOWN.out
      rw [List.take_length] at hall hown
      obtain ⟨f1, f2⟩ := letters_feed l0 hall s0 rfl
      generalize l0.flatMap writeC = xs at *
      obtain ⟨A, cap, rfl, hread⟩ := own_reads hown
      have hcap : xs.length ≤ cap := by
        rcases hown.2 with ⟨e, h0⟩ | ⟨_, _, _, e, _, _, h0, _⟩
        · omega
        · injection e with _ _ e3
          omega
      have HXS := Aside0.mk (Kd.C_of_reads (d := (0 : Int)) (h1 := fun _ => rfl) hread)
      have F1 := Aside0.mk f1
      have F2 := Aside0.mk f2
      have HV2 : Aside0 (validC xs = true) := ⟨(validC_iff xs).2 ⟨f1, f2⟩⟩
      have hxl : xs.length ≤ 4000 := by omega
      clear hall hown hread f1 f2 HV HOWN
      go_wp2_with fail
      refine (utf_New.calls 0 128 191 false _ _ (Below.refl _ _) rfl).mono ?_
      rintro e w2 ⟨g, rfl, hI2, hB2, hb2⟩
      have HI2 := Aside0.mk hI2
      have HB2 := Aside0.mk hb2
      clear hI2 hB2 hb2
      go_wp2_with fail
      obtain ⟨wo, rfl⟩ : ∃ wo : World, wo = wr := ⟨_, rfl⟩
      go_loopw [41] (fun i wx => Fed xs wo g i wx) (fun i _ => xs.length - (intOf i).toNat)
      case atStart => exact ⟨0, 0, 128, 191, rfl, Nat.zero_le _, rfl, HI2.out, HB2.out⟩
      case round =>
        obtain ⟨j, m, lo, hi, rfl, hj2, hst, hI, hB3⟩ := hrel
        have HI := Aside0.mk hI
        have HB3 := Aside0.mk hB3
        have HST := Aside0.mk hst
        clear hI hB3 hst HI2 HB2
        by_cases hlt2 : j < xs.length
        · obtain ⟨s1, s2, s3⟩ := fed_step F1.out j hlt2
          have hok : okS (m, lo, hi) := by rw [HST.out]; exact feedC_ok okS0 _
          rw [← HST.out] at s1 s2 s3
          have hfeed := feed_f [xs[j]] (by simp) 6 (by simp) (m, lo, hi) hok
          rw [s1, s2, s3] at hfeed
          obtain ⟨st', hst'⟩ : ∃ st', st' = (feedC s0 (xs.take (j + 1))).2.1 := ⟨_, rfl⟩
          obtain ⟨m', lo', hi'⟩ := st'
          rw [← hst'] at hfeed
          have HF := Aside0.mk hfeed
          have HST' := Aside0.mk hst'
          clear hfeed hst' s1 s2 s3 hok
          obtain ⟨A2, hA2⟩ : ∃ A2, A2 = (if cap = j then A else A.map (·.add j)) := ⟨_, rfl⟩
          have hrd2 : (Kd.int .u8).C wo A2 1 [xs[j]] := by
            have h1 := ((Kd.reads_of_C (d := (0 : Int)) HXS.out).drop_ j (by omega) hcap)
            rw [← hA2] at h1
            have h2 := h1.take_ 1 (by omega)
            rw [← List.getElem_cons_drop hlt2] at h2
            exact Kd.C_of_reads (h1 := fun _ => rfl) h2
          have hcut : ∀ W : World, (Instr.slice 22 (.slice A xs.length cap) (some (.int .i64 (j : Int))) (some (.int .i64 ((j : Int) + 1))) none).run Try.prog W = .ok (.slice A2 1 (cap - j)) W := by
            intro W
            rw [cut_mid 22 5 .i64 .i64 Try.underlying22 hi0 1 hsz A xs.length cap (j : Int) ((j : Int) + 1) (by omega) (by omega) (by omega) hcap W, hA2]
            simp only [Int.toNat_natCast, Nat.mul_one]
            congr 2
            omega
          have HRD2 := Aside0.mk hrd2
          have HCJ : Aside0 (1 ≤ cap - j) := ⟨by omega⟩
          generalize xs[j] = x at *
          clear hA2 hrd2 HST
          go_wp2_with fail
          refine (utf_Checker_Feed.calls 6 g m lo hi false A2 (cap - j) [x] 1 m' lo' hi' false wo _ HI.out HB3.out (Kd.C_below HRD2.out HB3.out) HCJ.out (Kd.far_C 0 HRD2.out (IsS37.ge HI.out)) HF.out).mono ?_
          rintro e w4 ⟨rfl, hI4, hB4, hk4⟩
          clear HI HB3 hk4
          have HI := Aside0.mk hI4
          have HB3 := Aside0.mk hB4
          clear hI4 hB4
          go_wp2
          go_roundw
          case rel => exact ⟨j + 1, m', lo', hi', by go_num, by omega, HST'.out, HI.out, HB3.out⟩
          case measure => simp [intOf]; omega
        · obtain rfl : j = xs.length := by omega
          have hst2 := HST.out
          rw [List.take_length] at hst2
          have hwhole : utf_Checker_Whole.f m lo hi false = some (true, m, lo, hi, false) := by
            rw [whole_f]
            have h2 := F2.out
            rw [← hst2] at h2
            simp only at h2
            rw [h2]
            rfl
          have hvalid := valid_f xs (by omega) (xs.length + 5) (Nat.le_refl _)
          rw [HV2.out] at hvalid
          have HV := Aside0.mk hvalid
          have HWF := Aside0.mk hwhole
          clear hvalid hwhole hst2 HST
          go_wp2_with fail
          refine (louverlaw15_fixed.yes _).mono ?_
          rintro e w3 ⟨rfl, hb3⟩
          replace HI := Aside0.mk (IsS37.below HI.out hb3)
          replace HB3 := Aside0.mk (below_step HB3.out hb3)
          clear hb3
          go_wp2_with fail
          refine (utf_Checker_Whole.calls g m lo hi false true m lo hi false wo _ HI.out HB3.out HWF.out).mono ?_
          rintro e w4 ⟨rfl, hI4, hB4, hk4⟩
          clear HI HB3 hk4 hI4
          have HB3 := Aside0.mk hB4
          clear hB4
          go_wp2_with fail
          refine (utf_Valid.calls _ A cap xs true _ (Kd.C_below HXS.out HB3.out) hcap HV.out).mono ?_
          rintro e w6 ⟨rfl, hb6⟩
          replace HB3 := Aside0.mk (below_step HB3.out hb6)
          clear hb6
          go_wp2
          go_ret
          exact ⟨rfl, below_then HB.out HB.out.size HB3.out⟩
end Go.Proofs.Ytdoaipefnpkomaa.Pure
