/- What the law's row rests on, part 10. -/
import Derived.Test.YtbjjobifpmjhhaaDoorZ9
import Derived.Deep.CutBlock
import Derived.Lib.SlBytesConst
/- A row of messages is gathered message by message. -/
namespace Go.Proofs.YtbjjobifpmjhhaaDoor
open Go.RowKit Go.Proofs.YtbjjobifpmjhhaaDoorW.PrintWords Go.Proofs.YtbjjobifpmjhhaaDoorW.PrintLast Go.Proofs.YtbjjobifpmjhhaaDoorW.PrintMore Go.Proofs.YtbjjobifpmjhhaaDoor.PAll Go.Proofs.YtbjjobifpmjhhaaDoor.U
set_option linter.unusedVariables false
set_option linter.unusedSimpArgs false
theorem wfc8 {x : Int} (h : (Lit.int .u8 x).wf = true) : 0 ≤ x ∧ x ≤ 255 := by simpa [Lit.wf, IntKind.min, IntKind.max, IntKind.signed, IntKind.bits] using h
theorem C_marked (W : World) (t : TypeId) (fr : Nat × Nat) (xs : List Int) (hm : xs.length ≤ 9223372036854775807) : (Kd.int .u8).C (W.alloc (.cells (nums .u8 xs).toArray t fr)) (some ⟨W.heap.size, 0, none⟩) xs.length xs := by
  refine Kd.C_of_reads (d := 0) ⟨rfl, hm, fun _ => ⟨_, rfl, fun j hj => ?_⟩⟩
  rw [add_plain, World.cell?_alloc_mark]
  simp [nums, hj]
abbrev Prow (w : World) (base : Nat) (v pv : Value) (ps : List Pm) : Prop := Kd.R k26 26 w base (fun q => some q ≠ v.ownBlock) pv ps
/-- The gatherer in the loop over a message's frames. -/
def RowG (w0 wr : World) (g : Nat) (x0 : Bool) (i : Nat) (dn : List Int) (rem : List Pm) (v : Value) : Prop :=
  ∃ u b1 busy te gu f, Gs w0 wr g v u b1 busy te false gu f ∧ (rem ≠ [] → b1 = dn ∧ busy = decide (i ≠ 0) ∧ (busy = true → te = x0 ∧ f = if te = true then b1 else []) ∧ (busy = false → b1 = [])) ∧ (rem = [] → v = .slice none 0 0 ∧ b1 = [] ∧ busy = false)
def RowR (w0 : World) (base g : Nat) (x0 : Bool) (op0 : Int) (b : List Int) (M : Nat) (pv : Value) (ps : List Pm) (mu : Nat) (iv : Value) (wr : World) : Prop :=
  ∃ (i : Nat) (dn l : List Int) (op : Int) (rem : List Pm) (v : Value), iv = .int .i64 (i : Nat) ∧ i + rem.length = ps.length ∧ ps.drop i = rem ∧ dn ++ l = b ∧ mu = rem.length ∧ ((rem = [] ∧ l = []) ∨ (CutP M op l rem ∧ op = (if i = 0 then op0 else 0) ∧ (i ≠ 0 → l.length ≠ 0) ∧ (i = 0 → dn = []))) ∧ Below w0.heap.size w0 wr ∧ Prow wr base v pv ps ∧ RowG w0 wr g x0 i dn rem v
/-- Between messages. -/
def RowO (w0 : World) (g n : Nat) (mu : Nat) (iv : Value) (wr : World) : Prop :=
  ∃ (j : Nat) (u : Value) (te : Bool), iv = .int .i64 (j : Nat) ∧ j + mu = n ∧ Below w0.heap.size w0 wr ∧ Gw w0 wr g (.slice none 0 0) u [] false te false
/-- Behind the close. -/
def RowE (w0 : World) (base g : Nat) (pv : Value) (ps : List Pm) (mu : Nat) (iv : Value) (wr : World) : Prop :=
  ∃ (j : Nat) (u : Value) (bu te : Bool), iv = .int .i64 (j : Nat) ∧ j + mu = ps.length ∧ Below w0.heap.size w0 wr ∧ Gw w0 wr g (.slice none 0 0) u [] bu te true ∧ Prow wr base (.slice none 0 0) pv ps
theorem wrap_u32c {x : Int} (h0 : 0 ≤ x) (h1 : x ≤ 4294967295) : IntKind.u32.wrap x = x := by
  have : IntKind.u32.wrap x = x % 4294967296 := by simp [IntKind.wrap, IntKind.bits, IntKind.signed]
  rw [this]; omega
theorem nat_orc (s b : Nat) (hb : b < 256) : s * 256 ||| b = s * 256 + b := by
  have := Nat.two_pow_add_eq_or_of_lt (show b < 2 ^ 8 from hb) s
  rw [show (2 : Nat) ^ 8 = 256 from rfl, Nat.mul_comm] at this
  exact this.symm
theorem or_byte32c {s b : Int} (h0 : 0 ≤ s) (h1 : s < 16777216) (hb : 0 ≤ b ∧ b ≤ 255) : Go.bits .or .u32 (s * 256) b = s * 256 + b := by
  obtain ⟨n, rfl⟩ : ∃ n : Nat, s = (n : Int) := ⟨s.toNat, by omega⟩
  obtain ⟨m, rfl⟩ : ∃ m : Nat, b = (m : Int) := ⟨b.toNat, by omega⟩
  have e1 : (BitVec.ofInt 32 ((n : Int) * 256)).toNat = n * 256 := by
    rw [show ((n : Int) * 256) = ((n * 256 : Nat) : Int) by omega, BitVec.ofInt_natCast, BitVec.toNat_ofNat]; exact Nat.mod_eq_of_lt (by omega)
  have e2 : (BitVec.ofInt 32 (m : Int)).toNat = m := by
    rw [BitVec.ofInt_natCast, BitVec.toNat_ofNat]; exact Nat.mod_eq_of_lt (by omega)
  show IntKind.u32.wrap ((BitVec.ofInt 32 ((n : Int) * 256) ||| BitVec.ofInt 32 (m : Int)).toNat : Int) = _
  rw [BitVec.toNat_or, e1, e2, nat_orc n m (by omega), wrap_u32c (by omega) (by omega)]
  omega
theorem wholeL_valid (s : ByteArray) : ∀ n, validC (bs (wholeL s n)) = true
  | 0 => by
    show validC (bs ByteArray.empty) = true
    decide
  | n + 1 => by
    rw [wholeL_succ]
    split
    · assumption
    · exact wholeL_valid s n
theorem wholeC_valid (s : ByteArray) : validC (bs (wholeC s)) = true := by
  unfold wholeC
  split
  · exact wholeL_valid s _
  · decide
theorem told_range {c : Int} (h : toldB c = true) : 1000 ≤ c ∧ c ≤ 4999 := by
  unfold toldB at h
  simp at h
  omega
/-- Whatever the close, it may be taken as one. -/
theorem closes_all (code : Int) (reason : ByteArray) (h0 : 0 ≤ code ∧ code ≤ 4294967295) (hs : reason.size ≤ 3000) : ∃ d d2 c2, message_Close.f 7000 code reason = some (true, 8, false, 0, d) ∧ ClosesTo d d2 c2 := by
  have hB := bears code reason hs 7000 (Nat.le_refl _)
  cases ht : toldB code
  · have hd : dataC code reason = [] := by unfold dataC; rw [ht, if_neg (by decide)]
    rw [hd] at hB
    exact ⟨_, _, _, hB, closes_none⟩
  · have hd : dataC code reason = (code / 256 % 256) :: (code % 256) :: bs (wholeC reason) := by unfold dataC; rw [ht, if_pos rfl]; rfl
    rw [hd] at hB
    have hr := told_range ht
    have hz := wholeC_size reason
    have hcode : Go.bits .or .u32 (code / 256 % 256 * 256) (code % 256) = code := by
      rw [or_byte32c (by omega) (by omega) (by omega)]; omega
    have hv : utf_Valid.f 7000 (bs (wholeC reason)) = some true := by
      rw [valid_f _ (by rw [bs_length]; omega) 7000 (by rw [bs_length]; omega), wholeC_valid]
    exact ⟨_, _, _, hB, closes_ok (code / 256 % 256) (code % 256) (bs (wholeC reason)) code 7000 (by omega) (by omega) (by omega) (by omega) hcode ht hv (by rw [bs_length]; omega)⟩
theorem IsG.gw {w0 W : World} {g : Nat} {u : Value} {bu te ov : Bool} (h : IsG W g (.slice none 0 0) bu te u ov) (hb : Below w0.heap.size w0 W) (hg : w0.heap.size ≤ g) (hu : u.oneCell' = true) (ht : ∀ k, u = .pointer (some ⟨k, 0, none⟩) → ∃ cs, W.heap[k]? = some (.cells cs 107 (0, 0))) : Gw w0 W g (.slice none 0 0) u [] bu te ov := ⟨h, Kd.R_nil _ _ _ _ _, hb, hg, hu, ht⟩
set_option maxHeartbeats 16000000 in
set_option maxRecDepth 100000 in
theorem Pure.MessageRow : Says.MessageRow := by
  intro A0 c0 ll x1 x2 w l0 r0 o0 o1 o2 hg
  have b1 := wfc8 o1
  have b2 : 0 ≤ x2 ∧ x2 ≤ 4294967295 := by simpa [Lit.wf, IntKind.min, IntKind.max, IntKind.signed, IntKind.bits] using o2
  have hu26 := Tryd.underlying26
  have hu30 := Tryd.underlying30
  have hb8 : ∀ b ∈ ll, ∀ x ∈ b, 0 ≤ x ∧ x ≤ 255 := fun b hb x hx => wfc8 ((o0.1 b hb).1 x hx)
  have HC := Aside0.mk hg
  have HR1 := Aside0.mk r0
  have HB8 := Aside0.mk hb8
  have HX2 := Aside0.mk b2
  clear hg r0 o0 o1 o2 hb8 b2
  obtain ⟨M, hM⟩ : ∃ M, M = mostC x1 := ⟨_, rfl⟩
  have HMP := Aside0.mk (show 1 ≤ M ∧ M ≤ 4096 by rw [hM]; exact mostC_pos _)
  have HMM := Aside0.mk hM
  clear hM
  go_enter Tryd.func7, Tryd.ntmps7
  by_cases hbig : (20 : Int) < (ll.length : Int)
  · go_wp2_with fail
    refine (fixed_yes _).mono ?_
    rintro e w1 ⟨rfl, hb⟩
    go_wp2_with fail
    go_ret
    exact ⟨rfl, hb⟩
  · have hN : ll.length ≤ 20 := by omega
    clear hbig
    go_wp2_with fail
    refine (gnew_any _).mono ?_
    rintro e w3 ⟨rfl, hG, hb3⟩
    obtain ⟨g, hgg⟩ : ∃ g, g = w.heap.size := ⟨_, rfl⟩
    rw [← hgg] at hG ⊢
    have HG3 := Aside0.mk (show Gw w w3 g (.slice none 0 0) (.pointer none) [] false false false from ⟨hG, Kd.R_nil _ _ _ _ _, hb3, by rw [hgg]; exact Nat.le_refl _, rfl, fun k e => by cases e⟩)
    clear hG hb3 hgg
    go_wp2_with fail
    go_loopg [30] ll.length (fun mu iv wr => RowO w g ll.length mu iv wr)
    case atStart => exact ⟨0, _, _, rfl, by omega, HG3.out.bel, HG3.out⟩
    case round =>
      clear HG3
      obtain ⟨j, u0, te0, rfl, hj, hB, hG⟩ := hrel
      have HBo := Aside0.mk hB
      have HGo := Aside0.mk hG
      clear hB hG
      by_cases hlt : j < ll.length
      · obtain ⟨b, hbe⟩ : ∃ b, b = ll.getD j [] := ⟨_, rfl⟩
        have hbm : b ∈ ll := by rw [hbe, List.getD_eq_getElem?_getD, List.getElem?_eq_getElem hlt]; exact List.getElem_mem hlt
        obtain ⟨ad, cs, rfl, hcl, hK, hcell⟩ := Kd.C_get HR1.out [] (j : Int) (by omega) (by omega)
        rw [Int.toNat_natCast, ← hbe] at hK
        obtain ⟨A1, c1, rfl, hc1, hCb⟩ := hK
        have hce0 := hcell 0 _ rfl
        rw [Int.toNat_natCast, show j * (Kd.slice 5 (Kd.int .u8)).sz + 0 = j from Nat.mul_one j] at hce0
        have hce := (HBo.out.cell (World.block_lt_of_cell? _ _ hce0)).trans hce0
        clear hce0
        have HB8b := Aside0.mk (HB8.out b hbm)
        have HCb := Aside0.mk hCb
        have HJ := Aside0.mk hj
        clear hcell hcl hbe hbm hCb hj
        by_cases hbig : (500 : Int) < (b.length : Int)
        · go_wp2_with fail
          refine (fixed_yes _).mono ?_
          rintro e w1 ⟨rfl, hb⟩
          have HB9 := Aside0.mk (below_step HBo.out hb)
          clear hb
          go_wp2_with fail
          go_ret
          exact ⟨rfl, HB9.out⟩
        · have hbn : b.length ≤ 500 := by omega
          have hsz : (strOfNums b).size = b.length := by simp [strOfNums, ByteArray.size]
          have hGd := louverref15_Good.calls (2 * (strOfNums b).size + 41) (strOfNums b) _ _ wr (good_f (strOfNums b) (by rw [hsz]; omega) _ (Nat.le_refl _))
          rw [bs_str b HB8b.out] at hGd
          have hcs1 : (convert 24 9 (.slice A1 b.length c1)).run Tryd.prog wr = .ok (.string (strOfNums b)) wr := Kd.C_string Tryd.underlying24 Tryd.underlying5 Tryd.underlying9 (Kd.C_below HCb.out HBo.out)
          have HGd := Aside0.mk hGd
          clear hGd hsz
          go_wp2_with fail
          refine HGd.out.mono ?_
          rintro e w2 ⟨rfl, hb2⟩
          obtain ⟨x0, hx0⟩ : ∃ x0, x0 = validC b := ⟨_, rfl⟩
          obtain ⟨nb, hnb⟩ : ∃ nb : Int, nb = ((feedC s0 b).1 : Int) := ⟨_, rfl⟩
          rw [← hx0, ← hnb]
          obtain ⟨op0, hop0⟩ : ∃ op0 : Int, op0 = if x0 = true then 1 else 2 := ⟨_, rfl⟩
          have HOP0 := Aside0.mk hop0
          have HV := Aside0.mk hx0
          have HB2 := Aside0.mk (below_step HBo.out hb2)
          have HG2 := Aside0.mk (HGo.out.below hb2)
          have hct := cut_any x0 A1 c1 b x1 w2 (Kd.C_below HCb.out HB2.out) hc1 (by omega)
          rw [← HMM.out, ← hop0] at hct
          have HCT := Aside0.mk hct
          clear hct hop0 hx0 hnb hb2 hcs1 HGd HBo HGo
          go_wp2_with fail
          refine HCT.out.mono ?_
          rintro e w4 ⟨pv, ps, rfl, hcp, hpl, hR, hb⟩
          have HCP := Aside0.mk hcp
          have HB4 := Aside0.mk (below_step HB2.out hb)
          have HG4 := Aside0.mk (HG2.out.below hb)
          obtain ⟨Ap, cp, rfl⟩ := Kd.R_slice hR
          have HPR := Aside0.mk (rows_new (v := .slice none 0 0) hR (fun k e => by cases e))
          have HPL := Aside0.mk hpl
          clear hcp hb hR hpl HCT HB2 HG2
          go_wp2_with fail
          go_loopg [51] ps.length (fun mu iv wr => RowR w w2.heap.size g x0 op0 b M (.slice Ap ps.length cp) ps mu iv wr)
          case atStart => exact ⟨0, [], b, op0, ps, _, rfl, by omega, rfl, rfl, rfl, .inr ⟨HCP.out, rfl, fun h => absurd rfl h, fun _ => rfl⟩, HB4.out, HPR.out, _, _, _, _, _, _, HG4.out.gs 0 [], fun _ => ⟨rfl, rfl, fun h => (by cases h), fun _ => rfl⟩, fun h => absurd h HCP.out.ne⟩
          case round =>
            clear HPR HB4 HG4
            obtain ⟨i, dn, l, op, rem, v, rfl, hi, hdr, hdl, hmu, hcut, hB, hP, hG⟩ := hrel
            by_cases hlt : i < ps.length
            · rcases hcut with ⟨e, _⟩ | ⟨hcp, hop, hl0, hd0⟩
              · rw [e] at hi
                simp only [List.length_nil] at hi
                omega
              obtain ⟨p, rem', rfl⟩ : ∃ p r, rem = p :: r := by
                cases rem with
                | nil => exact absurd rfl hcp.ne
                | cons p r => exact ⟨p, r, rfl⟩
              obtain ⟨l', hp, hl, hpl, htail⟩ := hcp.head
              have hpi : ps[i] = p := by
                have h := congrArg (·[0]?) hdr
                simpa [hlt] using h
              have hdr' : ps.drop (i + 1) = rem' := by
                have h := congrArg List.tail hdr
                simpa [List.tail_drop] using h
              have hp1 : p.f1 = op := by rw [hp]
              have hp2 : p.f2 = false := by rw [hp]
              have hp3 : p.f3 = 0 := by rw [hp]
              obtain ⟨gp, A4, c4, rfl, e0, e1, e2, e3, e4, hR4⟩ := row_at hP i hlt
              rw [hpi] at e0 e1 e2 e3 e4 hR4
              rw [hp1] at e1
              rw [hp2] at e2
              rw [hp3] at e3
              obtain ⟨d, hd⟩ : ∃ d, d = p.f4 := ⟨_, rfl⟩
              obtain ⟨f0, hf0⟩ : ∃ f0, f0 = p.f0 := ⟨_, rfl⟩
              rw [← hd] at e4 hR4 hl hpl htail
              rw [← hf0] at e0 htail
              have hi2 : i + (rem'.length + 1) = ps.length := by simpa using hi
              have hll : l.length = d.length + l'.length := by rw [hl, List.length_append]
              have hbl : dn.length + d.length + l'.length = b.length := by rw [← hdl, hl, List.length_append, List.length_append]; omega
              obtain ⟨u, bb, busy, te, gu, f, hGs, hGr, _⟩ := hG
              obtain ⟨rfl, hby, hbt, hbf⟩ := hGr (by simp)
              have HT := Aside0.mk htail
              have HDR := Aside0.mk hdr'
              have HE := Aside0.mk hi2
              have HDL := Aside0.mk (show (bb ++ d) ++ l' = b by rw [List.append_assoc, ← hl, hdl])
              have HMU := Aside0.mk (show gk = rem'.length + 1 by simpa using hmu)
              have HOP := Aside0.mk hop
              have HL0 := Aside0.mk hl0
              have HD0 := Aside0.mk hd0
              have HLL := Aside0.mk hll
              have HBL := Aside0.mk hbl
              have HBY := Aside0.mk hby
              have HBT := Aside0.mk hbt
              have HBF := Aside0.mk hbf
              have HB := Aside0.mk hB
              have HP := Aside0.mk hP
              have HG := Aside0.mk hGs
              have HR4 := Aside0.mk hR4
              have hpl9 : ps.length ≤ 501 := by have := HPL.out; omega
              have hps1 : 1 ≤ ps.length := by omega
              have hi9 : i ≤ 501 := by omega
              clear hi hdr hdl hmu hcp hop hl0 hd0 hp hl hpl htail hpi hdr' hp1 hp2 hp3 hi2 hll hbl hB hP hGs hGr hby hbt hbf hR4 hd hf0
              go_upto_region 14 with fail
              have hbW : Below wr.heap.size wr (wr.alloc (.cells #[.bool f0, .int .u8 op, .bool false, .int .u32 0, .slice A4 d.length c4] 26)) := below_alloc (Below.refl _ _) _
              have hbx : (wr.alloc (.cells #[.bool f0, .int .u8 op, .bool false, .int .u32 0, .slice A4 d.length c4] 26)).heap[wr.heap.size]? = some (.cells #[.bool f0, .int .u8 op, .bool false, .int .u32 0, .slice A4 d.length c4] 26 (0, 0)) := last_at _ _ _ rfl
              generalize wr.alloc (.cells #[.bool f0, .int .u8 op, .bool false, .int .u32 0, .slice A4 d.length c4] 26) = W at hbW hbx ⊢
              obtain ⟨gb, hgb⟩ : ∃ gb, gb = wr.heap.size := ⟨_, rfl⟩
              rw [← hgb] at hbx ⊢
              have y0 : W.cell? ⟨gb, 0, none⟩ = some (.bool f0) := (blk_cell hbx 0).trans rfl
              have y1 : W.cell? ⟨gb, 1, none⟩ = some (.int .u8 op) := (blk_cell hbx 1).trans rfl
              have y2 : W.cell? ⟨gb, 2, none⟩ = some (.bool false) := (blk_cell hbx 2).trans rfl
              have y3 : W.cell? ⟨gb, 3, none⟩ = some (.int .u32 0) := (blk_cell hbx 3).trans rfl
              have y4 : W.cell? ⟨gb, 4, none⟩ = some (.slice A4 d.length c4) := (blk_cell hbx 4).trans rfl
              have HR6 := Aside0.mk (Kd.R_below HR4.out hbW)
              have HP6 := Aside0.mk (Kd.R_below HP.out hbW)
              have HG6 := Aside0.mk (HG.out.below hbW)
              clear e0 e1 e2 e3 e4 hbx hbW hgb HR4 HP HB HG
              have hlf : ((i : Int) == (ps.length : Int) - 1) = f0 := by
                rcases HT.out with ⟨rfl, hr, hl'⟩ | ⟨rfl, hcp', hdm, hl'⟩
                · rw [beq_iff_eq]; have h := HE.out; rw [hr] at h; simp only [List.length_nil] at h; omega
                · rw [beq_eq_false_iff_ne]
                  have h := HE.out
                  have h2 : rem'.length ≠ 0 := fun e => hcp'.ne (List.length_eq_zero_iff.mp e)
                  omega
              have hopc : op = 0 ∨ op = 1 ∨ op = 2 := by
                have h := HOP.out; have h2 := HOP0.out
                split at h <;> split at h2 <;> omega
              have htn : textN busy te op = x0 := by
                unfold textN
                have h := HOP.out; have h2 := HOP0.out
                by_cases h0 : i = 0
                · rw [if_neg (by rw [HBY.out]; simp [h0])]
                  rw [if_pos h0] at h
                  rw [h, h2]
                  cases x0 <;> rfl
                · have hb1 : busy = true := by rw [HBY.out]; simp [h0]
                  rw [if_pos hb1]
                  exact (HBT.out hb1).1
              have hpc : partC busy te f0 op bb d = 0 := by
                unfold partC
                have h := HOP.out; have h2 := HOP0.out
                rw [if_neg ?c1, if_neg (by have := HBL.out; omega), if_neg ?c2]
                case c1 =>
                  rw [HBY.out]
                  by_cases h0 : i = 0
                  · rw [if_pos h0] at h
                    rw [h, h2]
                    simp only [h0]
                    cases x0 <;> decide
                  · rw [if_neg h0] at h
                    rw [h]
                    simp [h0]
                case c2 =>
                  rw [htn]
                  rintro ⟨hx, h3⟩
                  have hv : validC b = true := HV.out.symm.trans hx
                  have hf9 : (feedC s0 b).2.2 = false := by
                    unfold validC at hv
                    simp only [Bool.and_eq_true, Bool.not_eq_true'] at hv
                    exact hv.1
                  have hf8 : (feedC s0 (bb ++ d)).2.2 = false := feedC_left (b := l') (by rw [HDL.out]; exact hf9)
                  rcases h3 with h3 | ⟨h3, h4⟩
                  · rw [hf8] at h3; cases h3
                  · rcases HT.out with ⟨_, _, h5⟩ | ⟨h5, _⟩
                    · have h6 := HDL.out
                      rw [h5, List.append_nil] at h6
                      rw [h6, hv] at h4
                      cases h4
                    · rw [h5] at h3; cases h3
              have HTN := Aside0.mk htn
              have HFF := Aside0.mk (show (busy = true → f = if te = true then bb else []) ∧ (busy = false → bb = []) from ⟨fun h => (HBT.out h).2, HBF.out⟩)
              have HPC := Aside0.mk hpc
              have HOC := Aside0.mk hopc
              have hbl4 : bb.length ≤ 4096 := by have := HBL.out; omega
              have hdl4 : d.length ≤ 1000000000 := by have := HBL.out; omega
              have HII := Aside0.mk (show ((i + 1 : Nat) : Int) = (i : Int) + 1 by omega)
              have HN := Aside0.mk (show (rem' = [] ∧ l' = []) ∨ (CutP M 0 l' rem' ∧ (0 : Int) = (if i + 1 = 0 then op0 else 0) ∧ (i + 1 ≠ 0 → l'.length ≠ 0) ∧ (i + 1 = 0 → bb ++ d = [])) by
                rcases HT.out with ⟨_, h1, h2⟩ | ⟨_, h1, _, h2⟩
                · exact .inl ⟨h1, h2⟩
                · exact .inr ⟨h1, by rw [if_neg (by omega)], fun _ => h2, fun h => absurd h (by omega)⟩)
              clear htn hpc hopc
              rcases HT.out with ⟨rfl, hr, hl'⟩ | ⟨rfl, hcp', hdm, hl'⟩
              · skip
                as_aux_lemma =>
                  have HLR := Aside0.mk (And.intro hr hl')
                  clear hr hl'
                  go_wp2_with fail
                  refine (TakeTold HG6.out HFF.out (Dat.of_row HR6.out) (fun k e => (HR6.out.1 k e).symm) hbl4 hdl4 HOC.out HPC.out rfl).mono ?_
                  rintro e w5 ⟨vn, u', rfl, hG5, hRn, hF5, hn5⟩
                  rw [HTN.out] at hG5 ⊢
                  have hbd : bb ++ d = b := by have h := HDL.out; rw [HLR.out.2, List.append_nil] at h; exact h
                  rw [hbd] at hRn
                  obtain ⟨An, cn, rfl⟩ := Kd.R_slice hRn
                  have hbn : Below w5.heap.size w5 (w5.alloc (.cells #[.int .u8 1, .bool x0, .slice An b.length cn, .int .u32 0] 30)) := below_alloc (Below.refl _ _) _
                  have hcsn : (convert 24 9 (.slice An b.length cn)).run Tryd.prog (w5.alloc (.cells #[.int .u8 1, .bool x0, .slice An b.length cn, .int .u32 0] 30)) = .ok (.string (strOfNums b)) (w5.alloc (.cells #[.int .u8 1, .bool x0, .slice An b.length cn, .int .u32 0] 30)) := Kd.C_string Tryd.underlying24 Tryd.underlying5 Tryd.underlying9 (Kd.C_below (Kd.R_reads' hRn).2.2 hbn)
                  have hcsb : (convert 24 9 (.slice A1 b.length c1)).run Tryd.prog (w5.alloc (.cells #[.int .u8 1, .bool x0, .slice An b.length cn, .int .u32 0] 30)) = .ok (.string (strOfNums b)) (w5.alloc (.cells #[.int .u8 1, .bool x0, .slice An b.length cn, .int .u32 0] 30)) := Kd.C_string Tryd.underlying24 Tryd.underlying5 Tryd.underlying9 (Kd.C_below HCb.out (below_step hG5.bel hbn))
                  have HG5 := Aside0.mk (hG5.below hbn)
                  have HP7 := Aside0.mk (Kd.R_below (Fr.rows HG6.out.gw hF5 (v' := .slice none 0 0) (.inr (.inl rfl)) (fun q hq => pm_types hq) HP6.out) hbn)
                  clear hRn hF5 hG5 hbn hn5 hbd
                  go_wp2_with fail
                  go_roundg rem'.length
                  case measure => have := HMU.out; omega
                  case rel => exact ⟨i + 1, bb ++ d, l', 0, rem', .slice none 0 0, by rw [HII.out], by have := HE.out; omega, HDR.out, HDL.out, rfl, HN.out, HG5.out.bel, HP7.out, u', [], false, x0, 0, [], HG5.out.gs 0 [], fun h => absurd HLR.out.1 h, fun _ => ⟨rfl, rfl, rfl⟩⟩
              · skip
                as_aux_lemma =>
                  have HNE := Aside0.mk hcp'.ne
                  clear hcp' hdm hl'
                  go_wp2_with fail
                  refine (TakeMore HG6.out HFF.out (Dat.of_row HR6.out) (fun k e => (HR6.out.1 k e).symm) hbl4 hdl4 HOC.out HPC.out rfl).mono ?_
                  rintro e w5 ⟨rfl, v', u', gu', hG5, hF5, hn5⟩
                  rw [HTN.out] at hG5
                  have hbn : Below w5.heap.size w5 (w5.alloc (.cells #[.int .u8 0, .bool false, .slice none 0 0, .int .u32 0] 30)) := below_alloc (Below.refl _ _) _
                  have HG5 := Aside0.mk (hG5.below hbn)
                  have HP7 := Aside0.mk (Kd.R_below (Fr.rows HG6.out.gw hF5 (v' := v') hn5 (fun q hq => pm_types hq) HP6.out) hbn)
                  clear hF5 hG5 hbn hn5
                  go_wp2_with fail
                  go_roundg rem'.length
                  case measure => have := HMU.out; omega
                  case rel => exact ⟨i + 1, bb ++ d, l', 0, rem', v', by rw [HII.out], by have := HE.out; omega, HDR.out, HDL.out, rfl, HN.out, HG5.out.gw.bel, HP7.out, u', _, true, x0, gu', _, HG5.out, fun h => ⟨rfl, by simp, fun _ => ⟨rfl, rfl⟩, fun h => by cases h⟩, fun h => absurd h HNE.out⟩
            · have hrem : rem = [] := by
                cases rem with
                | nil => rfl
                | cons a r => exfalso; simp only [List.length_cons] at hi; omega
              obtain ⟨u, bb, busy, te, gu, f, hGs, _, hGr⟩ := hG
              obtain ⟨rfl, rfl, rfl⟩ := hGr hrem
              have hie : (i : Int) = (ps.length : Int) := by rw [hrem] at hi; simp only [List.length_nil] at hi; omega
              have HG5 := Aside0.mk hGs.gw
              clear hi hdr hdl hmu hcut hrem hB hP hGs hGr
              go_wp2_with fail
              go_roundg (ll.length - (j + 1))
              case measure => have := HJ.out; omega
              case rel => exact ⟨j + 1, u, te, by rw [show ((j + 1 : Nat) : Int) = (j : Int) + 1 by omega], by omega, HG5.out.bel, HG5.out⟩
      · have hje : (j : Int) = (ll.length : Int) := by omega
        obtain ⟨d, d2, c2, hcf, hcl⟩ := closes_all x2 ByteArray.empty HX2.out (by decide)
        have HCL := Aside0.mk hcl
        have HCF := Aside0.mk hcf
        clear hcl hcf hj
        go_wp2_with fail
        refine (message_Close.calls 7000 x2 _ true 8 false 0 d _ HCF.out).mono ?_
        rintro e w5 ⟨vd, rfl, ho, hb⟩
        obtain ⟨Ad, cd, rfl⟩ := Kd.R_slice ho
        have HD := Aside0.mk (Kd.R_reads' ho).2.2
        have hcd : d.length ≤ cd := (Kd.R_reads' ho).2.1
        have HG5 := Aside0.mk (HGo.out.below hb)
        clear ho hb HGo HBo
        go_wp2_with fail
        refine (Take_close d d2 c2 HCL.out g (.slice none 0 0) u0 false te0 Ad cd _ rfl HG5.out.blk HD.out hcd).mono ?_
        rintro e w6 ⟨vn, rfl, ho, hG6, hk, hB0⟩
        obtain ⟨Av, cv, rfl⟩ := Kd.R_slice ho
        have HG6 := Aside0.mk (IsG.gw (w0 := w) hG6 (hB0 w HG5.out.base HG5.out.bel) HG5.out.base HG5.out.one (fun q eq => by
          obtain ⟨cs, h⟩ := HG5.out.uty q eq
          exact ⟨cs, (hk.2 q (blk_lt h) (blk_ne h HG5.out.blk (by decide)) (by simp)).trans h⟩))
        clear ho hG6 hk hB0 HG5 HD
        go_upto_region 20 with fail
        have hbn := below_alloc (Below.refl w6.heap.size w6) (.cells #[.int .u8 4, .bool false, .slice Av d2.length cv, .int .u32 c2] 30)
        have hnx : (w6.alloc (.cells #[.int .u8 4, .bool false, .slice Av d2.length cv, .int .u32 c2] 30)).heap[w6.heap.size]? = some (.cells #[.int .u8 4, .bool false, .slice Av d2.length cv, .int .u32 c2] 30 (0, 0)) := last_at _ _ _ rfl
        generalize w6.alloc (.cells #[.int .u8 4, .bool false, .slice Av d2.length cv, .int .u32 c2] 30) = W at hbn hnx ⊢
        obtain ⟨gn, hgn⟩ : ∃ gn, gn = w6.heap.size := ⟨_, rfl⟩
        rw [← hgn] at hnx ⊢
        have n0 : W.cell? ⟨gn, 0, none⟩ = some (.int .u8 4) := (blk_cell hnx 0).trans rfl
        have HG7 := Aside0.mk (HG6.out.below hbn)
        clear hbn hnx hgn HG6
        have kc := Lib.run_convert_bytes_const (P := Tryd.prog) W 24 5 #[.int .u8 120] 1 1 Tryd.underlying24 Tryd.underlying5
        have hba : Below W.heap.size W (W.alloc (.cells #[.int .u8 120] 5 (1, 2))) := below_alloc (Below.refl _ _) _
        have HCx : Aside0 (Kd.C (Kd.int .u8) (W.alloc (.cells #[.int .u8 120] 5 (1, 2))) (some ⟨W.heap.size, 0, none⟩) [120].length [120]) := ⟨C_marked W 5 (1, 2) [120] (by decide)⟩
        have HG8 := Aside0.mk (HG7.out.below hba)
        clear hba HG7
        go_wp2_with fail
        refine (cut_any false (some ⟨W.heap.size, 0, none⟩) 1 [120] 9 _ HCx.out (by decide) (by decide)).mono ?_
        rintro e w7 ⟨pv, ps, rfl, hcp, hpl, hR, hb⟩
        obtain ⟨Ap, cp, rfl⟩ := Kd.R_slice hR
        have HPR := Aside0.mk (rows_new (v := .slice none 0 0) hR (fun k e => by cases e))
        have HG9 := Aside0.mk (HG8.out.below hb)
        have hpl2 : ps.length ≤ 2 := by simpa using hpl
        clear hcp hpl hR hb HG8 HCx kc n0
        go_wp2_with fail
        go_loopg [111] ps.length (fun mu iv wr => RowE w (W.heap.size + 1) g (.slice Ap ps.length cp) ps mu iv wr)
        case atStart => exact ⟨0, _, _, _, rfl, by omega, HG9.out.bel, HG9.out, by simpa using HPR.out⟩
        case round =>
          clear HPR HG9
          obtain ⟨i, u1, bu, te, rfl, hi, hB, hG, hP⟩ := hrel
          by_cases hlt : i < ps.length
          · obtain ⟨gp, A4, c4, rfl, e0, e1, e2, e3, e4, hR4⟩ := row_at hP i hlt
            obtain ⟨p, hp⟩ : ∃ p, p = ps[i] := ⟨_, rfl⟩
            rw [← hp] at e0 e1 e2 e3 e4 hR4
            obtain ⟨p0, p1, p2, p3, d4⟩ := p
            obtain ⟨n4, hn4⟩ : ∃ n, n = d4.length := ⟨_, rfl⟩
            simp only at e0 e1 e2 e3 e4
            rw [← hn4] at e4
            have HG := Aside0.mk hG
            have HP := Aside0.mk hP
            have HI := Aside0.mk hi
            clear hG hP hi hB hR4 hn4 hp
            go_upto_region 25 with fail
            have hbW : Below wr.heap.size wr (wr.alloc (.cells #[.bool p0, .int .u8 p1, .bool p2, .int .u32 p3, .slice A4 n4 c4] 26)) := below_alloc (Below.refl _ _) _
            have hbx : (wr.alloc (.cells #[.bool p0, .int .u8 p1, .bool p2, .int .u32 p3, .slice A4 n4 c4] 26)).heap[wr.heap.size]? = some (.cells #[.bool p0, .int .u8 p1, .bool p2, .int .u32 p3, .slice A4 n4 c4] 26 (0, 0)) := last_at _ _ _ rfl
            generalize wr.alloc (.cells #[.bool p0, .int .u8 p1, .bool p2, .int .u32 p3, .slice A4 n4 c4] 26) = W2 at hbW hbx ⊢
            obtain ⟨gb, hgb⟩ : ∃ gb, gb = wr.heap.size := ⟨_, rfl⟩
            rw [← hgb] at hbx ⊢
            have y0 : W2.cell? ⟨gb, 0, none⟩ = some (.bool p0) := (blk_cell hbx 0).trans rfl
            have y1 : W2.cell? ⟨gb, 1, none⟩ = some (.int .u8 p1) := (blk_cell hbx 1).trans rfl
            have y2 : W2.cell? ⟨gb, 2, none⟩ = some (.bool p2) := (blk_cell hbx 2).trans rfl
            have y3 : W2.cell? ⟨gb, 3, none⟩ = some (.int .u32 p3) := (blk_cell hbx 3).trans rfl
            have y4 : W2.cell? ⟨gb, 4, none⟩ = some (.slice A4 n4 c4) := (blk_cell hbx 4).trans rfl
            have HP6 := Aside0.mk (Kd.R_below HP.out hbW)
            have HG6 := Aside0.mk (HG.out.below hbW)
            clear e0 e1 e2 e3 e4 hbx hbW hgb HP HG
            go_wp2_with fail
            refine (Take_over HG6.out).mono ?_
            rintro e w8 ⟨rfl, hb⟩
            have hbn : Below w8.heap.size w8 (w8.alloc (.cells #[.int .u8 0, .bool false, .slice none 0 0, .int .u32 0] 30)) := below_alloc (Below.refl _ _) _
            have HG7 := Aside0.mk ((HG6.out.below hb).below hbn)
            have HP7 := Aside0.mk (Kd.R_below (Kd.R_below HP6.out hb) hbn)
            clear hb hbn
            go_wp2_with fail
            go_roundg (ps.length - (i + 1))
            case measure => have := HI.out; omega
            case rel => exact ⟨i + 1, _, _, _, by rw [show ((i + 1 : Nat) : Int) = (i : Int) + 1 by omega], by omega, HG7.out.bel, HG7.out, HP7.out⟩
          · have hie : (i : Int) = (ps.length : Int) := by omega
            have HG := Aside0.mk hG
            clear hG hP hi hB
            go_wp2_with fail
            refine (fixed_yes _).mono ?_
            rintro e w8 ⟨rfl, hb⟩
            have HG8 := Aside0.mk (HG.out.below hb)
            clear hb HG
            go_wp2_with fail
            refine (over_any g _ _ _ _ _ _ HG8.out.blk).mono ?_
            rintro e w9 ⟨rfl, rfl⟩
            go_wp2_with fail
            go_ret
            exact ⟨rfl, HG8.out.bel⟩
end Go.Proofs.YtbjjobifpmjhhaaDoor

