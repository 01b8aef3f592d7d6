/- What the law's row rests on, part 10. -/
import Derived.Test.YtbjjobifpmjhhaaDoorZ9
import Derived.Deep.CutBlock
import Derived.Lib.SlBytesConst
/- A message that is cut is gathered again as it was. -/
namespace Go.Proofs.YtbjjobifpmjhhaaDoor
open Go.RowKit Go.Proofs.YtbjjobifpmjhhaaDoorW.PrintWords Go.Proofs.YtbjjobifpmjhhaaDoorW.PrintLast Go.Proofs.YtbjjobifpmjhhaaDoorW.PrintMore Go.Proofs.YtbjjobifpmjhhaaDoor.PAll Go.Proofs.YtbjjobifpmjhhaaDoor.U
set_option linter.unusedVariables false
set_option linter.unusedSimpArgs false
theorem wfc8 {x : Int} (h : (Lit.int .u8 x).wf = true) : 0 ≤ x ∧ x ≤ 255 := by simpa [Lit.wf, IntKind.min, IntKind.max, IntKind.signed, IntKind.bits] using h
theorem strc_append (a b : List Int) : strOfNums a ++ strOfNums b = strOfNums (a ++ b) := by
  apply ByteArray.ext
  simp [strOfNums, ByteArray.data_append]
theorem C_marked (W : World) (t : TypeId) (fr : Nat × Nat) (xs : List Int) (hm : xs.length ≤ 9223372036854775807) : (Kd.int .u8).C (W.alloc (.cells (nums .u8 xs).toArray t fr)) (some ⟨W.heap.size, 0, none⟩) xs.length xs := by
  refine Kd.C_of_reads (d := 0) ⟨rfl, hm, fun _ => ⟨_, rfl, fun j hj => ?_⟩⟩
  rw [add_plain, World.cell?_alloc_mark]
  simp [nums, hj]
theorem x_same : (strOfNums [120]).toList = [120] := by
  have : ∀ b : ByteArray, b.data.toList = [120] → b.toList = [120] := fun b h => by
    rw [ByteArray.toList_eq, h]
  exact this _ (by decide +kernel)
abbrev Prow (w : World) (base : Nat) (v pv : Value) (ps : List Pm) : Prop := Kd.R k26 26 w base (fun q => some q ≠ v.ownBlock) pv ps
theorem Fr.box {w0 w W : World} {o : Obj} {g : Nat} {v u : Value} {b : List Int} {busy text over : Bool} (hg : Gw w0 w g v u b busy text over) (hf : Fr (w.alloc o) W g v u) : W.heap[w.heap.size]? = some o := by
  have h := hf.same w.heap.size (by simp) (fun e => by have := blk_lt hg.blk; omega) (fun e => by have := Kd.R_lt hg.row _ e.symm; omega) (fun e => by have := hg.ulow _ e; omega)
  refine h.trans ?_
  show (w.heap.push o)[w.heap.size]? = some o
  simp
/-- The gatherer in the loop. -/
def CutsG (w0 wr : World) (g : Nat) (x0 : Bool) (i : Nat) (dn : List Int) (rem : List Pm) (v : Value) : Prop :=
  ∃ u b1 busy te gu f, Gs w0 wr g v u b1 busy te false gu f ∧ (rem ≠ [] → b1 = dn ∧ busy = decide (i ≠ 0) ∧ (busy = true → te = x0 ∧ f = if te = true then b1 else []) ∧ (busy = false → b1 = []))
def CutsR (w0 : World) (base g : Nat) (x0 r : Bool) (op0 : Int) (b : List Int) (M : Nat) (pv : Value) (ps : List Pm) (mu : Nat) (sv iv : Value) (wr : World) : Prop :=
  ∃ (i : Nat) (dn l : List Int) (op : Int) (rem : List Pm) (v : Value), sv = .string (strOfNums dn) ∧ iv = .int .i64 (i : Nat) ∧ i + rem.length = ps.length ∧ ps.drop i = rem ∧ dn ++ l = b ∧ mu = rem.length ∧ ((rem = [] ∧ l = []) ∨ (CutP M op l rem ∧ op = (if i = 0 then op0 else 0) ∧ (i ≠ 0 → l.length ≠ 0) ∧ (i = 0 → dn = []))) ∧ Below w0.heap.size w0 wr ∧ Prow wr base v pv ps ∧ (r = true → CutsG w0 wr g x0 i dn rem v)
theorem u8_types {q : Nat} (hq : q ∈ 5 :: (Kd.int .u8).E) : q ≠ 60 ∧ q ≠ 107 := by
  simp [Kd.int, Kd.scalar] at hq
  omega
set_option maxHeartbeats 16000000 in
set_option maxRecDepth 100000 in
theorem Pure.MessageCuts : Says.MessageCuts := by
  intro x0 A1 c1 b x2 x3 w l1 r1 o1 o2 o3 hg
  have b3 := wfc8 o3
  have hb8 : ∀ x ∈ b, 0 ≤ x ∧ x ≤ 255 := fun x hx => wfc8 (o1.1 x hx)
  have hu26 := Tryd.underlying26
  have hu30 := Tryd.underlying30
  have HC := Aside0.mk hg
  have HR1 := Aside0.mk r1
  have HB8 := Aside0.mk hb8
  clear hg r1 o1 o2 o3 hb8
  obtain ⟨M, hM⟩ : ∃ M, M = mostC x2 := ⟨_, rfl⟩
  have HMP := Aside0.mk (show 1 ≤ M ∧ M ≤ 4096 by rw [hM]; exact mostC_pos _)
  have HMM := Aside0.mk hM
  go_enter Tryd.func6, Tryd.ntmps6
  by_cases hbig : (9000 : Int) < (b.length : Int)
  · clear hM
    go_wp2_with fail
    refine (fixed_yes _).mono ?_
    rintro e w1 ⟨rfl, hb⟩
    go_wp2_with fail
    go_ret
    exact ⟨rfl, hb⟩
  · have hN : b.length ≤ 9000 := by omega
    obtain ⟨op0, hop0⟩ : ∃ op0 : Int, op0 = if x0 = true then 1 else 2 := ⟨_, rfl⟩
    have hct := cut_any x0 A1 c1 b x2 w HR1.out l1 (by omega)
    rw [← hM, ← hop0] at hct
    have HOP0 := Aside0.mk hop0
    clear hM hop0
    go_wp2_with fail
    refine hct.mono ?_
    rintro e w1 ⟨pv, ps, rfl, hcp, hpl, hR, hb⟩
    have HCP := Aside0.mk hcp
    have HB1 := Aside0.mk hb
    obtain ⟨Ap, cp, rfl⟩ := Kd.R_slice hR
    have HPR := Aside0.mk (rows_new (v := .slice none 0 0) hR (fun k e => by cases e))
    have HPL := Aside0.mk hpl
    clear hct hcp hb hR hpl
    go_upto_if 34 with fail
    go_cut [10] (fun v wc => v = .int .i64 (if x2 < 1 then 1 else x2) ∧ wc = w1)
    case first =>
      by_cases h1 : x2 < 1
      · go_wp2_with fail
        go_meet
        case rel => exact ⟨by rw [if_pos h1], rfl⟩
      · go_wp2_with fail
        go_meet
        case rel => exact ⟨by rw [if_neg (by omega)], rfl⟩
    case rest =>
      obtain ⟨rfl, rfl⟩ := hcut
      obtain ⟨s1, hs1⟩ : ∃ s1 : Int, s1 = if x2 < 1 then 1 else x2 := ⟨_, rfl⟩
      rw [← hs1]
      have HS1 := Aside0.mk hs1
      clear hs1
      go_upto_if 36 with fail
      go_cut [10] (fun v wc2 => v = .int .i64 (M : Int) ∧ wc2 = wc)
      case first =>
        by_cases h1 : (4096 : Int) < s1
        · go_wp2_with fail
          go_meet
          case rel => exact ⟨by have h := HS1.out; have h2 := HMM.out; unfold mostC at h2; congr 1; split at h2 <;> split at h <;> (try split at h2) <;> omega, rfl⟩
        · go_wp2_with fail
          go_meet
          case rel => exact ⟨by have h := HS1.out; have h2 := HMM.out; unfold mostC at h2; congr 1; split at h2 <;> split at h <;> (try split at h2) <;> omega, rfl⟩
      case rest =>
        obtain ⟨rfl, rfl⟩ := hcut
        clear HS1
        have hsz : (strOfNums b).size = b.length := by simp [strOfNums, ByteArray.size]
        have hGd := louverref15_Good.calls (2 * (strOfNums b).size + 41) (strOfNums b) _ _ wc (good_f (strOfNums b) (by rw [hsz]; omega) _ (Nat.le_refl _))
        rw [bs_str b HB8.out] at hGd
        have hcs1 : (convert 24 9 (.slice A1 b.length c1)).run Tryd.prog wc = .ok (.string (strOfNums b)) wc := Kd.C_string Tryd.underlying24 Tryd.underlying5 Tryd.underlying9 (Kd.C_below HR1.out HB1.out)
        have HGd := Aside0.mk hGd
        clear hGd hsz
        go_wp2_with fail
        refine HGd.out.mono ?_
        rintro e w2 ⟨rfl, hb2⟩
        have HB2 := Aside0.mk (below_step HB1.out hb2)
        have HPR2 := Aside0.mk (Kd.R_below HPR.out hb2)
        obtain ⟨vl, hvl⟩ : ∃ vl, vl = validC b := ⟨_, rfl⟩
        obtain ⟨nb, hnb⟩ : ∃ nb : Int, nb = ((feedC s0 b).1 : Int) := ⟨_, rfl⟩
        rw [← hvl, ← hnb]
        obtain ⟨r, hr⟩ : ∃ r : Bool, r = (decide (b.length ≤ 4096) && (!x0 || vl)) := ⟨_, rfl⟩
        have HRR := Aside0.mk (show r = true → b.length ≤ 4096 ∧ (x0 = true → validC b = true) by
          intro h
          rw [hr] at h
          simp only [Bool.and_eq_true, decide_eq_true_eq, Bool.or_eq_true, Bool.not_eq_true'] at h
          exact ⟨h.1, fun h0 => by rw [← hvl]; exact h.2.elim (fun h2 => by rw [h0] at h2; cases h2) id⟩)
        have HR0 := Aside0.mk hr
        clear hb2 hcs1 hvl hnb hr HGd HB1 HPR
        go_upto_region 10 with fail
        go_cut [13] (fun v wc2 => v = .bool r ∧ wc2 = w2)
        case first =>
          as_aux_lemma =>
            by_cases h4 : (b.length : Int) ≤ 4096
            · have h4n : b.length ≤ 4096 := by omega
              cases x0 <;> cases vl <;> (go_wp2_with fail; go_meet; case rel => exact ⟨by rw [HR0.out, decide_eq_true h4n]; rfl, rfl⟩)
            · have h4n : ¬ b.length ≤ 4096 := by omega
              go_wp2_with fail
              go_meet
              case rel => exact ⟨by rw [HR0.out, decide_eq_false h4n]; rfl, rfl⟩
        case rest =>
          obtain ⟨rfl, rfl⟩ := hcut
          clear HR0
          go_wp2_with fail
          refine (gnew_any _).mono ?_
          rintro e w3 ⟨rfl, hG, hb3⟩
          have HB3 := Aside0.mk (below_step HB2.out hb3)
          have HPR3 := Aside0.mk (Kd.R_below HPR2.out hb3)
          obtain ⟨g, hgg⟩ : ∃ g, g = wc.heap.size := ⟨_, rfl⟩
          rw [← hgg] at hG ⊢
          have HG3 := Aside0.mk (show Gs w w3 g (.slice none 0 0) (.pointer none) [] false false false 0 [] from ⟨⟨hG, Kd.R_nil _ _ _ _ _, HB3.out, by rw [hgg]; exact HB2.out.size, rfl, fun k e => by cases e⟩, fun h => by cases h⟩)
          clear hG hb3 hgg HPR2
          go_wp2_with fail
          go_loopg [15, 56] ps.length (fun mu sv iv wr => CutsR w w.heap.size g x0 r op0 b M (.slice Ap ps.length cp) ps mu sv iv wr)
          case atStart =>
            exact ⟨0, [], b, op0, ps, _, rfl, rfl, by omega, rfl, rfl, rfl, .inr ⟨HCP.out, rfl, fun h => absurd rfl h, fun _ => rfl⟩, HB3.out, HPR3.out, fun _ => ⟨_, _, _, _, _, _, HG3.out, fun _ => ⟨rfl, rfl, fun h => (by cases h), fun _ => rfl⟩⟩⟩
          case round =>
            clear HG3 HPR3 HB3 HB2
            obtain ⟨i, dn, l, op, rem, v, rfl, rfl, hi, hdr, hdl, hmu, hcut, hB, hP, hG⟩ := hrel
            by_cases hlt : i < ps.length
            · rcases hcut with ⟨e, _⟩ | ⟨hcp, hop, hl0, hd0⟩
              · rw [e] at hi
                simp only [List.length_nil] at hi
                omega
              obtain ⟨p, rem', rfl⟩ : ∃ p r, rem = p :: r := by
                cases rem with
                | nil => exact absurd rfl hcp.ne
                | cons p r => exact ⟨p, r, rfl⟩
              obtain ⟨l', hp, hl, hpl, htail⟩ := hcp.head
              have hpi : ps[i] = p := by
                have h := congrArg (·[0]?) hdr
                simpa [hlt] using h
              have hdr' : ps.drop (i + 1) = rem' := by
                have h := congrArg List.tail hdr
                simpa [List.tail_drop] using h
              have hp1 : p.f1 = op := by rw [hp]
              have hp2 : p.f2 = false := by rw [hp]
              have hp3 : p.f3 = 0 := by rw [hp]
              obtain ⟨gp, A4, c4, rfl, e0, e1, e2, e3, e4, hR4⟩ := row_at hP i hlt
              rw [hpi] at e0 e1 e2 e3 e4 hR4
              rw [hp1] at e1
              rw [hp2] at e2
              rw [hp3] at e3
              obtain ⟨d, hd⟩ : ∃ d, d = p.f4 := ⟨_, rfl⟩
              obtain ⟨f0, hf0⟩ : ∃ f0, f0 = p.f0 := ⟨_, rfl⟩
              rw [← hd] at e4 hR4 hl hpl htail
              rw [← hf0] at e0 htail
              have hi2 : i + (rem'.length + 1) = ps.length := by simpa using hi
              have hll : l.length = d.length + l'.length := by rw [hl, List.length_append]
              have hbl : dn.length + d.length + l'.length = b.length := by rw [← hdl, hl, List.length_append, List.length_append]; omega
              have HT := Aside0.mk htail
              have HDR := Aside0.mk hdr'
              have HE := Aside0.mk hi2
              have HDL := Aside0.mk (show (dn ++ d) ++ l' = b by rw [List.append_assoc, ← hl, hdl])
              have HMU := Aside0.mk (show gk = rem'.length + 1 by simpa using hmu)
              have HOP := Aside0.mk hop
              have HL0 := Aside0.mk hl0
              have HD0 := Aside0.mk hd0
              have HLL := Aside0.mk hll
              have HBL := Aside0.mk hbl
              have HB := Aside0.mk hB
              have HP := Aside0.mk hP
              have HG := Aside0.mk hG
              have HR4 := Aside0.mk hR4
              have HPM := Aside0.mk hpl
              have hpl9 : ps.length ≤ 9001 := by have := HPL.out; omega
              have hps1 : 1 ≤ ps.length := by omega
              have hi9 : i ≤ 9001 := by omega
              clear hi hdr hdl hmu hcp hop hl0 hd0 hp hl hpl htail hpi hdr' hp1 hp2 hp3 hi2 hll hbl hB hP hG hR4 hd hf0
              go_upto_region 16 with fail
              have hbW : Below wr.heap.size wr (wr.alloc (.cells #[.bool f0, .int .u8 op, .bool false, .int .u32 0, .slice A4 d.length c4] 26)) := below_alloc (Below.refl _ _) _
              have hbx : (wr.alloc (.cells #[.bool f0, .int .u8 op, .bool false, .int .u32 0, .slice A4 d.length c4] 26)).heap[wr.heap.size]? = some (.cells #[.bool f0, .int .u8 op, .bool false, .int .u32 0, .slice A4 d.length c4] 26 (0, 0)) := last_at _ _ _ rfl
              generalize wr.alloc (.cells #[.bool f0, .int .u8 op, .bool false, .int .u32 0, .slice A4 d.length c4] 26) = W at hbW hbx ⊢
              obtain ⟨gb, hgb⟩ : ∃ gb, gb = wr.heap.size := ⟨_, rfl⟩
              rw [← hgb] at hbx ⊢
              have y0 : W.cell? ⟨gb, 0, none⟩ = some (.bool f0) := (blk_cell hbx 0).trans rfl
              have y1 : W.cell? ⟨gb, 1, none⟩ = some (.int .u8 op) := (blk_cell hbx 1).trans rfl
              have y2 : W.cell? ⟨gb, 2, none⟩ = some (.bool false) := (blk_cell hbx 2).trans rfl
              have y3 : W.cell? ⟨gb, 3, none⟩ = some (.int .u32 0) := (blk_cell hbx 3).trans rfl
              have y4 : W.cell? ⟨gb, 4, none⟩ = some (.slice A4 d.length c4) := (blk_cell hbx 4).trans rfl
              have HBX := Aside0.mk hbx
              have HR5 := Aside0.mk (Kd.R_below HR4.out hbW)
              have HP5 := Aside0.mk (Kd.R_below HP.out hbW)
              have HB5 := Aside0.mk (below_step HB.out hbW)
              have HGg : Aside0 (r = true → CutsG w W g x0 i dn (p :: rem') v) := ⟨fun h => by
                obtain ⟨u, b1, busy, te, gu, f, h1, h2⟩ := HG.out h
                exact ⟨u, b1, busy, te, gu, f, h1.below hbW, h2⟩⟩
              clear e0 e1 e2 e3 e4 hbx hbW hgb HR4 HP HB HG
              have hlf : ((i : Int) == (ps.length : Int) - 1) = f0 := by
                rcases HT.out with ⟨rfl, hr, hl'⟩ | ⟨rfl, hcp', hdm, hl'⟩
                · rw [beq_iff_eq]; have h := HE.out; rw [hr] at h; simp only [List.length_nil] at h; omega
                · rw [beq_eq_false_iff_ne]
                  have h := HE.out
                  have h2 : rem'.length ≠ 0 := fun e => hcp'.ne (List.length_eq_zero_iff.mp e)
                  omega
              go_upto_if 66 with fail
              clear hlf
              go_cut [19] (fun v wc => v = .int .u8 op0 ∧ wc = W)
              case first =>
                cases x0 with
                | true =>
                  go_wp2_with fail
                  go_meet
                  case rel => exact ⟨by rw [HOP0.out]; rfl, rfl⟩
                | false =>
                  go_wp2_with fail
                  go_meet
                  case rel => exact ⟨by rw [HOP0.out]; rfl, rfl⟩
              case rest =>
                obtain ⟨rfl, rfl⟩ := hcut
                go_upto_if 68 with fail
                go_cut [19] (fun v wc2 => v = .int .u8 op ∧ wc2 = wc)
                case first =>
                  by_cases h0 : i = 0
                  · have hoo : op = op0 := by rw [HOP.out, if_pos h0]
                    subst h0
                    go_wp2_with fail
                    go_meet
                    case rel => exact ⟨by rw [hoo], rfl⟩
                  · have hoo : op = 0 := by rw [HOP.out, if_neg h0]
                    have h0i : (0 : Int) < (i : Int) := by omega
                    have h0n : 0 < i := by omega
                    go_wp2_with fail
                    go_meet
                    case rel => exact ⟨by rw [hoo], rfl⟩
                case rest =>
                  obtain ⟨rfl, rfl⟩ := hcut
                  go_upto_region 22 with fail
                  go_cut [118] (fun v wc2 => v = .bool false ∧ wc2 = wc)
                  case first =>
                    as_aux_lemma =>
                      have hM1 : ¬ ((M : Int) < (d.length : Int)) := by have := HPM.out; omega
                      rcases HT.out with ⟨rfl, hr, hl'⟩ | ⟨rfl, hcp', hdm, hl'⟩
                      · skip
                        clear hr hl'
                        by_cases h0 : i = 0
                        · subst h0
                          go_wp2_with fail
                          go_meet
                          case rel => exact ⟨rfl, rfl⟩
                        · have h0i : (0 : Int) < (i : Int) := by omega
                          have h0n : 0 < i := by omega
                          have hd00 : d.length ≠ 0 := by
                            have h1 := HL0.out h0
                            have h2 := HLL.out
                            rcases HT.out with ⟨_, _, h3⟩ | ⟨h3, _⟩
                            · rw [h3] at h2; simp only [List.length_nil] at h2; omega
                            · cases h3
                          have hd01 : ((d.length : Int) == 0) = false := beq_eq_false_iff_ne.mpr (by omega)
                          go_wp2_with fail
                          go_meet
                          case rel => exact ⟨rfl, rfl⟩
                      · have hdm2 : ((d.length : Int) != (M : Int)) = false := by simp [hdm]
                        clear hcp' hdm hl'
                        go_wp2_with fail
                        go_meet
                        case rel => exact ⟨rfl, rfl⟩
                  case rest =>
                    obtain ⟨rfl, rfl⟩ := hcut
                    clear y0 y1 y2 y3
                    have hcs4 : (convert 24 9 (.slice A4 d.length c4)).run Tryd.prog wc = .ok (.string (strOfNums d)) wc := Kd.C_string Tryd.underlying24 Tryd.underlying5 Tryd.underlying9 (Kd.R_reads' HR5.out).2.2
                    have hsa : strOfNums dn ++ strOfNums d = strOfNums (dn ++ d) := strc_append _ _
                    have hz1 : (strOfNums dn).size = dn.length := by simp [strOfNums, ByteArray.size]
                    have hz2 : (strOfNums d).size = d.length := by simp [strOfNums, ByteArray.size]
                    have hz3 : dn.length + d.length ≤ 9000 := by have := HBL.out; omega
                    have HII := Aside0.mk (show ((i + 1 : Nat) : Int) = (i : Int) + 1 by omega)
                    have HN := Aside0.mk (show (rem' = [] ∧ l' = []) ∨ (CutP M 0 l' rem' ∧ (0 : Int) = (if i + 1 = 0 then op0 else 0) ∧ (i + 1 ≠ 0 → l'.length ≠ 0) ∧ (i + 1 = 0 → dn ++ d = [])) by
                      rcases HT.out with ⟨_, h1, h2⟩ | ⟨_, h1, _, h2⟩
                      · exact .inl ⟨h1, h2⟩
                      · exact .inr ⟨h1, by rw [if_neg (by omega)], fun _ => h2, fun h => absurd h (by omega)⟩)
                    cases r with
                    | false =>
                      as_aux_lemma =>
                        go_wp2_with fail
                        go_roundg rem'.length
                        case measure => have := HMU.out; omega
                        case rel => exact ⟨i + 1, dn ++ d, l', 0, rem', v, rfl, by rw [HII.out], by have := HE.out; omega, HDR.out, HDL.out, rfl, HN.out, HB5.out, HP5.out, fun h => by cases h⟩
                    | true =>
                      obtain ⟨u, b1, busy, te, gu, f, hGs, hGr⟩ := HGg.out rfl
                      obtain ⟨rfl, hby, hbt, hbf⟩ := hGr (by simp)
                      have HRT := Aside0.mk (HRR.out rfl)
                      have HBY := Aside0.mk hby
                      have HBT := Aside0.mk hbt
                      have HBF := Aside0.mk hbf
                      have HGS := Aside0.mk hGs
                      have HBXl := Aside0.mk (blk_lt HBX.out)
                      clear hGs hGr hby hbt hbf HGg
                      go_upto_region 26 with fail
                      go_cut [134] (fun vv wc2 => (∃ q, vv = .bool q) ∧ wc2 = wc)
                      case first =>
                        by_cases hx3 : x3 = 0
                        · subst hx3
                          go_wp2_with fail
                          go_meet
                          case rel => exact ⟨⟨_, rfl⟩, rfl⟩
                        · have hx3p : 0 < x3 := by omega
                          have hx31 : ¬ x3 = 0 := hx3
                          go_wp2_with fail
                          go_meet
                          case rel => exact ⟨⟨_, rfl⟩, rfl⟩
                      case rest =>
                        obtain ⟨⟨q, rfl⟩, rfl⟩ := hcut
                        go_upto_if 134 with fail
                        go_cut [20] (fun vv wc2 => Below w.heap.size w wc2 ∧ Gs w wc2 g v u b1 busy te false gu f ∧ Prow wc2 w.heap.size v (.slice (some ⟨gp, 0, none⟩) ps.length cp) ps ∧ Kd.R (Kd.int .u8) 5 wc2 w.heap.size (fun q => some q ≠ v.ownBlock) (.slice A4 d.length c4) d ∧ wc2.heap[gb]? = some (.cells #[.bool f0, .int .u8 op, .bool false, .int .u32 0, .slice A4 d.length c4] 26 (0, 0)))
                        case first =>
                          as_aux_lemma =>
                            cases q with
                            | false =>
                              go_wp2_with fail
                              go_meet
                              case rel => exact ⟨HB5.out, HGS.out, HP5.out, HR5.out, HBX.out⟩
                            | true =>
                              have kc := Lib.run_convert_bytes_const (P := Tryd.prog) wc 24 5 #[.int .u8 120] 1 1 Tryd.underlying24 Tryd.underlying5
                              have hba : Below wc.heap.size wc (wc.alloc (.cells #[.int .u8 120] 5 (1, 2))) := below_alloc (Below.refl _ _) _
                              have HDD : Aside0 (Dat (wc.alloc (.cells #[.int .u8 120] 5 (1, 2))) (.slice (some ⟨wc.heap.size, 0, none⟩) 1 1) [120]) := ⟨⟨some ⟨wc.heap.size, 0, none⟩, 1, rfl, Nat.le_refl _, C_marked wc 5 (1, 2) [120] (by decide), fun ad e => by
                                injection e with e
                                subst e
                                exact ⟨_, _, show (wc.heap.push _)[wc.heap.size]? = some (.cells #[.int .u8 120] 5 (1, 2)) by simp⟩⟩⟩
                              have HBA := Aside0.mk hba
                              clear hba
                              go_wp2_with fail
                              refine (Take_note (d := [120]) (HGS.out.below HBA.out) HDD.out (fun V hV hGV hDV => take_ping (d := [120]) hGV hDV (by decide))).mono ?_
                              rintro e w5 ⟨vn, rfl, hG5, hRn, hF5⟩
                              obtain ⟨An, cn, rfl⟩ := Kd.R_slice hRn
                              have hbn : Below w5.heap.size w5 (w5.alloc (.cells #[.int .u8 2, .bool false, .slice An 1 cn, .int .u32 0] 30)) := below_alloc (Below.refl _ _) _
                              have hcsn : (convert 24 9 (.slice An 1 cn)).run Tryd.prog (w5.alloc (.cells #[.int .u8 2, .bool false, .slice An 1 cn, .int .u32 0] 30)) = .ok (.string (strOfNums [120])) (w5.alloc (.cells #[.int .u8 2, .bool false, .slice An 1 cn, .int .u32 0] 30)) := Kd.C_string Tryd.underlying24 Tryd.underlying5 Tryd.underlying9 (Kd.C_below (Kd.R_reads' hRn).2.2 hbn)
                              have hxs := x_same
                              have HG5 := Aside0.mk (hG5.below hbn)
                              have HP6 := Aside0.mk (Kd.R_below (Fr.rows (HGS.out.gw.below HBA.out) hF5 (v' := v) (.inl rfl) (fun q hq => pm_types hq) (Kd.R_below HP5.out HBA.out)) hbn)
                              have HR6 := Aside0.mk (Kd.R_below (Fr.rows (HGS.out.gw.below HBA.out) hF5 (v' := v) (.inl rfl) (fun q hq => u8_types hq) (Kd.R_below HR5.out HBA.out)) hbn)
                              have hbx5 := (hF5.same gb (by have := HBXl.out; simp; omega) (fun e => by
                                have h1 := HBX.out; have h2 := HGS.out.gw.blk; rw [e] at h1; rw [h2] at h1; injection h1 with h1; injection h1 with _ h1 _; exact absurd h1 (by decide)) (fun e => by
                                have h1 := Kd.R_ne HGS.out.gw.row HBX.out (by decide); exact h1 e) (fun e => by
                                obtain ⟨cs, h2⟩ := HGS.out.gw.uty gb e; have h1 := HBX.out; rw [h2] at h1; injection h1 with h1; injection h1 with _ h1 _; exact absurd h1 (by decide))).trans (blk_below HBX.out HBA.out)
                              have HBX5 := Aside0.mk (blk_below hbx5 hbn)
                              clear hRn hF5 hG5 hbn hbx5
                              go_wp2_with fail
                              go_meet
                              case rel => exact ⟨HG5.out.gw.bel, HG5.out, HP6.out, HR6.out, HBX5.out⟩
                        case rest =>
                          clear HB5 HGS HP5 HR5 HBX HBXl hcs4
                          obtain ⟨hB6, hG6, hP6, hR6, hbx6⟩ := hcut
                          have y0 : wc.cell? ⟨gb, 0, none⟩ = some (.bool f0) := (blk_cell hbx6 0).trans rfl
                          have y1 : wc.cell? ⟨gb, 1, none⟩ = some (.int .u8 op) := (blk_cell hbx6 1).trans rfl
                          have y2 : wc.cell? ⟨gb, 2, none⟩ = some (.bool false) := (blk_cell hbx6 2).trans rfl
                          have y3 : wc.cell? ⟨gb, 3, none⟩ = some (.int .u32 0) := (blk_cell hbx6 3).trans rfl
                          have y4 : wc.cell? ⟨gb, 4, none⟩ = some (.slice A4 d.length c4) := (blk_cell hbx6 4).trans rfl
                          have HB6 := Aside0.mk hB6
                          have HG6 := Aside0.mk hG6
                          have HP6 := Aside0.mk hP6
                          have HR6 := Aside0.mk hR6
                          have hopc : op = 0 ∨ op = 1 ∨ op = 2 := by
                            have h := HOP.out; have h2 := HOP0.out
                            split at h <;> split at h2 <;> omega
                          have htn : textN busy te op = x0 := by
                            unfold textN
                            have h := HOP.out; have h2 := HOP0.out
                            by_cases h0 : i = 0
                            · rw [if_neg (by rw [HBY.out]; simp [h0])]
                              rw [if_pos h0] at h
                              rw [h, h2]
                              cases x0 <;> rfl
                            · have hb1 : busy = true := by rw [HBY.out]; simp [h0]
                              rw [if_pos hb1]
                              exact (HBT.out hb1).1
                          have hpc : partC busy te f0 op b1 d = 0 := by
                            unfold partC
                            have h := HOP.out; have h2 := HOP0.out
                            rw [if_neg ?c1, if_neg (by have := HBL.out; have := HRT.out.1; omega), if_neg ?c2]
                            case c1 =>
                              rw [HBY.out]
                              by_cases h0 : i = 0
                              · rw [if_pos h0] at h
                                rw [h, h2]
                                simp only [h0]
                                cases x0 <;> decide
                              · rw [if_neg h0] at h
                                rw [h]
                                simp [h0]
                            case c2 =>
                              rw [htn]
                              rintro ⟨hx, h3⟩
                              have hv := HRT.out.2 hx
                              have hf9 : (feedC s0 b).2.2 = false := by
                                unfold validC at hv
                                simp only [Bool.and_eq_true, Bool.not_eq_true'] at hv
                                exact hv.1
                              have hf8 : (feedC s0 (b1 ++ d)).2.2 = false := feedC_left (b := l') (by rw [HDL.out]; exact hf9)
                              rcases h3 with h3 | ⟨h3, h4⟩
                              · rw [hf8] at h3; cases h3
                              · rcases HT.out with ⟨_, _, h5⟩ | ⟨h5, _⟩
                                · have h6 := HDL.out
                                  rw [h5, List.append_nil] at h6
                                  rw [h6, hv] at h4
                                  cases h4
                                · rw [h5] at h3; cases h3
                          have HTN := Aside0.mk htn
                          have HFF := Aside0.mk (show (busy = true → f = if te = true then b1 else []) ∧ (busy = false → b1 = []) from ⟨fun h => (HBT.out h).2, HBF.out⟩)
                          have HPC := Aside0.mk hpc
                          have HOC := Aside0.mk hopc
                          have hbl4 : b1.length ≤ 4096 := by have := HBL.out; have := HRT.out.1; omega
                          have hdl4 : d.length ≤ 1000000000 := by omega
                          clear hB6 hG6 hP6 hR6 hbx6 htn hpc hopc
                          rcases HT.out with ⟨rfl, hr, hl'⟩ | ⟨rfl, hcp', hdm, hl'⟩
                          · skip
                            as_aux_lemma =>
                              have HLR := Aside0.mk (And.intro hr hl')
                              clear hr hl'
                              go_wp2_with fail
                              refine (TakeTold HG6.out HFF.out (Dat.of_row HR6.out) (fun k e => (HR6.out.1 k e).symm) hbl4 hdl4 HOC.out HPC.out rfl).mono ?_
                              rintro e w5 ⟨vn, u', rfl, hG5, hRn, hF5, hn5⟩
                              rw [HTN.out] at hG5 ⊢
                              have hbd : b1 ++ d = b := by have h := HDL.out; rw [HLR.out.2, List.append_nil] at h; exact h
                              rw [hbd] at hRn
                              obtain ⟨An, cn, rfl⟩ := Kd.R_slice hRn
                              have hbn : Below w5.heap.size w5 (w5.alloc (.cells #[.int .u8 1, .bool x0, .slice An b.length cn, .int .u32 0] 30)) := below_alloc (Below.refl _ _) _
                              have hcsn : (convert 24 9 (.slice An b.length cn)).run Tryd.prog (w5.alloc (.cells #[.int .u8 1, .bool x0, .slice An b.length cn, .int .u32 0] 30)) = .ok (.string (strOfNums b)) (w5.alloc (.cells #[.int .u8 1, .bool x0, .slice An b.length cn, .int .u32 0] 30)) := Kd.C_string Tryd.underlying24 Tryd.underlying5 Tryd.underlying9 (Kd.C_below (Kd.R_reads' hRn).2.2 hbn)
                              have hcsb : (convert 24 9 (.slice A1 b.length c1)).run Tryd.prog (w5.alloc (.cells #[.int .u8 1, .bool x0, .slice An b.length cn, .int .u32 0] 30)) = .ok (.string (strOfNums b)) (w5.alloc (.cells #[.int .u8 1, .bool x0, .slice An b.length cn, .int .u32 0] 30)) := Kd.C_string Tryd.underlying24 Tryd.underlying5 Tryd.underlying9 (Kd.C_below HR1.out (below_step hG5.bel hbn))
                              have HG5 := Aside0.mk (hG5.below hbn)
                              have HP7 := Aside0.mk (Kd.R_below (Fr.rows HG6.out.gw hF5 (v' := .slice none 0 0) (.inr (.inl rfl)) (fun q hq => pm_types hq) HP6.out) hbn)
                              clear hRn hF5 hG5 hbn hn5 hbd
                              go_wp2_with fail
                              go_roundg rem'.length
                              case measure => have := HMU.out; omega
                              case rel => exact ⟨i + 1, b1 ++ d, l', 0, rem', .slice none 0 0, rfl, by rw [HII.out], by have := HE.out; omega, HDR.out, HDL.out, rfl, HN.out, HG5.out.bel, HP7.out, fun _ => ⟨u', [], false, x0, 0, [], ⟨HG5.out, fun h => by cases h⟩, fun h => absurd HLR.out.1 h⟩⟩
                          · skip
                            as_aux_lemma =>
                              clear hcp' hdm hl'
                              go_wp2_with fail
                              refine (TakeMore HG6.out HFF.out (Dat.of_row HR6.out) (fun k e => (HR6.out.1 k e).symm) hbl4 hdl4 HOC.out HPC.out rfl).mono ?_
                              rintro e w5 ⟨rfl, v', u', gu', hG5, hF5, hn5⟩
                              rw [HTN.out] at hG5
                              have hbn : Below w5.heap.size w5 (w5.alloc (.cells #[.int .u8 0, .bool false, .slice none 0 0, .int .u32 0] 30)) := below_alloc (Below.refl _ _) _
                              have HG5 := Aside0.mk (hG5.below hbn)
                              have HP7 := Aside0.mk (Kd.R_below (Fr.rows HG6.out.gw hF5 (v' := v') hn5 (fun q hq => pm_types hq) HP6.out) hbn)
                              clear hF5 hG5 hbn hn5
                              go_wp2_with fail
                              go_roundg rem'.length
                              case measure => have := HMU.out; omega
                              case rel => exact ⟨i + 1, b1 ++ d, l', 0, rem', v', rfl, by rw [HII.out], by have := HE.out; omega, HDR.out, HDL.out, rfl, HN.out, HG5.out.gw.bel, HP7.out, fun _ => ⟨u', _, true, x0, gu', _, HG5.out, fun h => ⟨rfl, by simp, fun _ => ⟨rfl, rfl⟩, fun h => by cases h⟩⟩⟩
            · have hrem : rem = [] := by
                cases rem with
                | nil => rfl
                | cons a r => exfalso; simp only [List.length_cons] at hi; omega
              have hl0 : l = [] := hcut.elim (fun h => h.2) (fun h => absurd hrem h.1.ne)
              have hdb : dn = b := by rw [hl0, List.append_nil] at hdl; exact hdl
              subst hdb
              have hps : 0 < ps.length := List.length_pos_iff.mpr HCP.out.ne
              have hie : (i : Int) = (ps.length : Int) := by rw [hrem] at hi; simp only [List.length_nil] at hi; omega
              have HB := Aside0.mk hB
              clear hi hdr hdl hmu hcut hrem hl0 hB hP hG
              go_wp2_with fail
              refine (fixed_yes _).mono ?_
              rintro e w5 ⟨rfl, hb5⟩
              have hcsb : (convert 24 9 (.slice A1 dn.length c1)).run Tryd.prog w5 = .ok (.string (strOfNums dn)) w5 := Kd.C_string Tryd.underlying24 Tryd.underlying5 Tryd.underlying9 (Kd.C_below HR1.out (below_step HB.out hb5))
              have HB5 := Aside0.mk (below_step HB.out hb5)
              clear hb5
              go_wp2_with fail
              go_ret
              exact ⟨rfl, HB5.out⟩
end Go.Proofs.YtbjjobifpmjhhaaDoor

