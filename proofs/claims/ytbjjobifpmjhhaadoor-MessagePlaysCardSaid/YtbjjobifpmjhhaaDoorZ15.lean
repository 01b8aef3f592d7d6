/- What the law's row rests on, part 15. -/
import Derived.Test.YtbjjobifpmjhhaaDoorZ14
import Derived.Deep.LoopGhost
import Derived.Deep.DeepCutAuto
import Derived.Deep.CutBlock
import Derived.Outline
/- Any row of frames tells what the document says. -/
namespace Go.Proofs.YtbjjobifpmjhhaaDoor
open Go.RowKit Go.Proofs.YtbjjobifpmjhhaaDoorW.PrintWords Go.Proofs.YtbjjobifpmjhhaaDoorW.PrintLast Go.Proofs.YtbjjobifpmjhhaaDoorW.PrintMore Go.Proofs.YtbjjobifpmjhhaaDoor.PAll Go.Proofs.YtbjjobifpmjhhaaDoor.U
set_option linter.unusedVariables false
set_option linter.unusedSimpArgs false
theorem wfp8 {x : Int} (h : (Lit.int .u8 x).wf = true) : 0 ≤ x ∧ x ≤ 255 := by simpa [Lit.wf, IntKind.min, IntKind.max, IntKind.signed, IntKind.bits] using h
/-- The gatherer and the document's, side by side. -/
structure Mst (w0 W : World) (g bm : Nat) (v u : Value) (b : List Int) (busy te txt over : Bool) (gu : Nat) (f : List Int) : Prop where
  bel : Below w0.heap.size w0 W
  box : W.heap[bm]? = some (.cells #[.string (strOfNums b), .bool busy, .bool txt, .bool over] 40 (0, 0))
  lo : w0.heap.size ≤ bm
  txt_ : busy = true → txt = te
  nob : busy = false → b = []
  len : b.length ≤ 4096
  byt : ∀ x ∈ b, 0 ≤ x ∧ x ≤ 255
  st : (over = false ∧ Gs w0 W g v u b busy te false gu f ∧ (busy = true → f = if te = true then b else [])) ∨ (over = true ∧ busy = false ∧ ∃ bu, Gw w0 W g (.slice none 0 0) u [] bu te true)
theorem Mst.below {w0 W W' : World} {g bm gu : Nat} {v u : Value} {b f : List Int} {busy te txt over : Bool} (h : Mst w0 W g bm v u b busy te txt over gu f) (hb : Below W.heap.size W W') : Mst w0 W' g bm v u b busy te txt over gu f := ⟨below_step h.bel hb, blk_below h.box hb, h.lo, h.txt_, h.nob, h.len, h.byt, h.st.elim (fun ⟨h1, h2, h3⟩ => .inl ⟨h1, h2.below hb, h3⟩) (fun ⟨h1, h2, bu, h3⟩ => .inr ⟨h1, h2, bu, h3.below hb⟩)⟩
theorem blk_ne5 {W : World} {k g : Nat} {cs cells : Array Value} {fr : Nat × Nat} (h : W.heap[k]? = some (.cells cells 5 fr)) (hg : W.heap[g]? = some (.cells cs 26 (0, 0))) : k ≠ g := by
  intro e
  rw [e, hg] at h
  injection h with h
  injection h with _ h _
  exact absurd h (by decide)
theorem Gs.offP {w0 W : World} {g gu : Nat} {v u : Value} {b f : List Int} {busy text over : Bool} (h : Gs w0 W g v u b busy text over gu f) {k : Nat} {cs : Array Value} (hk : W.heap[k]? = some (.cells cs 26 (0, 0))) (hlo : w0.heap.size ≤ k) (j : Nat) (x : Value) : Gs w0 (W.setCell ⟨k, j, none⟩ x) g v u b busy text over gu f :=
  ⟨⟨(Below.heap_setCell W ⟨k, j, none⟩ x g (blk_ne h.gw.blk hk (by decide))).trans h.gw.blk, Kd.R_mono (Kd.R_far (Kd.R_types h.gw.row hk (by intro q hq; simp [Kd.int, Kd.scalar] at hq; omega)) (p := ⟨k, j, none⟩) (fun k hk => hk.2) x) (fun _ _ => trivial), Below.setCell h.gw.bel hlo _, h.gw.base, h.gw.one, fun q e => ty_set (h.gw.uty q e)⟩, fun hy => ⟨(h.chk hy).1, (h.chk hy).2.1.far (p := ⟨k, j, none⟩) (blk_ne (h.chk hy).2.1.1 hk (by decide)) x, (h.chk hy).2.2⟩⟩
theorem Gw.offP {w0 W : World} {g : Nat} {v u : Value} {b : List Int} {busy text over : Bool} (h : Gw w0 W g v u b busy text over) {k : Nat} {cs : Array Value} (hk : W.heap[k]? = some (.cells cs 26 (0, 0))) (hlo : w0.heap.size ≤ k) (j : Nat) (x : Value) : Gw w0 (W.setCell ⟨k, j, none⟩ x) g v u b busy text over :=
  ⟨(Below.heap_setCell W ⟨k, j, none⟩ x g (blk_ne h.blk hk (by decide))).trans h.blk, Kd.R_mono (Kd.R_far (Kd.R_types h.row hk (by intro q hq; simp [Kd.int, Kd.scalar] at hq; omega)) (p := ⟨k, j, none⟩) (fun k hk => hk.2) x) (fun _ _ => trivial), Below.setCell h.bel hlo _, h.base, h.one, fun q e => ty_set (h.uty q e)⟩
theorem Mst.offP {w0 W : World} {g bm gu : Nat} {v u : Value} {b f : List Int} {busy te txt over : Bool} (h : Mst w0 W g bm v u b busy te txt over gu f) {k : Nat} {cs : Array Value} (hk : W.heap[k]? = some (.cells cs 26 (0, 0))) (hlo : w0.heap.size ≤ k) (j : Nat) (x : Value) : Mst w0 (W.setCell ⟨k, j, none⟩ x) g bm v u b busy te txt over gu f := ⟨Below.setCell h.bel hlo _, (Below.heap_setCell W ⟨k, j, none⟩ x bm (blk_ne h.box hk (by decide))).trans h.box, h.lo, h.txt_, h.nob, h.len, h.byt, h.st.elim (fun ⟨h1, h2, h3⟩ => .inl ⟨h1, h2.offP hk hlo j x, h3⟩) (fun ⟨h1, h2, bu, h3⟩ => .inr ⟨h1, h2, bu, h3.offP hk hlo j x⟩)⟩
/-- Ahead of the comparison. -/
structure Qm (w0 W : World) (g bm gn gw : Nat) (v u : Value) (b : List Int) (busy te over txt tx : Bool) (gu : Nat) (f nd : List Int) (kind code : Int) (A7 A10 : Option Addr) (c7 c10 : Nat) : Prop where
  imp : Imp w0 W g v u b busy te over gu f
  bx : W.heap[bm]? = some (.cells #[.string (strOfNums b), .bool busy, .bool txt, .bool over] 40 (0, 0))
  n : W.heap[gn]? = some (.cells #[.int .u8 kind, .bool tx, .slice A7 nd.length c7, .int .u32 code] 30 (0, 0))
  w : W.heap[gw]? = some (.cells #[.int .u8 kind, .bool tx, .slice A10 nd.length c10, .int .u32 code] 30 (0, 0))
  r : Kd.R (Kd.int .u8) 5 W w0.heap.size (fun _ => True) (.slice A7 nd.length c7) nd
  rd : Rd w0.heap.size W A10 nd
section
variable {w0 W W' : World} {g bm gn gw gu c7 c10 : Nat} {v u : Value} {b f nd : List Int} {busy te over txt tx : Bool} {kind code : Int} {A7 A10 : Option Addr}
theorem Qm.below (h : Qm w0 W g bm gn gw v u b busy te over txt tx gu f nd kind code A7 A10 c7 c10) (hb : Below W.heap.size W W') : Qm w0 W' g bm gn gw v u b busy te over txt tx gu f nd kind code A7 A10 c7 c10 := ⟨h.imp.below hb, blk_below h.bx hb, blk_below h.n hb, blk_below h.w hb, Kd.R_below h.r hb, h.rd.below hb h.imp.bel.size⟩
theorem qmS (h : Qm w0 W g bm gn gw v u b busy te over txt tx gu f nd kind code A7 A10 c7 c10) : Aside0 (Qm w0 W g bm gn gw v u b busy te over txt tx gu f nd kind code A7 A10 c7 c10) ∧ W.cell? ⟨gn, 0, none⟩ = some (.int .u8 kind) ∧ W.cell? ⟨gn, 1, none⟩ = some (.bool tx) ∧ W.cell? ⟨gn, 2, none⟩ = some (.slice A7 nd.length c7) ∧ W.cell? ⟨gn, 3, none⟩ = some (.int .u32 code) ∧ W.cell? ⟨gw, 0, none⟩ = some (.int .u8 kind) ∧ W.cell? ⟨gw, 1, none⟩ = some (.bool tx) ∧ W.cell? ⟨gw, 2, none⟩ = some (.slice A10 nd.length c10) ∧ W.cell? ⟨gw, 3, none⟩ = some (.int .u32 code) ∧ W.cell? ⟨bm, 0, none⟩ = some (.string (strOfNums b)) ∧ W.cell? ⟨bm, 3, none⟩ = some (.bool over) := ⟨⟨h⟩, (blk_cell h.n 0).trans rfl, (blk_cell h.n 1).trans rfl, (blk_cell h.n 2).trans rfl, (blk_cell h.n 3).trans rfl, (blk_cell h.w 0).trans rfl, (blk_cell h.w 1).trans rfl, (blk_cell h.w 2).trans rfl, (blk_cell h.w 3).trans rfl, (blk_cell h.bx 0).trans rfl, (blk_cell h.bx 3).trans rfl⟩
end
theorem same_f (kind code : Int) (tx : Bool) (nd : List Int) : louverref18_Same.f kind tx nd code kind tx nd code = some true := by
  unfold louverref18_Same.f
  rw [if_pos rfl, if_pos (by simp), if_pos rfl]
  simp
def PlM (w0 : World) (g bm n : Nat) (mu : Nat) (iv : Value) (wr : World) : Prop := ∃ (i : Nat) (v u : Value) (b f : List Int) (busy te txt over : Bool) (gu : Nat), iv = .int .i64 (i : Nat) ∧ i + mu = n ∧ Mst w0 wr g bm v u b busy te txt over gu f
set_option maxHeartbeats 16000000 in
set_option maxRecDepth 100000 in
theorem Pure.MessagePlays : Says.MessagePlays := by
  intro A0 c0 x0 w l0 r0 o0 hg
  have hu26 := Tryd.underlying26
  have hu30 := Tryd.underlying30
  have hug := Tryd.underlying40
  have HC := Aside0.mk hg
  have HR := Aside0.mk r0
  have HO := Aside0.mk o0.1
  have hN0 : x0.length ≤ 5000000000000 := by have := o0.2.1; omega
  obtain ⟨r, hgr, hgr2⟩ := great_any x0 hN0
  have HGR := Aside0.mk hgr
  have HG2 := Aside0.mk hgr2
  clear hg r0 o0 hgr hgr2
  go_enter Tryd.func4, Tryd.ntmps4
  go_wp2_with fail
  refine (louverlaw18_great.calls (x0.length + 1) A0 c0 x0 r _ HR.out l0 HGR.out).mono ?_
  rintro e w1 ⟨rfl, hb⟩
  have HB1 := Aside0.mk hb
  clear hb
  cases r with
  | true =>
    go_wp2_with fail
    refine (fixed_yes _).mono ?_
    rintro e w9 ⟨rfl, hb⟩
    have HB9 := Aside0.mk (below_step HB1.out hb)
    clear hb
    go_wp2_with fail
    go_ret
    exact ⟨rfl, HB9.out⟩
  | false =>
    go_wp2_with fail
    refine (gnew_any _).mono ?_
    rintro e w2 ⟨rfl, hG, hb2⟩
    obtain ⟨g, hgg⟩ : ∃ g, g = w1.heap.size := ⟨_, rfl⟩
    have HLG := Aside0.mk (show w.heap.size ≤ g by rw [hgg]; exact HB1.out.size)
    rw [← hgg] at hG ⊢
    have HG2_ := Aside0.mk (show Gw w w2 g (.slice none 0 0) (.pointer none) [] false false false from ⟨hG, Kd.R_nil _ _ _ _ _, below_step HB1.out hb2, HLG.out, rfl, fun k e => by cases e⟩)
    clear hG hb2 hgg HB1
    go_upto_region 5 with fail
    have hb3 := below_alloc (Below.refl w2.heap.size w2) (.cells #[.string (⟨#[]⟩ : ByteArray), .bool false, .bool false, .bool false] 40)
    have HM3 := Aside0.mk (show Mst w (w2.alloc (.cells #[.string (⟨#[]⟩ : ByteArray), .bool false, .bool false, .bool false] 40)) g w2.heap.size (.slice none 0 0) (.pointer none) [] false false false false 0 [] from ⟨below_step HG2_.out.bel hb3, last_at _ _ _ rfl, HG2_.out.bel.size, fun h => (by cases h), fun _ => rfl, by decide, fun x hx => (by cases hx), .inl ⟨rfl, (HG2_.out.below hb3).gs 0 [], fun h => (by cases h)⟩⟩)
    generalize w2.alloc (.cells #[.string (⟨#[]⟩ : ByteArray), .bool false, .bool false, .bool false] 40) = w3 at hb3 HM3 ⊢
    obtain ⟨bm, hbm⟩ : ∃ bm, bm = w2.heap.size := ⟨_, rfl⟩
    rw [← hbm] at HM3 ⊢
    clear hb3 hbm HG2_
    go_wp2_with fail
    go_loopg [20] x0.length (fun mu iv wr => PlM w g bm x0.length mu iv wr)
    case atStart => exact ⟨0, _, _, _, _, _, _, _, _, _, rfl, by omega, HM3.out⟩
    case round =>
      clear HM3
      obtain ⟨i, v, u, b, f, busy, te, txt, over, gu, rfl, hi, hM⟩ := hrel
      have HM := Aside0.mk hM
      have HI := Aside0.mk hi
      clear hM hi
      by_cases hlt : i < x0.length
      · obtain ⟨ad, A4, c4, ead, hx0, hx1, hx2, hx3, hx4, hl4, hC4⟩ := at_T26 HR.out (i : Int) (Int.natCast_nonneg i) (by omega)
        cases ead
        obtain ⟨p, hp⟩ : ∃ p, p = rd_T26 x0 (i : Int) := ⟨_, rfl⟩
        have hpm : p ∈ x0 := by
          have e : rd_T26 x0 (i : Int) = x0[i] := by simp [rd_T26, hlt]
          rw [hp, e]
          exact List.getElem_mem hlt
        rw [← hp] at hx0 hx1 hx2 hx3 hx4 hl4 hC4
        have hwf := HO.out p hpm
        have hle := (HG2.out trivial).2 p hpm
        have h100 := (HG2.out trivial).1
        clear hp hpm
        obtain ⟨fin, op, mk, key, d⟩ := p
        dsimp only at hx0 hx1 hx2 hx3 hx4 hl4 hC4 hwf hle
        rw [Int.toNat_natCast] at hx0 hx1 hx2 hx3 hx4
        have HB0 := Aside0.mk HM.out.bel
        replace hx0 := (HB0.out.cell (World.block_lt_of_cell? w _ hx0)).trans hx0
        replace hx1 := (HB0.out.cell (World.block_lt_of_cell? w _ hx1)).trans hx1
        replace hx2 := (HB0.out.cell (World.block_lt_of_cell? w _ hx2)).trans hx2
        replace hx3 := (HB0.out.cell (World.block_lt_of_cell? w _ hx3)).trans hx3
        replace hx4 := (HB0.out.cell (World.block_lt_of_cell? w _ hx4)).trans hx4
        have HD0 := Aside0.mk hC4
        have HL4 := Aside0.mk hl4
        have HWF := Aside0.mk hwf
        have HLE := Aside0.mk hle
        have H100 := Aside0.mk h100
        clear hC4 hl4 hwf hle h100
        go_upto_region 9 with fail
        have hD4 := Kd.C_below HD0.out HB0.out
        have hb4 := below_alloc (below_alloc (Below.refl wr.heap.size wr) (.cells #[.bool fin, .int .u8 op, .bool mk, .int .u32 key, .slice A4 d.length c4] 26)) (.cells #[.bool fin, .int .u8 op, .bool mk, .int .u32 key, .slice A4 d.length c4] 26)
        have hp4 : ((wr.alloc (.cells #[.bool fin, .int .u8 op, .bool mk, .int .u32 key, .slice A4 d.length c4] 26)).alloc (.cells #[.bool fin, .int .u8 op, .bool mk, .int .u32 key, .slice A4 d.length c4] 26)).heap[wr.heap.size]? = some (.cells #[.bool fin, .int .u8 op, .bool mk, .int .u32 key, .slice A4 d.length c4] 26 (0, 0)) := blk_alloc (last_at _ _ _ rfl) _
        have ho4 : ((wr.alloc (.cells #[.bool fin, .int .u8 op, .bool mk, .int .u32 key, .slice A4 d.length c4] 26)).alloc (.cells #[.bool fin, .int .u8 op, .bool mk, .int .u32 key, .slice A4 d.length c4] 26)).heap[wr.heap.size + 1]? = some (.cells #[.bool fin, .int .u8 op, .bool mk, .int .u32 key, .slice A4 d.length c4] 26 (0, 0)) := last_at _ _ _ (by simp)
        have HM4 := Aside0.mk (HM.out.below hb4)
        have HD4 := Aside0.mk (Kd.C_below hD4 hb4)
        have HNO := Aside0.mk (show bm ≠ wr.heap.size + 1 from by have := blk_lt HM.out.box; omega)
        have HWR := Aside0.mk HB0.out.size
        clear hx0 hx1 hx2 hx3 hx4 hD4 HM HB0
        generalize (wr.alloc (.cells #[.bool fin, .int .u8 op, .bool mk, .int .u32 key, .slice A4 d.length c4] 26)).alloc (.cells #[.bool fin, .int .u8 op, .bool mk, .int .u32 key, .slice A4 d.length c4] 26) = w4 at hb4 hp4 ho4 HM4 HD4 ⊢
        obtain ⟨go_, hgo⟩ : ∃ k, k = wr.heap.size + 1 := ⟨_, rfl⟩
        have HGO := Aside0.mk (show w.heap.size ≤ go_ by have := HWR.out; omega)
        have HGP := Aside0.mk (show wr.heap.size ≠ go_ by omega)
        have HWZ := Aside0.mk (show w.heap.size ≤ w4.heap.size from HM4.out.bel.size)
        rw [← hgo] at ho4 HNO ⊢
        obtain ⟨gp, hgp⟩ : ∃ k, k = wr.heap.size := ⟨_, rfl⟩
        rw [← hgp] at hp4 HGP ⊢
        clear hgp hgo hb4 HWR
        have hcp0 : w4.cell? ⟨gp, 0, none⟩ = some (.bool fin) := (blk_cell hp4 0).trans rfl
        have hcpf0 := blk_frozen hp4 0
        have hcp1 : w4.cell? ⟨gp, 1, none⟩ = some (.int .u8 op) := (blk_cell hp4 1).trans rfl
        have hcpf1 := blk_frozen hp4 1
        have hcp2 : w4.cell? ⟨gp, 2, none⟩ = some (.bool mk) := (blk_cell hp4 2).trans rfl
        have hcpf2 := blk_frozen hp4 2
        have hcp3 : w4.cell? ⟨gp, 3, none⟩ = some (.int .u32 key) := (blk_cell hp4 3).trans rfl
        have hcpf3 := blk_frozen hp4 3
        have hcp4 : w4.cell? ⟨gp, 4, none⟩ = some (.slice A4 d.length c4) := (blk_cell hp4 4).trans rfl
        have hcpf4 := blk_frozen hp4 4
        have hcpl := blk_lt hp4
        have hco0 : w4.cell? ⟨go_, 0, none⟩ = some (.bool fin) := (blk_cell ho4 0).trans rfl
        have hcof0 := blk_frozen ho4 0
        have hco1 : w4.cell? ⟨go_, 1, none⟩ = some (.int .u8 op) := (blk_cell ho4 1).trans rfl
        have hcof1 := blk_frozen ho4 1
        have hco2 : w4.cell? ⟨go_, 2, none⟩ = some (.bool mk) := (blk_cell ho4 2).trans rfl
        have hcof2 := blk_frozen ho4 2
        have hco3 : w4.cell? ⟨go_, 3, none⟩ = some (.int .u32 key) := (blk_cell ho4 3).trans rfl
        have hcof3 := blk_frozen ho4 3
        have hco4 : w4.cell? ⟨go_, 4, none⟩ = some (.slice A4 d.length c4) := (blk_cell ho4 4).trans rfl
        have hcof4 := blk_frozen ho4 4
        have hcol := blk_lt ho4
        have HP4 := Aside0.mk hp4
        have HO4 := Aside0.mk ho4
        clear hp4 ho4
        have HOW : Aside0 ((w4.alloc (.cells #[] 5)).ownsRow w4.heap.size 5 1 (.slice (some ⟨w4.heap.size, 0, none⟩) 0 0) 0 []) := ⟨⟨rfl, .inr ⟨w4.heap.size, 0, #[], rfl, Nat.le_refl _, blk_new w4 _, Nat.le_refl _, by decide, rfl, rfl⟩⟩⟩
        have HSR : Aside0 (ReadsInt (w4.alloc (.cells #[] 5)) .u8 A4 d.length d) := ⟨Kd.reads_of_C (Kd.C_alloc HD4.out _)⟩
        go_upto_region 10 with (at_builtin; refine print_append_row (w0 := w4) w4.heap.size rfl (.tmp 25) (.tmp 27) 24 5 .u8 1 rfl Tryd.underlying24 info5 (by decide) (.slice (some ⟨w4.heap.size, 0, none⟩) 0 0) [] d A4 d.length c4 rfl rfl HOW.out HSR.out ((Below.refl _ _).alloc (Nat.le_refl _) _) (by simp) (by have := HLE.out; simp; omega) ?_; intro v1 w5 ho hb hgr hat; have hR : Kd.R (Kd.int .u8) 5 w5 w4.heap.size (fun _ => True) v1 d := Kd.R_of_own (show w5.ownsRow w4.heap.size 5 1 v1 d.length (nums .u8 d) by simpa using ho) (fun _ _ => trivial); clear ho hat hgr; obtain ⟨A5, c5, rfl⟩ := Kd.R_slice hR; have HRV := Aside0.mk hR; have HB5 := Aside0.mk hb; clear hR; have hr5 := blk_below HO4.out hb; have hq0 : w5.cell? ⟨go_, 0, none⟩ = some (.bool fin) := (blk_cell hr5 0).trans rfl; have hqf0 := blk_frozen hr5 0; have hq1 : w5.cell? ⟨go_, 1, none⟩ = some (.int .u8 op) := (blk_cell hr5 1).trans rfl; have hqf1 := blk_frozen hr5 1; have hq2 : w5.cell? ⟨go_, 2, none⟩ = some (.bool mk) := (blk_cell hr5 2).trans rfl; have hqf2 := blk_frozen hr5 2; have hq3 : w5.cell? ⟨go_, 3, none⟩ = some (.int .u32 key) := (blk_cell hr5 3).trans rfl; have hqf3 := blk_frozen hr5 3; have hq4 : w5.cell? ⟨go_, 4, none⟩ = some (.slice A4 d.length c4) := (blk_cell hr5 4).trans rfl; have hqf4 := blk_frozen hr5 4; have hql := blk_lt hr5; have HR5 := Aside0.mk hr5; clear hr5 hb)
        have HM6 := Aside0.mk ((HM4.out.below HB5.out).offP HR5.out HGO.out 4 (.slice A5 d.length c5))
        have HO6 : Aside0 ((w5.setCell ⟨go_, 4, none⟩ (.slice A5 d.length c5)).heap[go_]? = some (.cells #[.bool fin, .int .u8 op, .bool mk, .int .u32 key, .slice A5 d.length c5] 26 (0, 0))) := ⟨blk_put HR5.out 4 _ rfl⟩
        have HD6 := Aside0.mk ((Dat.of_row HRV.out).keep (W' := w5.setCell ⟨go_, 4, none⟩ (.slice A5 d.length c5)) (fun k hk => Below.heap_setCell w5 ⟨go_, 4, none⟩ _ k (by
          obtain ⟨cells, h5⟩ := Kd.R_typed HRV.out k hk
          exact blk_ne5 h5 HR5.out)))
        have HDN : Aside0 (over = false → ∀ k, (Value.slice A5 d.length c5).ownBlock = some k → v.ownBlock ≠ some k) := by
          refine ⟨fun ho k hk hv => ?_⟩
          rcases HM4.out.st with ⟨_, h2, _⟩ | ⟨h1, _⟩
          · obtain ⟨cells, h5⟩ := Kd.R_typed h2.gw.row k hv
            have h6 := blk_lt h5
            have h7 := Kd.R_base HRV.out k hk
            omega
          · rw [ho] at h1
            cases h1
        have HP6 : Aside0 ((w5.setCell ⟨go_, 4, none⟩ (.slice A5 d.length c5)).heap[gp]? = some (.cells #[.bool fin, .int .u8 op, .bool mk, .int .u32 key, .slice A4 d.length c4] 26 (0, 0))) := ⟨(Below.heap_setCell w5 ⟨go_, 4, none⟩ _ gp HGP.out).trans (blk_below HP4.out HB5.out)⟩
        have HRV6 := Aside0.mk (Kd.R_lower (row_keep (W' := w5.setCell ⟨go_, 4, none⟩ (.slice A5 d.length c5)) HRV.out (fun k hk => Below.heap_setCell w5 ⟨go_, 4, none⟩ _ k (by
          obtain ⟨cells, h5⟩ := Kd.R_typed HRV.out k hk
          exact blk_ne5 h5 HR5.out))) HWZ.out)
        have HD8 : Aside0 (∀ x ∈ d, 0 ≤ x ∧ x ≤ 255) := ⟨fun x hx => wfp8 (HWF.out.2.2.2.2.1 x hx)⟩
        have HC4 := Aside0.mk HD0.out
        clear HP4 HO4 HM4 HD4 HRV HB5 HR5 HOW HSR HWZ HGP HGO hq0 hq1 hq2 hq3 hq4 hqf0 hqf1 hqf2 hqf3 hqf4 hql hcp0 hcp1 hcp2 hcp3 hcp4 hcpf0 hcpf1 hcpf2 hcpf3 hcpf4 hcpl hco0 hco1 hco2 hco3 hco4 hcof0 hcof1 hcof2 hcof3 hcof4 hcol
        generalize w5.setCell ⟨go_, 4, none⟩ (.slice A5 d.length c5) = W6 at HM6 HO6 HP6 HD6 HRV6 ⊢
        clear w5
        have ho0 : W6.cell? ⟨go_, 0, none⟩ = some (.bool fin) := (blk_cell HO6.out 0).trans rfl
        have hof0 := blk_frozen HO6.out 0
        have ho1 : W6.cell? ⟨go_, 1, none⟩ = some (.int .u8 op) := (blk_cell HO6.out 1).trans rfl
        have hof1 := blk_frozen HO6.out 1
        have ho2 : W6.cell? ⟨go_, 2, none⟩ = some (.bool mk) := (blk_cell HO6.out 2).trans rfl
        have hof2 := blk_frozen HO6.out 2
        have ho3 : W6.cell? ⟨go_, 3, none⟩ = some (.int .u32 key) := (blk_cell HO6.out 3).trans rfl
        have hof3 := blk_frozen HO6.out 3
        have ho4 : W6.cell? ⟨go_, 4, none⟩ = some (.slice A5 d.length c5) := (blk_cell HO6.out 4).trans rfl
        have hof4 := blk_frozen HO6.out 4
        have hol := blk_lt HO6.out
        go_wp2_with fail
        refine (take_step (w0 := w) (v := v) (u := u) (b := b) (f := f) (busy := busy) (te := te) (over := over) (gu := gu) HM6.out.st HM6.out.nob HM6.out.len HD6.out HDN.out HD8.out (by have := HLE.out; omega) HC.out).mono ?_
        rintro e w7 ⟨b', busy', te', over', kind, tx, code, nd, ok, v', u', gu', f', vn, rfl, hS, hI, hR, hne, hst, hB, hap⟩
        obtain ⟨A7, c7, rfl⟩ := Kd.R_slice hR
        have HS := Aside0.mk hS
        have hbx7 := (hst bm _ _ _ HM6.out.box (by decide) (by decide) (fun e => absurd e (by decide))).trans HM6.out.box
        have ho7 := (hst go_ _ _ _ HO6.out (by decide) (by decide) (fun e => absurd e (by decide))).trans HO6.out
        have hp7 := (hst gp _ _ _ HP6.out (by decide) (by decide) (fun e => absurd e (by decide))).trans HP6.out
        have hrv7 := row_keep HRV6.out (fun k hk => by
          obtain ⟨cells, h5⟩ := Kd.R_typed HRV6.out k hk
          exact hst k _ _ _ h5 (by decide) (by decide) (fun _ ho => HDN.out ho k hk))
        have HAP := Aside0.mk (fun k (hk : (Value.slice A5 d.length c5).ownBlock = some k) => hap k (by
          obtain ⟨cells, h5⟩ := Kd.R_typed HRV6.out k hk
          exact blk_lt h5) (fun ho => HDN.out ho k hk))
        have HNE := Aside0.mk hne
        have hb8 := below_alloc (Below.refl w7.heap.size w7) (.cells #[.int .u8 kind, .bool tx, .slice A7 nd.length c7, .int .u32 code] 30)
        have hn8 : (w7.alloc (.cells #[.int .u8 kind, .bool tx, .slice A7 nd.length c7, .int .u32 code] 30)).heap[w7.heap.size]? = some (.cells #[.int .u8 kind, .bool tx, .slice A7 nd.length c7, .int .u32 code] 30 (0, 0)) := last_at _ _ _ rfl
        have HI8 := Aside0.mk (hI.below hb8)
        have HX8 := Aside0.mk (blk_below hbx7 hb8)
        have HO8 := Aside0.mk (blk_below ho7 hb8)
        have HP8 := Aside0.mk (blk_below hp7 hb8)
        have HV8 := Aside0.mk (Kd.R_below hrv7 hb8)
        have HR8 := Aside0.mk (Kd.R_below hR hb8)
        have HN8 := Aside0.mk hn8
        have HGN := Aside0.mk (show w.heap.size ≤ w7.heap.size from hB.size)
        clear hS hI hR hne hst hB hap hbx7 ho7 hp7 hrv7 hn8 ho0 hof0 ho1 hof1 ho2 hof2 ho3 hof3 ho4 hof4 hol
        go_upto_region 11 with fail
        generalize w7.alloc (.cells #[.int .u8 kind, .bool tx, .slice A7 nd.length c7, .int .u32 code] 30) = W8 at HI8 HX8 HO8 HP8 HV8 HR8 HN8 hb8 ⊢
        obtain ⟨gn, hgn⟩ : ∃ k, k = w7.heap.size := ⟨_, rfl⟩
        rw [← hgn] at HN8 HGN ⊢
        clear hgn hb8 HD6 HRV6 HP6 HO6
        clear w7
        have hp0 : W8.cell? ⟨go_, 0, none⟩ = some (.bool fin) := (blk_cell HO8.out 0).trans rfl
        have hpf0 := blk_frozen HO8.out 0
        have hp1 : W8.cell? ⟨go_, 1, none⟩ = some (.int .u8 op) := (blk_cell HO8.out 1).trans rfl
        have hpf1 := blk_frozen HO8.out 1
        have hp2 : W8.cell? ⟨go_, 2, none⟩ = some (.bool mk) := (blk_cell HO8.out 2).trans rfl
        have hpf2 := blk_frozen HO8.out 2
        have hp3 : W8.cell? ⟨go_, 3, none⟩ = some (.int .u32 key) := (blk_cell HO8.out 3).trans rfl
        have hpf3 := blk_frozen HO8.out 3
        have hp4 : W8.cell? ⟨go_, 4, none⟩ = some (.slice A5 d.length c5) := (blk_cell HO8.out 4).trans rfl
        have hpf4 := blk_frozen HO8.out 4
        have hpl := blk_lt HO8.out
        obtain ⟨W9, hcl, hk9, hb9⟩ := clear_row HV8.out
        have HK9 := Aside0.mk hk9
        have HB9 := Aside0.mk (hb9 w.heap.size (Nat.le_refl _))
        clear hk9 hb9
        go_upto_region 12 with fail
        have hty9 : Aside0 (∀ (k : Nat) (cs : Array Value) (t : TypeId) (fr : Nat × Nat), W8.heap[k]? = some (.cells cs t fr) → t ≠ 5 → W9.heap[k]? = W8.heap[k]?) := ⟨fun k cs t fr h ht => HK9.out k (fun e => by
          obtain ⟨c, hc⟩ := Kd.R_typed HV8.out k e
          rw [h] at hc
          injection hc with hc
          injection hc with _ hc _
          exact ht hc)⟩
        have HI9 := Aside0.mk (HI8.out.moved (HI8.out.bel.trans HB9.out) (fun ho k hk => HK9.out k (fun e => (HAP.out k e).1 ho hk)) (fun k cs t fr h ht => hty9.out k cs t fr h (by rcases ht with rfl | rfl <;> decide)))
        have HX9 := Aside0.mk ((hty9.out bm _ _ _ HX8.out (by decide)).trans HX8.out)
        have HP9 := Aside0.mk ((hty9.out gp _ _ _ HP8.out (by decide)).trans HP8.out)
        have HN9 := Aside0.mk ((hty9.out gn _ _ _ HN8.out (by decide)).trans HN8.out)
        have HR9 := Aside0.mk (row_keep (W' := W9) HR8.out (fun k hk => HK9.out k (fun e => (HAP.out k e).2 hk)))
        clear hty9 hcl HK9 HB9 HI8 HX8 HO8 HP8 HN8 HR8 HV8 HAP hp0 hpf0 hp1 hpf1 hp2 hpf2 hp3 hpf3 hp4 hpf4 hpl HDN
        clear W8
        have hx0 : W9.cell? ⟨bm, 0, none⟩ = some (.string (strOfNums b)) := (blk_cell HX9.out 0).trans rfl
        have hxf0 := blk_frozen HX9.out 0
        have hx1 : W9.cell? ⟨bm, 1, none⟩ = some (.bool busy) := (blk_cell HX9.out 1).trans rfl
        have hxf1 := blk_frozen HX9.out 1
        have hx2 : W9.cell? ⟨bm, 2, none⟩ = some (.bool txt) := (blk_cell HX9.out 2).trans rfl
        have hxf2 := blk_frozen HX9.out 2
        have hx3 : W9.cell? ⟨bm, 3, none⟩ = some (.bool over) := (blk_cell HX9.out 3).trans rfl
        have hxf3 := blk_frozen HX9.out 3
        have hxl := blk_lt HX9.out
        have hy0 : W9.cell? ⟨gp, 0, none⟩ = some (.bool fin) := (blk_cell HP9.out 0).trans rfl
        have hyf0 := blk_frozen HP9.out 0
        have hy1 : W9.cell? ⟨gp, 1, none⟩ = some (.int .u8 op) := (blk_cell HP9.out 1).trans rfl
        have hyf1 := blk_frozen HP9.out 1
        have hy2 : W9.cell? ⟨gp, 2, none⟩ = some (.bool mk) := (blk_cell HP9.out 2).trans rfl
        have hyf2 := blk_frozen HP9.out 2
        have hy3 : W9.cell? ⟨gp, 3, none⟩ = some (.int .u32 key) := (blk_cell HP9.out 3).trans rfl
        have hyf3 := blk_frozen HP9.out 3
        have hy4 : W9.cell? ⟨gp, 4, none⟩ = some (.slice A4 d.length c4) := (blk_cell HP9.out 4).trans rfl
        have hyf4 := blk_frozen HP9.out 4
        have hyl := blk_lt HP9.out
        go_wp2_with fail
        refine (ref_step (B := w.heap.size) HS.out HM6.out.txt_ HM6.out.nob HM6.out.byt HD8.out HM6.out.len (by have := HLE.out; omega) HI9.out.bel.size (Rd.of_low HC4.out HI9.out.bel) HL4.out).mono ?_
        rintro e w10 ⟨txt', htx', A10, c10, rfl, hcn, hRd, hb10⟩
        have HI10 := Aside0.mk (HI9.out.below hb10)
        have HX10 := Aside0.mk (blk_below HX9.out hb10)
        have HN10 := Aside0.mk (blk_below HN9.out hb10)
        have HR10 := Aside0.mk (Kd.R_below HR9.out hb10)
        have HRD := Aside0.mk hRd
        have HTX := Aside0.mk htx'
        have HCN := Aside0.mk hcn
        clear hRd htx' hcn hb10 HI9 HX9 HN9 HR9 HP9 hx0 hxf0 hx1 hxf1 hx2 hxf2 hx3 hxf3 hxl hy0 hyf0 hy1 hyf1 hy2 hyf2 hy3 hyf3 hy4 hyf4 hyl
        clear W9
        go_upto_region 13 with fail
        have hb11 := below_alloc (below_alloc (Below.refl w10.heap.size w10) (.cells #[.string (strOfNums b'), .bool busy', .bool txt', .bool over'] 40)) (.cells #[.int .u8 kind, .bool tx, .slice A10 nd.length c10, .int .u32 code] 30)
        have HI11 := Aside0.mk (HI10.out.below hb11)
        have HX11 := Aside0.mk (blk_below HX10.out hb11)
        have HN11 := Aside0.mk (blk_below HN10.out hb11)
        have HR11 := Aside0.mk (Kd.R_below HR10.out hb11)
        have HRD11 := Aside0.mk (HRD.out.below hb11 HI10.out.bel.size)
        have hg11 : ((w10.alloc (.cells #[.string (strOfNums b'), .bool busy', .bool txt', .bool over'] 40)).alloc (.cells #[.int .u8 kind, .bool tx, .slice A10 nd.length c10, .int .u32 code] 30)).heap[w10.heap.size]? = some (.cells #[.string (strOfNums b'), .bool busy', .bool txt', .bool over'] 40 (0, 0)) := blk_alloc (last_at _ _ _ rfl) _
        have hw11 : ((w10.alloc (.cells #[.string (strOfNums b'), .bool busy', .bool txt', .bool over'] 40)).alloc (.cells #[.int .u8 kind, .bool tx, .slice A10 nd.length c10, .int .u32 code] 30)).heap[w10.heap.size + 1]? = some (.cells #[.int .u8 kind, .bool tx, .slice A10 nd.length c10, .int .u32 code] 30 (0, 0)) := last_at _ _ _ (by simp)
        have HNX := Aside0.mk (show bm ≠ w10.heap.size from by have := blk_lt HX10.out; omega)
        have HLX := Aside0.mk HI10.out.bel.size
        generalize (w10.alloc (.cells #[.string (strOfNums b'), .bool busy', .bool txt', .bool over'] 40)).alloc (.cells #[.int .u8 kind, .bool tx, .slice A10 nd.length c10, .int .u32 code] 30) = W11 at hb11 HI11 HX11 HN11 HR11 HRD11 hg11 hw11 ⊢
        have HG11 := Aside0.mk hg11
        have HW11 := Aside0.mk hw11
        obtain ⟨ge, hge⟩ : ∃ k, k = w10.heap.size := ⟨_, rfl⟩
        obtain ⟨gw, hgw⟩ : ∃ k, k = w10.heap.size + 1 := ⟨_, rfl⟩
        have HLW := Aside0.mk (show w.heap.size ≤ gw by have := HLX.out; omega)
        rw [← hgw] at HW11 ⊢
        rw [← hge] at HG11 HNX ⊢
        clear hg11 hw11 hgw hge hb11 HI10 HX10 HN10 HR10 HRD HLX
        clear w10
        have hx0 : W11.cell? ⟨bm, 0, none⟩ = some (.string (strOfNums b)) := (blk_cell HX11.out 0).trans rfl
        have hxf0 := blk_frozen HX11.out 0
        have hx1 : W11.cell? ⟨bm, 1, none⟩ = some (.bool busy) := (blk_cell HX11.out 1).trans rfl
        have hxf1 := blk_frozen HX11.out 1
        have hx2 : W11.cell? ⟨bm, 2, none⟩ = some (.bool txt) := (blk_cell HX11.out 2).trans rfl
        have hxf2 := blk_frozen HX11.out 2
        have hx3 : W11.cell? ⟨bm, 3, none⟩ = some (.bool over) := (blk_cell HX11.out 3).trans rfl
        have hxf3 := blk_frozen HX11.out 3
        have hxl := blk_lt HX11.out
        have hz0 : W11.cell? ⟨ge, 0, none⟩ = some (.string (strOfNums b')) := (blk_cell HG11.out 0).trans rfl
        have hzf0 := blk_frozen HG11.out 0
        have hz1 : W11.cell? ⟨ge, 1, none⟩ = some (.bool busy') := (blk_cell HG11.out 1).trans rfl
        have hzf1 := blk_frozen HG11.out 1
        have hz2 : W11.cell? ⟨ge, 2, none⟩ = some (.bool txt') := (blk_cell HG11.out 2).trans rfl
        have hzf2 := blk_frozen HG11.out 2
        have hz3 : W11.cell? ⟨ge, 3, none⟩ = some (.bool over') := (blk_cell HG11.out 3).trans rfl
        have hzf3 := blk_frozen HG11.out 3
        have hzl := blk_lt HG11.out
        go_upto_region 14 with fail
        have hx12 : ((((W11.setCell ⟨bm, 0, none⟩ (.string (strOfNums b'))).setCell ⟨bm, 1, none⟩ (.bool busy')).setCell ⟨bm, 2, none⟩ (.bool txt')).setCell ⟨bm, 3, none⟩ (.bool over')).heap[bm]? = some (.cells #[.string (strOfNums b'), .bool busy', .bool txt', .bool over'] 40 (0, 0)) := blk_put (blk_put (blk_put (blk_put HX11.out 0 _ rfl) 1 _ rfl) 2 _ rfl) 3 _ rfl
        have hty : Aside0 (∀ (k : Nat) (cs : Array Value) (t : TypeId) (fr : Nat × Nat), W11.heap[k]? = some (.cells cs t fr) → t ≠ 40 → ((((W11.setCell ⟨bm, 0, none⟩ (.string (strOfNums b'))).setCell ⟨bm, 1, none⟩ (.bool busy')).setCell ⟨bm, 2, none⟩ (.bool txt')).setCell ⟨bm, 3, none⟩ (.bool over')).heap[k]? = W11.heap[k]?) := ⟨fun k cs t fr h ht => heap_sets4 (fun e => by
          have h2 := HX11.out
          rw [← e, h] at h2
          injection h2 with h2
          injection h2 with _ h2 _
          exact ht h2)⟩
        have HQ : Aside0 (Qm w ((((W11.setCell ⟨bm, 0, none⟩ (.string (strOfNums b'))).setCell ⟨bm, 1, none⟩ (.bool busy')).setCell ⟨bm, 2, none⟩ (.bool txt')).setCell ⟨bm, 3, none⟩ (.bool over')) g bm gn gw v' u' b' busy' te' over' txt' tx gu' f' nd kind code A7 A10 c7 c10) := ⟨⟨HI11.out.other (sets4 HI11.out.bel HM6.out.lo) (fun k cs t fr h ht => hty.out k cs t fr h (by rcases ht with rfl | rfl | rfl <;> decide)), hx12, (hty.out gn _ _ _ HN11.out (by decide)).trans HN11.out, (hty.out gw _ _ _ HW11.out (by decide)).trans HW11.out, Kd.R_mono (row_keep HR11.out (fun k e => by
          obtain ⟨cs, hc⟩ := Kd.R_typed HR11.out k e
          exact hty.out k _ _ _ hc (by decide))) (fun _ _ => trivial), Rd.off4 HRD11.out HX11.out (by decide) HM6.out.lo⟩⟩
        obtain ⟨hnob', hb8', hbl'⟩ := HS.out.stays HM6.out.nob HM6.out.byt HD8.out HM6.out.len
        have HST := Aside0.mk (And.intro hnob' (And.intro hb8' hbl'))
        have hsz : (strOfNums b').size = b'.length := by simp [strOfNums, ByteArray.size]
        have HSM := Aside0.mk (same_f kind code tx nd)
        clear hx12 hty HX11 HN11 HW11 HR11 HRD11 HI11 HG11 hx0 hxf0 hx1 hxf1 hx2 hxf2 hx3 hxf3 hxl hz0 hzf0 hz1 hzf1 hz2 hzf2 hz3 hzf3 hzl hnob' hb8' hbl'
        generalize (((W11.setCell ⟨bm, 0, none⟩ (.string (strOfNums b'))).setCell ⟨bm, 1, none⟩ (.bool busy')).setCell ⟨bm, 2, none⟩ (.bool txt')).setCell ⟨bm, 3, none⟩ (.bool over') = W12 at HQ ⊢
        clear W11
        have hoo : (ok != ok) = false := by cases ok <;> rfl
        have hvv : (over' != over') = false := by cases over' <;> rfl
        have hll2 : ((b'.length : Int) != (b'.length : Int)) = false := by simp
        have hgt : ¬ ((4096 : Int) < (b'.length : Int)) := by have := HST.out.2.2; omega
        refine wp_region_noPanic ?_
        refine wp_region_held_drew (S := fun w' => Aside0 (Qm w w' g bm gn gw v' u' b' busy' te' over' txt' tx gu' f' nd kind code A7 A10 c7 c10) ∧ w'.cell? ⟨gn, 0, none⟩ = some (.int .u8 kind) ∧ w'.cell? ⟨gn, 1, none⟩ = some (.bool tx) ∧ w'.cell? ⟨gn, 2, none⟩ = some (.slice A7 nd.length c7) ∧ w'.cell? ⟨gn, 3, none⟩ = some (.int .u32 code) ∧ w'.cell? ⟨gw, 0, none⟩ = some (.int .u8 kind) ∧ w'.cell? ⟨gw, 1, none⟩ = some (.bool tx) ∧ w'.cell? ⟨gw, 2, none⟩ = some (.slice A10 nd.length c10) ∧ w'.cell? ⟨gw, 3, none⟩ = some (.int .u32 code) ∧ w'.cell? ⟨bm, 0, none⟩ = some (.string (strOfNums b')) ∧ w'.cell? ⟨bm, 3, none⟩ = some (.bool over')) (by kernel_rfl) (qmS (HQ.out.below (below_drew (Below.refl _ _)))) (fun hHeld => ?_)
        refine takeN (i := 0) (N := (some 46)) (v := ?v1) (a' := ?a1) rfl rfl (by kernel_rfl) (by kernel_rfl) (by kernel_rfl) (fun _ _ _ h => h) (Or.inl ⟨by rfl, ?hy1⟩) ?ha1 (by assumption) ?rest1
        case hy1 =>
          intro w_ hSw_
          go_simp
          first | done | (with_reducible rfl)
        case ha1 =>
          simp only [Act.put, List.setIfInBounds_toArray, List.set_cons_zero, List.set_cons_succ]
          rfl
        refine takeN (i := 1) (N := (some 47)) (v := ?v2) (a' := ?a2) rfl rfl (by kernel_rfl) (by kernel_rfl) (by kernel_rfl) (fun _ _ _ h => h) (Or.inl ⟨by rfl, ?hy2⟩) ?ha2 (by assumption) ?rest2
        case hy2 =>
          intro w_ hSw_
          go_simp
          first | done | (with_reducible rfl)
        case ha2 =>
          simp only [Act.put, List.setIfInBounds_toArray, List.set_cons_zero, List.set_cons_succ]
          rfl
        refine takeN (i := 2) (N := (some 48)) (v := ?v3) (a' := ?a3) rfl rfl (by kernel_rfl) (by kernel_rfl) (by kernel_rfl) (fun _ _ _ h => h) (Or.inl ⟨by rfl, ?hy3⟩) ?ha3 (by assumption) ?rest3
        case hy3 =>
          intro w_ hSw_
          go_simp
          first | done | (with_reducible rfl)
        case ha3 =>
          simp only [Act.put, List.setIfInBounds_toArray, List.set_cons_zero, List.set_cons_succ]
          rfl
        refine takeN (i := 3) (N := (some 49)) (v := ?v4) (a' := ?a4) rfl rfl (by kernel_rfl) (by kernel_rfl) (by kernel_rfl) (fun _ _ _ h => h) (Or.inl ⟨by rfl, ?hy4⟩) ?ha4 (by assumption) ?rest4
        case hy4 =>
          intro w_ hSw_
          go_simp
          first | done | (with_reducible rfl)
        case ha4 =>
          simp only [Act.put, List.setIfInBounds_toArray, List.set_cons_zero, List.set_cons_succ]
          rfl
        refine takeN (i := 4) (N := (some 50)) (v := ?v5) (a' := ?a5) rfl rfl (by kernel_rfl) (by kernel_rfl) (by kernel_rfl) (fun _ _ _ h => h) (Or.inl ⟨by rfl, ?hy5⟩) ?ha5 (by assumption) ?rest5
        case hy5 =>
          intro w_ hSw_
          go_simp
          first | done | (with_reducible rfl)
        case ha5 =>
          simp only [Act.put, List.setIfInBounds_toArray, List.set_cons_zero, List.set_cons_succ]
          rfl
        refine takeN (i := 5) (N := (some 51)) (v := ?v6) (a' := ?a6) rfl rfl (by kernel_rfl) (by kernel_rfl) (by kernel_rfl) (fun _ _ _ h => h) (Or.inl ⟨by rfl, ?hy6⟩) ?ha6 (by assumption) ?rest6
        case hy6 =>
          intro w_ hSw_
          go_simp
          first | done | (with_reducible rfl)
        case ha6 =>
          simp only [Act.put, List.setIfInBounds_toArray, List.set_cons_zero, List.set_cons_succ]
          rfl
        refine wpAnyH_ready (rs := [6]) (by kernel_rfl) (by simp) ?_
        refine AllReadyH.cons rfl (fun K hK => ?_) AllReadyH.nil
        go_simp
        go_at_call 18
        with_reducible refine (louverref18_Same.calls kind tx A7 c7 nd code kind tx A10 c10 nd code true _ (Kd.R_reads' hHeld.1.out.r).2.2 (Kd.R_reads' hHeld.1.out.r).2.1 (Rd.C hHeld.1.out.rd) HCN.out HSM.out).mono ?_
        rintro e w' ⟨rfl, hb⟩
        refine hK.out _ _ (qmS (hHeld.1.out.below hb)) (fun hHeld => ?_)
        clear hK K
        try simp only [Act.put, List.setIfInBounds_toArray, List.set_cons_zero, List.set_cons_succ]
        refine takeN (i := 7) (N := (some 53)) (v := ?v7) (a' := ?a7) rfl rfl (by kernel_rfl) (by kernel_rfl) (by kernel_rfl) (fun _ _ _ h => h) (Or.inl ⟨by rfl, ?hy7⟩) ?ha7 (by assumption) ?rest7
        case hy7 =>
          intro w_ hSw_
          go_simp
          first | done | (with_reducible rfl)
        case ha7 =>
          simp only [Act.put, List.setIfInBounds_toArray, List.set_cons_zero, List.set_cons_succ]
          rfl
        refine takeN (i := 8) (N := (some 54)) (v := ?v8) (a' := ?a8) rfl rfl (by kernel_rfl) (by kernel_rfl) (by kernel_rfl) (fun _ _ _ h => h) (Or.inl ⟨by rfl, ?hy8⟩) ?ha8 (by assumption) ?rest8
        case hy8 =>
          intro w_ hSw_
          go_simp
          first | done | (with_reducible rfl)
        case ha8 =>
          simp only [Act.put, List.setIfInBounds_toArray, List.set_cons_zero, List.set_cons_succ]
          rfl
        refine takeN (i := 9) (N := (some 55)) (v := ?v9) (a' := ?a9) rfl rfl (by kernel_rfl) (by kernel_rfl) (by kernel_rfl) (fun _ _ _ h => h) (Or.inl ⟨by rfl, ?hy9⟩) ?ha9 (by assumption) ?rest9
        case hy9 =>
          intro w_ hSw_
          go_simp
          first | done | (with_reducible rfl)
        case ha9 =>
          simp only [Act.put, List.setIfInBounds_toArray, List.set_cons_zero, List.set_cons_succ]
          rfl
        refine takeN (i := 10) (N := (some 56)) (v := ?v10) (a' := ?a10) rfl rfl (by kernel_rfl) (by kernel_rfl) (by kernel_rfl) (fun _ _ _ h => h) (Or.inl ⟨by rfl, ?hy10⟩) ?ha10 (by assumption) ?rest10
        case hy10 =>
          intro w_ hSw_
          go_simp
          first | done | (with_reducible rfl)
        case ha10 =>
          simp only [Act.put, List.setIfInBounds_toArray, List.set_cons_zero, List.set_cons_succ]
          rfl
        refine takeN (i := 12) (N := (some 58)) (v := ?v11) (a' := ?a11) rfl rfl (by kernel_rfl) (by kernel_rfl) (by kernel_rfl) (fun _ _ _ h => h) (Or.inl ⟨by rfl, ?hy11⟩) ?ha11 (by assumption) ?rest11
        case hy11 =>
          intro w_ hSw_
          go_simp
          first | done | (with_reducible rfl)
        case ha11 =>
          simp only [Act.put, List.setIfInBounds_toArray, List.set_cons_zero, List.set_cons_succ]
          rfl
        refine takeN (i := 13) (N := (some 59)) (v := ?v12) (a' := ?a12) rfl rfl (by kernel_rfl) (by kernel_rfl) (by kernel_rfl) (fun _ _ _ h => h) (Or.inl ⟨by rfl, ?hy12⟩) ?ha12 (by assumption) ?rest12
        case hy12 =>
          intro w_ hSw_
          go_simp
          first | done | (with_reducible rfl)
        case ha12 =>
          simp only [Act.put, List.setIfInBounds_toArray, List.set_cons_zero, List.set_cons_succ]
          rfl
        refine takeN (i := 14) (N := (some 60)) (v := ?v13) (a' := ?a13) rfl rfl (by kernel_rfl) (by kernel_rfl) (by kernel_rfl) (fun _ _ _ h => h) (Or.inl ⟨by rfl, ?hy13⟩) ?ha13 (by assumption) ?rest13
        case hy13 =>
          intro w_ hSw_
          go_simp
          first | done | (with_reducible rfl)
        case ha13 =>
          simp only [Act.put, List.setIfInBounds_toArray, List.set_cons_zero, List.set_cons_succ]
          rfl
        refine wpAnyH_ready (rs := [11]) (by kernel_rfl) (by simp) ?_
        refine AllReadyH.cons rfl (fun K hK => ?_) AllReadyH.nil
        go_simp
        go_at_call 19
        with_reducible refine (held_imp hHeld.1.out.imp HST.out.1).mono ?_
        rintro e w' ⟨rfl, hw⟩
        subst hw
        refine hK.out _ _ (hHeld) (fun hHeld => ?_)
        clear hK K
        try simp only [Act.put, List.setIfInBounds_toArray, List.set_cons_zero, List.set_cons_succ]
        refine takeN (i := 15) (N := (some 61)) (v := ?v14) (a' := ?a14) rfl rfl (by kernel_rfl) (by kernel_rfl) (by kernel_rfl) (fun _ _ _ h => h) (Or.inl ⟨by rfl, ?hy14⟩) ?ha14 (by assumption) ?rest14
        case hy14 =>
          intro w_ hSw_
          go_simp
          first | done | (with_reducible rfl)
        case ha14 =>
          simp only [Act.put, List.setIfInBounds_toArray, List.set_cons_zero, List.set_cons_succ]
          rfl
        refine takeN (i := 16) (N := (some 62)) (v := ?v15) (a' := ?a15) rfl rfl (by kernel_rfl) (by kernel_rfl) (by kernel_rfl) (fun _ _ _ h => h) (Or.inl ⟨by rfl, ?hy15⟩) ?ha15 (by assumption) ?rest15
        case hy15 =>
          intro w_ hSw_
          go_simp
          first | done | (with_reducible rfl)
        case ha15 =>
          simp only [Act.put, List.setIfInBounds_toArray, List.set_cons_zero, List.set_cons_succ]
          rfl
        refine takeN (i := 17) (N := (some 63)) (v := ?v16) (a' := ?a16) rfl rfl (by kernel_rfl) (by kernel_rfl) (by kernel_rfl) (fun _ _ _ h => h) (Or.inl ⟨by rfl, ?hy16⟩) ?ha16 (by assumption) ?rest16
        case hy16 =>
          intro w_ hSw_
          go_simp
          first | done | (with_reducible rfl)
        case ha16 =>
          simp only [Act.put, List.setIfInBounds_toArray, List.set_cons_zero, List.set_cons_succ]
          rfl
        refine takeN (i := 18) (N := (some 64)) (v := ?v17) (a' := ?a17) rfl rfl (by kernel_rfl) (by kernel_rfl) (by kernel_rfl) (fun _ _ _ h => h) (Or.inl ⟨by rfl, ?hy17⟩) ?ha17 (by assumption) ?rest17
        case hy17 =>
          intro w_ hSw_
          go_simp
          first | done | (with_reducible rfl)
        case ha17 =>
          simp only [Act.put, List.setIfInBounds_toArray, List.set_cons_zero, List.set_cons_succ]
          rfl
        refine wpAnyH_ready (rs := [19]) (by kernel_rfl) (by simp) ?_
        refine AllReadyH.cons rfl (fun K hK => ?_) AllReadyH.nil
        go_simp
        go_at_call 19
        with_reducible refine (held_imp hHeld.1.out.imp HST.out.1).mono ?_
        rintro e w' ⟨rfl, hw⟩
        subst hw
        refine hK.out _ _ (hHeld) (fun hHeld => ?_)
        clear hK K
        try simp only [Act.put, List.setIfInBounds_toArray, List.set_cons_zero, List.set_cons_succ]
        refine takeN (i := 20) (N := (some 66)) (v := ?v18) (a' := ?a18) rfl rfl (by kernel_rfl) (by kernel_rfl) (by kernel_rfl) (fun _ _ _ h => h) (Or.inl ⟨by rfl, ?hy18⟩) ?ha18 (by assumption) ?rest18
        case hy18 =>
          intro w_ hSw_
          go_simp
          first | done | (with_reducible rfl)
        case ha18 =>
          simp only [Act.put, List.setIfInBounds_toArray, List.set_cons_zero, List.set_cons_succ]
          rfl
        refine takeN (i := 21) (N := (some 67)) (v := ?v19) (a' := ?a19) rfl rfl (by kernel_rfl) (by kernel_rfl) (by kernel_rfl) (fun _ _ _ h => h) (Or.inl ⟨by rfl, ?hy19⟩) ?ha19 (by assumption) ?rest19
        case hy19 =>
          intro w_ hSw_
          go_simp
          first | done | (with_reducible rfl)
        case ha19 =>
          simp only [Act.put, List.setIfInBounds_toArray, List.set_cons_zero, List.set_cons_succ]
          rfl
        refine takeN (i := 22) (N := (some 68)) (v := ?v20) (a' := ?a20) rfl rfl (by kernel_rfl) (by kernel_rfl) (by kernel_rfl) (fun _ _ _ h => h) (Or.inl ⟨by rfl, ?hy20⟩) ?ha20 (by assumption) ?rest20
        case hy20 =>
          intro w_ hSw_
          go_simp
          first | done | (with_reducible rfl)
        case ha20 =>
          simp only [Act.put, List.setIfInBounds_toArray, List.set_cons_zero, List.set_cons_succ]
          rfl
        refine takeN (i := 23) (N := (some 69)) (v := ?v21) (a' := ?a21) rfl rfl (by kernel_rfl) (by kernel_rfl) (by kernel_rfl) (fun _ _ _ h => h) (Or.inl ⟨by rfl, ?hy21⟩) ?ha21 (by assumption) ?rest21
        case hy21 =>
          intro w_ hSw_
          go_simp
          first | done | (with_reducible rfl)
        case ha21 =>
          simp only [Act.put, List.setIfInBounds_toArray, List.set_cons_zero, List.set_cons_succ]
          rfl
        refine takeN (i := 25) (N := (some 71)) (v := ?v22) (a' := ?a22) rfl rfl (by kernel_rfl) (by kernel_rfl) (by kernel_rfl) (fun _ _ _ h => h) (Or.inl ⟨by rfl, ?hy22⟩) ?ha22 (by assumption) ?rest22
        case hy22 =>
          intro w_ hSw_
          go_simp
          first | done | (with_reducible rfl)
        case ha22 =>
          simp only [Act.put, List.setIfInBounds_toArray, List.set_cons_zero, List.set_cons_succ]
          rfl
        refine takeN (i := 26) (N := (some 72)) (v := ?v23) (a' := ?a23) rfl rfl (by kernel_rfl) (by kernel_rfl) (by kernel_rfl) (fun _ _ _ h => h) (Or.inl ⟨by rfl, ?hy23⟩) ?ha23 (by assumption) ?rest23
        case hy23 =>
          intro w_ hSw_
          go_simp
          first | done | (with_reducible rfl)
        case ha23 =>
          simp only [Act.put, List.setIfInBounds_toArray, List.set_cons_zero, List.set_cons_succ]
          rfl
        refine wpAnyH_ready (rs := [24]) (by kernel_rfl) (by simp) ?_
        refine AllReadyH.cons rfl (fun K hK => ?_) AllReadyH.nil
        go_simp
        go_at_call 20
        with_reducible refine (over_imp hHeld.1.out.imp HST.out.1).mono ?_
        rintro e w' ⟨rfl, hw⟩
        subst hw
        refine hK.out _ _ (hHeld) (fun hHeld => ?_)
        clear hK K
        try simp only [Act.put, List.setIfInBounds_toArray, List.set_cons_zero, List.set_cons_succ]
        refine takeN (i := 27) (N := (some 73)) (v := ?v24) (a' := ?a24) rfl rfl (by kernel_rfl) (by kernel_rfl) (by kernel_rfl) (fun _ _ _ h => h) (Or.inl ⟨by rfl, ?hy24⟩) ?ha24 (by assumption) ?rest24
        case hy24 =>
          intro w_ hSw_
          go_simp
          first | done | (with_reducible rfl)
        case ha24 =>
          simp only [Act.put, List.setIfInBounds_toArray, List.set_cons_zero, List.set_cons_succ]
          rfl
        refine takeN (i := 28) (N := (some 74)) (v := ?v25) (a' := ?a25) rfl rfl (by kernel_rfl) (by kernel_rfl) (by kernel_rfl) (fun _ _ _ h => h) (Or.inl ⟨by rfl, ?hy25⟩) ?ha25 (by assumption) ?rest25
        case hy25 =>
          intro w_ hSw_
          go_simp
          first | done | (with_reducible rfl)
        case ha25 =>
          simp only [Act.put, List.setIfInBounds_toArray, List.set_cons_zero, List.set_cons_succ]
          rfl
        refine wpAnyH_done (by kernel_rfl) ?_ _
        refine NoPanic.normal ?_
        have HQ14 := Aside0.mk hHeld.1.out
        clear hHeld hoo hvv hll2 hgt hsz HSM HCN HQ
        obtain ⟨W15, hcl2, hk15, hb15⟩ := clear_row HQ14.out.r
        have hn2 : w'.cell? ⟨gn, 2, none⟩ = some (.slice A7 nd.length c7) := (blk_cell HQ14.out.n 2).trans rfl
        have hnl := blk_lt HQ14.out.n
        have HK15 := Aside0.mk hk15
        have HB15 := Aside0.mk (hb15 w.heap.size (Nat.le_refl _))
        clear hk15 hb15
        have hty : Aside0 (∀ (k : Nat) (cs : Array Value) (t : TypeId) (fr : Nat × Nat), w'.heap[k]? = some (.cells cs t fr) → t ≠ 5 → W15.heap[k]? = w'.heap[k]?) := ⟨fun k cs t fr h ht => HK15.out k (fun e => by
          obtain ⟨c, hc⟩ := Kd.R_typed HQ14.out.r k e
          rw [h] at hc
          injection hc with hc
          injection hc with _ hc _
          exact ht hc)⟩
        have HI15 : Aside0 (Imp w W15 g v' u' b' busy' te' over' gu' f') := ⟨HQ14.out.imp.moved (HQ14.out.imp.bel.trans HB15.out) (fun ho k hk => HK15.out k (fun e => HNE.out ho k e hk)) (fun k cs t fr h ht => hty.out k cs t fr h (by rcases ht with rfl | rfl <;> decide))⟩
        have HX15 := Aside0.mk ((hty.out bm _ _ _ HQ14.out.bx (by decide)).trans HQ14.out.bx)
        have HMN : Aside0 (Mst w W15 g bm v' u' b' busy' te' txt' over' gu' f') := ⟨⟨HI15.out.bel, HX15.out, HM6.out.lo, HTX.out, HST.out.1, HST.out.2.2, HST.out.2.1, HI15.out⟩⟩
        clear hty HK15 HB15 HI15 HX15 HQ14 HNE HTX HST
        go_wp2_with fail
        go_roundg (x0.length - (i + 1))
        case rel => exact ⟨i + 1, _, _, _, _, _, _, _, _, _, by rw [show ((i + 1 : Nat) : Int) = (i : Int) + 1 by omega], by have := HI.out; omega, HMN.out⟩
        case measure => have := HI.out; omega
      · have hie : i = x0.length := by have := HI.out; omega
        go_wp2_with fail
        refine (fixed_yes _).mono ?_
        rintro e w9 ⟨rfl, hb⟩
        have HB9 := Aside0.mk (below_step HM.out.bel hb)
        clear hb
        go_wp2_with fail
        go_ret
        exact ⟨rfl, HB9.out⟩
end Go.Proofs.YtbjjobifpmjhhaaDoor

