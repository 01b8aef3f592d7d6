/- What the law's row rests on, part 4. -/
import Derived.Test.YtpmeapdcjmaeiaaGreatDoorZ3
import Derived.Deep.RegionHeld3
set_option linter.unusedVariables false
set_option linter.unusedSimpArgs false
set_option maxRecDepth 100000
set_option maxHeartbeats 16000000
namespace Go.Proofs.YtpmeapdcjmaeiaaGreatDoor
open Go.RowKit Go.Wa Go.Wb Go.Wc
theorem takeN {P : Program} {md : Region.Mode} {ops : Array Oper} {Q : Exit → Act → World → Prop} {S : World → Prop} {i : Nat} {N : Option Tmp} {oi : Oper} {v : Value} {fuel : Nat} {listed : Array Bool} {a a' : Act} {w : World} (hi : ops[i]? = some oi) (hN : oi.dst = N)
  (hs : Region.noSelect ops = true) (hf : Region.free md ops listed i = true) (hr : (Region.ready md ops listed).contains i = true)
  (hQ : ∀ c a w, Q (.panic c) (a.put oi.dst v) w → Q (.panic c) a w) (hy : YieldsIf P ops S oi v a) (ha : a.put N v = a') (hS : S w)
  (h : wpAnyH P md ops Q S fuel (listed.setIfInBounds i true) a' w) : wpAnyH P md ops Q S (fuel + 1) listed a w := by
 subst hN; subst ha
 exact wpAnyH_take hi hs hf hr hQ hy hS h
theorem takeP (i : Nat) (n : Tmp) {P : Program} {md : Region.Mode} {ops : Array Oper} {Q : Exit → Act → World → Prop} {S : World → Prop} {oi : Oper} {v : Value} {fuel : Nat} {listed : Array Bool} {a a' : Act} {w : World}
  (h : wpAnyH P md ops Q S fuel (listed.setIfInBounds i true) a' w) (hi : ops[i]? = some oi := by rfl) (hN : oi.dst = some n := by rfl)
  (hs : Region.noSelect ops = true := by kernel_rfl) (hf : Region.free md ops listed i = true := by kernel_rfl) (hr : (Region.ready md ops listed).contains i = true := by kernel_rfl)
  (hQ : ∀ c a w, Q (.panic c) (a.put oi.dst v) w → Q (.panic c) a w := by exact fun _ _ _ h => h)
  (hy : YieldsIf P ops S oi v a := by (refine Or.inl ⟨by rfl, ?_⟩; intro w_ hSw_; go_simp; first | done | (with_reducible rfl)))
  (ha : a.put (some n) v = a' := by (simp only [Act.put, z1_, z2_, z3_]; rfl)) (hS : S w := by assumption) : wpAnyH P md ops Q S (fuel + 1) listed a w :=
 takeN hi hN hs hf hr hQ hy ha hS h
theorem rd1_ (i : Nat) {P : Program} {md : Region.Mode} {ops : Array Oper} {Q : Exit → Act → World → Prop} {S : World → Prop} {fuel : Nat} {listed : Array Bool} {a : Act} {w : World} {o : Oper} (h : ∀ K' : Act → World → Prop, Shut (∀ a w, S w → (S w → wpAnyH P md ops Q S fuel (listed.setIfInBounds i true) a w) → K' a w) → if Region.wanted o (yielded ops a.tmps) = true then Oper.wp P o a w K' Q else K' (a.put o.dst undef) w) (ho : ops[i]? = some o := by rfl) (hr : Region.ready md ops listed = [i] := by kernel_rfl) : wpAnyH P md ops Q S (fuel + 1) listed a w := wpAnyH_ready hr (by simp) (AllReadyH.cons ho h AllReadyH.nil)
def CloneTo (d : List Int) : Prop := ∀ (A : Option Addr) (c : Nat) (w : World), Kd.C (Kd.int .u8) w A d.length d → d.length ≤ c → Calls Tryz.prog 67 #[.slice A d.length c] w fun e w' => ∃ v, e = .returned v ∧ Kd.R (Kd.int .u8) 5 w' w.heap.size (fun _ => True) v d ∧ Below w.heap.size w w'
def TurnTo (d : List Int) (k : Int) (r : List Int) : Prop := ∀ (A : Option Addr) (c : Nat) (w : World), Kd.C (Kd.int .u8) w A d.length d → d.length ≤ c → Calls Tryz.prog 70 #[.slice A d.length c, .int .u32 k] w fun e w' => ∃ v, e = .returned v ∧ Kd.R (Kd.int .u8) 5 w' w.heap.size (fun _ => True) v r ∧ Below w.heap.size w w'
theorem CloneTo.at_ {d : List Int} (h : CloneTo d) (A : Option Addr) (c : Nat) (w : World) (hC : Kd.C (Kd.int .u8) w A d.length d) (hc : d.length ≤ c) : Calls Tryz.prog 67 #[.slice A d.length c] w fun e w' => ∃ v, e = .returned v ∧ Kd.R (Kd.int .u8) 5 w' w.heap.size (fun _ => True) v d ∧ Below w.heap.size w w' := h A c w hC hc
theorem TurnTo.at_ {d : List Int} {k : Int} {r : List Int} (h : TurnTo d k r) (A : Option Addr) (c : Nat) (w : World) (hC : Kd.C (Kd.int .u8) w A d.length d) (hc : d.length ≤ c) : Calls Tryz.prog 70 #[.slice A d.length c, .int .u32 k] w fun e w' => ∃ v, e = .returned v ∧ Kd.R (Kd.int .u8) 5 w' w.heap.size (fun _ => True) v r ∧ Below w.heap.size w w' := h A c w hC hc
theorem GetPost.mk {r1 : Bool} {r2 : Int} {r3 : Bool} {r4 : Int} {r5 : List Int} {w w' : World} {v : Value} (hR : Kd.R (Kd.int .u8) 5 w' w.heap.size (fun _ => True) v r5) (hb : Below w.heap.size w w') : GetPost r1 r2 r3 r4 r5 0 0 w (.returned (.tuple #[.agg #[.bool r1, .int .u8 r2, .bool r3, .int .u32 r4, v], .agg #[.int .u8 0, .int .u32 0]])) w' := ⟨_, rfl, hR, hb⟩
structure Hgs (w W : World) : Prop where
 bel : Below w.heap.size w W
 piece : W.heap[w.heap.size]? = some (.cells #[.bool false, .int .u8 0, .bool false, .int .u32 0, .slice none 0 0] 81 (0, 0))
 fault : W.heap[w.heap.size + 1]? = some (.cells #[.int .u8 0, .int .u32 0] 87 (0, 0))
theorem Hgs.below {w W W' : World} (h : Hgs w W) (hb : Below W.heap.size W W') : Hgs w W' := ⟨below_step h.bel hb, blk_below h.piece hb, blk_below h.fault hb⟩
theorem Hgs.lt {w W : World} (h : Hgs w W) : w.heap.size + 1 < W.heap.size := blk_lt h.fault
theorem Hgs.set {w W : World} (h : Hgs w W) {p : Addr} (hp : w.heap.size + 1 < p.block) (v : Value) : Hgs w (W.setCell p v) := ⟨Below.setCell h.bel (by omega) _, (Below.heap_setCell W p v _ (by omega)).trans h.piece, (Below.heap_setCell W p v _ (by omega)).trans h.fault⟩
def GS (w : World) (ad : Addr) (b0 : Int) (W : World) : Prop := Aside0 (Hgs w W) ∧ W.cell? ad = some (.int .u8 b0)
theorem GS.mk {w : World} {ad : Addr} {b0 : Int} (x0 : w.cell? ad = some (.int .u8 b0)) {W : World} (h : Hgs w W) : Aside0 (Hgs w W) ∧ W.cell? ad = some (.int .u8 b0) := ⟨⟨h⟩, (h.bel.cell (World.block_lt_of_cell? _ _ x0)).trans x0⟩
theorem put5 {W : World} {g : Nat} {t : TypeId} {a0 a1 a2 a3 a4 : Value} (h : W.heap[g]? = some (.cells #[a0, a1, a2, a3, a4] t (0, 0))) (v0 v1 v2 v3 v4 : Value) : (((((W.setCell ⟨g, 0, none⟩ v0).setCell ⟨g, 1, none⟩ v1).setCell ⟨g, 2, none⟩ v2).setCell ⟨g, 3, none⟩ v3).setCell ⟨g, 4, none⟩ v4).heap[g]? = some (.cells #[v0, v1, v2, v3, v4] t (0, 0)) :=
 blk_put (blk_put (blk_put (blk_put (blk_put h 0 v0 rfl) 1 v1 rfl) 2 v2 rfl) 3 v3 rfl) 4 v4 rfl
theorem Get_ok_2 (l d : List Int) (ad : Addr) (c : Nat) (w : World) (b0 op dd s : Int) (hg : Cond w) (x0 : w.cell? ad = some (.int .u8 b0)) (ho : Go.bits .and .u8 b0 15 = op) (hC : Kd.C (Kd.int .u8) w (some ad) l.length l) (hlc : l.length ≤ c) (hF : 2 ≤ l.length) (hs : IntKind.i64.wrap (2 + dd) = s) (hne : ((l.length : Int) != s) = false) (hd : l.drop 2 = d) (hcl : CloneTo d) (hh : HeadAt (some ad) l.length c false w 2 dd false 0) : Calls Tryz.prog 73 #[.slice (some ad) l.length c, .bool false] w (GetPost (decide (128 ≤ b0)) op false 0 d 0 0 w) := by
 have hal : ad.block < w.heap.size := World.block_lt_of_cell? _ _ x0
 have p0 : (0 : Int) < (l.length : Int) := by omega
 have p0n : 0 < l.length := by omega
 have p1 : (2 : Int) ≤ (l.length : Int) := by omega
 have p2 : (2 : Int) ≤ (c : Int) := by omega
 obtain ⟨i_, hi_⟩ : ∃ i, Tryz.prog.info? 5 = some i := by
  have h : (Tryz.prog.info? 5).isSome = true := by kernel_rfl
  exact Option.isSome_iff_exists.1 h
 have hsz_ : i_.size = 1 := by
  have h : (Tryz.prog.info? 5).map (fun i => i.size) = some 1 := by kernel_rfl
  rw [hi_] at h
  exact Option.some.inj h
 obtain ⟨A1, hcut0, hA1⟩ := print_cut (P := Tryz.prog) 27 5 .i64 Tryz.underlying27 hi_ hsz_ (some ad) l.length c 2 hF
 have hdl : l.length - 2 = d.length := by rw [← hd]; simp
 rw [hdl] at hcut0 hA1
 have hcut : ∀ W : World, (Instr.slice 27 (.slice (some ad) l.length c) (some (.int .i64 2)) none none).run Tryz.prog W = .ok (.slice A1 d.length (c - 2)) W := hcut0
 have hcd : d.length ≤ c - 2 := by omega
 have HD : Aside0 (Kd.C (Kd.int .u8) w A1 d.length d) := ⟨Kd.C_of_reads (d := (0 : Int)) (h1 := fun _ => rfl) (hd ▸ hA1 w .u8 l hlc (Kd.reads_of_C hC))⟩
 have HCL := a_ hcl
 have HC := a_ hg
 have HX0 := a_ x0
 clear hcut0 hA1 hsz_ hi_ hdl hd hcl hg hC i_
 have hu26 := Tryz.underlying87
 have hu37 := Tryz.underlying81
 have HH := a_ hh
 clear hh
 go_enter Tryz.func73, Tryz.ntmps73
 go_wp2_with fail
 refine (HH.out _ (below_alloc (below_alloc (Below.refl _ _) _) _)).mono ?_
 rintro e w1 ⟨v, rfl, hv, hb⟩
 have hp1 : w1.heap[w.heap.size]? = some (.cells #[.bool false, .int .u8 0, .bool false, .int .u32 0, .slice none 0 0] 81 (0, 0)) := blk_below (blk_alloc (last_at _ _ _ rfl) _) hb
 have hr1 : w1.heap[w.heap.size + 1]? = some (.cells #[.int .u8 0, .int .u32 0] 87 (0, 0)) := blk_below (last_at _ _ _ (by simp)) hb
 have HB1 := a_ (below_step (below_alloc (below_alloc (Below.refl w.heap.size w) (.cells #[.bool false, .int .u8 0, .bool false, .int .u32 0, .slice none 0 0] 81)) (.cells #[.int .u8 0, .int .u32 0] 87)) hb)
 clear hb
 obtain rfl := nil_of_post hv rfl
 have HG1 : Aside0 (Hgs w w1) := ⟨⟨HB1.out, hp1, hr1⟩⟩
 clear hv hp1 hr1 HB1
 go_wp2_with fail
 clear x0
 refine wp_region_noPanic ?_
 refine wp_region_held_drew (S := fun w' => Aside0 (Hgs w w') ∧ w'.cell? ad = some (.int .u8 b0)) (by kernel_rfl) (GS.mk HX0.out (Hgs.below HG1.out (below_drew (Below.refl _ _)))) (fun hHeld => ?_)
 refine takeP 0 41 ?_
 refine takeP 1 42 ?_
 refine takeP 2 43 ?_
 refine takeP 3 44 ?_
 refine takeP 4 45 ?_
 refine takeP 5 46 ?_
 refine takeP 6 47 ?_
 refine takeP 7 48 ?_
 refine takeP 8 49 ?_
 refine takeP 9 50 ?_
 refine takeP 10 51 ?_
 refine takeP 11 52 ?_
 refine wpAnyH_ready (rs := [12, 14]) (by kernel_rfl) (by simp) ?_
 refine AllReadyH.cons rfl (fun K hK => ?_) (AllReadyH.cons rfl (fun K hK => ?_) AllReadyH.nil)
 ·go_simp
  go_at_call 67
  with_reducible refine (CloneTo.at_ HCL.out A1 _ _ (Kd.C_below HD.out hHeld.1.out.bel) hcd).mono ?_
  rintro e w2 ⟨vc, rfl, ho, hb⟩
  obtain ⟨Ac, cc, rfl⟩ := Kd.R_slice ho
  have HO := a_ ho
  have HG2 := a_ (Hgs.below hHeld.1.out hb)
  clear ho hb
  refine hK.out _ _ (GS.mk HX0.out HG2.out) (fun hHeld => ?_)
  clear hK K
  try simp only [Act.put, z1_, z2_, z3_]
  refine takeP 13 54 ?_
  refine rd1_ 14 fun K hK => ?_
  go_simp
  refine hK.out _ _ (GS.mk HX0.out (HG2.out.below (below_alloc (Below.refl _ _) _))) (fun hHeld => ?_)
  clear hK K
  try simp only [Act.put, z1_, z2_, z3_]
  refine rd1_ 15 fun K hK => ?_
  go_simp
  refine hK.out _ _ (GS.mk HX0.out (HG2.out.below (below_alloc (Below.refl _ _) _))) (fun hHeld => ?_)
  clear hK K
  try simp only [Act.put, z1_, z2_, z3_]
  refine wpAnyH_done (by kernel_rfl) ?_ _
  refine NoPanic.normal ?_
  have hG6 := hHeld.1.out
  clear hHeld
  have hbox : (w2.alloc (.cells #[.bool (decide (128 ≤ b0)), .int .u8 op, .bool false, .int .u32 0, .slice Ac d.length cc] 81)).heap[w2.heap.size]? = some (.cells #[.bool (decide (128 ≤ b0)), .int .u8 op, .bool false, .int .u32 0, .slice Ac d.length cc] 81 (0, 0)) := last_at w2 _ _ rfl
  have hR := Kd.R_alloc (Kd.R_mono (Kd.R_bound HO.out) (ok' := fun k => k < w2.heap.size) (fun k hk => hk.2.2.1)) (.cells #[.bool (decide (128 ≤ b0)), .int .u8 op, .bool false, .int .u32 0, .slice Ac d.length cc] 81)
  have hgl := HG2.out.lt
  generalize w2.alloc (.cells #[.bool (decide (128 ≤ b0)), .int .u8 op, .bool false, .int .u32 0, .slice Ac d.length cc] 81) = W6 at hG6 hbox hR ⊢
  have hR6 := Kd.R_mono (Kd.R_lower hR (show w.heap.size ≤ _ by have := HG1.out.bel.size; simp; omega)) (ok' := fun k => k ≠ w2.heap.size) (fun k hk => Nat.ne_of_lt hk)
  generalize w2.heap.size = g at hbox hR6 hgl ⊢
  clear hR HO HG2
  have HGe := a_ hG6
  have HRe := a_ hR6
  have HBe := a_ hbox
  clear hG6 hR6 hbox
  obtain ⟨g0, g1, g2, g3, g4⟩ := xl5_ HBe.out
  have gl := blk_lt HBe.out
  obtain ⟨p0, pf0, p1, pf1, p2, pf2, p3, pf3, p4, pf4⟩ := xf5_ HGe.out.piece
  obtain ⟨r0, rf0, r1, rf1⟩ := xf2_ HGe.out.fault
  have pl := blk_lt HGe.out.piece
  have rl := blk_lt HGe.out.fault
  have hle0 : w.heap.size ≤ w.heap.size := Nat.le_refl _
  have hle1 : w.heap.size ≤ w.heap.size + 1 := by omega
  go_wp2_with fail
  exact bodyPost_ret (v := .tuple #[.agg #[.bool (decide (128 ≤ b0)), .int .u8 op, .bool false, .int .u32 0, .slice Ac d.length cc], .agg #[.int .u8 0, .int .u32 0]]) (by simp [results, Tryz.results73, go_sem, p0, p1, p2, p3, p4, r0, r1]) rfl (GetPost.mk (Kd.R_mono (Kd.R_far (Kd.R_far (Kd.R_far (Kd.R_far (Kd.R_far (Kd.R_far (Kd.R_far (Kd.R_types (Kd.R_types HRe.out HGe.out.piece (by intro q hq; simp [Kd.int, Kd.scalar] at hq; omega)) HGe.out.fault (by intro q hq; simp [Kd.int, Kd.scalar] at hq; omega)) (p := ⟨w.heap.size, 0, none⟩) (fun k hk => hk.1.2) (.bool (decide (128 ≤ b0)))) (p := ⟨w.heap.size, 1, none⟩) (fun k hk => hk.1.2) (.int .u8 op)) (p := ⟨w.heap.size, 2, none⟩) (fun k hk => hk.1.2) (.bool false)) (p := ⟨w.heap.size, 3, none⟩) (fun k hk => hk.1.2) (.int .u32 0)) (p := ⟨w.heap.size, 4, none⟩) (fun k hk => hk.1.2) (.slice Ac d.length cc)) (p := ⟨w.heap.size + 1, 0, none⟩) (fun k hk => hk.2) (.int .u8 0)) (p := ⟨w.heap.size + 1, 1, none⟩) (fun k hk => hk.2) (.int .u32 0)) (ok' := fun _ => True) (fun _ _ => trivial)) (Below.setCell (Below.setCell (Below.setCell (Below.setCell (Below.setCell (Below.setCell (Below.setCell HGe.out.bel hle0 _) hle0 _) hle0 _) hle0 _) hle0 _) hle1 _) hle1 _))
 ·have HW1 := a_ hHeld.1.out
  go_simp
  refine hK.out _ _ (GS.mk HX0.out (HW1.out.below (below_alloc (Below.refl _ _) _))) (fun hHeld => ?_)
  clear hK K
  try simp only [Act.put, z1_, z2_, z3_]
  refine rd1_ 12 fun K hK => ?_
  go_simp
  go_at_call 67
  with_reducible refine (CloneTo.at_ HCL.out A1 _ _ (Kd.C_below HD.out hHeld.1.out.bel) hcd).mono ?_
  rintro e w2 ⟨vc, rfl, ho, hb⟩
  obtain ⟨Ac, cc, rfl⟩ := Kd.R_slice ho
  have HO := a_ ho
  have HG2 := a_ (Hgs.below hHeld.1.out hb)
  have hbx : w2.heap[w1.heap.size]? = some (.cells #[.bool false, .int .u8 0, .bool false, .int .u32 0, .slice none 0 0] 81 (0, 0)) := blk_below (blk_drew (last_at w1 _ _ rfl)) hb
  obtain ⟨bc0, bf0, bc1, bf1, bc2, bf2, bc3, bf3, bc4, bf4⟩ := xf5_ hbx
  have bl := blk_lt hbx
  have hgl : w.heap.size + 1 < w1.heap.size := HW1.out.lt
  have HBX := a_ hbx
  clear hbx
  clear ho hb
  refine hK.out _ _ (GS.mk HX0.out HG2.out) (fun hHeld => ?_)
  clear hK K
  try simp only [Act.put, z1_, z2_, z3_]
  refine takeP 13 54 ?_
  refine rd1_ 15 fun K hK => ?_
  go_simp
  refine hK.out _ _ (GS.mk HX0.out (((((HG2.out.set (show _ < w1.heap.size from hgl) _).set (show _ < w1.heap.size from hgl) _).set (show _ < w1.heap.size from hgl) _).set (show _ < w1.heap.size from hgl) _).set (show _ < w1.heap.size from hgl) _)) (fun hHeld => ?_)
  clear hK K
  try simp only [Act.put, z1_, z2_, z3_]
  refine wpAnyH_done (by kernel_rfl) ?_ _
  refine NoPanic.normal ?_
  have hG6 := hHeld.1.out
  clear hHeld bc0 bc1 bc2 bc3 bc4 bf0 bf1 bf2 bf3 bf4 bl
  have hbox := put5 HBX.out (.bool (decide (128 ≤ b0))) (.int .u8 op) (.bool false) (.int .u32 0) (.slice Ac d.length cc)
  have hR := Kd.R_far (Kd.R_far (Kd.R_far (Kd.R_far (Kd.R_far (Kd.R_mono (Kd.R_bound HO.out) (ok' := fun k => w1.heap.size < k) (fun k hk => by have := hk.2.1; simp at this; omega)) (p := ⟨w1.heap.size, 0, none⟩) (fun k hk => by show k ≠ w1.heap.size; have : w1.heap.size < k := hk; omega) (.bool (decide (128 ≤ b0)))) (p := ⟨w1.heap.size, 1, none⟩) (fun k hk => by show k ≠ w1.heap.size; have : w1.heap.size < k := hk; omega) (.int .u8 op)) (p := ⟨w1.heap.size, 2, none⟩) (fun k hk => by show k ≠ w1.heap.size; have : w1.heap.size < k := hk; omega) (.bool false)) (p := ⟨w1.heap.size, 3, none⟩) (fun k hk => by show k ≠ w1.heap.size; have : w1.heap.size < k := hk; omega) (.int .u32 0)) (p := ⟨w1.heap.size, 4, none⟩) (fun k hk => by show k ≠ w1.heap.size; have : w1.heap.size < k := hk; omega) (.slice Ac d.length cc)
  generalize (((((w2.setCell ⟨w1.heap.size, 0, none⟩ (.bool (decide (128 ≤ b0)))).setCell ⟨w1.heap.size, 1, none⟩ (.int .u8 op)).setCell ⟨w1.heap.size, 2, none⟩ (.bool false)).setCell ⟨w1.heap.size, 3, none⟩ (.int .u32 0)).setCell ⟨w1.heap.size, 4, none⟩ (.slice Ac d.length cc)) = W6 at hG6 hbox hR ⊢
  have hR6 := Kd.R_mono (Kd.R_lower hR (show w.heap.size ≤ _ by have := HG1.out.bel.size; simp; omega)) (ok' := fun k => k ≠ w1.heap.size) (fun k hk => Nat.ne_of_gt hk)
  generalize w1.heap.size = g at hbox hR6 hgl ⊢
  clear hR HO HG2
  have HGe := a_ hG6
  have HRe := a_ hR6
  have HBe := a_ hbox
  clear hG6 hR6 hbox
  obtain ⟨g0, g1, g2, g3, g4⟩ := xl5_ HBe.out
  have gl := blk_lt HBe.out
  obtain ⟨p0, pf0, p1, pf1, p2, pf2, p3, pf3, p4, pf4⟩ := xf5_ HGe.out.piece
  obtain ⟨r0, rf0, r1, rf1⟩ := xf2_ HGe.out.fault
  have pl := blk_lt HGe.out.piece
  have rl := blk_lt HGe.out.fault
  have hle0 : w.heap.size ≤ w.heap.size := Nat.le_refl _
  have hle1 : w.heap.size ≤ w.heap.size + 1 := by omega
  go_wp2_with fail
  exact bodyPost_ret (v := .tuple #[.agg #[.bool (decide (128 ≤ b0)), .int .u8 op, .bool false, .int .u32 0, .slice Ac d.length cc], .agg #[.int .u8 0, .int .u32 0]]) (by simp [results, Tryz.results73, go_sem, p0, p1, p2, p3, p4, r0, r1]) rfl (GetPost.mk (Kd.R_mono (Kd.R_far (Kd.R_far (Kd.R_far (Kd.R_far (Kd.R_far (Kd.R_far (Kd.R_far (Kd.R_types (Kd.R_types HRe.out HGe.out.piece (by intro q hq; simp [Kd.int, Kd.scalar] at hq; omega)) HGe.out.fault (by intro q hq; simp [Kd.int, Kd.scalar] at hq; omega)) (p := ⟨w.heap.size, 0, none⟩) (fun k hk => hk.1.2) (.bool (decide (128 ≤ b0)))) (p := ⟨w.heap.size, 1, none⟩) (fun k hk => hk.1.2) (.int .u8 op)) (p := ⟨w.heap.size, 2, none⟩) (fun k hk => hk.1.2) (.bool false)) (p := ⟨w.heap.size, 3, none⟩) (fun k hk => hk.1.2) (.int .u32 0)) (p := ⟨w.heap.size, 4, none⟩) (fun k hk => hk.1.2) (.slice Ac d.length cc)) (p := ⟨w.heap.size + 1, 0, none⟩) (fun k hk => hk.2) (.int .u8 0)) (p := ⟨w.heap.size + 1, 1, none⟩) (fun k hk => hk.2) (.int .u32 0)) (ok' := fun _ => True) (fun _ _ => trivial)) (Below.setCell (Below.setCell (Below.setCell (Below.setCell (Below.setCell (Below.setCell (Below.setCell HGe.out.bel hle0 _) hle0 _) hle0 _) hle0 _) hle0 _) hle1 _) hle1 _))
theorem Get_ok_4 (l d : List Int) (ad : Addr) (c : Nat) (w : World) (b0 op dd s : Int) (hg : Cond w) (x0 : w.cell? ad = some (.int .u8 b0)) (ho : Go.bits .and .u8 b0 15 = op) (hC : Kd.C (Kd.int .u8) w (some ad) l.length l) (hlc : l.length ≤ c) (hF : 4 ≤ l.length) (hs : IntKind.i64.wrap (4 + dd) = s) (hne : ((l.length : Int) != s) = false) (hd : l.drop 4 = d) (hcl : CloneTo d) (hh : HeadAt (some ad) l.length c false w 4 dd false 0) : Calls Tryz.prog 73 #[.slice (some ad) l.length c, .bool false] w (GetPost (decide (128 ≤ b0)) op false 0 d 0 0 w) := by
 have hal : ad.block < w.heap.size := World.block_lt_of_cell? _ _ x0
 have p0 : (0 : Int) < (l.length : Int) := by omega
 have p0n : 0 < l.length := by omega
 have p1 : (4 : Int) ≤ (l.length : Int) := by omega
 have p2 : (4 : Int) ≤ (c : Int) := by omega
 obtain ⟨i_, hi_⟩ : ∃ i, Tryz.prog.info? 5 = some i := by
  have h : (Tryz.prog.info? 5).isSome = true := by kernel_rfl
  exact Option.isSome_iff_exists.1 h
 have hsz_ : i_.size = 1 := by
  have h : (Tryz.prog.info? 5).map (fun i => i.size) = some 1 := by kernel_rfl
  rw [hi_] at h
  exact Option.some.inj h
 obtain ⟨A1, hcut0, hA1⟩ := print_cut (P := Tryz.prog) 27 5 .i64 Tryz.underlying27 hi_ hsz_ (some ad) l.length c 4 hF
 have hdl : l.length - 4 = d.length := by rw [← hd]; simp
 rw [hdl] at hcut0 hA1
 have hcut : ∀ W : World, (Instr.slice 27 (.slice (some ad) l.length c) (some (.int .i64 4)) none none).run Tryz.prog W = .ok (.slice A1 d.length (c - 4)) W := hcut0
 have hcd : d.length ≤ c - 4 := by omega
 have HD : Aside0 (Kd.C (Kd.int .u8) w A1 d.length d) := ⟨Kd.C_of_reads (d := (0 : Int)) (h1 := fun _ => rfl) (hd ▸ hA1 w .u8 l hlc (Kd.reads_of_C hC))⟩
 have HCL := a_ hcl
 have HC := a_ hg
 have HX0 := a_ x0
 clear hcut0 hA1 hsz_ hi_ hdl hd hcl hg hC i_
 have hu26 := Tryz.underlying87
 have hu37 := Tryz.underlying81
 have HH := a_ hh
 clear hh
 go_enter Tryz.func73, Tryz.ntmps73
 go_wp2_with fail
 refine (HH.out _ (below_alloc (below_alloc (Below.refl _ _) _) _)).mono ?_
 rintro e w1 ⟨v, rfl, hv, hb⟩
 have hp1 : w1.heap[w.heap.size]? = some (.cells #[.bool false, .int .u8 0, .bool false, .int .u32 0, .slice none 0 0] 81 (0, 0)) := blk_below (blk_alloc (last_at _ _ _ rfl) _) hb
 have hr1 : w1.heap[w.heap.size + 1]? = some (.cells #[.int .u8 0, .int .u32 0] 87 (0, 0)) := blk_below (last_at _ _ _ (by simp)) hb
 have HB1 := a_ (below_step (below_alloc (below_alloc (Below.refl w.heap.size w) (.cells #[.bool false, .int .u8 0, .bool false, .int .u32 0, .slice none 0 0] 81)) (.cells #[.int .u8 0, .int .u32 0] 87)) hb)
 clear hb
 obtain rfl := nil_of_post hv rfl
 have HG1 : Aside0 (Hgs w w1) := ⟨⟨HB1.out, hp1, hr1⟩⟩
 clear hv hp1 hr1 HB1
 go_wp2_with fail
 clear x0
 refine wp_region_noPanic ?_
 refine wp_region_held_drew (S := fun w' => Aside0 (Hgs w w') ∧ w'.cell? ad = some (.int .u8 b0)) (by kernel_rfl) (GS.mk HX0.out (Hgs.below HG1.out (below_drew (Below.refl _ _)))) (fun hHeld => ?_)
 refine takeP 0 41 ?_
 refine takeP 1 42 ?_
 refine takeP 2 43 ?_
 refine takeP 3 44 ?_
 refine takeP 4 45 ?_
 refine takeP 5 46 ?_
 refine takeP 6 47 ?_
 refine takeP 7 48 ?_
 refine takeP 8 49 ?_
 refine takeP 9 50 ?_
 refine takeP 10 51 ?_
 refine takeP 11 52 ?_
 refine wpAnyH_ready (rs := [12, 14]) (by kernel_rfl) (by simp) ?_
 refine AllReadyH.cons rfl (fun K hK => ?_) (AllReadyH.cons rfl (fun K hK => ?_) AllReadyH.nil)
 ·go_simp
  go_at_call 67
  with_reducible refine (CloneTo.at_ HCL.out A1 _ _ (Kd.C_below HD.out hHeld.1.out.bel) hcd).mono ?_
  rintro e w2 ⟨vc, rfl, ho, hb⟩
  obtain ⟨Ac, cc, rfl⟩ := Kd.R_slice ho
  have HO := a_ ho
  have HG2 := a_ (Hgs.below hHeld.1.out hb)
  clear ho hb
  refine hK.out _ _ (GS.mk HX0.out HG2.out) (fun hHeld => ?_)
  clear hK K
  try simp only [Act.put, z1_, z2_, z3_]
  refine takeP 13 54 ?_
  refine rd1_ 14 fun K hK => ?_
  go_simp
  refine hK.out _ _ (GS.mk HX0.out (HG2.out.below (below_alloc (Below.refl _ _) _))) (fun hHeld => ?_)
  clear hK K
  try simp only [Act.put, z1_, z2_, z3_]
  refine rd1_ 15 fun K hK => ?_
  go_simp
  refine hK.out _ _ (GS.mk HX0.out (HG2.out.below (below_alloc (Below.refl _ _) _))) (fun hHeld => ?_)
  clear hK K
  try simp only [Act.put, z1_, z2_, z3_]
  refine wpAnyH_done (by kernel_rfl) ?_ _
  refine NoPanic.normal ?_
  have hG6 := hHeld.1.out
  clear hHeld
  have hbox : (w2.alloc (.cells #[.bool (decide (128 ≤ b0)), .int .u8 op, .bool false, .int .u32 0, .slice Ac d.length cc] 81)).heap[w2.heap.size]? = some (.cells #[.bool (decide (128 ≤ b0)), .int .u8 op, .bool false, .int .u32 0, .slice Ac d.length cc] 81 (0, 0)) := last_at w2 _ _ rfl
  have hR := Kd.R_alloc (Kd.R_mono (Kd.R_bound HO.out) (ok' := fun k => k < w2.heap.size) (fun k hk => hk.2.2.1)) (.cells #[.bool (decide (128 ≤ b0)), .int .u8 op, .bool false, .int .u32 0, .slice Ac d.length cc] 81)
  have hgl := HG2.out.lt
  generalize w2.alloc (.cells #[.bool (decide (128 ≤ b0)), .int .u8 op, .bool false, .int .u32 0, .slice Ac d.length cc] 81) = W6 at hG6 hbox hR ⊢
  have hR6 := Kd.R_mono (Kd.R_lower hR (show w.heap.size ≤ _ by have := HG1.out.bel.size; simp; omega)) (ok' := fun k => k ≠ w2.heap.size) (fun k hk => Nat.ne_of_lt hk)
  generalize w2.heap.size = g at hbox hR6 hgl ⊢
  clear hR HO HG2
  have HGe := a_ hG6
  have HRe := a_ hR6
  have HBe := a_ hbox
  clear hG6 hR6 hbox
  obtain ⟨g0, g1, g2, g3, g4⟩ := xl5_ HBe.out
  have gl := blk_lt HBe.out
  obtain ⟨p0, pf0, p1, pf1, p2, pf2, p3, pf3, p4, pf4⟩ := xf5_ HGe.out.piece
  obtain ⟨r0, rf0, r1, rf1⟩ := xf2_ HGe.out.fault
  have pl := blk_lt HGe.out.piece
  have rl := blk_lt HGe.out.fault
  have hle0 : w.heap.size ≤ w.heap.size := Nat.le_refl _
  have hle1 : w.heap.size ≤ w.heap.size + 1 := by omega
  go_wp2_with fail
  exact bodyPost_ret (v := .tuple #[.agg #[.bool (decide (128 ≤ b0)), .int .u8 op, .bool false, .int .u32 0, .slice Ac d.length cc], .agg #[.int .u8 0, .int .u32 0]]) (by simp [results, Tryz.results73, go_sem, p0, p1, p2, p3, p4, r0, r1]) rfl (GetPost.mk (Kd.R_mono (Kd.R_far (Kd.R_far (Kd.R_far (Kd.R_far (Kd.R_far (Kd.R_far (Kd.R_far (Kd.R_types (Kd.R_types HRe.out HGe.out.piece (by intro q hq; simp [Kd.int, Kd.scalar] at hq; omega)) HGe.out.fault (by intro q hq; simp [Kd.int, Kd.scalar] at hq; omega)) (p := ⟨w.heap.size, 0, none⟩) (fun k hk => hk.1.2) (.bool (decide (128 ≤ b0)))) (p := ⟨w.heap.size, 1, none⟩) (fun k hk => hk.1.2) (.int .u8 op)) (p := ⟨w.heap.size, 2, none⟩) (fun k hk => hk.1.2) (.bool false)) (p := ⟨w.heap.size, 3, none⟩) (fun k hk => hk.1.2) (.int .u32 0)) (p := ⟨w.heap.size, 4, none⟩) (fun k hk => hk.1.2) (.slice Ac d.length cc)) (p := ⟨w.heap.size + 1, 0, none⟩) (fun k hk => hk.2) (.int .u8 0)) (p := ⟨w.heap.size + 1, 1, none⟩) (fun k hk => hk.2) (.int .u32 0)) (ok' := fun _ => True) (fun _ _ => trivial)) (Below.setCell (Below.setCell (Below.setCell (Below.setCell (Below.setCell (Below.setCell (Below.setCell HGe.out.bel hle0 _) hle0 _) hle0 _) hle0 _) hle0 _) hle1 _) hle1 _))
 ·have HW1 := a_ hHeld.1.out
  go_simp
  refine hK.out _ _ (GS.mk HX0.out (HW1.out.below (below_alloc (Below.refl _ _) _))) (fun hHeld => ?_)
  clear hK K
  try simp only [Act.put, z1_, z2_, z3_]
  refine rd1_ 12 fun K hK => ?_
  go_simp
  go_at_call 67
  with_reducible refine (CloneTo.at_ HCL.out A1 _ _ (Kd.C_below HD.out hHeld.1.out.bel) hcd).mono ?_
  rintro e w2 ⟨vc, rfl, ho, hb⟩
  obtain ⟨Ac, cc, rfl⟩ := Kd.R_slice ho
  have HO := a_ ho
  have HG2 := a_ (Hgs.below hHeld.1.out hb)
  have hbx : w2.heap[w1.heap.size]? = some (.cells #[.bool false, .int .u8 0, .bool false, .int .u32 0, .slice none 0 0] 81 (0, 0)) := blk_below (blk_drew (last_at w1 _ _ rfl)) hb
  obtain ⟨bc0, bf0, bc1, bf1, bc2, bf2, bc3, bf3, bc4, bf4⟩ := xf5_ hbx
  have bl := blk_lt hbx
  have hgl : w.heap.size + 1 < w1.heap.size := HW1.out.lt
  have HBX := a_ hbx
  clear hbx
  clear ho hb
  refine hK.out _ _ (GS.mk HX0.out HG2.out) (fun hHeld => ?_)
  clear hK K
  try simp only [Act.put, z1_, z2_, z3_]
  refine takeP 13 54 ?_
  refine rd1_ 15 fun K hK => ?_
  go_simp
  refine hK.out _ _ (GS.mk HX0.out (((((HG2.out.set (show _ < w1.heap.size from hgl) _).set (show _ < w1.heap.size from hgl) _).set (show _ < w1.heap.size from hgl) _).set (show _ < w1.heap.size from hgl) _).set (show _ < w1.heap.size from hgl) _)) (fun hHeld => ?_)
  clear hK K
  try simp only [Act.put, z1_, z2_, z3_]
  refine wpAnyH_done (by kernel_rfl) ?_ _
  refine NoPanic.normal ?_
  have hG6 := hHeld.1.out
  clear hHeld bc0 bc1 bc2 bc3 bc4 bf0 bf1 bf2 bf3 bf4 bl
  have hbox := put5 HBX.out (.bool (decide (128 ≤ b0))) (.int .u8 op) (.bool false) (.int .u32 0) (.slice Ac d.length cc)
  have hR := Kd.R_far (Kd.R_far (Kd.R_far (Kd.R_far (Kd.R_far (Kd.R_mono (Kd.R_bound HO.out) (ok' := fun k => w1.heap.size < k) (fun k hk => by have := hk.2.1; simp at this; omega)) (p := ⟨w1.heap.size, 0, none⟩) (fun k hk => by show k ≠ w1.heap.size; have : w1.heap.size < k := hk; omega) (.bool (decide (128 ≤ b0)))) (p := ⟨w1.heap.size, 1, none⟩) (fun k hk => by show k ≠ w1.heap.size; have : w1.heap.size < k := hk; omega) (.int .u8 op)) (p := ⟨w1.heap.size, 2, none⟩) (fun k hk => by show k ≠ w1.heap.size; have : w1.heap.size < k := hk; omega) (.bool false)) (p := ⟨w1.heap.size, 3, none⟩) (fun k hk => by show k ≠ w1.heap.size; have : w1.heap.size < k := hk; omega) (.int .u32 0)) (p := ⟨w1.heap.size, 4, none⟩) (fun k hk => by show k ≠ w1.heap.size; have : w1.heap.size < k := hk; omega) (.slice Ac d.length cc)
  generalize (((((w2.setCell ⟨w1.heap.size, 0, none⟩ (.bool (decide (128 ≤ b0)))).setCell ⟨w1.heap.size, 1, none⟩ (.int .u8 op)).setCell ⟨w1.heap.size, 2, none⟩ (.bool false)).setCell ⟨w1.heap.size, 3, none⟩ (.int .u32 0)).setCell ⟨w1.heap.size, 4, none⟩ (.slice Ac d.length cc)) = W6 at hG6 hbox hR ⊢
  have hR6 := Kd.R_mono (Kd.R_lower hR (show w.heap.size ≤ _ by have := HG1.out.bel.size; simp; omega)) (ok' := fun k => k ≠ w1.heap.size) (fun k hk => Nat.ne_of_gt hk)
  generalize w1.heap.size = g at hbox hR6 hgl ⊢
  clear hR HO HG2
  have HGe := a_ hG6
  have HRe := a_ hR6
  have HBe := a_ hbox
  clear hG6 hR6 hbox
  obtain ⟨g0, g1, g2, g3, g4⟩ := xl5_ HBe.out
  have gl := blk_lt HBe.out
  obtain ⟨p0, pf0, p1, pf1, p2, pf2, p3, pf3, p4, pf4⟩ := xf5_ HGe.out.piece
  obtain ⟨r0, rf0, r1, rf1⟩ := xf2_ HGe.out.fault
  have pl := blk_lt HGe.out.piece
  have rl := blk_lt HGe.out.fault
  have hle0 : w.heap.size ≤ w.heap.size := Nat.le_refl _
  have hle1 : w.heap.size ≤ w.heap.size + 1 := by omega
  go_wp2_with fail
  exact bodyPost_ret (v := .tuple #[.agg #[.bool (decide (128 ≤ b0)), .int .u8 op, .bool false, .int .u32 0, .slice Ac d.length cc], .agg #[.int .u8 0, .int .u32 0]]) (by simp [results, Tryz.results73, go_sem, p0, p1, p2, p3, p4, r0, r1]) rfl (GetPost.mk (Kd.R_mono (Kd.R_far (Kd.R_far (Kd.R_far (Kd.R_far (Kd.R_far (Kd.R_far (Kd.R_far (Kd.R_types (Kd.R_types HRe.out HGe.out.piece (by intro q hq; simp [Kd.int, Kd.scalar] at hq; omega)) HGe.out.fault (by intro q hq; simp [Kd.int, Kd.scalar] at hq; omega)) (p := ⟨w.heap.size, 0, none⟩) (fun k hk => hk.1.2) (.bool (decide (128 ≤ b0)))) (p := ⟨w.heap.size, 1, none⟩) (fun k hk => hk.1.2) (.int .u8 op)) (p := ⟨w.heap.size, 2, none⟩) (fun k hk => hk.1.2) (.bool false)) (p := ⟨w.heap.size, 3, none⟩) (fun k hk => hk.1.2) (.int .u32 0)) (p := ⟨w.heap.size, 4, none⟩) (fun k hk => hk.1.2) (.slice Ac d.length cc)) (p := ⟨w.heap.size + 1, 0, none⟩) (fun k hk => hk.2) (.int .u8 0)) (p := ⟨w.heap.size + 1, 1, none⟩) (fun k hk => hk.2) (.int .u32 0)) (ok' := fun _ => True) (fun _ _ => trivial)) (Below.setCell (Below.setCell (Below.setCell (Below.setCell (Below.setCell (Below.setCell (Below.setCell HGe.out.bel hle0 _) hle0 _) hle0 _) hle0 _) hle0 _) hle1 _) hle1 _))
theorem Get_ok_6 (l d : List Int) (ad : Addr) (c : Nat) (w : World) (b0 op dd s b2 b3 b4 b5 k2 k3 k4 k5 : Int) (r : List Int) (hg : Cond w) (x0 : w.cell? ad = some (.int .u8 b0)) (ho : Go.bits .and .u8 b0 15 = op) (hC : Kd.C (Kd.int .u8) w (some ad) l.length l) (hlc : l.length ≤ c) (hF : 6 ≤ l.length) (hs : IntKind.i64.wrap (6 + dd) = s) (hne : ((l.length : Int) != s) = false) (hd : l.drop 6 = d) (hcl : CloneTo d) (x2 : w.cell? ⟨ad.block, ad.off + 2, none⟩ = some (.int .u8 b2)) (x3 : w.cell? ⟨ad.block, ad.off + 3, none⟩ = some (.int .u8 b3)) (x4 : w.cell? ⟨ad.block, ad.off + 4, none⟩ = some (.int .u8 b4)) (x5 : w.cell? ⟨ad.block, ad.off + 5, none⟩ = some (.int .u8 b5)) (e2 : IntKind.u32.wrap b2 = b2) (e3 : IntKind.u32.wrap b3 = b3) (e4 : IntKind.u32.wrap b4 = b4) (e5 : IntKind.u32.wrap b5 = b5) (q2 : Go.bits .or .u32 0 b2 = k2) (q3 : Go.bits .or .u32 (k2 * 256) b3 = k3) (q4 : Go.bits .or .u32 (k3 * 256) b4 = k4) (q5 : Go.bits .or .u32 (k4 * 256) b5 = k5) (z3 : IntKind.u32.wrap (k2 * 256) = k2 * 256) (z4 : IntKind.u32.wrap (k3 * 256) = k3 * 256) (z5 : IntKind.u32.wrap (k4 * 256) = k4 * 256) (htu : TurnTo d k5 r) (hh : HeadAt (some ad) l.length c true w 6 dd false 0) : Calls Tryz.prog 73 #[.slice (some ad) l.length c, .bool true] w (GetPost (decide (128 ≤ b0)) op true k5 r 0 0 w) := by
 have hal : ad.block < w.heap.size := World.block_lt_of_cell? _ _ x0
 have p0 : (0 : Int) < (l.length : Int) := by omega
 have p0n : 0 < l.length := by omega
 have p1 : (6 : Int) ≤ (l.length : Int) := by omega
 have p2 : (6 : Int) ≤ (c : Int) := by omega
 obtain ⟨i_, hi_⟩ : ∃ i, Tryz.prog.info? 5 = some i := by
  have h : (Tryz.prog.info? 5).isSome = true := by kernel_rfl
  exact Option.isSome_iff_exists.1 h
 have hsz_ : i_.size = 1 := by
  have h : (Tryz.prog.info? 5).map (fun i => i.size) = some 1 := by kernel_rfl
  rw [hi_] at h
  exact Option.some.inj h
 obtain ⟨A1, hcut0, hA1⟩ := print_cut (P := Tryz.prog) 27 5 .i64 Tryz.underlying27 hi_ hsz_ (some ad) l.length c 6 hF
 have hdl : l.length - 6 = d.length := by rw [← hd]; simp
 rw [hdl] at hcut0 hA1
 have hcut : ∀ W : World, (Instr.slice 27 (.slice (some ad) l.length c) (some (.int .i64 6)) none none).run Tryz.prog W = .ok (.slice A1 d.length (c - 6)) W := hcut0
 have hcd : d.length ≤ c - 6 := by omega
 have HD : Aside0 (Kd.C (Kd.int .u8) w A1 d.length d) := ⟨Kd.C_of_reads (d := (0 : Int)) (h1 := fun _ => rfl) (hd ▸ hA1 w .u8 l hlc (Kd.reads_of_C hC))⟩
 have HCL := a_ hcl
 have HC := a_ hg
 have HX0 := a_ x0
 clear hcut0 hA1 hsz_ hi_ hdl hd hcl hg hC i_
 have HTU := a_ htu
 clear htu
 have HX2 := a_ x2
 clear x2
 have HX3 := a_ x3
 clear x3
 have HX4 := a_ x4
 clear x4
 have HX5 := a_ x5
 clear x5
 have hu26 := Tryz.underlying87
 have hu37 := Tryz.underlying81
 have HH := a_ hh
 clear hh
 go_enter Tryz.func73, Tryz.ntmps73
 go_wp2_with fail
 refine (HH.out _ (below_alloc (below_alloc (Below.refl _ _) _) _)).mono ?_
 rintro e w1 ⟨v, rfl, hv, hb⟩
 have hp1 : w1.heap[w.heap.size]? = some (.cells #[.bool false, .int .u8 0, .bool false, .int .u32 0, .slice none 0 0] 81 (0, 0)) := blk_below (blk_alloc (last_at _ _ _ rfl) _) hb
 have hr1 : w1.heap[w.heap.size + 1]? = some (.cells #[.int .u8 0, .int .u32 0] 87 (0, 0)) := blk_below (last_at _ _ _ (by simp)) hb
 have HB1 := a_ (below_step (below_alloc (below_alloc (Below.refl w.heap.size w) (.cells #[.bool false, .int .u8 0, .bool false, .int .u32 0, .slice none 0 0] 81)) (.cells #[.int .u8 0, .int .u32 0] 87)) hb)
 clear hb
 obtain rfl := nil_of_post hv rfl
 have HG1 : Aside0 (Hgs w w1) := ⟨⟨HB1.out, hp1, hr1⟩⟩
 clear hv hp1 hr1 HB1
 go_wp2_with fail
 clear x0
 refine wp_region_noPanic ?_
 refine wp_region_held_drew (S := fun w' => Aside0 (Hgs w w') ∧ w'.cell? ad = some (.int .u8 b0)) (by kernel_rfl) (GS.mk HX0.out (Hgs.below HG1.out (below_drew (Below.refl _ _)))) (fun hHeld => ?_)
 refine takeP 0 41 ?_
 refine takeP 1 42 ?_
 refine takeP 2 43 ?_
 refine takeP 3 44 ?_
 refine takeP 4 45 ?_
 refine takeP 5 46 ?_
 refine takeP 6 47 ?_
 refine takeP 7 48 ?_
 refine takeP 8 49 ?_
 refine takeP 9 50 ?_
 refine takeP 10 51 ?_
 refine takeP 11 52 ?_
 refine wpAnyH_ready (rs := [12, 14]) (by kernel_rfl) (by simp) ?_
 refine AllReadyH.cons rfl (fun K hK => ?_) (AllReadyH.cons rfl (fun K hK => ?_) AllReadyH.nil)
 ·go_simp
  go_at_call 67
  with_reducible refine (CloneTo.at_ HCL.out A1 _ _ (Kd.C_below HD.out hHeld.1.out.bel) hcd).mono ?_
  rintro e w2 ⟨vc, rfl, ho, hb⟩
  obtain ⟨Ac, cc, rfl⟩ := Kd.R_slice ho
  have HO := a_ ho
  have HG2 := a_ (Hgs.below hHeld.1.out hb)
  clear ho hb
  refine hK.out _ _ (GS.mk HX0.out HG2.out) (fun hHeld => ?_)
  clear hK K
  try simp only [Act.put, z1_, z2_, z3_]
  refine takeP 13 54 ?_
  refine rd1_ 14 fun K hK => ?_
  go_simp
  refine hK.out _ _ (GS.mk HX0.out (HG2.out.below (below_alloc (Below.refl _ _) _))) (fun hHeld => ?_)
  clear hK K
  try simp only [Act.put, z1_, z2_, z3_]
  refine rd1_ 15 fun K hK => ?_
  go_simp
  refine hK.out _ _ (GS.mk HX0.out (HG2.out.below (below_alloc (Below.refl _ _) _))) (fun hHeld => ?_)
  clear hK K
  try simp only [Act.put, z1_, z2_, z3_]
  refine wpAnyH_done (by kernel_rfl) ?_ _
  refine NoPanic.normal ?_
  have hG6 := hHeld.1.out
  clear hHeld
  have hbox : (w2.alloc (.cells #[.bool (decide (128 ≤ b0)), .int .u8 op, .bool true, .int .u32 0, .slice Ac d.length cc] 81)).heap[w2.heap.size]? = some (.cells #[.bool (decide (128 ≤ b0)), .int .u8 op, .bool true, .int .u32 0, .slice Ac d.length cc] 81 (0, 0)) := last_at w2 _ _ rfl
  have hR := Kd.R_alloc (Kd.R_mono (Kd.R_bound HO.out) (ok' := fun k => k < w2.heap.size) (fun k hk => hk.2.2.1)) (.cells #[.bool (decide (128 ≤ b0)), .int .u8 op, .bool true, .int .u32 0, .slice Ac d.length cc] 81)
  have hgl := HG2.out.lt
  generalize w2.alloc (.cells #[.bool (decide (128 ≤ b0)), .int .u8 op, .bool true, .int .u32 0, .slice Ac d.length cc] 81) = W6 at hG6 hbox hR ⊢
  have hR6 := Kd.R_mono (Kd.R_lower hR (show w.heap.size ≤ _ by have := HG1.out.bel.size; simp; omega)) (ok' := fun k => k ≠ w2.heap.size) (fun k hk => Nat.ne_of_lt hk)
  generalize w2.heap.size = g at hbox hR6 hgl ⊢
  clear hR HO HG2
  have HGe := a_ hG6
  have HRe := a_ hR6
  have HBe := a_ hbox
  clear hG6 hR6 hbox
  have hne : ad.block ≠ g := by omega
  have y2 : W6.cell? ⟨ad.block, ad.off + 2, none⟩ = some (.int .u8 b2) := (HGe.out.bel.cell (World.block_lt_of_cell? _ _ HX2.out)).trans HX2.out
  obtain ⟨-, -, -, -, -, -, g3, gf3⟩ := xf4_ HBe.out
  go_wp2_with fail
  refine wp_loop_rounds 5 ?_
  rw [rounds_succ]
  go_wp2
  have hGn := Hgs.set HGe.out (p := ⟨g, 3, none⟩) hgl (.int .u32 k2)
  have hBn : (W6.setCell ⟨g, 3, none⟩ (.int .u32 k2)).heap[g]? = some (.cells #[.bool (decide (128 ≤ b0)), .int .u8 op, .bool true, .int .u32 k2, .slice Ac d.length cc] 81 (0, 0)) := blk_put HBe.out 3 _ rfl
  have hRn := Kd.R_far HRe.out (p := ⟨g, 3, none⟩) (fun k hk => hk) (.int .u32 k2)
  generalize W6.setCell ⟨g, 3, none⟩ (.int .u32 k2) = Wr2 at hGn hBn hRn ⊢
  clear HGe HBe HRe y2 g3 gf3
  have HGe := a_ hGn
  have HBe := a_ hBn
  have HRe := a_ hRn
  clear hGn hBn hRn
  have y3 : Wr2.cell? ⟨ad.block, ad.off + 3, none⟩ = some (.int .u8 b3) := (HGe.out.bel.cell (World.block_lt_of_cell? _ _ HX3.out)).trans HX3.out
  obtain ⟨-, -, -, -, -, -, g3, gf3⟩ := xf4_ HBe.out
  rw [rounds_succ]
  go_wp2
  have hGn := Hgs.set HGe.out (p := ⟨g, 3, none⟩) hgl (.int .u32 k3)
  have hBn : (Wr2.setCell ⟨g, 3, none⟩ (.int .u32 k3)).heap[g]? = some (.cells #[.bool (decide (128 ≤ b0)), .int .u8 op, .bool true, .int .u32 k3, .slice Ac d.length cc] 81 (0, 0)) := blk_put HBe.out 3 _ rfl
  have hRn := Kd.R_far HRe.out (p := ⟨g, 3, none⟩) (fun k hk => hk) (.int .u32 k3)
  generalize Wr2.setCell ⟨g, 3, none⟩ (.int .u32 k3) = Wr3 at hGn hBn hRn ⊢
  clear HGe HBe HRe y3 g3 gf3
  have HGe := a_ hGn
  have HBe := a_ hBn
  have HRe := a_ hRn
  clear hGn hBn hRn
  have y4 : Wr3.cell? ⟨ad.block, ad.off + 4, none⟩ = some (.int .u8 b4) := (HGe.out.bel.cell (World.block_lt_of_cell? _ _ HX4.out)).trans HX4.out
  obtain ⟨-, -, -, -, -, -, g3, gf3⟩ := xf4_ HBe.out
  rw [rounds_succ]
  go_wp2
  have hGn := Hgs.set HGe.out (p := ⟨g, 3, none⟩) hgl (.int .u32 k4)
  have hBn : (Wr3.setCell ⟨g, 3, none⟩ (.int .u32 k4)).heap[g]? = some (.cells #[.bool (decide (128 ≤ b0)), .int .u8 op, .bool true, .int .u32 k4, .slice Ac d.length cc] 81 (0, 0)) := blk_put HBe.out 3 _ rfl
  have hRn := Kd.R_far HRe.out (p := ⟨g, 3, none⟩) (fun k hk => hk) (.int .u32 k4)
  generalize Wr3.setCell ⟨g, 3, none⟩ (.int .u32 k4) = Wr4 at hGn hBn hRn ⊢
  clear HGe HBe HRe y4 g3 gf3
  have HGe := a_ hGn
  have HBe := a_ hBn
  have HRe := a_ hRn
  clear hGn hBn hRn
  have y5 : Wr4.cell? ⟨ad.block, ad.off + 5, none⟩ = some (.int .u8 b5) := (HGe.out.bel.cell (World.block_lt_of_cell? _ _ HX5.out)).trans HX5.out
  obtain ⟨-, -, -, -, -, -, g3, gf3⟩ := xf4_ HBe.out
  rw [rounds_succ]
  go_wp2
  have hGn := Hgs.set HGe.out (p := ⟨g, 3, none⟩) hgl (.int .u32 k5)
  have hBn : (Wr4.setCell ⟨g, 3, none⟩ (.int .u32 k5)).heap[g]? = some (.cells #[.bool (decide (128 ≤ b0)), .int .u8 op, .bool true, .int .u32 k5, .slice Ac d.length cc] 81 (0, 0)) := blk_put HBe.out 3 _ rfl
  have hRn := Kd.R_far HRe.out (p := ⟨g, 3, none⟩) (fun k hk => hk) (.int .u32 k5)
  generalize Wr4.setCell ⟨g, 3, none⟩ (.int .u32 k5) = Wr5 at hGn hBn hRn ⊢
  clear HGe HBe HRe y5 g3 gf3
  have HGe := a_ hGn
  have HBe := a_ hBn
  have HRe := a_ hRn
  clear hGn hBn hRn
  obtain ⟨-, -, -, -, -, -, g3, gf3, g4, gf4⟩ := xf5_ HBe.out
  have gl0 := blk_lt HBe.out
  rw [rounds_succ]
  go_wp2_with fail
  have hG8 := HGe.out
  have hB8 := HBe.out
  have hR8 := HRe.out
  have HG8 := a_ hG8
  have HB8 := a_ hB8
  clear hG8 hB8 g3 gf3 g4 gf4 gl0 HGe HBe HRe
  refine (TurnTo.at_ HTU.out Ac cc _ (Kd.R_reads' hR8).2.2 (Kd.R_reads' hR8).2.1).mono ?_
  rintro e w9 ⟨vt, rfl, ho, hb⟩
  have hG9 := Hgs.below HG8.out hb
  have hB9 := blk_below HB8.out hb
  obtain ⟨At, ct, rfl⟩ := Kd.R_slice ho
  have hR9 := Kd.R_types (Kd.R_lower ho (show w.heap.size ≤ _ from HG8.out.bel.size)) hB9 (by intro q hq; simp [Kd.int, Kd.scalar] at hq; omega)
  have HG9 := a_ hG9
  have HB9 := a_ hB9
  have HR9 := a_ hR9
  obtain ⟨-, -, -, -, -, -, -, -, g4, gf4⟩ := xf5_ hB9
  have gl0 := blk_lt hB9
  clear hG9 hB9 hR9 hR8 ho hb HG8 HB8
  have HGe := a_ (Hgs.set HG9.out (p := ⟨g, 4, none⟩) hgl (.slice At r.length ct))
  have HBe : Aside0 ((w9.setCell ⟨g, 4, none⟩ (.slice At r.length ct)).heap[g]? = some (.cells #[.bool (decide (128 ≤ b0)), .int .u8 op, .bool true, .int .u32 k5, .slice At r.length ct] 81 (0, 0))) := ⟨blk_put HB9.out 4 _ rfl⟩
  have HRe := a_ (Kd.R_far HR9.out (p := ⟨g, 4, none⟩) (fun k hk => hk.2) (.slice At r.length ct))
  go_upto_region 14 with fail
  generalize w9.setCell ⟨g, 4, none⟩ (.slice At r.length ct) = We at HGe HBe HRe ⊢
  clear g4 gf4 gl0 HG9 HB9 HR9
  obtain ⟨g0, g1, g2, g3, g4⟩ := xl5_ HBe.out
  have gl := blk_lt HBe.out
  obtain ⟨p0, pf0, p1, pf1, p2, pf2, p3, pf3, p4, pf4⟩ := xf5_ HGe.out.piece
  obtain ⟨r0, rf0, r1, rf1⟩ := xf2_ HGe.out.fault
  have pl := blk_lt HGe.out.piece
  have rl := blk_lt HGe.out.fault
  have hle0 : w.heap.size ≤ w.heap.size := Nat.le_refl _
  have hle1 : w.heap.size ≤ w.heap.size + 1 := by omega
  go_wp2_with fail
  exact bodyPost_ret (v := .tuple #[.agg #[.bool (decide (128 ≤ b0)), .int .u8 op, .bool true, .int .u32 k5, .slice At r.length ct], .agg #[.int .u8 0, .int .u32 0]]) (by simp [results, Tryz.results73, go_sem, p0, p1, p2, p3, p4, r0, r1]) rfl (GetPost.mk (Kd.R_mono (Kd.R_far (Kd.R_far (Kd.R_far (Kd.R_far (Kd.R_far (Kd.R_far (Kd.R_far (Kd.R_types (Kd.R_types HRe.out HGe.out.piece (by intro q hq; simp [Kd.int, Kd.scalar] at hq; omega)) HGe.out.fault (by intro q hq; simp [Kd.int, Kd.scalar] at hq; omega)) (p := ⟨w.heap.size, 0, none⟩) (fun k hk => hk.1.2) (.bool (decide (128 ≤ b0)))) (p := ⟨w.heap.size, 1, none⟩) (fun k hk => hk.1.2) (.int .u8 op)) (p := ⟨w.heap.size, 2, none⟩) (fun k hk => hk.1.2) (.bool true)) (p := ⟨w.heap.size, 3, none⟩) (fun k hk => hk.1.2) (.int .u32 k5)) (p := ⟨w.heap.size, 4, none⟩) (fun k hk => hk.1.2) (.slice At r.length ct)) (p := ⟨w.heap.size + 1, 0, none⟩) (fun k hk => hk.2) (.int .u8 0)) (p := ⟨w.heap.size + 1, 1, none⟩) (fun k hk => hk.2) (.int .u32 0)) (ok' := fun _ => True) (fun _ _ => trivial)) (Below.setCell (Below.setCell (Below.setCell (Below.setCell (Below.setCell (Below.setCell (Below.setCell HGe.out.bel hle0 _) hle0 _) hle0 _) hle0 _) hle0 _) hle1 _) hle1 _))
 ·have HW1 := a_ hHeld.1.out
  go_simp
  refine hK.out _ _ (GS.mk HX0.out (HW1.out.below (below_alloc (Below.refl _ _) _))) (fun hHeld => ?_)
  clear hK K
  try simp only [Act.put, z1_, z2_, z3_]
  refine rd1_ 12 fun K hK => ?_
  go_simp
  go_at_call 67
  with_reducible refine (CloneTo.at_ HCL.out A1 _ _ (Kd.C_below HD.out hHeld.1.out.bel) hcd).mono ?_
  rintro e w2 ⟨vc, rfl, ho, hb⟩
  obtain ⟨Ac, cc, rfl⟩ := Kd.R_slice ho
  have HO := a_ ho
  have HG2 := a_ (Hgs.below hHeld.1.out hb)
  have hbx : w2.heap[w1.heap.size]? = some (.cells #[.bool false, .int .u8 0, .bool false, .int .u32 0, .slice none 0 0] 81 (0, 0)) := blk_below (blk_drew (last_at w1 _ _ rfl)) hb
  obtain ⟨bc0, bf0, bc1, bf1, bc2, bf2, bc3, bf3, bc4, bf4⟩ := xf5_ hbx
  have bl := blk_lt hbx
  have hgl : w.heap.size + 1 < w1.heap.size := HW1.out.lt
  have HBX := a_ hbx
  clear hbx
  clear ho hb
  refine hK.out _ _ (GS.mk HX0.out HG2.out) (fun hHeld => ?_)
  clear hK K
  try simp only [Act.put, z1_, z2_, z3_]
  refine takeP 13 54 ?_
  refine rd1_ 15 fun K hK => ?_
  go_simp
  refine hK.out _ _ (GS.mk HX0.out (((((HG2.out.set (show _ < w1.heap.size from hgl) _).set (show _ < w1.heap.size from hgl) _).set (show _ < w1.heap.size from hgl) _).set (show _ < w1.heap.size from hgl) _).set (show _ < w1.heap.size from hgl) _)) (fun hHeld => ?_)
  clear hK K
  try simp only [Act.put, z1_, z2_, z3_]
  refine wpAnyH_done (by kernel_rfl) ?_ _
  refine NoPanic.normal ?_
  have hG6 := hHeld.1.out
  clear hHeld bc0 bc1 bc2 bc3 bc4 bf0 bf1 bf2 bf3 bf4 bl
  have hbox := put5 HBX.out (.bool (decide (128 ≤ b0))) (.int .u8 op) (.bool true) (.int .u32 0) (.slice Ac d.length cc)
  have hR := Kd.R_far (Kd.R_far (Kd.R_far (Kd.R_far (Kd.R_far (Kd.R_mono (Kd.R_bound HO.out) (ok' := fun k => w1.heap.size < k) (fun k hk => by have := hk.2.1; simp at this; omega)) (p := ⟨w1.heap.size, 0, none⟩) (fun k hk => by show k ≠ w1.heap.size; have : w1.heap.size < k := hk; omega) (.bool (decide (128 ≤ b0)))) (p := ⟨w1.heap.size, 1, none⟩) (fun k hk => by show k ≠ w1.heap.size; have : w1.heap.size < k := hk; omega) (.int .u8 op)) (p := ⟨w1.heap.size, 2, none⟩) (fun k hk => by show k ≠ w1.heap.size; have : w1.heap.size < k := hk; omega) (.bool true)) (p := ⟨w1.heap.size, 3, none⟩) (fun k hk => by show k ≠ w1.heap.size; have : w1.heap.size < k := hk; omega) (.int .u32 0)) (p := ⟨w1.heap.size, 4, none⟩) (fun k hk => by show k ≠ w1.heap.size; have : w1.heap.size < k := hk; omega) (.slice Ac d.length cc)
  generalize (((((w2.setCell ⟨w1.heap.size, 0, none⟩ (.bool (decide (128 ≤ b0)))).setCell ⟨w1.heap.size, 1, none⟩ (.int .u8 op)).setCell ⟨w1.heap.size, 2, none⟩ (.bool true)).setCell ⟨w1.heap.size, 3, none⟩ (.int .u32 0)).setCell ⟨w1.heap.size, 4, none⟩ (.slice Ac d.length cc)) = W6 at hG6 hbox hR ⊢
  have hR6 := Kd.R_mono (Kd.R_lower hR (show w.heap.size ≤ _ by have := HG1.out.bel.size; simp; omega)) (ok' := fun k => k ≠ w1.heap.size) (fun k hk => Nat.ne_of_gt hk)
  generalize w1.heap.size = g at hbox hR6 hgl ⊢
  clear hR HO HG2
  have HGe := a_ hG6
  have HRe := a_ hR6
  have HBe := a_ hbox
  clear hG6 hR6 hbox
  have hne : ad.block ≠ g := by omega
  have y2 : W6.cell? ⟨ad.block, ad.off + 2, none⟩ = some (.int .u8 b2) := (HGe.out.bel.cell (World.block_lt_of_cell? _ _ HX2.out)).trans HX2.out
  obtain ⟨-, -, -, -, -, -, g3, gf3⟩ := xf4_ HBe.out
  go_wp2_with fail
  refine wp_loop_rounds 5 ?_
  rw [rounds_succ]
  go_wp2
  have hGn := Hgs.set HGe.out (p := ⟨g, 3, none⟩) hgl (.int .u32 k2)
  have hBn : (W6.setCell ⟨g, 3, none⟩ (.int .u32 k2)).heap[g]? = some (.cells #[.bool (decide (128 ≤ b0)), .int .u8 op, .bool true, .int .u32 k2, .slice Ac d.length cc] 81 (0, 0)) := blk_put HBe.out 3 _ rfl
  have hRn := Kd.R_far HRe.out (p := ⟨g, 3, none⟩) (fun k hk => hk) (.int .u32 k2)
  generalize W6.setCell ⟨g, 3, none⟩ (.int .u32 k2) = Wr2 at hGn hBn hRn ⊢
  clear HGe HBe HRe y2 g3 gf3
  have HGe := a_ hGn
  have HBe := a_ hBn
  have HRe := a_ hRn
  clear hGn hBn hRn
  have y3 : Wr2.cell? ⟨ad.block, ad.off + 3, none⟩ = some (.int .u8 b3) := (HGe.out.bel.cell (World.block_lt_of_cell? _ _ HX3.out)).trans HX3.out
  obtain ⟨-, -, -, -, -, -, g3, gf3⟩ := xf4_ HBe.out
  rw [rounds_succ]
  go_wp2
  have hGn := Hgs.set HGe.out (p := ⟨g, 3, none⟩) hgl (.int .u32 k3)
  have hBn : (Wr2.setCell ⟨g, 3, none⟩ (.int .u32 k3)).heap[g]? = some (.cells #[.bool (decide (128 ≤ b0)), .int .u8 op, .bool true, .int .u32 k3, .slice Ac d.length cc] 81 (0, 0)) := blk_put HBe.out 3 _ rfl
  have hRn := Kd.R_far HRe.out (p := ⟨g, 3, none⟩) (fun k hk => hk) (.int .u32 k3)
  generalize Wr2.setCell ⟨g, 3, none⟩ (.int .u32 k3) = Wr3 at hGn hBn hRn ⊢
  clear HGe HBe HRe y3 g3 gf3
  have HGe := a_ hGn
  have HBe := a_ hBn
  have HRe := a_ hRn
  clear hGn hBn hRn
  have y4 : Wr3.cell? ⟨ad.block, ad.off + 4, none⟩ = some (.int .u8 b4) := (HGe.out.bel.cell (World.block_lt_of_cell? _ _ HX4.out)).trans HX4.out
  obtain ⟨-, -, -, -, -, -, g3, gf3⟩ := xf4_ HBe.out
  rw [rounds_succ]
  go_wp2
  have hGn := Hgs.set HGe.out (p := ⟨g, 3, none⟩) hgl (.int .u32 k4)
  have hBn : (Wr3.setCell ⟨g, 3, none⟩ (.int .u32 k4)).heap[g]? = some (.cells #[.bool (decide (128 ≤ b0)), .int .u8 op, .bool true, .int .u32 k4, .slice Ac d.length cc] 81 (0, 0)) := blk_put HBe.out 3 _ rfl
  have hRn := Kd.R_far HRe.out (p := ⟨g, 3, none⟩) (fun k hk => hk) (.int .u32 k4)
  generalize Wr3.setCell ⟨g, 3, none⟩ (.int .u32 k4) = Wr4 at hGn hBn hRn ⊢
  clear HGe HBe HRe y4 g3 gf3
  have HGe := a_ hGn
  have HBe := a_ hBn
  have HRe := a_ hRn
  clear hGn hBn hRn
  have y5 : Wr4.cell? ⟨ad.block, ad.off + 5, none⟩ = some (.int .u8 b5) := (HGe.out.bel.cell (World.block_lt_of_cell? _ _ HX5.out)).trans HX5.out
  obtain ⟨-, -, -, -, -, -, g3, gf3⟩ := xf4_ HBe.out
  rw [rounds_succ]
  go_wp2
  have hGn := Hgs.set HGe.out (p := ⟨g, 3, none⟩) hgl (.int .u32 k5)
  have hBn : (Wr4.setCell ⟨g, 3, none⟩ (.int .u32 k5)).heap[g]? = some (.cells #[.bool (decide (128 ≤ b0)), .int .u8 op, .bool true, .int .u32 k5, .slice Ac d.length cc] 81 (0, 0)) := blk_put HBe.out 3 _ rfl
  have hRn := Kd.R_far HRe.out (p := ⟨g, 3, none⟩) (fun k hk => hk) (.int .u32 k5)
  generalize Wr4.setCell ⟨g, 3, none⟩ (.int .u32 k5) = Wr5 at hGn hBn hRn ⊢
  clear HGe HBe HRe y5 g3 gf3
  have HGe := a_ hGn
  have HBe := a_ hBn
  have HRe := a_ hRn
  clear hGn hBn hRn
  obtain ⟨-, -, -, -, -, -, g3, gf3, g4, gf4⟩ := xf5_ HBe.out
  have gl0 := blk_lt HBe.out
  rw [rounds_succ]
  go_wp2_with fail
  have hG8 := HGe.out
  have hB8 := HBe.out
  have hR8 := HRe.out
  have HG8 := a_ hG8
  have HB8 := a_ hB8
  clear hG8 hB8 g3 gf3 g4 gf4 gl0 HGe HBe HRe
  refine (TurnTo.at_ HTU.out Ac cc _ (Kd.R_reads' hR8).2.2 (Kd.R_reads' hR8).2.1).mono ?_
  rintro e w9 ⟨vt, rfl, ho, hb⟩
  have hG9 := Hgs.below HG8.out hb
  have hB9 := blk_below HB8.out hb
  obtain ⟨At, ct, rfl⟩ := Kd.R_slice ho
  have hR9 := Kd.R_types (Kd.R_lower ho (show w.heap.size ≤ _ from HG8.out.bel.size)) hB9 (by intro q hq; simp [Kd.int, Kd.scalar] at hq; omega)
  have HG9 := a_ hG9
  have HB9 := a_ hB9
  have HR9 := a_ hR9
  obtain ⟨-, -, -, -, -, -, -, -, g4, gf4⟩ := xf5_ hB9
  have gl0 := blk_lt hB9
  clear hG9 hB9 hR9 hR8 ho hb HG8 HB8
  have HGe := a_ (Hgs.set HG9.out (p := ⟨g, 4, none⟩) hgl (.slice At r.length ct))
  have HBe : Aside0 ((w9.setCell ⟨g, 4, none⟩ (.slice At r.length ct)).heap[g]? = some (.cells #[.bool (decide (128 ≤ b0)), .int .u8 op, .bool true, .int .u32 k5, .slice At r.length ct] 81 (0, 0))) := ⟨blk_put HB9.out 4 _ rfl⟩
  have HRe := a_ (Kd.R_far HR9.out (p := ⟨g, 4, none⟩) (fun k hk => hk.2) (.slice At r.length ct))
  go_upto_region 14 with fail
  generalize w9.setCell ⟨g, 4, none⟩ (.slice At r.length ct) = We at HGe HBe HRe ⊢
  clear g4 gf4 gl0 HG9 HB9 HR9
  obtain ⟨g0, g1, g2, g3, g4⟩ := xl5_ HBe.out
  have gl := blk_lt HBe.out
  obtain ⟨p0, pf0, p1, pf1, p2, pf2, p3, pf3, p4, pf4⟩ := xf5_ HGe.out.piece
  obtain ⟨r0, rf0, r1, rf1⟩ := xf2_ HGe.out.fault
  have pl := blk_lt HGe.out.piece
  have rl := blk_lt HGe.out.fault
  have hle0 : w.heap.size ≤ w.heap.size := Nat.le_refl _
  have hle1 : w.heap.size ≤ w.heap.size + 1 := by omega
  go_wp2_with fail
  exact bodyPost_ret (v := .tuple #[.agg #[.bool (decide (128 ≤ b0)), .int .u8 op, .bool true, .int .u32 k5, .slice At r.length ct], .agg #[.int .u8 0, .int .u32 0]]) (by simp [results, Tryz.results73, go_sem, p0, p1, p2, p3, p4, r0, r1]) rfl (GetPost.mk (Kd.R_mono (Kd.R_far (Kd.R_far (Kd.R_far (Kd.R_far (Kd.R_far (Kd.R_far (Kd.R_far (Kd.R_types (Kd.R_types HRe.out HGe.out.piece (by intro q hq; simp [Kd.int, Kd.scalar] at hq; omega)) HGe.out.fault (by intro q hq; simp [Kd.int, Kd.scalar] at hq; omega)) (p := ⟨w.heap.size, 0, none⟩) (fun k hk => hk.1.2) (.bool (decide (128 ≤ b0)))) (p := ⟨w.heap.size, 1, none⟩) (fun k hk => hk.1.2) (.int .u8 op)) (p := ⟨w.heap.size, 2, none⟩) (fun k hk => hk.1.2) (.bool true)) (p := ⟨w.heap.size, 3, none⟩) (fun k hk => hk.1.2) (.int .u32 k5)) (p := ⟨w.heap.size, 4, none⟩) (fun k hk => hk.1.2) (.slice At r.length ct)) (p := ⟨w.heap.size + 1, 0, none⟩) (fun k hk => hk.2) (.int .u8 0)) (p := ⟨w.heap.size + 1, 1, none⟩) (fun k hk => hk.2) (.int .u32 0)) (ok' := fun _ => True) (fun _ _ => trivial)) (Below.setCell (Below.setCell (Below.setCell (Below.setCell (Below.setCell (Below.setCell (Below.setCell HGe.out.bel hle0 _) hle0 _) hle0 _) hle0 _) hle0 _) hle1 _) hle1 _))
theorem Get_ok_8 (l d : List Int) (ad : Addr) (c : Nat) (w : World) (b0 op dd s b4 b5 b6 b7 k4 k5 k6 k7 : Int) (r : List Int) (hg : Cond w) (x0 : w.cell? ad = some (.int .u8 b0)) (ho : Go.bits .and .u8 b0 15 = op) (hC : Kd.C (Kd.int .u8) w (some ad) l.length l) (hlc : l.length ≤ c) (hF : 8 ≤ l.length) (hs : IntKind.i64.wrap (8 + dd) = s) (hne : ((l.length : Int) != s) = false) (hd : l.drop 8 = d) (hcl : CloneTo d) (x4 : w.cell? ⟨ad.block, ad.off + 4, none⟩ = some (.int .u8 b4)) (x5 : w.cell? ⟨ad.block, ad.off + 5, none⟩ = some (.int .u8 b5)) (x6 : w.cell? ⟨ad.block, ad.off + 6, none⟩ = some (.int .u8 b6)) (x7 : w.cell? ⟨ad.block, ad.off + 7, none⟩ = some (.int .u8 b7)) (e4 : IntKind.u32.wrap b4 = b4) (e5 : IntKind.u32.wrap b5 = b5) (e6 : IntKind.u32.wrap b6 = b6) (e7 : IntKind.u32.wrap b7 = b7) (q4 : Go.bits .or .u32 0 b4 = k4) (q5 : Go.bits .or .u32 (k4 * 256) b5 = k5) (q6 : Go.bits .or .u32 (k5 * 256) b6 = k6) (q7 : Go.bits .or .u32 (k6 * 256) b7 = k7) (z5 : IntKind.u32.wrap (k4 * 256) = k4 * 256) (z6 : IntKind.u32.wrap (k5 * 256) = k5 * 256) (z7 : IntKind.u32.wrap (k6 * 256) = k6 * 256) (htu : TurnTo d k7 r) (hh : HeadAt (some ad) l.length c true w 8 dd false 0) : Calls Tryz.prog 73 #[.slice (some ad) l.length c, .bool true] w (GetPost (decide (128 ≤ b0)) op true k7 r 0 0 w) := by
 have hal : ad.block < w.heap.size := World.block_lt_of_cell? _ _ x0
 have p0 : (0 : Int) < (l.length : Int) := by omega
 have p0n : 0 < l.length := by omega
 have p1 : (8 : Int) ≤ (l.length : Int) := by omega
 have p2 : (8 : Int) ≤ (c : Int) := by omega
 obtain ⟨i_, hi_⟩ : ∃ i, Tryz.prog.info? 5 = some i := by
  have h : (Tryz.prog.info? 5).isSome = true := by kernel_rfl
  exact Option.isSome_iff_exists.1 h
 have hsz_ : i_.size = 1 := by
  have h : (Tryz.prog.info? 5).map (fun i => i.size) = some 1 := by kernel_rfl
  rw [hi_] at h
  exact Option.some.inj h
 obtain ⟨A1, hcut0, hA1⟩ := print_cut (P := Tryz.prog) 27 5 .i64 Tryz.underlying27 hi_ hsz_ (some ad) l.length c 8 hF
 have hdl : l.length - 8 = d.length := by rw [← hd]; simp
 rw [hdl] at hcut0 hA1
 have hcut : ∀ W : World, (Instr.slice 27 (.slice (some ad) l.length c) (some (.int .i64 8)) none none).run Tryz.prog W = .ok (.slice A1 d.length (c - 8)) W := hcut0
 have hcd : d.length ≤ c - 8 := by omega
 have HD : Aside0 (Kd.C (Kd.int .u8) w A1 d.length d) := ⟨Kd.C_of_reads (d := (0 : Int)) (h1 := fun _ => rfl) (hd ▸ hA1 w .u8 l hlc (Kd.reads_of_C hC))⟩
 have HCL := a_ hcl
 have HC := a_ hg
 have HX0 := a_ x0
 clear hcut0 hA1 hsz_ hi_ hdl hd hcl hg hC i_
 have HTU := a_ htu
 clear htu
 have HX4 := a_ x4
 clear x4
 have HX5 := a_ x5
 clear x5
 have HX6 := a_ x6
 clear x6
 have HX7 := a_ x7
 clear x7
 have hu26 := Tryz.underlying87
 have hu37 := Tryz.underlying81
 have HH := a_ hh
 clear hh
 go_enter Tryz.func73, Tryz.ntmps73
 go_wp2_with fail
 refine (HH.out _ (below_alloc (below_alloc (Below.refl _ _) _) _)).mono ?_
 rintro e w1 ⟨v, rfl, hv, hb⟩
 have hp1 : w1.heap[w.heap.size]? = some (.cells #[.bool false, .int .u8 0, .bool false, .int .u32 0, .slice none 0 0] 81 (0, 0)) := blk_below (blk_alloc (last_at _ _ _ rfl) _) hb
 have hr1 : w1.heap[w.heap.size + 1]? = some (.cells #[.int .u8 0, .int .u32 0] 87 (0, 0)) := blk_below (last_at _ _ _ (by simp)) hb
 have HB1 := a_ (below_step (below_alloc (below_alloc (Below.refl w.heap.size w) (.cells #[.bool false, .int .u8 0, .bool false, .int .u32 0, .slice none 0 0] 81)) (.cells #[.int .u8 0, .int .u32 0] 87)) hb)
 clear hb
 obtain rfl := nil_of_post hv rfl
 have HG1 : Aside0 (Hgs w w1) := ⟨⟨HB1.out, hp1, hr1⟩⟩
 clear hv hp1 hr1 HB1
 go_wp2_with fail
 clear x0
 refine wp_region_noPanic ?_
 refine wp_region_held_drew (S := fun w' => Aside0 (Hgs w w') ∧ w'.cell? ad = some (.int .u8 b0)) (by kernel_rfl) (GS.mk HX0.out (Hgs.below HG1.out (below_drew (Below.refl _ _)))) (fun hHeld => ?_)
 refine takeP 0 41 ?_
 refine takeP 1 42 ?_
 refine takeP 2 43 ?_
 refine takeP 3 44 ?_
 refine takeP 4 45 ?_
 refine takeP 5 46 ?_
 refine takeP 6 47 ?_
 refine takeP 7 48 ?_
 refine takeP 8 49 ?_
 refine takeP 9 50 ?_
 refine takeP 10 51 ?_
 refine takeP 11 52 ?_
 refine wpAnyH_ready (rs := [12, 14]) (by kernel_rfl) (by simp) ?_
 refine AllReadyH.cons rfl (fun K hK => ?_) (AllReadyH.cons rfl (fun K hK => ?_) AllReadyH.nil)
 ·go_simp
  go_at_call 67
  with_reducible refine (CloneTo.at_ HCL.out A1 _ _ (Kd.C_below HD.out hHeld.1.out.bel) hcd).mono ?_
  rintro e w2 ⟨vc, rfl, ho, hb⟩
  obtain ⟨Ac, cc, rfl⟩ := Kd.R_slice ho
  have HO := a_ ho
  have HG2 := a_ (Hgs.below hHeld.1.out hb)
  clear ho hb
  refine hK.out _ _ (GS.mk HX0.out HG2.out) (fun hHeld => ?_)
  clear hK K
  try simp only [Act.put, z1_, z2_, z3_]
  refine takeP 13 54 ?_
  refine rd1_ 14 fun K hK => ?_
  go_simp
  refine hK.out _ _ (GS.mk HX0.out (HG2.out.below (below_alloc (Below.refl _ _) _))) (fun hHeld => ?_)
  clear hK K
  try simp only [Act.put, z1_, z2_, z3_]
  refine rd1_ 15 fun K hK => ?_
  go_simp
  refine hK.out _ _ (GS.mk HX0.out (HG2.out.below (below_alloc (Below.refl _ _) _))) (fun hHeld => ?_)
  clear hK K
  try simp only [Act.put, z1_, z2_, z3_]
  refine wpAnyH_done (by kernel_rfl) ?_ _
  refine NoPanic.normal ?_
  have hG6 := hHeld.1.out
  clear hHeld
  have hbox : (w2.alloc (.cells #[.bool (decide (128 ≤ b0)), .int .u8 op, .bool true, .int .u32 0, .slice Ac d.length cc] 81)).heap[w2.heap.size]? = some (.cells #[.bool (decide (128 ≤ b0)), .int .u8 op, .bool true, .int .u32 0, .slice Ac d.length cc] 81 (0, 0)) := last_at w2 _ _ rfl
  have hR := Kd.R_alloc (Kd.R_mono (Kd.R_bound HO.out) (ok' := fun k => k < w2.heap.size) (fun k hk => hk.2.2.1)) (.cells #[.bool (decide (128 ≤ b0)), .int .u8 op, .bool true, .int .u32 0, .slice Ac d.length cc] 81)
  have hgl := HG2.out.lt
  generalize w2.alloc (.cells #[.bool (decide (128 ≤ b0)), .int .u8 op, .bool true, .int .u32 0, .slice Ac d.length cc] 81) = W6 at hG6 hbox hR ⊢
  have hR6 := Kd.R_mono (Kd.R_lower hR (show w.heap.size ≤ _ by have := HG1.out.bel.size; simp; omega)) (ok' := fun k => k ≠ w2.heap.size) (fun k hk => Nat.ne_of_lt hk)
  generalize w2.heap.size = g at hbox hR6 hgl ⊢
  clear hR HO HG2
  have HGe := a_ hG6
  have HRe := a_ hR6
  have HBe := a_ hbox
  clear hG6 hR6 hbox
  have hne : ad.block ≠ g := by omega
  have y4 : W6.cell? ⟨ad.block, ad.off + 4, none⟩ = some (.int .u8 b4) := (HGe.out.bel.cell (World.block_lt_of_cell? _ _ HX4.out)).trans HX4.out
  obtain ⟨-, -, -, -, -, -, g3, gf3⟩ := xf4_ HBe.out
  go_wp2_with fail
  refine wp_loop_rounds 5 ?_
  rw [rounds_succ]
  go_wp2
  have hGn := Hgs.set HGe.out (p := ⟨g, 3, none⟩) hgl (.int .u32 k4)
  have hBn : (W6.setCell ⟨g, 3, none⟩ (.int .u32 k4)).heap[g]? = some (.cells #[.bool (decide (128 ≤ b0)), .int .u8 op, .bool true, .int .u32 k4, .slice Ac d.length cc] 81 (0, 0)) := blk_put HBe.out 3 _ rfl
  have hRn := Kd.R_far HRe.out (p := ⟨g, 3, none⟩) (fun k hk => hk) (.int .u32 k4)
  generalize W6.setCell ⟨g, 3, none⟩ (.int .u32 k4) = Wr4 at hGn hBn hRn ⊢
  clear HGe HBe HRe y4 g3 gf3
  have HGe := a_ hGn
  have HBe := a_ hBn
  have HRe := a_ hRn
  clear hGn hBn hRn
  have y5 : Wr4.cell? ⟨ad.block, ad.off + 5, none⟩ = some (.int .u8 b5) := (HGe.out.bel.cell (World.block_lt_of_cell? _ _ HX5.out)).trans HX5.out
  obtain ⟨-, -, -, -, -, -, g3, gf3⟩ := xf4_ HBe.out
  rw [rounds_succ]
  go_wp2
  have hGn := Hgs.set HGe.out (p := ⟨g, 3, none⟩) hgl (.int .u32 k5)
  have hBn : (Wr4.setCell ⟨g, 3, none⟩ (.int .u32 k5)).heap[g]? = some (.cells #[.bool (decide (128 ≤ b0)), .int .u8 op, .bool true, .int .u32 k5, .slice Ac d.length cc] 81 (0, 0)) := blk_put HBe.out 3 _ rfl
  have hRn := Kd.R_far HRe.out (p := ⟨g, 3, none⟩) (fun k hk => hk) (.int .u32 k5)
  generalize Wr4.setCell ⟨g, 3, none⟩ (.int .u32 k5) = Wr5 at hGn hBn hRn ⊢
  clear HGe HBe HRe y5 g3 gf3
  have HGe := a_ hGn
  have HBe := a_ hBn
  have HRe := a_ hRn
  clear hGn hBn hRn
  have y6 : Wr5.cell? ⟨ad.block, ad.off + 6, none⟩ = some (.int .u8 b6) := (HGe.out.bel.cell (World.block_lt_of_cell? _ _ HX6.out)).trans HX6.out
  obtain ⟨-, -, -, -, -, -, g3, gf3⟩ := xf4_ HBe.out
  rw [rounds_succ]
  go_wp2
  have hGn := Hgs.set HGe.out (p := ⟨g, 3, none⟩) hgl (.int .u32 k6)
  have hBn : (Wr5.setCell ⟨g, 3, none⟩ (.int .u32 k6)).heap[g]? = some (.cells #[.bool (decide (128 ≤ b0)), .int .u8 op, .bool true, .int .u32 k6, .slice Ac d.length cc] 81 (0, 0)) := blk_put HBe.out 3 _ rfl
  have hRn := Kd.R_far HRe.out (p := ⟨g, 3, none⟩) (fun k hk => hk) (.int .u32 k6)
  generalize Wr5.setCell ⟨g, 3, none⟩ (.int .u32 k6) = Wr6 at hGn hBn hRn ⊢
  clear HGe HBe HRe y6 g3 gf3
  have HGe := a_ hGn
  have HBe := a_ hBn
  have HRe := a_ hRn
  clear hGn hBn hRn
  have y7 : Wr6.cell? ⟨ad.block, ad.off + 7, none⟩ = some (.int .u8 b7) := (HGe.out.bel.cell (World.block_lt_of_cell? _ _ HX7.out)).trans HX7.out
  obtain ⟨-, -, -, -, -, -, g3, gf3⟩ := xf4_ HBe.out
  rw [rounds_succ]
  go_wp2
  have hGn := Hgs.set HGe.out (p := ⟨g, 3, none⟩) hgl (.int .u32 k7)
  have hBn : (Wr6.setCell ⟨g, 3, none⟩ (.int .u32 k7)).heap[g]? = some (.cells #[.bool (decide (128 ≤ b0)), .int .u8 op, .bool true, .int .u32 k7, .slice Ac d.length cc] 81 (0, 0)) := blk_put HBe.out 3 _ rfl
  have hRn := Kd.R_far HRe.out (p := ⟨g, 3, none⟩) (fun k hk => hk) (.int .u32 k7)
  generalize Wr6.setCell ⟨g, 3, none⟩ (.int .u32 k7) = Wr7 at hGn hBn hRn ⊢
  clear HGe HBe HRe y7 g3 gf3
  have HGe := a_ hGn
  have HBe := a_ hBn
  have HRe := a_ hRn
  clear hGn hBn hRn
  obtain ⟨-, -, -, -, -, -, g3, gf3, g4, gf4⟩ := xf5_ HBe.out
  have gl0 := blk_lt HBe.out
  rw [rounds_succ]
  go_wp2_with fail
  have hG8 := HGe.out
  have hB8 := HBe.out
  have hR8 := HRe.out
  have HG8 := a_ hG8
  have HB8 := a_ hB8
  clear hG8 hB8 g3 gf3 g4 gf4 gl0 HGe HBe HRe
  refine (TurnTo.at_ HTU.out Ac cc _ (Kd.R_reads' hR8).2.2 (Kd.R_reads' hR8).2.1).mono ?_
  rintro e w9 ⟨vt, rfl, ho, hb⟩
  have hG9 := Hgs.below HG8.out hb
  have hB9 := blk_below HB8.out hb
  obtain ⟨At, ct, rfl⟩ := Kd.R_slice ho
  have hR9 := Kd.R_types (Kd.R_lower ho (show w.heap.size ≤ _ from HG8.out.bel.size)) hB9 (by intro q hq; simp [Kd.int, Kd.scalar] at hq; omega)
  have HG9 := a_ hG9
  have HB9 := a_ hB9
  have HR9 := a_ hR9
  obtain ⟨-, -, -, -, -, -, -, -, g4, gf4⟩ := xf5_ hB9
  have gl0 := blk_lt hB9
  clear hG9 hB9 hR9 hR8 ho hb HG8 HB8
  have HGe := a_ (Hgs.set HG9.out (p := ⟨g, 4, none⟩) hgl (.slice At r.length ct))
  have HBe : Aside0 ((w9.setCell ⟨g, 4, none⟩ (.slice At r.length ct)).heap[g]? = some (.cells #[.bool (decide (128 ≤ b0)), .int .u8 op, .bool true, .int .u32 k7, .slice At r.length ct] 81 (0, 0))) := ⟨blk_put HB9.out 4 _ rfl⟩
  have HRe := a_ (Kd.R_far HR9.out (p := ⟨g, 4, none⟩) (fun k hk => hk.2) (.slice At r.length ct))
  go_upto_region 14 with fail
  generalize w9.setCell ⟨g, 4, none⟩ (.slice At r.length ct) = We at HGe HBe HRe ⊢
  clear g4 gf4 gl0 HG9 HB9 HR9
  obtain ⟨g0, g1, g2, g3, g4⟩ := xl5_ HBe.out
  have gl := blk_lt HBe.out
  obtain ⟨p0, pf0, p1, pf1, p2, pf2, p3, pf3, p4, pf4⟩ := xf5_ HGe.out.piece
  obtain ⟨r0, rf0, r1, rf1⟩ := xf2_ HGe.out.fault
  have pl := blk_lt HGe.out.piece
  have rl := blk_lt HGe.out.fault
  have hle0 : w.heap.size ≤ w.heap.size := Nat.le_refl _
  have hle1 : w.heap.size ≤ w.heap.size + 1 := by omega
  go_wp2_with fail
  exact bodyPost_ret (v := .tuple #[.agg #[.bool (decide (128 ≤ b0)), .int .u8 op, .bool true, .int .u32 k7, .slice At r.length ct], .agg #[.int .u8 0, .int .u32 0]]) (by simp [results, Tryz.results73, go_sem, p0, p1, p2, p3, p4, r0, r1]) rfl (GetPost.mk (Kd.R_mono (Kd.R_far (Kd.R_far (Kd.R_far (Kd.R_far (Kd.R_far (Kd.R_far (Kd.R_far (Kd.R_types (Kd.R_types HRe.out HGe.out.piece (by intro q hq; simp [Kd.int, Kd.scalar] at hq; omega)) HGe.out.fault (by intro q hq; simp [Kd.int, Kd.scalar] at hq; omega)) (p := ⟨w.heap.size, 0, none⟩) (fun k hk => hk.1.2) (.bool (decide (128 ≤ b0)))) (p := ⟨w.heap.size, 1, none⟩) (fun k hk => hk.1.2) (.int .u8 op)) (p := ⟨w.heap.size, 2, none⟩) (fun k hk => hk.1.2) (.bool true)) (p := ⟨w.heap.size, 3, none⟩) (fun k hk => hk.1.2) (.int .u32 k7)) (p := ⟨w.heap.size, 4, none⟩) (fun k hk => hk.1.2) (.slice At r.length ct)) (p := ⟨w.heap.size + 1, 0, none⟩) (fun k hk => hk.2) (.int .u8 0)) (p := ⟨w.heap.size + 1, 1, none⟩) (fun k hk => hk.2) (.int .u32 0)) (ok' := fun _ => True) (fun _ _ => trivial)) (Below.setCell (Below.setCell (Below.setCell (Below.setCell (Below.setCell (Below.setCell (Below.setCell HGe.out.bel hle0 _) hle0 _) hle0 _) hle0 _) hle0 _) hle1 _) hle1 _))
 ·have HW1 := a_ hHeld.1.out
  go_simp
  refine hK.out _ _ (GS.mk HX0.out (HW1.out.below (below_alloc (Below.refl _ _) _))) (fun hHeld => ?_)
  clear hK K
  try simp only [Act.put, z1_, z2_, z3_]
  refine rd1_ 12 fun K hK => ?_
  go_simp
  go_at_call 67
  with_reducible refine (CloneTo.at_ HCL.out A1 _ _ (Kd.C_below HD.out hHeld.1.out.bel) hcd).mono ?_
  rintro e w2 ⟨vc, rfl, ho, hb⟩
  obtain ⟨Ac, cc, rfl⟩ := Kd.R_slice ho
  have HO := a_ ho
  have HG2 := a_ (Hgs.below hHeld.1.out hb)
  have hbx : w2.heap[w1.heap.size]? = some (.cells #[.bool false, .int .u8 0, .bool false, .int .u32 0, .slice none 0 0] 81 (0, 0)) := blk_below (blk_drew (last_at w1 _ _ rfl)) hb
  obtain ⟨bc0, bf0, bc1, bf1, bc2, bf2, bc3, bf3, bc4, bf4⟩ := xf5_ hbx
  have bl := blk_lt hbx
  have hgl : w.heap.size + 1 < w1.heap.size := HW1.out.lt
  have HBX := a_ hbx
  clear hbx
  clear ho hb
  refine hK.out _ _ (GS.mk HX0.out HG2.out) (fun hHeld => ?_)
  clear hK K
  try simp only [Act.put, z1_, z2_, z3_]
  refine takeP 13 54 ?_
  refine rd1_ 15 fun K hK => ?_
  go_simp
  refine hK.out _ _ (GS.mk HX0.out (((((HG2.out.set (show _ < w1.heap.size from hgl) _).set (show _ < w1.heap.size from hgl) _).set (show _ < w1.heap.size from hgl) _).set (show _ < w1.heap.size from hgl) _).set (show _ < w1.heap.size from hgl) _)) (fun hHeld => ?_)
  clear hK K
  try simp only [Act.put, z1_, z2_, z3_]
  refine wpAnyH_done (by kernel_rfl) ?_ _
  refine NoPanic.normal ?_
  have hG6 := hHeld.1.out
  clear hHeld bc0 bc1 bc2 bc3 bc4 bf0 bf1 bf2 bf3 bf4 bl
  have hbox := put5 HBX.out (.bool (decide (128 ≤ b0))) (.int .u8 op) (.bool true) (.int .u32 0) (.slice Ac d.length cc)
  have hR := Kd.R_far (Kd.R_far (Kd.R_far (Kd.R_far (Kd.R_far (Kd.R_mono (Kd.R_bound HO.out) (ok' := fun k => w1.heap.size < k) (fun k hk => by have := hk.2.1; simp at this; omega)) (p := ⟨w1.heap.size, 0, none⟩) (fun k hk => by show k ≠ w1.heap.size; have : w1.heap.size < k := hk; omega) (.bool (decide (128 ≤ b0)))) (p := ⟨w1.heap.size, 1, none⟩) (fun k hk => by show k ≠ w1.heap.size; have : w1.heap.size < k := hk; omega) (.int .u8 op)) (p := ⟨w1.heap.size, 2, none⟩) (fun k hk => by show k ≠ w1.heap.size; have : w1.heap.size < k := hk; omega) (.bool true)) (p := ⟨w1.heap.size, 3, none⟩) (fun k hk => by show k ≠ w1.heap.size; have : w1.heap.size < k := hk; omega) (.int .u32 0)) (p := ⟨w1.heap.size, 4, none⟩) (fun k hk => by show k ≠ w1.heap.size; have : w1.heap.size < k := hk; omega) (.slice Ac d.length cc)
  generalize (((((w2.setCell ⟨w1.heap.size, 0, none⟩ (.bool (decide (128 ≤ b0)))).setCell ⟨w1.heap.size, 1, none⟩ (.int .u8 op)).setCell ⟨w1.heap.size, 2, none⟩ (.bool true)).setCell ⟨w1.heap.size, 3, none⟩ (.int .u32 0)).setCell ⟨w1.heap.size, 4, none⟩ (.slice Ac d.length cc)) = W6 at hG6 hbox hR ⊢
  have hR6 := Kd.R_mono (Kd.R_lower hR (show w.heap.size ≤ _ by have := HG1.out.bel.size; simp; omega)) (ok' := fun k => k ≠ w1.heap.size) (fun k hk => Nat.ne_of_gt hk)
  generalize w1.heap.size = g at hbox hR6 hgl ⊢
  clear hR HO HG2
  have HGe := a_ hG6
  have HRe := a_ hR6
  have HBe := a_ hbox
  clear hG6 hR6 hbox
  have hne : ad.block ≠ g := by omega
  have y4 : W6.cell? ⟨ad.block, ad.off + 4, none⟩ = some (.int .u8 b4) := (HGe.out.bel.cell (World.block_lt_of_cell? _ _ HX4.out)).trans HX4.out
  obtain ⟨-, -, -, -, -, -, g3, gf3⟩ := xf4_ HBe.out
  go_wp2_with fail
  refine wp_loop_rounds 5 ?_
  rw [rounds_succ]
  go_wp2
  have hGn := Hgs.set HGe.out (p := ⟨g, 3, none⟩) hgl (.int .u32 k4)
  have hBn : (W6.setCell ⟨g, 3, none⟩ (.int .u32 k4)).heap[g]? = some (.cells #[.bool (decide (128 ≤ b0)), .int .u8 op, .bool true, .int .u32 k4, .slice Ac d.length cc] 81 (0, 0)) := blk_put HBe.out 3 _ rfl
  have hRn := Kd.R_far HRe.out (p := ⟨g, 3, none⟩) (fun k hk => hk) (.int .u32 k4)
  generalize W6.setCell ⟨g, 3, none⟩ (.int .u32 k4) = Wr4 at hGn hBn hRn ⊢
  clear HGe HBe HRe y4 g3 gf3
  have HGe := a_ hGn
  have HBe := a_ hBn
  have HRe := a_ hRn
  clear hGn hBn hRn
  have y5 : Wr4.cell? ⟨ad.block, ad.off + 5, none⟩ = some (.int .u8 b5) := (HGe.out.bel.cell (World.block_lt_of_cell? _ _ HX5.out)).trans HX5.out
  obtain ⟨-, -, -, -, -, -, g3, gf3⟩ := xf4_ HBe.out
  rw [rounds_succ]
  go_wp2
  have hGn := Hgs.set HGe.out (p := ⟨g, 3, none⟩) hgl (.int .u32 k5)
  have hBn : (Wr4.setCell ⟨g, 3, none⟩ (.int .u32 k5)).heap[g]? = some (.cells #[.bool (decide (128 ≤ b0)), .int .u8 op, .bool true, .int .u32 k5, .slice Ac d.length cc] 81 (0, 0)) := blk_put HBe.out 3 _ rfl
  have hRn := Kd.R_far HRe.out (p := ⟨g, 3, none⟩) (fun k hk => hk) (.int .u32 k5)
  generalize Wr4.setCell ⟨g, 3, none⟩ (.int .u32 k5) = Wr5 at hGn hBn hRn ⊢
  clear HGe HBe HRe y5 g3 gf3
  have HGe := a_ hGn
  have HBe := a_ hBn
  have HRe := a_ hRn
  clear hGn hBn hRn
  have y6 : Wr5.cell? ⟨ad.block, ad.off + 6, none⟩ = some (.int .u8 b6) := (HGe.out.bel.cell (World.block_lt_of_cell? _ _ HX6.out)).trans HX6.out
  obtain ⟨-, -, -, -, -, -, g3, gf3⟩ := xf4_ HBe.out
  rw [rounds_succ]
  go_wp2
  have hGn := Hgs.set HGe.out (p := ⟨g, 3, none⟩) hgl (.int .u32 k6)
  have hBn : (Wr5.setCell ⟨g, 3, none⟩ (.int .u32 k6)).heap[g]? = some (.cells #[.bool (decide (128 ≤ b0)), .int .u8 op, .bool true, .int .u32 k6, .slice Ac d.length cc] 81 (0, 0)) := blk_put HBe.out 3 _ rfl
  have hRn := Kd.R_far HRe.out (p := ⟨g, 3, none⟩) (fun k hk => hk) (.int .u32 k6)
  generalize Wr5.setCell ⟨g, 3, none⟩ (.int .u32 k6) = Wr6 at hGn hBn hRn ⊢
  clear HGe HBe HRe y6 g3 gf3
  have HGe := a_ hGn
  have HBe := a_ hBn
  have HRe := a_ hRn
  clear hGn hBn hRn
  have y7 : Wr6.cell? ⟨ad.block, ad.off + 7, none⟩ = some (.int .u8 b7) := (HGe.out.bel.cell (World.block_lt_of_cell? _ _ HX7.out)).trans HX7.out
  obtain ⟨-, -, -, -, -, -, g3, gf3⟩ := xf4_ HBe.out
  rw [rounds_succ]
  go_wp2
  have hGn := Hgs.set HGe.out (p := ⟨g, 3, none⟩) hgl (.int .u32 k7)
  have hBn : (Wr6.setCell ⟨g, 3, none⟩ (.int .u32 k7)).heap[g]? = some (.cells #[.bool (decide (128 ≤ b0)), .int .u8 op, .bool true, .int .u32 k7, .slice Ac d.length cc] 81 (0, 0)) := blk_put HBe.out 3 _ rfl
  have hRn := Kd.R_far HRe.out (p := ⟨g, 3, none⟩) (fun k hk => hk) (.int .u32 k7)
  generalize Wr6.setCell ⟨g, 3, none⟩ (.int .u32 k7) = Wr7 at hGn hBn hRn ⊢
  clear HGe HBe HRe y7 g3 gf3
  have HGe := a_ hGn
  have HBe := a_ hBn
  have HRe := a_ hRn
  clear hGn hBn hRn
  obtain ⟨-, -, -, -, -, -, g3, gf3, g4, gf4⟩ := xf5_ HBe.out
  have gl0 := blk_lt HBe.out
  rw [rounds_succ]
  go_wp2_with fail
  have hG8 := HGe.out
  have hB8 := HBe.out
  have hR8 := HRe.out
  have HG8 := a_ hG8
  have HB8 := a_ hB8
  clear hG8 hB8 g3 gf3 g4 gf4 gl0 HGe HBe HRe
  refine (TurnTo.at_ HTU.out Ac cc _ (Kd.R_reads' hR8).2.2 (Kd.R_reads' hR8).2.1).mono ?_
  rintro e w9 ⟨vt, rfl, ho, hb⟩
  have hG9 := Hgs.below HG8.out hb
  have hB9 := blk_below HB8.out hb
  obtain ⟨At, ct, rfl⟩ := Kd.R_slice ho
  have hR9 := Kd.R_types (Kd.R_lower ho (show w.heap.size ≤ _ from HG8.out.bel.size)) hB9 (by intro q hq; simp [Kd.int, Kd.scalar] at hq; omega)
  have HG9 := a_ hG9
  have HB9 := a_ hB9
  have HR9 := a_ hR9
  obtain ⟨-, -, -, -, -, -, -, -, g4, gf4⟩ := xf5_ hB9
  have gl0 := blk_lt hB9
  clear hG9 hB9 hR9 hR8 ho hb HG8 HB8
  have HGe := a_ (Hgs.set HG9.out (p := ⟨g, 4, none⟩) hgl (.slice At r.length ct))
  have HBe : Aside0 ((w9.setCell ⟨g, 4, none⟩ (.slice At r.length ct)).heap[g]? = some (.cells #[.bool (decide (128 ≤ b0)), .int .u8 op, .bool true, .int .u32 k7, .slice At r.length ct] 81 (0, 0))) := ⟨blk_put HB9.out 4 _ rfl⟩
  have HRe := a_ (Kd.R_far HR9.out (p := ⟨g, 4, none⟩) (fun k hk => hk.2) (.slice At r.length ct))
  go_upto_region 14 with fail
  generalize w9.setCell ⟨g, 4, none⟩ (.slice At r.length ct) = We at HGe HBe HRe ⊢
  clear g4 gf4 gl0 HG9 HB9 HR9
  obtain ⟨g0, g1, g2, g3, g4⟩ := xl5_ HBe.out
  have gl := blk_lt HBe.out
  obtain ⟨p0, pf0, p1, pf1, p2, pf2, p3, pf3, p4, pf4⟩ := xf5_ HGe.out.piece
  obtain ⟨r0, rf0, r1, rf1⟩ := xf2_ HGe.out.fault
  have pl := blk_lt HGe.out.piece
  have rl := blk_lt HGe.out.fault
  have hle0 : w.heap.size ≤ w.heap.size := Nat.le_refl _
  have hle1 : w.heap.size ≤ w.heap.size + 1 := by omega
  go_wp2_with fail
  exact bodyPost_ret (v := .tuple #[.agg #[.bool (decide (128 ≤ b0)), .int .u8 op, .bool true, .int .u32 k7, .slice At r.length ct], .agg #[.int .u8 0, .int .u32 0]]) (by simp [results, Tryz.results73, go_sem, p0, p1, p2, p3, p4, r0, r1]) rfl (GetPost.mk (Kd.R_mono (Kd.R_far (Kd.R_far (Kd.R_far (Kd.R_far (Kd.R_far (Kd.R_far (Kd.R_far (Kd.R_types (Kd.R_types HRe.out HGe.out.piece (by intro q hq; simp [Kd.int, Kd.scalar] at hq; omega)) HGe.out.fault (by intro q hq; simp [Kd.int, Kd.scalar] at hq; omega)) (p := ⟨w.heap.size, 0, none⟩) (fun k hk => hk.1.2) (.bool (decide (128 ≤ b0)))) (p := ⟨w.heap.size, 1, none⟩) (fun k hk => hk.1.2) (.int .u8 op)) (p := ⟨w.heap.size, 2, none⟩) (fun k hk => hk.1.2) (.bool true)) (p := ⟨w.heap.size, 3, none⟩) (fun k hk => hk.1.2) (.int .u32 k7)) (p := ⟨w.heap.size, 4, none⟩) (fun k hk => hk.1.2) (.slice At r.length ct)) (p := ⟨w.heap.size + 1, 0, none⟩) (fun k hk => hk.2) (.int .u8 0)) (p := ⟨w.heap.size + 1, 1, none⟩) (fun k hk => hk.2) (.int .u32 0)) (ok' := fun _ => True) (fun _ _ => trivial)) (Below.setCell (Below.setCell (Below.setCell (Below.setCell (Below.setCell (Below.setCell (Below.setCell HGe.out.bel hle0 _) hle0 _) hle0 _) hle0 _) hle0 _) hle1 _) hle1 _))
end Go.Proofs.YtpmeapdcjmaeiaaGreatDoor
namespace Go.Proofs.YtpmeapdcjmaeiaaGreatDoor
open Go.RowKit Go.Wa Go.Wb Go.Wc
theorem cond_of {w W : World} (h : Aside0 (Cond w)) (hb : Aside0 (Below w.heap.size w W)) : Cond W := h.out.below hb.out
theorem or_byte32 {s b : Int} (h0 : 0 ≤ s) (h1 : s < 16777216) (hb : 0 ≤ b ∧ b ≤ 255) : Go.bits .or .u32 (s * 256) b = s * 256 + b := by
 obtain ⟨n, rfl⟩ : ∃ n : Nat, s = (n : Int) := ⟨s.toNat, by omega⟩
 obtain ⟨m, rfl⟩ : ∃ m : Nat, b = (m : Int) := ⟨b.toNat, by omega⟩
 have e1 : (BitVec.ofInt 32 ((n : Int) * 256)).toNat = n * 256 := by
  rw [show ((n : Int) * 256) = ((n * 256 : Nat) : Int) by omega, BitVec.ofInt_natCast, BitVec.toNat_ofNat]; exact Nat.mod_eq_of_lt (by omega)
 have e2 : (BitVec.ofInt 32 (m : Int)).toNat = m := by
  rw [BitVec.ofInt_natCast, BitVec.toNat_ofNat]; exact Nat.mod_eq_of_lt (by omega)
 show IntKind.u32.wrap ((BitVec.ofInt 32 ((n : Int) * 256) ||| BitVec.ofInt 32 (m : Int)).toNat : Int) = _
 rw [BitVec.toNat_or, e1, e2, nat_or n m (by omega), wrap_u32 (by omega) (by omega)]
 omega
theorem or_zero32 {b : Int} (hb : 0 ≤ b ∧ b ≤ 255) : Go.bits .or .u32 0 b = b := by
 have := or_byte32 (s := 0) (b := b) (by omega) (by omega) hb
 simpa using this
theorem headF_front {l : List Int} (hl : l.all isByte = true) (m : Bool) (hc : (headF l m).2.2.2 = 0) (hm : (headF l m).2.2.1 = false) : ((m = false ∧ ((headF l m).1 = 2 ∨ (headF l m).1 = 4)) ∨ (m = true ∧ ((headF l m).1 = 6 ∨ (headF l m).1 = 8))) ∧ l.length ≠ 0 := by
 have hu : (lenF l).2.1 = 2 ∨ (lenF l).2.1 = 4 ∨ 4096 < (lenF l).1 ∨ (lenF l).2.2.1 = true ∨ (lenF l).2.2.2 ≠ 0 := by
  unfold lenF
  split
  ·split
   ·exact .inr (.inr (.inr (.inl rfl)))
   ·split
    ·exact .inr (.inr (.inr (.inr (by decide))))
    ·exact .inr (.inl rfl)
  ·split
   ·split
    ·exact .inr (.inr (.inr (.inl rfl)))
    ·split
     ·exact .inr (.inr (.inr (.inr (by decide))))
     ·exact .inr (.inr (.inl (by dsimp only; omega)))
   ·exact .inl rfl
 unfold headF at hc hm ⊢
 by_cases h0 : l.length = 0
 ·rw [if_pos h0] at hm; cases hm
 ·rw [if_neg h0] at hc hm ⊢
  split at hc
  ·cases hc
  ·rename_i h1
   rw [if_neg h1] at hm ⊢
   split at hc
   ·rename_i h2
    rw [if_pos h2] at hm; cases hm
   ·rename_i h2
    rw [if_neg h2] at hm ⊢
    split at hc
    ·cases hc
    ·rename_i h3
     rw [if_neg h3] at hm ⊢
     split at hc
     ·rename_i h4
      rw [if_pos h4] at hm; cases hm
     ·rename_i h4
      rw [if_neg h4] at hm ⊢
      split at hc
      ·cases hc
      ·rename_i h5
       rw [if_neg h5] at hm ⊢
       split at hc
       ·cases hc
       ·rename_i h6
        rw [if_neg h6]
        refine ⟨?_, h0⟩
        have hu2 : (lenF l).2.1 = 2 ∨ (lenF l).2.1 = 4 := by
         rcases hu with h | h | h | h | h
         ·exact .inl h
         ·exact .inr h
         ·exact absurd h h6
         ·exact absurd h h4
         ·exact absurd h h5
        cases m with
        | false => refine .inl ⟨rfl, ?_⟩; simp; omega
        | true => refine .inr ⟨rfl, ?_⟩; simp; omega
def getBad (l : List Int) (m : Bool) : Int :=
 if (headF l m).2.2.2 ≠ 0 then (headF l m).2.2.2 else if (headF l m).2.2.1 = true then 1002 else if (l.length : Int) ≠ (headF l m).1 + (headF l m).2.1 then 1002 else 0
theorem getBad_ok {l : List Int} {m : Bool} (h : getBad l m = 0) : (headF l m).2.2.2 = 0 ∧ (headF l m).2.2.1 = false ∧ (l.length : Int) = (headF l m).1 + (headF l m).2.1 := by
 unfold getBad at h
 split at h
 ·rename_i h1; exact absurd h h1
 ·rename_i h1
  split at h
  ·cases h
  ·rename_i h2
   split at h
   ·cases h
   ·rename_i h3
    exact ⟨by omega, by simpa using h2, by omega⟩
def rawOf (l : List Int) (m : Bool) : List Int := l.drop (headF l m).1.toNat
def keyIn (l : List Int) (m : Bool) : Int := if m = true then val l ((headF l m).1.toNat - 4) 4 else 0
theorem Get_fault {l : List Int} (hl : l.all isByte = true) (m : Bool) {A : Option Addr} {c : Nat} {w : World} (hC : Kd.C (Kd.int .u8) w A l.length l) (hc : l.length ≤ c) (hg : Cond w) (hb : getBad l m ≠ 0) : Calls Tryz.prog 73 #[.slice A l.length c, .bool m] w (GetPost false 0 false 0 [] 3 (getBad l m) w) := by
 have hh : HeadAt A l.length c m w (headF l m).1 (headF l m).2.1 (headF l m).2.2.1 (headF l m).2.2.2 := fun W hb => head_to hl m (Kd.C_below hC hb) hc
 have hbd := headF_bounds hl m
 unfold getBad at hb ⊢
 by_cases h1 : (headF l m).2.2.2 ≠ 0
 ·rw [if_pos h1]
  exact Get_bad1 A l.length c m w hg _ _ _ _ h1 hh
 ·rw [if_neg h1] at hb ⊢
  rw [show (headF l m).2.2.2 = 0 by omega] at hh
  by_cases h2 : (headF l m).2.2.1 = true
  ·rw [if_pos h2]
   rw [h2] at hh
   exact Get_bad2 A l.length c m w hg _ _ hh
  ·rw [if_neg h2] at hb ⊢
   rw [show (headF l m).2.2.1 = false by simpa using h2] at hh
   by_cases h3 : (l.length : Int) ≠ (headF l m).1 + (headF l m).2.1
   ·rw [if_pos h3]
    exact Get_bad3 A l.length c m w hg _ _ _ (by rw [i64_w]; unfold wrap64; omega) (bne_iff_ne.mpr h3) hh
   ·rw [if_neg h3] at hb; exact absurd rfl hb
theorem Get_fine {l : List Int} (hl : l.all isByte = true) (m : Bool) {A : Option Addr} {c : Nat} {w : World} (hC : Kd.C (Kd.int .u8) w A l.length l) (hc : l.length ≤ c) (hg : Cond w) (hb : getBad l m = 0) (hcl : CloneTo (rawOf l m)) (r : List Int) (hr : (m = false ∧ r = rawOf l m) ∨ (m = true ∧ TurnTo (rawOf l m) (keyIn l m) r)) :
  Calls Tryz.prog 73 #[.slice A l.length c, .bool m] w (GetPost (decide (128 ≤ rd l 0)) (rd l 0 % 16) m (keyIn l m) r 0 0 w) := by
 obtain ⟨e1, e2, e3⟩ := getBad_ok hb
 have hh : HeadAt A l.length c m w (headF l m).1 (headF l m).2.1 (headF l m).2.2.1 (headF l m).2.2.2 := fun W hb => head_to hl m (Kd.C_below hC hb) hc
 obtain ⟨hf, h0⟩ := headF_front hl m e1 e2
 have hbd := headF_bounds hl m
 rw [e1, e2] at hh
 obtain ⟨ad, rfl, x0'⟩ := Kd.at_int hC 0 (by decide) (by omega)
 have x0 : w.cell? ad = some (.int .u8 (rd l 0)) := x0'
 have hy : ∀ i : Nat, 0 < i → i < l.length → w.cell? ⟨ad.block, ad.off + i, none⟩ = some (.int .u8 (rd l (i : Int))) := fun i h hi => by
  obtain ⟨ad2, q2, hh⟩ := Kd.at_int hC (i : Int) (by omega) (by omega)
  injection q2 with q2
  subst q2
  obtain ⟨j, rfl⟩ : ∃ j, i = j + 1 := ⟨i - 1, by omega⟩
  rw [Int.toNat_natCast] at hh
  exact hh
 have ho := and15 (rd_byte hl 0)
 have hs : IntKind.i64.wrap ((headF l m).1 + (headF l m).2.1) = (headF l m).1 + (headF l m).2.1 := by rw [i64_w]; unfold wrap64; omega
 have hne : ((l.length : Int) != (headF l m).1 + (headF l m).2.1) = false := bne_eq_false_iff_eq.mpr e3
 unfold rawOf at hcl hr
 unfold keyIn at hr ⊢
 rcases hf with ⟨rfl, hf⟩ | ⟨rfl, hf⟩
 ·rcases hr with ⟨_, rfl⟩ | ⟨h, _⟩
  ·rw [if_neg (by decide)]
   rcases hf with hf | hf
   ·rw [hf] at hh hs hne hcl ⊢
    exact Get_ok_2 l _ ad c w _ _ _ _ hg x0 ho hC hc (by omega) hs hne rfl hcl hh
   ·rw [hf] at hh hs hne hcl ⊢
    exact Get_ok_4 l _ ad c w _ _ _ _ hg x0 ho hC hc (by omega) hs hne rfl hcl hh
  ·cases h
 ·rcases hr with ⟨h, _⟩ | ⟨_, htu⟩
  ·cases h
  ·rw [if_pos rfl] at htu ⊢
   rcases hf with hf | hf
   ·rw [hf] at hh hs hne hcl htu ⊢
    simp only [show ((6 : Int).toNat - 4) = 2 from rfl] at htu ⊢
    have v1 : val l 2 1 = rd l 2 := by simp [val]
    have v2 : val l 2 2 = val l 2 1 * 256 + rd l 3 := rfl
    have v3 : val l 2 3 = val l 2 2 * 256 + rd l 4 := rfl
    have v4 : val l 2 4 = val l 2 3 * 256 + rd l 5 := rfl
    have g2 := rd_byte hl 2
    have g3 := rd_byte hl 3
    have g4 := rd_byte hl 4
    have g5 := rd_byte hl 5
    exact Get_ok_6 l _ ad c w _ _ _ _ (rd l 2) (rd l 3) (rd l 4) (rd l 5) (val l 2 1) (val l 2 2) (val l 2 3) (val l 2 4) _ hg x0 ho hC hc (by omega) hs hne rfl hcl (hy 2 (by omega) (by omega)) (hy 3 (by omega) (by omega)) (hy 4 (by omega) (by omega)) (hy 5 (by omega) (by omega)) (wrap_u32 (by omega) (by omega)) (wrap_u32 (by omega) (by omega)) (wrap_u32 (by omega) (by omega)) (wrap_u32 (by omega) (by omega)) ((or_zero32 g2).trans v1.symm) ((or_byte32 (by omega) (by omega) g3).trans v2.symm) ((or_byte32 (by omega) (by omega) g4).trans v3.symm) ((or_byte32 (by omega) (by omega) g5).trans v4.symm) (wrap_u32 (by omega) (by omega)) (wrap_u32 (by omega) (by omega)) (wrap_u32 (by omega) (by omega)) htu hh
   ·rw [hf] at hh hs hne hcl htu ⊢
    simp only [show ((8 : Int).toNat - 4) = 4 from rfl] at htu ⊢
    have v1 : val l 4 1 = rd l 4 := by simp [val]
    have v2 : val l 4 2 = val l 4 1 * 256 + rd l 5 := rfl
    have v3 : val l 4 3 = val l 4 2 * 256 + rd l 6 := rfl
    have v4 : val l 4 4 = val l 4 3 * 256 + rd l 7 := rfl
    have g4 := rd_byte hl 4
    have g5 := rd_byte hl 5
    have g6 := rd_byte hl 6
    have g7 := rd_byte hl 7
    exact Get_ok_8 l _ ad c w _ _ _ _ (rd l 4) (rd l 5) (rd l 6) (rd l 7) (val l 4 1) (val l 4 2) (val l 4 3) (val l 4 4) _ hg x0 ho hC hc (by omega) hs hne rfl hcl (hy 4 (by omega) (by omega)) (hy 5 (by omega) (by omega)) (hy 6 (by omega) (by omega)) (hy 7 (by omega) (by omega)) (wrap_u32 (by omega) (by omega)) (wrap_u32 (by omega) (by omega)) (wrap_u32 (by omega) (by omega)) (wrap_u32 (by omega) (by omega)) ((or_zero32 g4).trans v1.symm) ((or_byte32 (by omega) (by omega) g5).trans v2.symm) ((or_byte32 (by omega) (by omega) g6).trans v3.symm) ((or_byte32 (by omega) (by omega) g7).trans v4.symm) (wrap_u32 (by omega) (by omega)) (wrap_u32 (by omega) (by omega)) (wrap_u32 (by omega) (by omega)) htu hh
end Go.Proofs.YtpmeapdcjmaeiaaGreatDoor
namespace Go.Wb
open Go.Wa (Aside0)
def needsOf (md : Region.Mode) (o : Oper) : List Nat := (o.after.toList.filter (fun e => Region.binds md e)).map (fun e => e.on)
def clashOf (md : Region.Mode) (ops : Array Oper) (i : Nat) (oi : Oper) : List Nat := (List.range ops.size).filter fun j => !(j == i) && match ops[j]? with
 | some oj => !(oj.after.any (fun e => Region.binds md e && e.on == i) || oi.apart ops oj)
 | none => false
def rtab (md : Region.Mode) (ops : Array Oper) : Bool × List (List Nat × List Nat) := (Region.noSelect ops, (List.range ops.size).map fun i => match ops[i]? with
 | some o => (needsOf md o, clashOf md ops i o)
 | none => ([], []))
def readyAt (T : List (List Nat × List Nat)) (l : List Bool) (i : Nat) : Bool := !l.getD i true && match T[i]? with
 | some r => r.1.all (fun j => l.getD j false)
 | none => false
def readyT (T : List (List Nat × List Nat)) (l : List Bool) : List Nat := (List.range T.length).filter (readyAt T l)
def freeT (T : List (List Nat × List Nat)) (l : List Bool) (i : Nat) : Bool := match T[i]? with
 | some r => r.2.all (fun j => l.getD j true)
 | none => false
def closedT (T : List (List Nat × List Nat)) (l : List Bool) : Bool := (List.range T.length).all fun j => !l.getD j false || match T[j]? with
 | some r => r.1.all (fun k => l.getD k false)
 | none => true
def reachT (T : List (List Nat × List Nat)) (i : Nat) : Nat → Nat → Bool
 | 0, _ => false
 | fuel + 1, d => match T[d]? with
  | some r => r.1.any fun j => j == i || reachT T i fuel j
  | none => false
def lastT (T : List (List Nat × List Nat)) (l : List Bool) (ds : List Nat) (i : Nat) : Bool := ds.all fun d => l.getD d true || reachT T i T.length d
section
variable {md : Region.Mode} {ops : Array Oper} {T : Bool × List (List Nat × List Nat)} {l l' li lj lk : Array Bool} {ds : List Nat} {i j k : Nat}
theorem gd (l : Array Bool) (j : Nat) (b : Bool) : l.getD j b = l.toList.getD j b := by simp [Array.getD_eq_getD_getElem?, List.getD_eq_getElem?_getD]
theorem needs_all (o : Oper) (p : Nat → Bool) : o.after.all (fun e => !Region.binds md e || p e.on) = (needsOf md o).all p := by
 unfold needsOf
 rw [← Array.all_toList]
 induction o.after.toList with
 | nil => rfl
 | cons e r ih =>
  rw [List.all_cons, ih, List.filter_cons]
  cases h : Region.binds md e <;> simp
theorem needs_any (o : Oper) (p : Nat → Bool) : o.after.any (fun e => Region.binds md e && p e.on) = (needsOf md o).any p := by
 unfold needsOf
 rw [← Array.any_toList]
 induction o.after.toList with
 | nil => rfl
 | cons e r ih =>
  rw [List.any_cons, ih, List.filter_cons]
  cases h : Region.binds md e <;> simp
theorem rtab_length : (rtab md ops).2.length = ops.size := by simp [rtab]
theorem rtab_some {o : Oper} (h : ops[i]? = some o) : (rtab md ops).2[i]? = some (needsOf md o, clashOf md ops i o) := by
 have hi := (Array.getElem?_eq_some_iff.1 h).1
 unfold rtab
 rw [List.getElem?_map, List.getElem?_range hi, Option.map_some, h]
theorem rtab_none (h : ops[i]? = none) : (rtab md ops).2[i]? = none := by
 have hi : ops.size ≤ i := Array.getElem?_eq_none_iff.1 h
 exact List.getElem?_eq_none (by rw [rtab_length]; exact hi)
theorem readyAt_eq : readyAt (rtab md ops).2 l.toList i = (!l.getD i true && ((ops[i]?).map (·.after.all fun e => !Region.binds md e || l.getD e.on false)).getD false) := by
 unfold readyAt
 rw [gd]
 cases h : ops[i]? with
 | none => rw [rtab_none h]; rfl
 | some o =>
  rw [rtab_some h]
  simp only [Option.map_some, Option.getD_some]
  rw [← needs_all]
  simp only [gd]
theorem ready_eq : Region.ready md ops l = readyT (rtab md ops).2 l.toList := by
 unfold Region.ready readyT
 rw [rtab_length]
 refine List.filter_congr (fun i _ => ?_)
 rw [readyAt_eq]
theorem free_eq : Region.free md ops l i = freeT (rtab md ops).2 l.toList i := by
 unfold Region.free freeT
 cases h : ops[i]? with
 | none => rw [rtab_none h]
 | some oi =>
  rw [rtab_some h]
  simp only [clashOf]
  rw [List.all_filter]
  congr 1
  funext j
  rw [gd]
  cases hj : ops[j]? with
  | none => cases (j == i) <;> cases (l.toList.getD j true) <;> simp
  | some oj =>
   cases (j == i) <;> cases (l.toList.getD j true) <;> cases (oj.after.any (fun e => Region.binds md e && e.on == i) || oi.apart ops oj) <;> simp_all
theorem closed_eq : Region.closedB md ops l = closedT (rtab md ops).2 l.toList := by
 unfold Region.closedB closedT
 rw [rtab_length]
 congr 1
 funext j
 rw [gd]
 cases h : ops[j]? with
 | none => rw [rtab_none h]
 | some o =>
  rw [rtab_some h]
  simp only
  rw [← needs_all]
  simp only [gd]
theorem reach_eq : ∀ (fuel d : Nat), Region.reachB md ops i fuel d = reachT (rtab md ops).2 i fuel d
 | 0, _ => rfl
 | fuel + 1, d => by
  unfold Region.reachB reachT
  cases h : ops[d]? with
  | none => rw [rtab_none h]
  | some o =>
   rw [rtab_some h]
   simp only
   rw [← needs_any]
   congr 1
   funext e
   rw [reach_eq fuel]
theorem last_eq : Region.lastB md ops l ds i = lastT (rtab md ops).2 l.toList ds i := by
 unfold Region.lastB lastT
 rw [rtab_length]
 congr 1
 funext d
 rw [gd, reach_eq]
theorem readyAt_mem (h : readyAt T.2 l.toList i = true) (hT : rtab md ops = T) : (Region.ready md ops l).contains i = true := by
 subst hT
 rw [ready_eq]
 unfold readyT
 rw [List.contains_iff_mem, List.mem_filter, List.mem_range]
 refine ⟨?_, h⟩
 unfold readyAt at h
 rw [Bool.and_eq_true] at h
 cases hq : (rtab md ops).2[i]? with
 | none => rw [hq] at h; simp at h
 | some r => exact (List.getElem?_eq_some_iff.1 hq).1
theorem set_of (h : (l.toList.set i true == l'.toList) = true) : (l.setIfInBounds i true == l') = true := by
 rw [beq_iff_eq] at h ⊢
 apply Array.ext'
 rw [Array.toList_setIfInBounds]
 exact h
def anyT (T : Bool × List (List Nat × List Nat)) (l l' : List Bool) (i : Nat) : Bool := T.1 && freeT T.2 l i && readyAt T.2 l i && (l.set i true == l')
theorem any_of (hT : rtab md ops = T) (h : anyT T l.toList l'.toList i = true) : anyB md ops l l' i = true := by
 simp only [anyT, Bool.and_eq_true] at h
 obtain ⟨⟨⟨h1, h2⟩, h3⟩, h4⟩ := h
 have h5 := readyAt_mem h3 hT
 have h6 := set_of h4
 subst hT
 simp only [anyB, Bool.and_eq_true]
 exact ⟨⟨⟨h1, by rw [free_eq]; exact h2⟩, h5⟩, h6⟩
def takeT (T : Bool × List (List Nat × List Nat)) (ds : List Nat) (l l' : List Bool) (i : Nat) : Bool := T.1 && freeT T.2 l i && readyAt T.2 l i && closedT T.2 l && lastT T.2 l ds i && (l.set i true == l')
theorem take_of (hT : rtab md ops = T) (h : takeT T ds l.toList l'.toList i = true) : takeB md ops ds l l' i = true := by
 simp only [takeT, Bool.and_eq_true] at h
 obtain ⟨⟨⟨⟨⟨h1, h2⟩, h3⟩, h4⟩, h5⟩, h6⟩ := h
 have h7 := readyAt_mem h3 hT
 have h8 := set_of h6
 subst hT
 simp only [takeB, Bool.and_eq_true]
 exact ⟨⟨⟨⟨⟨h1, by rw [free_eq]; exact h2⟩, h7⟩, by rw [closed_eq]; exact h4⟩, by rw [last_eq]; exact h5⟩, h8⟩
theorem one_of (hT : rtab md ops = T) (h : (readyT T.2 l.toList == [i] && l.toList.set i true == l'.toList) = true) : readyB md ops l l' i = true := by
 simp only [Bool.and_eq_true] at h
 obtain ⟨h1, h2⟩ := h
 subst hT
 simp only [readyB, Bool.and_eq_true]
 exact ⟨by rw [ready_eq]; exact h1, set_of h2⟩
theorem done_of (hT : rtab md ops = T) (h : (readyT T.2 l.toList == []) = true) : (Region.ready md ops l == []) = true := by
 subst hT
 rw [ready_eq]
 exact h
def upM (B : List Nat) (d : Nat) : List Nat → Nat
 | [] => 0
 | n :: r => (2 ^ n ||| (if n < d then B.getD n 0 else 0)) ||| upM B d r
def waitsOk (T : List (List Nat × List Nat)) (B : List Nat) : Bool := (List.range T.length).all fun d => match T[d]? with
 | some r => (B.getD d 0 ||| upM B d r.1) == upM B d r.1
 | none => false
theorem upM_bit {B : List Nat} {d i : Nat} : ∀ {ns : List Nat}, (upM B d ns).testBit i = true → ∃ n ∈ ns, n = i ∨ (n < d ∧ (B.getD n 0).testBit i = true)
 | [], h => by simp [upM] at h
 | n :: r, h => by
  unfold upM at h
  rw [Nat.testBit_or, Nat.testBit_or, Bool.or_eq_true, Bool.or_eq_true] at h
  rcases h with (h | h) | h
  ·rw [Nat.testBit_two_pow] at h
   exact ⟨n, List.mem_cons_self, .inl (by simpa using h)⟩
  ·by_cases hn : n < d
   ·rw [if_pos hn] at h
    exact ⟨n, List.mem_cons_self, .inr ⟨hn, h⟩⟩
   ·rw [if_neg hn] at h
    simp at h
  ·obtain ⟨m, hm, h2⟩ := upM_bit h
   exact ⟨m, List.mem_cons_of_mem _ hm, h2⟩
theorem reach_bit {T : List (List Nat × List Nat)} {B : List Nat} (hB : waitsOk T B = true) : ∀ (fuel d : Nat), d < fuel → d < T.length → (B.getD d 0).testBit i = true → reachT T i fuel d = true
 | 0, d, h, _, _ => by omega
 | fuel + 1, d, h, hd, hb => by
  have h1 := List.all_eq_true.1 hB d (List.mem_range.2 hd)
  cases hr : T[d]? with
  | none => rw [hr] at h1; simp at h1
  | some r =>
   rw [hr] at h1
   simp only [beq_iff_eq] at h1
   have h2 : (upM B d r.1).testBit i = true := by rw [← h1, Nat.testBit_or, hb, Bool.true_or]
   obtain ⟨n, hn, h3⟩ := upM_bit h2
   unfold reachT
   rw [hr]
   simp only
   rw [List.any_eq_true]
   refine ⟨n, hn, ?_⟩
   rcases h3 with rfl | ⟨h4, h5⟩
   ·simp
   ·rw [reach_bit hB fuel n (by omega) (by omega) h5, Bool.or_true]
def lastW (T : List (List Nat × List Nat)) (B : List Nat) (l : List Bool) (ds : List Nat) (i : Nat) : Bool := ds.all fun d => l.getD d true || (decide (d < T.length) && (B.getD d 0).testBit i)
def takeW (T : Bool × List (List Nat × List Nat)) (B : List Nat) (ds : List Nat) (l l' : List Bool) (i : Nat) : Bool := T.1 && freeT T.2 l i && readyAt T.2 l i && closedT T.2 l && lastW T.2 B l ds i && (l.set i true == l')
theorem take_ofW {B : List Nat} (hT : rtab md ops = T) (hB : waitsOk T.2 B = true) (h : takeW T B ds l.toList l'.toList i = true) : takeB md ops ds l l' i = true := by
 refine take_of hT ?_
 simp only [takeW, takeT, Bool.and_eq_true] at h ⊢
 obtain ⟨⟨⟨⟨⟨h1, h2⟩, h3⟩, h4⟩, h5⟩, h6⟩ := h
 refine ⟨⟨⟨⟨⟨h1, h2⟩, h3⟩, h4⟩, ?_⟩, h6⟩
 unfold lastW at h5
 unfold lastT
 rw [List.all_eq_true] at h5 ⊢
 intro d hd
 have h7 := h5 d hd
 rw [Bool.or_eq_true, Bool.and_eq_true, decide_eq_true_eq] at h7
 rcases h7 with h7 | ⟨h8, h9⟩
 ·rw [h7, Bool.true_or]
 ·rw [reach_bit hB _ d h8 h8 h9, Bool.or_true]
theorem with_tabW {P : Program} {Q : Exit → Act → World → Prop} {S : World → Prop} {n : Nat} {a : Act} {w : World} {B : List Nat} (hT : rtab md ops = T) (hB : waitsOk T.2 B = true) (h : Aside0 (rtab md ops = T) → Aside0 (waitsOk T.2 B = true) → wpAnyLast P md ops Q S ds n l a w) : wpAnyLast P md ops Q S ds n l a w := h ⟨hT⟩ ⟨hB⟩
end
def opsIn : Code → Nat → Option (Array Oper)
 | .region id ops _, k => if id == k then some ops else none
 | .seq a b, k => match opsIn a k with
  | some o => some o
  | none => opsIn b k
 | .cond _ a b, k => match opsIn a k with
  | some o => some o
  | none => opsIn b k
 | .block _ c, k => opsIn c k
 | .loop c, k => opsIn c k
 | .scope c, k => opsIn c k
 | .rangeFunc _ _ a b, k => match opsIn a k with
  | some o => some o
  | none => opsIn b k
 | _, _ => none
def opsOf (f : Func) (k : Nat) : Array Oper := ((f.body.bind fun c => opsIn c k)).getD #[]
end Go.Wb
namespace Go.Wb
section
variable {P : Program} {ops : Array Oper} {Q : Exit → Act → World → Prop} {md : Region.Mode} {S : World → Prop} {ds : List Nat} {T : Bool × List (List Nat × List Nat)}
end
end Go.Wb
namespace Go.Wa
open Go.RowKit
namespace Kd
section
variable {α : Type} {d : Kd α} {W : World} {g n : Nat} {S ok : Nat → Prop} {A : Option Addr} {ad : Addr} {xs : List α}
end
end Kd
end Go.Wa
namespace Go.Wa
open Go.RowKit
section
variable {w w' u : World} {m B g : Nat} {o : Obj} {row : Option Nat} {S : Nat → Prop} {a : Addr} {v : Value}
end
namespace Kd
section
variable {α : Type} {d : Kd α} {e base n m : Nat} {ok : Nat → Prop} {w w' : World} {v : Value} {A : Option Addr} {xs : List α}
theorem C_at (hq : w.drewN m = w') (h : d.C w A n xs) : d.C w' A n xs := by subst hq; exact C_drewN h m
end
end Kd
end Go.Wa
