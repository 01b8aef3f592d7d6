/- What the law's row rests on, part 7. -/
import Derived.Test.YtpmeapdcjmaeiaaGreatDoorZ6
import Derived.Deep.DeepCutAuto
import Derived.Deep.RegionHeld3
set_option linter.unusedVariables false
set_option linter.unusedSimpArgs false
set_option maxRecDepth 100000
set_option maxHeartbeats 16000000
namespace Go.Proofs.YtpmeapdcjmaeiaaGreatDoor
open Go.RowKit Go.Wa Go.Wb Go.Wc PAll U
structure Ps (w0 w : World) (g : Nat) (v0 u0 : Value) (gp : Nat) (fin : Bool) (op : Int) (mk : Bool) (key : Int) (A : Option Addr) (c : Nat) (d : List Int) (v u : Value) (b : List Int) (busy text : Bool) (gu : Nat) (f : List Int) (W : World) : Prop where
 gs : Gs w0 W g v u b busy text false gu f
 box : W.heap[gp]? = some (.cells #[.bool fin, .int .u8 op, .bool mk, .int .u32 key, .slice A d.length c] 81 (0, 0))
 low : w.heap.size ≤ gp
 fr : Fr w W g v0 u0
 dat : Dat W (.slice A d.length c) d
 dne : ∀ k, (Value.slice A d.length c).ownBlock = some k → v.ownBlock ≠ some k
 nv : NewOr w v0 v
 nu : NewU w u0 u
section
variable {w0 w : World} {g : Nat} {v0 u0 : Value} {gp : Nat} {fin : Bool} {op : Int} {mk : Bool} {key : Int} {A : Option Addr} {c : Nat} {d : List Int} {v u : Value} {b : List Int} {busy text : Bool} {gu : Nat} {f : List Int} {W W' : World}
theorem Ps.below (h : Ps w0 w g v0 u0 gp fin op mk key A c d v u b busy text gu f W) (hb : Below W.heap.size W W') : Ps w0 w g v0 u0 gp fin op mk key A c d v u b busy text gu f W' := ⟨h.gs.below hb, blk_below h.box hb, h.low, h.fr.below hb, h.dat.below hb, h.dne, h.nv, h.nu⟩
theorem psS (h : Ps w0 w g v0 u0 gp fin op mk key A c d v u b busy text gu f W) : Aside0 (Ps w0 w g v0 u0 gp fin op mk key A c d v u b busy text gu f W) ∧ W.cell? ⟨g, 0, none⟩ = some v ∧ W.cell? ⟨g, 1, none⟩ = some (.bool busy) ∧ W.cell? ⟨g, 2, none⟩ = some (.bool text) ∧ W.cell? ⟨g, 3, none⟩ = some u ∧ W.cell? ⟨gp, 0, none⟩ = some (.bool fin) ∧ W.cell? ⟨gp, 1, none⟩ = some (.int .u8 op) ∧ W.cell? ⟨gp, 4, none⟩ = some (.slice A d.length c) :=
 ⟨⟨h⟩, (blk_cell h.gs.gw.blk 0).trans rfl, (blk_cell h.gs.gw.blk 1).trans rfl, (blk_cell h.gs.gw.blk 2).trans rfl, (blk_cell h.gs.gw.blk 3).trans rfl, (blk_cell h.box 0).trans rfl, (blk_cell h.box 1).trans rfl, (blk_cell h.box 4).trans rfl⟩
theorem boxS (h : W.heap[gp]? = some (.cells #[.bool fin, .int .u8 op, .bool mk, .int .u32 key, .slice A d.length c] 81 (0, 0))) : Aside0 (W.heap[gp]? = some (.cells #[.bool fin, .int .u8 op, .bool mk, .int .u32 key, .slice A d.length c] 81 (0, 0))) ∧ W.cell? ⟨gp, 1, none⟩ = some (.int .u8 op) := ⟨⟨h⟩, (blk_cell h 1).trans rfl⟩
theorem Ps.ne (h : Ps w0 w g v0 u0 gp fin op mk key A c d v u b busy text gu f W) : gp ≠ g := blk_ne h.box h.gs.gw.blk (by decide)
theorem Ps.append (h : Ps w0 w g v0 u0 gp fin op mk key A c d v u b busy text gu f W) {v1 : Value} {w1 : World} (ho : Kd.R (Kd.int .u8) 5 w1 w0.heap.size (fun _ => True) v1 (b ++ d)) (hb : Below w0.heap.size w0 w1) (hg : W.grownBy w1 v.ownBlock) (hat : v1.ownBlock = v.ownBlock ∨ ∃ k, v1.ownBlock = some k ∧ W.heap.size ≤ k) : Ps w0 w g v0 u0 gp fin op mk key A c d v1 u (b ++ d) busy text gu f (w1.setCell ⟨g, 0, none⟩ v1) := by
 have hG1 := blk_grown h.gs.gw.blk hg (Kd.R_ne h.gs.gw.row h.gs.gw.blk (by decide))
 have hP1 := blk_grown h.box hg (Kd.R_ne h.gs.gw.row h.box (by decide))
 have hw : Gw w0 w1 g v u [] busy text false → True := fun _ => trivial
 refine ⟨⟨⟨blk_put hG1 0 v1 rfl, Kd.R_mono (Kd.R_far (Kd.R_types ho hG1 (fun q hq => g_ne hq)) (p := ⟨g, 0, none⟩) (fun k hk => hk.2) v1) (fun _ _ => trivial), Below.setCell hb (by show _ ≤ g; exact h.gs.gw.base) _, h.gs.gw.base, h.gs.gw.one, fun k e => by
   obtain ⟨cs, h1⟩ := h.gs.gw.uty k e
   exact ty_set ⟨cs, blk_grown h1 hg (Kd.R_ne h.gs.gw.row h1 (by decide))⟩⟩, fun hy => ?_⟩, (Below.heap_setCell w1 ⟨g, 0, none⟩ v1 gp h.ne).trans hP1, h.low, (h.fr.grown h.nv hg).set 0 v1, ?_, ?_, ?_, h.nu⟩
 ·obtain ⟨h1, h2, h3⟩ := h.gs.chk hy
  refine ⟨h1, (h2.grown hg (Kd.R_ne h.gs.gw.row h2.1 (by decide))).far (p := ⟨g, 0, none⟩) (blk_ne h2.1 h.gs.gw.blk (by decide)) v1, h3⟩
 ·refine h.dat.keep (fun k hk => (Below.heap_setCell w1 ⟨g, 0, none⟩ v1 k (fun e => ?_)).trans (hg.block k (h.dat.lt hk) (fun e => h.dne k hk e.symm)))
  obtain ⟨cs, fr, ht⟩ := h.dat.typed hk
  rw [show k = g from e, show W.heap[g]? = _ from h.gs.gw.blk] at ht
  injection ht with ht
  injection ht with _ ht _
  exact absurd ht (by decide)
 ·intro k hk e
  rcases hat with e2 | ⟨j, e2, hj⟩
  ·exact h.dne k hk (e2 ▸ e)
  ·have h5 := h.dat.lt hk
   rw [e2] at e
   injection e with e
   omega
 ·rcases hat with e2 | ⟨j, e2, hj⟩
  ·rcases h.nv with e3 | e3 | e3
   ·exact .inl (e2.trans e3)
   ·exact .inr (.inl (e2.trans e3))
   ·exact .inr (.inr (e2 ▸ e3))
  ·exact .inr (.inr ⟨j, e2, Nat.le_trans h.fr.size hj⟩)
structure Pq (w0 w : World) (g : Nat) (v0 u0 : Value) (gp : Nat) (fin : Bool) (op : Int) (mk : Bool) (key : Int) (A : Option Addr) (c : Nat) (d : List Int) (v u : Value) (b : List Int) (busy text : Bool) (gu : Nat) (l : List Int) (W : World) : Prop where
 gw : Gw w0 W g v u b busy text false
 ue : u = .pointer (some ⟨gu, 0, none⟩)
 chk : IsS155 w0 W gu (feedC s0 l).2.1.1 (feedC s0 l).2.1.2.1 (feedC s0 l).2.1.2.2 (feedC s0 l).2.2
 box : W.heap[gp]? = some (.cells #[.bool fin, .int .u8 op, .bool mk, .int .u32 key, .slice A d.length c] 81 (0, 0))
 fr : Fr w W g v0 u0
 nv : NewOr w v0 v
 nu : NewU w u0 u
theorem Gw.keep (h : Gw w0 W g v u b busy text false) {gu : Nat} {cs : Array Value} (ht : W.heap[gu]? = some (.cells cs 155 (0, 0))) (hk : KeepBut W W' gu none) (hB : Below w0.heap.size w0 W') (ht' : ∃ cs, W'.heap[gu]? = some (.cells cs 155 (0, 0))) : Gw w0 W' g v u b busy text false :=
 ⟨hk.blk h.blk (blk_ne h.blk ht (by decide)) (by simp), Kd.R_mono (Kd.R_step (Kd.R_types h.row ht (by intro q hq; simp [Kd.int, Kd.scalar] at hq; omega)) (fun k hok hlt => hk.2 k hlt hok.2 (by simp))) (fun _ _ => trivial), hB, h.base, h.one, fun k e => by
  by_cases hkg : k = gu
  ·subst hkg; exact ht'
  ·obtain ⟨cs, h1⟩ := h.uty k e
   exact ⟨cs, (hk.2 k (blk_lt h1) hkg (by simp)).trans h1⟩⟩
theorem Pq.keep {l : List Int} (h : Pq w0 w g v0 u0 gp fin op mk key A c d v u b busy text gu l W) (hI : IsS155 w0 W' gu (feedC s0 l).2.1.1 (feedC s0 l).2.1.2.1 (feedC s0 l).2.1.2.2 (feedC s0 l).2.2) (hB : Below w0.heap.size w0 W') (hk : KeepBut W W' gu none) : Pq w0 w g v0 u0 gp fin op mk key A c d v u b busy text gu l W' :=
 ⟨h.gw.keep h.chk.1 hk hB ⟨_, hI.1⟩, h.ue, hI, hk.blk h.box (blk_ne h.box h.chk.1 (by decide)) (by simp), h.fr.keep h.nu h.ue hk, h.nv, h.nu⟩
theorem Ps.feed (h : Ps w0 w g v0 u0 gp fin op mk key A c d v u b busy text gu f W) (hy : busy = true) {l : List Int} (hI : IsS155 w0 W' gu (feedC s0 l).2.1.1 (feedC s0 l).2.1.2.1 (feedC s0 l).2.1.2.2 (feedC s0 l).2.2) (hB : Below w0.heap.size w0 W') (hk : KeepBut W W' gu none) : Pq w0 w g v0 u0 gp fin op mk key A c d v u b busy text gu l W' :=
 ⟨h.gs.gw.keep (h.gs.chk hy).2.1.1 hk hB ⟨_, hI.1⟩, (h.gs.chk hy).1, hI, hk.blk h.box (blk_ne h.box (h.gs.chk hy).2.1.1 (by decide)) (by simp), h.fr.keep h.nu (h.gs.chk hy).1 hk, h.nv, h.nu⟩
theorem pqS {l : List Int} (h : Pq w0 w g v0 u0 gp fin op mk key A c d v u b busy text gu l W) : Aside0 (Pq w0 w g v0 u0 gp fin op mk key A c d v u b busy text gu l W) ∧ W.cell? ⟨g, 3, none⟩ = some (.pointer (some ⟨gu, 0, none⟩)) ∧ W.cell? ⟨gp, 0, none⟩ = some (.bool fin) :=
 ⟨⟨h⟩, (blk_cell h.gw.blk 3).trans (by rw [h.ue]; rfl), (blk_cell h.box 0).trans rfl⟩
end
theorem if_same_nil (p : Bool) : (if p = true then ([] : List Int) else []) = [] := by split <;> rfl
def textN (busy text : Bool) (op : Int) : Bool := if busy = true then text else op == 1
def partC (busy text fin : Bool) (op : Int) (b d : List Int) : Int :=
 if ((op == 0) != busy) = true then 1002 else if 4096 < b.length + d.length then 1009
 else if textN busy text op = true ∧ ((feedC s0 (b ++ d)).2.2 = true ∨ (fin = true ∧ validC (b ++ d) = false)) then 1007 else 0
def PartPost (w0 : World) (g : Nat) (v u : Value) (fin : Bool) (b d : List Int) (tn : Bool) (code : Int) (w : World) (e : Ending) (w' : World) : Prop :=
 (code = 0 ∧ e = .returned (.tuple #[.bool fin, .nilIface]) ∧ ∃ v' u' gu', Gs w0 w' g v' u' (b ++ d) true tn false gu' (if tn = true then b ++ d else []) ∧ Fr w w' g v u ∧ NewOr w v v' ∧ NewU w u u') ∨
 (code ≠ 0 ∧ ∃ vb, e = .returned (.tuple #[.bool false, vb]) ∧ IsBad w' vb code ∧ ∃ v' u' b' bu te, Gw w0 w' g v' u' b' bu te false ∧ Fr w w' g v u ∧ NewOr w v v')
theorem part_any {w0 w : World} {g : Nat} {v u : Value} {b : List Int} {busy text : Bool} {gu : Nat} {f : List Int} {fin : Bool} {op : Int} {mk : Bool} {key : Int} {A : Option Addr} {c : Nat} {d : List Int} (h : Gs w0 w g v u b busy text false gu f) (hff : (busy = true → f = if text = true then b else []) ∧ (busy = false → b = [])) (hd : Dat w (.slice A d.length c) d) (hdn : ∀ k, (Value.slice A d.length c).ownBlock = some k → v.ownBlock ≠ some k) (hbl : b.length ≤ 4096) (hdl : d.length ≤ 1000000000) : Calls Tryz.prog 103 #[.pointer (some ⟨g, 0, none⟩), .agg #[.bool fin, .int .u8 op, .bool mk, .int .u32 key, .slice A d.length c]] w (PartPost w0 g v u fin b d (textN busy text op) (partC busy text fin op b d) w) := by
 obtain ⟨Av, cv, rfl⟩ := Kd.R_slice h.gw.row
 have HDL := a_ hdl
 have hPs : Ps w0 w g (.slice Av b.length cv) u w.heap.size fin op mk key A c d (.slice Av b.length cv) u b busy text gu f (w.alloc (.cells #[.bool fin, .int .u8 op, .bool mk, .int .u32 key, .slice A d.length c] 81)) := ⟨h.below (below_alloc (Below.refl _ _) _), last_at _ _ _ rfl, Nat.le_refl _, (Fr.refl _ _ _ _).below (below_alloc (Below.refl _ _) _), hd.below (below_alloc (Below.refl _ _) _), hdn, .inl rfl, .inl rfl⟩
 have HBL := a_ hbl
 have HFF := a_ hff
 clear h hd hdn hdl hbl hff
 go_enter Tryz.func103, Tryz.ntmps103
 go_upto_region 1 with fail
 generalize w.alloc (.cells #[.bool fin, .int .u8 op, .bool mk, .int .u32 key, .slice A d.length c] 81) = w1 at hPs ⊢
 have HP1 := a_ hPs
 clear hPs
 refine wp_region_noPanic ?_
 refine wp_region_held_drew (S := fun w' => Aside0 (Ps w0 w g (.slice Av b.length cv) u w.heap.size fin op mk key A c d ((.slice Av b.length cv)) u b busy text gu f w') ∧ w'.cell? ⟨g, 0, none⟩ = some (.slice Av b.length cv) ∧ w'.cell? ⟨g, 1, none⟩ = some (.bool busy) ∧ w'.cell? ⟨g, 2, none⟩ = some (.bool text) ∧ w'.cell? ⟨g, 3, none⟩ = some (u) ∧ w'.cell? ⟨w.heap.size, 0, none⟩ = some (.bool fin) ∧ w'.cell? ⟨w.heap.size, 1, none⟩ = some (.int .u8 op) ∧ w'.cell? ⟨w.heap.size, 4, none⟩ = some (.slice A d.length c)) (by kernel_rfl) (psS (HP1.out.below (below_drew (Below.refl _ _)))) (fun hHeld => ?_)
 refine takeP 0 6 ?_
 refine takeP 1 7 ?_
 refine takeP 2 8 ?_
 refine takeP 3 9 ?_
 refine takeP 4 10 ?_
 refine takeP 5 11 ?_
 refine takeP 6 12 ?_
 refine takeP 7 13 ?_
 refine wpAnyH_done (by kernel_rfl) ?_ _
 refine NoPanic.normal ?_
 have HP2 := a_ hHeld.1.out
 clear hHeld HP1
 by_cases hop : ((op == 0) != busy) = true
 ·have HCODE : Aside0 (partC busy text fin op b d = 1002) := ⟨by unfold partC; rw [if_pos hop]⟩
  have hopb : ((op == 0) == busy) = false := by cases h1 : (op == 0) <;> cases busy <;> simp_all
  have HOP := a_ hop
  clear hop
  have c1 := (psS HP2.out).2.2.1
  simp only [bne, hopb, Bool.not_false]
  go_wp2_with fail
  refine (socket_any 1002 _).mono ?_
  rintro e w3 ⟨vb, rfl, hbad, hb⟩
  go_wp2_with fail
  exact bodyPost_ret (v := .tuple #[.bool false, vb]) (by simp [results, Tryz.results103, go_sem]) rfl (.inr ⟨by rw [HCODE.out]; decide, vb, rfl, by rw [HCODE.out]; exact hbad, _, _, _, _, _, (HP2.out.below hb).gs.gw, (HP2.out.below hb).fr, (HP2.out.below hb).nv⟩)
 ·have hopz : (op == 0) = busy := by cases h1 : (op == 0) <;> cases busy <;> simp_all
  simp only [hopz, beq_self_eq_true, Bool.not_true, bne_self_eq_false]
  have HOZ := a_ hopz
  clear hopz
  obtain ⟨tn, htn⟩ : ∃ tn, tn = textN busy text op := ⟨_, rfl⟩
  have HTN := a_ htn
  have c1 := (psS HP2.out).2.2.1
  have HC0 : Aside0 (partC busy text fin op b d = if 4096 < b.length + d.length then 1009 else if tn = true ∧ ((feedC s0 (b ++ d)).2.2 = true ∨ (fin = true ∧ validC (b ++ d) = false)) then 1007 else 0) := ⟨by unfold partC; rw [if_neg hop, htn]⟩
  clear htn hop
  have HFB := a_ (fun h => HFF.out.1 h)
  go_upto_if 19 with fail
  go_cut [0] (fun gv wc => gv = .pointer (some ⟨g, 0, none⟩) ∧ ∃ u' gu', Ps w0 w g (.slice Av b.length cv) u w.heap.size fin op mk key A c d ((.slice Av b.length cv)) u' b true tn gu' (if tn = true then b else []) wc)
  case first =>
   have HFB0 := a_ (fun h => HFF.out.2 h)
   clear HFF
   cases busy with
   | true =>
    have HFX := a_ (HFB.out rfl)
    clear HFB HFB0
    go_wp2_with fail
    go_meet
    case rel => exact ⟨rfl, u, gu, by
     have e : tn = text := HTN.out
     rw [e]
     have h := HP2.out
     rwa [HFX.out] at h⟩
   | false =>
    have hte : tn = (op == 1) := by rw [HTN.out]; rfl
    subst hte
    go_upto_region 4 with fail
    have hb0 := HFB0.out rfl
    have HBOX := a_ (blk_drew HP2.out.box)
    refine wp_region_noPanic ?_
    refine wp_region_held_drew (S := fun w' => Aside0 (w'.heap[w.heap.size]? = some (.cells #[.bool fin, .int .u8 op, .bool mk, .int .u32 key, .slice A d.length c] 81 (0, 0))) ∧ w'.cell? ⟨w.heap.size, 1, none⟩ = some (.int .u8 op)) (by kernel_rfl) (boxS (HBOX.out)) (fun hHeld => ?_)
    refine takeP 0 20 ?_
    refine takeP 1 21 ?_
    refine takeP 2 22 ?_
    refine takeP 3 23 ?_
    refine takeP 4 24 ?_
    refine takeP 5 25 ?_
    refine rd1_ 6 fun K hK => ?_
    go_simp
    go_at_call 64
    refine (utf_New.calls 0 128 191 false w1.drew.drew w1.drew.drew (Below.refl _ _) rfl).mono ?_
    rintro e w4 ⟨gu4, rfl, hI4', hB4, hb4⟩
    have hnu4 : w.heap.size ≤ gu4 := Nat.le_trans HP2.out.fr.size hI4'.2
    have hI4 : IsS155 w0 w4 gu4 0 128 191 false := ⟨hI4'.1, Nat.le_trans HP2.out.gs.gw.bel.size hI4'.2⟩
    clear hI4'
    have HP4 := a_ ((HP2.out.below (below_drew (Below.refl _ _))).below hb4)
    have HI4 := a_ hI4
    have HPN := a_ HP4.out.ne
    have HGN : Aside0 (gu4 ≠ g) := ⟨blk_ne hI4.1 HP4.out.gs.gw.blk (by decide)⟩
    have HTF2 : Aside0 ((feedC s0 (if (op == 1) = true then b else [])).2.2 = false) := ⟨by rw [hb0, if_same_nil]; rfl⟩
    have HNU : Aside0 (w.heap.size ≤ gu4) := ⟨hnu4⟩
    clear hI4 hB4 hb4 HBOX
    refine hK.out _ _ (boxS (HP4.out.box)) (fun hHeld => ?_)
    clear hK K
    try simp only [Act.put, z1_, z2_, z3_]
    refine takeP 7 27 ?_
    refine takeP 8 28 ?_
    obtain ⟨-, -, kc_, kf_⟩ := xf2_ HP4.out.gs.gw.blk
    have kl_ := blk_lt HP4.out.gs.gw.blk
    refine rd1_ 9 fun K hK => ?_
    go_simp
    have hg_ := HP4.out.gs.gw.setBusy true
    have hb_ := (Below.heap_setCell w4 ⟨g, 1, none⟩ (.bool true) _ HPN.out).trans HP4.out.box
    have hf_ := HP4.out.fr.set 1 (.bool true)
    have hi_ := HI4.out.far (p := ⟨g, 1, none⟩) HGN.out (.bool true)
    have hd_ := HP4.out.dat.keep (W' := w4.setCell ⟨g, 1, none⟩ (.bool true)) (fun k hk => Below.heap_setCell _ _ _ _ (fun e => by
     obtain ⟨cs, fr, ht⟩ := HP4.out.dat.typed hk
     rw [e] at ht
     rw [show w4.heap[g]? = _ from HP4.out.gs.gw.blk] at ht
     injection ht with ht
     injection ht with _ ht _
     exact absurd ht (by decide)))
    generalize w4.setCell ⟨g, 1, none⟩ (.bool true) = w5 at hg_ hb_ hf_ hi_ hd_ ⊢
    clear kc_ kf_ kl_
    have HG5 := a_ hg_
    have HB5 := a_ hb_
    have HF5 := a_ hf_
    have HIx5 := a_ hi_
    have HD5 := a_ hd_
    clear hg_ hb_ hf_ hi_ hd_
    refine hK.out _ _ (boxS (HB5.out)) (fun hHeld => ?_)
    clear hK K
    try simp only [Act.put, z1_, z2_, z3_]
    refine takeP 10 29 ?_
    refine takeP 11 30 ?_
    obtain ⟨-, -, -, -, kc_, kf_⟩ := xf3_ HG5.out.blk
    have kl_ := blk_lt HG5.out.blk
    refine rd1_ 12 fun K hK => ?_
    go_simp
    have hg_ := HG5.out.setText (op == 1)
    have hb_ := (Below.heap_setCell w5 ⟨g, 2, none⟩ (.bool (op == 1)) _ HPN.out).trans HB5.out
    have hf_ := HF5.out.set 2 (.bool (op == 1))
    have hi_ := HIx5.out.far (p := ⟨g, 2, none⟩) HGN.out (.bool (op == 1))
    have hd_ := HD5.out.keep (W' := w5.setCell ⟨g, 2, none⟩ (.bool (op == 1))) (fun k hk => Below.heap_setCell _ _ _ _ (fun e => by
     obtain ⟨cs, fr, ht⟩ := HD5.out.typed hk
     rw [e] at ht
     rw [show w5.heap[g]? = _ from HG5.out.blk] at ht
     injection ht with ht
     injection ht with _ ht _
     exact absurd ht (by decide)))
    generalize w5.setCell ⟨g, 2, none⟩ (.bool (op == 1)) = w6 at hg_ hb_ hf_ hi_ hd_ ⊢
    clear kc_ kf_ kl_
    have HG6 := a_ hg_
    have HB6 := a_ hb_
    have HF6 := a_ hf_
    have HIx6 := a_ hi_
    have HD6 := a_ hd_
    clear hg_ hb_ hf_ hi_ hd_
    refine hK.out _ _ (boxS (HB6.out)) (fun hHeld => ?_)
    clear hK K
    try simp only [Act.put, z1_, z2_, z3_]
    refine takeP 13 31 ?_
    refine takeP 14 32 ?_
    obtain ⟨-, -, -, -, -, -, kc_, kf_⟩ := xf4_ HG6.out.blk
    have kl_ := blk_lt HG6.out.blk
    refine rd1_ 15 fun K hK => ?_
    go_simp
    have hg_ := HG6.out.setU (.pointer (some ⟨gu4, 0, none⟩)) rfl (fun k e => by injection e with e; injection e with e; injection e with e; exact ⟨_, e ▸ HIx6.out.1⟩)
    have hb_ := (Below.heap_setCell w6 ⟨g, 3, none⟩ (.pointer (some ⟨gu4, 0, none⟩)) _ HPN.out).trans HB6.out
    have hf_ := HF6.out.set 3 (.pointer (some ⟨gu4, 0, none⟩))
    have hi_ := HIx6.out.far (p := ⟨g, 3, none⟩) HGN.out (.pointer (some ⟨gu4, 0, none⟩))
    have hd_ := HD6.out.keep (W' := w6.setCell ⟨g, 3, none⟩ (.pointer (some ⟨gu4, 0, none⟩))) (fun k hk => Below.heap_setCell _ _ _ _ (fun e => by
     obtain ⟨cs, fr, ht⟩ := HD6.out.typed hk
     rw [e] at ht
     rw [show w6.heap[g]? = _ from HG6.out.blk] at ht
     injection ht with ht
     injection ht with _ ht _
     exact absurd ht (by decide)))
    generalize w6.setCell ⟨g, 3, none⟩ (.pointer (some ⟨gu4, 0, none⟩)) = w7 at hg_ hb_ hf_ hi_ hd_ ⊢
    clear kc_ kf_ kl_
    have HG7 := a_ hg_
    have HB7 := a_ hb_
    have HF7 := a_ hf_
    have HIx7 := a_ hi_
    have HD7 := a_ hd_
    clear hg_ hb_ hf_ hi_ hd_
    refine hK.out _ _ (boxS (HB7.out)) (fun hHeld => ?_)
    clear hK K
    try simp only [Act.put, z1_, z2_, z3_]
    refine wpAnyH_done (by kernel_rfl) ?_ _
    refine NoPanic.normal ?_
    clear hHeld
    go_wp2_with fail
    go_meet
    case rel => exact ⟨rfl, .pointer (some ⟨gu4, 0, none⟩), gu4, ⟨HG7.out, fun _ => ⟨rfl, by rw [hb0, if_same_nil]; exact HIx7.out, HTF2.out⟩⟩, HB7.out, Nat.le_refl _, HF7.out, HD7.out, HP4.out.dne, HP4.out.nv, .inr ⟨gu4, rfl, HNU.out⟩⟩
  case rest =>
   obtain ⟨rfl, u2, gu2, hP3⟩ := hcut
   have HP3 := a_ hP3
   clear hP3 HP2 c1
   go_upto_region 5 with fail
   refine wp_region_noPanic ?_
   refine wp_region_held_drew (S := fun w' => Aside0 (Ps w0 w g (.slice Av b.length cv) u w.heap.size fin op mk key A c d ((.slice Av b.length cv)) u2 b true tn gu2 (if tn = true then b else []) w') ∧ w'.cell? ⟨g, 0, none⟩ = some (.slice Av b.length cv) ∧ w'.cell? ⟨g, 1, none⟩ = some (.bool true) ∧ w'.cell? ⟨g, 2, none⟩ = some (.bool tn) ∧ w'.cell? ⟨g, 3, none⟩ = some (u2) ∧ w'.cell? ⟨w.heap.size, 0, none⟩ = some (.bool fin) ∧ w'.cell? ⟨w.heap.size, 1, none⟩ = some (.int .u8 op) ∧ w'.cell? ⟨w.heap.size, 4, none⟩ = some (.slice A d.length c)) (by kernel_rfl) (psS (HP3.out.below (below_drew (Below.refl _ _)))) (fun hHeld => ?_)
   refine takeP 0 33 ?_
   refine takeP 1 34 ?_
   refine takeP 2 35 ?_
   refine takeP 3 36 ?_
   refine takeP 4 37 ?_
   refine takeP 5 38 ?_
   refine takeP 6 39 ?_
   refine takeP 7 40 ?_
   refine takeP 8 41 ?_
   refine takeP 9 42 ?_
   refine wpAnyH_done (by kernel_rfl) ?_ _
   refine NoPanic.normal ?_
   have HP5 := a_ hHeld.1.out
   clear hHeld HP3
   have hbl := HBL.out
   have hdl := HDL.out
   have hw : wrap64 (4096 - (b.length : Int)) = ((4096 - b.length : Nat) : Int) := by unfold wrap64; omega
   obtain ⟨q4, hq4⟩ : ∃ q4 : Nat, q4 = 4096 - b.length := ⟨_, rfl⟩
   try simp only [i64_w]
   simp only [hw]
   rw [← hq4]
   clear hw
   by_cases hgr : 4096 < b.length + d.length
   ·have HCODE : Aside0 (partC busy text fin op b d = 1009) := ⟨by rw [HC0.out, if_pos hgr]⟩
    have hlt : q4 < d.length := by omega
    clear hbl hdl hq4 hgr
    go_wp2_with fail
    refine (socket_any 1009 _).mono ?_
    rintro e w3 ⟨vb, rfl, hbad, hb⟩
    go_wp2_with fail
    exact bodyPost_ret (v := .tuple #[.bool false, vb]) (by simp [results, Tryz.results103, go_sem]) rfl (.inr ⟨by rw [HCODE.out]; decide, vb, rfl, by rw [HCODE.out]; exact hbad, _, _, _, _, _, (HP5.out.below hb).gs.gw, (HP5.out.below hb).fr, (HP5.out.below hb).nv⟩)
   ·have HC1 : Aside0 (partC busy text fin op b d = if tn = true ∧ ((feedC s0 (b ++ d)).2.2 = true ∨ (fin = true ∧ validC (b ++ d) = false)) then 1007 else 0) := ⟨by rw [HC0.out, if_neg hgr]⟩
    have hlt : ¬ q4 < d.length := by omega
    have hltd : decide ((q4 : Int) < (d.length : Int)) = false := decide_eq_false (by omega)
    clear hbl hdl hq4
    have hcc := psS HP5.out
    have hc0 := hcc.2.1
    have hc4 := hcc.2.2.2.2.2.2.2
    clear hcc
    go_upto_region 7 with fail
    have hinfo : (Tryz.prog.info? 5).map (fun i => (i.zero, i.size, i.bytes)) = some (some (.int .u8 0), 1, 1) := by kernel_rfl
    have HI := a_ hinfo
    clear hinfo
    have HLL := a_ (show (b.length + d.length) * 1 ≤ 140737488355328 by have := HBL.out; have := HDL.out; omega)
    refine start_ (n := 11) (S := fun w' => w'.cell? ⟨g, 0, none⟩ = some (.slice Av b.length cv) ∧ w'.cell? ⟨w.heap.size, 4, none⟩ = some (.slice A d.length c)) (ds := [10]) #[false, false, false, false, false, false, false, false, false, false, false] (by kernel_rfl) rfl rfl (⟨hc0, hc4⟩) (fun hHeld => ?_)
    refine pureP 0 44 ?_
    refine pureP 1 45 ?_
    refine pureP 2 46 ?_
    refine pureP 3 47 ?_
    refine take_ (i := 4) (N := (some 48)) (v := ?_) (a' := ?_) #[true, true, true, true, true, false, false, false, false, false, false] rfl rfl (by kernel_rfl) (fun _ _ _ h => h) (Or.inl ⟨by rfl, ?_⟩) hHeld ?_ ?_
    rotate_left
    ·rintro w' ⟨s0, s1⟩
     go_simp
     first | done | with_reducible rfl
    rotate_left
    ·simp only [Act.put, z1_, z2_, z3_, i64_w, i32_w]
     rfl
    refine pureP 5 49 ?_
    refine take_ (i := 6) (N := (some 50)) (v := ?_) (a' := ?_) #[true, true, true, true, true, true, true, false, false, false, false] rfl rfl (by kernel_rfl) (fun _ _ _ h => h) (Or.inl ⟨by rfl, ?_⟩) hHeld ?_ ?_
    rotate_left
    ·rintro w' ⟨s0, s1⟩
     go_simp
     first | done | with_reducible rfl
    rotate_left
    ·simp only [Act.put, z1_, z2_, z3_, i64_w, i32_w]
     rfl
    refine one_ (i := 7) (N := (some 51)) #[true, true, true, true, true, true, true, true, false, false, false] rfl rfl (by kernel_rfl) (by decide) (fun K hK => ?_)
    refine Kd.R_append_rows_step (Kd.int .u8) (w0 := w0) w0.heap.size (by rfl) (.tmp 48) (.tmp 50) 27 5 (.int .u8 0) 1 rfl Tryz.underlying27 HI.out rfl (by decide) (by omega) (.slice Av b.length cv) b d _ _ _ (fun _ => True) (fun _ => False) rfl rfl ?aO ?aR (fun _ _ h => h) (fun _ h => h.elim) ?aF ?aB ?aS ?aL ?_
    (case aO => exact Kd.R_drew HP5.out.gs.gw.row)
    (case aR => exact Kd.C_drew (Dat.C HP5.out.dat))
    (case aF => exact fun _ _ => trivial)
    (case aB => exact below_drew HP5.out.gs.gw.bel)
    (case aS => exact HP5.out.gs.gw.bel.size)
    (case aL => exact HLL.out)
    intro v1 w1' ho hb hg1 hat
    obtain ⟨A1, c1, e1⟩ := Kd.R_slice ho
    obtain ⟨mm, hmm⟩ : ∃ mm, mm = (b ++ d).length := ⟨_, rfl⟩
    rw [← hmm] at e1
    clear hmm
    subst e1
    have hPd := HP5.out.below (below_drew (Below.refl _ _))
    have hP8 := hPd.append ho hb hg1 hat
    have hk1 := blk_grown hPd.gs.gw.blk hg1 (Kd.R_ne hPd.gs.gw.row hPd.gs.gw.blk (by decide))
    have hk2 := blk_grown hPd.box hg1 (Kd.R_ne hPd.gs.gw.row hPd.box (by decide))
    have g0 : w1'.cell? ⟨g, 0, none⟩ = some (.slice Av b.length cv) := (blk_cell hk1 0).trans rfl
    have g4 : w1'.cell? ⟨w.heap.size, 4, none⟩ = some (.slice A d.length c) := (blk_cell hk2 4).trans rfl
    have gf0 := blk_frozen hk1 0
    have gl := blk_lt hk1
    have HP8 := a_ hP8
    clear hPd hP8 hk1 hk2 ho hb hg1 hat
    refine hK.out _ _ (⟨g0, g4⟩) (fun hHeld => ?_)
    clear hK K
    refine norm_ (a' := ?_) ?_ ?_
    rotate_left
    ·show Act.put _ (some 51) _ = _
     simp only [Act.put, z1_, z2_, z3_, i64_w, i32_w]
     rfl
    refine pureP 8 52 ?_
    refine pureP 9 53 ?_
    refine last_ (i := 10) (N := none) #[true, true, true, true, true, true, true, true, true, true, true] rfl rfl (by kernel_rfl) (by decide) (fun K hK => ?_)
    go_simp
    refine hK.out _ _ ?_
    clear hK K
    refine done_ (by kernel_rfl) ?_
    generalize w1'.setCell ⟨g, 0, none⟩ (.slice A1 mm c1) = w8 at HP8 ⊢
    clear g0 g4 gf0 gl hc0 hc4 HP5
    have hcc := psS HP8.out
    have k2 := hcc.2.2.2.1
    have k3 := hcc.2.2.2.2.1
    have p0 := hcc.2.2.2.2.2.1
    clear hcc
    cases tn with
    | false =>
     go_wp2_with fail
     rw [← HTN.out]
     exact bodyPost_ret (v := .tuple #[.bool fin, .nilIface]) (by simp [results, Tryz.results103, go_sem]) rfl (.inl ⟨by rw [HC1.out, if_neg (by simp)], rfl, _, _, _, ⟨HP8.out.gs.gw, HP8.out.gs.chk⟩, HP8.out.fr, HP8.out.nv, HP8.out.nu⟩)
    | true =>
     have hP8' : Ps w0 w g (.slice Av b.length cv) u w.heap.size fin op mk key A c d ((.slice A1 mm c1)) u2 ((b ++ d)) true true gu2 b w8 := HP8.out
     obtain ⟨hu2, hI8, hf8⟩ := hP8'.gs.chk rfl
     subst hu2
     have HP9 := a_ hP8'
     have HF8 := a_ hf8
     clear hP8' HP8 hI8 hf8
     go_upto_region 9 with fail
     have hcc := psS HP9.out
     have hc3 := hcc.2.2.2.2.1
     have hc4 := hcc.2.2.2.2.2.2.2
     clear hcc k2 k3 p0
     refine start_ (n := 7) (S := fun w' => w'.cell? ⟨g, 3, none⟩ = some (.pointer (some ⟨gu2, 0, none⟩)) ∧ w'.cell? ⟨w.heap.size, 4, none⟩ = some (.slice A d.length c)) (ds := [6]) #[false, false, false, false, false, false, false] (by kernel_rfl) rfl rfl (⟨hc3, hc4⟩) (fun hHeld => ?_)
     refine pureP 0 58 ?_
     refine pureP 1 59 ?_
     refine pureP 2 60 ?_
     refine take_ (i := 3) (N := (some 61)) (v := ?_) (a' := ?_) #[true, true, true, true, false, false, false] rfl rfl (by kernel_rfl) (fun _ _ _ h => h) (Or.inl ⟨by rfl, ?_⟩) hHeld ?_ ?_
     rotate_left
     ·rintro w' ⟨s0, s1⟩
      go_simp
      first | done | with_reducible rfl
     rotate_left
     ·simp only [Act.put, z1_, z2_, z3_, i64_w, i32_w]
      rfl
     refine pureP 4 62 ?_
     refine take_ (i := 5) (N := (some 63)) (v := ?_) (a' := ?_) #[true, true, true, true, true, true, false] rfl rfl (by kernel_rfl) (fun _ _ _ h => h) (Or.inl ⟨by rfl, ?_⟩) hHeld ?_ ?_
     rotate_left
     ·rintro w' ⟨s0, s1⟩
      go_simp
      first | done | with_reducible rfl
     rotate_left
     ·simp only [Act.put, z1_, z2_, z3_, i64_w, i32_w]
      rfl
     refine last_ (i := 6) (N := (some 64)) #[true, true, true, true, true, true, true] rfl rfl (by kernel_rfl) (by decide) (fun K hK => ?_)
     have HPd := a_ (HP9.out.below (below_drew (Below.refl _ _)))
     clear HP9 hc3 hc4 hHeld
     go_simp
     go_at_call 65
     refine (utf_Checker_Feed.calls (d.length + 5) gu2 (feedC s0 b).2.1.1 (feedC s0 b).2.1.2.1 (feedC s0 b).2.1.2.2 false A c d _ _ _ _ _ w0 _ (HPd.out.gs.chk rfl).2.1 HPd.out.gs.gw.bel (Dat.C HPd.out.dat) (Dat.le HPd.out.dat) (Dat.off HPd.out.dat (HPd.out.gs.chk rfl).2.1.1) (feed_f d (by have := HDL.out; omega) _ (Nat.le_refl _) _ (feedC_ok okS0 b))).mono ?_
     rintro e w10 ⟨rfl, hI, hB, hk⟩
     have hap := feedC_append_good HF8.out d
     have hI' : IsS155 w0 w10 gu2 (feedC s0 (b ++ d)).2.1.1 (feedC s0 (b ++ d)).2.1.2.1 (feedC s0 (b ++ d)).2.1.2.2 (feedC s0 (b ++ d)).2.2 := by rw [hap]; exact hI
     have HQ := a_ (HPd.out.feed rfl hI' hB hk)
     clear hI hI' hB hk hap HPd HF8
     refine hK.out _ _ ?_
     clear hK K
     refine done_ (by kernel_rfl) ?_
     obtain ⟨st, hst⟩ : ∃ st, st = feedC s0 (b ++ d) := ⟨_, rfl⟩
     have HST := a_ hst
     clear hst
     have q3 := (pqS HQ.out).2.1
     go_wp2_with fail
     refine (utf_Checker_Bad.calls gu2 (feedC s0 (b ++ d)).2.1.1 (feedC s0 (b ++ d)).2.1.2.1 (feedC s0 (b ++ d)).2.1.2.2 (feedC s0 (b ++ d)).2.2 _ _ _ _ _ w0 _ HQ.out.chk HQ.out.gw.bel rfl).mono ?_
     rintro e w11 ⟨rfl, hI, hB, hk⟩
     have HQ2 := a_ (HQ.out.keep hI hB hk)
     clear hI hB hk HQ q3
     have HQ := HQ2
     clear HQ2
     cases hbad2 : (feedC s0 (b ++ d)).2.2 with
     | true =>
      have HCODE : Aside0 (partC busy text fin op b d = 1007) := ⟨by rw [HC1.out, if_pos (by simp [hbad2])]⟩
      go_wp2_with fail
      refine (socket_any 1007 _).mono ?_
      rintro e w3 ⟨vb, rfl, hbad, hb⟩
      go_wp2_with fail
      exact bodyPost_ret (v := .tuple #[.bool false, vb]) (by simp [results, Tryz.results103, go_sem]) rfl (.inr ⟨by rw [HCODE.out]; decide, vb, rfl, by rw [HCODE.out]; exact hbad, _, _, _, _, _, (HQ.out.gw.below hb), (HQ.out.fr.below hb), HQ.out.nv⟩)
     | false =>
      have HB2 := a_ hbad2
      have q3 := (pqS HQ.out).2.1
      have qp := (pqS HQ.out).2.2
      cases fin with
      | false =>
       go_wp2_with fail
       rw [← HTN.out]
       exact bodyPost_ret (v := .tuple #[.bool false, .nilIface]) (by simp [results, Tryz.results103, go_sem]) rfl (.inl ⟨by rw [HC1.out, if_neg (by rw [HB2.out]; simp)], rfl, _, _, _, ⟨HQ.out.gw, fun _ => ⟨HQ.out.ue, by have h := HQ.out.chk; rw [HB2.out] at h; exact h, HB2.out⟩⟩, HQ.out.fr, HQ.out.nv, HQ.out.nu⟩)
      | true =>
       go_wp2_with fail
       refine (utf_Checker_Whole.calls gu2 (feedC s0 (b ++ d)).2.1.1 (feedC s0 (b ++ d)).2.1.2.1 (feedC s0 (b ++ d)).2.1.2.2 (feedC s0 (b ++ d)).2.2 _ _ _ _ _ w0 _ HQ.out.chk HQ.out.gw.bel (whole_f _ _ _ _)).mono ?_
       rintro e w12 ⟨rfl, hI, hB, hk⟩
       have HQ2 := a_ (HQ.out.keep hI hB hk)
       clear hI hB hk HQ q3 qp
       have HQ := HQ2
       clear HQ2
       have hwh : (!(feedC s0 (b ++ d)).2.2 && (feedC s0 (b ++ d)).2.1.1 == 0) = validC (b ++ d) := rfl
       simp only [hwh]
       clear hwh
       have qp := (pqS HQ.out).2.2
       cases hv : validC (b ++ d) with
       | false =>
        have HCODE : Aside0 (partC busy text true op b d = 1007) := ⟨by rw [HC1.out, if_pos (by simp [hv])]⟩
        go_wp2_with fail
        refine (socket_any 1007 _).mono ?_
        rintro e w3 ⟨vb, rfl, hbad, hb⟩
        go_wp2_with fail
        exact bodyPost_ret (v := .tuple #[.bool false, vb]) (by simp [results, Tryz.results103, go_sem]) rfl (.inr ⟨by rw [HCODE.out]; decide, vb, rfl, by rw [HCODE.out]; exact hbad, _, _, _, _, _, (HQ.out.gw.below hb), (HQ.out.fr.below hb), HQ.out.nv⟩)
       | true =>
        have HV := a_ hv
        go_wp2_with fail
        rw [← HTN.out]
        exact bodyPost_ret (v := .tuple #[.bool true, .nilIface]) (by simp [results, Tryz.results103, go_sem]) rfl (.inl ⟨by rw [HC1.out, if_neg (by rw [HB2.out, HV.out]; simp)], rfl, _, _, _, ⟨HQ.out.gw, fun _ => ⟨HQ.out.ue, by have h := HQ.out.chk; rw [HB2.out] at h; exact h, HB2.out⟩⟩, HQ.out.fr, HQ.out.nv, HQ.out.nu⟩)
end Go.Proofs.YtpmeapdcjmaeiaaGreatDoor
namespace Go.Proofs.YtpmeapdcjmaeiaaGreatDoor
open Go.RowKit Go.Wa Go.Wb Go.Wc PAll U
structure Nw (w : World) (v v' u u' : Value) : Prop where
 a : NewOr w v v'
 b : NewU w u u'
theorem NewOr.mono {w w1 : World} {v v1 : Value} (h : NewOr w1 v v1) (hs : w.heap.size ≤ w1.heap.size) : NewOr w v v1 := by
 rcases h with h | h | ⟨k, h1, h2⟩
 ·exact .inl h
 ·exact .inr (.inl h)
 ·exact .inr (.inr ⟨k, h1, Nat.le_trans hs h2⟩)
theorem Nw.mono {w w1 : World} {v v1 u u1 : Value} (h : Nw w1 v v1 u u1) (hs : w.heap.size ≤ w1.heap.size) : Nw w v v1 u u1 := ⟨h.a.mono hs, h.b.imp_right (fun ⟨k, e, hk⟩ => ⟨k, e, Nat.le_trans hs hk⟩)⟩
theorem Gs.off {w0 W : World} {g gu : Nat} {v u : Value} {b f : List Int} {busy text over : Bool} (h : Gs w0 W g v u b busy text over gu f) {k : Nat} {cs : Array Value} (hk : W.heap[k]? = some (.cells cs 37 (0, 0))) (hlo : w0.heap.size ≤ k) (j : Nat) (x : Value) : Gs w0 (W.setCell ⟨k, j, none⟩ x) g v u b busy text over gu f :=
 ⟨⟨(Below.heap_setCell W ⟨k, j, none⟩ x g (blk_ne h.gw.blk hk (by decide))).trans h.gw.blk, Kd.R_mono (Kd.R_far (Kd.R_types h.gw.row hk (by intro q hq; simp [Kd.int, Kd.scalar] at hq; omega)) (p := ⟨k, j, none⟩) (fun k hk => hk.2) x) (fun _ _ => trivial), Below.setCell h.gw.bel hlo _, h.gw.base, h.gw.one, fun q e => ty_set (h.gw.uty q e)⟩, fun hy => ⟨(h.chk hy).1, (h.chk hy).2.1.far (p := ⟨k, j, none⟩) (blk_ne (h.chk hy).2.1.1 hk (by decide)) x, (h.chk hy).2.2⟩⟩
theorem Gw.gs {w0 W : World} {g : Nat} {v u : Value} {b : List Int} {text over : Bool} (h : Gw w0 W g v u b false text over) (gu : Nat) (f : List Int) : Gs w0 W g v u b false text over gu f := ⟨h, fun e => by cases e⟩
theorem Gw.off {w0 W : World} {g : Nat} {v u : Value} {b : List Int} {busy text over : Bool} (h : Gw w0 W g v u b busy text over) {k : Nat} {cs : Array Value} (hk : W.heap[k]? = some (.cells cs 37 (0, 0))) (hlo : w0.heap.size ≤ k) (j : Nat) (x : Value) : Gw w0 (W.setCell ⟨k, j, none⟩ x) g v u b busy text over :=
 ⟨(Below.heap_setCell W ⟨k, j, none⟩ x g (blk_ne h.blk hk (by decide))).trans h.blk, Kd.R_mono (Kd.R_far (Kd.R_types h.row hk (by intro q hq; simp [Kd.int, Kd.scalar] at hq; omega)) (p := ⟨k, j, none⟩) (fun k hk => hk.2) x) (fun _ _ => trivial), Below.setCell h.bel hlo _, h.base, h.one, fun q e => ty_set (h.uty q e)⟩
theorem Fr.off {w W : World} {g k : Nat} {v u : Value} (h : Fr w W g v u) (hlo : w.heap.size ≤ k) (j : Nat) (x : Value) : Fr w (W.setCell ⟨k, j, none⟩ x) g v u := ⟨by simpa [World.setCell] using h.size, fun q hq h1 h2 h3 => (Below.heap_setCell W ⟨k, j, none⟩ x q (by show q ≠ k; omega)).trans (h.same q hq h1 h2 h3)⟩
theorem row_off {W : World} {n k : Nat} {v : Value} {l : List Int} {cs : Array Value} (h : Kd.R (Kd.int .u8) 5 W n (fun _ => True) v l) (hk : W.heap[k]? = some (.cells cs 37 (0, 0))) (j : Nat) (x : Value) : Kd.R (Kd.int .u8) 5 (W.setCell ⟨k, j, none⟩ x) n (fun _ => True) v l :=
 Kd.R_mono (Kd.R_far (Kd.R_types h hk (by intro q hq; simp [Kd.int, Kd.scalar] at hq; omega)) (p := ⟨k, j, none⟩) (fun k hk => hk.2) x) (fun _ _ => trivial)
theorem Gs.off4 {w0 W : World} {g gu : Nat} {v u : Value} {b f : List Int} {busy text over : Bool} (h : Gs w0 W g v u b busy text over gu f) {k : Nat} {a0 a1 a2 a3 : Value} (hk : W.heap[k]? = some (.cells #[a0, a1, a2, a3] 37 (0, 0))) (hlo : w0.heap.size ≤ k) (x0 x1 x2 x3 : Value) : Gs w0 ((((W.setCell ⟨k, 0, none⟩ x0).setCell ⟨k, 1, none⟩ x1).setCell ⟨k, 2, none⟩ x2).setCell ⟨k, 3, none⟩ x3) g v u b busy text over gu f :=
 (((h.off hk hlo 0 x0).off (blk_put hk 0 x0 rfl) hlo 1 x1).off (blk_put (blk_put hk 0 x0 rfl) 1 x1 rfl) hlo 2 x2).off (blk_put (blk_put (blk_put hk 0 x0 rfl) 1 x1 rfl) 2 x2 rfl) hlo 3 x3
theorem Gw.off4 {w0 W : World} {g : Nat} {v u : Value} {b : List Int} {busy text over : Bool} (h : Gw w0 W g v u b busy text over) {k : Nat} {a0 a1 a2 a3 : Value} (hk : W.heap[k]? = some (.cells #[a0, a1, a2, a3] 37 (0, 0))) (hlo : w0.heap.size ≤ k) (x0 x1 x2 x3 : Value) : Gw w0 ((((W.setCell ⟨k, 0, none⟩ x0).setCell ⟨k, 1, none⟩ x1).setCell ⟨k, 2, none⟩ x2).setCell ⟨k, 3, none⟩ x3) g v u b busy text over :=
 (((h.off hk hlo 0 x0).off (blk_put hk 0 x0 rfl) hlo 1 x1).off (blk_put (blk_put hk 0 x0 rfl) 1 x1 rfl) hlo 2 x2).off (blk_put (blk_put (blk_put hk 0 x0 rfl) 1 x1 rfl) 2 x2 rfl) hlo 3 x3
theorem Fr.off4 {w W : World} {g k : Nat} {v u : Value} (h : Fr w W g v u) (hlo : w.heap.size ≤ k) (x0 x1 x2 x3 : Value) : Fr w ((((W.setCell ⟨k, 0, none⟩ x0).setCell ⟨k, 1, none⟩ x1).setCell ⟨k, 2, none⟩ x2).setCell ⟨k, 3, none⟩ x3) g v u := (((h.off hlo 0 x0).off hlo 1 x1).off hlo 2 x2).off hlo 3 x3
theorem row_off4 {W : World} {n k : Nat} {v : Value} {l : List Int} {a0 a1 a2 a3 : Value} (h : Kd.R (Kd.int .u8) 5 W n (fun _ => True) v l) (hk : W.heap[k]? = some (.cells #[a0, a1, a2, a3] 37 (0, 0))) (x0 x1 x2 x3 : Value) : Kd.R (Kd.int .u8) 5 ((((W.setCell ⟨k, 0, none⟩ x0).setCell ⟨k, 1, none⟩ x1).setCell ⟨k, 2, none⟩ x2).setCell ⟨k, 3, none⟩ x3) n (fun _ => True) v l :=
 row_off (row_off (row_off (row_off h hk 0 x0) (blk_put hk 0 x0 rfl) 1 x1) (blk_put (blk_put hk 0 x0 rfl) 1 x1 rfl) 2 x2) (blk_put (blk_put (blk_put hk 0 x0 rfl) 1 x1 rfl) 2 x2 rfl) 3 x3
theorem blk_off4 {W : World} {q k : Nat} {o : Obj} (h : W.heap[q]? = some o) (hne : q ≠ k) (x0 x1 x2 x3 : Value) : ((((W.setCell ⟨k, 0, none⟩ x0).setCell ⟨k, 1, none⟩ x1).setCell ⟨k, 2, none⟩ x2).setCell ⟨k, 3, none⟩ x3).heap[q]? = some o :=
 (Below.heap_setCell _ _ _ _ hne).trans ((Below.heap_setCell _ _ _ _ hne).trans ((Below.heap_setCell _ _ _ _ hne).trans ((Below.heap_setCell _ _ _ _ hne).trans h)))
theorem bad_off4 {W : World} {k : Nat} {c : Int} {ve : Value} {a0 a1 a2 a3 : Value} (h : IsBad W ve c) (hk : W.heap[k]? = some (.cells #[a0, a1, a2, a3] 37 (0, 0))) (x0 x1 x2 x3 : Value) : IsBad ((((W.setCell ⟨k, 0, none⟩ x0).setCell ⟨k, 1, none⟩ x1).setCell ⟨k, 2, none⟩ x2).setCell ⟨k, 3, none⟩ x3) ve c := by
 obtain ⟨q, e, hq⟩ := h
 exact ⟨q, e, blk_off4 hq (blk_ne hq hk (by decide)) x0 x1 x2 x3⟩
theorem wr_off4 {W : World} {k : Nat} {c : Int} {ve : Value} {a0 a1 a2 a3 : Value} (h : IsWr W ve c) (hk : W.heap[k]? = some (.cells #[a0, a1, a2, a3] 37 (0, 0))) (x0 x1 x2 x3 : Value) : IsWr ((((W.setCell ⟨k, 0, none⟩ x0).setCell ⟨k, 1, none⟩ x1).setCell ⟨k, 2, none⟩ x2).setCell ⟨k, 3, none⟩ x3) ve c := by
 obtain ⟨q, s, v', e, hq, hb⟩ := h
 exact ⟨q, s, v', e, blk_off4 hq (blk_ne hq hk (by decide)) x0 x1 x2 x3, bad_off4 hb hk x0 x1 x2 x3⟩
structure T8 (w0 w : World) (g : Nat) (v0 u0 v u : Value) (b : List Int) (tn : Bool) (gu : Nat) (f : List Int) (W : World) : Prop where
 gs : Gs w0 W g v u b true tn false gu f
 res : W.heap[w.heap.size + 1]? = some (.cells #[.int .u8 0, .bool false, .slice none 0 0, .int .u32 0] 37 (0, 0))
 fr : Fr w W g v0 u0
theorem T8.below {w0 w W W' : World} {g gu : Nat} {v0 u0 v u : Value} {b f : List Int} {tn : Bool} (h : T8 w0 w g v0 u0 v u b tn gu f W) (hb : Below W.heap.size W W') : T8 w0 w g v0 u0 v u b tn gu f W' := ⟨h.gs.below hb, blk_below h.res hb, h.fr.below hb⟩
theorem t8S {w0 w W : World} {g gu : Nat} {v0 u0 v u : Value} {b f : List Int} {tn : Bool} (h : T8 w0 w g v0 u0 v u b tn gu f W) : Aside0 (T8 w0 w g v0 u0 v u b tn gu f W) ∧ W.cell? ⟨g, 2, none⟩ = some (.bool tn) ∧ W.cell? ⟨g, 0, none⟩ = some v := ⟨⟨h⟩, (blk_cell h.gs.gw.blk 2).trans rfl, (blk_cell h.gs.gw.blk 0).trans rfl⟩
def TkMore (w0 : World) (g : Nat) (v u : Value) (b : List Int) (tn : Bool) (w : World) (e : Ending) (w' : World) : Prop := e = .returned (.tuple #[.agg #[.int .u8 0, .bool false, .slice none 0 0, .int .u32 0], .bool false, .nilIface]) ∧ ∃ v' u' gu', Gs w0 w' g v' u' b true tn false gu' (if tn = true then b else []) ∧ Fr w w' g v u ∧ Nw w v v' u u'
def TkTold (w0 : World) (g : Nat) (v u : Value) (b : List Int) (tn : Bool) (w : World) (e : Ending) (w' : World) : Prop := ∃ vn u', e = .returned (.tuple #[.agg #[.int .u8 1, .bool tn, vn, .int .u32 0], .bool true, .nilIface]) ∧ Gw w0 w' g (.slice none 0 0) u' [] false tn false ∧ Kd.R (Kd.int .u8) 5 w' w0.heap.size (fun _ => True) vn b ∧ Fr w w' g v u ∧ Nw w v vn u u'
def TkBad (w0 : World) (g : Nat) (v u : Value) (code : Int) (w : World) (e : Ending) (w' : World) : Prop := ∃ ok ve v' u' b' bu te ov, e = .returned (.tuple #[.agg #[.int .u8 0, .bool false, .slice none 0 0, .int .u32 0], .bool ok, ve]) ∧ (IsWr w' ve code ∨ IsBad w' ve code) ∧ Gw w0 w' g v' u' b' bu te ov ∧ Fr w w' g v u
theorem take_more_0 {w0 w : World} {g : Nat} {v u : Value} {b : List Int} {busy text : Bool} {gu : Nat} {f : List Int} {fin : Bool} {mk : Bool} {key : Int} {A : Option Addr} {c : Nat} {d : List Int} (h : Gs w0 w g v u b busy text false gu f) (hff : (busy = true → f = if text = true then b else []) ∧ (busy = false → b = [])) (hd : Dat w (.slice A d.length c) d) (hdn : ∀ k, (Value.slice A d.length c).ownBlock = some k → v.ownBlock ≠ some k) (hbl : b.length ≤ 4096) (hdl : d.length ≤ 1000000000) (hc : partC busy text fin 0 b d = 0) (hfin : fin = false) : Calls Tryz.prog 76 #[.pointer (some ⟨g, 0, none⟩), .agg #[.bool fin, .int .u8 0, .bool mk, .int .u32 key, .slice A d.length c]] w (TkMore w0 g v u (b ++ d) (textN busy text 0) w) := by
 have HU0 := a_ h.gw.ulow
 have HLO := a_ h.gw.bel.size
 have hgl := blk_lt h.gw.blk
 have HCD := a_ hc
 have HFI := a_ hfin
 clear hfin
 clear hc
 obtain ⟨Av, cv, rfl⟩ := Kd.R_slice h.gw.row
 have HFF := a_ hff
 have HDN := a_ hdn
 have HLN := a_ (And.intro hbl hdl)
 have hw1 : Below w.heap.size w ((w.alloc (.cells #[.bool fin, .int .u8 0, .bool mk, .int .u32 key, .slice A d.length c] 81)).alloc (.cells #[.int .u8 0, .bool false, .slice none 0 0, .int .u32 0] 37)) := below_alloc (below_alloc (Below.refl _ _) _) _
 have hg1 := h.below hw1
 have hd1 := hd.below hw1
 have hr1 : ((w.alloc (.cells #[.bool fin, .int .u8 0, .bool mk, .int .u32 key, .slice A d.length c] 81)).alloc (.cells #[.int .u8 0, .bool false, .slice none 0 0, .int .u32 0] 37)).heap[w.heap.size + 1]? = some (.cells #[.int .u8 0, .bool false, .slice none 0 0, .int .u32 0] 37 (0, 0)) := last_at _ _ _ (by simp)
 have hp1 : ((w.alloc (.cells #[.bool fin, .int .u8 0, .bool mk, .int .u32 key, .slice A d.length c] 81)).alloc (.cells #[.int .u8 0, .bool false, .slice none 0 0, .int .u32 0] 37)).heap[w.heap.size]? = some (.cells #[.bool fin, .int .u8 0, .bool mk, .int .u32 key, .slice A d.length c] 81 (0, 0)) := blk_alloc (last_at _ _ _ rfl) _
 have hf1 := (Fr.refl w g (.slice Av b.length cv) u).below hw1
 have hu30 := Tryz.underlying37
 have hu26 := Tryz.underlying81
 clear h hd hff hdn hbl hdl hw1
 go_enter Tryz.func76, Tryz.ntmps76
 go_upto_region 1 with fail
 generalize (w.alloc (.cells #[.bool fin, .int .u8 0, .bool mk, .int .u32 key, .slice A d.length c] 81)).alloc (.cells #[.int .u8 0, .bool false, .slice none 0 0, .int .u32 0] 37) = w1 at hg1 hd1 hr1 hp1 hf1 ⊢
 have HG1 := a_ hg1
 have HD1 := a_ hd1
 have HR1 := a_ hr1
 have HF1 := a_ hf1
 obtain ⟨pc0, pc1, pc2, pc3, pc4⟩ := xl5_ hp1
 have pl_ := blk_lt hp1
 clear hg1 hd1 hr1 hp1 hf1
 go_wp2_with fail
 refine (part_any HG1.out HFF.out HD1.out HDN.out HLN.out.1 HLN.out.2).mono ?_
 rintro e w2 hp
 rcases hp with ⟨_, rfl, v', u', gu', hG, hF, hN, hU⟩ | ⟨hz, _⟩
 rotate_left
 ·exact absurd HCD.out hz
 have hfin := HFI.out
 subst hfin
 have hu1 : ∀ k, u = .pointer (some ⟨k, 0, none⟩) → k < w.heap.size := HU0.out
 have hr2 : w2.heap[w.heap.size + 1]? = some (.cells #[.int .u8 0, .bool false, .slice none 0 0, .int .u32 0] 37 (0, 0)) := (hF.same _ (blk_lt HR1.out) (fun e => by have := hgl; omega) (fun e => by have := Kd.R_ne HG1.out.gw.row HR1.out (by decide); exact this e) (fun e => by have := hu1 _ e; omega)).trans HR1.out
 have hF2 : Fr w w2 g (.slice Av b.length cv) u := ⟨Nat.le_trans HF1.out.size hF.size, fun k hk h1 h2 h3 => (hF.same k (Nat.lt_of_lt_of_le hk HF1.out.size) h1 h2 h3).trans (HF1.out.same k hk h1 h2 h3)⟩
 have hN := (Nw.mk hN hU).mono HF1.out.size
 obtain ⟨Av', cv', rfl⟩ := Kd.R_slice hG.gw.row
 have HG2 := a_ hG
 have HR2 := a_ hr2
 have HF2 := a_ hF2
 have HN2 := a_ hN
 clear hG hr2 hF2 hF hN hU HG1 HD1 HR1 HF1 pc0 pc1 pc2 pc3 pc4 pl_
 go_wp2_with fail
 refine (wrap_nil _ _).mono ?_
 rintro e w3 ⟨rfl, rfl⟩
 obtain ⟨rc0, rf0, rc1, rf1, rc2, rf2, rc3, rf3⟩ := xf4_ HR2.out
 have rl := blk_lt HR2.out
 have hle : w0.heap.size ≤ w.heap.size + 1 := Nat.le_succ_of_le HLO.out
 go_wp2_with fail
 exact bodyPost_ret (v := .tuple #[.agg #[.int .u8 0, .bool false, .slice none 0 0, .int .u32 0], .bool false, .nilIface]) (by simp [results, Tryz.results76, go_sem, rc0, rc1, rc2, rc3]) rfl ⟨rfl, _, _, _, HG2.out.off4 HR2.out hle _ _ _ _, HF2.out.off4 (Nat.le_succ _) _ _ _ _, HN2.out⟩
theorem take_more_1 {w0 w : World} {g : Nat} {v u : Value} {b : List Int} {busy text : Bool} {gu : Nat} {f : List Int} {fin : Bool} {mk : Bool} {key : Int} {A : Option Addr} {c : Nat} {d : List Int} (h : Gs w0 w g v u b busy text false gu f) (hff : (busy = true → f = if text = true then b else []) ∧ (busy = false → b = [])) (hd : Dat w (.slice A d.length c) d) (hdn : ∀ k, (Value.slice A d.length c).ownBlock = some k → v.ownBlock ≠ some k) (hbl : b.length ≤ 4096) (hdl : d.length ≤ 1000000000) (hc : partC busy text fin 1 b d = 0) (hfin : fin = false) : Calls Tryz.prog 76 #[.pointer (some ⟨g, 0, none⟩), .agg #[.bool fin, .int .u8 1, .bool mk, .int .u32 key, .slice A d.length c]] w (TkMore w0 g v u (b ++ d) (textN busy text 1) w) := by
 have HU0 := a_ h.gw.ulow
 have HLO := a_ h.gw.bel.size
 have hgl := blk_lt h.gw.blk
 have HCD := a_ hc
 have HFI := a_ hfin
 clear hfin
 clear hc
 obtain ⟨Av, cv, rfl⟩ := Kd.R_slice h.gw.row
 have HFF := a_ hff
 have HDN := a_ hdn
 have HLN := a_ (And.intro hbl hdl)
 have hw1 : Below w.heap.size w ((w.alloc (.cells #[.bool fin, .int .u8 1, .bool mk, .int .u32 key, .slice A d.length c] 81)).alloc (.cells #[.int .u8 0, .bool false, .slice none 0 0, .int .u32 0] 37)) := below_alloc (below_alloc (Below.refl _ _) _) _
 have hg1 := h.below hw1
 have hd1 := hd.below hw1
 have hr1 : ((w.alloc (.cells #[.bool fin, .int .u8 1, .bool mk, .int .u32 key, .slice A d.length c] 81)).alloc (.cells #[.int .u8 0, .bool false, .slice none 0 0, .int .u32 0] 37)).heap[w.heap.size + 1]? = some (.cells #[.int .u8 0, .bool false, .slice none 0 0, .int .u32 0] 37 (0, 0)) := last_at _ _ _ (by simp)
 have hp1 : ((w.alloc (.cells #[.bool fin, .int .u8 1, .bool mk, .int .u32 key, .slice A d.length c] 81)).alloc (.cells #[.int .u8 0, .bool false, .slice none 0 0, .int .u32 0] 37)).heap[w.heap.size]? = some (.cells #[.bool fin, .int .u8 1, .bool mk, .int .u32 key, .slice A d.length c] 81 (0, 0)) := blk_alloc (last_at _ _ _ rfl) _
 have hf1 := (Fr.refl w g (.slice Av b.length cv) u).below hw1
 have hu30 := Tryz.underlying37
 have hu26 := Tryz.underlying81
 clear h hd hff hdn hbl hdl hw1
 go_enter Tryz.func76, Tryz.ntmps76
 go_upto_region 1 with fail
 generalize (w.alloc (.cells #[.bool fin, .int .u8 1, .bool mk, .int .u32 key, .slice A d.length c] 81)).alloc (.cells #[.int .u8 0, .bool false, .slice none 0 0, .int .u32 0] 37) = w1 at hg1 hd1 hr1 hp1 hf1 ⊢
 have HG1 := a_ hg1
 have HD1 := a_ hd1
 have HR1 := a_ hr1
 have HF1 := a_ hf1
 obtain ⟨pc0, pc1, pc2, pc3, pc4⟩ := xl5_ hp1
 have pl_ := blk_lt hp1
 clear hg1 hd1 hr1 hp1 hf1
 go_wp2_with fail
 refine (part_any HG1.out HFF.out HD1.out HDN.out HLN.out.1 HLN.out.2).mono ?_
 rintro e w2 hp
 rcases hp with ⟨_, rfl, v', u', gu', hG, hF, hN, hU⟩ | ⟨hz, _⟩
 rotate_left
 ·exact absurd HCD.out hz
 have hfin := HFI.out
 subst hfin
 have hu1 : ∀ k, u = .pointer (some ⟨k, 0, none⟩) → k < w.heap.size := HU0.out
 have hr2 : w2.heap[w.heap.size + 1]? = some (.cells #[.int .u8 0, .bool false, .slice none 0 0, .int .u32 0] 37 (0, 0)) := (hF.same _ (blk_lt HR1.out) (fun e => by have := hgl; omega) (fun e => by have := Kd.R_ne HG1.out.gw.row HR1.out (by decide); exact this e) (fun e => by have := hu1 _ e; omega)).trans HR1.out
 have hF2 : Fr w w2 g (.slice Av b.length cv) u := ⟨Nat.le_trans HF1.out.size hF.size, fun k hk h1 h2 h3 => (hF.same k (Nat.lt_of_lt_of_le hk HF1.out.size) h1 h2 h3).trans (HF1.out.same k hk h1 h2 h3)⟩
 have hN := (Nw.mk hN hU).mono HF1.out.size
 obtain ⟨Av', cv', rfl⟩ := Kd.R_slice hG.gw.row
 have HG2 := a_ hG
 have HR2 := a_ hr2
 have HF2 := a_ hF2
 have HN2 := a_ hN
 clear hG hr2 hF2 hF hN hU HG1 HD1 HR1 HF1 pc0 pc1 pc2 pc3 pc4 pl_
 go_wp2_with fail
 refine (wrap_nil _ _).mono ?_
 rintro e w3 ⟨rfl, rfl⟩
 obtain ⟨rc0, rf0, rc1, rf1, rc2, rf2, rc3, rf3⟩ := xf4_ HR2.out
 have rl := blk_lt HR2.out
 have hle : w0.heap.size ≤ w.heap.size + 1 := Nat.le_succ_of_le HLO.out
 go_wp2_with fail
 exact bodyPost_ret (v := .tuple #[.agg #[.int .u8 0, .bool false, .slice none 0 0, .int .u32 0], .bool false, .nilIface]) (by simp [results, Tryz.results76, go_sem, rc0, rc1, rc2, rc3]) rfl ⟨rfl, _, _, _, HG2.out.off4 HR2.out hle _ _ _ _, HF2.out.off4 (Nat.le_succ _) _ _ _ _, HN2.out⟩
theorem take_more_2 {w0 w : World} {g : Nat} {v u : Value} {b : List Int} {busy text : Bool} {gu : Nat} {f : List Int} {fin : Bool} {mk : Bool} {key : Int} {A : Option Addr} {c : Nat} {d : List Int} (h : Gs w0 w g v u b busy text false gu f) (hff : (busy = true → f = if text = true then b else []) ∧ (busy = false → b = [])) (hd : Dat w (.slice A d.length c) d) (hdn : ∀ k, (Value.slice A d.length c).ownBlock = some k → v.ownBlock ≠ some k) (hbl : b.length ≤ 4096) (hdl : d.length ≤ 1000000000) (hc : partC busy text fin 2 b d = 0) (hfin : fin = false) : Calls Tryz.prog 76 #[.pointer (some ⟨g, 0, none⟩), .agg #[.bool fin, .int .u8 2, .bool mk, .int .u32 key, .slice A d.length c]] w (TkMore w0 g v u (b ++ d) (textN busy text 2) w) := by
 have HU0 := a_ h.gw.ulow
 have HLO := a_ h.gw.bel.size
 have hgl := blk_lt h.gw.blk
 have HCD := a_ hc
 have HFI := a_ hfin
 clear hfin
 clear hc
 obtain ⟨Av, cv, rfl⟩ := Kd.R_slice h.gw.row
 have HFF := a_ hff
 have HDN := a_ hdn
 have HLN := a_ (And.intro hbl hdl)
 have hw1 : Below w.heap.size w ((w.alloc (.cells #[.bool fin, .int .u8 2, .bool mk, .int .u32 key, .slice A d.length c] 81)).alloc (.cells #[.int .u8 0, .bool false, .slice none 0 0, .int .u32 0] 37)) := below_alloc (below_alloc (Below.refl _ _) _) _
 have hg1 := h.below hw1
 have hd1 := hd.below hw1
 have hr1 : ((w.alloc (.cells #[.bool fin, .int .u8 2, .bool mk, .int .u32 key, .slice A d.length c] 81)).alloc (.cells #[.int .u8 0, .bool false, .slice none 0 0, .int .u32 0] 37)).heap[w.heap.size + 1]? = some (.cells #[.int .u8 0, .bool false, .slice none 0 0, .int .u32 0] 37 (0, 0)) := last_at _ _ _ (by simp)
 have hp1 : ((w.alloc (.cells #[.bool fin, .int .u8 2, .bool mk, .int .u32 key, .slice A d.length c] 81)).alloc (.cells #[.int .u8 0, .bool false, .slice none 0 0, .int .u32 0] 37)).heap[w.heap.size]? = some (.cells #[.bool fin, .int .u8 2, .bool mk, .int .u32 key, .slice A d.length c] 81 (0, 0)) := blk_alloc (last_at _ _ _ rfl) _
 have hf1 := (Fr.refl w g (.slice Av b.length cv) u).below hw1
 have hu30 := Tryz.underlying37
 have hu26 := Tryz.underlying81
 clear h hd hff hdn hbl hdl hw1
 go_enter Tryz.func76, Tryz.ntmps76
 go_upto_region 1 with fail
 generalize (w.alloc (.cells #[.bool fin, .int .u8 2, .bool mk, .int .u32 key, .slice A d.length c] 81)).alloc (.cells #[.int .u8 0, .bool false, .slice none 0 0, .int .u32 0] 37) = w1 at hg1 hd1 hr1 hp1 hf1 ⊢
 have HG1 := a_ hg1
 have HD1 := a_ hd1
 have HR1 := a_ hr1
 have HF1 := a_ hf1
 obtain ⟨pc0, pc1, pc2, pc3, pc4⟩ := xl5_ hp1
 have pl_ := blk_lt hp1
 clear hg1 hd1 hr1 hp1 hf1
 go_wp2_with fail
 refine (part_any HG1.out HFF.out HD1.out HDN.out HLN.out.1 HLN.out.2).mono ?_
 rintro e w2 hp
 rcases hp with ⟨_, rfl, v', u', gu', hG, hF, hN, hU⟩ | ⟨hz, _⟩
 rotate_left
 ·exact absurd HCD.out hz
 have hfin := HFI.out
 subst hfin
 have hu1 : ∀ k, u = .pointer (some ⟨k, 0, none⟩) → k < w.heap.size := HU0.out
 have hr2 : w2.heap[w.heap.size + 1]? = some (.cells #[.int .u8 0, .bool false, .slice none 0 0, .int .u32 0] 37 (0, 0)) := (hF.same _ (blk_lt HR1.out) (fun e => by have := hgl; omega) (fun e => by have := Kd.R_ne HG1.out.gw.row HR1.out (by decide); exact this e) (fun e => by have := hu1 _ e; omega)).trans HR1.out
 have hF2 : Fr w w2 g (.slice Av b.length cv) u := ⟨Nat.le_trans HF1.out.size hF.size, fun k hk h1 h2 h3 => (hF.same k (Nat.lt_of_lt_of_le hk HF1.out.size) h1 h2 h3).trans (HF1.out.same k hk h1 h2 h3)⟩
 have hN := (Nw.mk hN hU).mono HF1.out.size
 obtain ⟨Av', cv', rfl⟩ := Kd.R_slice hG.gw.row
 have HG2 := a_ hG
 have HR2 := a_ hr2
 have HF2 := a_ hF2
 have HN2 := a_ hN
 clear hG hr2 hF2 hF hN hU HG1 HD1 HR1 HF1 pc0 pc1 pc2 pc3 pc4 pl_
 go_wp2_with fail
 refine (wrap_nil _ _).mono ?_
 rintro e w3 ⟨rfl, rfl⟩
 obtain ⟨rc0, rf0, rc1, rf1, rc2, rf2, rc3, rf3⟩ := xf4_ HR2.out
 have rl := blk_lt HR2.out
 have hle : w0.heap.size ≤ w.heap.size + 1 := Nat.le_succ_of_le HLO.out
 go_wp2_with fail
 exact bodyPost_ret (v := .tuple #[.agg #[.int .u8 0, .bool false, .slice none 0 0, .int .u32 0], .bool false, .nilIface]) (by simp [results, Tryz.results76, go_sem, rc0, rc1, rc2, rc3]) rfl ⟨rfl, _, _, _, HG2.out.off4 HR2.out hle _ _ _ _, HF2.out.off4 (Nat.le_succ _) _ _ _ _, HN2.out⟩
theorem take_told_0 {w0 w : World} {g : Nat} {v u : Value} {b : List Int} {busy text : Bool} {gu : Nat} {f : List Int} {fin : Bool} {mk : Bool} {key : Int} {A : Option Addr} {c : Nat} {d : List Int} (h : Gs w0 w g v u b busy text false gu f) (hff : (busy = true → f = if text = true then b else []) ∧ (busy = false → b = [])) (hd : Dat w (.slice A d.length c) d) (hdn : ∀ k, (Value.slice A d.length c).ownBlock = some k → v.ownBlock ≠ some k) (hbl : b.length ≤ 4096) (hdl : d.length ≤ 1000000000) (hc : partC busy text fin 0 b d = 0) (hfin : fin = true) : Calls Tryz.prog 76 #[.pointer (some ⟨g, 0, none⟩), .agg #[.bool fin, .int .u8 0, .bool mk, .int .u32 key, .slice A d.length c]] w (TkTold w0 g v u (b ++ d) (textN busy text 0) w) := by
 have HU0 := a_ h.gw.ulow
 have HLO := a_ h.gw.bel.size
 have hgl := blk_lt h.gw.blk
 have HCD := a_ hc
 have HFI := a_ hfin
 clear hfin
 clear hc
 obtain ⟨Av, cv, rfl⟩ := Kd.R_slice h.gw.row
 have HFF := a_ hff
 have HDN := a_ hdn
 have HLN := a_ (And.intro hbl hdl)
 have hw1 : Below w.heap.size w ((w.alloc (.cells #[.bool fin, .int .u8 0, .bool mk, .int .u32 key, .slice A d.length c] 81)).alloc (.cells #[.int .u8 0, .bool false, .slice none 0 0, .int .u32 0] 37)) := below_alloc (below_alloc (Below.refl _ _) _) _
 have hg1 := h.below hw1
 have hd1 := hd.below hw1
 have hr1 : ((w.alloc (.cells #[.bool fin, .int .u8 0, .bool mk, .int .u32 key, .slice A d.length c] 81)).alloc (.cells #[.int .u8 0, .bool false, .slice none 0 0, .int .u32 0] 37)).heap[w.heap.size + 1]? = some (.cells #[.int .u8 0, .bool false, .slice none 0 0, .int .u32 0] 37 (0, 0)) := last_at _ _ _ (by simp)
 have hp1 : ((w.alloc (.cells #[.bool fin, .int .u8 0, .bool mk, .int .u32 key, .slice A d.length c] 81)).alloc (.cells #[.int .u8 0, .bool false, .slice none 0 0, .int .u32 0] 37)).heap[w.heap.size]? = some (.cells #[.bool fin, .int .u8 0, .bool mk, .int .u32 key, .slice A d.length c] 81 (0, 0)) := blk_alloc (last_at _ _ _ rfl) _
 have hf1 := (Fr.refl w g (.slice Av b.length cv) u).below hw1
 have hu30 := Tryz.underlying37
 have hu26 := Tryz.underlying81
 clear h hd hff hdn hbl hdl hw1
 go_enter Tryz.func76, Tryz.ntmps76
 go_upto_region 1 with fail
 generalize (w.alloc (.cells #[.bool fin, .int .u8 0, .bool mk, .int .u32 key, .slice A d.length c] 81)).alloc (.cells #[.int .u8 0, .bool false, .slice none 0 0, .int .u32 0] 37) = w1 at hg1 hd1 hr1 hp1 hf1 ⊢
 have HG1 := a_ hg1
 have HD1 := a_ hd1
 have HR1 := a_ hr1
 have HF1 := a_ hf1
 obtain ⟨pc0, pc1, pc2, pc3, pc4⟩ := xl5_ hp1
 have pl_ := blk_lt hp1
 clear hg1 hd1 hr1 hp1 hf1
 go_wp2_with fail
 refine (part_any HG1.out HFF.out HD1.out HDN.out HLN.out.1 HLN.out.2).mono ?_
 rintro e w2 hp
 rcases hp with ⟨_, rfl, v', u', gu', hG, hF, hN, hU⟩ | ⟨hz, _⟩
 rotate_left
 ·exact absurd HCD.out hz
 have hfin := HFI.out
 subst hfin
 have hu1 : ∀ k, u = .pointer (some ⟨k, 0, none⟩) → k < w.heap.size := HU0.out
 have hr2 : w2.heap[w.heap.size + 1]? = some (.cells #[.int .u8 0, .bool false, .slice none 0 0, .int .u32 0] 37 (0, 0)) := (hF.same _ (blk_lt HR1.out) (fun e => by have := hgl; omega) (fun e => by have := Kd.R_ne HG1.out.gw.row HR1.out (by decide); exact this e) (fun e => by have := hu1 _ e; omega)).trans HR1.out
 have hF2 : Fr w w2 g (.slice Av b.length cv) u := ⟨Nat.le_trans HF1.out.size hF.size, fun k hk h1 h2 h3 => (hF.same k (Nat.lt_of_lt_of_le hk HF1.out.size) h1 h2 h3).trans (HF1.out.same k hk h1 h2 h3)⟩
 have hN := (Nw.mk hN hU).mono HF1.out.size
 obtain ⟨Av', cv', rfl⟩ := Kd.R_slice hG.gw.row
 have HG2 := a_ hG
 have HR2 := a_ hr2
 have HF2 := a_ hF2
 have HN2 := a_ hN
 clear hG hr2 hF2 hF hN hU HG1 HD1 HR1 HF1 pc0 pc1 pc2 pc3 pc4 pl_
 obtain ⟨tn, htn⟩ : ∃ tn, tn = textN busy text 0 := ⟨_, rfl⟩
 rw [← htn] at HG2 ⊢
 have HTN := a_ htn
 clear htn
 obtain ⟨mm, hmm⟩ : ∃ mm, mm = (b ++ d).length := ⟨_, rfl⟩
 rw [← hmm] at HG2 HN2
 have HMM := a_ hmm
 clear hmm
 have hlo2 : w0.heap.size ≤ w.heap.size := HLO.out
 have HT2 : Aside0 (T8 w0 w g (.slice Av b.length cv) u (.slice Av' mm cv') u' (b ++ d) tn gu' (if tn = true then b ++ d else []) w2) := ⟨⟨HG2.out, HR2.out, HF2.out⟩⟩
 clear HG2 HR2 HF2
 go_upto_region 8 with fail
 refine wp_region_noPanic ?_
 refine wp_region_held_drew (S := fun w' => Aside0 (T8 w0 w g (.slice Av b.length cv) u (.slice Av' mm cv') u' (b ++ d) tn gu' (if tn = true then b ++ d else []) w') ∧ w'.cell? ⟨g, 2, none⟩ = some (.bool tn) ∧ w'.cell? ⟨g, 0, none⟩ = some (.slice Av' mm cv')) (by kernel_rfl) (t8S (HT2.out.below (below_drew (Below.refl _ _)))) (fun hHeld => ?_)
 refine takeP 0 33 ?_
 refine takeP 1 34 ?_
 refine takeP 2 35 ?_
 refine takeP 3 36 ?_
 refine takeP 4 37 ?_
 refine takeP 5 38 ?_
 refine takeP 6 39 ?_
 refine takeP 7 40 ?_
 refine takeP 8 41 ?_
 refine rd1_ 9 fun K hK => ?_
 go_simp
 refine hK.out _ _ (t8S ((HT2.out.below (below_drew (Below.refl _ _))).below (below_alloc (Below.refl _ _) _))) (fun hHeld => ?_)
 clear hK K
 try simp only [Act.put, z1_, z2_, z3_]
 refine rd1_ 10 fun K hK => ?_
 go_simp
 refine hK.out _ _ (t8S ((HT2.out.below (below_alloc (Below.refl _ _) (.cells #[.int .u8 1, .bool tn, .slice Av' mm cv', .int .u32 0] 37))).below (below_drew (Below.refl _ _)))) (fun hHeld => ?_)
 clear hK K
 try simp only [Act.put, z1_, z2_, z3_]
 refine wpAnyH_done (by kernel_rfl) ?_ _
 refine NoPanic.normal ?_
 have hT4 := (HT2.out.below (below_alloc (Below.refl _ _) (.cells #[.int .u8 1, .bool tn, .slice Av' mm cv', .int .u32 0] 37))).below (below_drew (Below.refl _ _))
 have hb4 : ((w2.alloc (.cells #[.int .u8 1, .bool tn, .slice Av' mm cv', .int .u32 0] 37)).drew).heap[w2.heap.size]? = some (.cells #[.int .u8 1, .bool tn, .slice Av' mm cv', .int .u32 0] 37 (0, 0)) := blk_drew (last_at _ _ _ rfl)
 have hgb : w.heap.size + 1 < w2.heap.size := blk_lt HT2.out.res
 clear hHeld
 generalize (w2.alloc (.cells #[.int .u8 1, .bool tn, .slice Av' mm cv', .int .u32 0] 37)).drew = w4 at hT4 hb4 ⊢
 generalize w2.heap.size = gb at hb4 hgb ⊢
 clear HT2
 have HT4 := a_ hT4
 have HB4 := a_ hb4
 clear hT4 hb4
 obtain ⟨gc0, gf0, gc1, gf1⟩ := xf2_ HT4.out.gs.gw.blk
 have gl := blk_lt HT4.out.gs.gw.blk
 go_upto_region 10 with fail
 have hgb2 : gb ≠ g := blk_ne HB4.out HT4.out.gs.gw.blk (by decide)
 have hgr2 : w.heap.size + 1 ≠ g := blk_ne HT4.out.res HT4.out.gs.gw.blk (by decide)
 have hG5 : Gw w0 ((w4.setCell ⟨g, 0, none⟩ (.slice none 0 0)).setCell ⟨g, 1, none⟩ (.bool false)) g (.slice none 0 0) u' [] false tn false := (HT4.out.gs.gw.setNil).setBusy false
 have hR5 : Kd.R (Kd.int .u8) 5 ((w4.setCell ⟨g, 0, none⟩ (.slice none 0 0)).setCell ⟨g, 1, none⟩ (.bool false)) w0.heap.size (fun _ => True) (.slice Av' mm cv') (b ++ d) := Kd.R_mono (Kd.R_far (Kd.R_far (Kd.R_types HT4.out.gs.gw.row HT4.out.gs.gw.blk (fun q hq => g_ne hq)) (p := ⟨g, 0, none⟩) (fun k hk => hk.2) _) (p := ⟨g, 1, none⟩) (fun k hk => hk.2) _) (fun _ _ => trivial)
 have hF5 : Fr w ((w4.setCell ⟨g, 0, none⟩ (.slice none 0 0)).setCell ⟨g, 1, none⟩ (.bool false)) g (.slice Av b.length cv) u := (HT4.out.fr.set 0 _).set 1 _
 have hb5 : ((w4.setCell ⟨g, 0, none⟩ (.slice none 0 0)).setCell ⟨g, 1, none⟩ (.bool false)).heap[gb]? = some (.cells #[.int .u8 1, .bool tn, .slice Av' mm cv', .int .u32 0] 37 (0, 0)) := (Below.heap_setCell _ _ _ _ hgb2).trans ((Below.heap_setCell _ _ _ _ hgb2).trans HB4.out)
 have hr5 : ((w4.setCell ⟨g, 0, none⟩ (.slice none 0 0)).setCell ⟨g, 1, none⟩ (.bool false)).heap[w.heap.size + 1]? = some (.cells #[.int .u8 0, .bool false, .slice none 0 0, .int .u32 0] 37 (0, 0)) := (Below.heap_setCell _ _ _ _ hgr2).trans ((Below.heap_setCell _ _ _ _ hgr2).trans HT4.out.res)
 generalize ((w4.setCell ⟨g, 0, none⟩ (.slice none 0 0)).setCell ⟨g, 1, none⟩ (.bool false)) = w5 at hG5 hR5 hF5 hb5 hr5 ⊢
 clear gc0 gc1 gf0 gf1 gl HT4 HB4
 have HG5 := a_ hG5
 have HRW5 := a_ hR5
 have HF5 := a_ hF5
 have HR5 := a_ hr5
 obtain ⟨zc0, zc1, zc2, zc3⟩ := xl4_ hb5
 have zl := blk_lt hb5
 obtain ⟨rc0, rf0, rc1, rf1, rc2, rf2, rc3, rf3⟩ := xf4_ hr5
 have rl := blk_lt hr5
 clear hG5 hR5 hF5 hb5 hr5
 have hle : w0.heap.size ≤ w.heap.size + 1 := by omega
 go_wp2_with fail
 rw [← HTN.out]
 exact bodyPost_ret (v := .tuple #[.agg #[.int .u8 1, .bool tn, .slice Av' mm cv', .int .u32 0], .bool true, .nilIface]) (by simp [results, Tryz.results76, go_sem, rc0, rc1, rc2, rc3]) rfl ⟨_, _, rfl, HG5.out.off4 HR5.out hle _ _ _ _, row_off4 HRW5.out HR5.out _ _ _ _, HF5.out.off4 (Nat.le_succ _) _ _ _ _, HN2.out⟩
theorem take_told_1 {w0 w : World} {g : Nat} {v u : Value} {b : List Int} {busy text : Bool} {gu : Nat} {f : List Int} {fin : Bool} {mk : Bool} {key : Int} {A : Option Addr} {c : Nat} {d : List Int} (h : Gs w0 w g v u b busy text false gu f) (hff : (busy = true → f = if text = true then b else []) ∧ (busy = false → b = [])) (hd : Dat w (.slice A d.length c) d) (hdn : ∀ k, (Value.slice A d.length c).ownBlock = some k → v.ownBlock ≠ some k) (hbl : b.length ≤ 4096) (hdl : d.length ≤ 1000000000) (hc : partC busy text fin 1 b d = 0) (hfin : fin = true) : Calls Tryz.prog 76 #[.pointer (some ⟨g, 0, none⟩), .agg #[.bool fin, .int .u8 1, .bool mk, .int .u32 key, .slice A d.length c]] w (TkTold w0 g v u (b ++ d) (textN busy text 1) w) := by
 have HU0 := a_ h.gw.ulow
 have HLO := a_ h.gw.bel.size
 have hgl := blk_lt h.gw.blk
 have HCD := a_ hc
 have HFI := a_ hfin
 clear hfin
 clear hc
 obtain ⟨Av, cv, rfl⟩ := Kd.R_slice h.gw.row
 have HFF := a_ hff
 have HDN := a_ hdn
 have HLN := a_ (And.intro hbl hdl)
 have hw1 : Below w.heap.size w ((w.alloc (.cells #[.bool fin, .int .u8 1, .bool mk, .int .u32 key, .slice A d.length c] 81)).alloc (.cells #[.int .u8 0, .bool false, .slice none 0 0, .int .u32 0] 37)) := below_alloc (below_alloc (Below.refl _ _) _) _
 have hg1 := h.below hw1
 have hd1 := hd.below hw1
 have hr1 : ((w.alloc (.cells #[.bool fin, .int .u8 1, .bool mk, .int .u32 key, .slice A d.length c] 81)).alloc (.cells #[.int .u8 0, .bool false, .slice none 0 0, .int .u32 0] 37)).heap[w.heap.size + 1]? = some (.cells #[.int .u8 0, .bool false, .slice none 0 0, .int .u32 0] 37 (0, 0)) := last_at _ _ _ (by simp)
 have hp1 : ((w.alloc (.cells #[.bool fin, .int .u8 1, .bool mk, .int .u32 key, .slice A d.length c] 81)).alloc (.cells #[.int .u8 0, .bool false, .slice none 0 0, .int .u32 0] 37)).heap[w.heap.size]? = some (.cells #[.bool fin, .int .u8 1, .bool mk, .int .u32 key, .slice A d.length c] 81 (0, 0)) := blk_alloc (last_at _ _ _ rfl) _
 have hf1 := (Fr.refl w g (.slice Av b.length cv) u).below hw1
 have hu30 := Tryz.underlying37
 have hu26 := Tryz.underlying81
 clear h hd hff hdn hbl hdl hw1
 go_enter Tryz.func76, Tryz.ntmps76
 go_upto_region 1 with fail
 generalize (w.alloc (.cells #[.bool fin, .int .u8 1, .bool mk, .int .u32 key, .slice A d.length c] 81)).alloc (.cells #[.int .u8 0, .bool false, .slice none 0 0, .int .u32 0] 37) = w1 at hg1 hd1 hr1 hp1 hf1 ⊢
 have HG1 := a_ hg1
 have HD1 := a_ hd1
 have HR1 := a_ hr1
 have HF1 := a_ hf1
 obtain ⟨pc0, pc1, pc2, pc3, pc4⟩ := xl5_ hp1
 have pl_ := blk_lt hp1
 clear hg1 hd1 hr1 hp1 hf1
 go_wp2_with fail
 refine (part_any HG1.out HFF.out HD1.out HDN.out HLN.out.1 HLN.out.2).mono ?_
 rintro e w2 hp
 rcases hp with ⟨_, rfl, v', u', gu', hG, hF, hN, hU⟩ | ⟨hz, _⟩
 rotate_left
 ·exact absurd HCD.out hz
 have hfin := HFI.out
 subst hfin
 have hu1 : ∀ k, u = .pointer (some ⟨k, 0, none⟩) → k < w.heap.size := HU0.out
 have hr2 : w2.heap[w.heap.size + 1]? = some (.cells #[.int .u8 0, .bool false, .slice none 0 0, .int .u32 0] 37 (0, 0)) := (hF.same _ (blk_lt HR1.out) (fun e => by have := hgl; omega) (fun e => by have := Kd.R_ne HG1.out.gw.row HR1.out (by decide); exact this e) (fun e => by have := hu1 _ e; omega)).trans HR1.out
 have hF2 : Fr w w2 g (.slice Av b.length cv) u := ⟨Nat.le_trans HF1.out.size hF.size, fun k hk h1 h2 h3 => (hF.same k (Nat.lt_of_lt_of_le hk HF1.out.size) h1 h2 h3).trans (HF1.out.same k hk h1 h2 h3)⟩
 have hN := (Nw.mk hN hU).mono HF1.out.size
 obtain ⟨Av', cv', rfl⟩ := Kd.R_slice hG.gw.row
 have HG2 := a_ hG
 have HR2 := a_ hr2
 have HF2 := a_ hF2
 have HN2 := a_ hN
 clear hG hr2 hF2 hF hN hU HG1 HD1 HR1 HF1 pc0 pc1 pc2 pc3 pc4 pl_
 obtain ⟨tn, htn⟩ : ∃ tn, tn = textN busy text 1 := ⟨_, rfl⟩
 rw [← htn] at HG2 ⊢
 have HTN := a_ htn
 clear htn
 obtain ⟨mm, hmm⟩ : ∃ mm, mm = (b ++ d).length := ⟨_, rfl⟩
 rw [← hmm] at HG2 HN2
 have HMM := a_ hmm
 clear hmm
 have hlo2 : w0.heap.size ≤ w.heap.size := HLO.out
 have HT2 : Aside0 (T8 w0 w g (.slice Av b.length cv) u (.slice Av' mm cv') u' (b ++ d) tn gu' (if tn = true then b ++ d else []) w2) := ⟨⟨HG2.out, HR2.out, HF2.out⟩⟩
 clear HG2 HR2 HF2
 go_upto_region 8 with fail
 refine wp_region_noPanic ?_
 refine wp_region_held_drew (S := fun w' => Aside0 (T8 w0 w g (.slice Av b.length cv) u (.slice Av' mm cv') u' (b ++ d) tn gu' (if tn = true then b ++ d else []) w') ∧ w'.cell? ⟨g, 2, none⟩ = some (.bool tn) ∧ w'.cell? ⟨g, 0, none⟩ = some (.slice Av' mm cv')) (by kernel_rfl) (t8S (HT2.out.below (below_drew (Below.refl _ _)))) (fun hHeld => ?_)
 refine takeP 0 33 ?_
 refine takeP 1 34 ?_
 refine takeP 2 35 ?_
 refine takeP 3 36 ?_
 refine takeP 4 37 ?_
 refine takeP 5 38 ?_
 refine takeP 6 39 ?_
 refine takeP 7 40 ?_
 refine takeP 8 41 ?_
 refine rd1_ 9 fun K hK => ?_
 go_simp
 refine hK.out _ _ (t8S ((HT2.out.below (below_drew (Below.refl _ _))).below (below_alloc (Below.refl _ _) _))) (fun hHeld => ?_)
 clear hK K
 try simp only [Act.put, z1_, z2_, z3_]
 refine rd1_ 10 fun K hK => ?_
 go_simp
 refine hK.out _ _ (t8S ((HT2.out.below (below_alloc (Below.refl _ _) (.cells #[.int .u8 1, .bool tn, .slice Av' mm cv', .int .u32 0] 37))).below (below_drew (Below.refl _ _)))) (fun hHeld => ?_)
 clear hK K
 try simp only [Act.put, z1_, z2_, z3_]
 refine wpAnyH_done (by kernel_rfl) ?_ _
 refine NoPanic.normal ?_
 have hT4 := (HT2.out.below (below_alloc (Below.refl _ _) (.cells #[.int .u8 1, .bool tn, .slice Av' mm cv', .int .u32 0] 37))).below (below_drew (Below.refl _ _))
 have hb4 : ((w2.alloc (.cells #[.int .u8 1, .bool tn, .slice Av' mm cv', .int .u32 0] 37)).drew).heap[w2.heap.size]? = some (.cells #[.int .u8 1, .bool tn, .slice Av' mm cv', .int .u32 0] 37 (0, 0)) := blk_drew (last_at _ _ _ rfl)
 have hgb : w.heap.size + 1 < w2.heap.size := blk_lt HT2.out.res
 clear hHeld
 generalize (w2.alloc (.cells #[.int .u8 1, .bool tn, .slice Av' mm cv', .int .u32 0] 37)).drew = w4 at hT4 hb4 ⊢
 generalize w2.heap.size = gb at hb4 hgb ⊢
 clear HT2
 have HT4 := a_ hT4
 have HB4 := a_ hb4
 clear hT4 hb4
 obtain ⟨gc0, gf0, gc1, gf1⟩ := xf2_ HT4.out.gs.gw.blk
 have gl := blk_lt HT4.out.gs.gw.blk
 go_upto_region 10 with fail
 have hgb2 : gb ≠ g := blk_ne HB4.out HT4.out.gs.gw.blk (by decide)
 have hgr2 : w.heap.size + 1 ≠ g := blk_ne HT4.out.res HT4.out.gs.gw.blk (by decide)
 have hG5 : Gw w0 ((w4.setCell ⟨g, 0, none⟩ (.slice none 0 0)).setCell ⟨g, 1, none⟩ (.bool false)) g (.slice none 0 0) u' [] false tn false := (HT4.out.gs.gw.setNil).setBusy false
 have hR5 : Kd.R (Kd.int .u8) 5 ((w4.setCell ⟨g, 0, none⟩ (.slice none 0 0)).setCell ⟨g, 1, none⟩ (.bool false)) w0.heap.size (fun _ => True) (.slice Av' mm cv') (b ++ d) := Kd.R_mono (Kd.R_far (Kd.R_far (Kd.R_types HT4.out.gs.gw.row HT4.out.gs.gw.blk (fun q hq => g_ne hq)) (p := ⟨g, 0, none⟩) (fun k hk => hk.2) _) (p := ⟨g, 1, none⟩) (fun k hk => hk.2) _) (fun _ _ => trivial)
 have hF5 : Fr w ((w4.setCell ⟨g, 0, none⟩ (.slice none 0 0)).setCell ⟨g, 1, none⟩ (.bool false)) g (.slice Av b.length cv) u := (HT4.out.fr.set 0 _).set 1 _
 have hb5 : ((w4.setCell ⟨g, 0, none⟩ (.slice none 0 0)).setCell ⟨g, 1, none⟩ (.bool false)).heap[gb]? = some (.cells #[.int .u8 1, .bool tn, .slice Av' mm cv', .int .u32 0] 37 (0, 0)) := (Below.heap_setCell _ _ _ _ hgb2).trans ((Below.heap_setCell _ _ _ _ hgb2).trans HB4.out)
 have hr5 : ((w4.setCell ⟨g, 0, none⟩ (.slice none 0 0)).setCell ⟨g, 1, none⟩ (.bool false)).heap[w.heap.size + 1]? = some (.cells #[.int .u8 0, .bool false, .slice none 0 0, .int .u32 0] 37 (0, 0)) := (Below.heap_setCell _ _ _ _ hgr2).trans ((Below.heap_setCell _ _ _ _ hgr2).trans HT4.out.res)
 generalize ((w4.setCell ⟨g, 0, none⟩ (.slice none 0 0)).setCell ⟨g, 1, none⟩ (.bool false)) = w5 at hG5 hR5 hF5 hb5 hr5 ⊢
 clear gc0 gc1 gf0 gf1 gl HT4 HB4
 have HG5 := a_ hG5
 have HRW5 := a_ hR5
 have HF5 := a_ hF5
 have HR5 := a_ hr5
 obtain ⟨zc0, zc1, zc2, zc3⟩ := xl4_ hb5
 have zl := blk_lt hb5
 obtain ⟨rc0, rf0, rc1, rf1, rc2, rf2, rc3, rf3⟩ := xf4_ hr5
 have rl := blk_lt hr5
 clear hG5 hR5 hF5 hb5 hr5
 have hle : w0.heap.size ≤ w.heap.size + 1 := by omega
 go_wp2_with fail
 rw [← HTN.out]
 exact bodyPost_ret (v := .tuple #[.agg #[.int .u8 1, .bool tn, .slice Av' mm cv', .int .u32 0], .bool true, .nilIface]) (by simp [results, Tryz.results76, go_sem, rc0, rc1, rc2, rc3]) rfl ⟨_, _, rfl, HG5.out.off4 HR5.out hle _ _ _ _, row_off4 HRW5.out HR5.out _ _ _ _, HF5.out.off4 (Nat.le_succ _) _ _ _ _, HN2.out⟩
theorem take_told_2 {w0 w : World} {g : Nat} {v u : Value} {b : List Int} {busy text : Bool} {gu : Nat} {f : List Int} {fin : Bool} {mk : Bool} {key : Int} {A : Option Addr} {c : Nat} {d : List Int} (h : Gs w0 w g v u b busy text false gu f) (hff : (busy = true → f = if text = true then b else []) ∧ (busy = false → b = [])) (hd : Dat w (.slice A d.length c) d) (hdn : ∀ k, (Value.slice A d.length c).ownBlock = some k → v.ownBlock ≠ some k) (hbl : b.length ≤ 4096) (hdl : d.length ≤ 1000000000) (hc : partC busy text fin 2 b d = 0) (hfin : fin = true) : Calls Tryz.prog 76 #[.pointer (some ⟨g, 0, none⟩), .agg #[.bool fin, .int .u8 2, .bool mk, .int .u32 key, .slice A d.length c]] w (TkTold w0 g v u (b ++ d) (textN busy text 2) w) := by
 have HU0 := a_ h.gw.ulow
 have HLO := a_ h.gw.bel.size
 have hgl := blk_lt h.gw.blk
 have HCD := a_ hc
 have HFI := a_ hfin
 clear hfin
 clear hc
 obtain ⟨Av, cv, rfl⟩ := Kd.R_slice h.gw.row
 have HFF := a_ hff
 have HDN := a_ hdn
 have HLN := a_ (And.intro hbl hdl)
 have hw1 : Below w.heap.size w ((w.alloc (.cells #[.bool fin, .int .u8 2, .bool mk, .int .u32 key, .slice A d.length c] 81)).alloc (.cells #[.int .u8 0, .bool false, .slice none 0 0, .int .u32 0] 37)) := below_alloc (below_alloc (Below.refl _ _) _) _
 have hg1 := h.below hw1
 have hd1 := hd.below hw1
 have hr1 : ((w.alloc (.cells #[.bool fin, .int .u8 2, .bool mk, .int .u32 key, .slice A d.length c] 81)).alloc (.cells #[.int .u8 0, .bool false, .slice none 0 0, .int .u32 0] 37)).heap[w.heap.size + 1]? = some (.cells #[.int .u8 0, .bool false, .slice none 0 0, .int .u32 0] 37 (0, 0)) := last_at _ _ _ (by simp)
 have hp1 : ((w.alloc (.cells #[.bool fin, .int .u8 2, .bool mk, .int .u32 key, .slice A d.length c] 81)).alloc (.cells #[.int .u8 0, .bool false, .slice none 0 0, .int .u32 0] 37)).heap[w.heap.size]? = some (.cells #[.bool fin, .int .u8 2, .bool mk, .int .u32 key, .slice A d.length c] 81 (0, 0)) := blk_alloc (last_at _ _ _ rfl) _
 have hf1 := (Fr.refl w g (.slice Av b.length cv) u).below hw1
 have hu30 := Tryz.underlying37
 have hu26 := Tryz.underlying81
 clear h hd hff hdn hbl hdl hw1
 go_enter Tryz.func76, Tryz.ntmps76
 go_upto_region 1 with fail
 generalize (w.alloc (.cells #[.bool fin, .int .u8 2, .bool mk, .int .u32 key, .slice A d.length c] 81)).alloc (.cells #[.int .u8 0, .bool false, .slice none 0 0, .int .u32 0] 37) = w1 at hg1 hd1 hr1 hp1 hf1 ⊢
 have HG1 := a_ hg1
 have HD1 := a_ hd1
 have HR1 := a_ hr1
 have HF1 := a_ hf1
 obtain ⟨pc0, pc1, pc2, pc3, pc4⟩ := xl5_ hp1
 have pl_ := blk_lt hp1
 clear hg1 hd1 hr1 hp1 hf1
 go_wp2_with fail
 refine (part_any HG1.out HFF.out HD1.out HDN.out HLN.out.1 HLN.out.2).mono ?_
 rintro e w2 hp
 rcases hp with ⟨_, rfl, v', u', gu', hG, hF, hN, hU⟩ | ⟨hz, _⟩
 rotate_left
 ·exact absurd HCD.out hz
 have hfin := HFI.out
 subst hfin
 have hu1 : ∀ k, u = .pointer (some ⟨k, 0, none⟩) → k < w.heap.size := HU0.out
 have hr2 : w2.heap[w.heap.size + 1]? = some (.cells #[.int .u8 0, .bool false, .slice none 0 0, .int .u32 0] 37 (0, 0)) := (hF.same _ (blk_lt HR1.out) (fun e => by have := hgl; omega) (fun e => by have := Kd.R_ne HG1.out.gw.row HR1.out (by decide); exact this e) (fun e => by have := hu1 _ e; omega)).trans HR1.out
 have hF2 : Fr w w2 g (.slice Av b.length cv) u := ⟨Nat.le_trans HF1.out.size hF.size, fun k hk h1 h2 h3 => (hF.same k (Nat.lt_of_lt_of_le hk HF1.out.size) h1 h2 h3).trans (HF1.out.same k hk h1 h2 h3)⟩
 have hN := (Nw.mk hN hU).mono HF1.out.size
 obtain ⟨Av', cv', rfl⟩ := Kd.R_slice hG.gw.row
 have HG2 := a_ hG
 have HR2 := a_ hr2
 have HF2 := a_ hF2
 have HN2 := a_ hN
 clear hG hr2 hF2 hF hN hU HG1 HD1 HR1 HF1 pc0 pc1 pc2 pc3 pc4 pl_
 obtain ⟨tn, htn⟩ : ∃ tn, tn = textN busy text 2 := ⟨_, rfl⟩
 rw [← htn] at HG2 ⊢
 have HTN := a_ htn
 clear htn
 obtain ⟨mm, hmm⟩ : ∃ mm, mm = (b ++ d).length := ⟨_, rfl⟩
 rw [← hmm] at HG2 HN2
 have HMM := a_ hmm
 clear hmm
 have hlo2 : w0.heap.size ≤ w.heap.size := HLO.out
 have HT2 : Aside0 (T8 w0 w g (.slice Av b.length cv) u (.slice Av' mm cv') u' (b ++ d) tn gu' (if tn = true then b ++ d else []) w2) := ⟨⟨HG2.out, HR2.out, HF2.out⟩⟩
 clear HG2 HR2 HF2
 go_upto_region 8 with fail
 refine wp_region_noPanic ?_
 refine wp_region_held_drew (S := fun w' => Aside0 (T8 w0 w g (.slice Av b.length cv) u (.slice Av' mm cv') u' (b ++ d) tn gu' (if tn = true then b ++ d else []) w') ∧ w'.cell? ⟨g, 2, none⟩ = some (.bool tn) ∧ w'.cell? ⟨g, 0, none⟩ = some (.slice Av' mm cv')) (by kernel_rfl) (t8S (HT2.out.below (below_drew (Below.refl _ _)))) (fun hHeld => ?_)
 refine takeP 0 33 ?_
 refine takeP 1 34 ?_
 refine takeP 2 35 ?_
 refine takeP 3 36 ?_
 refine takeP 4 37 ?_
 refine takeP 5 38 ?_
 refine takeP 6 39 ?_
 refine takeP 7 40 ?_
 refine takeP 8 41 ?_
 refine rd1_ 9 fun K hK => ?_
 go_simp
 refine hK.out _ _ (t8S ((HT2.out.below (below_drew (Below.refl _ _))).below (below_alloc (Below.refl _ _) _))) (fun hHeld => ?_)
 clear hK K
 try simp only [Act.put, z1_, z2_, z3_]
 refine rd1_ 10 fun K hK => ?_
 go_simp
 refine hK.out _ _ (t8S ((HT2.out.below (below_alloc (Below.refl _ _) (.cells #[.int .u8 1, .bool tn, .slice Av' mm cv', .int .u32 0] 37))).below (below_drew (Below.refl _ _)))) (fun hHeld => ?_)
 clear hK K
 try simp only [Act.put, z1_, z2_, z3_]
 refine wpAnyH_done (by kernel_rfl) ?_ _
 refine NoPanic.normal ?_
 have hT4 := (HT2.out.below (below_alloc (Below.refl _ _) (.cells #[.int .u8 1, .bool tn, .slice Av' mm cv', .int .u32 0] 37))).below (below_drew (Below.refl _ _))
 have hb4 : ((w2.alloc (.cells #[.int .u8 1, .bool tn, .slice Av' mm cv', .int .u32 0] 37)).drew).heap[w2.heap.size]? = some (.cells #[.int .u8 1, .bool tn, .slice Av' mm cv', .int .u32 0] 37 (0, 0)) := blk_drew (last_at _ _ _ rfl)
 have hgb : w.heap.size + 1 < w2.heap.size := blk_lt HT2.out.res
 clear hHeld
 generalize (w2.alloc (.cells #[.int .u8 1, .bool tn, .slice Av' mm cv', .int .u32 0] 37)).drew = w4 at hT4 hb4 ⊢
 generalize w2.heap.size = gb at hb4 hgb ⊢
 clear HT2
 have HT4 := a_ hT4
 have HB4 := a_ hb4
 clear hT4 hb4
 obtain ⟨gc0, gf0, gc1, gf1⟩ := xf2_ HT4.out.gs.gw.blk
 have gl := blk_lt HT4.out.gs.gw.blk
 go_upto_region 10 with fail
 have hgb2 : gb ≠ g := blk_ne HB4.out HT4.out.gs.gw.blk (by decide)
 have hgr2 : w.heap.size + 1 ≠ g := blk_ne HT4.out.res HT4.out.gs.gw.blk (by decide)
 have hG5 : Gw w0 ((w4.setCell ⟨g, 0, none⟩ (.slice none 0 0)).setCell ⟨g, 1, none⟩ (.bool false)) g (.slice none 0 0) u' [] false tn false := (HT4.out.gs.gw.setNil).setBusy false
 have hR5 : Kd.R (Kd.int .u8) 5 ((w4.setCell ⟨g, 0, none⟩ (.slice none 0 0)).setCell ⟨g, 1, none⟩ (.bool false)) w0.heap.size (fun _ => True) (.slice Av' mm cv') (b ++ d) := Kd.R_mono (Kd.R_far (Kd.R_far (Kd.R_types HT4.out.gs.gw.row HT4.out.gs.gw.blk (fun q hq => g_ne hq)) (p := ⟨g, 0, none⟩) (fun k hk => hk.2) _) (p := ⟨g, 1, none⟩) (fun k hk => hk.2) _) (fun _ _ => trivial)
 have hF5 : Fr w ((w4.setCell ⟨g, 0, none⟩ (.slice none 0 0)).setCell ⟨g, 1, none⟩ (.bool false)) g (.slice Av b.length cv) u := (HT4.out.fr.set 0 _).set 1 _
 have hb5 : ((w4.setCell ⟨g, 0, none⟩ (.slice none 0 0)).setCell ⟨g, 1, none⟩ (.bool false)).heap[gb]? = some (.cells #[.int .u8 1, .bool tn, .slice Av' mm cv', .int .u32 0] 37 (0, 0)) := (Below.heap_setCell _ _ _ _ hgb2).trans ((Below.heap_setCell _ _ _ _ hgb2).trans HB4.out)
 have hr5 : ((w4.setCell ⟨g, 0, none⟩ (.slice none 0 0)).setCell ⟨g, 1, none⟩ (.bool false)).heap[w.heap.size + 1]? = some (.cells #[.int .u8 0, .bool false, .slice none 0 0, .int .u32 0] 37 (0, 0)) := (Below.heap_setCell _ _ _ _ hgr2).trans ((Below.heap_setCell _ _ _ _ hgr2).trans HT4.out.res)
 generalize ((w4.setCell ⟨g, 0, none⟩ (.slice none 0 0)).setCell ⟨g, 1, none⟩ (.bool false)) = w5 at hG5 hR5 hF5 hb5 hr5 ⊢
 clear gc0 gc1 gf0 gf1 gl HT4 HB4
 have HG5 := a_ hG5
 have HRW5 := a_ hR5
 have HF5 := a_ hF5
 have HR5 := a_ hr5
 obtain ⟨zc0, zc1, zc2, zc3⟩ := xl4_ hb5
 have zl := blk_lt hb5
 obtain ⟨rc0, rf0, rc1, rf1, rc2, rf2, rc3, rf3⟩ := xf4_ hr5
 have rl := blk_lt hr5
 clear hG5 hR5 hF5 hb5 hr5
 have hle : w0.heap.size ≤ w.heap.size + 1 := by omega
 go_wp2_with fail
 rw [← HTN.out]
 exact bodyPost_ret (v := .tuple #[.agg #[.int .u8 1, .bool tn, .slice Av' mm cv', .int .u32 0], .bool true, .nilIface]) (by simp [results, Tryz.results76, go_sem, rc0, rc1, rc2, rc3]) rfl ⟨_, _, rfl, HG5.out.off4 HR5.out hle _ _ _ _, row_off4 HRW5.out HR5.out _ _ _ _, HF5.out.off4 (Nat.le_succ _) _ _ _ _, HN2.out⟩
theorem take_bad_0 {w0 w : World} {g : Nat} {v u : Value} {b : List Int} {busy text : Bool} {gu : Nat} {f : List Int} {fin : Bool} {mk : Bool} {key : Int} {A : Option Addr} {c : Nat} {d : List Int} (h : Gs w0 w g v u b busy text false gu f) (hff : (busy = true → f = if text = true then b else []) ∧ (busy = false → b = [])) (hd : Dat w (.slice A d.length c) d) (hdn : ∀ k, (Value.slice A d.length c).ownBlock = some k → v.ownBlock ≠ some k) (hbl : b.length ≤ 4096) (hdl : d.length ≤ 1000000000) (hc : partC busy text fin 0 b d ≠ 0) : Calls Tryz.prog 76 #[.pointer (some ⟨g, 0, none⟩), .agg #[.bool fin, .int .u8 0, .bool mk, .int .u32 key, .slice A d.length c]] w (TkBad w0 g v u (partC busy text fin 0 b d) w) := by
 have HU0 := a_ h.gw.ulow
 have HLO := a_ h.gw.bel.size
 have hgl := blk_lt h.gw.blk
 have HCD := a_ hc
 clear hc
 obtain ⟨Av, cv, rfl⟩ := Kd.R_slice h.gw.row
 have HFF := a_ hff
 have HDN := a_ hdn
 have HLN := a_ (And.intro hbl hdl)
 have hw1 : Below w.heap.size w ((w.alloc (.cells #[.bool fin, .int .u8 0, .bool mk, .int .u32 key, .slice A d.length c] 81)).alloc (.cells #[.int .u8 0, .bool false, .slice none 0 0, .int .u32 0] 37)) := below_alloc (below_alloc (Below.refl _ _) _) _
 have hg1 := h.below hw1
 have hd1 := hd.below hw1
 have hr1 : ((w.alloc (.cells #[.bool fin, .int .u8 0, .bool mk, .int .u32 key, .slice A d.length c] 81)).alloc (.cells #[.int .u8 0, .bool false, .slice none 0 0, .int .u32 0] 37)).heap[w.heap.size + 1]? = some (.cells #[.int .u8 0, .bool false, .slice none 0 0, .int .u32 0] 37 (0, 0)) := last_at _ _ _ (by simp)
 have hp1 : ((w.alloc (.cells #[.bool fin, .int .u8 0, .bool mk, .int .u32 key, .slice A d.length c] 81)).alloc (.cells #[.int .u8 0, .bool false, .slice none 0 0, .int .u32 0] 37)).heap[w.heap.size]? = some (.cells #[.bool fin, .int .u8 0, .bool mk, .int .u32 key, .slice A d.length c] 81 (0, 0)) := blk_alloc (last_at _ _ _ rfl) _
 have hf1 := (Fr.refl w g (.slice Av b.length cv) u).below hw1
 have hu30 := Tryz.underlying37
 have hu26 := Tryz.underlying81
 clear h hd hff hdn hbl hdl hw1
 go_enter Tryz.func76, Tryz.ntmps76
 go_upto_region 1 with fail
 generalize (w.alloc (.cells #[.bool fin, .int .u8 0, .bool mk, .int .u32 key, .slice A d.length c] 81)).alloc (.cells #[.int .u8 0, .bool false, .slice none 0 0, .int .u32 0] 37) = w1 at hg1 hd1 hr1 hp1 hf1 ⊢
 have HG1 := a_ hg1
 have HD1 := a_ hd1
 have HR1 := a_ hr1
 have HF1 := a_ hf1
 obtain ⟨pc0, pc1, pc2, pc3, pc4⟩ := xl5_ hp1
 have pl_ := blk_lt hp1
 clear hg1 hd1 hr1 hp1 hf1
 go_wp2_with fail
 refine (part_any HG1.out HFF.out HD1.out HDN.out HLN.out.1 HLN.out.2).mono ?_
 rintro e w2 hp
 rcases hp with ⟨hz, _⟩ | ⟨_, vb, rfl, hbad, v', u', b', bu, te, hG, hF, hN⟩
 ·exact absurd hz HCD.out
 have hu1 : ∀ k, u = .pointer (some ⟨k, 0, none⟩) → k < w.heap.size := HU0.out
 have hr2 : w2.heap[w.heap.size + 1]? = some (.cells #[.int .u8 0, .bool false, .slice none 0 0, .int .u32 0] 37 (0, 0)) := (hF.same _ (blk_lt HR1.out) (fun e => by have := hgl; omega) (fun e => by have := Kd.R_ne HG1.out.gw.row HR1.out (by decide); exact this e) (fun e => by have := hu1 _ e; omega)).trans HR1.out
 have hF2 : Fr w w2 g (.slice Av b.length cv) u := ⟨Nat.le_trans HF1.out.size hF.size, fun k hk h1 h2 h3 => (hF.same k (Nat.lt_of_lt_of_le hk HF1.out.size) h1 h2 h3).trans (HF1.out.same k hk h1 h2 h3)⟩
 have hN := hN.mono HF1.out.size
 have hb0 := hbad
 obtain ⟨qb, rfl, hqb⟩ := hb0
 have HG2 := a_ hG
 have HB2 := a_ hbad
 have HR2 := a_ hr2
 have HF2 := a_ hF2
 clear hG hbad hqb hr2 hF2 hF hN HG1 HD1 HR1 HF1 pc0 pc1 pc2 pc3 pc4 pl_
 go_wp2_with fail
 refine (wrap_any _ _ _ _ HB2.out).mono ?_
 rintro e w3 ⟨v3, rfl, hwr, hb3⟩
 obtain ⟨q3, s3, v3', rfl, hq3, hq3b⟩ := hwr
 have hwr : IsWr w3 _ _ := ⟨q3, s3, v3', rfl, hq3, hq3b⟩
 have hr3 := blk_below HR2.out hb3
 have HG3 := a_ (HG2.out.below hb3)
 have HF3 := a_ (HF2.out.below hb3)
 have HW3 := a_ hwr
 have HR3 := a_ hr3
 clear hwr hq3 hq3b hb3 HG2 HF2 HR2 HB2
 obtain ⟨rc0, rf0, rc1, rf1, rc2, rf2, rc3, rf3⟩ := xf4_ HR3.out
 have rl := blk_lt HR3.out
 clear hr3
 have hle : w0.heap.size ≤ w.heap.size + 1 := Nat.le_succ_of_le HLO.out
 go_wp2_with fail
 exact bodyPost_ret (v := .tuple #[.agg #[.int .u8 0, .bool false, .slice none 0 0, .int .u32 0], .bool false, .iface _ _]) (by simp [results, Tryz.results76, go_sem, rc0, rc1, rc2, rc3]) rfl ⟨_, _, _, _, _, _, _, _, rfl, .inl (wr_off4 HW3.out HR3.out _ _ _ _), HG3.out.off4 HR3.out hle _ _ _ _, HF3.out.off4 (Nat.le_succ _) _ _ _ _⟩
theorem take_bad_1 {w0 w : World} {g : Nat} {v u : Value} {b : List Int} {busy text : Bool} {gu : Nat} {f : List Int} {fin : Bool} {mk : Bool} {key : Int} {A : Option Addr} {c : Nat} {d : List Int} (h : Gs w0 w g v u b busy text false gu f) (hff : (busy = true → f = if text = true then b else []) ∧ (busy = false → b = [])) (hd : Dat w (.slice A d.length c) d) (hdn : ∀ k, (Value.slice A d.length c).ownBlock = some k → v.ownBlock ≠ some k) (hbl : b.length ≤ 4096) (hdl : d.length ≤ 1000000000) (hc : partC busy text fin 1 b d ≠ 0) : Calls Tryz.prog 76 #[.pointer (some ⟨g, 0, none⟩), .agg #[.bool fin, .int .u8 1, .bool mk, .int .u32 key, .slice A d.length c]] w (TkBad w0 g v u (partC busy text fin 1 b d) w) := by
 have HU0 := a_ h.gw.ulow
 have HLO := a_ h.gw.bel.size
 have hgl := blk_lt h.gw.blk
 have HCD := a_ hc
 clear hc
 obtain ⟨Av, cv, rfl⟩ := Kd.R_slice h.gw.row
 have HFF := a_ hff
 have HDN := a_ hdn
 have HLN := a_ (And.intro hbl hdl)
 have hw1 : Below w.heap.size w ((w.alloc (.cells #[.bool fin, .int .u8 1, .bool mk, .int .u32 key, .slice A d.length c] 81)).alloc (.cells #[.int .u8 0, .bool false, .slice none 0 0, .int .u32 0] 37)) := below_alloc (below_alloc (Below.refl _ _) _) _
 have hg1 := h.below hw1
 have hd1 := hd.below hw1
 have hr1 : ((w.alloc (.cells #[.bool fin, .int .u8 1, .bool mk, .int .u32 key, .slice A d.length c] 81)).alloc (.cells #[.int .u8 0, .bool false, .slice none 0 0, .int .u32 0] 37)).heap[w.heap.size + 1]? = some (.cells #[.int .u8 0, .bool false, .slice none 0 0, .int .u32 0] 37 (0, 0)) := last_at _ _ _ (by simp)
 have hp1 : ((w.alloc (.cells #[.bool fin, .int .u8 1, .bool mk, .int .u32 key, .slice A d.length c] 81)).alloc (.cells #[.int .u8 0, .bool false, .slice none 0 0, .int .u32 0] 37)).heap[w.heap.size]? = some (.cells #[.bool fin, .int .u8 1, .bool mk, .int .u32 key, .slice A d.length c] 81 (0, 0)) := blk_alloc (last_at _ _ _ rfl) _
 have hf1 := (Fr.refl w g (.slice Av b.length cv) u).below hw1
 have hu30 := Tryz.underlying37
 have hu26 := Tryz.underlying81
 clear h hd hff hdn hbl hdl hw1
 go_enter Tryz.func76, Tryz.ntmps76
 go_upto_region 1 with fail
 generalize (w.alloc (.cells #[.bool fin, .int .u8 1, .bool mk, .int .u32 key, .slice A d.length c] 81)).alloc (.cells #[.int .u8 0, .bool false, .slice none 0 0, .int .u32 0] 37) = w1 at hg1 hd1 hr1 hp1 hf1 ⊢
 have HG1 := a_ hg1
 have HD1 := a_ hd1
 have HR1 := a_ hr1
 have HF1 := a_ hf1
 obtain ⟨pc0, pc1, pc2, pc3, pc4⟩ := xl5_ hp1
 have pl_ := blk_lt hp1
 clear hg1 hd1 hr1 hp1 hf1
 go_wp2_with fail
 refine (part_any HG1.out HFF.out HD1.out HDN.out HLN.out.1 HLN.out.2).mono ?_
 rintro e w2 hp
 rcases hp with ⟨hz, _⟩ | ⟨_, vb, rfl, hbad, v', u', b', bu, te, hG, hF, hN⟩
 ·exact absurd hz HCD.out
 have hu1 : ∀ k, u = .pointer (some ⟨k, 0, none⟩) → k < w.heap.size := HU0.out
 have hr2 : w2.heap[w.heap.size + 1]? = some (.cells #[.int .u8 0, .bool false, .slice none 0 0, .int .u32 0] 37 (0, 0)) := (hF.same _ (blk_lt HR1.out) (fun e => by have := hgl; omega) (fun e => by have := Kd.R_ne HG1.out.gw.row HR1.out (by decide); exact this e) (fun e => by have := hu1 _ e; omega)).trans HR1.out
 have hF2 : Fr w w2 g (.slice Av b.length cv) u := ⟨Nat.le_trans HF1.out.size hF.size, fun k hk h1 h2 h3 => (hF.same k (Nat.lt_of_lt_of_le hk HF1.out.size) h1 h2 h3).trans (HF1.out.same k hk h1 h2 h3)⟩
 have hN := hN.mono HF1.out.size
 have hb0 := hbad
 obtain ⟨qb, rfl, hqb⟩ := hb0
 have HG2 := a_ hG
 have HB2 := a_ hbad
 have HR2 := a_ hr2
 have HF2 := a_ hF2
 clear hG hbad hqb hr2 hF2 hF hN HG1 HD1 HR1 HF1 pc0 pc1 pc2 pc3 pc4 pl_
 go_wp2_with fail
 refine (wrap_any _ _ _ _ HB2.out).mono ?_
 rintro e w3 ⟨v3, rfl, hwr, hb3⟩
 obtain ⟨q3, s3, v3', rfl, hq3, hq3b⟩ := hwr
 have hwr : IsWr w3 _ _ := ⟨q3, s3, v3', rfl, hq3, hq3b⟩
 have hr3 := blk_below HR2.out hb3
 have HG3 := a_ (HG2.out.below hb3)
 have HF3 := a_ (HF2.out.below hb3)
 have HW3 := a_ hwr
 have HR3 := a_ hr3
 clear hwr hq3 hq3b hb3 HG2 HF2 HR2 HB2
 obtain ⟨rc0, rf0, rc1, rf1, rc2, rf2, rc3, rf3⟩ := xf4_ HR3.out
 have rl := blk_lt HR3.out
 clear hr3
 have hle : w0.heap.size ≤ w.heap.size + 1 := Nat.le_succ_of_le HLO.out
 go_wp2_with fail
 exact bodyPost_ret (v := .tuple #[.agg #[.int .u8 0, .bool false, .slice none 0 0, .int .u32 0], .bool false, .iface _ _]) (by simp [results, Tryz.results76, go_sem, rc0, rc1, rc2, rc3]) rfl ⟨_, _, _, _, _, _, _, _, rfl, .inl (wr_off4 HW3.out HR3.out _ _ _ _), HG3.out.off4 HR3.out hle _ _ _ _, HF3.out.off4 (Nat.le_succ _) _ _ _ _⟩
theorem take_bad_2 {w0 w : World} {g : Nat} {v u : Value} {b : List Int} {busy text : Bool} {gu : Nat} {f : List Int} {fin : Bool} {mk : Bool} {key : Int} {A : Option Addr} {c : Nat} {d : List Int} (h : Gs w0 w g v u b busy text false gu f) (hff : (busy = true → f = if text = true then b else []) ∧ (busy = false → b = [])) (hd : Dat w (.slice A d.length c) d) (hdn : ∀ k, (Value.slice A d.length c).ownBlock = some k → v.ownBlock ≠ some k) (hbl : b.length ≤ 4096) (hdl : d.length ≤ 1000000000) (hc : partC busy text fin 2 b d ≠ 0) : Calls Tryz.prog 76 #[.pointer (some ⟨g, 0, none⟩), .agg #[.bool fin, .int .u8 2, .bool mk, .int .u32 key, .slice A d.length c]] w (TkBad w0 g v u (partC busy text fin 2 b d) w) := by
 have HU0 := a_ h.gw.ulow
 have HLO := a_ h.gw.bel.size
 have hgl := blk_lt h.gw.blk
 have HCD := a_ hc
 clear hc
 obtain ⟨Av, cv, rfl⟩ := Kd.R_slice h.gw.row
 have HFF := a_ hff
 have HDN := a_ hdn
 have HLN := a_ (And.intro hbl hdl)
 have hw1 : Below w.heap.size w ((w.alloc (.cells #[.bool fin, .int .u8 2, .bool mk, .int .u32 key, .slice A d.length c] 81)).alloc (.cells #[.int .u8 0, .bool false, .slice none 0 0, .int .u32 0] 37)) := below_alloc (below_alloc (Below.refl _ _) _) _
 have hg1 := h.below hw1
 have hd1 := hd.below hw1
 have hr1 : ((w.alloc (.cells #[.bool fin, .int .u8 2, .bool mk, .int .u32 key, .slice A d.length c] 81)).alloc (.cells #[.int .u8 0, .bool false, .slice none 0 0, .int .u32 0] 37)).heap[w.heap.size + 1]? = some (.cells #[.int .u8 0, .bool false, .slice none 0 0, .int .u32 0] 37 (0, 0)) := last_at _ _ _ (by simp)
 have hp1 : ((w.alloc (.cells #[.bool fin, .int .u8 2, .bool mk, .int .u32 key, .slice A d.length c] 81)).alloc (.cells #[.int .u8 0, .bool false, .slice none 0 0, .int .u32 0] 37)).heap[w.heap.size]? = some (.cells #[.bool fin, .int .u8 2, .bool mk, .int .u32 key, .slice A d.length c] 81 (0, 0)) := blk_alloc (last_at _ _ _ rfl) _
 have hf1 := (Fr.refl w g (.slice Av b.length cv) u).below hw1
 have hu30 := Tryz.underlying37
 have hu26 := Tryz.underlying81
 clear h hd hff hdn hbl hdl hw1
 go_enter Tryz.func76, Tryz.ntmps76
 go_upto_region 1 with fail
 generalize (w.alloc (.cells #[.bool fin, .int .u8 2, .bool mk, .int .u32 key, .slice A d.length c] 81)).alloc (.cells #[.int .u8 0, .bool false, .slice none 0 0, .int .u32 0] 37) = w1 at hg1 hd1 hr1 hp1 hf1 ⊢
 have HG1 := a_ hg1
 have HD1 := a_ hd1
 have HR1 := a_ hr1
 have HF1 := a_ hf1
 obtain ⟨pc0, pc1, pc2, pc3, pc4⟩ := xl5_ hp1
 have pl_ := blk_lt hp1
 clear hg1 hd1 hr1 hp1 hf1
 go_wp2_with fail
 refine (part_any HG1.out HFF.out HD1.out HDN.out HLN.out.1 HLN.out.2).mono ?_
 rintro e w2 hp
 rcases hp with ⟨hz, _⟩ | ⟨_, vb, rfl, hbad, v', u', b', bu, te, hG, hF, hN⟩
 ·exact absurd hz HCD.out
 have hu1 : ∀ k, u = .pointer (some ⟨k, 0, none⟩) → k < w.heap.size := HU0.out
 have hr2 : w2.heap[w.heap.size + 1]? = some (.cells #[.int .u8 0, .bool false, .slice none 0 0, .int .u32 0] 37 (0, 0)) := (hF.same _ (blk_lt HR1.out) (fun e => by have := hgl; omega) (fun e => by have := Kd.R_ne HG1.out.gw.row HR1.out (by decide); exact this e) (fun e => by have := hu1 _ e; omega)).trans HR1.out
 have hF2 : Fr w w2 g (.slice Av b.length cv) u := ⟨Nat.le_trans HF1.out.size hF.size, fun k hk h1 h2 h3 => (hF.same k (Nat.lt_of_lt_of_le hk HF1.out.size) h1 h2 h3).trans (HF1.out.same k hk h1 h2 h3)⟩
 have hN := hN.mono HF1.out.size
 have hb0 := hbad
 obtain ⟨qb, rfl, hqb⟩ := hb0
 have HG2 := a_ hG
 have HB2 := a_ hbad
 have HR2 := a_ hr2
 have HF2 := a_ hF2
 clear hG hbad hqb hr2 hF2 hF hN HG1 HD1 HR1 HF1 pc0 pc1 pc2 pc3 pc4 pl_
 go_wp2_with fail
 refine (wrap_any _ _ _ _ HB2.out).mono ?_
 rintro e w3 ⟨v3, rfl, hwr, hb3⟩
 obtain ⟨q3, s3, v3', rfl, hq3, hq3b⟩ := hwr
 have hwr : IsWr w3 _ _ := ⟨q3, s3, v3', rfl, hq3, hq3b⟩
 have hr3 := blk_below HR2.out hb3
 have HG3 := a_ (HG2.out.below hb3)
 have HF3 := a_ (HF2.out.below hb3)
 have HW3 := a_ hwr
 have HR3 := a_ hr3
 clear hwr hq3 hq3b hb3 HG2 HF2 HR2 HB2
 obtain ⟨rc0, rf0, rc1, rf1, rc2, rf2, rc3, rf3⟩ := xf4_ HR3.out
 have rl := blk_lt HR3.out
 clear hr3
 have hle : w0.heap.size ≤ w.heap.size + 1 := Nat.le_succ_of_le HLO.out
 go_wp2_with fail
 exact bodyPost_ret (v := .tuple #[.agg #[.int .u8 0, .bool false, .slice none 0 0, .int .u32 0], .bool false, .iface _ _]) (by simp [results, Tryz.results76, go_sem, rc0, rc1, rc2, rc3]) rfl ⟨_, _, _, _, _, _, _, _, rfl, .inl (wr_off4 HW3.out HR3.out _ _ _ _), HG3.out.off4 HR3.out hle _ _ _ _, HF3.out.off4 (Nat.le_succ _) _ _ _ _⟩
def ClosesBad (l : List Int) (code : Int) : Prop := ∀ (A : Option Addr) (c : Nat) (w : World), Kd.C (Kd.int .u8) w A l.length l → l.length ≤ c → Calls Tryz.prog 104 #[.slice A l.length c] w fun e w' => ∃ vb, e = .returned (.tuple #[.agg #[.int .u8 0, .bool false, .slice none 0 0, .int .u32 0], vb]) ∧ IsBad w' vb code ∧ Below w.heap.size w w'
theorem closes_bad_one (x : Int) : ClosesBad [x] 1002 := by
 intro A c w hC hc
 have hu30 := Tryz.underlying37
 have hr : (w.alloc (.cells #[.int .u8 0, .bool false, .slice none 0 0, .int .u32 0] 37)).heap[w.heap.size]? = some (.cells #[.int .u8 0, .bool false, .slice none 0 0, .int .u32 0] 37 (0, 0)) := last_at _ _ _ rfl
 have HB := a_ (below_alloc (Below.refl w.heap.size w) (.cells #[.int .u8 0, .bool false, .slice none 0 0, .int .u32 0] 37))
 clear hC
 go_enter Tryz.func104, Tryz.ntmps104
 go_wp2_with fail
 refine (socket_any 1002 _).mono ?_
 rintro e w9 ⟨vb, rfl, hbad, hb9⟩
 have hr9 : w9.heap[w.heap.size]? = some (.cells #[.int .u8 0, .bool false, .slice none 0 0, .int .u32 0] 37 (0, 0)) := blk_below hr hb9
 obtain ⟨qb, rfl, hqb⟩ := hbad
 have HBD := a_ (show IsBad w9 _ 1002 from ⟨qb, rfl, hqb⟩)
 have HB9 := a_ (below_step HB.out hb9)
 clear hqb hb9
 obtain ⟨rc0, rf0, rc1, rf1, rc2, rf2, rc3, rf3⟩ := xf4_ hr9
 have rl : w.heap.size < w9.heap.size := blk_lt hr9
 have HR9 := a_ hr9
 clear hr9
 have hle : w.heap.size ≤ w.heap.size := Nat.le_refl _
 go_wp2_with fail
 exact bodyPost_ret (v := .tuple #[.agg #[.int .u8 0, .bool false, .slice none 0 0, .int .u32 0], .iface _ _]) (by simp [results, Tryz.results104, go_sem, rc0, rc1, rc2, rc3]) rfl ⟨_, rfl, bad_off4 HBD.out HR9.out _ _ _ _, Below.setCell (Below.setCell (Below.setCell (Below.setCell HB9.out hle _) hle _) hle _) hle _⟩
theorem closes_bad_code (h0 h1 : Int) (r : List Int) (code : Int) (b0 : 0 ≤ h0) (b0' : h0 ≤ 255) (b1 : 0 ≤ h1) (b1' : h1 ≤ 255) (hcode : Go.bits .or .u32 (h0 * 256) h1 = code) (ht : toldB code = false) (hrl : r.length ≤ 140737488351232) : ClosesBad (h0 :: h1 :: r) 1002 := by
 intro A c w hC hc
 have hu30 := Tryz.underlying37
 have hlen : (h0 :: h1 :: r).length = r.length + 2 := by simp
 obtain ⟨ad, rfl, hx0⟩ := Kd.at_int hC 0 (by decide) (by simp; omega)
 obtain ⟨ad2, e2, hx1⟩ := Kd.at_int hC 1 (by decide) (by simp; omega)
 injection e2 with e2
 subst e2
 have y0 : w.cell? ad = some (.int .u8 h0) := hx0
 have y1 : w.cell? ⟨ad.block, ad.off + 1, none⟩ = some (.int .u8 h1) := hx1
 clear hx0 hx1
 have HC := a_ hC
 clear hC
 have e0 : IntKind.u32.wrap h0 = h0 := by simp [IntKind.wrap, IntKind.bits, IntKind.signed]; omega
 have e1 : IntKind.u32.wrap h1 = h1 := by simp [IntKind.wrap, IntKind.bits, IntKind.signed]; omega
 have e3 : IntKind.u32.wrap (h0 * 256) = h0 * 256 := by simp [IntKind.wrap, IntKind.bits, IntKind.signed]; omega
 have p0 : (0 : Int) < (r.length : Int) + 1 + 1 := by omega
 have p1 : (1 : Int) < (r.length : Int) + 1 + 1 := by omega
 have p2 : (2 : Int) ≤ (r.length : Int) + 1 + 1 := by omega
 have z0 : (((r.length : Int) + 1 + 1) == 0) = false := nb_ (by omega)
 have z1 : (((r.length : Int) + 1 + 1) == 1) = false := nb_ (by omega)
 go_enter Tryz.func104, Tryz.ntmps104
 go_wp2_with fail
 refine wp_region_noPanic ?_
 refine wp_region_held_drew (S := fun w' => Aside0 (Below w.heap.size w w') ∧ w'.cell? ad = some (.int .u8 h0) ∧ w'.cell? ⟨ad.block, ad.off + 1, none⟩ = some (.int .u8 h1)) (by kernel_rfl) (⟨⟨below_drew (below_alloc (Below.refl _ _) _)⟩, ((below_drew (below_alloc (Below.refl w.heap.size w) _)).cell (World.block_lt_of_cell? _ _ y0)).trans y0, ((below_drew (below_alloc (Below.refl w.heap.size w) _)).cell (World.block_lt_of_cell? _ _ y1)).trans y1⟩) (fun hHeld => ?_)
 refine takeP 0 14 ?_
 refine takeP 1 15 ?_
 refine takeP 2 16 ?_
 refine takeP 3 17 ?_
 refine takeP 4 18 ?_
 refine takeP 5 19 ?_
 refine takeP 6 20 ?_
 refine takeP 7 21 ?_
 refine takeP 8 22 ?_
 refine takeP 9 23 ?_
 refine takeP 10 4 ?_
 refine wpAnyH_done (by kernel_rfl) ?_ _
 refine NoPanic.normal ?_
 have HB := a_ hHeld.1.out
 clear hHeld
 have hr : ((w.alloc (.cells #[.int .u8 0, .bool false, .slice none 0 0, .int .u32 0] 37)).drew).heap[w.heap.size]? = some (.cells #[.int .u8 0, .bool false, .slice none 0 0, .int .u32 0] 37 (0, 0)) := blk_drew (last_at _ _ _ rfl)
 generalize (w.alloc (.cells #[.int .u8 0, .bool false, .slice none 0 0, .int .u32 0] 37)).drew = w1 at HB hr ⊢
 go_wp2_with fail
 refine (message_Told.calls code false _ (by show some (toldB code) = some false; rw [ht])).mono ?_
 rintro e w2 ⟨rfl, hb⟩
 have hr2 : w2.heap[w.heap.size]? = _ := blk_below hr hb
 replace HB := a_ (below_step HB.out hb)
 clear hb hr
 go_wp2_with fail
 refine (socket_any 1002 _).mono ?_
 rintro e w9 ⟨vb, rfl, hbad, hb9⟩
 have hr9 : w9.heap[w.heap.size]? = some (.cells #[.int .u8 0, .bool false, .slice none 0 0, .int .u32 0] 37 (0, 0)) := blk_below hr2 hb9
 obtain ⟨qb, rfl, hqb⟩ := hbad
 have HBD := a_ (show IsBad w9 _ 1002 from ⟨qb, rfl, hqb⟩)
 have HB9 := a_ (below_step HB.out hb9)
 clear hqb hb9
 obtain ⟨rc0, rf0, rc1, rf1, rc2, rf2, rc3, rf3⟩ := xf4_ hr9
 have rl : w.heap.size < w9.heap.size := blk_lt hr9
 have HR9 := a_ hr9
 clear hr9
 have hle : w.heap.size ≤ w.heap.size := Nat.le_refl _
 go_wp2_with fail
 exact bodyPost_ret (v := .tuple #[.agg #[.int .u8 0, .bool false, .slice none 0 0, .int .u32 0], .iface _ _]) (by simp [results, Tryz.results104, go_sem, rc0, rc1, rc2, rc3]) rfl ⟨_, rfl, bad_off4 HBD.out HR9.out _ _ _ _, Below.setCell (Below.setCell (Below.setCell (Below.setCell HB9.out hle _) hle _) hle _) hle _⟩
theorem closes_bad_text (h0 h1 : Int) (r : List Int) (code : Int) (k : Nat) (b0 : 0 ≤ h0) (b0' : h0 ≤ 255) (b1 : 0 ≤ h1) (b1' : h1 ≤ 255) (hcode : Go.bits .or .u32 (h0 * 256) h1 = code) (ht : toldB code = true) (hv : utf_Valid.f k r = some false) (hrl : r.length ≤ 140737488351232) : ClosesBad (h0 :: h1 :: r) 1007 := by
 intro A c w hC hc
 have hu30 := Tryz.underlying37
 have hlen : (h0 :: h1 :: r).length = r.length + 2 := by simp
 obtain ⟨ad, rfl, hx0⟩ := Kd.at_int hC 0 (by decide) (by simp; omega)
 obtain ⟨ad2, e2, hx1⟩ := Kd.at_int hC 1 (by decide) (by simp; omega)
 injection e2 with e2
 subst e2
 have y0 : w.cell? ad = some (.int .u8 h0) := hx0
 have y1 : w.cell? ⟨ad.block, ad.off + 1, none⟩ = some (.int .u8 h1) := hx1
 clear hx0 hx1
 have HC := a_ hC
 clear hC
 have e0 : IntKind.u32.wrap h0 = h0 := by simp [IntKind.wrap, IntKind.bits, IntKind.signed]; omega
 have e1 : IntKind.u32.wrap h1 = h1 := by simp [IntKind.wrap, IntKind.bits, IntKind.signed]; omega
 have e3 : IntKind.u32.wrap (h0 * 256) = h0 * 256 := by simp [IntKind.wrap, IntKind.bits, IntKind.signed]; omega
 have p0 : (0 : Int) < (r.length : Int) + 1 + 1 := by omega
 have p1 : (1 : Int) < (r.length : Int) + 1 + 1 := by omega
 have p2 : (2 : Int) ≤ (r.length : Int) + 1 + 1 := by omega
 have z0 : (((r.length : Int) + 1 + 1) == 0) = false := nb_ (by omega)
 have z1 : (((r.length : Int) + 1 + 1) == 1) = false := nb_ (by omega)
 go_enter Tryz.func104, Tryz.ntmps104
 go_wp2_with fail
 refine wp_region_noPanic ?_
 refine wp_region_held_drew (S := fun w' => Aside0 (Below w.heap.size w w') ∧ w'.cell? ad = some (.int .u8 h0) ∧ w'.cell? ⟨ad.block, ad.off + 1, none⟩ = some (.int .u8 h1)) (by kernel_rfl) (⟨⟨below_drew (below_alloc (Below.refl _ _) _)⟩, ((below_drew (below_alloc (Below.refl w.heap.size w) _)).cell (World.block_lt_of_cell? _ _ y0)).trans y0, ((below_drew (below_alloc (Below.refl w.heap.size w) _)).cell (World.block_lt_of_cell? _ _ y1)).trans y1⟩) (fun hHeld => ?_)
 refine takeP 0 14 ?_
 refine takeP 1 15 ?_
 refine takeP 2 16 ?_
 refine takeP 3 17 ?_
 refine takeP 4 18 ?_
 refine takeP 5 19 ?_
 refine takeP 6 20 ?_
 refine takeP 7 21 ?_
 refine takeP 8 22 ?_
 refine takeP 9 23 ?_
 refine takeP 10 4 ?_
 refine wpAnyH_done (by kernel_rfl) ?_ _
 refine NoPanic.normal ?_
 have HB := a_ hHeld.1.out
 clear hHeld
 have hr : ((w.alloc (.cells #[.int .u8 0, .bool false, .slice none 0 0, .int .u32 0] 37)).drew).heap[w.heap.size]? = some (.cells #[.int .u8 0, .bool false, .slice none 0 0, .int .u32 0] 37 (0, 0)) := blk_drew (last_at _ _ _ rfl)
 generalize (w.alloc (.cells #[.int .u8 0, .bool false, .slice none 0 0, .int .u32 0] 37)).drew = w1 at HB hr ⊢
 have hc' : r.length + 2 ≤ c := by rw [hlen] at hc; exact hc
 clear hc
 by_cases hc2 : c = 2
 ·subst hc2
  have HC2 : Aside0 ((Kd.int .u8).C w (some ad) r.length r) := ⟨by
   have h := Kd.C_drop (m := 2) (c := 2) HC.out (by simp) (by rw [hlen]; omega)
   rw [if_pos rfl] at h
   exact h⟩
  have hc3 : r.length ≤ 0 := by omega
  have hr0 : r.length = 0 := by omega
  go_wp2_with fail
  refine (message_Told.calls code true _ (by show some (toldB code) = some true; rw [ht])).mono ?_
  rintro e w2 ⟨rfl, hb⟩
  have hr2 : w2.heap[w.heap.size]? = _ := blk_below hr hb
  replace HB := a_ (below_step HB.out hb)
  clear hb hr
  go_wp2_with fail
  refine (calls_of_args (by rw [hr0]) (utf_Valid.calls k (some ad) (0) r false _ (Kd.C_below HC2.out HB.out) hc3 hv)).mono ?_
  rintro e w3 ⟨rfl, hb⟩
  have hr3 : w3.heap[w.heap.size]? = _ := blk_below hr2 hb
  replace HB := a_ (below_step HB.out hb)
  clear hb hr2
  go_wp2_with fail
  refine (socket_any 1007 _).mono ?_
  rintro e w9 ⟨vb, rfl, hbad, hb9⟩
  have hr9 : w9.heap[w.heap.size]? = some (.cells #[.int .u8 0, .bool false, .slice none 0 0, .int .u32 0] 37 (0, 0)) := blk_below hr3 hb9
  obtain ⟨qb, rfl, hqb⟩ := hbad
  have HBD := a_ (show IsBad w9 _ 1007 from ⟨qb, rfl, hqb⟩)
  have HB9 := a_ (below_step HB.out hb9)
  clear hqb hb9
  obtain ⟨rc0, rf0, rc1, rf1, rc2, rf2, rc3, rf3⟩ := xf4_ hr9
  have rl : w.heap.size < w9.heap.size := blk_lt hr9
  have HR9 := a_ hr9
  clear hr9
  have hle : w.heap.size ≤ w.heap.size := Nat.le_refl _
  go_wp2_with fail
  exact bodyPost_ret (v := .tuple #[.agg #[.int .u8 0, .bool false, .slice none 0 0, .int .u32 0], .iface _ _]) (by simp [results, Tryz.results104, go_sem, rc0, rc1, rc2, rc3]) rfl ⟨_, rfl, bad_off4 HBD.out HR9.out _ _ _ _, Below.setCell (Below.setCell (Below.setCell (Below.setCell HB9.out hle _) hle _) hle _) hle _⟩
 ·have hc5 : (2 : Int) ≤ (c : Int) := by omega
  have hc6 : (c == 2) = false := nb_ hc2
  have HC2 : Aside0 ((Kd.int .u8).C w (some ⟨ad.block, ad.off + 2, none⟩) r.length r) := ⟨by
   have h := Kd.C_drop (m := 2) (c := c) HC.out (by simp) (by rw [hlen]; omega)
   rw [if_neg hc2] at h
   exact h⟩
  have hc3 : r.length ≤ c - 2 := by omega
  go_wp2_with fail
  refine (message_Told.calls code true _ (by show some (toldB code) = some true; rw [ht])).mono ?_
  rintro e w2 ⟨rfl, hb⟩
  have hr2 : w2.heap[w.heap.size]? = _ := blk_below hr hb
  replace HB := a_ (below_step HB.out hb)
  clear hb hr
  go_wp2_with fail
  refine ((utf_Valid.calls k (some ⟨ad.block, ad.off + 2, none⟩) (c - 2) r false _ (Kd.C_below HC2.out HB.out) hc3 hv)).mono ?_
  rintro e w3 ⟨rfl, hb⟩
  have hr3 : w3.heap[w.heap.size]? = _ := blk_below hr2 hb
  replace HB := a_ (below_step HB.out hb)
  clear hb hr2
  go_wp2_with fail
  refine (socket_any 1007 _).mono ?_
  rintro e w9 ⟨vb, rfl, hbad, hb9⟩
  have hr9 : w9.heap[w.heap.size]? = some (.cells #[.int .u8 0, .bool false, .slice none 0 0, .int .u32 0] 37 (0, 0)) := blk_below hr3 hb9
  obtain ⟨qb, rfl, hqb⟩ := hbad
  have HBD := a_ (show IsBad w9 _ 1007 from ⟨qb, rfl, hqb⟩)
  have HB9 := a_ (below_step HB.out hb9)
  clear hqb hb9
  obtain ⟨rc0, rf0, rc1, rf1, rc2, rf2, rc3, rf3⟩ := xf4_ hr9
  have rl : w.heap.size < w9.heap.size := blk_lt hr9
  have HR9 := a_ hr9
  clear hr9
  have hle : w.heap.size ≤ w.heap.size := Nat.le_refl _
  go_wp2_with fail
  exact bodyPost_ret (v := .tuple #[.agg #[.int .u8 0, .bool false, .slice none 0 0, .int .u32 0], .iface _ _]) (by simp [results, Tryz.results104, go_sem, rc0, rc1, rc2, rc3]) rfl ⟨_, rfl, bad_off4 HBD.out HR9.out _ _ _ _, Below.setCell (Below.setCell (Below.setCell (Below.setCell HB9.out hle _) hle _) hle _) hle _⟩
structure TCb (w0 w : World) (g : Nat) (v u : Value) (b : List Int) (busy text : Bool) (vb : Value) (code : Int) (bx : Nat) (W : World) : Prop where
 gw : Gw w0 W g v u b busy text true
 fr : Fr w W g v u
 bad : IsBad W vb code
 box : W.heap[bx]? = some (.cells #[.int .u8 0, .bool false, .slice none 0 0, .int .u32 0] 37 (0, 0))
theorem TCb.below {w0 w W W' : World} {g bx : Nat} {v u vb : Value} {b : List Int} {busy text : Bool} {code : Int} (h : TCb w0 w g v u b busy text vb code bx W) (hb : Below W.heap.size W W') : TCb w0 w g v u b busy text vb code bx W' := ⟨h.gw.below hb, h.fr.below hb, h.bad.below hb, blk_below h.box hb⟩
theorem TCb.off4 {w0 w W : World} {g bx k : Nat} {v u vb a0 a1 a2 a3 : Value} {b : List Int} {busy text : Bool} {code : Int} (h : TCb w0 w g v u b busy text vb code bx W) (hk : W.heap[k]? = some (.cells #[a0, a1, a2, a3] 37 (0, 0))) (hne : bx ≠ k) (hlo : w0.heap.size ≤ k) (hlo2 : w.heap.size ≤ k) (x0 x1 x2 x3 : Value) : TCb w0 w g v u b busy text vb code bx ((((W.setCell ⟨k, 0, none⟩ x0).setCell ⟨k, 1, none⟩ x1).setCell ⟨k, 2, none⟩ x2).setCell ⟨k, 3, none⟩ x3) := ⟨h.gw.off4 hk hlo _ _ _ _, h.fr.off4 hlo2 _ _ _ _, bad_off4 h.bad hk _ _ _ _, blk_off4 h.box hne _ _ _ _⟩
theorem CSb {w0 w W : World} {g bx : Nat} {v u vb : Value} {b : List Int} {busy text : Bool} {code : Int} (h : TCb w0 w g v u b busy text vb code bx W) : Aside0 (TCb w0 w g v u b busy text vb code bx W) ∧ W.cell? ⟨bx, 0, none⟩ = some (.int .u8 0) ∧ W.cell? ⟨bx, 1, none⟩ = some (.bool false) ∧ W.cell? ⟨bx, 2, none⟩ = some (.slice none 0 0) ∧ W.cell? ⟨bx, 3, none⟩ = some (.int .u32 0) := ⟨⟨h⟩, (blk_cell h.box 0).trans rfl, (blk_cell h.box 1).trans rfl, (blk_cell h.box 2).trans rfl, (blk_cell h.box 3).trans rfl⟩
theorem take_close_bad {w0 w : World} {g : Nat} {v u : Value} {b : List Int} {busy text : Bool} {gu : Nat} {f : List Int} {fin mk : Bool} {key : Int} {A : Option Addr} {c : Nat} {l : List Int} {code : Int} (h : Gs w0 w g v u b busy text false gu f) (hd : Dat w (.slice A l.length c) l) (hcb : ClosesBad l code) : Calls Tryz.prog 76 #[.pointer (some ⟨g, 0, none⟩), .agg #[.bool fin, .int .u8 8, .bool mk, .int .u32 key, .slice A l.length c]] w (TkBad w0 g v u code w) := by
 have HU0 := a_ h.gw.ulow
 have HLO := a_ h.gw.bel.size
 have hgl := blk_lt h.gw.blk
 have hw1 : Below w.heap.size w ((w.alloc (.cells #[.bool fin, .int .u8 8, .bool mk, .int .u32 key, .slice A l.length c] 81)).alloc (.cells #[.int .u8 0, .bool false, .slice none 0 0, .int .u32 0] 37)) := below_alloc (below_alloc (Below.refl _ _) _) _
 have hg1 := h.below hw1
 have hd1 := hd.below hw1
 have hr1 : ((w.alloc (.cells #[.bool fin, .int .u8 8, .bool mk, .int .u32 key, .slice A l.length c] 81)).alloc (.cells #[.int .u8 0, .bool false, .slice none 0 0, .int .u32 0] 37)).heap[w.heap.size + 1]? = some (.cells #[.int .u8 0, .bool false, .slice none 0 0, .int .u32 0] 37 (0, 0)) := last_at _ _ _ (by simp)
 have hp1 : ((w.alloc (.cells #[.bool fin, .int .u8 8, .bool mk, .int .u32 key, .slice A l.length c] 81)).alloc (.cells #[.int .u8 0, .bool false, .slice none 0 0, .int .u32 0] 37)).heap[w.heap.size]? = some (.cells #[.bool fin, .int .u8 8, .bool mk, .int .u32 key, .slice A l.length c] 81 (0, 0)) := blk_alloc (last_at _ _ _ rfl) _
 have hf1 := (Fr.refl w g v u).below hw1
 have hu30 := Tryz.underlying37
 have hu26 := Tryz.underlying81
 have HCB := a_ hcb
 clear h hd hw1 hcb
 go_enter Tryz.func76, Tryz.ntmps76
 go_upto_region 1 with fail
 generalize (w.alloc (.cells #[.bool fin, .int .u8 8, .bool mk, .int .u32 key, .slice A l.length c] 81)).alloc (.cells #[.int .u8 0, .bool false, .slice none 0 0, .int .u32 0] 37) = w1 at hg1 hd1 hr1 hp1 hf1 ⊢
 have HG1 := a_ hg1
 have HD1 := a_ hd1
 have HR1 := a_ hr1
 have HF1 := a_ hf1
 obtain ⟨-, pc1, -, -, pc4⟩ := xl5_ hp1
 have pl_ := blk_lt hp1
 clear hg1 hd1 hr1 hp1 hf1
 go_wp2_with fail
 refine (HCB.out A c _ HD1.out.C HD1.out.le).mono ?_
 rintro e w2 ⟨vb, rfl, hbad, hb2⟩
 obtain ⟨qb, rfl, hqb⟩ := hbad
 have HBD := a_ (show IsBad w2 _ code from ⟨qb, rfl, hqb⟩)
 have HG2 := a_ (HG1.out.below hb2)
 have HF2 := a_ (HF1.out.below hb2)
 have HR2 := a_ (blk_below HR1.out hb2)
 clear hqb hb2 HG1 HD1 HR1 HF1 pc1 pc4 pl_
 obtain ⟨-, -, -, -, -, -, -, -, gc4, gf4⟩ := xf5_ HG2.out.gw.blk
 have gl := blk_lt HG2.out.gw.blk
 go_upto_region 18 with fail
 have HGX := a_ ((HG2.out.gw.setOver true).below (below_alloc (Below.refl _ _) (.cells #[.int .u8 0, .bool false, .slice none 0 0, .int .u32 0] 37)))
 have HFX := a_ ((HF2.out.set 4 (.bool true)).below (below_alloc (Below.refl _ _) (.cells #[.int .u8 0, .bool false, .slice none 0 0, .int .u32 0] 37)))
 have hng2 : w.heap.size + 1 ≠ g := by omega
 have HRX := a_ (show ((w2.setCell ⟨g, 4, none⟩ (.bool true)).alloc (.cells #[.int .u8 0, .bool false, .slice none 0 0, .int .u32 0] 37)).heap[w.heap.size + 1]? = some (.cells #[.int .u8 0, .bool false, .slice none 0 0, .int .u32 0] 37 (0, 0)) from blk_alloc ((Below.heap_setCell _ _ _ _ hng2).trans HR2.out) _)
 have HBX := a_ (show ((w2.setCell ⟨g, 4, none⟩ (.bool true)).alloc (.cells #[.int .u8 0, .bool false, .slice none 0 0, .int .u32 0] 37)).heap[w2.heap.size]? = some (.cells #[.int .u8 0, .bool false, .slice none 0 0, .int .u32 0] 37 (0, 0)) from last_at _ _ _ (by simp))
 have HBDX : Aside0 (IsBad ((w2.setCell ⟨g, 4, none⟩ (.bool true)).alloc (.cells #[.int .u8 0, .bool false, .slice none 0 0, .int .u32 0] 37)) (.iface 166 (.pointer (some ⟨qb, 0, none⟩))) code) := ⟨by
  obtain ⟨q, e, hq⟩ := HBD.out
  injection e with _ e
  injection e with e
  injection e with e
  injection e with e
  subst e
  have hgb := HG2.out.gw.blk
  unfold IsG at hgb
  exact ⟨_, rfl, blk_alloc ((Below.heap_setCell _ _ _ _ (show qb ≠ g from blk_ne hq hgb (by decide))).trans hq) _⟩⟩
 generalize (w2.setCell ⟨g, 4, none⟩ (.bool true)).alloc (.cells #[.int .u8 0, .bool false, .slice none 0 0, .int .u32 0] 37) = Wx at HGX HFX HRX HBX HBDX ⊢
 have hbl := HG2.out.gw.bel.size
 have hbx1 : w.heap.size + 1 < w2.heap.size := blk_lt HR2.out
 obtain ⟨bx, hbx⟩ : ∃ bx, bx = w2.heap.size := ⟨_, rfl⟩
 rw [← hbx] at HBX hbx1 ⊢
 have HTX := a_ (show TCb w0 w g v u b busy text (.iface 166 (.pointer (some ⟨qb, 0, none⟩))) code bx Wx from ⟨HGX.out, HFX.out, HBDX.out, HBX.out⟩)
 clear hbx hbl
 clear HG2 HF2 HR2 HBD hng2 gc4 gf4 gl
 clear HGX HFX HBDX HBX
 refine wp_region_noPanic ?_
 refine wp_region_held_drew (S := fun w' => Aside0 (TCb w0 w g v u b busy text (.iface 166 (.pointer (some ⟨qb, 0, none⟩))) code bx w') ∧ w'.cell? ⟨bx, 0, none⟩ = some (.int .u8 0) ∧ w'.cell? ⟨bx, 1, none⟩ = some (.bool false) ∧ w'.cell? ⟨bx, 2, none⟩ = some (.slice none 0 0) ∧ w'.cell? ⟨bx, 3, none⟩ = some (.int .u32 0)) (by kernel_rfl) (CSb (HTX.out.below (below_drew (Below.refl _ _)))) (fun hHeld => ?_)
 refine takeP 0 72 ?_
 refine takeP 1 73 ?_
 refine rd1_ 2 fun K hK => ?_
 go_simp
 go_at_call 101
 with_reducible refine (wrap_any _ _ _ _ hHeld.1.out.bad).mono ?_
 rintro e w' ⟨v3, rfl, hwr, hb⟩
 obtain ⟨q3, s3, v3', rfl, hq3, hq3b⟩ := hwr
 have HW3 := a_ (show IsWr w' _ code from ⟨q3, s3, v3', rfl, hq3, hq3b⟩)
 have HR3 := a_ (blk_below (blk_drew HRX.out) hb)
 have HT3 := a_ (hHeld.1.out.below hb)
 refine hK.out _ _ (CSb HT3.out) (fun hHeld => ?_)
 clear hK K
 try simp only [Act.put, z1_, z2_, z3_]
 obtain ⟨rc0, rf0, rc1, rf1, rc2, rf2, rc3, rf3⟩ := xf4_ HR3.out
 have rl := blk_lt HR3.out
 refine rd1_ 3 fun K hK => ?_
 go_simp
 refine hK.out _ _ (CSb (HT3.out.off4 HR3.out (by omega) (Nat.le_succ_of_le HLO.out) (Nat.le_succ _) _ _ _ _)) (fun hHeld => ?_)
 clear hK K
 try simp only [Act.put, z1_, z2_, z3_]
 refine takeP 4 5 ?_
 refine takeP 5 6 ?_
 refine wpAnyH_done (by kernel_rfl) ?_ _
 refine NoPanic.normal ?_
 have HW4 := a_ (wr_off4 HW3.out HR3.out (.int .u8 0) (.bool false) (.slice none 0 0) (.int .u32 0))
 have HT4 := a_ hHeld.1.out
 clear hHeld
 go_wp2_with fail
 exact bodyPost_ret (v := .tuple #[.agg #[.int .u8 0, .bool false, .slice none 0 0, .int .u32 0], .bool true, .iface _ _]) (by simp [results, Tryz.results76, go_sem, rc0, rc1, rc2, rc3]) rfl ⟨_, _, _, _, _, _, _, _, rfl, .inl HW4.out, HT4.out.gw, HT4.out.fr⟩
end Go.Proofs.YtpmeapdcjmaeiaaGreatDoor

namespace Go.Proofs.YtpmeapdcjmaeiaaGreatDoor.PAll
open Go.RowKit Go.Wa Go.Wb Go.Wc
attribute [local go_sem] max2_int min2_int max_two min_two max_three min_three max_four min_four
end Go.Proofs.YtpmeapdcjmaeiaaGreatDoor.PAll

namespace Go.Proofs.YtpmeapdcjmaeiaaGreatDoor.PAll
open Go.RowKit Go.Wa Go.Wb Go.Wc
attribute [local go_sem] max2_int min2_int max_two min_two max_three min_three max_four min_four
end Go.Proofs.YtpmeapdcjmaeiaaGreatDoor.PAll

namespace Go.Proofs.YtpmeapdcjmaeiaaGreatDoor.PAll
open Go.RowKit Go.Wa Go.Wb Go.Wc
attribute [local go_sem] max2_int min2_int max_two min_two max_three min_three max_four min_four
end Go.Proofs.YtpmeapdcjmaeiaaGreatDoor.PAll

namespace Go.Proofs.YtpmeapdcjmaeiaaGreatDoor.PAll
open Go.RowKit Go.Wa Go.Wb Go.Wc
attribute [local go_sem] max2_int min2_int max_two min_two max_three min_three max_four min_four
end Go.Proofs.YtpmeapdcjmaeiaaGreatDoor.PAll
namespace Go.Proofs.YtpmeapdcjmaeiaaGreatDoor.U
def writeC (c : Int) : List Int :=
 if c < 128 then [c] else if c < 2048 then [192 + c / 64, 128 + c % 64] else if c < 65536 then [224 + c / 4096, 128 + c / 64 % 64, 128 + c % 64]
 else [240 + c / 262144, 128 + c / 4096 % 64, 128 + c / 64 % 64, 128 + c % 64]
theorem len1 (c : Int) : (writeC c).length = 1 ↔ c < 128 := by
 unfold writeC; repeat' split
 all_goals simp; try omega
theorem len2 (c : Int) : (writeC c).length = 2 ↔ 128 ≤ c ∧ c < 2048 := by
 unfold writeC; repeat' split
 all_goals simp; try omega
end Go.Proofs.YtpmeapdcjmaeiaaGreatDoor.U
namespace Go.Proofs.YtpmeapdcjmaeiaaGreatDoor.U
open Go.RowKit Go.Wa Go.Wb PAll
def bs (s : ByteArray) : List Int := s.data.toList.map fun b => (b.toNat : Int)
theorem bs_length (s : ByteArray) : (bs s).length = s.size := by
 show (s.data.toList.map _).length = s.data.size
 rw [List.length_map, Array.length_toList]


def Bears (k : Nat) (c : Int) (s : ByteArray) (d : List Int) : Prop := message_Close.f k c s = some (true, 8, false, 0, d)
theorem bytes_bs (s : ByteArray) : bytesOf s = bs s := by
 unfold bytesOf bs
 rfl
def wholeL (s : ByteArray) : Nat → ByteArray
 | 0 => ByteArray.empty
 | n + 1 => if validC (bs (s.extract 0 (n + 1))) = true then s.extract 0 (n + 1) else wholeL s n
theorem wholeL_succ (s : ByteArray) (n : Nat) : wholeL s (n + 1) = if validC (bs (s.extract 0 (n + 1))) = true then s.extract 0 (n + 1) else wholeL s n := rfl
def wholeC (s : ByteArray) : ByteArray := if validC (bs s) = true then wholeL s (min s.size 123) else ByteArray.empty
theorem cut_size (s : ByteArray) (n : Nat) (h : n ≤ s.size) : (s.extract 0 n).size = n := by rw [ByteArray.size_extract]; omega
theorem wholeL_size (s : ByteArray) : ∀ n, n ≤ s.size → (wholeL s n).size ≤ n
 | 0, _ => by show (0 : Nat) ≤ 0; omega
 | n + 1, h => by
  unfold wholeL
  split
  ·rw [cut_size s _ h]; omega
  ·have := wholeL_size s n (by omega); omega
theorem wholeC_size (s : ByteArray) : (wholeC s).size ≤ 123 := by
 unfold wholeC
 split
 ·have := wholeL_size s (min s.size 123) (by omega); omega
 ·show (0 : Nat) ≤ 123; omega
theorem whole_l (s : ByteArray) : ∀ (n k : Nat), n ≤ s.size → n ≤ 123 → n + 200 ≤ k → message_whole.l0 k s (n : Int) = some (wholeL s n)
 | 0, k, _, _, hk => by
  obtain ⟨k, rfl⟩ : ∃ m, k = m + 1 := ⟨k - 1, by omega⟩
  unfold message_whole.l0
  rw [if_neg (by omega)]
  rfl
 | n + 1, k, hn, h1, hk => by
  obtain ⟨k, rfl⟩ : ∃ m, k = m + 1 := ⟨k - 1, by omega⟩
  unfold message_whole.l0
  rw [if_pos (by omega), if_pos (by omega), Int.toNat_natCast, bytes_bs, valid_f _ (by rw [bs_length, cut_size s _ hn]; omega) k (by rw [bs_length, cut_size s _ hn]; omega), Option.bind_some, show ((n + 1 : Nat) : Int) - 1 = (n : Int) by omega, whole_l s n k (by omega) (by omega) (by omega), wholeL_succ]
  split <;> rfl
theorem whole_f2 (s : ByteArray) (hs : s.size ≤ 3000) (k : Nat) (hk : 7000 ≤ k) : message_whole.f k s 123 = some (wholeC s) := by
 unfold message_whole.f wholeC
 rw [if_pos (by omega), bytes_bs, valid_f _ (by rw [bs_length]; omega) k (by rw [bs_length]; omega), Option.bind_some]
 have hm : min (s.size : Int) 123 = ((min s.size 123 : Nat) : Int) := by omega
 rw [hm, whole_l s (min s.size 123) k (by omega) (by omega) (by omega)]
 split <;> rfl
def dataC (c : Int) (s : ByteArray) : List Int := if toldB c = true then [(c / 256) % 256, c % 256] ++ bs (wholeC s) else []
theorem bears (c : Int) (s : ByteArray) (hs : s.size ≤ 3000) (k : Nat) (hk : 7000 ≤ k) : Bears k c s (dataC c s) := by
 unfold Bears message_Close.f dataC
 rw [show message_Told.f c = some (toldB c) from rfl, Option.bind_some, whole_f2 s hs k hk]
 by_cases h : toldB c = true
 ·rw [if_pos h, if_pos h, Option.bind_some, Option.bind_some]
  have := wholeC_size s
  rw [if_pos (by simp only [List.length_cons, List.length_nil]; omega), bytes_bs]
 ·rw [if_neg h, if_neg h]
end Go.Proofs.YtpmeapdcjmaeiaaGreatDoor.U
