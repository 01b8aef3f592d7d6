/- What the law's row rests on, part 7. -/
import Derived.Test.YtbjjobifpmjhhaaDoorZ6
import Derived.Deep.DeepCutAuto
import Derived.Deep.RegionHeld3
/- The gatherer's part, every way. -/
namespace Go.Proofs.YtbjjobifpmjhhaaDoor
open Go.RowKit Go.Proofs.YtbjjobifpmjhhaaDoorW.PrintWords Go.Proofs.YtbjjobifpmjhhaaDoorW.PrintLast Go.Proofs.YtbjjobifpmjhhaaDoorW.PrintMore Go.Proofs.YtbjjobifpmjhhaaDoor.PAll Go.Proofs.YtbjjobifpmjhhaaDoor.U
set_option linter.unusedVariables false
set_option linter.unusedSimpArgs false
/-- Within part: the gatherer, the piece's box, the piece's bytes. -/
structure Ps (w0 w : World) (g : Nat) (v0 u0 : Value) (gp : Nat) (fin : Bool) (op : Int) (mk : Bool) (key : Int) (A : Option Addr) (c : Nat) (d : List Int) (v u : Value) (b : List Int) (busy text : Bool) (gu : Nat) (f : List Int) (W : World) : Prop where
  gs : Gs w0 W g v u b busy text false gu f
  box : W.heap[gp]? = some (.cells #[.bool fin, .int .u8 op, .bool mk, .int .u32 key, .slice A d.length c] 26 (0, 0))
  low : w.heap.size ≤ gp
  fr : Fr w W g v0 u0
  dat : Dat W (.slice A d.length c) d
  dne : ∀ k, (Value.slice A d.length c).ownBlock = some k → v.ownBlock ≠ some k
  nv : NewOr w v0 v
  nu : NewU w u0 u
section
variable {w0 w : World} {g : Nat} {v0 u0 : Value} {gp : Nat} {fin : Bool} {op : Int} {mk : Bool} {key : Int} {A : Option Addr} {c : Nat} {d : List Int} {v u : Value} {b : List Int} {busy text : Bool} {gu : Nat} {f : List Int} {W W' : World}
theorem Ps.below (h : Ps w0 w g v0 u0 gp fin op mk key A c d v u b busy text gu f W) (hb : Below W.heap.size W W') : Ps w0 w g v0 u0 gp fin op mk key A c d v u b busy text gu f W' := ⟨h.gs.below hb, blk_below h.box hb, h.low, h.fr.below hb, h.dat.below hb, h.dne, h.nv, h.nu⟩
theorem psS (h : Ps w0 w g v0 u0 gp fin op mk key A c d v u b busy text gu f W) : Aside0 (Ps w0 w g v0 u0 gp fin op mk key A c d v u b busy text gu f W) ∧ W.cell? ⟨g, 0, none⟩ = some v ∧ W.cell? ⟨g, 1, none⟩ = some (.bool busy) ∧ W.cell? ⟨g, 2, none⟩ = some (.bool text) ∧ W.cell? ⟨g, 3, none⟩ = some u ∧ W.cell? ⟨gp, 0, none⟩ = some (.bool fin) ∧ W.cell? ⟨gp, 1, none⟩ = some (.int .u8 op) ∧ W.cell? ⟨gp, 4, none⟩ = some (.slice A d.length c) :=
  ⟨⟨h⟩, (blk_cell h.gs.gw.blk 0).trans rfl, (blk_cell h.gs.gw.blk 1).trans rfl, (blk_cell h.gs.gw.blk 2).trans rfl, (blk_cell h.gs.gw.blk 3).trans rfl, (blk_cell h.box 0).trans rfl, (blk_cell h.box 1).trans rfl, (blk_cell h.box 4).trans rfl⟩
theorem boxS (h : W.heap[gp]? = some (.cells #[.bool fin, .int .u8 op, .bool mk, .int .u32 key, .slice A d.length c] 26 (0, 0))) : Aside0 (W.heap[gp]? = some (.cells #[.bool fin, .int .u8 op, .bool mk, .int .u32 key, .slice A d.length c] 26 (0, 0))) ∧ W.cell? ⟨gp, 1, none⟩ = some (.int .u8 op) := ⟨⟨h⟩, (blk_cell h 1).trans rfl⟩
theorem Ps.ne (h : Ps w0 w g v0 u0 gp fin op mk key A c d v u b busy text gu f W) : gp ≠ g := blk_ne h.box h.gs.gw.blk (by decide)
theorem Ps.append (h : Ps w0 w g v0 u0 gp fin op mk key A c d v u b busy text gu f W) {v1 : Value} {w1 : World} (ho : Kd.R (Kd.int .u8) 5 w1 w0.heap.size (fun _ => True) v1 (b ++ d)) (hb : Below w0.heap.size w0 w1) (hg : W.grownBy w1 v.ownBlock) (hat : v1.ownBlock = v.ownBlock ∨ ∃ k, v1.ownBlock = some k ∧ W.heap.size ≤ k) : Ps w0 w g v0 u0 gp fin op mk key A c d v1 u (b ++ d) busy text gu f (w1.setCell ⟨g, 0, none⟩ v1) := by
  have hG1 := blk_grown h.gs.gw.blk hg (Kd.R_ne h.gs.gw.row h.gs.gw.blk (by decide))
  have hP1 := blk_grown h.box hg (Kd.R_ne h.gs.gw.row h.box (by decide))
  have hw : Gw w0 w1 g v u [] busy text false → True := fun _ => trivial
  refine ⟨⟨⟨blk_put hG1 0 v1 rfl, Kd.R_mono (Kd.R_far (Kd.R_types ho hG1 (fun q hq => g_ne hq)) (p := ⟨g, 0, none⟩) (fun k hk => hk.2) v1) (fun _ _ => trivial), Below.setCell hb (by show _ ≤ g; exact h.gs.gw.base) _, h.gs.gw.base, h.gs.gw.one, fun k e => by
      obtain ⟨cs, h1⟩ := h.gs.gw.uty k e
      exact ty_set ⟨cs, blk_grown h1 hg (Kd.R_ne h.gs.gw.row h1 (by decide))⟩⟩, fun hy => ?_⟩, (Below.heap_setCell w1 ⟨g, 0, none⟩ v1 gp h.ne).trans hP1, h.low, (h.fr.grown h.nv hg).set 0 v1, ?_, ?_, ?_, h.nu⟩
  · obtain ⟨h1, h2, h3⟩ := h.gs.chk hy
    refine ⟨h1, (h2.grown hg (Kd.R_ne h.gs.gw.row h2.1 (by decide))).far (p := ⟨g, 0, none⟩) (blk_ne h2.1 h.gs.gw.blk (by decide)) v1, h3⟩
  · refine h.dat.keep (fun k hk => (Below.heap_setCell w1 ⟨g, 0, none⟩ v1 k (fun e => ?_)).trans (hg.block k (h.dat.lt hk) (fun e => h.dne k hk e.symm)))
    obtain ⟨cs, fr, ht⟩ := h.dat.typed hk
    rw [show k = g from e, show W.heap[g]? = _ from h.gs.gw.blk] at ht
    injection ht with ht
    injection ht with _ ht _
    exact absurd ht (by decide)
  · intro k hk e
    rcases hat with e2 | ⟨j, e2, hj⟩
    · exact h.dne k hk (e2 ▸ e)
    · have h5 := h.dat.lt hk
      rw [e2] at e
      injection e with e
      omega
  · rcases hat with e2 | ⟨j, e2, hj⟩
    · rcases h.nv with e3 | e3 | e3
      · exact .inl (e2.trans e3)
      · exact .inr (.inl (e2.trans e3))
      · exact .inr (.inr (e2 ▸ e3))
    · exact .inr (.inr ⟨j, e2, Nat.le_trans h.fr.size hj⟩)
/-- Behind the checker's Feed. -/
structure Pq (w0 w : World) (g : Nat) (v0 u0 : Value) (gp : Nat) (fin : Bool) (op : Int) (mk : Bool) (key : Int) (A : Option Addr) (c : Nat) (d : List Int) (v u : Value) (b : List Int) (busy text : Bool) (gu : Nat) (l : List Int) (W : World) : Prop where
  gw : Gw w0 W g v u b busy text false
  ue : u = .pointer (some ⟨gu, 0, none⟩)
  chk : IsS107 w0 W gu (feedC s0 l).2.1.1 (feedC s0 l).2.1.2.1 (feedC s0 l).2.1.2.2 (feedC s0 l).2.2
  box : W.heap[gp]? = some (.cells #[.bool fin, .int .u8 op, .bool mk, .int .u32 key, .slice A d.length c] 26 (0, 0))
  fr : Fr w W g v0 u0
  nv : NewOr w v0 v
  nu : NewU w u0 u
theorem Gw.keep (h : Gw w0 W g v u b busy text false) {gu : Nat} {cs : Array Value} (ht : W.heap[gu]? = some (.cells cs 107 (0, 0))) (hk : KeepBut W W' gu none) (hB : Below w0.heap.size w0 W') (ht' : ∃ cs, W'.heap[gu]? = some (.cells cs 107 (0, 0))) : Gw w0 W' g v u b busy text false :=
  ⟨hk.blk h.blk (blk_ne h.blk ht (by decide)) (by simp), Kd.R_mono (Kd.R_step (Kd.R_types h.row ht (by intro q hq; simp [Kd.int, Kd.scalar] at hq; omega)) (fun k hok hlt => hk.2 k hlt hok.2 (by simp))) (fun _ _ => trivial), hB, h.base, h.one, fun k e => by
    by_cases hkg : k = gu
    · subst hkg; exact ht'
    · obtain ⟨cs, h1⟩ := h.uty k e
      exact ⟨cs, (hk.2 k (blk_lt h1) hkg (by simp)).trans h1⟩⟩
theorem Pq.keep {l : List Int} (h : Pq w0 w g v0 u0 gp fin op mk key A c d v u b busy text gu l W) (hI : IsS107 w0 W' gu (feedC s0 l).2.1.1 (feedC s0 l).2.1.2.1 (feedC s0 l).2.1.2.2 (feedC s0 l).2.2) (hB : Below w0.heap.size w0 W') (hk : KeepBut W W' gu none) : Pq w0 w g v0 u0 gp fin op mk key A c d v u b busy text gu l W' :=
  ⟨h.gw.keep h.chk.1 hk hB ⟨_, hI.1⟩, h.ue, hI, hk.blk h.box (blk_ne h.box h.chk.1 (by decide)) (by simp), h.fr.keep h.nu h.ue hk, h.nv, h.nu⟩
theorem Ps.feed (h : Ps w0 w g v0 u0 gp fin op mk key A c d v u b busy text gu f W) (hy : busy = true) {l : List Int} (hI : IsS107 w0 W' gu (feedC s0 l).2.1.1 (feedC s0 l).2.1.2.1 (feedC s0 l).2.1.2.2 (feedC s0 l).2.2) (hB : Below w0.heap.size w0 W') (hk : KeepBut W W' gu none) : Pq w0 w g v0 u0 gp fin op mk key A c d v u b busy text gu l W' :=
  ⟨h.gs.gw.keep (h.gs.chk hy).2.1.1 hk hB ⟨_, hI.1⟩, (h.gs.chk hy).1, hI, hk.blk h.box (blk_ne h.box (h.gs.chk hy).2.1.1 (by decide)) (by simp), h.fr.keep h.nu (h.gs.chk hy).1 hk, h.nv, h.nu⟩
theorem pqS {l : List Int} (h : Pq w0 w g v0 u0 gp fin op mk key A c d v u b busy text gu l W) : Aside0 (Pq w0 w g v0 u0 gp fin op mk key A c d v u b busy text gu l W) ∧ W.cell? ⟨g, 3, none⟩ = some (.pointer (some ⟨gu, 0, none⟩)) ∧ W.cell? ⟨gp, 0, none⟩ = some (.bool fin) :=
  ⟨⟨h⟩, (blk_cell h.gw.blk 3).trans (by rw [h.ue]; rfl), (blk_cell h.box 0).trans rfl⟩
end
theorem if_same_nil (p : Bool) : (if p = true then ([] : List Int) else []) = [] := by split <;> rfl
def textN (busy text : Bool) (op : Int) : Bool := if busy = true then text else op == 1
/-- The fault of a part; 0: none. -/
def partC (busy text fin : Bool) (op : Int) (b d : List Int) : Int :=
  if ((op == 0) != busy) = true then 1002 else if 4096 < b.length + d.length then 1009
  else if textN busy text op = true ∧ ((feedC s0 (b ++ d)).2.2 = true ∨ (fin = true ∧ validC (b ++ d) = false)) then 1007 else 0
def PartPost (w0 : World) (g : Nat) (v u : Value) (fin : Bool) (b d : List Int) (tn : Bool) (code : Int) (w : World) (e : Ending) (w' : World) : Prop :=
  (code = 0 ∧ e = .returned (.tuple #[.bool fin, .nilIface]) ∧ ∃ v' u' gu', Gs w0 w' g v' u' (b ++ d) true tn false gu' (if tn = true then b ++ d else []) ∧ Fr w w' g v u ∧ NewOr w v v' ∧ NewU w u u') ∨
  (code ≠ 0 ∧ ∃ vb, e = .returned (.tuple #[.bool false, vb]) ∧ IsBad w' vb code ∧ ∃ v' u' b' bu te, Gw w0 w' g v' u' b' bu te false ∧ Fr w w' g v u ∧ NewOr w v v')
set_option maxHeartbeats 8000000 in
set_option maxRecDepth 100000 in
theorem part_any {w0 w : World} {g : Nat} {v u : Value} {b : List Int} {busy text : Bool} {gu : Nat} {f : List Int} {fin : Bool} {op : Int} {mk : Bool} {key : Int} {A : Option Addr} {c : Nat} {d : List Int} (h : Gs w0 w g v u b busy text false gu f) (hff : (busy = true → f = if text = true then b else []) ∧ (busy = false → b = [])) (hd : Dat w (.slice A d.length c) d) (hdn : ∀ k, (Value.slice A d.length c).ownBlock = some k → v.ownBlock ≠ some k) (hbl : b.length ≤ 4096) (hdl : d.length ≤ 1000000000) : Calls Tryd.prog 33 #[.pointer (some ⟨g, 0, none⟩), .agg #[.bool fin, .int .u8 op, .bool mk, .int .u32 key, .slice A d.length c]] w (PartPost w0 g v u fin b d (textN busy text op) (partC busy text fin op b d) w) := by
  obtain ⟨Av, cv, rfl⟩ := Kd.R_slice h.gw.row
  have HDL := Aside0.mk hdl
  have hPs : Ps w0 w g (.slice Av b.length cv) u w.heap.size fin op mk key A c d (.slice Av b.length cv) u b busy text gu f (w.alloc (.cells #[.bool fin, .int .u8 op, .bool mk, .int .u32 key, .slice A d.length c] 26)) := ⟨h.below (below_alloc (Below.refl _ _) _), last_at _ _ _ rfl, Nat.le_refl _, (Fr.refl _ _ _ _).below (below_alloc (Below.refl _ _) _), hd.below (below_alloc (Below.refl _ _) _), hdn, .inl rfl, .inl rfl⟩
  have HBL := Aside0.mk hbl
  have HFF := Aside0.mk hff
  clear h hd hdn hdl hbl hff
  go_enter Tryd.func33, Tryd.ntmps33
  go_upto_region 1 with fail
  generalize w.alloc (.cells #[.bool fin, .int .u8 op, .bool mk, .int .u32 key, .slice A d.length c] 26) = w1 at hPs ⊢
  have HP1 := Aside0.mk hPs
  clear hPs
  refine wp_region_noPanic ?_
  refine wp_region_held_drew (S := fun w' => Aside0 (Ps w0 w g (.slice Av b.length cv) u w.heap.size fin op mk key A c d ((.slice Av b.length cv)) u b busy text gu f w') ∧ w'.cell? ⟨g, 0, none⟩ = some (.slice Av b.length cv) ∧ w'.cell? ⟨g, 1, none⟩ = some (.bool busy) ∧ w'.cell? ⟨g, 2, none⟩ = some (.bool text) ∧ w'.cell? ⟨g, 3, none⟩ = some (u) ∧ w'.cell? ⟨w.heap.size, 0, none⟩ = some (.bool fin) ∧ w'.cell? ⟨w.heap.size, 1, none⟩ = some (.int .u8 op) ∧ w'.cell? ⟨w.heap.size, 4, none⟩ = some (.slice A d.length c)) (by kernel_rfl) (psS (HP1.out.below (below_drew (Below.refl _ _)))) (fun hHeld => ?_)
  refine takeN (i := 0) (N := (some 6)) (v := ?v1) (a' := ?a1) rfl rfl (by kernel_rfl) (by kernel_rfl) (by kernel_rfl) (fun _ _ _ h => h) (Or.inl ⟨by rfl, ?hy1⟩) ?ha1 (by assumption) ?rest1
  case hy1 =>
    intro w_ hSw_
    go_simp
    first | done | (with_reducible rfl)
  case ha1 =>
    simp only [Act.put, List.setIfInBounds_toArray, List.set_cons_zero, List.set_cons_succ]
    rfl
  refine takeN (i := 1) (N := (some 7)) (v := ?v2) (a' := ?a2) rfl rfl (by kernel_rfl) (by kernel_rfl) (by kernel_rfl) (fun _ _ _ h => h) (Or.inl ⟨by rfl, ?hy2⟩) ?ha2 (by assumption) ?rest2
  case hy2 =>
    intro w_ hSw_
    go_simp
    first | done | (with_reducible rfl)
  case ha2 =>
    simp only [Act.put, List.setIfInBounds_toArray, List.set_cons_zero, List.set_cons_succ]
    rfl
  refine takeN (i := 2) (N := (some 8)) (v := ?v3) (a' := ?a3) rfl rfl (by kernel_rfl) (by kernel_rfl) (by kernel_rfl) (fun _ _ _ h => h) (Or.inl ⟨by rfl, ?hy3⟩) ?ha3 (by assumption) ?rest3
  case hy3 =>
    intro w_ hSw_
    go_simp
    first | done | (with_reducible rfl)
  case ha3 =>
    simp only [Act.put, List.setIfInBounds_toArray, List.set_cons_zero, List.set_cons_succ]
    rfl
  refine takeN (i := 3) (N := (some 9)) (v := ?v4) (a' := ?a4) rfl rfl (by kernel_rfl) (by kernel_rfl) (by kernel_rfl) (fun _ _ _ h => h) (Or.inl ⟨by rfl, ?hy4⟩) ?ha4 (by assumption) ?rest4
  case hy4 =>
    intro w_ hSw_
    go_simp
    first | done | (with_reducible rfl)
  case ha4 =>
    simp only [Act.put, List.setIfInBounds_toArray, List.set_cons_zero, List.set_cons_succ]
    rfl
  refine takeN (i := 4) (N := (some 10)) (v := ?v5) (a' := ?a5) rfl rfl (by kernel_rfl) (by kernel_rfl) (by kernel_rfl) (fun _ _ _ h => h) (Or.inl ⟨by rfl, ?hy5⟩) ?ha5 (by assumption) ?rest5
  case hy5 =>
    intro w_ hSw_
    go_simp
    first | done | (with_reducible rfl)
  case ha5 =>
    simp only [Act.put, List.setIfInBounds_toArray, List.set_cons_zero, List.set_cons_succ]
    rfl
  refine takeN (i := 5) (N := (some 11)) (v := ?v6) (a' := ?a6) rfl rfl (by kernel_rfl) (by kernel_rfl) (by kernel_rfl) (fun _ _ _ h => h) (Or.inl ⟨by rfl, ?hy6⟩) ?ha6 (by assumption) ?rest6
  case hy6 =>
    intro w_ hSw_
    go_simp
    first | done | (with_reducible rfl)
  case ha6 =>
    simp only [Act.put, List.setIfInBounds_toArray, List.set_cons_zero, List.set_cons_succ]
    rfl
  refine takeN (i := 6) (N := (some 12)) (v := ?v7) (a' := ?a7) rfl rfl (by kernel_rfl) (by kernel_rfl) (by kernel_rfl) (fun _ _ _ h => h) (Or.inl ⟨by rfl, ?hy7⟩) ?ha7 (by assumption) ?rest7
  case hy7 =>
    intro w_ hSw_
    go_simp
    first | done | (with_reducible rfl)
  case ha7 =>
    simp only [Act.put, List.setIfInBounds_toArray, List.set_cons_zero, List.set_cons_succ]
    rfl
  refine takeN (i := 7) (N := (some 13)) (v := ?v8) (a' := ?a8) rfl rfl (by kernel_rfl) (by kernel_rfl) (by kernel_rfl) (fun _ _ _ h => h) (Or.inl ⟨by rfl, ?hy8⟩) ?ha8 (by assumption) ?rest8
  case hy8 =>
    intro w_ hSw_
    go_simp
    first | done | (with_reducible rfl)
  case ha8 =>
    simp only [Act.put, List.setIfInBounds_toArray, List.set_cons_zero, List.set_cons_succ]
    rfl
  refine wpAnyH_done (by kernel_rfl) ?_ _
  refine NoPanic.normal ?_
  have HP2 := Aside0.mk hHeld.1.out
  clear hHeld HP1
  by_cases hop : ((op == 0) != busy) = true
  · have HCODE : Aside0 (partC busy text fin op b d = 1002) := ⟨by unfold partC; rw [if_pos hop]⟩
    have hopb : ((op == 0) == busy) = false := by cases h1 : (op == 0) <;> cases busy <;> simp_all
    have HOP := Aside0.mk hop
    clear hop
    have c1 := (psS HP2.out).2.2.1
    simp only [bne, hopb, Bool.not_false]
    go_wp2_with fail
    refine (socket_any 1002 _).mono ?_
    rintro e w3 ⟨vb, rfl, hbad, hb⟩
    go_wp2_with fail
    exact bodyPost_ret (v := .tuple #[.bool false, vb]) (by simp [results, Tryd.results33, go_sem]) rfl (.inr ⟨by rw [HCODE.out]; decide, vb, rfl, by rw [HCODE.out]; exact hbad, _, _, _, _, _, (HP2.out.below hb).gs.gw, (HP2.out.below hb).fr, (HP2.out.below hb).nv⟩)
  · have hopz : (op == 0) = busy := by cases h1 : (op == 0) <;> cases busy <;> simp_all
    simp only [hopz, beq_self_eq_true, Bool.not_true, bne_self_eq_false]
    have HOZ := Aside0.mk hopz
    clear hopz
    obtain ⟨tn, htn⟩ : ∃ tn, tn = textN busy text op := ⟨_, rfl⟩
    have HTN := Aside0.mk htn
    have c1 := (psS HP2.out).2.2.1
    have HC0 : Aside0 (partC busy text fin op b d = if 4096 < b.length + d.length then 1009 else if tn = true ∧ ((feedC s0 (b ++ d)).2.2 = true ∨ (fin = true ∧ validC (b ++ d) = false)) then 1007 else 0) := ⟨by unfold partC; rw [if_neg hop, htn]⟩
    clear htn hop
    have HFB := Aside0.mk (fun h => HFF.out.1 h)
    go_upto_if 19 with fail
    go_cut [0] (fun gv wc => gv = .pointer (some ⟨g, 0, none⟩) ∧ ∃ u' gu', Ps w0 w g (.slice Av b.length cv) u w.heap.size fin op mk key A c d ((.slice Av b.length cv)) u' b true tn gu' (if tn = true then b else []) wc)
    case first =>
      have HFB0 := Aside0.mk (fun h => HFF.out.2 h)
      clear HFF
      cases busy with
      | true =>
        have HFX := Aside0.mk (HFB.out rfl)
        clear HFB HFB0
        go_wp2_with fail
        go_meet
        case rel => exact ⟨rfl, u, gu, by
          have e : tn = text := HTN.out
          rw [e]
          have h := HP2.out
          rwa [HFX.out] at h⟩
      | false =>
        have hte : tn = (op == 1) := by rw [HTN.out]; rfl
        subst hte
        go_upto_region 4 with fail
        have hb0 := HFB0.out rfl
        have HBOX := Aside0.mk (blk_drew HP2.out.box)
        refine wp_region_noPanic ?_
        refine wp_region_held_drew (S := fun w' => Aside0 (w'.heap[w.heap.size]? = some (.cells #[.bool fin, .int .u8 op, .bool mk, .int .u32 key, .slice A d.length c] 26 (0, 0))) ∧ w'.cell? ⟨w.heap.size, 1, none⟩ = some (.int .u8 op)) (by kernel_rfl) (boxS (HBOX.out)) (fun hHeld => ?_)
        refine takeN (i := 0) (N := (some 20)) (v := ?v9) (a' := ?a9) rfl rfl (by kernel_rfl) (by kernel_rfl) (by kernel_rfl) (fun _ _ _ h => h) (Or.inl ⟨by rfl, ?hy9⟩) ?ha9 (by assumption) ?rest9
        case hy9 =>
          intro w_ hSw_
          go_simp
          first | done | (with_reducible rfl)
        case ha9 =>
          simp only [Act.put, List.setIfInBounds_toArray, List.set_cons_zero, List.set_cons_succ]
          rfl
        refine takeN (i := 1) (N := (some 21)) (v := ?v10) (a' := ?a10) rfl rfl (by kernel_rfl) (by kernel_rfl) (by kernel_rfl) (fun _ _ _ h => h) (Or.inl ⟨by rfl, ?hy10⟩) ?ha10 (by assumption) ?rest10
        case hy10 =>
          intro w_ hSw_
          go_simp
          first | done | (with_reducible rfl)
        case ha10 =>
          simp only [Act.put, List.setIfInBounds_toArray, List.set_cons_zero, List.set_cons_succ]
          rfl
        refine takeN (i := 2) (N := (some 22)) (v := ?v11) (a' := ?a11) rfl rfl (by kernel_rfl) (by kernel_rfl) (by kernel_rfl) (fun _ _ _ h => h) (Or.inl ⟨by rfl, ?hy11⟩) ?ha11 (by assumption) ?rest11
        case hy11 =>
          intro w_ hSw_
          go_simp
          first | done | (with_reducible rfl)
        case ha11 =>
          simp only [Act.put, List.setIfInBounds_toArray, List.set_cons_zero, List.set_cons_succ]
          rfl
        refine takeN (i := 3) (N := (some 23)) (v := ?v12) (a' := ?a12) rfl rfl (by kernel_rfl) (by kernel_rfl) (by kernel_rfl) (fun _ _ _ h => h) (Or.inl ⟨by rfl, ?hy12⟩) ?ha12 (by assumption) ?rest12
        case hy12 =>
          intro w_ hSw_
          go_simp
          first | done | (with_reducible rfl)
        case ha12 =>
          simp only [Act.put, List.setIfInBounds_toArray, List.set_cons_zero, List.set_cons_succ]
          rfl
        refine takeN (i := 4) (N := (some 24)) (v := ?v13) (a' := ?a13) rfl rfl (by kernel_rfl) (by kernel_rfl) (by kernel_rfl) (fun _ _ _ h => h) (Or.inl ⟨by rfl, ?hy13⟩) ?ha13 (by assumption) ?rest13
        case hy13 =>
          intro w_ hSw_
          go_simp
          first | done | (with_reducible rfl)
        case ha13 =>
          simp only [Act.put, List.setIfInBounds_toArray, List.set_cons_zero, List.set_cons_succ]
          rfl
        refine takeN (i := 5) (N := (some 25)) (v := ?v14) (a' := ?a14) rfl rfl (by kernel_rfl) (by kernel_rfl) (by kernel_rfl) (fun _ _ _ h => h) (Or.inl ⟨by rfl, ?hy14⟩) ?ha14 (by assumption) ?rest14
        case hy14 =>
          intro w_ hSw_
          go_simp
          first | done | (with_reducible rfl)
        case ha14 =>
          simp only [Act.put, List.setIfInBounds_toArray, List.set_cons_zero, List.set_cons_succ]
          rfl
        refine wpAnyH_ready (rs := [6]) (by kernel_rfl) (by simp) ?_
        refine AllReadyH.cons rfl (fun K hK => ?_) AllReadyH.nil
        go_simp
        go_at_call 39
        refine (utf_New.calls 0 128 191 false w1.drew.drew w1.drew.drew (Below.refl _ _) rfl).mono ?_
        rintro e w4 ⟨gu4, rfl, hI4', hB4, hb4⟩
        have hnu4 : w.heap.size ≤ gu4 := Nat.le_trans HP2.out.fr.size hI4'.2
        have hI4 : IsS107 w0 w4 gu4 0 128 191 false := ⟨hI4'.1, Nat.le_trans HP2.out.gs.gw.bel.size hI4'.2⟩
        clear hI4'
        have HP4 := Aside0.mk ((HP2.out.below (below_drew (Below.refl _ _))).below hb4)
        have HI4 := Aside0.mk hI4
        have HPN := Aside0.mk HP4.out.ne
        have HGN : Aside0 (gu4 ≠ g) := ⟨blk_ne hI4.1 HP4.out.gs.gw.blk (by decide)⟩
        have HTF2 : Aside0 ((feedC s0 (if (op == 1) = true then b else [])).2.2 = false) := ⟨by rw [hb0, if_same_nil]; rfl⟩
        have HNU : Aside0 (w.heap.size ≤ gu4) := ⟨hnu4⟩
        clear hI4 hB4 hb4 HBOX
        refine hK.out _ _ (boxS (HP4.out.box)) (fun hHeld => ?_)
        clear hK K
        try simp only [Act.put, List.setIfInBounds_toArray, List.set_cons_zero, List.set_cons_succ]
        refine takeN (i := 7) (N := (some 27)) (v := ?v15) (a' := ?a15) rfl rfl (by kernel_rfl) (by kernel_rfl) (by kernel_rfl) (fun _ _ _ h => h) (Or.inl ⟨by rfl, ?hy15⟩) ?ha15 (by assumption) ?rest15
        case hy15 =>
          intro w_ hSw_
          go_simp
          first | done | (with_reducible rfl)
        case ha15 =>
          simp only [Act.put, List.setIfInBounds_toArray, List.set_cons_zero, List.set_cons_succ]
          rfl
        refine takeN (i := 8) (N := (some 28)) (v := ?v16) (a' := ?a16) rfl rfl (by kernel_rfl) (by kernel_rfl) (by kernel_rfl) (fun _ _ _ h => h) (Or.inl ⟨by rfl, ?hy16⟩) ?ha16 (by assumption) ?rest16
        case hy16 =>
          intro w_ hSw_
          go_simp
          first | done | (with_reducible rfl)
        case ha16 =>
          simp only [Act.put, List.setIfInBounds_toArray, List.set_cons_zero, List.set_cons_succ]
          rfl
        have kc_ : w4.cell? ⟨g, 1, none⟩ = some (.bool false) := (blk_cell HP4.out.gs.gw.blk 1).trans rfl
        have kf_ := blk_frozen HP4.out.gs.gw.blk 1
        have kl_ := blk_lt HP4.out.gs.gw.blk
        refine wpAnyH_ready (rs := [9]) (by kernel_rfl) (by simp) ?_
        refine AllReadyH.cons rfl (fun K hK => ?_) AllReadyH.nil
        go_simp
        have hg_ := HP4.out.gs.gw.setBusy true
        have hb_ := (Below.heap_setCell w4 ⟨g, 1, none⟩ (.bool true) _ HPN.out).trans HP4.out.box
        have hf_ := HP4.out.fr.set 1 (.bool true)
        have hi_ := HI4.out.far (p := ⟨g, 1, none⟩) HGN.out (.bool true)
        have hd_ := HP4.out.dat.keep (W' := w4.setCell ⟨g, 1, none⟩ (.bool true)) (fun k hk => Below.heap_setCell _ _ _ _ (fun e => by
          obtain ⟨cs, fr, ht⟩ := HP4.out.dat.typed hk
          rw [e] at ht
          rw [show w4.heap[g]? = _ from HP4.out.gs.gw.blk] at ht
          injection ht with ht
          injection ht with _ ht _
          exact absurd ht (by decide)))
        generalize w4.setCell ⟨g, 1, none⟩ (.bool true) = w5 at hg_ hb_ hf_ hi_ hd_ ⊢
        clear kc_ kf_ kl_
        have HG5 := Aside0.mk hg_
        have HB5 := Aside0.mk hb_
        have HF5 := Aside0.mk hf_
        have HIx5 := Aside0.mk hi_
        have HD5 := Aside0.mk hd_
        clear hg_ hb_ hf_ hi_ hd_
        refine hK.out _ _ (boxS (HB5.out)) (fun hHeld => ?_)
        clear hK K
        try simp only [Act.put, List.setIfInBounds_toArray, List.set_cons_zero, List.set_cons_succ]
        refine takeN (i := 10) (N := (some 29)) (v := ?v17) (a' := ?a17) rfl rfl (by kernel_rfl) (by kernel_rfl) (by kernel_rfl) (fun _ _ _ h => h) (Or.inl ⟨by rfl, ?hy17⟩) ?ha17 (by assumption) ?rest17
        case hy17 =>
          intro w_ hSw_
          go_simp
          first | done | (with_reducible rfl)
        case ha17 =>
          simp only [Act.put, List.setIfInBounds_toArray, List.set_cons_zero, List.set_cons_succ]
          rfl
        refine takeN (i := 11) (N := (some 30)) (v := ?v18) (a' := ?a18) rfl rfl (by kernel_rfl) (by kernel_rfl) (by kernel_rfl) (fun _ _ _ h => h) (Or.inl ⟨by rfl, ?hy18⟩) ?ha18 (by assumption) ?rest18
        case hy18 =>
          intro w_ hSw_
          go_simp
          first | done | (with_reducible rfl)
        case ha18 =>
          simp only [Act.put, List.setIfInBounds_toArray, List.set_cons_zero, List.set_cons_succ]
          rfl
        have kc_ : w5.cell? ⟨g, 2, none⟩ = some (.bool text) := (blk_cell HG5.out.blk 2).trans rfl
        have kf_ := blk_frozen HG5.out.blk 2
        have kl_ := blk_lt HG5.out.blk
        refine wpAnyH_ready (rs := [12]) (by kernel_rfl) (by simp) ?_
        refine AllReadyH.cons rfl (fun K hK => ?_) AllReadyH.nil
        go_simp
        have hg_ := HG5.out.setText (op == 1)
        have hb_ := (Below.heap_setCell w5 ⟨g, 2, none⟩ (.bool (op == 1)) _ HPN.out).trans HB5.out
        have hf_ := HF5.out.set 2 (.bool (op == 1))
        have hi_ := HIx5.out.far (p := ⟨g, 2, none⟩) HGN.out (.bool (op == 1))
        have hd_ := HD5.out.keep (W' := w5.setCell ⟨g, 2, none⟩ (.bool (op == 1))) (fun k hk => Below.heap_setCell _ _ _ _ (fun e => by
          obtain ⟨cs, fr, ht⟩ := HD5.out.typed hk
          rw [e] at ht
          rw [show w5.heap[g]? = _ from HG5.out.blk] at ht
          injection ht with ht
          injection ht with _ ht _
          exact absurd ht (by decide)))
        generalize w5.setCell ⟨g, 2, none⟩ (.bool (op == 1)) = w6 at hg_ hb_ hf_ hi_ hd_ ⊢
        clear kc_ kf_ kl_
        have HG6 := Aside0.mk hg_
        have HB6 := Aside0.mk hb_
        have HF6 := Aside0.mk hf_
        have HIx6 := Aside0.mk hi_
        have HD6 := Aside0.mk hd_
        clear hg_ hb_ hf_ hi_ hd_
        refine hK.out _ _ (boxS (HB6.out)) (fun hHeld => ?_)
        clear hK K
        try simp only [Act.put, List.setIfInBounds_toArray, List.set_cons_zero, List.set_cons_succ]
        refine takeN (i := 13) (N := (some 31)) (v := ?v19) (a' := ?a19) rfl rfl (by kernel_rfl) (by kernel_rfl) (by kernel_rfl) (fun _ _ _ h => h) (Or.inl ⟨by rfl, ?hy19⟩) ?ha19 (by assumption) ?rest19
        case hy19 =>
          intro w_ hSw_
          go_simp
          first | done | (with_reducible rfl)
        case ha19 =>
          simp only [Act.put, List.setIfInBounds_toArray, List.set_cons_zero, List.set_cons_succ]
          rfl
        refine takeN (i := 14) (N := (some 32)) (v := ?v20) (a' := ?a20) rfl rfl (by kernel_rfl) (by kernel_rfl) (by kernel_rfl) (fun _ _ _ h => h) (Or.inl ⟨by rfl, ?hy20⟩) ?ha20 (by assumption) ?rest20
        case hy20 =>
          intro w_ hSw_
          go_simp
          first | done | (with_reducible rfl)
        case ha20 =>
          simp only [Act.put, List.setIfInBounds_toArray, List.set_cons_zero, List.set_cons_succ]
          rfl
        have kc_ : w6.cell? ⟨g, 3, none⟩ = some (u) := (blk_cell HG6.out.blk 3).trans rfl
        have kf_ := blk_frozen HG6.out.blk 3
        have kl_ := blk_lt HG6.out.blk
        refine wpAnyH_ready (rs := [15]) (by kernel_rfl) (by simp) ?_
        refine AllReadyH.cons rfl (fun K hK => ?_) AllReadyH.nil
        go_simp
        have hg_ := HG6.out.setU (.pointer (some ⟨gu4, 0, none⟩)) rfl (fun k e => by injection e with e; injection e with e; injection e with e; exact ⟨_, e ▸ HIx6.out.1⟩)
        have hb_ := (Below.heap_setCell w6 ⟨g, 3, none⟩ (.pointer (some ⟨gu4, 0, none⟩)) _ HPN.out).trans HB6.out
        have hf_ := HF6.out.set 3 (.pointer (some ⟨gu4, 0, none⟩))
        have hi_ := HIx6.out.far (p := ⟨g, 3, none⟩) HGN.out (.pointer (some ⟨gu4, 0, none⟩))
        have hd_ := HD6.out.keep (W' := w6.setCell ⟨g, 3, none⟩ (.pointer (some ⟨gu4, 0, none⟩))) (fun k hk => Below.heap_setCell _ _ _ _ (fun e => by
          obtain ⟨cs, fr, ht⟩ := HD6.out.typed hk
          rw [e] at ht
          rw [show w6.heap[g]? = _ from HG6.out.blk] at ht
          injection ht with ht
          injection ht with _ ht _
          exact absurd ht (by decide)))
        generalize w6.setCell ⟨g, 3, none⟩ (.pointer (some ⟨gu4, 0, none⟩)) = w7 at hg_ hb_ hf_ hi_ hd_ ⊢
        clear kc_ kf_ kl_
        have HG7 := Aside0.mk hg_
        have HB7 := Aside0.mk hb_
        have HF7 := Aside0.mk hf_
        have HIx7 := Aside0.mk hi_
        have HD7 := Aside0.mk hd_
        clear hg_ hb_ hf_ hi_ hd_
        refine hK.out _ _ (boxS (HB7.out)) (fun hHeld => ?_)
        clear hK K
        try simp only [Act.put, List.setIfInBounds_toArray, List.set_cons_zero, List.set_cons_succ]
        refine wpAnyH_done (by kernel_rfl) ?_ _
        refine NoPanic.normal ?_
        clear hHeld
        go_wp2_with fail
        go_meet
        case rel => exact ⟨rfl, .pointer (some ⟨gu4, 0, none⟩), gu4, ⟨HG7.out, fun _ => ⟨rfl, by rw [hb0, if_same_nil]; exact HIx7.out, HTF2.out⟩⟩, HB7.out, Nat.le_refl _, HF7.out, HD7.out, HP4.out.dne, HP4.out.nv, .inr ⟨gu4, rfl, HNU.out⟩⟩
    case rest =>
      obtain ⟨rfl, u2, gu2, hP3⟩ := hcut
      have HP3 := Aside0.mk hP3
      clear hP3 HP2 c1
      go_upto_region 5 with fail
      refine wp_region_noPanic ?_
      refine wp_region_held_drew (S := fun w' => Aside0 (Ps w0 w g (.slice Av b.length cv) u w.heap.size fin op mk key A c d ((.slice Av b.length cv)) u2 b true tn gu2 (if tn = true then b else []) w') ∧ w'.cell? ⟨g, 0, none⟩ = some (.slice Av b.length cv) ∧ w'.cell? ⟨g, 1, none⟩ = some (.bool true) ∧ w'.cell? ⟨g, 2, none⟩ = some (.bool tn) ∧ w'.cell? ⟨g, 3, none⟩ = some (u2) ∧ w'.cell? ⟨w.heap.size, 0, none⟩ = some (.bool fin) ∧ w'.cell? ⟨w.heap.size, 1, none⟩ = some (.int .u8 op) ∧ w'.cell? ⟨w.heap.size, 4, none⟩ = some (.slice A d.length c)) (by kernel_rfl) (psS (HP3.out.below (below_drew (Below.refl _ _)))) (fun hHeld => ?_)
      refine takeN (i := 0) (N := (some 33)) (v := ?v21) (a' := ?a21) rfl rfl (by kernel_rfl) (by kernel_rfl) (by kernel_rfl) (fun _ _ _ h => h) (Or.inl ⟨by rfl, ?hy21⟩) ?ha21 (by assumption) ?rest21
      case hy21 =>
        intro w_ hSw_
        go_simp
        first | done | (with_reducible rfl)
      case ha21 =>
        simp only [Act.put, List.setIfInBounds_toArray, List.set_cons_zero, List.set_cons_succ]
        rfl
      refine takeN (i := 1) (N := (some 34)) (v := ?v22) (a' := ?a22) rfl rfl (by kernel_rfl) (by kernel_rfl) (by kernel_rfl) (fun _ _ _ h => h) (Or.inl ⟨by rfl, ?hy22⟩) ?ha22 (by assumption) ?rest22
      case hy22 =>
        intro w_ hSw_
        go_simp
        first | done | (with_reducible rfl)
      case ha22 =>
        simp only [Act.put, List.setIfInBounds_toArray, List.set_cons_zero, List.set_cons_succ]
        rfl
      refine takeN (i := 2) (N := (some 35)) (v := ?v23) (a' := ?a23) rfl rfl (by kernel_rfl) (by kernel_rfl) (by kernel_rfl) (fun _ _ _ h => h) (Or.inl ⟨by rfl, ?hy23⟩) ?ha23 (by assumption) ?rest23
      case hy23 =>
        intro w_ hSw_
        go_simp
        first | done | (with_reducible rfl)
      case ha23 =>
        simp only [Act.put, List.setIfInBounds_toArray, List.set_cons_zero, List.set_cons_succ]
        rfl
      refine takeN (i := 3) (N := (some 36)) (v := ?v24) (a' := ?a24) rfl rfl (by kernel_rfl) (by kernel_rfl) (by kernel_rfl) (fun _ _ _ h => h) (Or.inl ⟨by rfl, ?hy24⟩) ?ha24 (by assumption) ?rest24
      case hy24 =>
        intro w_ hSw_
        go_simp
        first | done | (with_reducible rfl)
      case ha24 =>
        simp only [Act.put, List.setIfInBounds_toArray, List.set_cons_zero, List.set_cons_succ]
        rfl
      refine takeN (i := 4) (N := (some 37)) (v := ?v25) (a' := ?a25) rfl rfl (by kernel_rfl) (by kernel_rfl) (by kernel_rfl) (fun _ _ _ h => h) (Or.inl ⟨by rfl, ?hy25⟩) ?ha25 (by assumption) ?rest25
      case hy25 =>
        intro w_ hSw_
        go_simp
        first | done | (with_reducible rfl)
      case ha25 =>
        simp only [Act.put, List.setIfInBounds_toArray, List.set_cons_zero, List.set_cons_succ]
        rfl
      refine takeN (i := 5) (N := (some 38)) (v := ?v26) (a' := ?a26) rfl rfl (by kernel_rfl) (by kernel_rfl) (by kernel_rfl) (fun _ _ _ h => h) (Or.inl ⟨by rfl, ?hy26⟩) ?ha26 (by assumption) ?rest26
      case hy26 =>
        intro w_ hSw_
        go_simp
        first | done | (with_reducible rfl)
      case ha26 =>
        simp only [Act.put, List.setIfInBounds_toArray, List.set_cons_zero, List.set_cons_succ]
        rfl
      refine takeN (i := 6) (N := (some 39)) (v := ?v27) (a' := ?a27) rfl rfl (by kernel_rfl) (by kernel_rfl) (by kernel_rfl) (fun _ _ _ h => h) (Or.inl ⟨by rfl, ?hy27⟩) ?ha27 (by assumption) ?rest27
      case hy27 =>
        intro w_ hSw_
        go_simp
        first | done | (with_reducible rfl)
      case ha27 =>
        simp only [Act.put, List.setIfInBounds_toArray, List.set_cons_zero, List.set_cons_succ]
        rfl
      refine takeN (i := 7) (N := (some 40)) (v := ?v28) (a' := ?a28) rfl rfl (by kernel_rfl) (by kernel_rfl) (by kernel_rfl) (fun _ _ _ h => h) (Or.inl ⟨by rfl, ?hy28⟩) ?ha28 (by assumption) ?rest28
      case hy28 =>
        intro w_ hSw_
        go_simp
        first | done | (with_reducible rfl)
      case ha28 =>
        simp only [Act.put, List.setIfInBounds_toArray, List.set_cons_zero, List.set_cons_succ]
        rfl
      refine takeN (i := 8) (N := (some 41)) (v := ?v29) (a' := ?a29) rfl rfl (by kernel_rfl) (by kernel_rfl) (by kernel_rfl) (fun _ _ _ h => h) (Or.inl ⟨by rfl, ?hy29⟩) ?ha29 (by assumption) ?rest29
      case hy29 =>
        intro w_ hSw_
        go_simp
        first | done | (with_reducible rfl)
      case ha29 =>
        simp only [Act.put, List.setIfInBounds_toArray, List.set_cons_zero, List.set_cons_succ]
        rfl
      refine takeN (i := 9) (N := (some 42)) (v := ?v30) (a' := ?a30) rfl rfl (by kernel_rfl) (by kernel_rfl) (by kernel_rfl) (fun _ _ _ h => h) (Or.inl ⟨by rfl, ?hy30⟩) ?ha30 (by assumption) ?rest30
      case hy30 =>
        intro w_ hSw_
        go_simp
        first | done | (with_reducible rfl)
      case ha30 =>
        simp only [Act.put, List.setIfInBounds_toArray, List.set_cons_zero, List.set_cons_succ]
        rfl
      refine wpAnyH_done (by kernel_rfl) ?_ _
      refine NoPanic.normal ?_
      have HP5 := Aside0.mk hHeld.1.out
      clear hHeld HP3
      have hbl := HBL.out
      have hdl := HDL.out
      have hw : wrap64 (4096 - (b.length : Int)) = ((4096 - b.length : Nat) : Int) := by unfold wrap64; omega
      obtain ⟨q4, hq4⟩ : ∃ q4 : Nat, q4 = 4096 - b.length := ⟨_, rfl⟩
      try simp only [i64_w]
      simp only [hw]
      rw [← hq4]
      clear hw
      by_cases hgr : 4096 < b.length + d.length
      · have HCODE : Aside0 (partC busy text fin op b d = 1009) := ⟨by rw [HC0.out, if_pos hgr]⟩
        have hlt : q4 < d.length := by omega
        clear hbl hdl hq4 hgr
        go_wp2_with fail
        refine (socket_any 1009 _).mono ?_
        rintro e w3 ⟨vb, rfl, hbad, hb⟩
        go_wp2_with fail
        exact bodyPost_ret (v := .tuple #[.bool false, vb]) (by simp [results, Tryd.results33, go_sem]) rfl (.inr ⟨by rw [HCODE.out]; decide, vb, rfl, by rw [HCODE.out]; exact hbad, _, _, _, _, _, (HP5.out.below hb).gs.gw, (HP5.out.below hb).fr, (HP5.out.below hb).nv⟩)
      · have HC1 : Aside0 (partC busy text fin op b d = if tn = true ∧ ((feedC s0 (b ++ d)).2.2 = true ∨ (fin = true ∧ validC (b ++ d) = false)) then 1007 else 0) := ⟨by rw [HC0.out, if_neg hgr]⟩
        have hlt : ¬ q4 < d.length := by omega
        have hltd : decide ((q4 : Int) < (d.length : Int)) = false := decide_eq_false (by omega)
        clear hbl hdl hq4
        have hcc := psS HP5.out
        have hc0 := hcc.2.1
        have hc4 := hcc.2.2.2.2.2.2.2
        clear hcc
        go_upto_region 7 with fail
        have hinfo : (Tryd.prog.info? 5).map (fun i => (i.zero, i.size, i.bytes)) = some (some (.int .u8 0), 1, 1) := by kernel_rfl
        have HI := Aside0.mk hinfo
        clear hinfo
        have HLL := Aside0.mk (show (b.length + d.length) * 1 ≤ 140737488355328 by have := HBL.out; have := HDL.out; omega)
        refine start_ (n := 11) (S := fun w' => w'.cell? ⟨g, 0, none⟩ = some (.slice Av b.length cv) ∧ w'.cell? ⟨w.heap.size, 4, none⟩ = some (.slice A d.length c)) (ds := [10]) #[false, false, false, false, false, false, false, false, false, false, false] (by kernel_rfl) rfl rfl (⟨hc0, hc4⟩) (fun hHeld => ?_)
        refine pure_ (i := 0) (N := (some 44)) (v := ?_) (a' := ?_) #[true, false, false, false, false, false, false, false, false, false, false] rfl rfl (by kernel_rfl) (fun _ _ _ h => h) (Or.inl ⟨by rfl, ?_⟩) ?_ ?_
        rotate_left
        · intro w'
          go_simp
          first | done | with_reducible rfl
        rotate_left
        · simp only [Act.put, List.setIfInBounds_toArray, List.set_cons_zero, List.set_cons_succ, i64_w, i32_w]
          rfl
        refine pure_ (i := 1) (N := (some 45)) (v := ?_) (a' := ?_) #[true, true, false, false, false, false, false, false, false, false, false] rfl rfl (by kernel_rfl) (fun _ _ _ h => h) (Or.inl ⟨by rfl, ?_⟩) ?_ ?_
        rotate_left
        · intro w'
          go_simp
          first | done | with_reducible rfl
        rotate_left
        · simp only [Act.put, List.setIfInBounds_toArray, List.set_cons_zero, List.set_cons_succ, i64_w, i32_w]
          rfl
        refine pure_ (i := 2) (N := (some 46)) (v := ?_) (a' := ?_) #[true, true, true, false, false, false, false, false, false, false, false] rfl rfl (by kernel_rfl) (fun _ _ _ h => h) (Or.inl ⟨by rfl, ?_⟩) ?_ ?_
        rotate_left
        · intro w'
          go_simp
          first | done | with_reducible rfl
        rotate_left
        · simp only [Act.put, List.setIfInBounds_toArray, List.set_cons_zero, List.set_cons_succ, i64_w, i32_w]
          rfl
        refine pure_ (i := 3) (N := (some 47)) (v := ?_) (a' := ?_) #[true, true, true, true, false, false, false, false, false, false, false] rfl rfl (by kernel_rfl) (fun _ _ _ h => h) (Or.inl ⟨by rfl, ?_⟩) ?_ ?_
        rotate_left
        · intro w'
          go_simp
          first | done | with_reducible rfl
        rotate_left
        · simp only [Act.put, List.setIfInBounds_toArray, List.set_cons_zero, List.set_cons_succ, i64_w, i32_w]
          rfl
        refine take_ (i := 4) (N := (some 48)) (v := ?_) (a' := ?_) #[true, true, true, true, true, false, false, false, false, false, false] rfl rfl (by kernel_rfl) (fun _ _ _ h => h) (Or.inl ⟨by rfl, ?_⟩) hHeld ?_ ?_
        rotate_left
        · rintro w' ⟨s0, s1⟩
          go_simp
          first | done | with_reducible rfl
        rotate_left
        · simp only [Act.put, List.setIfInBounds_toArray, List.set_cons_zero, List.set_cons_succ, i64_w, i32_w]
          rfl
        refine pure_ (i := 5) (N := (some 49)) (v := ?_) (a' := ?_) #[true, true, true, true, true, true, false, false, false, false, false] rfl rfl (by kernel_rfl) (fun _ _ _ h => h) (Or.inl ⟨by rfl, ?_⟩) ?_ ?_
        rotate_left
        · intro w'
          go_simp
          first | done | with_reducible rfl
        rotate_left
        · simp only [Act.put, List.setIfInBounds_toArray, List.set_cons_zero, List.set_cons_succ, i64_w, i32_w]
          rfl
        refine take_ (i := 6) (N := (some 50)) (v := ?_) (a' := ?_) #[true, true, true, true, true, true, true, false, false, false, false] rfl rfl (by kernel_rfl) (fun _ _ _ h => h) (Or.inl ⟨by rfl, ?_⟩) hHeld ?_ ?_
        rotate_left
        · rintro w' ⟨s0, s1⟩
          go_simp
          first | done | with_reducible rfl
        rotate_left
        · simp only [Act.put, List.setIfInBounds_toArray, List.set_cons_zero, List.set_cons_succ, i64_w, i32_w]
          rfl
        refine one_ (i := 7) (N := (some 51)) #[true, true, true, true, true, true, true, true, false, false, false] rfl rfl (by kernel_rfl) (by decide) (fun K hK => ?_)
        refine Kd.R_append_rows_step (Kd.int .u8) (w0 := w0) w0.heap.size (by rfl) (.tmp 48) (.tmp 50) 24 5 (.int .u8 0) 1 rfl Tryd.underlying24 HI.out rfl (by decide) (by omega) (.slice Av b.length cv) b d _ _ _ (fun _ => True) (fun _ => False) rfl rfl ?aO ?aR (fun _ _ h => h) (fun _ h => h.elim) ?aF ?aB ?aS ?aL ?_
        (case aO => exact Kd.R_drew HP5.out.gs.gw.row)
        (case aR => exact Kd.C_drew (Dat.C HP5.out.dat))
        (case aF => exact fun _ _ => trivial)
        (case aB => exact below_drew HP5.out.gs.gw.bel)
        (case aS => exact HP5.out.gs.gw.bel.size)
        (case aL => exact HLL.out)
        intro v1 w1' ho hb hg1 hat
        obtain ⟨A1, c1, e1⟩ := Kd.R_slice ho
        obtain ⟨mm, hmm⟩ : ∃ mm, mm = (b ++ d).length := ⟨_, rfl⟩
        rw [← hmm] at e1
        clear hmm
        subst e1
        have hPd := HP5.out.below (below_drew (Below.refl _ _))
        have hP8 := hPd.append ho hb hg1 hat
        have hk1 := blk_grown hPd.gs.gw.blk hg1 (Kd.R_ne hPd.gs.gw.row hPd.gs.gw.blk (by decide))
        have hk2 := blk_grown hPd.box hg1 (Kd.R_ne hPd.gs.gw.row hPd.box (by decide))
        have g0 : w1'.cell? ⟨g, 0, none⟩ = some (.slice Av b.length cv) := (blk_cell hk1 0).trans rfl
        have g4 : w1'.cell? ⟨w.heap.size, 4, none⟩ = some (.slice A d.length c) := (blk_cell hk2 4).trans rfl
        have gf0 := blk_frozen hk1 0
        have gl := blk_lt hk1
        have HP8 := Aside0.mk hP8
        clear hPd hP8 hk1 hk2 ho hb hg1 hat
        refine hK.out _ _ (⟨g0, g4⟩) (fun hHeld => ?_)
        clear hK K
        refine norm_ (a' := ?_) ?_ ?_
        rotate_left
        · show Act.put _ (some 51) _ = _
          simp only [Act.put, List.setIfInBounds_toArray, List.set_cons_zero, List.set_cons_succ, i64_w, i32_w]
          rfl
        refine pure_ (i := 8) (N := (some 52)) (v := ?_) (a' := ?_) #[true, true, true, true, true, true, true, true, true, false, false] rfl rfl (by kernel_rfl) (fun _ _ _ h => h) (Or.inl ⟨by rfl, ?_⟩) ?_ ?_
        rotate_left
        · intro w'
          go_simp
          first | done | with_reducible rfl
        rotate_left
        · simp only [Act.put, List.setIfInBounds_toArray, List.set_cons_zero, List.set_cons_succ, i64_w, i32_w]
          rfl
        refine pure_ (i := 9) (N := (some 53)) (v := ?_) (a' := ?_) #[true, true, true, true, true, true, true, true, true, true, false] rfl rfl (by kernel_rfl) (fun _ _ _ h => h) (Or.inl ⟨by rfl, ?_⟩) ?_ ?_
        rotate_left
        · intro w'
          go_simp
          first | done | with_reducible rfl
        rotate_left
        · simp only [Act.put, List.setIfInBounds_toArray, List.set_cons_zero, List.set_cons_succ, i64_w, i32_w]
          rfl
        refine last_ (i := 10) (N := none) #[true, true, true, true, true, true, true, true, true, true, true] rfl rfl (by kernel_rfl) (by decide) (fun K hK => ?_)
        go_simp
        refine hK.out _ _ ?_
        clear hK K
        refine done_ (by kernel_rfl) ?_
        generalize w1'.setCell ⟨g, 0, none⟩ (.slice A1 mm c1) = w8 at HP8 ⊢
        clear g0 g4 gf0 gl hc0 hc4 HP5
        have hcc := psS HP8.out
        have k2 := hcc.2.2.2.1
        have k3 := hcc.2.2.2.2.1
        have p0 := hcc.2.2.2.2.2.1
        clear hcc
        cases tn with
        | false =>
          go_wp2_with fail
          rw [← HTN.out]
          exact bodyPost_ret (v := .tuple #[.bool fin, .nilIface]) (by simp [results, Tryd.results33, go_sem]) rfl (.inl ⟨by rw [HC1.out, if_neg (by simp)], rfl, _, _, _, ⟨HP8.out.gs.gw, HP8.out.gs.chk⟩, HP8.out.fr, HP8.out.nv, HP8.out.nu⟩)
        | true =>
          have hP8' : Ps w0 w g (.slice Av b.length cv) u w.heap.size fin op mk key A c d ((.slice A1 mm c1)) u2 ((b ++ d)) true true gu2 b w8 := HP8.out
          obtain ⟨hu2, hI8, hf8⟩ := hP8'.gs.chk rfl
          subst hu2
          have HP9 := Aside0.mk hP8'
          have HF8 := Aside0.mk hf8
          clear hP8' HP8 hI8 hf8
          go_upto_region 9 with fail
          have hcc := psS HP9.out
          have hc3 := hcc.2.2.2.2.1
          have hc4 := hcc.2.2.2.2.2.2.2
          clear hcc k2 k3 p0
          refine start_ (n := 7) (S := fun w' => w'.cell? ⟨g, 3, none⟩ = some (.pointer (some ⟨gu2, 0, none⟩)) ∧ w'.cell? ⟨w.heap.size, 4, none⟩ = some (.slice A d.length c)) (ds := [6]) #[false, false, false, false, false, false, false] (by kernel_rfl) rfl rfl (⟨hc3, hc4⟩) (fun hHeld => ?_)
          refine pure_ (i := 0) (N := (some 58)) (v := ?_) (a' := ?_) #[true, false, false, false, false, false, false] rfl rfl (by kernel_rfl) (fun _ _ _ h => h) (Or.inl ⟨by rfl, ?_⟩) ?_ ?_
          rotate_left
          · intro w'
            go_simp
            first | done | with_reducible rfl
          rotate_left
          · simp only [Act.put, List.setIfInBounds_toArray, List.set_cons_zero, List.set_cons_succ, i64_w, i32_w]
            rfl
          refine pure_ (i := 1) (N := (some 59)) (v := ?_) (a' := ?_) #[true, true, false, false, false, false, false] rfl rfl (by kernel_rfl) (fun _ _ _ h => h) (Or.inl ⟨by rfl, ?_⟩) ?_ ?_
          rotate_left
          · intro w'
            go_simp
            first | done | with_reducible rfl
          rotate_left
          · simp only [Act.put, List.setIfInBounds_toArray, List.set_cons_zero, List.set_cons_succ, i64_w, i32_w]
            rfl
          refine pure_ (i := 2) (N := (some 60)) (v := ?_) (a' := ?_) #[true, true, true, false, false, false, false] rfl rfl (by kernel_rfl) (fun _ _ _ h => h) (Or.inl ⟨by rfl, ?_⟩) ?_ ?_
          rotate_left
          · intro w'
            go_simp
            first | done | with_reducible rfl
          rotate_left
          · simp only [Act.put, List.setIfInBounds_toArray, List.set_cons_zero, List.set_cons_succ, i64_w, i32_w]
            rfl
          refine take_ (i := 3) (N := (some 61)) (v := ?_) (a' := ?_) #[true, true, true, true, false, false, false] rfl rfl (by kernel_rfl) (fun _ _ _ h => h) (Or.inl ⟨by rfl, ?_⟩) hHeld ?_ ?_
          rotate_left
          · rintro w' ⟨s0, s1⟩
            go_simp
            first | done | with_reducible rfl
          rotate_left
          · simp only [Act.put, List.setIfInBounds_toArray, List.set_cons_zero, List.set_cons_succ, i64_w, i32_w]
            rfl
          refine pure_ (i := 4) (N := (some 62)) (v := ?_) (a' := ?_) #[true, true, true, true, true, false, false] rfl rfl (by kernel_rfl) (fun _ _ _ h => h) (Or.inl ⟨by rfl, ?_⟩) ?_ ?_
          rotate_left
          · intro w'
            go_simp
            first | done | with_reducible rfl
          rotate_left
          · simp only [Act.put, List.setIfInBounds_toArray, List.set_cons_zero, List.set_cons_succ, i64_w, i32_w]
            rfl
          refine take_ (i := 5) (N := (some 63)) (v := ?_) (a' := ?_) #[true, true, true, true, true, true, false] rfl rfl (by kernel_rfl) (fun _ _ _ h => h) (Or.inl ⟨by rfl, ?_⟩) hHeld ?_ ?_
          rotate_left
          · rintro w' ⟨s0, s1⟩
            go_simp
            first | done | with_reducible rfl
          rotate_left
          · simp only [Act.put, List.setIfInBounds_toArray, List.set_cons_zero, List.set_cons_succ, i64_w, i32_w]
            rfl
          refine last_ (i := 6) (N := (some 64)) #[true, true, true, true, true, true, true] rfl rfl (by kernel_rfl) (by decide) (fun K hK => ?_)
          have HPd := Aside0.mk (HP9.out.below (below_drew (Below.refl _ _)))
          clear HP9 hc3 hc4 hHeld
          go_simp
          go_at_call 40
          refine (utf_Checker_Feed.calls (d.length + 5) gu2 (feedC s0 b).2.1.1 (feedC s0 b).2.1.2.1 (feedC s0 b).2.1.2.2 false A c d _ _ _ _ _ w0 _ (HPd.out.gs.chk rfl).2.1 HPd.out.gs.gw.bel (Dat.C HPd.out.dat) (Dat.le HPd.out.dat) (Dat.off HPd.out.dat (HPd.out.gs.chk rfl).2.1.1) (feed_f d (by have := HDL.out; omega) _ (Nat.le_refl _) _ (feedC_ok okS0 b))).mono ?_
          rintro e w10 ⟨rfl, hI, hB, hk⟩
          have hap := feedC_append_good HF8.out d
          have hI' : IsS107 w0 w10 gu2 (feedC s0 (b ++ d)).2.1.1 (feedC s0 (b ++ d)).2.1.2.1 (feedC s0 (b ++ d)).2.1.2.2 (feedC s0 (b ++ d)).2.2 := by rw [hap]; exact hI
          have HQ := Aside0.mk (HPd.out.feed rfl hI' hB hk)
          clear hI hI' hB hk hap HPd HF8
          refine hK.out _ _ ?_
          clear hK K
          refine done_ (by kernel_rfl) ?_
          obtain ⟨st, hst⟩ : ∃ st, st = feedC s0 (b ++ d) := ⟨_, rfl⟩
          have HST := Aside0.mk hst
          clear hst
          have q3 := (pqS HQ.out).2.1
          go_wp2_with fail
          refine (utf_Checker_Bad.calls gu2 (feedC s0 (b ++ d)).2.1.1 (feedC s0 (b ++ d)).2.1.2.1 (feedC s0 (b ++ d)).2.1.2.2 (feedC s0 (b ++ d)).2.2 _ _ _ _ _ w0 _ HQ.out.chk HQ.out.gw.bel rfl).mono ?_
          rintro e w11 ⟨rfl, hI, hB, hk⟩
          have HQ2 := Aside0.mk (HQ.out.keep hI hB hk)
          clear hI hB hk HQ q3
          have HQ := HQ2
          clear HQ2
          cases hbad2 : (feedC s0 (b ++ d)).2.2 with
          | true =>
            have HCODE : Aside0 (partC busy text fin op b d = 1007) := ⟨by rw [HC1.out, if_pos (by simp [hbad2])]⟩
            go_wp2_with fail
            refine (socket_any 1007 _).mono ?_
            rintro e w3 ⟨vb, rfl, hbad, hb⟩
            go_wp2_with fail
            exact bodyPost_ret (v := .tuple #[.bool false, vb]) (by simp [results, Tryd.results33, go_sem]) rfl (.inr ⟨by rw [HCODE.out]; decide, vb, rfl, by rw [HCODE.out]; exact hbad, _, _, _, _, _, (HQ.out.gw.below hb), (HQ.out.fr.below hb), HQ.out.nv⟩)
          | false =>
            have HB2 := Aside0.mk hbad2
            have q3 := (pqS HQ.out).2.1
            have qp := (pqS HQ.out).2.2
            cases fin with
            | false =>
              go_wp2_with fail
              rw [← HTN.out]
              exact bodyPost_ret (v := .tuple #[.bool false, .nilIface]) (by simp [results, Tryd.results33, go_sem]) rfl (.inl ⟨by rw [HC1.out, if_neg (by rw [HB2.out]; simp)], rfl, _, _, _, ⟨HQ.out.gw, fun _ => ⟨HQ.out.ue, by have h := HQ.out.chk; rw [HB2.out] at h; exact h, HB2.out⟩⟩, HQ.out.fr, HQ.out.nv, HQ.out.nu⟩)
            | true =>
              go_wp2_with fail
              refine (utf_Checker_Whole.calls gu2 (feedC s0 (b ++ d)).2.1.1 (feedC s0 (b ++ d)).2.1.2.1 (feedC s0 (b ++ d)).2.1.2.2 (feedC s0 (b ++ d)).2.2 _ _ _ _ _ w0 _ HQ.out.chk HQ.out.gw.bel (whole_f _ _ _ _)).mono ?_
              rintro e w12 ⟨rfl, hI, hB, hk⟩
              have HQ2 := Aside0.mk (HQ.out.keep hI hB hk)
              clear hI hB hk HQ q3 qp
              have HQ := HQ2
              clear HQ2
              have hwh : (!(feedC s0 (b ++ d)).2.2 && (feedC s0 (b ++ d)).2.1.1 == 0) = validC (b ++ d) := rfl
              simp only [hwh]
              clear hwh
              have qp := (pqS HQ.out).2.2
              cases hv : validC (b ++ d) with
              | false =>
                have HCODE : Aside0 (partC busy text true op b d = 1007) := ⟨by rw [HC1.out, if_pos (by simp [hv])]⟩
                go_wp2_with fail
                refine (socket_any 1007 _).mono ?_
                rintro e w3 ⟨vb, rfl, hbad, hb⟩
                go_wp2_with fail
                exact bodyPost_ret (v := .tuple #[.bool false, vb]) (by simp [results, Tryd.results33, go_sem]) rfl (.inr ⟨by rw [HCODE.out]; decide, vb, rfl, by rw [HCODE.out]; exact hbad, _, _, _, _, _, (HQ.out.gw.below hb), (HQ.out.fr.below hb), HQ.out.nv⟩)
              | true =>
                have HV := Aside0.mk hv
                go_wp2_with fail
                rw [← HTN.out]
                exact bodyPost_ret (v := .tuple #[.bool true, .nilIface]) (by simp [results, Tryd.results33, go_sem]) rfl (.inl ⟨by rw [HC1.out, if_neg (by rw [HB2.out, HV.out]; simp)], rfl, _, _, _, ⟨HQ.out.gw, fun _ => ⟨HQ.out.ue, by have h := HQ.out.chk; rw [HB2.out] at h; exact h, HB2.out⟩⟩, HQ.out.fr, HQ.out.nv, HQ.out.nu⟩)
end Go.Proofs.YtbjjobifpmjhhaaDoor

/- The gatherer's take of a part. -/
namespace Go.Proofs.YtbjjobifpmjhhaaDoor
open Go.RowKit Go.Proofs.YtbjjobifpmjhhaaDoorW.PrintWords Go.Proofs.YtbjjobifpmjhhaaDoorW.PrintLast Go.Proofs.YtbjjobifpmjhhaaDoorW.PrintMore Go.Proofs.YtbjjobifpmjhhaaDoor.PAll Go.Proofs.YtbjjobifpmjhhaaDoor.U
set_option linter.unusedVariables false
set_option linter.unusedSimpArgs false
theorem NewOr.mono {w w1 : World} {v v1 : Value} (h : NewOr w1 v v1) (hs : w.heap.size ≤ w1.heap.size) : NewOr w v v1 := by
  rcases h with h | h | ⟨k, h1, h2⟩
  · exact .inl h
  · exact .inr (.inl h)
  · exact .inr (.inr ⟨k, h1, Nat.le_trans hs h2⟩)
/-- What a block of notes' cells takes changes nothing else. -/
theorem Gs.off {w0 W : World} {g gu : Nat} {v u : Value} {b f : List Int} {busy text over : Bool} (h : Gs w0 W g v u b busy text over gu f) {k : Nat} {cs : Array Value} (hk : W.heap[k]? = some (.cells cs 30 (0, 0))) (hlo : w0.heap.size ≤ k) (j : Nat) (x : Value) : Gs w0 (W.setCell ⟨k, j, none⟩ x) g v u b busy text over gu f :=
  ⟨⟨(Below.heap_setCell W ⟨k, j, none⟩ x g (blk_ne h.gw.blk hk (by decide))).trans h.gw.blk, Kd.R_mono (Kd.R_far (Kd.R_types h.gw.row hk (by intro q hq; simp [Kd.int, Kd.scalar] at hq; omega)) (p := ⟨k, j, none⟩) (fun k hk => hk.2) x) (fun _ _ => trivial), Below.setCell h.gw.bel hlo _, h.gw.base, h.gw.one, fun q e => ty_set (h.gw.uty q e)⟩, fun hy => ⟨(h.chk hy).1, (h.chk hy).2.1.far (p := ⟨k, j, none⟩) (blk_ne (h.chk hy).2.1.1 hk (by decide)) x, (h.chk hy).2.2⟩⟩
theorem Gw.gs {w0 W : World} {g : Nat} {v u : Value} {b : List Int} {text over : Bool} (h : Gw w0 W g v u b false text over) (gu : Nat) (f : List Int) : Gs w0 W g v u b false text over gu f := ⟨h, fun e => by cases e⟩
theorem Gw.off {w0 W : World} {g : Nat} {v u : Value} {b : List Int} {busy text over : Bool} (h : Gw w0 W g v u b busy text over) {k : Nat} {cs : Array Value} (hk : W.heap[k]? = some (.cells cs 30 (0, 0))) (hlo : w0.heap.size ≤ k) (j : Nat) (x : Value) : Gw w0 (W.setCell ⟨k, j, none⟩ x) g v u b busy text over :=
  ⟨(Below.heap_setCell W ⟨k, j, none⟩ x g (blk_ne h.blk hk (by decide))).trans h.blk, Kd.R_mono (Kd.R_far (Kd.R_types h.row hk (by intro q hq; simp [Kd.int, Kd.scalar] at hq; omega)) (p := ⟨k, j, none⟩) (fun k hk => hk.2) x) (fun _ _ => trivial), Below.setCell h.bel hlo _, h.base, h.one, fun q e => ty_set (h.uty q e)⟩
theorem Fr.off {w W : World} {g k : Nat} {v u : Value} (h : Fr w W g v u) (hlo : w.heap.size ≤ k) (j : Nat) (x : Value) : Fr w (W.setCell ⟨k, j, none⟩ x) g v u := ⟨by simpa [World.setCell] using h.size, fun q hq h1 h2 h3 => (Below.heap_setCell W ⟨k, j, none⟩ x q (by show q ≠ k; omega)).trans (h.same q hq h1 h2 h3)⟩
theorem row_off {W : World} {n k : Nat} {v : Value} {l : List Int} {cs : Array Value} (h : Kd.R (Kd.int .u8) 5 W n (fun _ => True) v l) (hk : W.heap[k]? = some (.cells cs 30 (0, 0))) (j : Nat) (x : Value) : Kd.R (Kd.int .u8) 5 (W.setCell ⟨k, j, none⟩ x) n (fun _ => True) v l :=
  Kd.R_mono (Kd.R_far (Kd.R_types h hk (by intro q hq; simp [Kd.int, Kd.scalar] at hq; omega)) (p := ⟨k, j, none⟩) (fun k hk => hk.2) x) (fun _ _ => trivial)
/-- Four cells of a note's block. -/
theorem Gs.off4 {w0 W : World} {g gu : Nat} {v u : Value} {b f : List Int} {busy text over : Bool} (h : Gs w0 W g v u b busy text over gu f) {k : Nat} {a0 a1 a2 a3 : Value} (hk : W.heap[k]? = some (.cells #[a0, a1, a2, a3] 30 (0, 0))) (hlo : w0.heap.size ≤ k) (x0 x1 x2 x3 : Value) : Gs w0 ((((W.setCell ⟨k, 0, none⟩ x0).setCell ⟨k, 1, none⟩ x1).setCell ⟨k, 2, none⟩ x2).setCell ⟨k, 3, none⟩ x3) g v u b busy text over gu f :=
  (((h.off hk hlo 0 x0).off (blk_put hk 0 x0 rfl) hlo 1 x1).off (blk_put (blk_put hk 0 x0 rfl) 1 x1 rfl) hlo 2 x2).off (blk_put (blk_put (blk_put hk 0 x0 rfl) 1 x1 rfl) 2 x2 rfl) hlo 3 x3
theorem Gw.off4 {w0 W : World} {g : Nat} {v u : Value} {b : List Int} {busy text over : Bool} (h : Gw w0 W g v u b busy text over) {k : Nat} {a0 a1 a2 a3 : Value} (hk : W.heap[k]? = some (.cells #[a0, a1, a2, a3] 30 (0, 0))) (hlo : w0.heap.size ≤ k) (x0 x1 x2 x3 : Value) : Gw w0 ((((W.setCell ⟨k, 0, none⟩ x0).setCell ⟨k, 1, none⟩ x1).setCell ⟨k, 2, none⟩ x2).setCell ⟨k, 3, none⟩ x3) g v u b busy text over :=
  (((h.off hk hlo 0 x0).off (blk_put hk 0 x0 rfl) hlo 1 x1).off (blk_put (blk_put hk 0 x0 rfl) 1 x1 rfl) hlo 2 x2).off (blk_put (blk_put (blk_put hk 0 x0 rfl) 1 x1 rfl) 2 x2 rfl) hlo 3 x3
theorem Fr.off4 {w W : World} {g k : Nat} {v u : Value} (h : Fr w W g v u) (hlo : w.heap.size ≤ k) (x0 x1 x2 x3 : Value) : Fr w ((((W.setCell ⟨k, 0, none⟩ x0).setCell ⟨k, 1, none⟩ x1).setCell ⟨k, 2, none⟩ x2).setCell ⟨k, 3, none⟩ x3) g v u := (((h.off hlo 0 x0).off hlo 1 x1).off hlo 2 x2).off hlo 3 x3
theorem row_off4 {W : World} {n k : Nat} {v : Value} {l : List Int} {a0 a1 a2 a3 : Value} (h : Kd.R (Kd.int .u8) 5 W n (fun _ => True) v l) (hk : W.heap[k]? = some (.cells #[a0, a1, a2, a3] 30 (0, 0))) (x0 x1 x2 x3 : Value) : Kd.R (Kd.int .u8) 5 ((((W.setCell ⟨k, 0, none⟩ x0).setCell ⟨k, 1, none⟩ x1).setCell ⟨k, 2, none⟩ x2).setCell ⟨k, 3, none⟩ x3) n (fun _ => True) v l :=
  row_off (row_off (row_off (row_off h hk 0 x0) (blk_put hk 0 x0 rfl) 1 x1) (blk_put (blk_put hk 0 x0 rfl) 1 x1 rfl) 2 x2) (blk_put (blk_put (blk_put hk 0 x0 rfl) 1 x1 rfl) 2 x2 rfl) 3 x3
theorem blk_off4 {W : World} {q k : Nat} {o : Obj} (h : W.heap[q]? = some o) (hne : q ≠ k) (x0 x1 x2 x3 : Value) : ((((W.setCell ⟨k, 0, none⟩ x0).setCell ⟨k, 1, none⟩ x1).setCell ⟨k, 2, none⟩ x2).setCell ⟨k, 3, none⟩ x3).heap[q]? = some o :=
  (Below.heap_setCell _ _ _ _ hne).trans ((Below.heap_setCell _ _ _ _ hne).trans ((Below.heap_setCell _ _ _ _ hne).trans ((Below.heap_setCell _ _ _ _ hne).trans h)))
theorem bad_off4 {W : World} {k : Nat} {c : Int} {ve : Value} {a0 a1 a2 a3 : Value} (h : IsBad W ve c) (hk : W.heap[k]? = some (.cells #[a0, a1, a2, a3] 30 (0, 0))) (x0 x1 x2 x3 : Value) : IsBad ((((W.setCell ⟨k, 0, none⟩ x0).setCell ⟨k, 1, none⟩ x1).setCell ⟨k, 2, none⟩ x2).setCell ⟨k, 3, none⟩ x3) ve c := by
  obtain ⟨q, e, hq⟩ := h
  exact ⟨q, e, blk_off4 hq (blk_ne hq hk (by decide)) x0 x1 x2 x3⟩
theorem wr_off4 {W : World} {k : Nat} {c : Int} {ve : Value} {a0 a1 a2 a3 : Value} (h : IsWr W ve c) (hk : W.heap[k]? = some (.cells #[a0, a1, a2, a3] 30 (0, 0))) (x0 x1 x2 x3 : Value) : IsWr ((((W.setCell ⟨k, 0, none⟩ x0).setCell ⟨k, 1, none⟩ x1).setCell ⟨k, 2, none⟩ x2).setCell ⟨k, 3, none⟩ x3) ve c := by
  obtain ⟨q, s, v', e, hq, hb⟩ := h
  exact ⟨q, s, v', e, blk_off4 hq (blk_ne hq hk (by decide)) x0 x1 x2 x3, bad_off4 hb hk x0 x1 x2 x3⟩
/-- Within take, where a message is told. -/
structure T8 (w0 w : World) (g : Nat) (v0 u0 v u : Value) (b : List Int) (tn : Bool) (gu : Nat) (f : List Int) (W : World) : Prop where
  gs : Gs w0 W g v u b true tn false gu f
  res : W.heap[w.heap.size + 1]? = some (.cells #[.int .u8 0, .bool false, .slice none 0 0, .int .u32 0] 30 (0, 0))
  fr : Fr w W g v0 u0
theorem T8.below {w0 w W W' : World} {g gu : Nat} {v0 u0 v u : Value} {b f : List Int} {tn : Bool} (h : T8 w0 w g v0 u0 v u b tn gu f W) (hb : Below W.heap.size W W') : T8 w0 w g v0 u0 v u b tn gu f W' := ⟨h.gs.below hb, blk_below h.res hb, h.fr.below hb⟩
theorem t8S {w0 w W : World} {g gu : Nat} {v0 u0 v u : Value} {b f : List Int} {tn : Bool} (h : T8 w0 w g v0 u0 v u b tn gu f W) : Aside0 (T8 w0 w g v0 u0 v u b tn gu f W) ∧ W.cell? ⟨g, 2, none⟩ = some (.bool tn) ∧ W.cell? ⟨g, 0, none⟩ = some v := ⟨⟨h⟩, (blk_cell h.gs.gw.blk 2).trans rfl, (blk_cell h.gs.gw.blk 0).trans rfl⟩
/-- What take answers: nothing yet, a message, or a fault. -/
def TkMore (w0 : World) (g : Nat) (v u : Value) (b : List Int) (tn : Bool) (w : World) (e : Ending) (w' : World) : Prop := e = .returned (.tuple #[.agg #[.int .u8 0, .bool false, .slice none 0 0, .int .u32 0], .bool false, .nilIface]) ∧ ∃ v' u' gu', Gs w0 w' g v' u' b true tn false gu' (if tn = true then b else []) ∧ Fr w w' g v u ∧ NewOr w v v'
def TkTold (w0 : World) (g : Nat) (v u : Value) (b : List Int) (tn : Bool) (w : World) (e : Ending) (w' : World) : Prop := ∃ vn u', e = .returned (.tuple #[.agg #[.int .u8 1, .bool tn, vn, .int .u32 0], .bool true, .nilIface]) ∧ Gw w0 w' g (.slice none 0 0) u' [] false tn false ∧ Kd.R (Kd.int .u8) 5 w' w0.heap.size (fun _ => True) vn b ∧ Fr w w' g v u ∧ NewOr w v vn
def TkBad (w0 : World) (g : Nat) (v u : Value) (code : Int) (w : World) (e : Ending) (w' : World) : Prop := ∃ ok ve v' u' b' bu te ov, e = .returned (.tuple #[.agg #[.int .u8 0, .bool false, .slice none 0 0, .int .u32 0], .bool ok, ve]) ∧ (IsWr w' ve code ∨ IsBad w' ve code) ∧ Gw w0 w' g v' u' b' bu te ov ∧ Fr w w' g v u
set_option maxHeartbeats 8000000 in
set_option maxRecDepth 100000 in
theorem take_more_0 {w0 w : World} {g : Nat} {v u : Value} {b : List Int} {busy text : Bool} {gu : Nat} {f : List Int} {fin : Bool} {mk : Bool} {key : Int} {A : Option Addr} {c : Nat} {d : List Int} (h : Gs w0 w g v u b busy text false gu f) (hff : (busy = true → f = if text = true then b else []) ∧ (busy = false → b = [])) (hd : Dat w (.slice A d.length c) d) (hdn : ∀ k, (Value.slice A d.length c).ownBlock = some k → v.ownBlock ≠ some k) (hbl : b.length ≤ 4096) (hdl : d.length ≤ 1000000000) (hc : partC busy text fin 0 b d = 0) (hfin : fin = false) : Calls Tryd.prog 25 #[.pointer (some ⟨g, 0, none⟩), .agg #[.bool fin, .int .u8 0, .bool mk, .int .u32 key, .slice A d.length c]] w (TkMore w0 g v u (b ++ d) (textN busy text 0) w) := by
  have HU0 := Aside0.mk h.gw.ulow
  have HLO := Aside0.mk h.gw.bel.size
  have hgl := blk_lt h.gw.blk
  have HCD := Aside0.mk hc
  have HFI := Aside0.mk hfin
  clear hfin
  clear hc
  obtain ⟨Av, cv, rfl⟩ := Kd.R_slice h.gw.row
  have HFF := Aside0.mk hff
  have HDN := Aside0.mk hdn
  have HLN := Aside0.mk (And.intro hbl hdl)
  have hw1 : Below w.heap.size w ((w.alloc (.cells #[.bool fin, .int .u8 0, .bool mk, .int .u32 key, .slice A d.length c] 26)).alloc (.cells #[.int .u8 0, .bool false, .slice none 0 0, .int .u32 0] 30)) := below_alloc (below_alloc (Below.refl _ _) _) _
  have hg1 := h.below hw1
  have hd1 := hd.below hw1
  have hr1 : ((w.alloc (.cells #[.bool fin, .int .u8 0, .bool mk, .int .u32 key, .slice A d.length c] 26)).alloc (.cells #[.int .u8 0, .bool false, .slice none 0 0, .int .u32 0] 30)).heap[w.heap.size + 1]? = some (.cells #[.int .u8 0, .bool false, .slice none 0 0, .int .u32 0] 30 (0, 0)) := last_at _ _ _ (by simp)
  have hp1 : ((w.alloc (.cells #[.bool fin, .int .u8 0, .bool mk, .int .u32 key, .slice A d.length c] 26)).alloc (.cells #[.int .u8 0, .bool false, .slice none 0 0, .int .u32 0] 30)).heap[w.heap.size]? = some (.cells #[.bool fin, .int .u8 0, .bool mk, .int .u32 key, .slice A d.length c] 26 (0, 0)) := blk_alloc (last_at _ _ _ rfl) _
  have hf1 := (Fr.refl w g (.slice Av b.length cv) u).below hw1
  have hu30 := Tryd.underlying30
  have hu26 := Tryd.underlying26
  clear h hd hff hdn hbl hdl hw1
  go_enter Tryd.func25, Tryd.ntmps25
  go_upto_region 1 with fail
  generalize (w.alloc (.cells #[.bool fin, .int .u8 0, .bool mk, .int .u32 key, .slice A d.length c] 26)).alloc (.cells #[.int .u8 0, .bool false, .slice none 0 0, .int .u32 0] 30) = w1 at hg1 hd1 hr1 hp1 hf1 ⊢
  have HG1 := Aside0.mk hg1
  have HD1 := Aside0.mk hd1
  have HR1 := Aside0.mk hr1
  have HF1 := Aside0.mk hf1
  have pc0 : w1.cell? ⟨w.heap.size, 0, none⟩ = some (.bool fin) := (blk_cell hp1 0).trans rfl
  have pc1 : w1.cell? ⟨w.heap.size, 1, none⟩ = some (.int .u8 0) := (blk_cell hp1 1).trans rfl
  have pc2 : w1.cell? ⟨w.heap.size, 2, none⟩ = some (.bool mk) := (blk_cell hp1 2).trans rfl
  have pc3 : w1.cell? ⟨w.heap.size, 3, none⟩ = some (.int .u32 key) := (blk_cell hp1 3).trans rfl
  have pc4 : w1.cell? ⟨w.heap.size, 4, none⟩ = some (.slice A d.length c) := (blk_cell hp1 4).trans rfl
  have pl_ := blk_lt hp1
  clear hg1 hd1 hr1 hp1 hf1
  go_wp2_with fail
  refine (part_any HG1.out HFF.out HD1.out HDN.out HLN.out.1 HLN.out.2).mono ?_
  rintro e w2 hp
  rcases hp with ⟨_, rfl, v', u', gu', hG, hF, hN, hU⟩ | ⟨hz, _⟩
  rotate_left
  · exact absurd HCD.out hz
  have hfin := HFI.out
  subst hfin
  have hu1 : ∀ k, u = .pointer (some ⟨k, 0, none⟩) → k < w.heap.size := HU0.out
  have hr2 : w2.heap[w.heap.size + 1]? = some (.cells #[.int .u8 0, .bool false, .slice none 0 0, .int .u32 0] 30 (0, 0)) := (hF.same _ (blk_lt HR1.out) (fun e => by have := hgl; omega) (fun e => by have := Kd.R_ne HG1.out.gw.row HR1.out (by decide); exact this e) (fun e => by have := hu1 _ e; omega)).trans HR1.out
  have hF2 : Fr w w2 g (.slice Av b.length cv) u := ⟨Nat.le_trans HF1.out.size hF.size, fun k hk h1 h2 h3 => (hF.same k (Nat.lt_of_lt_of_le hk HF1.out.size) h1 h2 h3).trans (HF1.out.same k hk h1 h2 h3)⟩
  have hN := hN.mono HF1.out.size
  obtain ⟨Av', cv', rfl⟩ := Kd.R_slice hG.gw.row
  have HG2 := Aside0.mk hG
  have HR2 := Aside0.mk hr2
  have HF2 := Aside0.mk hF2
  have HN2 := Aside0.mk hN
  clear hG hr2 hF2 hF hN hU HG1 HD1 HR1 HF1 pc0 pc1 pc2 pc3 pc4 pl_
  go_wp2_with fail
  refine (wrap_nil _ _).mono ?_
  rintro e w3 ⟨rfl, rfl⟩
  have rc0 : w3.cell? ⟨w.heap.size + 1, 0, none⟩ = some (.int .u8 0) := (blk_cell HR2.out 0).trans rfl
  have rf0 := blk_frozen HR2.out 0
  have rc1 : w3.cell? ⟨w.heap.size + 1, 1, none⟩ = some (.bool false) := (blk_cell HR2.out 1).trans rfl
  have rf1 := blk_frozen HR2.out 1
  have rc2 : w3.cell? ⟨w.heap.size + 1, 2, none⟩ = some (.slice none 0 0) := (blk_cell HR2.out 2).trans rfl
  have rf2 := blk_frozen HR2.out 2
  have rc3 : w3.cell? ⟨w.heap.size + 1, 3, none⟩ = some (.int .u32 0) := (blk_cell HR2.out 3).trans rfl
  have rf3 := blk_frozen HR2.out 3
  have rl := blk_lt HR2.out
  have hle : w0.heap.size ≤ w.heap.size + 1 := Nat.le_succ_of_le HLO.out
  go_wp2_with fail
  exact bodyPost_ret (v := .tuple #[.agg #[.int .u8 0, .bool false, .slice none 0 0, .int .u32 0], .bool false, .nilIface]) (by simp [results, Tryd.results25, go_sem, rc0, rc1, rc2, rc3]) rfl ⟨rfl, _, _, _, HG2.out.off4 HR2.out hle _ _ _ _, HF2.out.off4 (Nat.le_succ _) _ _ _ _, HN2.out⟩
set_option maxHeartbeats 8000000 in
set_option maxRecDepth 100000 in
theorem take_more_1 {w0 w : World} {g : Nat} {v u : Value} {b : List Int} {busy text : Bool} {gu : Nat} {f : List Int} {fin : Bool} {mk : Bool} {key : Int} {A : Option Addr} {c : Nat} {d : List Int} (h : Gs w0 w g v u b busy text false gu f) (hff : (busy = true → f = if text = true then b else []) ∧ (busy = false → b = [])) (hd : Dat w (.slice A d.length c) d) (hdn : ∀ k, (Value.slice A d.length c).ownBlock = some k → v.ownBlock ≠ some k) (hbl : b.length ≤ 4096) (hdl : d.length ≤ 1000000000) (hc : partC busy text fin 1 b d = 0) (hfin : fin = false) : Calls Tryd.prog 25 #[.pointer (some ⟨g, 0, none⟩), .agg #[.bool fin, .int .u8 1, .bool mk, .int .u32 key, .slice A d.length c]] w (TkMore w0 g v u (b ++ d) (textN busy text 1) w) := by
  have HU0 := Aside0.mk h.gw.ulow
  have HLO := Aside0.mk h.gw.bel.size
  have hgl := blk_lt h.gw.blk
  have HCD := Aside0.mk hc
  have HFI := Aside0.mk hfin
  clear hfin
  clear hc
  obtain ⟨Av, cv, rfl⟩ := Kd.R_slice h.gw.row
  have HFF := Aside0.mk hff
  have HDN := Aside0.mk hdn
  have HLN := Aside0.mk (And.intro hbl hdl)
  have hw1 : Below w.heap.size w ((w.alloc (.cells #[.bool fin, .int .u8 1, .bool mk, .int .u32 key, .slice A d.length c] 26)).alloc (.cells #[.int .u8 0, .bool false, .slice none 0 0, .int .u32 0] 30)) := below_alloc (below_alloc (Below.refl _ _) _) _
  have hg1 := h.below hw1
  have hd1 := hd.below hw1
  have hr1 : ((w.alloc (.cells #[.bool fin, .int .u8 1, .bool mk, .int .u32 key, .slice A d.length c] 26)).alloc (.cells #[.int .u8 0, .bool false, .slice none 0 0, .int .u32 0] 30)).heap[w.heap.size + 1]? = some (.cells #[.int .u8 0, .bool false, .slice none 0 0, .int .u32 0] 30 (0, 0)) := last_at _ _ _ (by simp)
  have hp1 : ((w.alloc (.cells #[.bool fin, .int .u8 1, .bool mk, .int .u32 key, .slice A d.length c] 26)).alloc (.cells #[.int .u8 0, .bool false, .slice none 0 0, .int .u32 0] 30)).heap[w.heap.size]? = some (.cells #[.bool fin, .int .u8 1, .bool mk, .int .u32 key, .slice A d.length c] 26 (0, 0)) := blk_alloc (last_at _ _ _ rfl) _
  have hf1 := (Fr.refl w g (.slice Av b.length cv) u).below hw1
  have hu30 := Tryd.underlying30
  have hu26 := Tryd.underlying26
  clear h hd hff hdn hbl hdl hw1
  go_enter Tryd.func25, Tryd.ntmps25
  go_upto_region 1 with fail
  generalize (w.alloc (.cells #[.bool fin, .int .u8 1, .bool mk, .int .u32 key, .slice A d.length c] 26)).alloc (.cells #[.int .u8 0, .bool false, .slice none 0 0, .int .u32 0] 30) = w1 at hg1 hd1 hr1 hp1 hf1 ⊢
  have HG1 := Aside0.mk hg1
  have HD1 := Aside0.mk hd1
  have HR1 := Aside0.mk hr1
  have HF1 := Aside0.mk hf1
  have pc0 : w1.cell? ⟨w.heap.size, 0, none⟩ = some (.bool fin) := (blk_cell hp1 0).trans rfl
  have pc1 : w1.cell? ⟨w.heap.size, 1, none⟩ = some (.int .u8 1) := (blk_cell hp1 1).trans rfl
  have pc2 : w1.cell? ⟨w.heap.size, 2, none⟩ = some (.bool mk) := (blk_cell hp1 2).trans rfl
  have pc3 : w1.cell? ⟨w.heap.size, 3, none⟩ = some (.int .u32 key) := (blk_cell hp1 3).trans rfl
  have pc4 : w1.cell? ⟨w.heap.size, 4, none⟩ = some (.slice A d.length c) := (blk_cell hp1 4).trans rfl
  have pl_ := blk_lt hp1
  clear hg1 hd1 hr1 hp1 hf1
  go_wp2_with fail
  refine (part_any HG1.out HFF.out HD1.out HDN.out HLN.out.1 HLN.out.2).mono ?_
  rintro e w2 hp
  rcases hp with ⟨_, rfl, v', u', gu', hG, hF, hN, hU⟩ | ⟨hz, _⟩
  rotate_left
  · exact absurd HCD.out hz
  have hfin := HFI.out
  subst hfin
  have hu1 : ∀ k, u = .pointer (some ⟨k, 0, none⟩) → k < w.heap.size := HU0.out
  have hr2 : w2.heap[w.heap.size + 1]? = some (.cells #[.int .u8 0, .bool false, .slice none 0 0, .int .u32 0] 30 (0, 0)) := (hF.same _ (blk_lt HR1.out) (fun e => by have := hgl; omega) (fun e => by have := Kd.R_ne HG1.out.gw.row HR1.out (by decide); exact this e) (fun e => by have := hu1 _ e; omega)).trans HR1.out
  have hF2 : Fr w w2 g (.slice Av b.length cv) u := ⟨Nat.le_trans HF1.out.size hF.size, fun k hk h1 h2 h3 => (hF.same k (Nat.lt_of_lt_of_le hk HF1.out.size) h1 h2 h3).trans (HF1.out.same k hk h1 h2 h3)⟩
  have hN := hN.mono HF1.out.size
  obtain ⟨Av', cv', rfl⟩ := Kd.R_slice hG.gw.row
  have HG2 := Aside0.mk hG
  have HR2 := Aside0.mk hr2
  have HF2 := Aside0.mk hF2
  have HN2 := Aside0.mk hN
  clear hG hr2 hF2 hF hN hU HG1 HD1 HR1 HF1 pc0 pc1 pc2 pc3 pc4 pl_
  go_wp2_with fail
  refine (wrap_nil _ _).mono ?_
  rintro e w3 ⟨rfl, rfl⟩
  have rc0 : w3.cell? ⟨w.heap.size + 1, 0, none⟩ = some (.int .u8 0) := (blk_cell HR2.out 0).trans rfl
  have rf0 := blk_frozen HR2.out 0
  have rc1 : w3.cell? ⟨w.heap.size + 1, 1, none⟩ = some (.bool false) := (blk_cell HR2.out 1).trans rfl
  have rf1 := blk_frozen HR2.out 1
  have rc2 : w3.cell? ⟨w.heap.size + 1, 2, none⟩ = some (.slice none 0 0) := (blk_cell HR2.out 2).trans rfl
  have rf2 := blk_frozen HR2.out 2
  have rc3 : w3.cell? ⟨w.heap.size + 1, 3, none⟩ = some (.int .u32 0) := (blk_cell HR2.out 3).trans rfl
  have rf3 := blk_frozen HR2.out 3
  have rl := blk_lt HR2.out
  have hle : w0.heap.size ≤ w.heap.size + 1 := Nat.le_succ_of_le HLO.out
  go_wp2_with fail
  exact bodyPost_ret (v := .tuple #[.agg #[.int .u8 0, .bool false, .slice none 0 0, .int .u32 0], .bool false, .nilIface]) (by simp [results, Tryd.results25, go_sem, rc0, rc1, rc2, rc3]) rfl ⟨rfl, _, _, _, HG2.out.off4 HR2.out hle _ _ _ _, HF2.out.off4 (Nat.le_succ _) _ _ _ _, HN2.out⟩
set_option maxHeartbeats 8000000 in
set_option maxRecDepth 100000 in
theorem take_more_2 {w0 w : World} {g : Nat} {v u : Value} {b : List Int} {busy text : Bool} {gu : Nat} {f : List Int} {fin : Bool} {mk : Bool} {key : Int} {A : Option Addr} {c : Nat} {d : List Int} (h : Gs w0 w g v u b busy text false gu f) (hff : (busy = true → f = if text = true then b else []) ∧ (busy = false → b = [])) (hd : Dat w (.slice A d.length c) d) (hdn : ∀ k, (Value.slice A d.length c).ownBlock = some k → v.ownBlock ≠ some k) (hbl : b.length ≤ 4096) (hdl : d.length ≤ 1000000000) (hc : partC busy text fin 2 b d = 0) (hfin : fin = false) : Calls Tryd.prog 25 #[.pointer (some ⟨g, 0, none⟩), .agg #[.bool fin, .int .u8 2, .bool mk, .int .u32 key, .slice A d.length c]] w (TkMore w0 g v u (b ++ d) (textN busy text 2) w) := by
  have HU0 := Aside0.mk h.gw.ulow
  have HLO := Aside0.mk h.gw.bel.size
  have hgl := blk_lt h.gw.blk
  have HCD := Aside0.mk hc
  have HFI := Aside0.mk hfin
  clear hfin
  clear hc
  obtain ⟨Av, cv, rfl⟩ := Kd.R_slice h.gw.row
  have HFF := Aside0.mk hff
  have HDN := Aside0.mk hdn
  have HLN := Aside0.mk (And.intro hbl hdl)
  have hw1 : Below w.heap.size w ((w.alloc (.cells #[.bool fin, .int .u8 2, .bool mk, .int .u32 key, .slice A d.length c] 26)).alloc (.cells #[.int .u8 0, .bool false, .slice none 0 0, .int .u32 0] 30)) := below_alloc (below_alloc (Below.refl _ _) _) _
  have hg1 := h.below hw1
  have hd1 := hd.below hw1
  have hr1 : ((w.alloc (.cells #[.bool fin, .int .u8 2, .bool mk, .int .u32 key, .slice A d.length c] 26)).alloc (.cells #[.int .u8 0, .bool false, .slice none 0 0, .int .u32 0] 30)).heap[w.heap.size + 1]? = some (.cells #[.int .u8 0, .bool false, .slice none 0 0, .int .u32 0] 30 (0, 0)) := last_at _ _ _ (by simp)
  have hp1 : ((w.alloc (.cells #[.bool fin, .int .u8 2, .bool mk, .int .u32 key, .slice A d.length c] 26)).alloc (.cells #[.int .u8 0, .bool false, .slice none 0 0, .int .u32 0] 30)).heap[w.heap.size]? = some (.cells #[.bool fin, .int .u8 2, .bool mk, .int .u32 key, .slice A d.length c] 26 (0, 0)) := blk_alloc (last_at _ _ _ rfl) _
  have hf1 := (Fr.refl w g (.slice Av b.length cv) u).below hw1
  have hu30 := Tryd.underlying30
  have hu26 := Tryd.underlying26
  clear h hd hff hdn hbl hdl hw1
  go_enter Tryd.func25, Tryd.ntmps25
  go_upto_region 1 with fail
  generalize (w.alloc (.cells #[.bool fin, .int .u8 2, .bool mk, .int .u32 key, .slice A d.length c] 26)).alloc (.cells #[.int .u8 0, .bool false, .slice none 0 0, .int .u32 0] 30) = w1 at hg1 hd1 hr1 hp1 hf1 ⊢
  have HG1 := Aside0.mk hg1
  have HD1 := Aside0.mk hd1
  have HR1 := Aside0.mk hr1
  have HF1 := Aside0.mk hf1
  have pc0 : w1.cell? ⟨w.heap.size, 0, none⟩ = some (.bool fin) := (blk_cell hp1 0).trans rfl
  have pc1 : w1.cell? ⟨w.heap.size, 1, none⟩ = some (.int .u8 2) := (blk_cell hp1 1).trans rfl
  have pc2 : w1.cell? ⟨w.heap.size, 2, none⟩ = some (.bool mk) := (blk_cell hp1 2).trans rfl
  have pc3 : w1.cell? ⟨w.heap.size, 3, none⟩ = some (.int .u32 key) := (blk_cell hp1 3).trans rfl
  have pc4 : w1.cell? ⟨w.heap.size, 4, none⟩ = some (.slice A d.length c) := (blk_cell hp1 4).trans rfl
  have pl_ := blk_lt hp1
  clear hg1 hd1 hr1 hp1 hf1
  go_wp2_with fail
  refine (part_any HG1.out HFF.out HD1.out HDN.out HLN.out.1 HLN.out.2).mono ?_
  rintro e w2 hp
  rcases hp with ⟨_, rfl, v', u', gu', hG, hF, hN, hU⟩ | ⟨hz, _⟩
  rotate_left
  · exact absurd HCD.out hz
  have hfin := HFI.out
  subst hfin
  have hu1 : ∀ k, u = .pointer (some ⟨k, 0, none⟩) → k < w.heap.size := HU0.out
  have hr2 : w2.heap[w.heap.size + 1]? = some (.cells #[.int .u8 0, .bool false, .slice none 0 0, .int .u32 0] 30 (0, 0)) := (hF.same _ (blk_lt HR1.out) (fun e => by have := hgl; omega) (fun e => by have := Kd.R_ne HG1.out.gw.row HR1.out (by decide); exact this e) (fun e => by have := hu1 _ e; omega)).trans HR1.out
  have hF2 : Fr w w2 g (.slice Av b.length cv) u := ⟨Nat.le_trans HF1.out.size hF.size, fun k hk h1 h2 h3 => (hF.same k (Nat.lt_of_lt_of_le hk HF1.out.size) h1 h2 h3).trans (HF1.out.same k hk h1 h2 h3)⟩
  have hN := hN.mono HF1.out.size
  obtain ⟨Av', cv', rfl⟩ := Kd.R_slice hG.gw.row
  have HG2 := Aside0.mk hG
  have HR2 := Aside0.mk hr2
  have HF2 := Aside0.mk hF2
  have HN2 := Aside0.mk hN
  clear hG hr2 hF2 hF hN hU HG1 HD1 HR1 HF1 pc0 pc1 pc2 pc3 pc4 pl_
  go_wp2_with fail
  refine (wrap_nil _ _).mono ?_
  rintro e w3 ⟨rfl, rfl⟩
  have rc0 : w3.cell? ⟨w.heap.size + 1, 0, none⟩ = some (.int .u8 0) := (blk_cell HR2.out 0).trans rfl
  have rf0 := blk_frozen HR2.out 0
  have rc1 : w3.cell? ⟨w.heap.size + 1, 1, none⟩ = some (.bool false) := (blk_cell HR2.out 1).trans rfl
  have rf1 := blk_frozen HR2.out 1
  have rc2 : w3.cell? ⟨w.heap.size + 1, 2, none⟩ = some (.slice none 0 0) := (blk_cell HR2.out 2).trans rfl
  have rf2 := blk_frozen HR2.out 2
  have rc3 : w3.cell? ⟨w.heap.size + 1, 3, none⟩ = some (.int .u32 0) := (blk_cell HR2.out 3).trans rfl
  have rf3 := blk_frozen HR2.out 3
  have rl := blk_lt HR2.out
  have hle : w0.heap.size ≤ w.heap.size + 1 := Nat.le_succ_of_le HLO.out
  go_wp2_with fail
  exact bodyPost_ret (v := .tuple #[.agg #[.int .u8 0, .bool false, .slice none 0 0, .int .u32 0], .bool false, .nilIface]) (by simp [results, Tryd.results25, go_sem, rc0, rc1, rc2, rc3]) rfl ⟨rfl, _, _, _, HG2.out.off4 HR2.out hle _ _ _ _, HF2.out.off4 (Nat.le_succ _) _ _ _ _, HN2.out⟩
set_option maxHeartbeats 8000000 in
set_option maxRecDepth 100000 in
theorem take_told_0 {w0 w : World} {g : Nat} {v u : Value} {b : List Int} {busy text : Bool} {gu : Nat} {f : List Int} {fin : Bool} {mk : Bool} {key : Int} {A : Option Addr} {c : Nat} {d : List Int} (h : Gs w0 w g v u b busy text false gu f) (hff : (busy = true → f = if text = true then b else []) ∧ (busy = false → b = [])) (hd : Dat w (.slice A d.length c) d) (hdn : ∀ k, (Value.slice A d.length c).ownBlock = some k → v.ownBlock ≠ some k) (hbl : b.length ≤ 4096) (hdl : d.length ≤ 1000000000) (hc : partC busy text fin 0 b d = 0) (hfin : fin = true) : Calls Tryd.prog 25 #[.pointer (some ⟨g, 0, none⟩), .agg #[.bool fin, .int .u8 0, .bool mk, .int .u32 key, .slice A d.length c]] w (TkTold w0 g v u (b ++ d) (textN busy text 0) w) := by
  have HU0 := Aside0.mk h.gw.ulow
  have HLO := Aside0.mk h.gw.bel.size
  have hgl := blk_lt h.gw.blk
  have HCD := Aside0.mk hc
  have HFI := Aside0.mk hfin
  clear hfin
  clear hc
  obtain ⟨Av, cv, rfl⟩ := Kd.R_slice h.gw.row
  have HFF := Aside0.mk hff
  have HDN := Aside0.mk hdn
  have HLN := Aside0.mk (And.intro hbl hdl)
  have hw1 : Below w.heap.size w ((w.alloc (.cells #[.bool fin, .int .u8 0, .bool mk, .int .u32 key, .slice A d.length c] 26)).alloc (.cells #[.int .u8 0, .bool false, .slice none 0 0, .int .u32 0] 30)) := below_alloc (below_alloc (Below.refl _ _) _) _
  have hg1 := h.below hw1
  have hd1 := hd.below hw1
  have hr1 : ((w.alloc (.cells #[.bool fin, .int .u8 0, .bool mk, .int .u32 key, .slice A d.length c] 26)).alloc (.cells #[.int .u8 0, .bool false, .slice none 0 0, .int .u32 0] 30)).heap[w.heap.size + 1]? = some (.cells #[.int .u8 0, .bool false, .slice none 0 0, .int .u32 0] 30 (0, 0)) := last_at _ _ _ (by simp)
  have hp1 : ((w.alloc (.cells #[.bool fin, .int .u8 0, .bool mk, .int .u32 key, .slice A d.length c] 26)).alloc (.cells #[.int .u8 0, .bool false, .slice none 0 0, .int .u32 0] 30)).heap[w.heap.size]? = some (.cells #[.bool fin, .int .u8 0, .bool mk, .int .u32 key, .slice A d.length c] 26 (0, 0)) := blk_alloc (last_at _ _ _ rfl) _
  have hf1 := (Fr.refl w g (.slice Av b.length cv) u).below hw1
  have hu30 := Tryd.underlying30
  have hu26 := Tryd.underlying26
  clear h hd hff hdn hbl hdl hw1
  go_enter Tryd.func25, Tryd.ntmps25
  go_upto_region 1 with fail
  generalize (w.alloc (.cells #[.bool fin, .int .u8 0, .bool mk, .int .u32 key, .slice A d.length c] 26)).alloc (.cells #[.int .u8 0, .bool false, .slice none 0 0, .int .u32 0] 30) = w1 at hg1 hd1 hr1 hp1 hf1 ⊢
  have HG1 := Aside0.mk hg1
  have HD1 := Aside0.mk hd1
  have HR1 := Aside0.mk hr1
  have HF1 := Aside0.mk hf1
  have pc0 : w1.cell? ⟨w.heap.size, 0, none⟩ = some (.bool fin) := (blk_cell hp1 0).trans rfl
  have pc1 : w1.cell? ⟨w.heap.size, 1, none⟩ = some (.int .u8 0) := (blk_cell hp1 1).trans rfl
  have pc2 : w1.cell? ⟨w.heap.size, 2, none⟩ = some (.bool mk) := (blk_cell hp1 2).trans rfl
  have pc3 : w1.cell? ⟨w.heap.size, 3, none⟩ = some (.int .u32 key) := (blk_cell hp1 3).trans rfl
  have pc4 : w1.cell? ⟨w.heap.size, 4, none⟩ = some (.slice A d.length c) := (blk_cell hp1 4).trans rfl
  have pl_ := blk_lt hp1
  clear hg1 hd1 hr1 hp1 hf1
  go_wp2_with fail
  refine (part_any HG1.out HFF.out HD1.out HDN.out HLN.out.1 HLN.out.2).mono ?_
  rintro e w2 hp
  rcases hp with ⟨_, rfl, v', u', gu', hG, hF, hN, hU⟩ | ⟨hz, _⟩
  rotate_left
  · exact absurd HCD.out hz
  have hfin := HFI.out
  subst hfin
  have hu1 : ∀ k, u = .pointer (some ⟨k, 0, none⟩) → k < w.heap.size := HU0.out
  have hr2 : w2.heap[w.heap.size + 1]? = some (.cells #[.int .u8 0, .bool false, .slice none 0 0, .int .u32 0] 30 (0, 0)) := (hF.same _ (blk_lt HR1.out) (fun e => by have := hgl; omega) (fun e => by have := Kd.R_ne HG1.out.gw.row HR1.out (by decide); exact this e) (fun e => by have := hu1 _ e; omega)).trans HR1.out
  have hF2 : Fr w w2 g (.slice Av b.length cv) u := ⟨Nat.le_trans HF1.out.size hF.size, fun k hk h1 h2 h3 => (hF.same k (Nat.lt_of_lt_of_le hk HF1.out.size) h1 h2 h3).trans (HF1.out.same k hk h1 h2 h3)⟩
  have hN := hN.mono HF1.out.size
  obtain ⟨Av', cv', rfl⟩ := Kd.R_slice hG.gw.row
  have HG2 := Aside0.mk hG
  have HR2 := Aside0.mk hr2
  have HF2 := Aside0.mk hF2
  have HN2 := Aside0.mk hN
  clear hG hr2 hF2 hF hN hU HG1 HD1 HR1 HF1 pc0 pc1 pc2 pc3 pc4 pl_
  obtain ⟨tn, htn⟩ : ∃ tn, tn = textN busy text 0 := ⟨_, rfl⟩
  rw [← htn] at HG2 ⊢
  have HTN := Aside0.mk htn
  clear htn
  obtain ⟨mm, hmm⟩ : ∃ mm, mm = (b ++ d).length := ⟨_, rfl⟩
  rw [← hmm] at HG2 HN2
  have HMM := Aside0.mk hmm
  clear hmm
  have hlo2 : w0.heap.size ≤ w.heap.size := HLO.out
  have HT2 : Aside0 (T8 w0 w g (.slice Av b.length cv) u (.slice Av' mm cv') u' (b ++ d) tn gu' (if tn = true then b ++ d else []) w2) := ⟨⟨HG2.out, HR2.out, HF2.out⟩⟩
  clear HG2 HR2 HF2
  go_upto_region 8 with fail
  refine wp_region_noPanic ?_
  refine wp_region_held_drew (S := fun w' => Aside0 (T8 w0 w g (.slice Av b.length cv) u (.slice Av' mm cv') u' (b ++ d) tn gu' (if tn = true then b ++ d else []) w') ∧ w'.cell? ⟨g, 2, none⟩ = some (.bool tn) ∧ w'.cell? ⟨g, 0, none⟩ = some (.slice Av' mm cv')) (by kernel_rfl) (t8S (HT2.out.below (below_drew (Below.refl _ _)))) (fun hHeld => ?_)
  refine takeN (i := 0) (N := (some 33)) (v := ?v31) (a' := ?a31) rfl rfl (by kernel_rfl) (by kernel_rfl) (by kernel_rfl) (fun _ _ _ h => h) (Or.inl ⟨by rfl, ?hy31⟩) ?ha31 (by assumption) ?rest31
  case hy31 =>
    intro w_ hSw_
    go_simp
    first | done | (with_reducible rfl)
  case ha31 =>
    simp only [Act.put, List.setIfInBounds_toArray, List.set_cons_zero, List.set_cons_succ]
    rfl
  refine takeN (i := 1) (N := (some 34)) (v := ?v32) (a' := ?a32) rfl rfl (by kernel_rfl) (by kernel_rfl) (by kernel_rfl) (fun _ _ _ h => h) (Or.inl ⟨by rfl, ?hy32⟩) ?ha32 (by assumption) ?rest32
  case hy32 =>
    intro w_ hSw_
    go_simp
    first | done | (with_reducible rfl)
  case ha32 =>
    simp only [Act.put, List.setIfInBounds_toArray, List.set_cons_zero, List.set_cons_succ]
    rfl
  refine takeN (i := 2) (N := (some 35)) (v := ?v33) (a' := ?a33) rfl rfl (by kernel_rfl) (by kernel_rfl) (by kernel_rfl) (fun _ _ _ h => h) (Or.inl ⟨by rfl, ?hy33⟩) ?ha33 (by assumption) ?rest33
  case hy33 =>
    intro w_ hSw_
    go_simp
    first | done | (with_reducible rfl)
  case ha33 =>
    simp only [Act.put, List.setIfInBounds_toArray, List.set_cons_zero, List.set_cons_succ]
    rfl
  refine takeN (i := 3) (N := (some 36)) (v := ?v34) (a' := ?a34) rfl rfl (by kernel_rfl) (by kernel_rfl) (by kernel_rfl) (fun _ _ _ h => h) (Or.inl ⟨by rfl, ?hy34⟩) ?ha34 (by assumption) ?rest34
  case hy34 =>
    intro w_ hSw_
    go_simp
    first | done | (with_reducible rfl)
  case ha34 =>
    simp only [Act.put, List.setIfInBounds_toArray, List.set_cons_zero, List.set_cons_succ]
    rfl
  refine takeN (i := 4) (N := (some 37)) (v := ?v35) (a' := ?a35) rfl rfl (by kernel_rfl) (by kernel_rfl) (by kernel_rfl) (fun _ _ _ h => h) (Or.inl ⟨by rfl, ?hy35⟩) ?ha35 (by assumption) ?rest35
  case hy35 =>
    intro w_ hSw_
    go_simp
    first | done | (with_reducible rfl)
  case ha35 =>
    simp only [Act.put, List.setIfInBounds_toArray, List.set_cons_zero, List.set_cons_succ]
    rfl
  refine takeN (i := 5) (N := (some 38)) (v := ?v36) (a' := ?a36) rfl rfl (by kernel_rfl) (by kernel_rfl) (by kernel_rfl) (fun _ _ _ h => h) (Or.inl ⟨by rfl, ?hy36⟩) ?ha36 (by assumption) ?rest36
  case hy36 =>
    intro w_ hSw_
    go_simp
    first | done | (with_reducible rfl)
  case ha36 =>
    simp only [Act.put, List.setIfInBounds_toArray, List.set_cons_zero, List.set_cons_succ]
    rfl
  refine takeN (i := 6) (N := (some 39)) (v := ?v37) (a' := ?a37) rfl rfl (by kernel_rfl) (by kernel_rfl) (by kernel_rfl) (fun _ _ _ h => h) (Or.inl ⟨by rfl, ?hy37⟩) ?ha37 (by assumption) ?rest37
  case hy37 =>
    intro w_ hSw_
    go_simp
    first | done | (with_reducible rfl)
  case ha37 =>
    simp only [Act.put, List.setIfInBounds_toArray, List.set_cons_zero, List.set_cons_succ]
    rfl
  refine takeN (i := 7) (N := (some 40)) (v := ?v38) (a' := ?a38) rfl rfl (by kernel_rfl) (by kernel_rfl) (by kernel_rfl) (fun _ _ _ h => h) (Or.inl ⟨by rfl, ?hy38⟩) ?ha38 (by assumption) ?rest38
  case hy38 =>
    intro w_ hSw_
    go_simp
    first | done | (with_reducible rfl)
  case ha38 =>
    simp only [Act.put, List.setIfInBounds_toArray, List.set_cons_zero, List.set_cons_succ]
    rfl
  refine takeN (i := 8) (N := (some 41)) (v := ?v39) (a' := ?a39) rfl rfl (by kernel_rfl) (by kernel_rfl) (by kernel_rfl) (fun _ _ _ h => h) (Or.inl ⟨by rfl, ?hy39⟩) ?ha39 (by assumption) ?rest39
  case hy39 =>
    intro w_ hSw_
    go_simp
    first | done | (with_reducible rfl)
  case ha39 =>
    simp only [Act.put, List.setIfInBounds_toArray, List.set_cons_zero, List.set_cons_succ]
    rfl
  refine wpAnyH_ready (rs := [9]) (by kernel_rfl) (by simp) ?_
  refine AllReadyH.cons rfl (fun K hK => ?_) AllReadyH.nil
  go_simp
  refine hK.out _ _ (t8S ((HT2.out.below (below_drew (Below.refl _ _))).below (below_alloc (Below.refl _ _) _))) (fun hHeld => ?_)
  clear hK K
  try simp only [Act.put, List.setIfInBounds_toArray, List.set_cons_zero, List.set_cons_succ]
  refine wpAnyH_ready (rs := [10]) (by kernel_rfl) (by simp) ?_
  refine AllReadyH.cons rfl (fun K hK => ?_) AllReadyH.nil
  go_simp
  refine hK.out _ _ (t8S ((HT2.out.below (below_alloc (Below.refl _ _) (.cells #[.int .u8 1, .bool tn, .slice Av' mm cv', .int .u32 0] 30))).below (below_drew (Below.refl _ _)))) (fun hHeld => ?_)
  clear hK K
  try simp only [Act.put, List.setIfInBounds_toArray, List.set_cons_zero, List.set_cons_succ]
  refine wpAnyH_done (by kernel_rfl) ?_ _
  refine NoPanic.normal ?_
  have hT4 := (HT2.out.below (below_alloc (Below.refl _ _) (.cells #[.int .u8 1, .bool tn, .slice Av' mm cv', .int .u32 0] 30))).below (below_drew (Below.refl _ _))
  have hb4 : ((w2.alloc (.cells #[.int .u8 1, .bool tn, .slice Av' mm cv', .int .u32 0] 30)).drew).heap[w2.heap.size]? = some (.cells #[.int .u8 1, .bool tn, .slice Av' mm cv', .int .u32 0] 30 (0, 0)) := blk_drew (last_at _ _ _ rfl)
  have hgb : w.heap.size + 1 < w2.heap.size := blk_lt HT2.out.res
  clear hHeld
  generalize (w2.alloc (.cells #[.int .u8 1, .bool tn, .slice Av' mm cv', .int .u32 0] 30)).drew = w4 at hT4 hb4 ⊢
  generalize w2.heap.size = gb at hb4 hgb ⊢
  clear HT2
  have HT4 := Aside0.mk hT4
  have HB4 := Aside0.mk hb4
  clear hT4 hb4
  have gc0 : w4.cell? ⟨g, 0, none⟩ = some (.slice Av' mm cv') := (blk_cell HT4.out.gs.gw.blk 0).trans rfl
  have gc1 : w4.cell? ⟨g, 1, none⟩ = some (.bool true) := (blk_cell HT4.out.gs.gw.blk 1).trans rfl
  have gf0 := blk_frozen HT4.out.gs.gw.blk 0
  have gf1 := blk_frozen HT4.out.gs.gw.blk 1
  have gl := blk_lt HT4.out.gs.gw.blk
  go_upto_region 10 with fail
  have hgb2 : gb ≠ g := blk_ne HB4.out HT4.out.gs.gw.blk (by decide)
  have hgr2 : w.heap.size + 1 ≠ g := blk_ne HT4.out.res HT4.out.gs.gw.blk (by decide)
  have hG5 : Gw w0 ((w4.setCell ⟨g, 0, none⟩ (.slice none 0 0)).setCell ⟨g, 1, none⟩ (.bool false)) g (.slice none 0 0) u' [] false tn false := (HT4.out.gs.gw.setNil).setBusy false
  have hR5 : Kd.R (Kd.int .u8) 5 ((w4.setCell ⟨g, 0, none⟩ (.slice none 0 0)).setCell ⟨g, 1, none⟩ (.bool false)) w0.heap.size (fun _ => True) (.slice Av' mm cv') (b ++ d) := Kd.R_mono (Kd.R_far (Kd.R_far (Kd.R_types HT4.out.gs.gw.row HT4.out.gs.gw.blk (fun q hq => g_ne hq)) (p := ⟨g, 0, none⟩) (fun k hk => hk.2) _) (p := ⟨g, 1, none⟩) (fun k hk => hk.2) _) (fun _ _ => trivial)
  have hF5 : Fr w ((w4.setCell ⟨g, 0, none⟩ (.slice none 0 0)).setCell ⟨g, 1, none⟩ (.bool false)) g (.slice Av b.length cv) u := (HT4.out.fr.set 0 _).set 1 _
  have hb5 : ((w4.setCell ⟨g, 0, none⟩ (.slice none 0 0)).setCell ⟨g, 1, none⟩ (.bool false)).heap[gb]? = some (.cells #[.int .u8 1, .bool tn, .slice Av' mm cv', .int .u32 0] 30 (0, 0)) := (Below.heap_setCell _ _ _ _ hgb2).trans ((Below.heap_setCell _ _ _ _ hgb2).trans HB4.out)
  have hr5 : ((w4.setCell ⟨g, 0, none⟩ (.slice none 0 0)).setCell ⟨g, 1, none⟩ (.bool false)).heap[w.heap.size + 1]? = some (.cells #[.int .u8 0, .bool false, .slice none 0 0, .int .u32 0] 30 (0, 0)) := (Below.heap_setCell _ _ _ _ hgr2).trans ((Below.heap_setCell _ _ _ _ hgr2).trans HT4.out.res)
  generalize ((w4.setCell ⟨g, 0, none⟩ (.slice none 0 0)).setCell ⟨g, 1, none⟩ (.bool false)) = w5 at hG5 hR5 hF5 hb5 hr5 ⊢
  clear gc0 gc1 gf0 gf1 gl HT4 HB4
  have HG5 := Aside0.mk hG5
  have HRW5 := Aside0.mk hR5
  have HF5 := Aside0.mk hF5
  have HR5 := Aside0.mk hr5
  have zc0 : w5.cell? ⟨gb, 0, none⟩ = some (.int .u8 1) := (blk_cell hb5 0).trans rfl
  have zc1 : w5.cell? ⟨gb, 1, none⟩ = some (.bool tn) := (blk_cell hb5 1).trans rfl
  have zc2 : w5.cell? ⟨gb, 2, none⟩ = some (.slice Av' mm cv') := (blk_cell hb5 2).trans rfl
  have zc3 : w5.cell? ⟨gb, 3, none⟩ = some (.int .u32 0) := (blk_cell hb5 3).trans rfl
  have zl := blk_lt hb5
  have rc0 : w5.cell? ⟨w.heap.size + 1, 0, none⟩ = some (.int .u8 0) := (blk_cell hr5 0).trans rfl
  have rf0 := blk_frozen hr5 0
  have rc1 : w5.cell? ⟨w.heap.size + 1, 1, none⟩ = some (.bool false) := (blk_cell hr5 1).trans rfl
  have rf1 := blk_frozen hr5 1
  have rc2 : w5.cell? ⟨w.heap.size + 1, 2, none⟩ = some (.slice none 0 0) := (blk_cell hr5 2).trans rfl
  have rf2 := blk_frozen hr5 2
  have rc3 : w5.cell? ⟨w.heap.size + 1, 3, none⟩ = some (.int .u32 0) := (blk_cell hr5 3).trans rfl
  have rf3 := blk_frozen hr5 3
  have rl := blk_lt hr5
  clear hG5 hR5 hF5 hb5 hr5
  have hle : w0.heap.size ≤ w.heap.size + 1 := by omega
  go_wp2_with fail
  rw [← HTN.out]
  exact bodyPost_ret (v := .tuple #[.agg #[.int .u8 1, .bool tn, .slice Av' mm cv', .int .u32 0], .bool true, .nilIface]) (by simp [results, Tryd.results25, go_sem, rc0, rc1, rc2, rc3]) rfl ⟨_, _, rfl, HG5.out.off4 HR5.out hle _ _ _ _, row_off4 HRW5.out HR5.out _ _ _ _, HF5.out.off4 (Nat.le_succ _) _ _ _ _, HN2.out⟩
set_option maxHeartbeats 8000000 in
set_option maxRecDepth 100000 in
theorem take_told_1 {w0 w : World} {g : Nat} {v u : Value} {b : List Int} {busy text : Bool} {gu : Nat} {f : List Int} {fin : Bool} {mk : Bool} {key : Int} {A : Option Addr} {c : Nat} {d : List Int} (h : Gs w0 w g v u b busy text false gu f) (hff : (busy = true → f = if text = true then b else []) ∧ (busy = false → b = [])) (hd : Dat w (.slice A d.length c) d) (hdn : ∀ k, (Value.slice A d.length c).ownBlock = some k → v.ownBlock ≠ some k) (hbl : b.length ≤ 4096) (hdl : d.length ≤ 1000000000) (hc : partC busy text fin 1 b d = 0) (hfin : fin = true) : Calls Tryd.prog 25 #[.pointer (some ⟨g, 0, none⟩), .agg #[.bool fin, .int .u8 1, .bool mk, .int .u32 key, .slice A d.length c]] w (TkTold w0 g v u (b ++ d) (textN busy text 1) w) := by
  have HU0 := Aside0.mk h.gw.ulow
  have HLO := Aside0.mk h.gw.bel.size
  have hgl := blk_lt h.gw.blk
  have HCD := Aside0.mk hc
  have HFI := Aside0.mk hfin
  clear hfin
  clear hc
  obtain ⟨Av, cv, rfl⟩ := Kd.R_slice h.gw.row
  have HFF := Aside0.mk hff
  have HDN := Aside0.mk hdn
  have HLN := Aside0.mk (And.intro hbl hdl)
  have hw1 : Below w.heap.size w ((w.alloc (.cells #[.bool fin, .int .u8 1, .bool mk, .int .u32 key, .slice A d.length c] 26)).alloc (.cells #[.int .u8 0, .bool false, .slice none 0 0, .int .u32 0] 30)) := below_alloc (below_alloc (Below.refl _ _) _) _
  have hg1 := h.below hw1
  have hd1 := hd.below hw1
  have hr1 : ((w.alloc (.cells #[.bool fin, .int .u8 1, .bool mk, .int .u32 key, .slice A d.length c] 26)).alloc (.cells #[.int .u8 0, .bool false, .slice none 0 0, .int .u32 0] 30)).heap[w.heap.size + 1]? = some (.cells #[.int .u8 0, .bool false, .slice none 0 0, .int .u32 0] 30 (0, 0)) := last_at _ _ _ (by simp)
  have hp1 : ((w.alloc (.cells #[.bool fin, .int .u8 1, .bool mk, .int .u32 key, .slice A d.length c] 26)).alloc (.cells #[.int .u8 0, .bool false, .slice none 0 0, .int .u32 0] 30)).heap[w.heap.size]? = some (.cells #[.bool fin, .int .u8 1, .bool mk, .int .u32 key, .slice A d.length c] 26 (0, 0)) := blk_alloc (last_at _ _ _ rfl) _
  have hf1 := (Fr.refl w g (.slice Av b.length cv) u).below hw1
  have hu30 := Tryd.underlying30
  have hu26 := Tryd.underlying26
  clear h hd hff hdn hbl hdl hw1
  go_enter Tryd.func25, Tryd.ntmps25
  go_upto_region 1 with fail
  generalize (w.alloc (.cells #[.bool fin, .int .u8 1, .bool mk, .int .u32 key, .slice A d.length c] 26)).alloc (.cells #[.int .u8 0, .bool false, .slice none 0 0, .int .u32 0] 30) = w1 at hg1 hd1 hr1 hp1 hf1 ⊢
  have HG1 := Aside0.mk hg1
  have HD1 := Aside0.mk hd1
  have HR1 := Aside0.mk hr1
  have HF1 := Aside0.mk hf1
  have pc0 : w1.cell? ⟨w.heap.size, 0, none⟩ = some (.bool fin) := (blk_cell hp1 0).trans rfl
  have pc1 : w1.cell? ⟨w.heap.size, 1, none⟩ = some (.int .u8 1) := (blk_cell hp1 1).trans rfl
  have pc2 : w1.cell? ⟨w.heap.size, 2, none⟩ = some (.bool mk) := (blk_cell hp1 2).trans rfl
  have pc3 : w1.cell? ⟨w.heap.size, 3, none⟩ = some (.int .u32 key) := (blk_cell hp1 3).trans rfl
  have pc4 : w1.cell? ⟨w.heap.size, 4, none⟩ = some (.slice A d.length c) := (blk_cell hp1 4).trans rfl
  have pl_ := blk_lt hp1
  clear hg1 hd1 hr1 hp1 hf1
  go_wp2_with fail
  refine (part_any HG1.out HFF.out HD1.out HDN.out HLN.out.1 HLN.out.2).mono ?_
  rintro e w2 hp
  rcases hp with ⟨_, rfl, v', u', gu', hG, hF, hN, hU⟩ | ⟨hz, _⟩
  rotate_left
  · exact absurd HCD.out hz
  have hfin := HFI.out
  subst hfin
  have hu1 : ∀ k, u = .pointer (some ⟨k, 0, none⟩) → k < w.heap.size := HU0.out
  have hr2 : w2.heap[w.heap.size + 1]? = some (.cells #[.int .u8 0, .bool false, .slice none 0 0, .int .u32 0] 30 (0, 0)) := (hF.same _ (blk_lt HR1.out) (fun e => by have := hgl; omega) (fun e => by have := Kd.R_ne HG1.out.gw.row HR1.out (by decide); exact this e) (fun e => by have := hu1 _ e; omega)).trans HR1.out
  have hF2 : Fr w w2 g (.slice Av b.length cv) u := ⟨Nat.le_trans HF1.out.size hF.size, fun k hk h1 h2 h3 => (hF.same k (Nat.lt_of_lt_of_le hk HF1.out.size) h1 h2 h3).trans (HF1.out.same k hk h1 h2 h3)⟩
  have hN := hN.mono HF1.out.size
  obtain ⟨Av', cv', rfl⟩ := Kd.R_slice hG.gw.row
  have HG2 := Aside0.mk hG
  have HR2 := Aside0.mk hr2
  have HF2 := Aside0.mk hF2
  have HN2 := Aside0.mk hN
  clear hG hr2 hF2 hF hN hU HG1 HD1 HR1 HF1 pc0 pc1 pc2 pc3 pc4 pl_
  obtain ⟨tn, htn⟩ : ∃ tn, tn = textN busy text 1 := ⟨_, rfl⟩
  rw [← htn] at HG2 ⊢
  have HTN := Aside0.mk htn
  clear htn
  obtain ⟨mm, hmm⟩ : ∃ mm, mm = (b ++ d).length := ⟨_, rfl⟩
  rw [← hmm] at HG2 HN2
  have HMM := Aside0.mk hmm
  clear hmm
  have hlo2 : w0.heap.size ≤ w.heap.size := HLO.out
  have HT2 : Aside0 (T8 w0 w g (.slice Av b.length cv) u (.slice Av' mm cv') u' (b ++ d) tn gu' (if tn = true then b ++ d else []) w2) := ⟨⟨HG2.out, HR2.out, HF2.out⟩⟩
  clear HG2 HR2 HF2
  go_upto_region 8 with fail
  refine wp_region_noPanic ?_
  refine wp_region_held_drew (S := fun w' => Aside0 (T8 w0 w g (.slice Av b.length cv) u (.slice Av' mm cv') u' (b ++ d) tn gu' (if tn = true then b ++ d else []) w') ∧ w'.cell? ⟨g, 2, none⟩ = some (.bool tn) ∧ w'.cell? ⟨g, 0, none⟩ = some (.slice Av' mm cv')) (by kernel_rfl) (t8S (HT2.out.below (below_drew (Below.refl _ _)))) (fun hHeld => ?_)
  refine takeN (i := 0) (N := (some 33)) (v := ?v40) (a' := ?a40) rfl rfl (by kernel_rfl) (by kernel_rfl) (by kernel_rfl) (fun _ _ _ h => h) (Or.inl ⟨by rfl, ?hy40⟩) ?ha40 (by assumption) ?rest40
  case hy40 =>
    intro w_ hSw_
    go_simp
    first | done | (with_reducible rfl)
  case ha40 =>
    simp only [Act.put, List.setIfInBounds_toArray, List.set_cons_zero, List.set_cons_succ]
    rfl
  refine takeN (i := 1) (N := (some 34)) (v := ?v41) (a' := ?a41) rfl rfl (by kernel_rfl) (by kernel_rfl) (by kernel_rfl) (fun _ _ _ h => h) (Or.inl ⟨by rfl, ?hy41⟩) ?ha41 (by assumption) ?rest41
  case hy41 =>
    intro w_ hSw_
    go_simp
    first | done | (with_reducible rfl)
  case ha41 =>
    simp only [Act.put, List.setIfInBounds_toArray, List.set_cons_zero, List.set_cons_succ]
    rfl
  refine takeN (i := 2) (N := (some 35)) (v := ?v42) (a' := ?a42) rfl rfl (by kernel_rfl) (by kernel_rfl) (by kernel_rfl) (fun _ _ _ h => h) (Or.inl ⟨by rfl, ?hy42⟩) ?ha42 (by assumption) ?rest42
  case hy42 =>
    intro w_ hSw_
    go_simp
    first | done | (with_reducible rfl)
  case ha42 =>
    simp only [Act.put, List.setIfInBounds_toArray, List.set_cons_zero, List.set_cons_succ]
    rfl
  refine takeN (i := 3) (N := (some 36)) (v := ?v43) (a' := ?a43) rfl rfl (by kernel_rfl) (by kernel_rfl) (by kernel_rfl) (fun _ _ _ h => h) (Or.inl ⟨by rfl, ?hy43⟩) ?ha43 (by assumption) ?rest43
  case hy43 =>
    intro w_ hSw_
    go_simp
    first | done | (with_reducible rfl)
  case ha43 =>
    simp only [Act.put, List.setIfInBounds_toArray, List.set_cons_zero, List.set_cons_succ]
    rfl
  refine takeN (i := 4) (N := (some 37)) (v := ?v44) (a' := ?a44) rfl rfl (by kernel_rfl) (by kernel_rfl) (by kernel_rfl) (fun _ _ _ h => h) (Or.inl ⟨by rfl, ?hy44⟩) ?ha44 (by assumption) ?rest44
  case hy44 =>
    intro w_ hSw_
    go_simp
    first | done | (with_reducible rfl)
  case ha44 =>
    simp only [Act.put, List.setIfInBounds_toArray, List.set_cons_zero, List.set_cons_succ]
    rfl
  refine takeN (i := 5) (N := (some 38)) (v := ?v45) (a' := ?a45) rfl rfl (by kernel_rfl) (by kernel_rfl) (by kernel_rfl) (fun _ _ _ h => h) (Or.inl ⟨by rfl, ?hy45⟩) ?ha45 (by assumption) ?rest45
  case hy45 =>
    intro w_ hSw_
    go_simp
    first | done | (with_reducible rfl)
  case ha45 =>
    simp only [Act.put, List.setIfInBounds_toArray, List.set_cons_zero, List.set_cons_succ]
    rfl
  refine takeN (i := 6) (N := (some 39)) (v := ?v46) (a' := ?a46) rfl rfl (by kernel_rfl) (by kernel_rfl) (by kernel_rfl) (fun _ _ _ h => h) (Or.inl ⟨by rfl, ?hy46⟩) ?ha46 (by assumption) ?rest46
  case hy46 =>
    intro w_ hSw_
    go_simp
    first | done | (with_reducible rfl)
  case ha46 =>
    simp only [Act.put, List.setIfInBounds_toArray, List.set_cons_zero, List.set_cons_succ]
    rfl
  refine takeN (i := 7) (N := (some 40)) (v := ?v47) (a' := ?a47) rfl rfl (by kernel_rfl) (by kernel_rfl) (by kernel_rfl) (fun _ _ _ h => h) (Or.inl ⟨by rfl, ?hy47⟩) ?ha47 (by assumption) ?rest47
  case hy47 =>
    intro w_ hSw_
    go_simp
    first | done | (with_reducible rfl)
  case ha47 =>
    simp only [Act.put, List.setIfInBounds_toArray, List.set_cons_zero, List.set_cons_succ]
    rfl
  refine takeN (i := 8) (N := (some 41)) (v := ?v48) (a' := ?a48) rfl rfl (by kernel_rfl) (by kernel_rfl) (by kernel_rfl) (fun _ _ _ h => h) (Or.inl ⟨by rfl, ?hy48⟩) ?ha48 (by assumption) ?rest48
  case hy48 =>
    intro w_ hSw_
    go_simp
    first | done | (with_reducible rfl)
  case ha48 =>
    simp only [Act.put, List.setIfInBounds_toArray, List.set_cons_zero, List.set_cons_succ]
    rfl
  refine wpAnyH_ready (rs := [9]) (by kernel_rfl) (by simp) ?_
  refine AllReadyH.cons rfl (fun K hK => ?_) AllReadyH.nil
  go_simp
  refine hK.out _ _ (t8S ((HT2.out.below (below_drew (Below.refl _ _))).below (below_alloc (Below.refl _ _) _))) (fun hHeld => ?_)
  clear hK K
  try simp only [Act.put, List.setIfInBounds_toArray, List.set_cons_zero, List.set_cons_succ]
  refine wpAnyH_ready (rs := [10]) (by kernel_rfl) (by simp) ?_
  refine AllReadyH.cons rfl (fun K hK => ?_) AllReadyH.nil
  go_simp
  refine hK.out _ _ (t8S ((HT2.out.below (below_alloc (Below.refl _ _) (.cells #[.int .u8 1, .bool tn, .slice Av' mm cv', .int .u32 0] 30))).below (below_drew (Below.refl _ _)))) (fun hHeld => ?_)
  clear hK K
  try simp only [Act.put, List.setIfInBounds_toArray, List.set_cons_zero, List.set_cons_succ]
  refine wpAnyH_done (by kernel_rfl) ?_ _
  refine NoPanic.normal ?_
  have hT4 := (HT2.out.below (below_alloc (Below.refl _ _) (.cells #[.int .u8 1, .bool tn, .slice Av' mm cv', .int .u32 0] 30))).below (below_drew (Below.refl _ _))
  have hb4 : ((w2.alloc (.cells #[.int .u8 1, .bool tn, .slice Av' mm cv', .int .u32 0] 30)).drew).heap[w2.heap.size]? = some (.cells #[.int .u8 1, .bool tn, .slice Av' mm cv', .int .u32 0] 30 (0, 0)) := blk_drew (last_at _ _ _ rfl)
  have hgb : w.heap.size + 1 < w2.heap.size := blk_lt HT2.out.res
  clear hHeld
  generalize (w2.alloc (.cells #[.int .u8 1, .bool tn, .slice Av' mm cv', .int .u32 0] 30)).drew = w4 at hT4 hb4 ⊢
  generalize w2.heap.size = gb at hb4 hgb ⊢
  clear HT2
  have HT4 := Aside0.mk hT4
  have HB4 := Aside0.mk hb4
  clear hT4 hb4
  have gc0 : w4.cell? ⟨g, 0, none⟩ = some (.slice Av' mm cv') := (blk_cell HT4.out.gs.gw.blk 0).trans rfl
  have gc1 : w4.cell? ⟨g, 1, none⟩ = some (.bool true) := (blk_cell HT4.out.gs.gw.blk 1).trans rfl
  have gf0 := blk_frozen HT4.out.gs.gw.blk 0
  have gf1 := blk_frozen HT4.out.gs.gw.blk 1
  have gl := blk_lt HT4.out.gs.gw.blk
  go_upto_region 10 with fail
  have hgb2 : gb ≠ g := blk_ne HB4.out HT4.out.gs.gw.blk (by decide)
  have hgr2 : w.heap.size + 1 ≠ g := blk_ne HT4.out.res HT4.out.gs.gw.blk (by decide)
  have hG5 : Gw w0 ((w4.setCell ⟨g, 0, none⟩ (.slice none 0 0)).setCell ⟨g, 1, none⟩ (.bool false)) g (.slice none 0 0) u' [] false tn false := (HT4.out.gs.gw.setNil).setBusy false
  have hR5 : Kd.R (Kd.int .u8) 5 ((w4.setCell ⟨g, 0, none⟩ (.slice none 0 0)).setCell ⟨g, 1, none⟩ (.bool false)) w0.heap.size (fun _ => True) (.slice Av' mm cv') (b ++ d) := Kd.R_mono (Kd.R_far (Kd.R_far (Kd.R_types HT4.out.gs.gw.row HT4.out.gs.gw.blk (fun q hq => g_ne hq)) (p := ⟨g, 0, none⟩) (fun k hk => hk.2) _) (p := ⟨g, 1, none⟩) (fun k hk => hk.2) _) (fun _ _ => trivial)
  have hF5 : Fr w ((w4.setCell ⟨g, 0, none⟩ (.slice none 0 0)).setCell ⟨g, 1, none⟩ (.bool false)) g (.slice Av b.length cv) u := (HT4.out.fr.set 0 _).set 1 _
  have hb5 : ((w4.setCell ⟨g, 0, none⟩ (.slice none 0 0)).setCell ⟨g, 1, none⟩ (.bool false)).heap[gb]? = some (.cells #[.int .u8 1, .bool tn, .slice Av' mm cv', .int .u32 0] 30 (0, 0)) := (Below.heap_setCell _ _ _ _ hgb2).trans ((Below.heap_setCell _ _ _ _ hgb2).trans HB4.out)
  have hr5 : ((w4.setCell ⟨g, 0, none⟩ (.slice none 0 0)).setCell ⟨g, 1, none⟩ (.bool false)).heap[w.heap.size + 1]? = some (.cells #[.int .u8 0, .bool false, .slice none 0 0, .int .u32 0] 30 (0, 0)) := (Below.heap_setCell _ _ _ _ hgr2).trans ((Below.heap_setCell _ _ _ _ hgr2).trans HT4.out.res)
  generalize ((w4.setCell ⟨g, 0, none⟩ (.slice none 0 0)).setCell ⟨g, 1, none⟩ (.bool false)) = w5 at hG5 hR5 hF5 hb5 hr5 ⊢
  clear gc0 gc1 gf0 gf1 gl HT4 HB4
  have HG5 := Aside0.mk hG5
  have HRW5 := Aside0.mk hR5
  have HF5 := Aside0.mk hF5
  have HR5 := Aside0.mk hr5
  have zc0 : w5.cell? ⟨gb, 0, none⟩ = some (.int .u8 1) := (blk_cell hb5 0).trans rfl
  have zc1 : w5.cell? ⟨gb, 1, none⟩ = some (.bool tn) := (blk_cell hb5 1).trans rfl
  have zc2 : w5.cell? ⟨gb, 2, none⟩ = some (.slice Av' mm cv') := (blk_cell hb5 2).trans rfl
  have zc3 : w5.cell? ⟨gb, 3, none⟩ = some (.int .u32 0) := (blk_cell hb5 3).trans rfl
  have zl := blk_lt hb5
  have rc0 : w5.cell? ⟨w.heap.size + 1, 0, none⟩ = some (.int .u8 0) := (blk_cell hr5 0).trans rfl
  have rf0 := blk_frozen hr5 0
  have rc1 : w5.cell? ⟨w.heap.size + 1, 1, none⟩ = some (.bool false) := (blk_cell hr5 1).trans rfl
  have rf1 := blk_frozen hr5 1
  have rc2 : w5.cell? ⟨w.heap.size + 1, 2, none⟩ = some (.slice none 0 0) := (blk_cell hr5 2).trans rfl
  have rf2 := blk_frozen hr5 2
  have rc3 : w5.cell? ⟨w.heap.size + 1, 3, none⟩ = some (.int .u32 0) := (blk_cell hr5 3).trans rfl
  have rf3 := blk_frozen hr5 3
  have rl := blk_lt hr5
  clear hG5 hR5 hF5 hb5 hr5
  have hle : w0.heap.size ≤ w.heap.size + 1 := by omega
  go_wp2_with fail
  rw [← HTN.out]
  exact bodyPost_ret (v := .tuple #[.agg #[.int .u8 1, .bool tn, .slice Av' mm cv', .int .u32 0], .bool true, .nilIface]) (by simp [results, Tryd.results25, go_sem, rc0, rc1, rc2, rc3]) rfl ⟨_, _, rfl, HG5.out.off4 HR5.out hle _ _ _ _, row_off4 HRW5.out HR5.out _ _ _ _, HF5.out.off4 (Nat.le_succ _) _ _ _ _, HN2.out⟩
set_option maxHeartbeats 8000000 in
set_option maxRecDepth 100000 in
theorem take_told_2 {w0 w : World} {g : Nat} {v u : Value} {b : List Int} {busy text : Bool} {gu : Nat} {f : List Int} {fin : Bool} {mk : Bool} {key : Int} {A : Option Addr} {c : Nat} {d : List Int} (h : Gs w0 w g v u b busy text false gu f) (hff : (busy = true → f = if text = true then b else []) ∧ (busy = false → b = [])) (hd : Dat w (.slice A d.length c) d) (hdn : ∀ k, (Value.slice A d.length c).ownBlock = some k → v.ownBlock ≠ some k) (hbl : b.length ≤ 4096) (hdl : d.length ≤ 1000000000) (hc : partC busy text fin 2 b d = 0) (hfin : fin = true) : Calls Tryd.prog 25 #[.pointer (some ⟨g, 0, none⟩), .agg #[.bool fin, .int .u8 2, .bool mk, .int .u32 key, .slice A d.length c]] w (TkTold w0 g v u (b ++ d) (textN busy text 2) w) := by
  have HU0 := Aside0.mk h.gw.ulow
  have HLO := Aside0.mk h.gw.bel.size
  have hgl := blk_lt h.gw.blk
  have HCD := Aside0.mk hc
  have HFI := Aside0.mk hfin
  clear hfin
  clear hc
  obtain ⟨Av, cv, rfl⟩ := Kd.R_slice h.gw.row
  have HFF := Aside0.mk hff
  have HDN := Aside0.mk hdn
  have HLN := Aside0.mk (And.intro hbl hdl)
  have hw1 : Below w.heap.size w ((w.alloc (.cells #[.bool fin, .int .u8 2, .bool mk, .int .u32 key, .slice A d.length c] 26)).alloc (.cells #[.int .u8 0, .bool false, .slice none 0 0, .int .u32 0] 30)) := below_alloc (below_alloc (Below.refl _ _) _) _
  have hg1 := h.below hw1
  have hd1 := hd.below hw1
  have hr1 : ((w.alloc (.cells #[.bool fin, .int .u8 2, .bool mk, .int .u32 key, .slice A d.length c] 26)).alloc (.cells #[.int .u8 0, .bool false, .slice none 0 0, .int .u32 0] 30)).heap[w.heap.size + 1]? = some (.cells #[.int .u8 0, .bool false, .slice none 0 0, .int .u32 0] 30 (0, 0)) := last_at _ _ _ (by simp)
  have hp1 : ((w.alloc (.cells #[.bool fin, .int .u8 2, .bool mk, .int .u32 key, .slice A d.length c] 26)).alloc (.cells #[.int .u8 0, .bool false, .slice none 0 0, .int .u32 0] 30)).heap[w.heap.size]? = some (.cells #[.bool fin, .int .u8 2, .bool mk, .int .u32 key, .slice A d.length c] 26 (0, 0)) := blk_alloc (last_at _ _ _ rfl) _
  have hf1 := (Fr.refl w g (.slice Av b.length cv) u).below hw1
  have hu30 := Tryd.underlying30
  have hu26 := Tryd.underlying26
  clear h hd hff hdn hbl hdl hw1
  go_enter Tryd.func25, Tryd.ntmps25
  go_upto_region 1 with fail
  generalize (w.alloc (.cells #[.bool fin, .int .u8 2, .bool mk, .int .u32 key, .slice A d.length c] 26)).alloc (.cells #[.int .u8 0, .bool false, .slice none 0 0, .int .u32 0] 30) = w1 at hg1 hd1 hr1 hp1 hf1 ⊢
  have HG1 := Aside0.mk hg1
  have HD1 := Aside0.mk hd1
  have HR1 := Aside0.mk hr1
  have HF1 := Aside0.mk hf1
  have pc0 : w1.cell? ⟨w.heap.size, 0, none⟩ = some (.bool fin) := (blk_cell hp1 0).trans rfl
  have pc1 : w1.cell? ⟨w.heap.size, 1, none⟩ = some (.int .u8 2) := (blk_cell hp1 1).trans rfl
  have pc2 : w1.cell? ⟨w.heap.size, 2, none⟩ = some (.bool mk) := (blk_cell hp1 2).trans rfl
  have pc3 : w1.cell? ⟨w.heap.size, 3, none⟩ = some (.int .u32 key) := (blk_cell hp1 3).trans rfl
  have pc4 : w1.cell? ⟨w.heap.size, 4, none⟩ = some (.slice A d.length c) := (blk_cell hp1 4).trans rfl
  have pl_ := blk_lt hp1
  clear hg1 hd1 hr1 hp1 hf1
  go_wp2_with fail
  refine (part_any HG1.out HFF.out HD1.out HDN.out HLN.out.1 HLN.out.2).mono ?_
  rintro e w2 hp
  rcases hp with ⟨_, rfl, v', u', gu', hG, hF, hN, hU⟩ | ⟨hz, _⟩
  rotate_left
  · exact absurd HCD.out hz
  have hfin := HFI.out
  subst hfin
  have hu1 : ∀ k, u = .pointer (some ⟨k, 0, none⟩) → k < w.heap.size := HU0.out
  have hr2 : w2.heap[w.heap.size + 1]? = some (.cells #[.int .u8 0, .bool false, .slice none 0 0, .int .u32 0] 30 (0, 0)) := (hF.same _ (blk_lt HR1.out) (fun e => by have := hgl; omega) (fun e => by have := Kd.R_ne HG1.out.gw.row HR1.out (by decide); exact this e) (fun e => by have := hu1 _ e; omega)).trans HR1.out
  have hF2 : Fr w w2 g (.slice Av b.length cv) u := ⟨Nat.le_trans HF1.out.size hF.size, fun k hk h1 h2 h3 => (hF.same k (Nat.lt_of_lt_of_le hk HF1.out.size) h1 h2 h3).trans (HF1.out.same k hk h1 h2 h3)⟩
  have hN := hN.mono HF1.out.size
  obtain ⟨Av', cv', rfl⟩ := Kd.R_slice hG.gw.row
  have HG2 := Aside0.mk hG
  have HR2 := Aside0.mk hr2
  have HF2 := Aside0.mk hF2
  have HN2 := Aside0.mk hN
  clear hG hr2 hF2 hF hN hU HG1 HD1 HR1 HF1 pc0 pc1 pc2 pc3 pc4 pl_
  obtain ⟨tn, htn⟩ : ∃ tn, tn = textN busy text 2 := ⟨_, rfl⟩
  rw [← htn] at HG2 ⊢
  have HTN := Aside0.mk htn
  clear htn
  obtain ⟨mm, hmm⟩ : ∃ mm, mm = (b ++ d).length := ⟨_, rfl⟩
  rw [← hmm] at HG2 HN2
  have HMM := Aside0.mk hmm
  clear hmm
  have hlo2 : w0.heap.size ≤ w.heap.size := HLO.out
  have HT2 : Aside0 (T8 w0 w g (.slice Av b.length cv) u (.slice Av' mm cv') u' (b ++ d) tn gu' (if tn = true then b ++ d else []) w2) := ⟨⟨HG2.out, HR2.out, HF2.out⟩⟩
  clear HG2 HR2 HF2
  go_upto_region 8 with fail
  refine wp_region_noPanic ?_
  refine wp_region_held_drew (S := fun w' => Aside0 (T8 w0 w g (.slice Av b.length cv) u (.slice Av' mm cv') u' (b ++ d) tn gu' (if tn = true then b ++ d else []) w') ∧ w'.cell? ⟨g, 2, none⟩ = some (.bool tn) ∧ w'.cell? ⟨g, 0, none⟩ = some (.slice Av' mm cv')) (by kernel_rfl) (t8S (HT2.out.below (below_drew (Below.refl _ _)))) (fun hHeld => ?_)
  refine takeN (i := 0) (N := (some 33)) (v := ?v49) (a' := ?a49) rfl rfl (by kernel_rfl) (by kernel_rfl) (by kernel_rfl) (fun _ _ _ h => h) (Or.inl ⟨by rfl, ?hy49⟩) ?ha49 (by assumption) ?rest49
  case hy49 =>
    intro w_ hSw_
    go_simp
    first | done | (with_reducible rfl)
  case ha49 =>
    simp only [Act.put, List.setIfInBounds_toArray, List.set_cons_zero, List.set_cons_succ]
    rfl
  refine takeN (i := 1) (N := (some 34)) (v := ?v50) (a' := ?a50) rfl rfl (by kernel_rfl) (by kernel_rfl) (by kernel_rfl) (fun _ _ _ h => h) (Or.inl ⟨by rfl, ?hy50⟩) ?ha50 (by assumption) ?rest50
  case hy50 =>
    intro w_ hSw_
    go_simp
    first | done | (with_reducible rfl)
  case ha50 =>
    simp only [Act.put, List.setIfInBounds_toArray, List.set_cons_zero, List.set_cons_succ]
    rfl
  refine takeN (i := 2) (N := (some 35)) (v := ?v51) (a' := ?a51) rfl rfl (by kernel_rfl) (by kernel_rfl) (by kernel_rfl) (fun _ _ _ h => h) (Or.inl ⟨by rfl, ?hy51⟩) ?ha51 (by assumption) ?rest51
  case hy51 =>
    intro w_ hSw_
    go_simp
    first | done | (with_reducible rfl)
  case ha51 =>
    simp only [Act.put, List.setIfInBounds_toArray, List.set_cons_zero, List.set_cons_succ]
    rfl
  refine takeN (i := 3) (N := (some 36)) (v := ?v52) (a' := ?a52) rfl rfl (by kernel_rfl) (by kernel_rfl) (by kernel_rfl) (fun _ _ _ h => h) (Or.inl ⟨by rfl, ?hy52⟩) ?ha52 (by assumption) ?rest52
  case hy52 =>
    intro w_ hSw_
    go_simp
    first | done | (with_reducible rfl)
  case ha52 =>
    simp only [Act.put, List.setIfInBounds_toArray, List.set_cons_zero, List.set_cons_succ]
    rfl
  refine takeN (i := 4) (N := (some 37)) (v := ?v53) (a' := ?a53) rfl rfl (by kernel_rfl) (by kernel_rfl) (by kernel_rfl) (fun _ _ _ h => h) (Or.inl ⟨by rfl, ?hy53⟩) ?ha53 (by assumption) ?rest53
  case hy53 =>
    intro w_ hSw_
    go_simp
    first | done | (with_reducible rfl)
  case ha53 =>
    simp only [Act.put, List.setIfInBounds_toArray, List.set_cons_zero, List.set_cons_succ]
    rfl
  refine takeN (i := 5) (N := (some 38)) (v := ?v54) (a' := ?a54) rfl rfl (by kernel_rfl) (by kernel_rfl) (by kernel_rfl) (fun _ _ _ h => h) (Or.inl ⟨by rfl, ?hy54⟩) ?ha54 (by assumption) ?rest54
  case hy54 =>
    intro w_ hSw_
    go_simp
    first | done | (with_reducible rfl)
  case ha54 =>
    simp only [Act.put, List.setIfInBounds_toArray, List.set_cons_zero, List.set_cons_succ]
    rfl
  refine takeN (i := 6) (N := (some 39)) (v := ?v55) (a' := ?a55) rfl rfl (by kernel_rfl) (by kernel_rfl) (by kernel_rfl) (fun _ _ _ h => h) (Or.inl ⟨by rfl, ?hy55⟩) ?ha55 (by assumption) ?rest55
  case hy55 =>
    intro w_ hSw_
    go_simp
    first | done | (with_reducible rfl)
  case ha55 =>
    simp only [Act.put, List.setIfInBounds_toArray, List.set_cons_zero, List.set_cons_succ]
    rfl
  refine takeN (i := 7) (N := (some 40)) (v := ?v56) (a' := ?a56) rfl rfl (by kernel_rfl) (by kernel_rfl) (by kernel_rfl) (fun _ _ _ h => h) (Or.inl ⟨by rfl, ?hy56⟩) ?ha56 (by assumption) ?rest56
  case hy56 =>
    intro w_ hSw_
    go_simp
    first | done | (with_reducible rfl)
  case ha56 =>
    simp only [Act.put, List.setIfInBounds_toArray, List.set_cons_zero, List.set_cons_succ]
    rfl
  refine takeN (i := 8) (N := (some 41)) (v := ?v57) (a' := ?a57) rfl rfl (by kernel_rfl) (by kernel_rfl) (by kernel_rfl) (fun _ _ _ h => h) (Or.inl ⟨by rfl, ?hy57⟩) ?ha57 (by assumption) ?rest57
  case hy57 =>
    intro w_ hSw_
    go_simp
    first | done | (with_reducible rfl)
  case ha57 =>
    simp only [Act.put, List.setIfInBounds_toArray, List.set_cons_zero, List.set_cons_succ]
    rfl
  refine wpAnyH_ready (rs := [9]) (by kernel_rfl) (by simp) ?_
  refine AllReadyH.cons rfl (fun K hK => ?_) AllReadyH.nil
  go_simp
  refine hK.out _ _ (t8S ((HT2.out.below (below_drew (Below.refl _ _))).below (below_alloc (Below.refl _ _) _))) (fun hHeld => ?_)
  clear hK K
  try simp only [Act.put, List.setIfInBounds_toArray, List.set_cons_zero, List.set_cons_succ]
  refine wpAnyH_ready (rs := [10]) (by kernel_rfl) (by simp) ?_
  refine AllReadyH.cons rfl (fun K hK => ?_) AllReadyH.nil
  go_simp
  refine hK.out _ _ (t8S ((HT2.out.below (below_alloc (Below.refl _ _) (.cells #[.int .u8 1, .bool tn, .slice Av' mm cv', .int .u32 0] 30))).below (below_drew (Below.refl _ _)))) (fun hHeld => ?_)
  clear hK K
  try simp only [Act.put, List.setIfInBounds_toArray, List.set_cons_zero, List.set_cons_succ]
  refine wpAnyH_done (by kernel_rfl) ?_ _
  refine NoPanic.normal ?_
  have hT4 := (HT2.out.below (below_alloc (Below.refl _ _) (.cells #[.int .u8 1, .bool tn, .slice Av' mm cv', .int .u32 0] 30))).below (below_drew (Below.refl _ _))
  have hb4 : ((w2.alloc (.cells #[.int .u8 1, .bool tn, .slice Av' mm cv', .int .u32 0] 30)).drew).heap[w2.heap.size]? = some (.cells #[.int .u8 1, .bool tn, .slice Av' mm cv', .int .u32 0] 30 (0, 0)) := blk_drew (last_at _ _ _ rfl)
  have hgb : w.heap.size + 1 < w2.heap.size := blk_lt HT2.out.res
  clear hHeld
  generalize (w2.alloc (.cells #[.int .u8 1, .bool tn, .slice Av' mm cv', .int .u32 0] 30)).drew = w4 at hT4 hb4 ⊢
  generalize w2.heap.size = gb at hb4 hgb ⊢
  clear HT2
  have HT4 := Aside0.mk hT4
  have HB4 := Aside0.mk hb4
  clear hT4 hb4
  have gc0 : w4.cell? ⟨g, 0, none⟩ = some (.slice Av' mm cv') := (blk_cell HT4.out.gs.gw.blk 0).trans rfl
  have gc1 : w4.cell? ⟨g, 1, none⟩ = some (.bool true) := (blk_cell HT4.out.gs.gw.blk 1).trans rfl
  have gf0 := blk_frozen HT4.out.gs.gw.blk 0
  have gf1 := blk_frozen HT4.out.gs.gw.blk 1
  have gl := blk_lt HT4.out.gs.gw.blk
  go_upto_region 10 with fail
  have hgb2 : gb ≠ g := blk_ne HB4.out HT4.out.gs.gw.blk (by decide)
  have hgr2 : w.heap.size + 1 ≠ g := blk_ne HT4.out.res HT4.out.gs.gw.blk (by decide)
  have hG5 : Gw w0 ((w4.setCell ⟨g, 0, none⟩ (.slice none 0 0)).setCell ⟨g, 1, none⟩ (.bool false)) g (.slice none 0 0) u' [] false tn false := (HT4.out.gs.gw.setNil).setBusy false
  have hR5 : Kd.R (Kd.int .u8) 5 ((w4.setCell ⟨g, 0, none⟩ (.slice none 0 0)).setCell ⟨g, 1, none⟩ (.bool false)) w0.heap.size (fun _ => True) (.slice Av' mm cv') (b ++ d) := Kd.R_mono (Kd.R_far (Kd.R_far (Kd.R_types HT4.out.gs.gw.row HT4.out.gs.gw.blk (fun q hq => g_ne hq)) (p := ⟨g, 0, none⟩) (fun k hk => hk.2) _) (p := ⟨g, 1, none⟩) (fun k hk => hk.2) _) (fun _ _ => trivial)
  have hF5 : Fr w ((w4.setCell ⟨g, 0, none⟩ (.slice none 0 0)).setCell ⟨g, 1, none⟩ (.bool false)) g (.slice Av b.length cv) u := (HT4.out.fr.set 0 _).set 1 _
  have hb5 : ((w4.setCell ⟨g, 0, none⟩ (.slice none 0 0)).setCell ⟨g, 1, none⟩ (.bool false)).heap[gb]? = some (.cells #[.int .u8 1, .bool tn, .slice Av' mm cv', .int .u32 0] 30 (0, 0)) := (Below.heap_setCell _ _ _ _ hgb2).trans ((Below.heap_setCell _ _ _ _ hgb2).trans HB4.out)
  have hr5 : ((w4.setCell ⟨g, 0, none⟩ (.slice none 0 0)).setCell ⟨g, 1, none⟩ (.bool false)).heap[w.heap.size + 1]? = some (.cells #[.int .u8 0, .bool false, .slice none 0 0, .int .u32 0] 30 (0, 0)) := (Below.heap_setCell _ _ _ _ hgr2).trans ((Below.heap_setCell _ _ _ _ hgr2).trans HT4.out.res)
  generalize ((w4.setCell ⟨g, 0, none⟩ (.slice none 0 0)).setCell ⟨g, 1, none⟩ (.bool false)) = w5 at hG5 hR5 hF5 hb5 hr5 ⊢
  clear gc0 gc1 gf0 gf1 gl HT4 HB4
  have HG5 := Aside0.mk hG5
  have HRW5 := Aside0.mk hR5
  have HF5 := Aside0.mk hF5
  have HR5 := Aside0.mk hr5
  have zc0 : w5.cell? ⟨gb, 0, none⟩ = some (.int .u8 1) := (blk_cell hb5 0).trans rfl
  have zc1 : w5.cell? ⟨gb, 1, none⟩ = some (.bool tn) := (blk_cell hb5 1).trans rfl
  have zc2 : w5.cell? ⟨gb, 2, none⟩ = some (.slice Av' mm cv') := (blk_cell hb5 2).trans rfl
  have zc3 : w5.cell? ⟨gb, 3, none⟩ = some (.int .u32 0) := (blk_cell hb5 3).trans rfl
  have zl := blk_lt hb5
  have rc0 : w5.cell? ⟨w.heap.size + 1, 0, none⟩ = some (.int .u8 0) := (blk_cell hr5 0).trans rfl
  have rf0 := blk_frozen hr5 0
  have rc1 : w5.cell? ⟨w.heap.size + 1, 1, none⟩ = some (.bool false) := (blk_cell hr5 1).trans rfl
  have rf1 := blk_frozen hr5 1
  have rc2 : w5.cell? ⟨w.heap.size + 1, 2, none⟩ = some (.slice none 0 0) := (blk_cell hr5 2).trans rfl
  have rf2 := blk_frozen hr5 2
  have rc3 : w5.cell? ⟨w.heap.size + 1, 3, none⟩ = some (.int .u32 0) := (blk_cell hr5 3).trans rfl
  have rf3 := blk_frozen hr5 3
  have rl := blk_lt hr5
  clear hG5 hR5 hF5 hb5 hr5
  have hle : w0.heap.size ≤ w.heap.size + 1 := by omega
  go_wp2_with fail
  rw [← HTN.out]
  exact bodyPost_ret (v := .tuple #[.agg #[.int .u8 1, .bool tn, .slice Av' mm cv', .int .u32 0], .bool true, .nilIface]) (by simp [results, Tryd.results25, go_sem, rc0, rc1, rc2, rc3]) rfl ⟨_, _, rfl, HG5.out.off4 HR5.out hle _ _ _ _, row_off4 HRW5.out HR5.out _ _ _ _, HF5.out.off4 (Nat.le_succ _) _ _ _ _, HN2.out⟩
set_option maxHeartbeats 8000000 in
set_option maxRecDepth 100000 in
theorem take_bad_0 {w0 w : World} {g : Nat} {v u : Value} {b : List Int} {busy text : Bool} {gu : Nat} {f : List Int} {fin : Bool} {mk : Bool} {key : Int} {A : Option Addr} {c : Nat} {d : List Int} (h : Gs w0 w g v u b busy text false gu f) (hff : (busy = true → f = if text = true then b else []) ∧ (busy = false → b = [])) (hd : Dat w (.slice A d.length c) d) (hdn : ∀ k, (Value.slice A d.length c).ownBlock = some k → v.ownBlock ≠ some k) (hbl : b.length ≤ 4096) (hdl : d.length ≤ 1000000000) (hc : partC busy text fin 0 b d ≠ 0) : Calls Tryd.prog 25 #[.pointer (some ⟨g, 0, none⟩), .agg #[.bool fin, .int .u8 0, .bool mk, .int .u32 key, .slice A d.length c]] w (TkBad w0 g v u (partC busy text fin 0 b d) w) := by
  have HU0 := Aside0.mk h.gw.ulow
  have HLO := Aside0.mk h.gw.bel.size
  have hgl := blk_lt h.gw.blk
  have HCD := Aside0.mk hc
  clear hc
  obtain ⟨Av, cv, rfl⟩ := Kd.R_slice h.gw.row
  have HFF := Aside0.mk hff
  have HDN := Aside0.mk hdn
  have HLN := Aside0.mk (And.intro hbl hdl)
  have hw1 : Below w.heap.size w ((w.alloc (.cells #[.bool fin, .int .u8 0, .bool mk, .int .u32 key, .slice A d.length c] 26)).alloc (.cells #[.int .u8 0, .bool false, .slice none 0 0, .int .u32 0] 30)) := below_alloc (below_alloc (Below.refl _ _) _) _
  have hg1 := h.below hw1
  have hd1 := hd.below hw1
  have hr1 : ((w.alloc (.cells #[.bool fin, .int .u8 0, .bool mk, .int .u32 key, .slice A d.length c] 26)).alloc (.cells #[.int .u8 0, .bool false, .slice none 0 0, .int .u32 0] 30)).heap[w.heap.size + 1]? = some (.cells #[.int .u8 0, .bool false, .slice none 0 0, .int .u32 0] 30 (0, 0)) := last_at _ _ _ (by simp)
  have hp1 : ((w.alloc (.cells #[.bool fin, .int .u8 0, .bool mk, .int .u32 key, .slice A d.length c] 26)).alloc (.cells #[.int .u8 0, .bool false, .slice none 0 0, .int .u32 0] 30)).heap[w.heap.size]? = some (.cells #[.bool fin, .int .u8 0, .bool mk, .int .u32 key, .slice A d.length c] 26 (0, 0)) := blk_alloc (last_at _ _ _ rfl) _
  have hf1 := (Fr.refl w g (.slice Av b.length cv) u).below hw1
  have hu30 := Tryd.underlying30
  have hu26 := Tryd.underlying26
  clear h hd hff hdn hbl hdl hw1
  go_enter Tryd.func25, Tryd.ntmps25
  go_upto_region 1 with fail
  generalize (w.alloc (.cells #[.bool fin, .int .u8 0, .bool mk, .int .u32 key, .slice A d.length c] 26)).alloc (.cells #[.int .u8 0, .bool false, .slice none 0 0, .int .u32 0] 30) = w1 at hg1 hd1 hr1 hp1 hf1 ⊢
  have HG1 := Aside0.mk hg1
  have HD1 := Aside0.mk hd1
  have HR1 := Aside0.mk hr1
  have HF1 := Aside0.mk hf1
  have pc0 : w1.cell? ⟨w.heap.size, 0, none⟩ = some (.bool fin) := (blk_cell hp1 0).trans rfl
  have pc1 : w1.cell? ⟨w.heap.size, 1, none⟩ = some (.int .u8 0) := (blk_cell hp1 1).trans rfl
  have pc2 : w1.cell? ⟨w.heap.size, 2, none⟩ = some (.bool mk) := (blk_cell hp1 2).trans rfl
  have pc3 : w1.cell? ⟨w.heap.size, 3, none⟩ = some (.int .u32 key) := (blk_cell hp1 3).trans rfl
  have pc4 : w1.cell? ⟨w.heap.size, 4, none⟩ = some (.slice A d.length c) := (blk_cell hp1 4).trans rfl
  have pl_ := blk_lt hp1
  clear hg1 hd1 hr1 hp1 hf1
  go_wp2_with fail
  refine (part_any HG1.out HFF.out HD1.out HDN.out HLN.out.1 HLN.out.2).mono ?_
  rintro e w2 hp
  rcases hp with ⟨hz, _⟩ | ⟨_, vb, rfl, hbad, v', u', b', bu, te, hG, hF, hN⟩
  · exact absurd hz HCD.out
  have hu1 : ∀ k, u = .pointer (some ⟨k, 0, none⟩) → k < w.heap.size := HU0.out
  have hr2 : w2.heap[w.heap.size + 1]? = some (.cells #[.int .u8 0, .bool false, .slice none 0 0, .int .u32 0] 30 (0, 0)) := (hF.same _ (blk_lt HR1.out) (fun e => by have := hgl; omega) (fun e => by have := Kd.R_ne HG1.out.gw.row HR1.out (by decide); exact this e) (fun e => by have := hu1 _ e; omega)).trans HR1.out
  have hF2 : Fr w w2 g (.slice Av b.length cv) u := ⟨Nat.le_trans HF1.out.size hF.size, fun k hk h1 h2 h3 => (hF.same k (Nat.lt_of_lt_of_le hk HF1.out.size) h1 h2 h3).trans (HF1.out.same k hk h1 h2 h3)⟩
  have hN := hN.mono HF1.out.size
  have hb0 := hbad
  obtain ⟨qb, rfl, hqb⟩ := hb0
  have HG2 := Aside0.mk hG
  have HB2 := Aside0.mk hbad
  have HR2 := Aside0.mk hr2
  have HF2 := Aside0.mk hF2
  clear hG hbad hqb hr2 hF2 hF hN HG1 HD1 HR1 HF1 pc0 pc1 pc2 pc3 pc4 pl_
  go_wp2_with fail
  refine (wrap_any _ _ _ _ HB2.out).mono ?_
  rintro e w3 ⟨v3, rfl, hwr, hb3⟩
  obtain ⟨q3, s3, v3', rfl, hq3, hq3b⟩ := hwr
  have hwr : IsWr w3 _ _ := ⟨q3, s3, v3', rfl, hq3, hq3b⟩
  have hr3 := blk_below HR2.out hb3
  have HG3 := Aside0.mk (HG2.out.below hb3)
  have HF3 := Aside0.mk (HF2.out.below hb3)
  have HW3 := Aside0.mk hwr
  have HR3 := Aside0.mk hr3
  clear hwr hq3 hq3b hb3 HG2 HF2 HR2 HB2
  have rc0 : w3.cell? ⟨w.heap.size + 1, 0, none⟩ = some (.int .u8 0) := (blk_cell HR3.out 0).trans rfl
  have rf0 := blk_frozen HR3.out 0
  have rc1 : w3.cell? ⟨w.heap.size + 1, 1, none⟩ = some (.bool false) := (blk_cell HR3.out 1).trans rfl
  have rf1 := blk_frozen HR3.out 1
  have rc2 : w3.cell? ⟨w.heap.size + 1, 2, none⟩ = some (.slice none 0 0) := (blk_cell HR3.out 2).trans rfl
  have rf2 := blk_frozen HR3.out 2
  have rc3 : w3.cell? ⟨w.heap.size + 1, 3, none⟩ = some (.int .u32 0) := (blk_cell HR3.out 3).trans rfl
  have rf3 := blk_frozen HR3.out 3
  have rl := blk_lt HR3.out
  clear hr3
  have hle : w0.heap.size ≤ w.heap.size + 1 := Nat.le_succ_of_le HLO.out
  go_wp2_with fail
  exact bodyPost_ret (v := .tuple #[.agg #[.int .u8 0, .bool false, .slice none 0 0, .int .u32 0], .bool false, .iface _ _]) (by simp [results, Tryd.results25, go_sem, rc0, rc1, rc2, rc3]) rfl ⟨_, _, _, _, _, _, _, _, rfl, .inl (wr_off4 HW3.out HR3.out _ _ _ _), HG3.out.off4 HR3.out hle _ _ _ _, HF3.out.off4 (Nat.le_succ _) _ _ _ _⟩
set_option maxHeartbeats 8000000 in
set_option maxRecDepth 100000 in
theorem take_bad_1 {w0 w : World} {g : Nat} {v u : Value} {b : List Int} {busy text : Bool} {gu : Nat} {f : List Int} {fin : Bool} {mk : Bool} {key : Int} {A : Option Addr} {c : Nat} {d : List Int} (h : Gs w0 w g v u b busy text false gu f) (hff : (busy = true → f = if text = true then b else []) ∧ (busy = false → b = [])) (hd : Dat w (.slice A d.length c) d) (hdn : ∀ k, (Value.slice A d.length c).ownBlock = some k → v.ownBlock ≠ some k) (hbl : b.length ≤ 4096) (hdl : d.length ≤ 1000000000) (hc : partC busy text fin 1 b d ≠ 0) : Calls Tryd.prog 25 #[.pointer (some ⟨g, 0, none⟩), .agg #[.bool fin, .int .u8 1, .bool mk, .int .u32 key, .slice A d.length c]] w (TkBad w0 g v u (partC busy text fin 1 b d) w) := by
  have HU0 := Aside0.mk h.gw.ulow
  have HLO := Aside0.mk h.gw.bel.size
  have hgl := blk_lt h.gw.blk
  have HCD := Aside0.mk hc
  clear hc
  obtain ⟨Av, cv, rfl⟩ := Kd.R_slice h.gw.row
  have HFF := Aside0.mk hff
  have HDN := Aside0.mk hdn
  have HLN := Aside0.mk (And.intro hbl hdl)
  have hw1 : Below w.heap.size w ((w.alloc (.cells #[.bool fin, .int .u8 1, .bool mk, .int .u32 key, .slice A d.length c] 26)).alloc (.cells #[.int .u8 0, .bool false, .slice none 0 0, .int .u32 0] 30)) := below_alloc (below_alloc (Below.refl _ _) _) _
  have hg1 := h.below hw1
  have hd1 := hd.below hw1
  have hr1 : ((w.alloc (.cells #[.bool fin, .int .u8 1, .bool mk, .int .u32 key, .slice A d.length c] 26)).alloc (.cells #[.int .u8 0, .bool false, .slice none 0 0, .int .u32 0] 30)).heap[w.heap.size + 1]? = some (.cells #[.int .u8 0, .bool false, .slice none 0 0, .int .u32 0] 30 (0, 0)) := last_at _ _ _ (by simp)
  have hp1 : ((w.alloc (.cells #[.bool fin, .int .u8 1, .bool mk, .int .u32 key, .slice A d.length c] 26)).alloc (.cells #[.int .u8 0, .bool false, .slice none 0 0, .int .u32 0] 30)).heap[w.heap.size]? = some (.cells #[.bool fin, .int .u8 1, .bool mk, .int .u32 key, .slice A d.length c] 26 (0, 0)) := blk_alloc (last_at _ _ _ rfl) _
  have hf1 := (Fr.refl w g (.slice Av b.length cv) u).below hw1
  have hu30 := Tryd.underlying30
  have hu26 := Tryd.underlying26
  clear h hd hff hdn hbl hdl hw1
  go_enter Tryd.func25, Tryd.ntmps25
  go_upto_region 1 with fail
  generalize (w.alloc (.cells #[.bool fin, .int .u8 1, .bool mk, .int .u32 key, .slice A d.length c] 26)).alloc (.cells #[.int .u8 0, .bool false, .slice none 0 0, .int .u32 0] 30) = w1 at hg1 hd1 hr1 hp1 hf1 ⊢
  have HG1 := Aside0.mk hg1
  have HD1 := Aside0.mk hd1
  have HR1 := Aside0.mk hr1
  have HF1 := Aside0.mk hf1
  have pc0 : w1.cell? ⟨w.heap.size, 0, none⟩ = some (.bool fin) := (blk_cell hp1 0).trans rfl
  have pc1 : w1.cell? ⟨w.heap.size, 1, none⟩ = some (.int .u8 1) := (blk_cell hp1 1).trans rfl
  have pc2 : w1.cell? ⟨w.heap.size, 2, none⟩ = some (.bool mk) := (blk_cell hp1 2).trans rfl
  have pc3 : w1.cell? ⟨w.heap.size, 3, none⟩ = some (.int .u32 key) := (blk_cell hp1 3).trans rfl
  have pc4 : w1.cell? ⟨w.heap.size, 4, none⟩ = some (.slice A d.length c) := (blk_cell hp1 4).trans rfl
  have pl_ := blk_lt hp1
  clear hg1 hd1 hr1 hp1 hf1
  go_wp2_with fail
  refine (part_any HG1.out HFF.out HD1.out HDN.out HLN.out.1 HLN.out.2).mono ?_
  rintro e w2 hp
  rcases hp with ⟨hz, _⟩ | ⟨_, vb, rfl, hbad, v', u', b', bu, te, hG, hF, hN⟩
  · exact absurd hz HCD.out
  have hu1 : ∀ k, u = .pointer (some ⟨k, 0, none⟩) → k < w.heap.size := HU0.out
  have hr2 : w2.heap[w.heap.size + 1]? = some (.cells #[.int .u8 0, .bool false, .slice none 0 0, .int .u32 0] 30 (0, 0)) := (hF.same _ (blk_lt HR1.out) (fun e => by have := hgl; omega) (fun e => by have := Kd.R_ne HG1.out.gw.row HR1.out (by decide); exact this e) (fun e => by have := hu1 _ e; omega)).trans HR1.out
  have hF2 : Fr w w2 g (.slice Av b.length cv) u := ⟨Nat.le_trans HF1.out.size hF.size, fun k hk h1 h2 h3 => (hF.same k (Nat.lt_of_lt_of_le hk HF1.out.size) h1 h2 h3).trans (HF1.out.same k hk h1 h2 h3)⟩
  have hN := hN.mono HF1.out.size
  have hb0 := hbad
  obtain ⟨qb, rfl, hqb⟩ := hb0
  have HG2 := Aside0.mk hG
  have HB2 := Aside0.mk hbad
  have HR2 := Aside0.mk hr2
  have HF2 := Aside0.mk hF2
  clear hG hbad hqb hr2 hF2 hF hN HG1 HD1 HR1 HF1 pc0 pc1 pc2 pc3 pc4 pl_
  go_wp2_with fail
  refine (wrap_any _ _ _ _ HB2.out).mono ?_
  rintro e w3 ⟨v3, rfl, hwr, hb3⟩
  obtain ⟨q3, s3, v3', rfl, hq3, hq3b⟩ := hwr
  have hwr : IsWr w3 _ _ := ⟨q3, s3, v3', rfl, hq3, hq3b⟩
  have hr3 := blk_below HR2.out hb3
  have HG3 := Aside0.mk (HG2.out.below hb3)
  have HF3 := Aside0.mk (HF2.out.below hb3)
  have HW3 := Aside0.mk hwr
  have HR3 := Aside0.mk hr3
  clear hwr hq3 hq3b hb3 HG2 HF2 HR2 HB2
  have rc0 : w3.cell? ⟨w.heap.size + 1, 0, none⟩ = some (.int .u8 0) := (blk_cell HR3.out 0).trans rfl
  have rf0 := blk_frozen HR3.out 0
  have rc1 : w3.cell? ⟨w.heap.size + 1, 1, none⟩ = some (.bool false) := (blk_cell HR3.out 1).trans rfl
  have rf1 := blk_frozen HR3.out 1
  have rc2 : w3.cell? ⟨w.heap.size + 1, 2, none⟩ = some (.slice none 0 0) := (blk_cell HR3.out 2).trans rfl
  have rf2 := blk_frozen HR3.out 2
  have rc3 : w3.cell? ⟨w.heap.size + 1, 3, none⟩ = some (.int .u32 0) := (blk_cell HR3.out 3).trans rfl
  have rf3 := blk_frozen HR3.out 3
  have rl := blk_lt HR3.out
  clear hr3
  have hle : w0.heap.size ≤ w.heap.size + 1 := Nat.le_succ_of_le HLO.out
  go_wp2_with fail
  exact bodyPost_ret (v := .tuple #[.agg #[.int .u8 0, .bool false, .slice none 0 0, .int .u32 0], .bool false, .iface _ _]) (by simp [results, Tryd.results25, go_sem, rc0, rc1, rc2, rc3]) rfl ⟨_, _, _, _, _, _, _, _, rfl, .inl (wr_off4 HW3.out HR3.out _ _ _ _), HG3.out.off4 HR3.out hle _ _ _ _, HF3.out.off4 (Nat.le_succ _) _ _ _ _⟩
set_option maxHeartbeats 8000000 in
set_option maxRecDepth 100000 in
theorem take_bad_2 {w0 w : World} {g : Nat} {v u : Value} {b : List Int} {busy text : Bool} {gu : Nat} {f : List Int} {fin : Bool} {mk : Bool} {key : Int} {A : Option Addr} {c : Nat} {d : List Int} (h : Gs w0 w g v u b busy text false gu f) (hff : (busy = true → f = if text = true then b else []) ∧ (busy = false → b = [])) (hd : Dat w (.slice A d.length c) d) (hdn : ∀ k, (Value.slice A d.length c).ownBlock = some k → v.ownBlock ≠ some k) (hbl : b.length ≤ 4096) (hdl : d.length ≤ 1000000000) (hc : partC busy text fin 2 b d ≠ 0) : Calls Tryd.prog 25 #[.pointer (some ⟨g, 0, none⟩), .agg #[.bool fin, .int .u8 2, .bool mk, .int .u32 key, .slice A d.length c]] w (TkBad w0 g v u (partC busy text fin 2 b d) w) := by
  have HU0 := Aside0.mk h.gw.ulow
  have HLO := Aside0.mk h.gw.bel.size
  have hgl := blk_lt h.gw.blk
  have HCD := Aside0.mk hc
  clear hc
  obtain ⟨Av, cv, rfl⟩ := Kd.R_slice h.gw.row
  have HFF := Aside0.mk hff
  have HDN := Aside0.mk hdn
  have HLN := Aside0.mk (And.intro hbl hdl)
  have hw1 : Below w.heap.size w ((w.alloc (.cells #[.bool fin, .int .u8 2, .bool mk, .int .u32 key, .slice A d.length c] 26)).alloc (.cells #[.int .u8 0, .bool false, .slice none 0 0, .int .u32 0] 30)) := below_alloc (below_alloc (Below.refl _ _) _) _
  have hg1 := h.below hw1
  have hd1 := hd.below hw1
  have hr1 : ((w.alloc (.cells #[.bool fin, .int .u8 2, .bool mk, .int .u32 key, .slice A d.length c] 26)).alloc (.cells #[.int .u8 0, .bool false, .slice none 0 0, .int .u32 0] 30)).heap[w.heap.size + 1]? = some (.cells #[.int .u8 0, .bool false, .slice none 0 0, .int .u32 0] 30 (0, 0)) := last_at _ _ _ (by simp)
  have hp1 : ((w.alloc (.cells #[.bool fin, .int .u8 2, .bool mk, .int .u32 key, .slice A d.length c] 26)).alloc (.cells #[.int .u8 0, .bool false, .slice none 0 0, .int .u32 0] 30)).heap[w.heap.size]? = some (.cells #[.bool fin, .int .u8 2, .bool mk, .int .u32 key, .slice A d.length c] 26 (0, 0)) := blk_alloc (last_at _ _ _ rfl) _
  have hf1 := (Fr.refl w g (.slice Av b.length cv) u).below hw1
  have hu30 := Tryd.underlying30
  have hu26 := Tryd.underlying26
  clear h hd hff hdn hbl hdl hw1
  go_enter Tryd.func25, Tryd.ntmps25
  go_upto_region 1 with fail
  generalize (w.alloc (.cells #[.bool fin, .int .u8 2, .bool mk, .int .u32 key, .slice A d.length c] 26)).alloc (.cells #[.int .u8 0, .bool false, .slice none 0 0, .int .u32 0] 30) = w1 at hg1 hd1 hr1 hp1 hf1 ⊢
  have HG1 := Aside0.mk hg1
  have HD1 := Aside0.mk hd1
  have HR1 := Aside0.mk hr1
  have HF1 := Aside0.mk hf1
  have pc0 : w1.cell? ⟨w.heap.size, 0, none⟩ = some (.bool fin) := (blk_cell hp1 0).trans rfl
  have pc1 : w1.cell? ⟨w.heap.size, 1, none⟩ = some (.int .u8 2) := (blk_cell hp1 1).trans rfl
  have pc2 : w1.cell? ⟨w.heap.size, 2, none⟩ = some (.bool mk) := (blk_cell hp1 2).trans rfl
  have pc3 : w1.cell? ⟨w.heap.size, 3, none⟩ = some (.int .u32 key) := (blk_cell hp1 3).trans rfl
  have pc4 : w1.cell? ⟨w.heap.size, 4, none⟩ = some (.slice A d.length c) := (blk_cell hp1 4).trans rfl
  have pl_ := blk_lt hp1
  clear hg1 hd1 hr1 hp1 hf1
  go_wp2_with fail
  refine (part_any HG1.out HFF.out HD1.out HDN.out HLN.out.1 HLN.out.2).mono ?_
  rintro e w2 hp
  rcases hp with ⟨hz, _⟩ | ⟨_, vb, rfl, hbad, v', u', b', bu, te, hG, hF, hN⟩
  · exact absurd hz HCD.out
  have hu1 : ∀ k, u = .pointer (some ⟨k, 0, none⟩) → k < w.heap.size := HU0.out
  have hr2 : w2.heap[w.heap.size + 1]? = some (.cells #[.int .u8 0, .bool false, .slice none 0 0, .int .u32 0] 30 (0, 0)) := (hF.same _ (blk_lt HR1.out) (fun e => by have := hgl; omega) (fun e => by have := Kd.R_ne HG1.out.gw.row HR1.out (by decide); exact this e) (fun e => by have := hu1 _ e; omega)).trans HR1.out
  have hF2 : Fr w w2 g (.slice Av b.length cv) u := ⟨Nat.le_trans HF1.out.size hF.size, fun k hk h1 h2 h3 => (hF.same k (Nat.lt_of_lt_of_le hk HF1.out.size) h1 h2 h3).trans (HF1.out.same k hk h1 h2 h3)⟩
  have hN := hN.mono HF1.out.size
  have hb0 := hbad
  obtain ⟨qb, rfl, hqb⟩ := hb0
  have HG2 := Aside0.mk hG
  have HB2 := Aside0.mk hbad
  have HR2 := Aside0.mk hr2
  have HF2 := Aside0.mk hF2
  clear hG hbad hqb hr2 hF2 hF hN HG1 HD1 HR1 HF1 pc0 pc1 pc2 pc3 pc4 pl_
  go_wp2_with fail
  refine (wrap_any _ _ _ _ HB2.out).mono ?_
  rintro e w3 ⟨v3, rfl, hwr, hb3⟩
  obtain ⟨q3, s3, v3', rfl, hq3, hq3b⟩ := hwr
  have hwr : IsWr w3 _ _ := ⟨q3, s3, v3', rfl, hq3, hq3b⟩
  have hr3 := blk_below HR2.out hb3
  have HG3 := Aside0.mk (HG2.out.below hb3)
  have HF3 := Aside0.mk (HF2.out.below hb3)
  have HW3 := Aside0.mk hwr
  have HR3 := Aside0.mk hr3
  clear hwr hq3 hq3b hb3 HG2 HF2 HR2 HB2
  have rc0 : w3.cell? ⟨w.heap.size + 1, 0, none⟩ = some (.int .u8 0) := (blk_cell HR3.out 0).trans rfl
  have rf0 := blk_frozen HR3.out 0
  have rc1 : w3.cell? ⟨w.heap.size + 1, 1, none⟩ = some (.bool false) := (blk_cell HR3.out 1).trans rfl
  have rf1 := blk_frozen HR3.out 1
  have rc2 : w3.cell? ⟨w.heap.size + 1, 2, none⟩ = some (.slice none 0 0) := (blk_cell HR3.out 2).trans rfl
  have rf2 := blk_frozen HR3.out 2
  have rc3 : w3.cell? ⟨w.heap.size + 1, 3, none⟩ = some (.int .u32 0) := (blk_cell HR3.out 3).trans rfl
  have rf3 := blk_frozen HR3.out 3
  have rl := blk_lt HR3.out
  clear hr3
  have hle : w0.heap.size ≤ w.heap.size + 1 := Nat.le_succ_of_le HLO.out
  go_wp2_with fail
  exact bodyPost_ret (v := .tuple #[.agg #[.int .u8 0, .bool false, .slice none 0 0, .int .u32 0], .bool false, .iface _ _]) (by simp [results, Tryd.results25, go_sem, rc0, rc1, rc2, rc3]) rfl ⟨_, _, _, _, _, _, _, _, rfl, .inl (wr_off4 HW3.out HR3.out _ _ _ _), HG3.out.off4 HR3.out hle _ _ _ _, HF3.out.off4 (Nat.le_succ _) _ _ _ _⟩
end Go.Proofs.YtbjjobifpmjhhaaDoor

