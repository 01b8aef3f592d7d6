/- What the law's row rests on, part 13. -/
import Derived.Test.YtpmeapdcjmaeiaaDoorZ12
import Derived.RegionTactic
import Derived.Deep.DeepCutAuto
import Derived.Deep.CutBlock
import Derived.Outline
import Derived.Deep.RegionHeld3
set_option linter.unusedVariables false
set_option linter.unusedSimpArgs false
namespace Go.Proofs.YtpmeapdcjmaeiaaDoor
open Go.RowKit Go.Proofs.YtpmeapdcjmaeiaaDoorW.PrintWords Go.Proofs.YtpmeapdcjmaeiaaDoorW.PrintLast Go.Proofs.YtpmeapdcjmaeiaaDoorW.PrintMore Go.Proofs.YtpmeapdcjmaeiaaDoor.PAll Go.Proofs.YtpmeapdcjmaeiaaDoor.U
def Ap (W : World) (F : Nat → Prop) (A : Option Addr) (d : List Int) : Prop := ∀ W', W.heap.size ≤ W'.heap.size → (∀ k, k < W.heap.size → ¬ F k → W'.heap[k]? = W.heap[k]?) → Kd.C (Kd.int .u8) W' A d.length d
theorem Ap.C {W : World} {F : Nat → Prop} {A : Option Addr} {d : List Int} (h : Ap W F A d) : Kd.C (Kd.int .u8) W A d.length d := h W (Nat.le_refl _) (fun _ _ _ => rfl)
theorem Ap.kf {W W' : World} {F F' : Nat → Prop} {A : Option Addr} {d : List Int} (h : Ap W F A d) (hk : Kf W W' F F') : Ap W' F' A d := fun W2 hs h2 => h W2 (Nat.le_trans hk.size hs) (fun k hlt hn => (h2 k (Nat.lt_of_lt_of_le hlt hk.size) (fun e => (hk.new k e).elim hn (fun e => by omega))).trans (hk.keep k hlt hn))
theorem Ap.below {W W' : World} {F : Nat → Prop} {A : Option Addr} {d : List Int} (h : Ap W F A d) (hb : Below W.heap.size W W') : Ap W' F A d := fun W2 hs h2 => h W2 (Nat.le_trans hb.size hs) (fun k hlt hn => (h2 k (Nat.lt_of_lt_of_le hlt hb.size) hn).trans (hb.block k hlt))
theorem Ap.of_row {W : World} {F : Nat → Prop} {A : Option Addr} {n c base : Nat} {d : List Int} {ok : Nat → Prop} (h : Kd.R (Kd.int .u8) 5 W base ok (.slice A n c) d) (hF : ∀ k, (Value.slice A n c).ownBlock = some k → ¬ F k) : Ap W F A d := fun W' hs hk => by
 have h1 := row_keep h (fun k e => hk k (Kd.R_lt h k e) (hF k e))
 exact (Kd.R_reads' h1).2.2
theorem Ap.of_low {w0 W : World} {F : Nat → Prop} {A : Option Addr} {d : List Int} (h : Kd.C (Kd.int .u8) w0 A d.length d) (hb : Below w0.heap.size w0 W) (hF : ∀ k, F k → w0.heap.size ≤ k) : Ap W F A d := fun W' hs hk => by
 have hr : ReadsInt w0 .u8 A d.length d := Kd.reads_of_C h
 by_cases hn : 0 < d.length
 ·obtain ⟨ad, rfl, hc⟩ := hr.2.2 hn
  have h0 := hc 0 hn
  have hl : ad.block < w0.heap.size := by
   have := World.block_lt_of_cell? w0 _ h0
   rwa [add_block] at this
  exact C_at h ((hk ad.block (Nat.lt_of_lt_of_le hl hb.size) (fun e => by have := hF _ e; omega)).trans (hb.block _ hl))
 ·have hd : d = [] := List.length_eq_zero_iff.1 (by omega)
  subst hd
  exact C_zero A W'
theorem key_le {M : TM} (h : M.Ok) : 0 ≤ M.key' ∧ M.key' ≤ M.key + 1 := by
 have := h.key0
 unfold TM.key'
 split
 ·split <;> omega
 ·omega
theorem Ok.key {M : TM} (h : M.Ok) : TM.Ok { M with key := M.key' } := { h with key0 := (key_le h).1 }
theorem putL_le {fin : Bool} {op : Int} {mk : Bool} {key : Int} {d : List Int} (h0 : 0 ≤ op) (hd : ∀ x ∈ d, Byte x) (hM : mayB fin op mk key d = true) : (putL fin op mk key d).length ≤ 4104 := by
 have h1 := putL_len (fin := fin) (op := op) (mask := mk) (key := key) (d := d) h0 hd hM
 have h2 := ((mayB_iff ..).1 hM).2.2.1
 have h3 : frontOf mk d.length ≤ 8 := by unfold frontOf; cases mk <;> split <;> simp
 omega
theorem putL_Byte {fin : Bool} {op : Int} {mk : Bool} {key : Int} {d : List Int} (h0 : 0 ≤ op) (hd : ∀ x ∈ d, Byte x) (hM : mayB fin op mk key d = true) : ∀ x ∈ putL fin op mk key d, 0 ≤ x ∧ x ≤ 255 := fun x hx => by
 have := putL_bytes (fin := fin) (op := op) (mask := mk) (key := key) (d := d) h0 hd hM
 rw [List.all_eq_true] at this
 exact isByte_iff.1 (this x hx)
set_option maxHeartbeats 8000000 in
set_option maxRecDepth 100000 in
theorem tput {w0 W : World} {t : Nat} {M : TM} {I : TI} (h : Tn w0 W t M I) {fin : Bool} {op : Int} {mk : Bool} {A : Option Addr} {c : Nat} {d : List Int} (hd : Ap W (TF M I t) A d) (hc : d.length ≤ c) (hby : ∀ x ∈ d, Byte x) (h0 : 0 ≤ op) (hM : mayB fin op M.cl M.nkey d = true) (hmk : mk = false ∨ mk = M.cl) (hkb : M.key < 9223372036854775807) (hol : M.out.length ≤ 1000000) : Calls Tryd.prog 17 #[.pointer (some ⟨t, 0, none⟩), .agg #[.bool fin, .int .u8 op, .bool mk, .int .u32 0, .slice A d.length c]] W (fun e w' => e = .returned (.tuple #[]) ∧ ∃ vo', Tn w0 w' t (putM M fin op d) { I with vo := vo' } ∧ Kf W w' (TF M I t) (TF (putM M fin op d) { I with vo := vo' } t)) := by
 have HMK := Aside0.mk hmk
 have H0 := Aside0.mk h0
 have HOL := Aside0.mk hol
 have HRL := Aside0.mk (putL_le h0 hby hM)
 clear hmk h0 hol
 have hu81 := Tryd.underlying52
 have HM := Aside0.mk hM
 have HA := Aside0.mk hd
 have HC := Aside0.mk hc
 have HBY := Aside0.mk hby
 have HH := Aside0.mk h
 have HKB := Aside0.mk hkb
 have h1 := h.below (below_alloc (Below.refl W.heap.size W) (.cells #[.bool fin, .int .u8 op, .bool mk, .int .u32 0, .slice A d.length c] 52))
 have hp1 : (W.alloc (.cells #[.bool fin, .int .u8 op, .bool mk, .int .u32 0, .slice A d.length c] 52)).heap[W.heap.size]? = some (.cells #[.bool fin, .int .u8 op, .bool mk, .int .u32 0, .slice A d.length c] 52 (0, 0)) := last_at _ _ _ rfl
 have hk1 : Kf W (W.alloc (.cells #[.bool fin, .int .u8 op, .bool mk, .int .u32 0, .slice A d.length c] 52)) (TF M I t) (TF M I t) := (Kf.refl W _).below (below_alloc (Below.refl _ _) _)
 obtain ⟨Ak, ck, ek⟩ := Kd.R_slice h.ks
 clear hM hd hc hby h hkb
 go_enter Tryd.func17, Tryd.ntmps17
 go_upto_region 1 with fail
 generalize W.alloc (.cells #[.bool fin, .int .u8 op, .bool mk, .int .u32 0, .slice A d.length c] 52) = W1 at h1 hp1 hk1 ⊢
 have H1 := Aside0.mk h1
 have HP1 := Aside0.mk hp1
 have HK1 := Aside0.mk hk1
 have hb1 := h1.blk
 unfold tcells at hb1
 rw [ek] at hb1
 have t_0 : W1.cell? ⟨t, 0, none⟩ = some (.bool M.cl) := (blk_cell hb1 0).trans rfl
 have t_f0 := blk_frozen hb1 0
 have t_1 : W1.cell? ⟨t, 1, none⟩ = some (.slice Ak M.keys.length ck) := (blk_cell hb1 1).trans rfl
 have t_f1 := blk_frozen hb1 1
 have t_2 : W1.cell? ⟨t, 2, none⟩ = some (.int .i64 M.key) := (blk_cell hb1 2).trans rfl
 have t_f2 := blk_frozen hb1 2
 have t_l := blk_lt hb1
 have p_2 : W1.cell? ⟨W.heap.size, 2, none⟩ = some (.bool mk) := (blk_cell hp1 2).trans rfl
 have p_f2 := blk_frozen hp1 2
 have p_3 : W1.cell? ⟨W.heap.size, 3, none⟩ = some (.int .u32 0) := (blk_cell hp1 3).trans rfl
 have p_f3 := blk_frozen hp1 3
 have p_l := blk_lt hp1
 clear h1 hp1 hk1 hb1
 have hpt : W.heap.size ≠ t := by have := blk_lt HH.out.blk; omega
 go_upto_if 7 with fail
 go_cut [0, 3] (fun tv pv wc => tv = .pointer (some ⟨t, 0, none⟩) ∧ pv = .pointer (some ⟨W.heap.size, 0, none⟩) ∧ Tn w0 wc t { M with key := M.key' } I ∧ wc.heap[W.heap.size]? = some (.cells #[.bool fin, .int .u8 op, .bool M.cl, .int .u32 M.nkey, .slice A d.length c] 52 (0, 0)) ∧ Kf W wc (TF M I t) (TF { M with key := M.key' } I t))
 case first =>
  by_cases hcl : M.cl = false
  ·rw [hcl] at t_0
   have hmk : mk = false := by rcases HMK.out with h | h <;> simp [h, hcl]
   subst hmk
   simp only [hcl]
   go_wp2_with fail
   have ek' : M.key' = M.key := by unfold TM.key'; rw [hcl]; rfl
   have en : M.nkey = 0 := by unfold TM.nkey; rw [hcl]; rfl
   go_meet
   case rel =>
    exact ⟨rfl, rfl, by rw [ek']; exact H1.out, by rw [en, hcl]; exact HP1.out, by rw [ek']; exact HK1.out⟩
  ·have hcl : M.cl = true := by simpa using hcl
   rw [hcl] at t_0
   simp only [hcl]
   have hp2 : (W1.setCell ⟨W.heap.size, 2, none⟩ (.bool true)).heap[W.heap.size]? = some (.cells #[.bool fin, .int .u8 op, .bool true, .int .u32 0, .slice A d.length c] 52 (0, 0)) := blk_put HP1.out 2 _ rfl
   have hs2 : ∀ k, k ≠ W.heap.size → (W1.setCell ⟨W.heap.size, 2, none⟩ (.bool true)).heap[k]? = W1.heap[k]? := fun k e => Below.heap_setCell W1 ⟨W.heap.size, 2, none⟩ _ k e
   have hB2 := Below.setCell H1.out.bel (p := ⟨W.heap.size, 2, none⟩) (show w0.heap.size ≤ W.heap.size from HH.out.bel.size) (.bool true)
   have h2 := H1.out.move hB2 (fun k hk => hs2 k (fun e => by have := HH.out.lt hk; omega))
   have hk2 : Kf W (W1.setCell ⟨W.heap.size, 2, none⟩ (.bool true)) (TF M I t) (TF M I t) := ⟨Nat.le_trans HK1.out.size (by simp [World.setCell]), fun k hlt hn => (hs2 k (by omega)).trans (HK1.out.keep k hlt hn), fun k hk => .inl hk⟩
   by_cases hkl : 0 < M.keys.length
   ·go_upto_region 3 with fail
    generalize W1.setCell ⟨W.heap.size, 2, none⟩ (.bool true) = W2 at hp2 h2 hk2 hB2 ⊢
    clear hs2 t_0 t_1 t_2 t_f0 t_f1 t_f2 t_l p_2 p_3 p_f2 p_f3 p_l
    have hb2 := h2.blk
    unfold tcells at hb2
    rw [ek] at hb2
    have s_0 : W2.cell? ⟨t, 0, none⟩ = some (.bool M.cl) := (blk_cell hb2 0).trans rfl
    have s_f0 := blk_frozen hb2 0
    have s_1 : W2.cell? ⟨t, 1, none⟩ = some (.slice Ak M.keys.length ck) := (blk_cell hb2 1).trans rfl
    have s_f1 := blk_frozen hb2 1
    have s_2 : W2.cell? ⟨t, 2, none⟩ = some (.int .i64 M.key) := (blk_cell hb2 2).trans rfl
    have s_f2 := blk_frozen hb2 2
    have s_l := blk_lt hb2
    have q_3 : W2.cell? ⟨W.heap.size, 3, none⟩ = some (.int .u32 0) := (blk_cell hp2 3).trans rfl
    have q_f3 := blk_frozen hp2 3
    have q_l := blk_lt hp2
    have hks := h2.ks
    rw [ek] at hks
    have hq0 : 0 ≤ Int.tmod M.key (M.keys.length : Int) := Int.tmod_nonneg _ HH.out.ok.key0
    have hq1 : Int.tmod M.key (M.keys.length : Int) < (M.keys.length : Int) := Int.tmod_lt_of_pos _ (by omega)
    obtain ⟨ad, ead, hx⟩ := Kd.at_int (Kd.R_reads' hks).2.2 (Int.tmod M.key (M.keys.length : Int)) hq0 hq1
    subst ead
    have hx' : W2.cell? (ad.add (Int.tmod M.key (M.keys.length : Int)).toNat) = some (.int .u32 (rd M.keys (Int.tmod M.key (M.keys.length : Int)))) := hx
    have HE := Aside0.mk ek
    have H2 := Aside0.mk h2
    have HP2 := Aside0.mk hp2
    have HK2 := Aside0.mk hk2
    have HR2 := Aside0.mk hks
    clear ek h2 hp2 hk2 hks hb2
    have hkz : ((M.keys.length : Int) == 0) = false := beq_eq_false_iff_ne.mpr (by omega)
    have hkn : ¬ M.keys = [] := fun e => by rw [e] at hkl; exact absurd hkl (by decide)
    have hkl' : (0 : Int) < (M.keys.length : Int) := by omega
    go_upto_region 4 with fail
    go_region
    go_upto_region 5 with fail
    have hs3 : ∀ k, k ≠ W.heap.size → (W2.setCell ⟨W.heap.size, 3, none⟩ (.int .u32 (rd M.keys (Int.tmod M.key (M.keys.length : Int))))).drew.heap[k]? = W2.heap[k]? := fun k e => Below.heap_setCell W2 ⟨W.heap.size, 3, none⟩ _ k e
    have hp3 : (W2.setCell ⟨W.heap.size, 3, none⟩ (.int .u32 (rd M.keys (Int.tmod M.key (M.keys.length : Int))))).drew.heap[W.heap.size]? = some (.cells #[.bool fin, .int .u8 op, .bool true, .int .u32 (rd M.keys (Int.tmod M.key (M.keys.length : Int))), .slice A d.length c] 52 (0, 0)) := blk_drew (blk_put HP2.out 3 _ rfl)
    have hB3 := below_drew (Below.setCell H2.out.bel (p := ⟨W.heap.size, 3, none⟩) (show w0.heap.size ≤ W.heap.size from HH.out.bel.size) (.int .u32 (rd M.keys (Int.tmod M.key (M.keys.length : Int)))))
    have h3 := H2.out.move hB3 (fun k hk => hs3 k (fun e => by have := HH.out.lt hk; omega))
    have hk3 : Kf W (W2.setCell ⟨W.heap.size, 3, none⟩ (.int .u32 (rd M.keys (Int.tmod M.key (M.keys.length : Int))))).drew (TF M I t) (TF M I t) := ⟨Nat.le_trans HK2.out.size (show W2.heap.size ≤ (W2.setCell ⟨W.heap.size, 3, none⟩ _).heap.size by simp [World.setCell]), fun k hlt hn => (hs3 k (by omega)).trans (HK2.out.keep k hlt hn), fun k hk => .inl hk⟩
    generalize (W2.setCell ⟨W.heap.size, 3, none⟩ (.int .u32 (rd M.keys (Int.tmod M.key (M.keys.length : Int))))).drew = W3 at h3 hp3 hk3 hB3 ⊢
    clear hs3 hB2 hB3 s_0 s_1 s_2 s_f0 s_f1 s_f2 s_l q_3 q_f3 q_l hx hx' hq0 hq1 hkz hkl'
    have H3 := Aside0.mk h3
    have HP3 := Aside0.mk hp3
    have HK3 := Aside0.mk hk3
    have z_2 : W3.cell? ⟨t, 2, none⟩ = some (.int .i64 M.key) := (blk_cell h3.blk 2).trans rfl
    have z_f := blk_frozen h3.blk 2
    have z_l := blk_lt h3.blk
    have hw : wrap64 (M.key + 1) = M.key + 1 := by have := HKB.out; have := HH.out.ok.key0; unfold wrap64; omega
    clear h3 hp3 hk3
    go_wp2_with fail
    have ek' : M.key' = M.key + 1 := by unfold TM.key'; rw [if_pos hcl, if_pos hkl]
    have en : M.nkey = rd M.keys (Int.tmod M.key (M.keys.length : Int)) := by unfold TM.nkey; rw [if_pos hcl, if_pos hkl]
    have hz : ∀ k, k ≠ t → (W3.setCell ⟨t, 2, none⟩ (.int .i64 (M.key + 1))).heap[k]? = W3.heap[k]? := fun k e => Below.heap_setCell W3 ⟨t, 2, none⟩ _ k e
    go_meet
    case rel =>
     exact ⟨rfl, rfl, H3.out.set 2 _ (by rw [ek']; rfl) rfl rfl (Ok.key HH.out.ok), by rw [en, hcl]; exact (hz _ hpt).trans HP3.out, ⟨Nat.le_trans HK3.out.size (by simp [World.setCell]), fun k hlt hn => (hz k (fun e => hn (.inl e))).trans (HK3.out.keep k hlt hn), fun k hk => .inl hk⟩⟩
   ·have hkn : M.keys.length = 0 := by omega
    rw [hkn] at t_1
    go_wp2_with fail
    have ek' : M.key' = M.key := by unfold TM.key'; rw [if_pos hcl, if_neg hkl]
    have en : M.nkey = 0 := by unfold TM.nkey; rw [if_pos hcl, if_neg hkl]
    go_meet
    case rel =>
     exact ⟨rfl, rfl, by rw [ek']; exact h2, by rw [en, hcl]; exact hp2, by rw [ek']; exact hk2⟩
 case rest =>
  clear ek
  obtain ⟨rfl, rfl, hT, hP, hK⟩ := hcut
  have H6 := Aside0.mk hT
  have HP6 := Aside0.mk hP
  have HK6 := Aside0.mk hK
  obtain ⟨Ao, co, eo⟩ := Kd.R_slice hT.out
  clear hT hP hK
  go_upto_region 6 with fail
  have hb6 := H6.out.blk
  unfold tcells at hb6
  have EO := Aside0.mk eo
  obtain ⟨no, hno⟩ : ∃ n, n = M.out.length := ⟨_, rfl⟩
  have HNO := Aside0.mk hno
  rw [show I.vo = .slice Ao no co by rw [hno]; exact eo] at hb6
  clear eo hno
  have c6 : wc.cell? ⟨t, 6, none⟩ = some (.slice Ao no co) := (blk_cell hb6 6).trans rfl
  clear hb6
  have d0 : wc.cell? ⟨W.heap.size, 0, none⟩ = some (.bool fin) := (blk_cell HP6.out 0).trans rfl
  have d1 : wc.cell? ⟨W.heap.size, 1, none⟩ = some (.int .u8 op) := (blk_cell HP6.out 1).trans rfl
  have d2 : wc.cell? ⟨W.heap.size, 2, none⟩ = some (.bool M.cl) := (blk_cell HP6.out 2).trans rfl
  have d3 : wc.cell? ⟨W.heap.size, 3, none⟩ = some (.int .u32 M.nkey) := (blk_cell HP6.out 3).trans rfl
  have d4 : wc.cell? ⟨W.heap.size, 4, none⟩ = some (.slice A d.length c) := (blk_cell HP6.out 4).trans rfl
  have hinfo : (Tryd.prog.info? 5).map (fun i => (i.zero, i.size, i.bytes)) = some (some (.int .u8 0), 1, 1) := by kernel_rfl
  have HI := Aside0.mk hinfo
  clear hinfo
  refine start_ (n := 11) (S := fun w' => w'.cell? ⟨t, 6, none⟩ = some (.slice Ao no co) ∧ w'.cell? ⟨W.heap.size, 0, none⟩ = some (.bool fin) ∧ w'.cell? ⟨W.heap.size, 1, none⟩ = some (.int .u8 op) ∧ w'.cell? ⟨W.heap.size, 2, none⟩ = some (.bool M.cl) ∧ w'.cell? ⟨W.heap.size, 3, none⟩ = some (.int .u32 M.nkey) ∧ w'.cell? ⟨W.heap.size, 4, none⟩ = some (.slice A d.length c)) (ds := [10]) #[false, false, false, false, false, false, false, false, false, false, false] (by kernel_rfl) rfl rfl (⟨c6, d0, d1, d2, d3, d4⟩) (fun hHeld => ?_)
  refine pure_ (i := 0) (N := (some 39)) (v := ?_) (a' := ?_) #[true, false, false, false, false, false, false, false, false, false, false] rfl rfl (by kernel_rfl) (fun _ _ _ h => h) (Or.inl ⟨by rfl, ?_⟩) ?_ ?_
  rotate_left
  ·intro w'
   go_simp
   first | done | with_reducible rfl
  rotate_left
  ·simp only [Act.put, z1_, z2_, z3_, i64_w, i32_w]
   rfl
  refine pure_ (i := 1) (N := (some 40)) (v := ?_) (a' := ?_) #[true, true, false, false, false, false, false, false, false, false, false] rfl rfl (by kernel_rfl) (fun _ _ _ h => h) (Or.inl ⟨by rfl, ?_⟩) ?_ ?_
  rotate_left
  ·intro w'
   go_simp
   first | done | with_reducible rfl
  rotate_left
  ·simp only [Act.put, z1_, z2_, z3_, i64_w, i32_w]
   rfl
  refine pure_ (i := 2) (N := (some 41)) (v := ?_) (a' := ?_) #[true, true, true, false, false, false, false, false, false, false, false] rfl rfl (by kernel_rfl) (fun _ _ _ h => h) (Or.inl ⟨by rfl, ?_⟩) ?_ ?_
  rotate_left
  ·intro w'
   go_simp
   first | done | with_reducible rfl
  rotate_left
  ·simp only [Act.put, z1_, z2_, z3_, i64_w, i32_w]
   rfl
  refine pure_ (i := 3) (N := (some 42)) (v := ?_) (a' := ?_) #[true, true, true, true, false, false, false, false, false, false, false] rfl rfl (by kernel_rfl) (fun _ _ _ h => h) (Or.inl ⟨by rfl, ?_⟩) ?_ ?_
  rotate_left
  ·intro w'
   go_simp
   first | done | with_reducible rfl
  rotate_left
  ·simp only [Act.put, z1_, z2_, z3_, i64_w, i32_w]
   rfl
  refine take_ (i := 4) (N := (some 43)) (v := ?_) (a' := ?_) #[true, true, true, true, true, false, false, false, false, false, false] rfl rfl (by kernel_rfl) (fun _ _ _ h => h) (Or.inl ⟨by rfl, ?_⟩) hHeld ?_ ?_
  rotate_left
  ·rintro w' ⟨s0, s1, s2, s3, s4, s5⟩
   go_simp
   first | done | with_reducible rfl
  rotate_left
  ·simp only [Act.put, z1_, z2_, z3_, i64_w, i32_w]
   rfl
  refine take_ (i := 5) (N := (some 44)) (v := ?_) (a' := ?_) #[true, true, true, true, true, true, false, false, false, false, false] rfl rfl (by kernel_rfl) (fun _ _ _ h => h) (Or.inl ⟨by rfl, ?_⟩) hHeld ?_ ?_
  rotate_left
  ·rintro w' ⟨s0, s1, s2, s3, s4, s5⟩
   go_simp
   first | done | with_reducible rfl
  rotate_left
  ·simp only [Act.put, z1_, z2_, z3_, i64_w, i32_w]
   rfl
  refine one_ (i := 6) (N := (some 45)) #[true, true, true, true, true, true, true, false, false, false, false] rfl rfl (by kernel_rfl) (by decide) (fun K hK => ?_)
  go_simp
  go_at_call 16
  refine (wsframe_Put.calls (d.length + 10) fin op M.cl M.nkey A c d (putL fin op M.cl M.nkey d) _ (Ap.C (HA.out.kf (HK6.out.below (below_drew (Below.refl _ _))))) HC.out (put_f fin op M.cl M.nkey d H0.out HM.out _ (Nat.le_refl _))).mono ?_
  rintro e w7 ⟨v7, rfl, hr7, hb7⟩
  have hb7' : Below wc.heap.size wc w7 := below_step (below_drew (Below.refl _ _)) hb7
  have H7 := Aside0.mk (H6.out.below hb7')
  have HP7 := Aside0.mk (blk_below HP6.out hb7')
  have HK7 := Aside0.mk (HK6.out.below hb7')
  obtain ⟨A7, c7, rfl⟩ := Kd.R_slice hr7
  obtain ⟨nr, hnr⟩ : ∃ n, n = (putL fin op M.cl M.nkey d).length := ⟨_, rfl⟩
  have HR7 := Aside0.mk hr7
  have HNR := Aside0.mk hnr
  rw [← hnr]
  clear hr7 hb7 hb7' hnr c6 d0 d1 d2 d3 d4 hHeld
  have hb6 := H7.out.blk
  unfold tcells at hb6
  rw [show I.vo = .slice Ao no co by rw [HNO.out]; exact EO.out] at hb6
  have c6 : w7.cell? ⟨t, 6, none⟩ = some (.slice Ao no co) := (blk_cell hb6 6).trans rfl
  clear hb6
  have d0 : w7.cell? ⟨W.heap.size, 0, none⟩ = some (.bool fin) := (blk_cell HP7.out 0).trans rfl
  have d1 : w7.cell? ⟨W.heap.size, 1, none⟩ = some (.int .u8 op) := (blk_cell HP7.out 1).trans rfl
  have d2 : w7.cell? ⟨W.heap.size, 2, none⟩ = some (.bool M.cl) := (blk_cell HP7.out 2).trans rfl
  have d3 : w7.cell? ⟨W.heap.size, 3, none⟩ = some (.int .u32 M.nkey) := (blk_cell HP7.out 3).trans rfl
  have d4 : w7.cell? ⟨W.heap.size, 4, none⟩ = some (.slice A d.length c) := (blk_cell HP7.out 4).trans rfl
  refine hK.out _ _ (⟨c6, d0, d1, d2, d3, d4⟩) (fun hHeld => ?_)
  clear hK K
  refine one_ (i := 7) (N := (some 46)) #[true, true, true, true, true, true, true, true, false, false, false] rfl rfl (by kernel_rfl) (by decide) (fun K hK => ?_)
  refine Kd.R_append_rows_step (Kd.int .u8) (w0 := w0) w0.heap.size (by rfl) (.tmp 43) (.tmp 45) 26 5 (.int .u8 0) 1 rfl Tryd.underlying26 HI.out rfl (by decide) (by omega) (.slice Ao no co) M.out (putL fin op M.cl M.nkey d) _ _ _ (fun _ => True) (fun _ => False) rfl rfl ?aO ?aR (fun _ _ h => h) (fun _ h => h.elim) ?aF ?aB ?aS ?aL ?_
  (case aO => exact (show I.vo = .slice Ao no co by rw [HNO.out]; exact EO.out) ▸ H7.out.out)
  (case aR => rw [HNR.out]; exact (Kd.R_reads' HR7.out).2.2)
  (case aF => exact fun _ _ => trivial)
  (case aB => exact H7.out.bel)
  (case aS => exact H7.out.bel.size)
  (case aL => have := HOL.out; have := HRL.out; have := HNR.out; omega)
  intro v1 w8 ho hb hg1 hat
  obtain ⟨A1, c1, e1⟩ := Kd.R_slice ho
  obtain ⟨mm, hmm⟩ : ∃ mm, mm = (M.out ++ putL fin op M.cl M.nkey d).length := ⟨_, rfl⟩
  rw [← hmm] at e1
  clear hmm
  subst e1
  have HG8 : Aside0 (w7.grownBy w8 I.vo.ownBlock) := ⟨by rw [show I.vo = .slice Ao no co by rw [HNO.out]; exact EO.out]; exact hg1⟩
  have hvt : (Value.slice Ao no co).ownBlock ≠ some t := by rw [← (show I.vo = .slice Ao no co by rw [HNO.out]; exact EO.out)]; exact fun e => row_at_ne (d := 0) H7.out.out H7.out.blk (by decide) e rfl
  have hvp : (Value.slice Ao no co).ownBlock ≠ some W.heap.size := by rw [← (show I.vo = .slice Ao no co by rw [HNO.out]; exact EO.out)]; exact fun e => row_at_ne (d := 0) H7.out.out HP7.out (by decide) e rfl
  have hk1 := (hg1.block t (blk_lt H7.out.blk) (fun e => hvt e.symm)).trans H7.out.blk
  have hk2 := (hg1.block W.heap.size (blk_lt HP7.out) (fun e => hvp e.symm)).trans HP7.out
  unfold tcells at hk1
  rw [show I.vo = .slice Ao no co by rw [HNO.out]; exact EO.out] at hk1
  have g6 : w8.cell? ⟨t, 6, none⟩ = some (.slice Ao no co) := (blk_cell hk1 6).trans rfl
  have gf6 := blk_frozen hk1 6
  have gl := blk_lt hk1
  have f0 : w8.cell? ⟨W.heap.size, 0, none⟩ = some (.bool fin) := (blk_cell hk2 0).trans rfl
  have f1 : w8.cell? ⟨W.heap.size, 1, none⟩ = some (.int .u8 op) := (blk_cell hk2 1).trans rfl
  have f2 : w8.cell? ⟨W.heap.size, 2, none⟩ = some (.bool M.cl) := (blk_cell hk2 2).trans rfl
  have f3 : w8.cell? ⟨W.heap.size, 3, none⟩ = some (.int .u32 M.nkey) := (blk_cell hk2 3).trans rfl
  have f4 : w8.cell? ⟨W.heap.size, 4, none⟩ = some (.slice A d.length c) := (blk_cell hk2 4).trans rfl
  have hAT : (Value.slice A1 mm c1).ownBlock = I.vo.ownBlock ∨ ∃ k, (Value.slice A1 mm c1).ownBlock = some k ∧ w7.heap.size ≤ k := by rw [show I.vo = .slice Ao no co by rw [HNO.out]; exact EO.out]; exact hat
  have HF := Aside0.mk (H7.out.appOut HG8.out hb ho hAT (fun x hx => (List.mem_append.1 hx).elim (HH.out.ok.obyt x) (putL_Byte H0.out HBY.out HM.out x)))
  clear ho hb hg1 hat hAT hk1 hk2 hvt hvp c6 d0 d1 d2 d3 d4
  refine hK.out _ _ (⟨g6, f0, f1, f2, f3, f4⟩) (fun hHeld => ?_)
  clear hK K
  refine norm_ (a' := ?_) ?_ ?_
  rotate_left
  ·show Act.put _ (some 46) _ = _
   simp only [Act.put, z1_, z2_, z3_, i64_w, i32_w]
   rfl
  refine pure_ (i := 8) (N := (some 47)) (v := ?_) (a' := ?_) #[true, true, true, true, true, true, true, true, true, false, false] rfl rfl (by kernel_rfl) (fun _ _ _ h => h) (Or.inl ⟨by rfl, ?_⟩) ?_ ?_
  rotate_left
  ·intro w'
   go_simp
   first | done | with_reducible rfl
  rotate_left
  ·simp only [Act.put, z1_, z2_, z3_, i64_w, i32_w]
   rfl
  refine pure_ (i := 9) (N := (some 48)) (v := ?_) (a' := ?_) #[true, true, true, true, true, true, true, true, true, true, false] rfl rfl (by kernel_rfl) (fun _ _ _ h => h) (Or.inl ⟨by rfl, ?_⟩) ?_ ?_
  rotate_left
  ·intro w'
   go_simp
   first | done | with_reducible rfl
  rotate_left
  ·simp only [Act.put, z1_, z2_, z3_, i64_w, i32_w]
   rfl
  refine last_ (i := 10) (N := none) #[true, true, true, true, true, true, true, true, true, true, true] rfl rfl (by kernel_rfl) (by decide) (fun K hK => ?_)
  go_simp
  refine hK.out _ _ ?_
  clear hK K
  refine done_ (by kernel_rfl) ?_
  generalize w8.setCell ⟨t, 6, none⟩ (.slice A1 mm c1) = w9 at HF ⊢
  clear g6 gf6 gl f0 f1 f2 f3 f4
  go_wp2_with fail
  exact bodyPost_end (v := .tuple #[]) (by simp [results, Tryd.results17, go_sem]) rfl ⟨rfl, _, HF.out.1, HK7.out.trans HF.out.2⟩
end Go.Proofs.YtpmeapdcjmaeiaaDoor
namespace Go.Proofs.YtpmeapdcjmaeiaaDoor
open Go.RowKit Go.Proofs.YtpmeapdcjmaeiaaDoorW.PrintWords Go.Proofs.YtpmeapdcjmaeiaaDoorW.PrintLast Go.Proofs.YtpmeapdcjmaeiaaDoorW.PrintMore Go.Proofs.YtpmeapdcjmaeiaaDoor.PAll Go.Proofs.YtpmeapdcjmaeiaaDoor.U
theorem dataE (code : Int) : dataC code (⟨#[]⟩ : ByteArray) = if toldB code = true then [code / 256 % 256, code % 256] else [] := by
 unfold dataC
 have e : bs (wholeC (⟨#[]⟩ : ByteArray)) = [] := by decide
 rw [e, List.append_nil]
theorem dataE_len (code : Int) : (dataC code (⟨#[]⟩ : ByteArray)).length ≤ 125 := by
 rw [dataE]; split <;> simp
theorem dataE_byte (code : Int) : ∀ x ∈ dataC code (⟨#[]⟩ : ByteArray), Byte x := by
 rw [dataE]
 intro x hx
 split at hx
 ·simp only [List.mem_cons, List.not_mem_nil, or_false] at hx
  rcases hx with rfl | rfl <;> exact ⟨by omega, by omega⟩
 ·cases hx
theorem may8 {M : TM} {op : Int} {d : List Int} (hop : 8 ≤ op ∧ op ≤ 10) (hl : d.length ≤ 125) : mayB true op M.cl M.nkey d = true := by
 refine (mayB_iff ..).2 ⟨.inr hop, ?_, by omega, .inr ⟨rfl, by omega⟩⟩
 unfold TM.nkey
 cases M.cl with
 | true => exact .inl rfl
 | false => exact .inr rfl
set_option maxHeartbeats 8000000 in
set_option maxRecDepth 100000 in
theorem tshut_yes {w0 W : World} {t : Nat} {M : TM} {I : TI} (h : Tn w0 W t M I) {fin : Bool} {op : Int} {A : Option Addr} {c : Nat} {d : List Int} (hd : Ap W (TF M I t) A d) (hc : d.length ≤ c) (hby : ∀ x ∈ d, Byte x) (h0 : 0 ≤ op) (hM : mayB fin op M.cl M.nkey d = true) (hkb : M.key < 9223372036854775807) (hol : M.out.length ≤ 1000000) : Calls Tryd.prog 36 #[.pointer (some ⟨t, 0, none⟩), .agg #[.bool fin, .int .u8 op, .bool false, .int .u32 0, .slice A d.length c], .bool true] W (fun e w' => e = .returned (.tuple #[]) ∧ ∃ vo', Tn w0 w' t (putM M fin op d) { I with vo := vo' } ∧ Kf W w' (TF M I t) (TF (putM M fin op d) { I with vo := vo' } t)) := by
 have hu81 := Tryd.underlying52
 have HM := Aside0.mk (And.intro h0 hM)
 have HA := Aside0.mk (And.intro hd hc)
 have HBY := Aside0.mk hby
 have HH := Aside0.mk h
 have HKB := Aside0.mk (And.intro hkb hol)
 clear hM h0 hd hc hby h hkb hol
 go_enter Tryd.func36, Tryd.ntmps36
 go_wp2_with fail
 refine (tput (HH.out.below (below_alloc (Below.refl _ _) _)) (HA.out.1.below (below_alloc (Below.refl _ _) _)) HA.out.2 HBY.out HM.out.1 HM.out.2 (.inl rfl) HKB.out.1 HKB.out.2).mono ?_
 rintro e w2 ⟨rfl, vo', hT, hK⟩
 have HT := Aside0.mk hT
 have HK := Aside0.mk (hK.from (below_alloc (Below.refl _ _) _))
 clear hT hK
 go_wp2_with fail
 exact bodyPost_end (v := .tuple #[]) (by simp [results, Tryd.results36, go_sem]) rfl ⟨rfl, _, HT.out, HK.out⟩
set_option maxHeartbeats 8000000 in
set_option maxRecDepth 100000 in
theorem tshut_no {W : World} {t : Nat} {b0 b2 : Bool} {b1 b3 : Int} {v : Value} (hv : v.oneCell' = true) : Calls Tryd.prog 36 #[.pointer (some ⟨t, 0, none⟩), .agg #[.bool b0, .int .u8 b1, .bool b2, .int .u32 b3, v], .bool false] W (fun e w' => e = .returned (.tuple #[]) ∧ Below W.heap.size W w') := by
 have hu81 := Tryd.underlying52
 go_enter Tryd.func36, Tryd.ntmps36
 go_wp2_with fail
 exact bodyPost_end (v := .tuple #[]) (by simp [results, Tryd.results36, go_sem]) rfl ⟨rfl, below_alloc (Below.refl _ _) _⟩
set_option maxHeartbeats 8000000 in
set_option maxRecDepth 100000 in
theorem twrong {w0 W : World} {t : Nat} {M : TM} {I : TI} (h : Tn w0 W t M I) {code : Int} (hkb : M.key < 9223372036854775807) (hol : M.out.length ≤ 1000000) : Calls Tryd.prog 22 #[.pointer (some ⟨t, 0, none⟩), .int .u32 code] W (fun e w' => e = .returned (.agg #[.int .u8 5, .bool false, .slice none 0 0, .int .u32 code]) ∧ ∃ vo', Tn w0 w' t (badM M code) { I with vo := vo' } ∧ Kf W w' (TF M I t) (TF (badM M code) { I with vo := vo' } t)) := by
 have hu37 := Tryd.underlying35
 have hu81 := Tryd.underlying52
 have HKB := Aside0.mk (And.intro hkb hol)
 have hf96 := True.intro
 have h1 := h.below (below_alloc (Below.refl W.heap.size W) (.cells #[.int .u8 0, .bool false, .slice none 0 0, .int .u32 0] 35))
 have hn1 : (W.alloc (.cells #[.int .u8 0, .bool false, .slice none 0 0, .int .u32 0] 35)).heap[W.heap.size]? = some (.cells #[.int .u8 0, .bool false, .slice none 0 0, .int .u32 0] 35 (0, 0)) := last_at _ _ _ rfl
 have HK1 := Aside0.mk ((Kf.refl W (TF M I t)).below (below_alloc (Below.refl W.heap.size W) (.cells #[.int .u8 0, .bool false, .slice none 0 0, .int .u32 0] 35)))
 have HNT := Aside0.mk (fun e : TF M I t W.heap.size => Nat.lt_irrefl _ (h.lt e))
 have HLO := Aside0.mk h.bel.size
 clear h hkb hol
 go_enter Tryd.func22, Tryd.ntmps22
 go_upto_region 1 with fail
 generalize (W.alloc (.cells #[.int .u8 0, .bool false, .slice none 0 0, .int .u32 0] 35)) = w1 at h1 hn1 HK1 ⊢
 have H1 := Aside0.mk h1
 have HN1 := Aside0.mk hn1
 have t5 : w1.cell? ⟨t, 5, none⟩ = some (.pointer (some ⟨I.dg, 0, none⟩)) := (blk_cell h1.blk 5).trans rfl
 clear h1 hn1
 go_wp2_with fail
 by_cases hca : M.cause = 0
 ·by_cases hs : M.sent = true
  ·have HB : Aside0 ({ M with sent := M.sent, got := M.got, code := M.code, cause := 2, ecode := code } = badM M code) := ⟨by unfold badM sendM; rw [if_neg (by simpa using hca), if_pos hs]⟩
   refine (closing_Door_Bad.calls 7000 I.dg M.sent M.got M.code M.cause M.ecode code false 0 false 0 [] false M.sent M.got M.code 2 code w0 _ H1.out.dr H1.out.bel (by unfold closing_Door_Bad.f closing_Door_Through.f closing_Door_End.f; simp only [Option.bind_some]; rw [hca, hs]; rfl)).mono ?_
   rintro e w2 ⟨v4, rfl, hr4, hI2, hB2, hK2⟩
   obtain ⟨A4, c4, rfl⟩ := Kd.R_slice hr4
   obtain ⟨hT2, hK12⟩ := H1.out.setDoor hI2 hB2 hK2
   have HT2 := Aside0.mk hT2
   have HK12 := Aside0.mk hK12
   clear hr4 hI2 hB2 hK2 hT2 hK12 t5
   go_wp2_with fail
   refine (tshut_no rfl).mono ?_
   rintro e w3 ⟨rfl, hb3⟩
   have HT3 := Aside0.mk (HT2.out.below hb3)
   have K13 := Aside0.mk (HK12.out.below hb3)
   clear hb3 HT2 HK12
   go_upto_region 2 with fail
   have HN3 : Aside0 (w3.heap[W.heap.size]? = some (.cells #[.int .u8 0, .bool false, .slice none 0 0, .int .u32 0] 35 (0, 0))) := ⟨(K13.out.keep _ (blk_lt HN1.out) HNT.out).trans HN1.out⟩
   have HNF : Aside0 (¬ TF ({ M with sent := M.sent, got := M.got, code := M.code, cause := 2, ecode := code }) (I) t W.heap.size) := ⟨fun hk => (K13.out.new _ hk).elim HNT.out (fun e => by have := blk_lt HN1.out; omega)⟩
   have hne : ∀ k, k ≠ W.heap.size → ((((w3.setCell ⟨W.heap.size, 0, none⟩ (.int .u8 5)).setCell ⟨W.heap.size, 1, none⟩ (.bool false)).setCell ⟨W.heap.size, 2, none⟩ (.slice none 0 0)).setCell ⟨W.heap.size, 3, none⟩ (.int .u32 code)).heap[k]? = w3.heap[k]? := fun k e => heap_sets4 e
   have HT4 := Aside0.mk (HT3.out.move (sets4 HT3.out.bel HLO.out) (fun k hk => hne k (fun e => HNF.out (e ▸ hk))))
   have HK3 := Aside0.mk (HK1.out.trans K13.out)
   have HK4 : Aside0 (Kf W ((((w3.setCell ⟨W.heap.size, 0, none⟩ (.int .u8 5)).setCell ⟨W.heap.size, 1, none⟩ (.bool false)).setCell ⟨W.heap.size, 2, none⟩ (.slice none 0 0)).setCell ⟨W.heap.size, 3, none⟩ (.int .u32 code)) (TF M I t) (TF ({ M with sent := M.sent, got := M.got, code := M.code, cause := 2, ecode := code }) (I) t)) := ⟨⟨Nat.le_trans HK3.out.size (by simp [World.setCell]), fun k hlt hn => (hne k (by omega)).trans (HK3.out.keep k hlt hn), HK3.out.new⟩⟩
   clear hne
   have n_0 : w3.cell? ⟨W.heap.size, 0, none⟩ = some (.int .u8 0) := (blk_cell HN3.out 0).trans rfl
   have n_f0 := blk_frozen HN3.out 0
   have n_1 : w3.cell? ⟨W.heap.size, 1, none⟩ = some (.bool false) := (blk_cell HN3.out 1).trans rfl
   have n_f1 := blk_frozen HN3.out 1
   have n_2 : w3.cell? ⟨W.heap.size, 2, none⟩ = some (.slice none 0 0) := (blk_cell HN3.out 2).trans rfl
   have n_f2 := blk_frozen HN3.out 2
   have n_3 : w3.cell? ⟨W.heap.size, 3, none⟩ = some (.int .u32 0) := (blk_cell HN3.out 3).trans rfl
   have n_f3 := blk_frozen HN3.out 3
   have n_l := blk_lt HN3.out
   go_wp2_with fail
   exact bodyPost_ret (v := .agg #[.int .u8 5, .bool false, .slice none 0 0, .int .u32 code]) (by simp [results, Tryd.results22, go_sem, n_0, n_1, n_2, n_3]) rfl ⟨rfl, _, HB.out ▸ HT4.out, HB.out ▸ HK4.out⟩
  ·have hs : M.sent = false := by simpa using hs
   have HB : Aside0 (putM { M with sent := true, got := M.got, code := M.code, cause := 2, ecode := code } true 8 (dataC code (⟨#[]⟩ : ByteArray)) = badM M code) := ⟨by unfold badM sendM; rw [if_neg (by simpa using hca), if_neg (by simp [hs])]⟩
   have hbr : message_Close.f 7000 code (⟨#[]⟩ : ByteArray) = some (true, 8, false, 0, dataC code (⟨#[]⟩ : ByteArray)) := bears code _ (by decide) 7000 (Nat.le_refl _)
   refine (closing_Door_Bad.calls 7000 I.dg M.sent M.got M.code M.cause M.ecode code true 8 false 0 (dataC code (⟨#[]⟩ : ByteArray)) true true M.got M.code 2 code w0 _ H1.out.dr H1.out.bel (by unfold closing_Door_Bad.f closing_Door_Through.f closing_Door_End.f; simp only [Option.bind_some]; rw [hca, hs]; unfold closing_Door_send.f; rw [hbr]; rfl)).mono ?_
   rintro e w2 ⟨v4, rfl, hr4, hI2, hB2, hK2⟩
   obtain ⟨A4, c4, rfl⟩ := Kd.R_slice hr4
   obtain ⟨hT2, hK12⟩ := H1.out.setDoor hI2 hB2 hK2
   have HA2 := Aside0.mk (Ap.of_row (F := TF { M with sent := true, got := M.got, code := M.code, cause := 2, ecode := code } I t) hr4 (fun k e hk => (hK12.new k hk).elim (fun e2 => by have := H1.out.lt e2; have := Kd.R_base hr4 k e; omega) (fun e2 => by
    have := hT2.lt hk
    have h3 := Kd.R_base hr4 k e
    exact absurd (H1.out.lt (show TF M I t k from hk)) (by omega))))
   have HC2 := Aside0.mk (Kd.R_reads' hr4).2.1
   have HT2 := Aside0.mk hT2
   have HK12 := Aside0.mk hK12
   clear hr4 hI2 hB2 hK2 hT2 hK12 t5 hbr
   obtain ⟨dd, hdd⟩ : ∃ dd, dd = dataC code (⟨#[]⟩ : ByteArray) := ⟨_, rfl⟩
   have HDL : Aside0 (dd.length ≤ 125 ∧ ∀ x ∈ dd, Byte x) := ⟨by rw [hdd]; exact ⟨dataE_len code, dataE_byte code⟩⟩
   rw [← hdd] at HA2 HC2 HB ⊢
   clear hdd
   go_wp2_with fail
   refine (tshut_yes HT2.out HA2.out HC2.out HDL.out.2 (by decide) (may8 ⟨by decide, by decide⟩ HDL.out.1) HKB.out.1 HKB.out.2).mono ?_
   rintro e w3 ⟨rfl, vo', hT3, hK23⟩
   have HT3 := Aside0.mk hT3
   have K13 := Aside0.mk (HK12.out.trans hK23)
   clear hT3 hK23 HT2 HK12
   go_upto_region 2 with fail
   have HN3 : Aside0 (w3.heap[W.heap.size]? = some (.cells #[.int .u8 0, .bool false, .slice none 0 0, .int .u32 0] 35 (0, 0))) := ⟨(K13.out.keep _ (blk_lt HN1.out) HNT.out).trans HN1.out⟩
   have HNF : Aside0 (¬ TF (putM { M with sent := true, got := M.got, code := M.code, cause := 2, ecode := code } true 8 dd) ({ I with vo := vo' }) t W.heap.size) := ⟨fun hk => (K13.out.new _ hk).elim HNT.out (fun e => by have := blk_lt HN1.out; omega)⟩
   have hne : ∀ k, k ≠ W.heap.size → ((((w3.setCell ⟨W.heap.size, 0, none⟩ (.int .u8 5)).setCell ⟨W.heap.size, 1, none⟩ (.bool false)).setCell ⟨W.heap.size, 2, none⟩ (.slice none 0 0)).setCell ⟨W.heap.size, 3, none⟩ (.int .u32 code)).heap[k]? = w3.heap[k]? := fun k e => heap_sets4 e
   have HT4 := Aside0.mk (HT3.out.move (sets4 HT3.out.bel HLO.out) (fun k hk => hne k (fun e => HNF.out (e ▸ hk))))
   have HK3 := Aside0.mk (HK1.out.trans K13.out)
   have HK4 : Aside0 (Kf W ((((w3.setCell ⟨W.heap.size, 0, none⟩ (.int .u8 5)).setCell ⟨W.heap.size, 1, none⟩ (.bool false)).setCell ⟨W.heap.size, 2, none⟩ (.slice none 0 0)).setCell ⟨W.heap.size, 3, none⟩ (.int .u32 code)) (TF M I t) (TF (putM { M with sent := true, got := M.got, code := M.code, cause := 2, ecode := code } true 8 dd) ({ I with vo := vo' }) t)) := ⟨⟨Nat.le_trans HK3.out.size (by simp [World.setCell]), fun k hlt hn => (hne k (by omega)).trans (HK3.out.keep k hlt hn), HK3.out.new⟩⟩
   clear hne
   have n_0 : w3.cell? ⟨W.heap.size, 0, none⟩ = some (.int .u8 0) := (blk_cell HN3.out 0).trans rfl
   have n_f0 := blk_frozen HN3.out 0
   have n_1 : w3.cell? ⟨W.heap.size, 1, none⟩ = some (.bool false) := (blk_cell HN3.out 1).trans rfl
   have n_f1 := blk_frozen HN3.out 1
   have n_2 : w3.cell? ⟨W.heap.size, 2, none⟩ = some (.slice none 0 0) := (blk_cell HN3.out 2).trans rfl
   have n_f2 := blk_frozen HN3.out 2
   have n_3 : w3.cell? ⟨W.heap.size, 3, none⟩ = some (.int .u32 0) := (blk_cell HN3.out 3).trans rfl
   have n_f3 := blk_frozen HN3.out 3
   have n_l := blk_lt HN3.out
   go_wp2_with fail
   exact bodyPost_ret (v := .agg #[.int .u8 5, .bool false, .slice none 0 0, .int .u32 code]) (by simp [results, Tryd.results22, go_sem, n_0, n_1, n_2, n_3]) rfl ⟨rfl, _, HB.out ▸ HT4.out, HB.out ▸ HK4.out⟩
 ·have HB : Aside0 (M = badM M code) := ⟨by unfold badM; rw [if_pos hca]⟩
  have hcb : (M.cause != 0) = true := by simpa using hca
  refine (closing_Door_Bad.calls 7000 I.dg M.sent M.got M.code M.cause M.ecode code false 0 false 0 [] false M.sent M.got M.code M.cause M.ecode w0 _ H1.out.dr H1.out.bel (by unfold closing_Door_Bad.f closing_Door_Through.f closing_Door_End.f; simp only [Option.bind_some]; rw [hcb]; rfl)).mono ?_
  rintro e w2 ⟨v4, rfl, hr4, hI2, hB2, hK2⟩
  obtain ⟨A4, c4, rfl⟩ := Kd.R_slice hr4
  obtain ⟨hT2, hK12⟩ := H1.out.setDoor hI2 hB2 hK2
  have HT2 := Aside0.mk hT2
  have HK12 := Aside0.mk hK12
  clear hr4 hI2 hB2 hK2 hT2 hK12 t5
  go_wp2_with fail
  refine (tshut_no rfl).mono ?_
  rintro e w3 ⟨rfl, hb3⟩
  have HT3 := Aside0.mk (HT2.out.below hb3)
  have K13 := Aside0.mk (HK12.out.below hb3)
  clear hb3 HT2 HK12
  go_upto_region 2 with fail
  have HN3 : Aside0 (w3.heap[W.heap.size]? = some (.cells #[.int .u8 0, .bool false, .slice none 0 0, .int .u32 0] 35 (0, 0))) := ⟨(K13.out.keep _ (blk_lt HN1.out) HNT.out).trans HN1.out⟩
  have HNF : Aside0 (¬ TF (M) (I) t W.heap.size) := ⟨fun hk => (K13.out.new _ hk).elim HNT.out (fun e => by have := blk_lt HN1.out; omega)⟩
  have hne : ∀ k, k ≠ W.heap.size → ((((w3.setCell ⟨W.heap.size, 0, none⟩ (.int .u8 5)).setCell ⟨W.heap.size, 1, none⟩ (.bool false)).setCell ⟨W.heap.size, 2, none⟩ (.slice none 0 0)).setCell ⟨W.heap.size, 3, none⟩ (.int .u32 code)).heap[k]? = w3.heap[k]? := fun k e => heap_sets4 e
  have HT4 := Aside0.mk (HT3.out.move (sets4 HT3.out.bel HLO.out) (fun k hk => hne k (fun e => HNF.out (e ▸ hk))))
  have HK3 := Aside0.mk (HK1.out.trans K13.out)
  have HK4 : Aside0 (Kf W ((((w3.setCell ⟨W.heap.size, 0, none⟩ (.int .u8 5)).setCell ⟨W.heap.size, 1, none⟩ (.bool false)).setCell ⟨W.heap.size, 2, none⟩ (.slice none 0 0)).setCell ⟨W.heap.size, 3, none⟩ (.int .u32 code)) (TF M I t) (TF (M) (I) t)) := ⟨⟨Nat.le_trans HK3.out.size (by simp [World.setCell]), fun k hlt hn => (hne k (by omega)).trans (HK3.out.keep k hlt hn), HK3.out.new⟩⟩
  clear hne
  have n_0 : w3.cell? ⟨W.heap.size, 0, none⟩ = some (.int .u8 0) := (blk_cell HN3.out 0).trans rfl
  have n_f0 := blk_frozen HN3.out 0
  have n_1 : w3.cell? ⟨W.heap.size, 1, none⟩ = some (.bool false) := (blk_cell HN3.out 1).trans rfl
  have n_f1 := blk_frozen HN3.out 1
  have n_2 : w3.cell? ⟨W.heap.size, 2, none⟩ = some (.slice none 0 0) := (blk_cell HN3.out 2).trans rfl
  have n_f2 := blk_frozen HN3.out 2
  have n_3 : w3.cell? ⟨W.heap.size, 3, none⟩ = some (.int .u32 0) := (blk_cell HN3.out 3).trans rfl
  have n_f3 := blk_frozen HN3.out 3
  have n_l := blk_lt HN3.out
  go_wp2_with fail
  exact bodyPost_ret (v := .agg #[.int .u8 5, .bool false, .slice none 0 0, .int .u32 code]) (by simp [results, Tryd.results22, go_sem, n_0, n_1, n_2, n_3]) rfl ⟨rfl, _, HB.out ▸ HT4.out, HB.out ▸ HK4.out⟩
end Go.Proofs.YtpmeapdcjmaeiaaDoor
namespace Go.Proofs.YtpmeapdcjmaeiaaDoor
open Go.RowKit Go.Proofs.YtpmeapdcjmaeiaaDoorW.PrintWords Go.Proofs.YtpmeapdcjmaeiaaDoorW.PrintLast Go.Proofs.YtpmeapdcjmaeiaaDoorW.PrintMore Go.Proofs.YtpmeapdcjmaeiaaDoor.PAll Go.Proofs.YtpmeapdcjmaeiaaDoor.U
set_option maxHeartbeats 8000000 in
set_option maxRecDepth 100000 in
theorem ttakes {w0 W : World} {t : Nat} {M : TM} {I : TI} (h : Tn w0 W t M I) {k : Int} {tx : Bool} {nd : List Int} {code : Int} {A : Option Addr} {c : Nat} (hd : Ap W (TF M I t) A nd) (hc : nd.length ≤ c) (hby : ∀ x ∈ nd, Byte x) (hpl : k = 2 → nd.length ≤ 125) (hkb : M.key < 9223372036854775807) (hol : M.out.length ≤ 1000000) : Calls Tryd.prog 24 #[.pointer (some ⟨t, 0, none⟩), .agg #[.int .u8 k, .bool tx, .slice A nd.length c, .int .u32 code]] W (fun e w' => ∃ vo' vn', e = .returned (.agg #[.int .u8 (takesM M ⟨k, tx, nd, code⟩).2.f0, .bool (takesM M ⟨k, tx, nd, code⟩).2.f1, vn', .int .u32 (takesM M ⟨k, tx, nd, code⟩).2.f3]) ∧ (((takesM M ⟨k, tx, nd, code⟩).2 = ⟨k, tx, nd, code⟩ ∧ vn' = .slice A nd.length c) ∨ ((takesM M ⟨k, tx, nd, code⟩).2.f2 = [] ∧ vn' = .slice none 0 0)) ∧ Tn w0 w' t (takesM M ⟨k, tx, nd, code⟩).1 { I with vo := vo' } ∧ Kf W w' (TF M I t) (TF (takesM M ⟨k, tx, nd, code⟩).1 { I with vo := vo' } t)) := by
 have hu37 := Tryd.underlying35
 have hu81 := Tryd.underlying52
 have HKB := Aside0.mk (And.intro hkb hol)
 have HA := Aside0.mk hd
 have HC := Aside0.mk hc
 have HBY := Aside0.mk hby
 have HPL := Aside0.mk hpl
 have hb1 : Below W.heap.size W ((W.alloc (.cells #[.int .u8 k, .bool tx, .slice A nd.length c, .int .u32 code] 35)).alloc (.cells #[.int .u8 0, .bool false, .slice none 0 0, .int .u32 0] 35)) := below_alloc (below_alloc (Below.refl _ _) _) _
 have h1 := h.below hb1
 have hx1 : ((W.alloc (.cells #[.int .u8 k, .bool tx, .slice A nd.length c, .int .u32 code] 35)).alloc (.cells #[.int .u8 0, .bool false, .slice none 0 0, .int .u32 0] 35)).heap[W.heap.size]? = some (.cells #[.int .u8 k, .bool tx, .slice A nd.length c, .int .u32 code] 35 (0, 0)) := blk_alloc (last_at _ _ _ rfl) _
 have hr1 : ((W.alloc (.cells #[.int .u8 k, .bool tx, .slice A nd.length c, .int .u32 code] 35)).alloc (.cells #[.int .u8 0, .bool false, .slice none 0 0, .int .u32 0] 35)).heap[W.heap.size + 1]? = some (.cells #[.int .u8 0, .bool false, .slice none 0 0, .int .u32 0] 35 (0, 0)) := last_at _ _ _ (by simp)
 have HK1 := Aside0.mk ((Kf.refl W (TF M I t)).below hb1)
 have HA1 := Aside0.mk (hd.below hb1)
 have HLO := Aside0.mk h.bel.size
 have HNX : Aside0 (¬ TF M I t W.heap.size) := ⟨fun e => Nat.lt_irrefl _ (h.lt e)⟩
 have HNT : Aside0 (¬ TF M I t (W.heap.size + 1)) := ⟨fun e => by have := h.lt e; omega⟩
 clear h hkb hol hd hc hby hpl hb1
 go_enter Tryd.func24, Tryd.ntmps24
 go_upto_region 1 with fail
 generalize ((W.alloc (.cells #[.int .u8 k, .bool tx, .slice A nd.length c, .int .u32 code] 35)).alloc (.cells #[.int .u8 0, .bool false, .slice none 0 0, .int .u32 0] 35)) = w1 at h1 hx1 hr1 HK1 HA1 ⊢
 have H1 := Aside0.mk h1
 have HX1 := Aside0.mk hx1
 have HR1 := Aside0.mk hr1
 have x0 : w1.cell? ⟨W.heap.size, 0, none⟩ = some (.int .u8 k) := (blk_cell hx1 0).trans rfl
 have x3 : w1.cell? ⟨W.heap.size, 3, none⟩ = some (.int .u32 code) := (blk_cell hx1 3).trans rfl
 have t5 : w1.cell? ⟨t, 5, none⟩ = some (.pointer (some ⟨I.dg, 0, none⟩)) := (blk_cell h1.blk 5).trans rfl
 have t7 : w1.cell? ⟨t, 7, none⟩ = some (.int .i64 M.pongs) := (blk_cell h1.blk 7).trans rfl
 clear h1 hx1 hr1
 by_cases k5 : k = 5
 ·subst k5
  have HB : Aside0 (takesM M ⟨5, tx, nd, code⟩ = (badM M code, bNote code)) := ⟨by unfold takesM; rw [if_pos rfl]⟩
  go_wp2_with fail
  refine (twrong H1.out (code := code) HKB.out.1 HKB.out.2).mono ?_
  rintro e w3 ⟨rfl, vo', hT3, hK3⟩
  have HT3 := Aside0.mk hT3
  have K13 := Aside0.mk hK3
  clear hT3 hK3
  have HX3 : Aside0 (w3.heap[W.heap.size]? = some (.cells #[.int .u8 5, .bool tx, .slice A nd.length c, .int .u32 code] 35 (0, 0))) := ⟨(K13.out.keep _ (blk_lt HX1.out) HNX.out).trans HX1.out⟩
  have HR3 : Aside0 (w3.heap[W.heap.size + 1]? = some (.cells #[.int .u8 0, .bool false, .slice none 0 0, .int .u32 0] 35 (0, 0))) := ⟨(K13.out.keep _ (blk_lt HR1.out) HNT.out).trans HR1.out⟩
  have HNF : Aside0 (¬ TF (badM M code) ({ I with vo := vo' }) t (W.heap.size + 1)) := ⟨fun hk => (K13.out.new _ hk).elim HNT.out (fun e => by have := blk_lt HR1.out; omega)⟩
  have hne : ∀ q_, q_ ≠ W.heap.size + 1 → ((((w3.setCell ⟨W.heap.size + 1, 0, none⟩ (.int .u8 5)).setCell ⟨W.heap.size + 1, 1, none⟩ (.bool false)).setCell ⟨W.heap.size + 1, 2, none⟩ (.slice none 0 0)).setCell ⟨W.heap.size + 1, 3, none⟩ (.int .u32 code)).heap[q_]? = w3.heap[q_]? := fun q_ e => heap_sets4 e
  have HT4 := Aside0.mk (HT3.out.move (sets4 HT3.out.bel (show w0.heap.size ≤ W.heap.size + 1 from Nat.le_succ_of_le HLO.out)) (fun k hk => hne k (fun e => HNF.out (e ▸ hk))))
  have HK3 := Aside0.mk (HK1.out.trans K13.out)
  have HK4 : Aside0 (Kf W ((((w3.setCell ⟨W.heap.size + 1, 0, none⟩ (.int .u8 5)).setCell ⟨W.heap.size + 1, 1, none⟩ (.bool false)).setCell ⟨W.heap.size + 1, 2, none⟩ (.slice none 0 0)).setCell ⟨W.heap.size + 1, 3, none⟩ (.int .u32 code)) (TF M I t) (TF (badM M code) ({ I with vo := vo' }) t)) := ⟨⟨Nat.le_trans HK3.out.size (by simp [World.setCell]), fun k hlt hn => (hne k (by omega)).trans (HK3.out.keep k hlt hn), HK3.out.new⟩⟩
  clear hne
  have n_0 : w3.cell? ⟨W.heap.size + 1, 0, none⟩ = some (.int .u8 0) := (blk_cell HR3.out 0).trans rfl
  have n_f0 := blk_frozen HR3.out 0
  have n_1 : w3.cell? ⟨W.heap.size + 1, 1, none⟩ = some (.bool false) := (blk_cell HR3.out 1).trans rfl
  have n_f1 := blk_frozen HR3.out 1
  have n_2 : w3.cell? ⟨W.heap.size + 1, 2, none⟩ = some (.slice none 0 0) := (blk_cell HR3.out 2).trans rfl
  have n_f2 := blk_frozen HR3.out 2
  have n_3 : w3.cell? ⟨W.heap.size + 1, 3, none⟩ = some (.int .u32 0) := (blk_cell HR3.out 3).trans rfl
  have n_f3 := blk_frozen HR3.out 3
  have n_l := blk_lt HR3.out
  go_wp2_with fail
  exact bodyPost_ret (v := .agg #[.int .u8 5, .bool false, .slice none 0 0, .int .u32 code]) (by simp [results, Tryd.results24, go_sem, n_0, n_1, n_2, n_3]) rfl ⟨_, .slice none 0 0, (by first | (rw [HB.out]; done) | (rw [HB.out]; rfl)), by rw [HB.out]; exact .inr ⟨rfl, rfl⟩, by rw [HB.out]; exact HT4.out, by rw [HB.out]; exact HK4.out⟩
 ·by_cases k4 : k = 4
  ·subst k4
   go_upto_region 5 with fail
   by_cases hca : M.cause = 0
   ·by_cases hs : M.sent = true
    ·have HB : Aside0 (takesM M ⟨4, tx, nd, code⟩ = ({ M with sent := M.sent, got := true, code := code, cause := 1, ecode := code }, ⟨4, tx, nd, code⟩)) := ⟨by unfold takesM; rw [if_neg (show ¬ ((4 : Int) = 5) by decide), if_pos rfl]; show (gotM M code, _) = _; unfold gotM sendM; rw [if_neg (by simpa using hca), if_pos hs]⟩
     refine wp_region_noPanic ?_
     refine wp_region_held_drew (S := fun w' => w'.cell? ⟨t, 5, none⟩ = some (.pointer (some ⟨I.dg, 0, none⟩)) ∧ w'.cell? ⟨W.heap.size, 3, none⟩ = some (.int .u32 code)) (by kernel_rfl) (⟨t5, x3⟩) (fun hHeld => ?_)
     refine takeP 0 15 ?_
     refine takeP 1 16 ?_
     refine takeP 2 17 ?_
     refine takeP 3 18 ?_
     refine takeP 4 19 ?_
     refine takeP 5 20 ?_
     refine takeP 6 21 ?_
     refine wpAnyH_ready (rs := [7]) (by kernel_rfl) (by simp) ?_
     refine AllReadyH.cons rfl (fun K hK => ?_) AllReadyH.nil
     go_simp
     go_at_call 41
     with_reducible refine (closing_Door_Got.calls 7000 I.dg M.sent M.got M.code M.cause M.ecode code false 0 false 0 [] false M.sent true code 1 code w0 _ (H1.out.below (below_drew (Below.refl _ _))).dr (H1.out.below (below_drew (Below.refl _ _))).bel (by unfold closing_Door_Got.f closing_Door_Through.f closing_Door_End.f; simp only [Option.bind_some]; rw [hca, hs]; simp [closing_Door_send.f, closing_Door_ends.f])).mono ?_
     rintro e w2 ⟨v4, rfl, hr4, hI2, hB2, hK2⟩
     obtain ⟨A4, c4, rfl⟩ := Kd.R_slice hr4
     obtain ⟨hT2, hK12⟩ := (H1.out.below (below_drew (Below.refl _ _))).setDoor hI2 hB2 hK2
     have hx2 := (hK12.keep _ (blk_lt (blk_drew HX1.out)) HNX.out).trans (blk_drew HX1.out)
     have HX2 := Aside0.mk hx2
     have HT2 := Aside0.mk hT2
     have HK12 := Aside0.mk ((Kf.refl w1 (TF M I t)).below (below_drew (Below.refl _ _)) |>.trans hK12)
     clear hr4 hI2 hB2 hK2 hT2 hK12 hx2 hHeld
     refine hK.out _ _ (⟨(blk_cell HT2.out.blk 5).trans rfl, (blk_cell HX2.out 3).trans rfl⟩) (fun hHeld => ?_)
     clear hK K
     try simp only [Act.put, z1_, z2_, z3_]
     refine takeP 8 23 ?_
     refine takeP 9 24 ?_
     refine wpAnyH_ready (rs := [10]) (by kernel_rfl) (by simp) ?_
     refine AllReadyH.cons rfl (fun K hK => ?_) AllReadyH.nil
     go_simp
     go_at_call 36
     with_reducible refine (tshut_no rfl).mono ?_
     rintro e w' ⟨rfl, hb3⟩
     have HT3 := Aside0.mk (HT2.out.below hb3)
     have K13 := Aside0.mk (HK12.out.below hb3)
     clear hb3 hHeld
     refine hK.out _ _ (⟨(blk_cell HT3.out.blk 5).trans rfl, (blk_cell ((K13.out.keep _ (blk_lt HX1.out) HNX.out).trans HX1.out) 3).trans rfl⟩) (fun hHeld => ?_)
     clear hK K
     try simp only [Act.put, z1_, z2_, z3_]
     refine wpAnyH_done (by kernel_rfl) ?_ _
     refine NoPanic.normal ?_
     clear hHeld t5 t7
     go_upto_region 13 with fail
     have HX3 : Aside0 (w'.heap[W.heap.size]? = some (.cells #[.int .u8 4, .bool tx, .slice A nd.length c, .int .u32 code] 35 (0, 0))) := ⟨(K13.out.keep _ (blk_lt HX1.out) HNX.out).trans HX1.out⟩
     have HR3 : Aside0 (w'.heap[W.heap.size + 1]? = some (.cells #[.int .u8 0, .bool false, .slice none 0 0, .int .u32 0] 35 (0, 0))) := ⟨(K13.out.keep _ (blk_lt HR1.out) HNT.out).trans HR1.out⟩
     have HNF : Aside0 (¬ TF ({ M with sent := M.sent, got := true, code := code, cause := 1, ecode := code }) (I) t (W.heap.size + 1)) := ⟨fun hk => (K13.out.new _ hk).elim HNT.out (fun e => by have := blk_lt HR1.out; omega)⟩
     have hne : ∀ q_, q_ ≠ W.heap.size + 1 → ((((w'.setCell ⟨W.heap.size + 1, 0, none⟩ (.int .u8 4)).setCell ⟨W.heap.size + 1, 1, none⟩ (.bool tx)).setCell ⟨W.heap.size + 1, 2, none⟩ (.slice A nd.length c)).setCell ⟨W.heap.size + 1, 3, none⟩ (.int .u32 code)).heap[q_]? = w'.heap[q_]? := fun q_ e => heap_sets4 e
     have HT4 := Aside0.mk (HT3.out.move (sets4 HT3.out.bel (show w0.heap.size ≤ W.heap.size + 1 from Nat.le_succ_of_le HLO.out)) (fun k hk => hne k (fun e => HNF.out (e ▸ hk))))
     have HK3 := Aside0.mk (HK1.out.trans K13.out)
     have HK4 : Aside0 (Kf W ((((w'.setCell ⟨W.heap.size + 1, 0, none⟩ (.int .u8 4)).setCell ⟨W.heap.size + 1, 1, none⟩ (.bool tx)).setCell ⟨W.heap.size + 1, 2, none⟩ (.slice A nd.length c)).setCell ⟨W.heap.size + 1, 3, none⟩ (.int .u32 code)) (TF M I t) (TF ({ M with sent := M.sent, got := true, code := code, cause := 1, ecode := code }) (I) t)) := ⟨⟨Nat.le_trans HK3.out.size (by simp [World.setCell]), fun k hlt hn => (hne k (by omega)).trans (HK3.out.keep k hlt hn), HK3.out.new⟩⟩
     clear hne
     clear x0 x3
     have x_0 : w'.cell? ⟨W.heap.size, 0, none⟩ = some (.int .u8 4) := (blk_cell HX3.out 0).trans rfl
     have x_1 : w'.cell? ⟨W.heap.size, 1, none⟩ = some (.bool tx) := (blk_cell HX3.out 1).trans rfl
     have x_2 : w'.cell? ⟨W.heap.size, 2, none⟩ = some (.slice A nd.length c) := (blk_cell HX3.out 2).trans rfl
     have x_3 : w'.cell? ⟨W.heap.size, 3, none⟩ = some (.int .u32 code) := (blk_cell HX3.out 3).trans rfl
     have x_l := blk_lt HX3.out
     have n_0 : w'.cell? ⟨W.heap.size + 1, 0, none⟩ = some (.int .u8 0) := (blk_cell HR3.out 0).trans rfl
     have n_f0 := blk_frozen HR3.out 0
     have n_1 : w'.cell? ⟨W.heap.size + 1, 1, none⟩ = some (.bool false) := (blk_cell HR3.out 1).trans rfl
     have n_f1 := blk_frozen HR3.out 1
     have n_2 : w'.cell? ⟨W.heap.size + 1, 2, none⟩ = some (.slice none 0 0) := (blk_cell HR3.out 2).trans rfl
     have n_f2 := blk_frozen HR3.out 2
     have n_3 : w'.cell? ⟨W.heap.size + 1, 3, none⟩ = some (.int .u32 0) := (blk_cell HR3.out 3).trans rfl
     have n_f3 := blk_frozen HR3.out 3
     have n_l := blk_lt HR3.out
     go_wp2_with fail
     exact bodyPost_ret (v := .agg #[.int .u8 4, .bool tx, .slice A nd.length c, .int .u32 code]) (by simp [results, Tryd.results24, go_sem, n_0, n_1, n_2, n_3]) rfl ⟨_, .slice A nd.length c, (by first | (rw [HB.out]; done) | (rw [HB.out]; rfl)), by rw [HB.out]; exact .inl ⟨rfl, rfl⟩, by rw [HB.out]; exact HT4.out, by rw [HB.out]; exact HK4.out⟩
    ·have hs : M.sent = false := by simpa using hs
     have hbr : message_Close.f 7000 code (⟨#[]⟩ : ByteArray) = some (true, 8, false, 0, dataC code (⟨#[]⟩ : ByteArray)) := bears code _ (by decide) 7000 (Nat.le_refl _)
     obtain ⟨dd, hdd⟩ : ∃ dd, dd = dataC code (⟨#[]⟩ : ByteArray) := ⟨_, rfl⟩
     have HDL : Aside0 (dd.length ≤ 125 ∧ ∀ x ∈ dd, Byte x) := ⟨by rw [hdd]; exact ⟨dataE_len code, dataE_byte code⟩⟩
     have HDD := Aside0.mk hdd
     rw [← hdd] at hbr
     have HBR := Aside0.mk hbr
     clear hdd hbr
     have HB : Aside0 (takesM M ⟨4, tx, nd, code⟩ = (putM { M with sent := true, got := true, code := code, cause := 1, ecode := code } true 8 dd, ⟨4, tx, nd, code⟩)) := ⟨by unfold takesM; rw [if_neg (show ¬ ((4 : Int) = 5) by decide), if_pos rfl]; show (gotM M code, _) = _; unfold gotM sendM; rw [if_neg (by simpa using hca), if_neg (by simp [hs]), HDD.out]; rfl⟩
     refine wp_region_noPanic ?_
     refine wp_region_held_drew (S := fun w' => w'.cell? ⟨t, 5, none⟩ = some (.pointer (some ⟨I.dg, 0, none⟩)) ∧ w'.cell? ⟨W.heap.size, 3, none⟩ = some (.int .u32 code)) (by kernel_rfl) (⟨t5, x3⟩) (fun hHeld => ?_)
     refine takeP 0 15 ?_
     refine takeP 1 16 ?_
     refine takeP 2 17 ?_
     refine takeP 3 18 ?_
     refine takeP 4 19 ?_
     refine takeP 5 20 ?_
     refine takeP 6 21 ?_
     refine wpAnyH_ready (rs := [7]) (by kernel_rfl) (by simp) ?_
     refine AllReadyH.cons rfl (fun K hK => ?_) AllReadyH.nil
     go_simp
     go_at_call 41
     with_reducible refine (closing_Door_Got.calls 7000 I.dg M.sent M.got M.code M.cause M.ecode code true 8 false 0 dd true true true code 1 code w0 _ (H1.out.below (below_drew (Below.refl _ _))).dr (H1.out.below (below_drew (Below.refl _ _))).bel (by unfold closing_Door_Got.f closing_Door_Through.f closing_Door_End.f; simp only [Option.bind_some]; rw [hca, hs]; simp [closing_Door_send.f, closing_Door_ends.f, HBR.out])).mono ?_
     rintro e w2 ⟨v4, rfl, hr4, hI2, hB2, hK2⟩
     obtain ⟨A4, c4, rfl⟩ := Kd.R_slice hr4
     obtain ⟨hT2, hK12⟩ := (H1.out.below (below_drew (Below.refl _ _))).setDoor hI2 hB2 hK2
     have hx2 := (hK12.keep _ (blk_lt (blk_drew HX1.out)) HNX.out).trans (blk_drew HX1.out)
     have HX2 := Aside0.mk hx2
     have HA2 := Aside0.mk (Ap.of_row (F := TF ({ M with sent := true, got := true, code := code, cause := 1, ecode := code }) I t) hr4 (fun k e hk => absurd ((H1.out.below (below_drew (Below.refl _ _))).lt (show TF M I t k from hk)) (by have := Kd.R_base hr4 k e; omega)))
     have HC2 := Aside0.mk (Kd.R_reads' hr4).2.1
     have HT2 := Aside0.mk hT2
     have HK12 := Aside0.mk ((Kf.refl w1 (TF M I t)).below (below_drew (Below.refl _ _)) |>.trans hK12)
     clear hr4 hI2 hB2 hK2 hT2 hK12 hx2 hHeld
     refine hK.out _ _ (⟨(blk_cell HT2.out.blk 5).trans rfl, (blk_cell HX2.out 3).trans rfl⟩) (fun hHeld => ?_)
     clear hK K
     try simp only [Act.put, z1_, z2_, z3_]
     refine takeP 8 23 ?_
     refine takeP 9 24 ?_
     refine wpAnyH_ready (rs := [10]) (by kernel_rfl) (by simp) ?_
     refine AllReadyH.cons rfl (fun K hK => ?_) AllReadyH.nil
     go_simp
     go_at_call 36
     with_reducible refine (tshut_yes HT2.out HA2.out HC2.out HDL.out.2 (by decide) (may8 ⟨by decide, by decide⟩ HDL.out.1) HKB.out.1 HKB.out.2).mono ?_
     rintro e w' ⟨rfl, vo', hT3, hK23⟩
     have HT3 := Aside0.mk hT3
     have K13 := Aside0.mk (HK12.out.trans hK23)
     clear hT3 hK23 hHeld
     refine hK.out _ _ (⟨(blk_cell HT3.out.blk 5).trans rfl, (blk_cell ((K13.out.keep _ (blk_lt HX1.out) HNX.out).trans HX1.out) 3).trans rfl⟩) (fun hHeld => ?_)
     clear hK K
     try simp only [Act.put, z1_, z2_, z3_]
     refine wpAnyH_done (by kernel_rfl) ?_ _
     refine NoPanic.normal ?_
     clear hHeld t5 t7
     go_upto_region 13 with fail
     have HX3 : Aside0 (w'.heap[W.heap.size]? = some (.cells #[.int .u8 4, .bool tx, .slice A nd.length c, .int .u32 code] 35 (0, 0))) := ⟨(K13.out.keep _ (blk_lt HX1.out) HNX.out).trans HX1.out⟩
     have HR3 : Aside0 (w'.heap[W.heap.size + 1]? = some (.cells #[.int .u8 0, .bool false, .slice none 0 0, .int .u32 0] 35 (0, 0))) := ⟨(K13.out.keep _ (blk_lt HR1.out) HNT.out).trans HR1.out⟩
     have HNF : Aside0 (¬ TF (putM ({ M with sent := true, got := true, code := code, cause := 1, ecode := code }) true 8 dd) ({ I with vo := vo' }) t (W.heap.size + 1)) := ⟨fun hk => (K13.out.new _ hk).elim HNT.out (fun e => by have := blk_lt HR1.out; omega)⟩
     have hne : ∀ q_, q_ ≠ W.heap.size + 1 → ((((w'.setCell ⟨W.heap.size + 1, 0, none⟩ (.int .u8 4)).setCell ⟨W.heap.size + 1, 1, none⟩ (.bool tx)).setCell ⟨W.heap.size + 1, 2, none⟩ (.slice A nd.length c)).setCell ⟨W.heap.size + 1, 3, none⟩ (.int .u32 code)).heap[q_]? = w'.heap[q_]? := fun q_ e => heap_sets4 e
     have HT4 := Aside0.mk (HT3.out.move (sets4 HT3.out.bel (show w0.heap.size ≤ W.heap.size + 1 from Nat.le_succ_of_le HLO.out)) (fun k hk => hne k (fun e => HNF.out (e ▸ hk))))
     have HK3 := Aside0.mk (HK1.out.trans K13.out)
     have HK4 : Aside0 (Kf W ((((w'.setCell ⟨W.heap.size + 1, 0, none⟩ (.int .u8 4)).setCell ⟨W.heap.size + 1, 1, none⟩ (.bool tx)).setCell ⟨W.heap.size + 1, 2, none⟩ (.slice A nd.length c)).setCell ⟨W.heap.size + 1, 3, none⟩ (.int .u32 code)) (TF M I t) (TF (putM ({ M with sent := true, got := true, code := code, cause := 1, ecode := code }) true 8 dd) ({ I with vo := vo' }) t)) := ⟨⟨Nat.le_trans HK3.out.size (by simp [World.setCell]), fun k hlt hn => (hne k (by omega)).trans (HK3.out.keep k hlt hn), HK3.out.new⟩⟩
     clear hne
     clear x0 x3
     have x_0 : w'.cell? ⟨W.heap.size, 0, none⟩ = some (.int .u8 4) := (blk_cell HX3.out 0).trans rfl
     have x_1 : w'.cell? ⟨W.heap.size, 1, none⟩ = some (.bool tx) := (blk_cell HX3.out 1).trans rfl
     have x_2 : w'.cell? ⟨W.heap.size, 2, none⟩ = some (.slice A nd.length c) := (blk_cell HX3.out 2).trans rfl
     have x_3 : w'.cell? ⟨W.heap.size, 3, none⟩ = some (.int .u32 code) := (blk_cell HX3.out 3).trans rfl
     have x_l := blk_lt HX3.out
     have n_0 : w'.cell? ⟨W.heap.size + 1, 0, none⟩ = some (.int .u8 0) := (blk_cell HR3.out 0).trans rfl
     have n_f0 := blk_frozen HR3.out 0
     have n_1 : w'.cell? ⟨W.heap.size + 1, 1, none⟩ = some (.bool false) := (blk_cell HR3.out 1).trans rfl
     have n_f1 := blk_frozen HR3.out 1
     have n_2 : w'.cell? ⟨W.heap.size + 1, 2, none⟩ = some (.slice none 0 0) := (blk_cell HR3.out 2).trans rfl
     have n_f2 := blk_frozen HR3.out 2
     have n_3 : w'.cell? ⟨W.heap.size + 1, 3, none⟩ = some (.int .u32 0) := (blk_cell HR3.out 3).trans rfl
     have n_f3 := blk_frozen HR3.out 3
     have n_l := blk_lt HR3.out
     go_wp2_with fail
     exact bodyPost_ret (v := .agg #[.int .u8 4, .bool tx, .slice A nd.length c, .int .u32 code]) (by simp [results, Tryd.results24, go_sem, n_0, n_1, n_2, n_3]) rfl ⟨_, .slice A nd.length c, (by first | (rw [HB.out]; done) | (rw [HB.out]; rfl)), by rw [HB.out]; exact .inl ⟨rfl, rfl⟩, by rw [HB.out]; exact HT4.out, by rw [HB.out]; exact HK4.out⟩
   ·have HB : Aside0 (takesM M ⟨4, tx, nd, code⟩ = (M, ⟨4, tx, nd, code⟩)) := ⟨by unfold takesM; rw [if_neg (show ¬ ((4 : Int) = 5) by decide), if_pos rfl]; show (gotM M code, _) = _; unfold gotM; rw [if_pos hca]⟩
    refine wp_region_noPanic ?_
    refine wp_region_held_drew (S := fun w' => w'.cell? ⟨t, 5, none⟩ = some (.pointer (some ⟨I.dg, 0, none⟩)) ∧ w'.cell? ⟨W.heap.size, 3, none⟩ = some (.int .u32 code)) (by kernel_rfl) (⟨t5, x3⟩) (fun hHeld => ?_)
    refine takeP 0 15 ?_
    refine takeP 1 16 ?_
    refine takeP 2 17 ?_
    refine takeP 3 18 ?_
    refine takeP 4 19 ?_
    refine takeP 5 20 ?_
    refine takeP 6 21 ?_
    refine wpAnyH_ready (rs := [7]) (by kernel_rfl) (by simp) ?_
    refine AllReadyH.cons rfl (fun K hK => ?_) AllReadyH.nil
    go_simp
    go_at_call 41
    with_reducible refine (closing_Door_Got.calls 7000 I.dg M.sent M.got M.code M.cause M.ecode code false 0 false 0 [] false M.sent M.got M.code M.cause M.ecode w0 _ (H1.out.below (below_drew (Below.refl _ _))).dr (H1.out.below (below_drew (Below.refl _ _))).bel (by unfold closing_Door_Got.f closing_Door_Through.f closing_Door_End.f; simp only [Option.bind_some]; rw [show (M.cause != 0) = true by simpa using hca]; simp)).mono ?_
    rintro e w2 ⟨v4, rfl, hr4, hI2, hB2, hK2⟩
    obtain ⟨A4, c4, rfl⟩ := Kd.R_slice hr4
    obtain ⟨hT2, hK12⟩ := (H1.out.below (below_drew (Below.refl _ _))).setDoor hI2 hB2 hK2
    have hx2 := (hK12.keep _ (blk_lt (blk_drew HX1.out)) HNX.out).trans (blk_drew HX1.out)
    have HX2 := Aside0.mk hx2
    have HT2 := Aside0.mk hT2
    have HK12 := Aside0.mk ((Kf.refl w1 (TF M I t)).below (below_drew (Below.refl _ _)) |>.trans hK12)
    clear hr4 hI2 hB2 hK2 hT2 hK12 hx2 hHeld
    refine hK.out _ _ (⟨(blk_cell HT2.out.blk 5).trans rfl, (blk_cell HX2.out 3).trans rfl⟩) (fun hHeld => ?_)
    clear hK K
    try simp only [Act.put, z1_, z2_, z3_]
    refine takeP 8 23 ?_
    refine takeP 9 24 ?_
    refine wpAnyH_ready (rs := [10]) (by kernel_rfl) (by simp) ?_
    refine AllReadyH.cons rfl (fun K hK => ?_) AllReadyH.nil
    go_simp
    go_at_call 36
    with_reducible refine (tshut_no rfl).mono ?_
    rintro e w' ⟨rfl, hb3⟩
    have HT3 := Aside0.mk (HT2.out.below hb3)
    have K13 := Aside0.mk (HK12.out.below hb3)
    clear hb3 hHeld
    refine hK.out _ _ (⟨(blk_cell HT3.out.blk 5).trans rfl, (blk_cell ((K13.out.keep _ (blk_lt HX1.out) HNX.out).trans HX1.out) 3).trans rfl⟩) (fun hHeld => ?_)
    clear hK K
    try simp only [Act.put, z1_, z2_, z3_]
    refine wpAnyH_done (by kernel_rfl) ?_ _
    refine NoPanic.normal ?_
    clear hHeld t5 t7
    go_upto_region 13 with fail
    have HX3 : Aside0 (w'.heap[W.heap.size]? = some (.cells #[.int .u8 4, .bool tx, .slice A nd.length c, .int .u32 code] 35 (0, 0))) := ⟨(K13.out.keep _ (blk_lt HX1.out) HNX.out).trans HX1.out⟩
    have HR3 : Aside0 (w'.heap[W.heap.size + 1]? = some (.cells #[.int .u8 0, .bool false, .slice none 0 0, .int .u32 0] 35 (0, 0))) := ⟨(K13.out.keep _ (blk_lt HR1.out) HNT.out).trans HR1.out⟩
    have HNF : Aside0 (¬ TF (M) (I) t (W.heap.size + 1)) := ⟨fun hk => (K13.out.new _ hk).elim HNT.out (fun e => by have := blk_lt HR1.out; omega)⟩
    have hne : ∀ q_, q_ ≠ W.heap.size + 1 → ((((w'.setCell ⟨W.heap.size + 1, 0, none⟩ (.int .u8 4)).setCell ⟨W.heap.size + 1, 1, none⟩ (.bool tx)).setCell ⟨W.heap.size + 1, 2, none⟩ (.slice A nd.length c)).setCell ⟨W.heap.size + 1, 3, none⟩ (.int .u32 code)).heap[q_]? = w'.heap[q_]? := fun q_ e => heap_sets4 e
    have HT4 := Aside0.mk (HT3.out.move (sets4 HT3.out.bel (show w0.heap.size ≤ W.heap.size + 1 from Nat.le_succ_of_le HLO.out)) (fun k hk => hne k (fun e => HNF.out (e ▸ hk))))
    have HK3 := Aside0.mk (HK1.out.trans K13.out)
    have HK4 : Aside0 (Kf W ((((w'.setCell ⟨W.heap.size + 1, 0, none⟩ (.int .u8 4)).setCell ⟨W.heap.size + 1, 1, none⟩ (.bool tx)).setCell ⟨W.heap.size + 1, 2, none⟩ (.slice A nd.length c)).setCell ⟨W.heap.size + 1, 3, none⟩ (.int .u32 code)) (TF M I t) (TF (M) (I) t)) := ⟨⟨Nat.le_trans HK3.out.size (by simp [World.setCell]), fun k hlt hn => (hne k (by omega)).trans (HK3.out.keep k hlt hn), HK3.out.new⟩⟩
    clear hne
    clear x0 x3
    have x_0 : w'.cell? ⟨W.heap.size, 0, none⟩ = some (.int .u8 4) := (blk_cell HX3.out 0).trans rfl
    have x_1 : w'.cell? ⟨W.heap.size, 1, none⟩ = some (.bool tx) := (blk_cell HX3.out 1).trans rfl
    have x_2 : w'.cell? ⟨W.heap.size, 2, none⟩ = some (.slice A nd.length c) := (blk_cell HX3.out 2).trans rfl
    have x_3 : w'.cell? ⟨W.heap.size, 3, none⟩ = some (.int .u32 code) := (blk_cell HX3.out 3).trans rfl
    have x_l := blk_lt HX3.out
    have n_0 : w'.cell? ⟨W.heap.size + 1, 0, none⟩ = some (.int .u8 0) := (blk_cell HR3.out 0).trans rfl
    have n_f0 := blk_frozen HR3.out 0
    have n_1 : w'.cell? ⟨W.heap.size + 1, 1, none⟩ = some (.bool false) := (blk_cell HR3.out 1).trans rfl
    have n_f1 := blk_frozen HR3.out 1
    have n_2 : w'.cell? ⟨W.heap.size + 1, 2, none⟩ = some (.slice none 0 0) := (blk_cell HR3.out 2).trans rfl
    have n_f2 := blk_frozen HR3.out 2
    have n_3 : w'.cell? ⟨W.heap.size + 1, 3, none⟩ = some (.int .u32 0) := (blk_cell HR3.out 3).trans rfl
    have n_f3 := blk_frozen HR3.out 3
    have n_l := blk_lt HR3.out
    go_wp2_with fail
    exact bodyPost_ret (v := .agg #[.int .u8 4, .bool tx, .slice A nd.length c, .int .u32 code]) (by simp [results, Tryd.results24, go_sem, n_0, n_1, n_2, n_3]) rfl ⟨_, .slice A nd.length c, (by first | (rw [HB.out]; done) | (rw [HB.out]; rfl)), by rw [HB.out]; exact .inl ⟨rfl, rfl⟩, by rw [HB.out]; exact HT4.out, by rw [HB.out]; exact HK4.out⟩
  ·by_cases k2 : k = 2
   ·subst k2
    go_wp2_with fail
    refine (closing_Door_Sent.calls I.dg M.sent M.got M.code M.cause M.ecode M.sent M.sent M.got M.code M.cause M.ecode w0 _ H1.out.dr H1.out.bel rfl).mono ?_
    rintro e w2 ⟨rfl, hI2, hB2, hK2⟩
    obtain ⟨hT2, hK12⟩ := H1.out.setDoor hI2 hB2 hK2
    have HT2 : Aside0 (Tn w0 w2 t M I) := ⟨hT2⟩
    have HK12 : Aside0 (Kf w1 w2 (TF M I t) (TF M I t)) := ⟨hK12⟩
    have hx2 := (hK12.keep _ (blk_lt HX1.out) HNX.out).trans HX1.out
    have HX2 := Aside0.mk hx2
    have HA2 := Aside0.mk (HA1.out.kf HK12.out)
    clear hI2 hB2 hK2 hT2 hK12 hx2 t5 t7 x0 x3
    have x2 : w2.cell? ⟨W.heap.size, 2, none⟩ = some (.slice A nd.length c) := (blk_cell HX2.out 2).trans rfl
    have t7 : w2.cell? ⟨t, 7, none⟩ = some (.int .i64 M.pongs) := (blk_cell HT2.out.blk 7).trans rfl
    have tf7 := blk_frozen HT2.out.blk 7
    have tl7 := blk_lt HT2.out.blk
    by_cases hs : M.sent = true
    ·have HB : Aside0 (takesM M ⟨2, tx, nd, code⟩ = (M, ⟨2, tx, nd, code⟩)) := ⟨by unfold takesM; rw [if_neg (show ¬ ((2 : Int) = 5) by decide), if_neg (show ¬ ((2 : Int) = 4) by decide), if_pos rfl]; rw [if_pos hs]⟩
     simp only [hs]
     go_upto_region 8 with fail
     have HT3 := HT2
     have K13 := HK12
     clear x2 t7 tf7 tl7
     have HX3 : Aside0 (w2.heap[W.heap.size]? = some (.cells #[.int .u8 2, .bool tx, .slice A nd.length c, .int .u32 code] 35 (0, 0))) := ⟨(K13.out.keep _ (blk_lt HX1.out) HNX.out).trans HX1.out⟩
     have HR3 : Aside0 (w2.heap[W.heap.size + 1]? = some (.cells #[.int .u8 0, .bool false, .slice none 0 0, .int .u32 0] 35 (0, 0))) := ⟨(K13.out.keep _ (blk_lt HR1.out) HNT.out).trans HR1.out⟩
     have HNF : Aside0 (¬ TF (M) (I) t (W.heap.size + 1)) := ⟨fun hk => (K13.out.new _ hk).elim HNT.out (fun e => by have := blk_lt HR1.out; omega)⟩
     have hne : ∀ q_, q_ ≠ W.heap.size + 1 → ((((w2.setCell ⟨W.heap.size + 1, 0, none⟩ (.int .u8 2)).setCell ⟨W.heap.size + 1, 1, none⟩ (.bool tx)).setCell ⟨W.heap.size + 1, 2, none⟩ (.slice A nd.length c)).setCell ⟨W.heap.size + 1, 3, none⟩ (.int .u32 code)).heap[q_]? = w2.heap[q_]? := fun q_ e => heap_sets4 e
     have HT4 := Aside0.mk (HT3.out.move (sets4 HT3.out.bel (show w0.heap.size ≤ W.heap.size + 1 from Nat.le_succ_of_le HLO.out)) (fun k hk => hne k (fun e => HNF.out (e ▸ hk))))
     have HK3 := Aside0.mk (HK1.out.trans K13.out)
     have HK4 : Aside0 (Kf W ((((w2.setCell ⟨W.heap.size + 1, 0, none⟩ (.int .u8 2)).setCell ⟨W.heap.size + 1, 1, none⟩ (.bool tx)).setCell ⟨W.heap.size + 1, 2, none⟩ (.slice A nd.length c)).setCell ⟨W.heap.size + 1, 3, none⟩ (.int .u32 code)) (TF M I t) (TF (M) (I) t)) := ⟨⟨Nat.le_trans HK3.out.size (by simp [World.setCell]), fun k hlt hn => (hne k (by omega)).trans (HK3.out.keep k hlt hn), HK3.out.new⟩⟩
     clear hne
     have x_0 : w2.cell? ⟨W.heap.size, 0, none⟩ = some (.int .u8 2) := (blk_cell HX3.out 0).trans rfl
     have x_1 : w2.cell? ⟨W.heap.size, 1, none⟩ = some (.bool tx) := (blk_cell HX3.out 1).trans rfl
     have x_2 : w2.cell? ⟨W.heap.size, 2, none⟩ = some (.slice A nd.length c) := (blk_cell HX3.out 2).trans rfl
     have x_3 : w2.cell? ⟨W.heap.size, 3, none⟩ = some (.int .u32 code) := (blk_cell HX3.out 3).trans rfl
     have x_l := blk_lt HX3.out
     have n_0 : w2.cell? ⟨W.heap.size + 1, 0, none⟩ = some (.int .u8 0) := (blk_cell HR3.out 0).trans rfl
     have n_f0 := blk_frozen HR3.out 0
     have n_1 : w2.cell? ⟨W.heap.size + 1, 1, none⟩ = some (.bool false) := (blk_cell HR3.out 1).trans rfl
     have n_f1 := blk_frozen HR3.out 1
     have n_2 : w2.cell? ⟨W.heap.size + 1, 2, none⟩ = some (.slice none 0 0) := (blk_cell HR3.out 2).trans rfl
     have n_f2 := blk_frozen HR3.out 2
     have n_3 : w2.cell? ⟨W.heap.size + 1, 3, none⟩ = some (.int .u32 0) := (blk_cell HR3.out 3).trans rfl
     have n_f3 := blk_frozen HR3.out 3
     have n_l := blk_lt HR3.out
     go_wp2_with fail
     exact bodyPost_ret (v := .agg #[.int .u8 2, .bool tx, .slice A nd.length c, .int .u32 code]) (by simp [results, Tryd.results24, go_sem, n_0, n_1, n_2, n_3]) rfl ⟨_, .slice A nd.length c, (by first | (rw [HB.out]; done) | (rw [HB.out]; rfl)), by rw [HB.out]; exact .inl ⟨rfl, rfl⟩, by rw [HB.out]; exact HT4.out, by rw [HB.out]; exact HK4.out⟩
    ·have hs : M.sent = false := by simpa using hs
     by_cases hp : M.pongs = 16
     ·have HB : Aside0 (takesM M ⟨2, tx, nd, code⟩ = (badM M 1008, bNote 1008)) := ⟨by unfold takesM; rw [if_neg (show ¬ ((2 : Int) = 5) by decide), if_neg (show ¬ ((2 : Int) = 4) by decide), if_pos rfl]; rw [if_neg (by simp [hs]), if_pos hp]⟩
      simp only [hs]
      rw [hp] at t7
      go_upto_region 10 with fail
      clear x2 t7 tf7 tl7
      go_wp2_with fail
      refine (twrong HT2.out (code := 1008) HKB.out.1 HKB.out.2).mono ?_
      rintro e w3 ⟨rfl, vo', hT3, hK3⟩
      have HT3 := Aside0.mk hT3
      have K13 := Aside0.mk (HK12.out.trans hK3)
      clear hT3 hK3
      have HX3 : Aside0 (w3.heap[W.heap.size]? = some (.cells #[.int .u8 2, .bool tx, .slice A nd.length c, .int .u32 code] 35 (0, 0))) := ⟨(K13.out.keep _ (blk_lt HX1.out) HNX.out).trans HX1.out⟩
      have HR3 : Aside0 (w3.heap[W.heap.size + 1]? = some (.cells #[.int .u8 0, .bool false, .slice none 0 0, .int .u32 0] 35 (0, 0))) := ⟨(K13.out.keep _ (blk_lt HR1.out) HNT.out).trans HR1.out⟩
      have HNF : Aside0 (¬ TF (badM M 1008) ({ I with vo := vo' }) t (W.heap.size + 1)) := ⟨fun hk => (K13.out.new _ hk).elim HNT.out (fun e => by have := blk_lt HR1.out; omega)⟩
      have hne : ∀ q_, q_ ≠ W.heap.size + 1 → ((((w3.setCell ⟨W.heap.size + 1, 0, none⟩ (.int .u8 5)).setCell ⟨W.heap.size + 1, 1, none⟩ (.bool false)).setCell ⟨W.heap.size + 1, 2, none⟩ (.slice none 0 0)).setCell ⟨W.heap.size + 1, 3, none⟩ (.int .u32 1008)).heap[q_]? = w3.heap[q_]? := fun q_ e => heap_sets4 e
      have HT4 := Aside0.mk (HT3.out.move (sets4 HT3.out.bel (show w0.heap.size ≤ W.heap.size + 1 from Nat.le_succ_of_le HLO.out)) (fun k hk => hne k (fun e => HNF.out (e ▸ hk))))
      have HK3 := Aside0.mk (HK1.out.trans K13.out)
      have HK4 : Aside0 (Kf W ((((w3.setCell ⟨W.heap.size + 1, 0, none⟩ (.int .u8 5)).setCell ⟨W.heap.size + 1, 1, none⟩ (.bool false)).setCell ⟨W.heap.size + 1, 2, none⟩ (.slice none 0 0)).setCell ⟨W.heap.size + 1, 3, none⟩ (.int .u32 1008)) (TF M I t) (TF (badM M 1008) ({ I with vo := vo' }) t)) := ⟨⟨Nat.le_trans HK3.out.size (by simp [World.setCell]), fun k hlt hn => (hne k (by omega)).trans (HK3.out.keep k hlt hn), HK3.out.new⟩⟩
      clear hne
      have n_0 : w3.cell? ⟨W.heap.size + 1, 0, none⟩ = some (.int .u8 0) := (blk_cell HR3.out 0).trans rfl
      have n_f0 := blk_frozen HR3.out 0
      have n_1 : w3.cell? ⟨W.heap.size + 1, 1, none⟩ = some (.bool false) := (blk_cell HR3.out 1).trans rfl
      have n_f1 := blk_frozen HR3.out 1
      have n_2 : w3.cell? ⟨W.heap.size + 1, 2, none⟩ = some (.slice none 0 0) := (blk_cell HR3.out 2).trans rfl
      have n_f2 := blk_frozen HR3.out 2
      have n_3 : w3.cell? ⟨W.heap.size + 1, 3, none⟩ = some (.int .u32 0) := (blk_cell HR3.out 3).trans rfl
      have n_f3 := blk_frozen HR3.out 3
      have n_l := blk_lt HR3.out
      go_wp2_with fail
      exact bodyPost_ret (v := .agg #[.int .u8 5, .bool false, .slice none 0 0, .int .u32 1008]) (by simp [results, Tryd.results24, go_sem, n_0, n_1, n_2, n_3]) rfl ⟨_, .slice none 0 0, (by first | (rw [HB.out]; done) | (rw [HB.out]; rfl)), by rw [HB.out]; exact .inr ⟨rfl, rfl⟩, by rw [HB.out]; exact HT4.out, by rw [HB.out]; exact HK4.out⟩
     ·have HB : Aside0 (takesM M ⟨2, tx, nd, code⟩ = (putM { M with pongs := M.pongs + 1 } true 10 nd, ⟨2, tx, nd, code⟩)) := ⟨by unfold takesM; rw [if_neg (show ¬ ((2 : Int) = 5) by decide), if_neg (show ¬ ((2 : Int) = 4) by decide), if_pos rfl]; rw [if_neg (by simp [hs]), if_neg hp]⟩
      simp only [hs]
      have hpb : (M.pongs == 16) = false := beq_eq_false_iff_ne.mpr hp
      have hpw : wrap64 (M.pongs + 1) = M.pongs + 1 := by have := H1.out.ok.pong; unfold wrap64; omega
      go_upto_region 12 with fail
      have h3 := HT2.out.set (M' := { M with pongs := M.pongs + 1 }) 7 (.int .i64 (M.pongs + 1)) rfl rfl rfl { HT2.out.ok with pong := by have := HT2.out.ok.pong; exact ⟨by show 0 ≤ M.pongs + 1; omega, by show M.pongs + 1 ≤ 16; omega⟩ }
      have hz : ∀ k, k ≠ t → (w2.setCell ⟨t, 7, none⟩ (.int .i64 (M.pongs + 1))).heap[k]? = w2.heap[k]? := fun k e => Below.heap_setCell w2 ⟨t, 7, none⟩ _ k e
      have hk3 : Kf w2 (w2.setCell ⟨t, 7, none⟩ (.int .i64 (M.pongs + 1))) (TF M I t) (TF { M with pongs := M.pongs + 1 } I t) := ⟨by simp [World.setCell], fun k _ hn => hz k (fun e => hn (.inl e)), fun k hk => .inl hk⟩
      have hx3 := (hz _ (fun e => HNX.out (.inl e))).trans HX2.out
      generalize w2.setCell ⟨t, 7, none⟩ (.int .i64 (M.pongs + 1)) = w3 at h3 hk3 hx3 ⊢
      clear hz x2 t7 tf7 tl7
      have H3 := Aside0.mk h3
      have HK13 := Aside0.mk (HK12.out.trans hk3)
      have HA3 := Aside0.mk (HA2.out.kf hk3)
      have x2 : w3.cell? ⟨W.heap.size, 2, none⟩ = some (.slice A nd.length c) := (blk_cell hx3 2).trans rfl
      clear h3 hk3 hx3
      go_wp2_with fail
      refine (tput H3.out HA3.out HC.out HBY.out (by decide) (may8 ⟨by decide, by decide⟩ (HPL.out (by first | trivial | rfl))) (.inl rfl) HKB.out.1 HKB.out.2).mono ?_
      rintro e w4 ⟨rfl, vo', hT4, hK4⟩
      have HT3 := Aside0.mk hT4
      have K13 := Aside0.mk (HK13.out.trans hK4)
      clear hT4 hK4 x2
      go_upto_region 13 with fail
      have HX3 : Aside0 (w4.heap[W.heap.size]? = some (.cells #[.int .u8 2, .bool tx, .slice A nd.length c, .int .u32 code] 35 (0, 0))) := ⟨(K13.out.keep _ (blk_lt HX1.out) HNX.out).trans HX1.out⟩
      have HR3 : Aside0 (w4.heap[W.heap.size + 1]? = some (.cells #[.int .u8 0, .bool false, .slice none 0 0, .int .u32 0] 35 (0, 0))) := ⟨(K13.out.keep _ (blk_lt HR1.out) HNT.out).trans HR1.out⟩
      have HNF : Aside0 (¬ TF (putM { M with pongs := M.pongs + 1 } true 10 nd) ({ I with vo := vo' }) t (W.heap.size + 1)) := ⟨fun hk => (K13.out.new _ hk).elim HNT.out (fun e => by have := blk_lt HR1.out; omega)⟩
      have hne : ∀ q_, q_ ≠ W.heap.size + 1 → ((((w4.setCell ⟨W.heap.size + 1, 0, none⟩ (.int .u8 2)).setCell ⟨W.heap.size + 1, 1, none⟩ (.bool tx)).setCell ⟨W.heap.size + 1, 2, none⟩ (.slice A nd.length c)).setCell ⟨W.heap.size + 1, 3, none⟩ (.int .u32 code)).heap[q_]? = w4.heap[q_]? := fun q_ e => heap_sets4 e
      have HT4 := Aside0.mk (HT3.out.move (sets4 HT3.out.bel (show w0.heap.size ≤ W.heap.size + 1 from Nat.le_succ_of_le HLO.out)) (fun k hk => hne k (fun e => HNF.out (e ▸ hk))))
      have HK3 := Aside0.mk (HK1.out.trans K13.out)
      have HK4 : Aside0 (Kf W ((((w4.setCell ⟨W.heap.size + 1, 0, none⟩ (.int .u8 2)).setCell ⟨W.heap.size + 1, 1, none⟩ (.bool tx)).setCell ⟨W.heap.size + 1, 2, none⟩ (.slice A nd.length c)).setCell ⟨W.heap.size + 1, 3, none⟩ (.int .u32 code)) (TF M I t) (TF (putM { M with pongs := M.pongs + 1 } true 10 nd) ({ I with vo := vo' }) t)) := ⟨⟨Nat.le_trans HK3.out.size (by simp [World.setCell]), fun k hlt hn => (hne k (by omega)).trans (HK3.out.keep k hlt hn), HK3.out.new⟩⟩
      clear hne
      have x_0 : w4.cell? ⟨W.heap.size, 0, none⟩ = some (.int .u8 2) := (blk_cell HX3.out 0).trans rfl
      have x_1 : w4.cell? ⟨W.heap.size, 1, none⟩ = some (.bool tx) := (blk_cell HX3.out 1).trans rfl
      have x_2 : w4.cell? ⟨W.heap.size, 2, none⟩ = some (.slice A nd.length c) := (blk_cell HX3.out 2).trans rfl
      have x_3 : w4.cell? ⟨W.heap.size, 3, none⟩ = some (.int .u32 code) := (blk_cell HX3.out 3).trans rfl
      have x_l := blk_lt HX3.out
      have n_0 : w4.cell? ⟨W.heap.size + 1, 0, none⟩ = some (.int .u8 0) := (blk_cell HR3.out 0).trans rfl
      have n_f0 := blk_frozen HR3.out 0
      have n_1 : w4.cell? ⟨W.heap.size + 1, 1, none⟩ = some (.bool false) := (blk_cell HR3.out 1).trans rfl
      have n_f1 := blk_frozen HR3.out 1
      have n_2 : w4.cell? ⟨W.heap.size + 1, 2, none⟩ = some (.slice none 0 0) := (blk_cell HR3.out 2).trans rfl
      have n_f2 := blk_frozen HR3.out 2
      have n_3 : w4.cell? ⟨W.heap.size + 1, 3, none⟩ = some (.int .u32 0) := (blk_cell HR3.out 3).trans rfl
      have n_f3 := blk_frozen HR3.out 3
      have n_l := blk_lt HR3.out
      go_wp2_with fail
      exact bodyPost_ret (v := .agg #[.int .u8 2, .bool tx, .slice A nd.length c, .int .u32 code]) (by simp [results, Tryd.results24, go_sem, n_0, n_1, n_2, n_3]) rfl ⟨_, .slice A nd.length c, (by first | (rw [HB.out]; done) | (rw [HB.out]; rfl)), by rw [HB.out]; exact .inl ⟨rfl, rfl⟩, by rw [HB.out]; exact HT4.out, by rw [HB.out]; exact HK4.out⟩
   ·have b5 : (k == 5) = false := beq_eq_false_iff_ne.mpr k5
    have b4 : (k == 4) = false := beq_eq_false_iff_ne.mpr k4
    have b2 : (k == 2) = false := beq_eq_false_iff_ne.mpr k2
    have HB : Aside0 (takesM M ⟨k, tx, nd, code⟩ = (M, ⟨k, tx, nd, code⟩)) := ⟨by unfold takesM; rw [if_neg k5, if_neg k4, if_neg k2]⟩
    clear k5 k4 k2
    go_upto_region 6 with fail
    have HT3 := H1
    have K13 := Aside0.mk (Kf.refl w1 (TF M I t))
    have HX3 : Aside0 (w1.heap[W.heap.size]? = some (.cells #[.int .u8 k, .bool tx, .slice A nd.length c, .int .u32 code] 35 (0, 0))) := ⟨(K13.out.keep _ (blk_lt HX1.out) HNX.out).trans HX1.out⟩
    have HR3 : Aside0 (w1.heap[W.heap.size + 1]? = some (.cells #[.int .u8 0, .bool false, .slice none 0 0, .int .u32 0] 35 (0, 0))) := ⟨(K13.out.keep _ (blk_lt HR1.out) HNT.out).trans HR1.out⟩
    have HNF : Aside0 (¬ TF (M) (I) t (W.heap.size + 1)) := ⟨fun hk => (K13.out.new _ hk).elim HNT.out (fun e => by have := blk_lt HR1.out; omega)⟩
    have hne : ∀ q_, q_ ≠ W.heap.size + 1 → ((((w1.setCell ⟨W.heap.size + 1, 0, none⟩ (.int .u8 k)).setCell ⟨W.heap.size + 1, 1, none⟩ (.bool tx)).setCell ⟨W.heap.size + 1, 2, none⟩ (.slice A nd.length c)).setCell ⟨W.heap.size + 1, 3, none⟩ (.int .u32 code)).heap[q_]? = w1.heap[q_]? := fun q_ e => heap_sets4 e
    have HT4 := Aside0.mk (HT3.out.move (sets4 HT3.out.bel (show w0.heap.size ≤ W.heap.size + 1 from Nat.le_succ_of_le HLO.out)) (fun k hk => hne k (fun e => HNF.out (e ▸ hk))))
    have HK3 := Aside0.mk (HK1.out.trans K13.out)
    have HK4 : Aside0 (Kf W ((((w1.setCell ⟨W.heap.size + 1, 0, none⟩ (.int .u8 k)).setCell ⟨W.heap.size + 1, 1, none⟩ (.bool tx)).setCell ⟨W.heap.size + 1, 2, none⟩ (.slice A nd.length c)).setCell ⟨W.heap.size + 1, 3, none⟩ (.int .u32 code)) (TF M I t) (TF (M) (I) t)) := ⟨⟨Nat.le_trans HK3.out.size (by simp [World.setCell]), fun k hlt hn => (hne k (by omega)).trans (HK3.out.keep k hlt hn), HK3.out.new⟩⟩
    clear hne
    clear x0 x3 t5 t7
    have x_0 : w1.cell? ⟨W.heap.size, 0, none⟩ = some (.int .u8 k) := (blk_cell HX3.out 0).trans rfl
    have x_1 : w1.cell? ⟨W.heap.size, 1, none⟩ = some (.bool tx) := (blk_cell HX3.out 1).trans rfl
    have x_2 : w1.cell? ⟨W.heap.size, 2, none⟩ = some (.slice A nd.length c) := (blk_cell HX3.out 2).trans rfl
    have x_3 : w1.cell? ⟨W.heap.size, 3, none⟩ = some (.int .u32 code) := (blk_cell HX3.out 3).trans rfl
    have x_l := blk_lt HX3.out
    have n_0 : w1.cell? ⟨W.heap.size + 1, 0, none⟩ = some (.int .u8 0) := (blk_cell HR3.out 0).trans rfl
    have n_f0 := blk_frozen HR3.out 0
    have n_1 : w1.cell? ⟨W.heap.size + 1, 1, none⟩ = some (.bool false) := (blk_cell HR3.out 1).trans rfl
    have n_f1 := blk_frozen HR3.out 1
    have n_2 : w1.cell? ⟨W.heap.size + 1, 2, none⟩ = some (.slice none 0 0) := (blk_cell HR3.out 2).trans rfl
    have n_f2 := blk_frozen HR3.out 2
    have n_3 : w1.cell? ⟨W.heap.size + 1, 3, none⟩ = some (.int .u32 0) := (blk_cell HR3.out 3).trans rfl
    have n_f3 := blk_frozen HR3.out 3
    have n_l := blk_lt HR3.out
    go_wp2_with fail
    exact bodyPost_ret (v := .agg #[.int .u8 k, .bool tx, .slice A nd.length c, .int .u32 code]) (by simp [results, Tryd.results24, go_sem, n_0, n_1, n_2, n_3]) rfl ⟨_, .slice A nd.length c, (by first | (rw [HB.out]; done) | (rw [HB.out]; rfl)), by rw [HB.out]; exact .inl ⟨rfl, rfl⟩, by rw [HB.out]; exact HT4.out, by rw [HB.out]; exact HK4.out⟩
end Go.Proofs.YtpmeapdcjmaeiaaDoor
namespace Go.Proofs.YtpmeapdcjmaeiaaDoor
open Go.RowKit Go.Proofs.YtpmeapdcjmaeiaaDoorW.PrintWords Go.Proofs.YtpmeapdcjmaeiaaDoorW.PrintLast Go.Proofs.YtpmeapdcjmaeiaaDoorW.PrintMore Go.Proofs.YtpmeapdcjmaeiaaDoor.PAll Go.Proofs.YtpmeapdcjmaeiaaDoor.U
def TM.wl (N : TM) (l : List Int) (s : Bool) : TM := { N with l := l, sbad := s }
theorem send_wl (N : TM) (l : List Int) (s : Bool) (d : List Int) : sendM (N.wl l s) d = (sendM N d).wl l s := by
 unfold sendM
 show (if N.sent = true then _ else _) = _
 split
 ·rfl
 ·rfl
theorem bad_wl (N : TM) (l : List Int) (s : Bool) (c : Int) : badM (N.wl l s) c = (badM N c).wl l s := by
 unfold badM
 show (if N.cause ≠ 0 then _ else _) = _
 split
 ·rfl
 ·exact send_wl { N with cause := 2, ecode := c } l s _
theorem got_wl (N : TM) (l : List Int) (s : Bool) (c : Int) : gotM (N.wl l s) c = (gotM N c).wl l s := by
 unfold gotM
 show (if N.cause ≠ 0 then _ else _) = _
 split
 ·rfl
 ·have := send_wl { N with got := true, code := c } l s (dataC c (⟨#[]⟩ : ByteArray))
  show ({ sendM (({ N with got := true, code := c } : TM).wl l s) (dataC c (⟨#[]⟩ : ByteArray)) with cause := 1, ecode := c } : TM) = _
  rw [this]
  rfl
theorem takes_wl (N : TM) (l : List Int) (s : Bool) (n : Nt) : takesM (N.wl l s) n = ((takesM N n).1.wl l s, (takesM N n).2) := by
 unfold takesM
 split
 ·rw [bad_wl]
 ·split
  ·rw [got_wl]
  ·split
   ·show (if N.sent = true then _ else (if N.pongs = 16 then _ else _)) = _
    split
    ·rfl
    ·split
     ·rw [bad_wl]
     ·rfl
   ·rfl
section
variable {w0 W W' : World} {t : Nat} {M : TM} {I : TI}
theorem Tn.setSplit (h : Tn w0 W t M I) {v' : Value} {sb' : Bool} {l' : List Int} (hsp : Sp w0 W' I.sg v' (!M.cl) sb' l') (hB : Below w0.heap.size w0 W') (hs : W.heap.size ≤ W'.heap.size) (hk : ∀ k, k < W.heap.size → k ≠ I.sg → I.vs.ownBlock ≠ some k → W'.heap[k]? = W.heap[k]?) (hv : ∀ k, v'.ownBlock = some k → I.vs.ownBlock = some k ∨ W.heap.size ≤ k) (h1 : l'.length ≤ 4110) (h2 : l'.all isByte = true) : Tn w0 W' t (M.wl l' sb') { I with vs := v' } ∧ Kf W W' (TF M I t) (TF (M.wl l' sb') { I with vs := v' } t) := by
 have hb := h.sp.blk
 have e1 : ∀ k, k < W.heap.size → k ≠ I.sg → I.vs.ownBlock ≠ some k → W'.heap[k]? = W.heap[k]? := hk
 have nvs : ∀ {g : Nat} {cs : Array Value} {ty : TypeId}, W.heap[g]? = some (.cells cs ty (0, 0)) → 5 ≠ ty → I.vs.ownBlock ≠ some g := fun hg hne e => row_at_ne (d := 0) h.sp.row hg hne e rfl
 have hgf : ∀ k, GF I.v I.u M.over I.gg k → k ≠ I.sg ∧ I.vs.ownBlock ≠ some k := fun k hk => by
  refine ⟨fun e => h.gf_ne hb (by decide) (by decide) (by decide) (e ▸ hk), fun e => ?_⟩
  obtain ⟨c, hc⟩ := Kd.R_typed h.sp.row k e
  rcases hk with rfl | ⟨ho, e2 | e2⟩
  ·obtain ⟨_, _, _, _, _, hb'⟩ := h.gt.blk
   exact blk_ne hc hb' (by decide) rfl
  ·exact (h.a2 ho k e2).2 e
  ·rcases h.gt.st with ⟨_, h4, _⟩ | ⟨h4, _⟩
   ·obtain ⟨c2, hc2⟩ := h4.gw.uty k e2
    exact blk_ne hc hc2 (by decide) rfl
   ·rw [ho] at h4; cases h4
 have hks : ∀ k, I.vk.ownBlock = some k → k ≠ I.sg ∧ I.vs.ownBlock ≠ some k := fun k e => ⟨row_at_ne (d := 0) h.ks hb (by decide) e, fun e2 => by
  obtain ⟨c, hc⟩ := Kd.R_typed h.ks k e
  exact row_at_ne (d := 0) h.sp.row hc (by decide) e2 rfl⟩
 have hou : ∀ k, I.vo.ownBlock = some k → k ≠ I.sg ∧ I.vs.ownBlock ≠ some k := fun k e => ⟨row_at_ne (d := 0) h.out hb (by decide) e, fun e2 => h.a1 k e2 e⟩
 have hvn : ∀ k, v'.ownBlock = some k → k < W.heap.size → I.vs.ownBlock = some k := fun k e hlt => (hv k e).elim id (fun h => by omega)
 refine ⟨⟨hB, (e1 t (blk_lt h.blk) h.ts (nvs h.blk (by decide))).trans h.blk, h.base, row_keep32 h.ks (fun k e => e1 k (Kd.R_lt h.ks k e) (hks k e).1 (hks k e).2), hsp, h.sbase, h.gt.move hB (fun k e => e1 k (h.gt.lt e) (hgf k e).1 (hgf k e).2), ⟨(e1 _ (blk_lt h.dr.1) h.sd.symm (nvs h.dr.1 (by decide))).trans h.dr.1, h.dr.2⟩, row_keep8 h.out (fun k e => e1 k (Kd.R_lt h.out k e) (hou k e).1 (hou k e).2), fun k e e2 => h.a1 k (hvn k e (Kd.R_lt h.out k e2)) e2, fun ho k e => ⟨(h.a2 ho k e).1, fun e2 => (h.a2 ho k e).2 (hvn k e2 (h.gt.lt (.inr ⟨ho, .inl e⟩)))⟩, { h.ok with llen := h1, lbyt := h2 }⟩, ⟨hs, fun k hlt hn => e1 k hlt (fun e => hn (.inr (.inl e))) (fun e => hn (.inr (.inr (.inr (.inr (.inl e)))))), fun k hk => ?_⟩⟩
 rcases hk with hk | hk | hk | hk | hk | hk | hk
 ·exact .inl (.inl hk)
 ·exact .inl (.inr (.inl hk))
 ·exact .inl (.inr (.inr (.inl hk)))
 ·exact .inl (.inr (.inr (.inr (.inl hk))))
 ·exact (hv k hk).imp_left (fun e => .inr (.inr (.inr (.inr (.inl e)))))
 ·exact .inl (.inr (.inr (.inr (.inr (.inr (.inl hk))))))
 ·exact .inl (.inr (.inr (.inr (.inr (.inr (.inr hk))))))
theorem Tn.feed (h : Tn w0 W t M I) {l' : List Int} {n : Int} {e : Ending} (hp : FeedPost w0 I.sg I.vs (!M.cl) l' n W e W') (h1 : l'.length ≤ 4110) (h2 : l'.all isByte = true) : ∃ v', e = .returned (.int .i64 n) ∧ Tn w0 W' t (M.wl l' false) { I with vs := v' } ∧ Kf W W' (TF M I t) (TF (M.wl l' false) { I with vs := v' } t) := by
 obtain ⟨v', he, hsp, hB, hs, hk, hv⟩ := hp
 exact ⟨v', he, h.setSplit hsp hB hs (fun k a b c => hk k a b (fun e => c e.symm)) (fun k e => hv.elim (fun e1 => .inl (e1 ▸ e)) (fun ⟨b, e1, h3⟩ => .inr (by rw [e1] at e; injection e with e; omega))) h1 h2⟩
theorem Tn.nextf (h : Tn w0 W t M I) {d s5 : List Int} {s1 s3 : Bool} {s2 s4 : Int} {e : Ending} (hp : NextPost w0 I.sg (!M.cl) d s1 s2 s3 s4 s5 W e W') (h1 : d.length ≤ 4110) (h2 : d.all isByte = true) : ∃ v' pv, e = .returned (.tuple #[.agg #[.bool s1, .int .u8 s2, .bool s3, .int .u32 s4, pv], .agg #[.int .u8 0, .int .u32 0], .bool true]) ∧ Tn w0 W' t (M.wl d false) { I with vs := v' } ∧ Kf W W' (TF M I t) (TF (M.wl d false) { I with vs := v' } t) ∧ Kd.R (Kd.int .u8) 5 W' W.heap.size (fun _ => True) pv s5 ∧ (∀ k, pv.ownBlock = some k → ¬ TF (M.wl d false) { I with vs := v' } t k) := by
 obtain ⟨v', pv, he, hsp, hr, hpv, hB, hk, hne⟩ := hp
 have hsz : W.heap.size ≤ W'.heap.size := by
  rcases Nat.lt_or_ge W'.heap.size W.heap.size with hl | hl
  ·exfalso
   have hsg := blk_lt hsp.blk
   have hz : W'.heap.size ≠ I.sg := by omega
   have := hk W'.heap.size hl hz
   rw [Array.getElem?_eq_none (Nat.le_refl _), Array.getElem?_eq_getElem hl] at this
   cases this
  ·exact hl
 obtain ⟨a, b⟩ := h.setSplit hsp hB hsz (fun k x y _ => hk k x y) (fun k e => .inr (Kd.R_base hr k e)) h1 h2
 refine ⟨v', pv, he, a, b, hpv, fun k e hk2 => ?_⟩
 have hge := Kd.R_base hpv k e
 have hold : TF M I t k → False := fun hh => by have := h.lt hh; omega
 rcases hk2 with h3 | h3 | h3 | h3 | h3 | h3 | h3
 ·exact hold (.inl h3)
 ·exact hold (.inr (.inl h3))
 ·exact hold (.inr (.inr (.inl h3)))
 ·exact hold (.inr (.inr (.inr (.inl h3))))
 ·exact hne k e h3
 ·exact hold (.inr (.inr (.inr (.inr (.inr (.inl h3))))))
 ·exact hold (.inr (.inr (.inr (.inr (.inr (.inr h3))))))
theorem Tn.nextb (h : Tn w0 W t M I) {c : Int} {e : Ending} (hp : NextBad w0 I.sg (!M.cl) c W e W') : e = .returned (.tuple #[.agg #[.bool false, .int .u8 0, .bool false, .int .u32 0, .slice none 0 0], .agg #[.int .u8 3, .int .u32 c], .bool true]) ∧ Tn w0 W' t (M.wl [] true) { I with vs := .slice none 0 0 } ∧ Kf W W' (TF M I t) (TF (M.wl [] true) { I with vs := .slice none 0 0 } t) := by
 obtain ⟨he, hsp, hB, hk⟩ := hp
 have hsz : W.heap.size ≤ W'.heap.size := by
  rcases Nat.lt_or_ge W'.heap.size W.heap.size with hl | hl
  ·exfalso
   have hsg := blk_lt hsp.blk
   have := hk W'.heap.size hl (by omega)
   rw [Array.getElem?_eq_none (Nat.le_refl _), Array.getElem?_eq_getElem hl] at this
   cases this
  ·exact hl
 exact ⟨he, h.setSplit hsp hB hsz (fun k x y _ => hk k x y) (fun k e => by cases e) (by decide) rfl⟩
theorem Imq.te {g gu : Nat} {v u : Value} {b f : List Int} {busy te te2 over : Bool} (h : Imq w0 W g v u b busy te over gu f) (ht : over = false → te2 = te) : Imq w0 W g v u b busy te2 over gu f := by
 cases over with
 | false => rw [ht rfl]; exact h
 | true =>
  refine ⟨h.bel, h.base, ?_⟩
  rcases h.st with ⟨h1, _⟩ | ⟨h1, h2, h3, bu, te1, u1, h4⟩
  ·cases h1
  ·exact .inr ⟨rfl, h2, h3, bu, te1, u1, h4⟩
theorem Tn.take (h : Tn w0 W t M I) {p : Pc} (hby : ∀ x ∈ p.f4, 0 ≤ x ∧ x ≤ 255) {b' nd : List Int} {busy' te' over' tx ok : Bool} {kind code : Int} {v' u' vn : Value} {gu' : Nat} {f' : List Int} (hq : TakeQ w0 W I.gg I.v I.u M.b M.busy M.te M.over p.f0 p.f1 p.f4 W' b' busy' te' over' kind tx code nd ok v' u' gu' f' vn) :
  (gF M.b M.busy M.te M.over p.f0 p.f1 p.f4).2.2.2.2.1 = ⟨kind, tx, nd, code⟩ ∧ (gF M.b M.busy M.te M.over p.f0 p.f1 p.f4).2.2.2.2.2 = ok ∧ Tn w0 W' t (M.wg p) { I with v := v', u := u', gu := gu', f := f' } ∧ Kf W W' (TF M I t) (TF (M.wg p) { I with v := v', u := u', gu := gu', f := f' } t) ∧ (∀ k, vn.ownBlock = some k → ¬ TF (M.wg p) { I with v := v', u := u', gu := gu', f := f' } t k) := by
 obtain ⟨te2, hgf, hte⟩ := hq.stp.fn
 obtain ⟨hnob, hbyt, hblen⟩ := hq.stp.stays h.ok.nob h.ok.byt hby h.ok.blen
 have hMo : (M.wg p).over = over' := by unfold TM.wg; rw [hgf]
 have hMG : M.wg p = { M with b := b', busy := busy', te := te2, over := over' } := by unfold TM.wg; rw [hgf]
 have hst := hq.keep
 have gfne : ∀ {k : Nat} {cs : Array Value} {ty : TypeId}, W.heap[k]? = some (.cells cs ty (0, 0)) → ty ≠ 74 → ty ≠ 144 → ty ≠ 5 → ¬ GF I.v I.u M.over I.gg k := fun hb a b c => h.gf_ne hb a b c
 have rowne : ∀ {v : Value} {xs : List Int}, Kd.R (Kd.int .u8) 5 W w0.heap.size (fun _ => True) v xs → (M.over = false → ∀ k, I.v.ownBlock = some k → v.ownBlock ≠ some k) → ∀ k, v.ownBlock = some k → ¬ GF I.v I.u M.over I.gg k := fun hr hne k e => byte_gf h.gt hr e (fun ho e2 => hne ho k e2 e)
 have hvo := rowne h.out (fun ho k e => (h.a2 ho k e).1)
 have hvs := rowne h.sp.row (fun ho k e => (h.a2 ho k e).2)
 have hkey : ∀ k, I.vk.ownBlock = some k → ¬ GF I.v I.u M.over I.gg k := fun k e => by
  obtain ⟨c, hc⟩ := Kd.R_typed h.ks k e
  exact gfne hc (by decide) (by decide) (by decide)
 have oldrow : ∀ k, (I.vo.ownBlock = some k ∨ I.vs.ownBlock = some k) → ¬ GF v' u' over' I.gg k := fun k e hk => by
  have hlt : k < W.heap.size := e.elim (Kd.R_lt h.out k) (Kd.R_lt h.sp.row k)
  have hn : ¬ GF I.v I.u M.over I.gg k := e.elim (hvo k) (hvs k)
  exact (hq.new k hk).elim hn (fun e => by omega)
 refine ⟨by rw [hgf], by rw [hgf], ?_, ?_, ?_⟩
 ·rw [hMG]
  refine ⟨hq.imp.bel, (hst t (blk_lt h.blk) (gfne h.blk (by decide) (by decide) (by decide))).trans h.blk, h.base, row_keep32 h.ks (fun k e => hst k (Kd.R_lt h.ks k e) (hkey k e)), ⟨(hst _ (blk_lt h.sp.blk) (gfne h.sp.blk (by decide) (by decide) (by decide))).trans h.sp.blk, row_keep8 h.sp.row (fun k e => hst k (Kd.R_lt h.sp.row k e) (hvs k e))⟩, h.sbase, hq.imp.te hte, ⟨(hst _ (blk_lt h.dr.1) (gfne h.dr.1 (by decide) (by decide) (by decide))).trans h.dr.1, h.dr.2⟩, row_keep8 h.out (fun k e => hst k (Kd.R_lt h.out k e) (hvo k e)), h.a1, fun ho k e => ⟨fun e2 => oldrow k (.inl e2) (.inr ⟨ho, .inl e⟩), fun e2 => oldrow k (.inr e2) (.inr ⟨ho, .inl e⟩)⟩, { h.ok with nob := hnob, blen := hblen, byt := hbyt }⟩
 ·rw [hMG]
  refine ⟨hq.size, fun k hlt hn => hst k hlt (fun e => hn (.inr (.inr (.inr (.inl e))))), fun k hk => ?_⟩
  rcases hk with hk | hk | hk | hk | hk | hk | hk
  ·exact .inl (.inl hk)
  ·exact .inl (.inr (.inl hk))
  ·exact .inl (.inr (.inr (.inl hk)))
  ·exact (hq.new k hk).imp_left (fun e => .inr (.inr (.inr (.inl e))))
  ·exact .inl (.inr (.inr (.inr (.inr (.inl hk)))))
  ·exact .inl (.inr (.inr (.inr (.inr (.inr (.inl hk))))))
  ·exact .inl (.inr (.inr (.inr (.inr (.inr (.inr hk))))))
 ·intro k e hk
  rw [hMG] at hk
  have hbt : ¬ GF v' u' over' I.gg k := hq.row.1 k e
  obtain ⟨c, hc⟩ := Kd.R_typed hq.row k e
  have hnew := hq.note k e
  have ty : ∀ {g : Nat} {cs : Array Value} {ty : TypeId}, W.heap[g]? = some (.cells cs ty (0, 0)) → ty ≠ 74 → ty ≠ 144 → ty ≠ 5 → k ≠ g := fun hg a b c2 e2 => by
   subst e2
   have h2 := (hst k (blk_lt hg) (gfne hg a b c2)).trans hg
   rw [hc] at h2
   injection h2 with h2
   injection h2 with _ h2 _
   exact c2 h2.symm
  have rw_ : ∀ {v : Value} {xs : List Int}, Kd.R (Kd.int .u8) 5 W w0.heap.size (fun _ => True) v xs → (∀ k, v.ownBlock = some k → ¬ GF I.v I.u M.over I.gg k) → v.ownBlock ≠ some k := fun hr hn e2 => hnew.elim (hn k e2) (fun h3 => by have := Kd.R_lt hr k e2; omega)
  rcases hk with hk | hk | hk | hk | hk | hk | hk
  ·exact ty h.blk (by decide) (by decide) (by decide) hk
  ·exact ty h.sp.blk (by decide) (by decide) (by decide) hk
  ·exact ty h.dr.1 (by decide) (by decide) (by decide) hk
  ·exact hbt hk
  ·exact rw_ h.sp.row hvs hk
  ·exact rw_ h.out hvo hk
  ·obtain ⟨c2, hc2⟩ := Kd.R_typed h.ks k hk
   exact ty hc2 (by decide) (by decide) (by decide) rfl
end
end Go.Proofs.YtpmeapdcjmaeiaaDoor
namespace Go.Proofs.YtpmeapdcjmaeiaaDoor
open Go.RowKit Go.Proofs.YtpmeapdcjmaeiaaDoorW.PrintWords Go.Proofs.YtpmeapdcjmaeiaaDoorW.PrintLast Go.Proofs.YtpmeapdcjmaeiaaDoorW.PrintMore Go.Proofs.YtpmeapdcjmaeiaaDoor.PAll Go.Proofs.YtpmeapdcjmaeiaaDoor.U
theorem head_small {l : List Int} {m : Bool} (h : (headF l m).2.2.2 = 0) (ht : (headF l m).2.2.1 = false) (h8 : 8 ≤ rd l 0 % 16) : (headF l m).2.1 ≤ 125 := by
 unfold headF at h ht ⊢
 split
 ·show (0 : Int) ≤ 125; decide
 ·rename_i a1
  rw [if_neg a1] at h ht
  split
  ·show (0 : Int) ≤ 125; decide
  ·rename_i a2
   rw [if_neg a2] at h ht
   split
   ·show (0 : Int) ≤ 125; decide
   ·rename_i a3
    rw [if_neg a3] at h ht
    split
    ·show (0 : Int) ≤ 125; decide
    ·rename_i a4
     rw [if_neg a4] at h ht
     have h126 : rd l 1 % 128 < 126 := by
      rcases Int.lt_or_le (rd l 1 % 128) 126 with hh | hh
      ·exact hh
      ·exact absurd (.inr ⟨h8, hh⟩) a4
     have hl : lenF l = (rd l 1 % 128, 2, false, 0) := by
      unfold lenF
      rw [if_neg (by omega), if_neg (by omega)]
     rw [hl]
     simp only
     split
     ·show (0 : Int) ≤ 125; decide
     ·split
      ·show (0 : Int) ≤ 125; decide
      ·split
       ·show (0 : Int) ≤ 125; decide
       ·show rd l 1 % 128 ≤ 125
        omega
theorem frame_piece {l : List Int} {m : Bool} (h : IsFr l m) (hl : l.all isByte = true) : (8 ≤ (pieceOf (l.take (size1 l m)) m).f1 → (pieceOf (l.take (size1 l m)) m).f4.length ≤ 125) ∧ (pieceOf (l.take (size1 l m)) m).f4.length ≤ 4096 ∧ (∀ x ∈ (pieceOf (l.take (size1 l m)) m).f4, Byte x) ∧ 2 ≤ size1 l m := by
 have hcut := h.cut hl
 obtain ⟨m1, m2, m3, m4, m5⟩ := h.min hl
 have hr := h.room
 have hlen : (l.take (size1 l m)).length = size1 l m := by rw [List.length_take]; omega
 have hraw : (rawOf (l.take (size1 l m)) m).length = (headF l m).2.1.toNat := by
  unfold rawOf
  rw [List.length_drop, hlen, hcut]
  omega
 have hd : (dataOf (l.take (size1 l m)) m).length = (headF l m).2.1.toNat := by
  unfold dataOf
  split
  ·rw [turned_len, hraw]
  ·exact hraw
 have hb : ∀ x ∈ rawOf (l.take (size1 l m)) m, Byte x := fun x hx => by
  have h1 := take_byte hl (size1 l m)
  have h2 := drop_byte h1 (headF (l.take (size1 l m)) m).1.toNat
  rw [List.all_eq_true] at h2
  exact isByte_iff.1 (h2 x hx)
 refine ⟨fun h8 => ?_, ?_, fun x hx => ?_, by omega⟩
 ·have h8' : 8 ≤ rd (l.take (size1 l m)) 0 % 16 := h8
  have hs := head_small (l := l.take (size1 l m)) (m := m) (by rw [hcut]; exact h.code) (by rw [hcut]; exact h.told) h8'
  rw [hcut] at hs
  show (dataOf _ _).length ≤ 125
  rw [hd]
  omega
 ·show (dataOf _ _).length ≤ 4096
  rw [hd]
  omega
 ·have hx' : x ∈ dataOf (l.take (size1 l m)) m := hx
  unfold dataOf at hx'
  split at hx'
  ·exact turned_byte _ _ hb x hx'
  ·exact hb x hx'
theorem putL_small {op : Int} {mk : Bool} {key : Int} {d : List Int} (hd : d.length ≤ 125) : (putL true op mk key d).length ≤ 131 := by
 have h1 : (if d.length < 126 then ([] : List Int) else [(d.length : Int) / 256 % 256, (d.length : Int) % 256]) = [] := if_pos (by omega)
 unfold putL
 rw [h1]
 have hk : (PAll.keyOf key).length = 4 := rfl
 cases mk with
 | true =>
  simp only [List.nil_append, List.length_cons, if_true, List.length_append, turned_len]
  omega
 | false =>
  simp only [List.nil_append, List.length_cons, if_neg (show ¬ (false = true) by decide)]
  omega
structure Grow (N N' : TM) : Prop where
 cl : N'.cl = N.cl
 keys : N'.keys = N.keys
 key : N'.key ≤ N.key + 1
 out : N'.out.length ≤ N.out.length + 131
theorem Grow.refl (N : TM) : Grow N N := ⟨rfl, rfl, by omega, by omega⟩
theorem put_grow (N : TM) (op : Int) (d : List Int) (hd : d.length ≤ 125) : Grow N (putM N true op d) := by
 refine ⟨rfl, rfl, ?_, ?_⟩
 ·show N.key' ≤ N.key + 1
  unfold TM.key'
  split
  ·split <;> omega
  ·omega
 ·show (N.out ++ putL true op N.cl N.nkey d).length ≤ _
  rw [List.length_append]
  have := putL_small (op := op) (mk := N.cl) (key := N.nkey) hd
  omega
theorem send_grow (N : TM) (d : List Int) (hd : d.length ≤ 125) : Grow N (sendM N d) := by
 unfold sendM
 split
 ·exact Grow.refl N
 ·have := put_grow { N with sent := true } 8 d hd
  exact ⟨this.cl, this.keys, this.key, this.out⟩
theorem bad_grow (N : TM) (c : Int) : Grow N (badM N c) := by
 unfold badM
 split
 ·exact Grow.refl N
 ·have := send_grow { N with cause := 2, ecode := c } _ (dataE_len c)
  exact ⟨this.cl, this.keys, this.key, this.out⟩
theorem got_grow (N : TM) (c : Int) : Grow N (gotM N c) := by
 unfold gotM
 split
 ·exact Grow.refl N
 ·have := send_grow { N with got := true, code := c } _ (dataE_len c)
  exact ⟨this.cl, this.keys, this.key, this.out⟩
theorem takes_grow (N : TM) (n : Nt) (hn : n.f0 = 2 → n.f2.length ≤ 125) : Grow N (takesM N n).1 := by
 unfold takesM
 split
 ·exact bad_grow N _
 ·split
  ·exact got_grow N _
  ·split
   ·rename_i h2
    split
    ·exact Grow.refl N
    ·split
     ·exact bad_grow N _
     ·have := put_grow { N with pongs := N.pongs + 1 } 10 n.f2 (hn h2)
      exact ⟨this.cl, this.keys, this.key, this.out⟩
   ·exact Grow.refl N
theorem closeM_kind (d : List Int) : (closeM d).1 = 4 ∨ (closeM d).1 = 5 := by
 unfold closeM
 split
 ·exact .inl rfl
 ·exact .inr rfl
 ·split
  ·split
   ·exact .inl rfl
   ·exact .inr rfl
  ·exact .inr rfl
theorem note_two (N : TM) (p : Pc) (h : (N.note p).f0 = 2) : (N.note p).f2 = p.f4 ∧ p.f1 = 9 := by
 unfold TM.note gF at h ⊢
 split
 ·rename_i a; rw [if_pos a] at h; exact absurd h (by show ¬ (0 : Int) = 2; decide)
 ·rename_i a
  rw [if_neg a] at h
  split
  ·rename_i a1
   rw [if_pos a1] at h
   split
   ·rename_i a2; rw [if_pos a2] at h; exact absurd h (by show ¬ (5 : Int) = 2; decide)
   ·rename_i a2
    rw [if_neg a2] at h
    split
    ·rename_i a3; rw [if_pos a3] at h; exact absurd h (by show ¬ (1 : Int) = 2; decide)
    ·rename_i a3; rw [if_neg a3] at h; exact absurd h (by show ¬ (0 : Int) = 2; decide)
  ·rename_i a1
   rw [if_neg a1] at h
   split
   ·rename_i a2
    rw [if_pos a2] at h
    have h' : (closeM p.f4).1 = 2 := h
    rcases closeM_kind p.f4 with e | e <;> rw [e] at h' <;> exact absurd h' (by decide)
   ·rename_i a2
    rw [if_neg a2] at h
    split
    ·rename_i a3; exact ⟨rfl, a3⟩
    ·rename_i a3
     rw [if_neg a3] at h
     split
     ·rename_i a4; rw [if_pos a4] at h; exact absurd h (by show ¬ (3 : Int) = 2; decide)
     ·rename_i a4; rw [if_neg a4] at h; exact absurd h (by show ¬ (5 : Int) = 2; decide)
theorem take_grow (N : TM) (p : Pc) (hp : 8 ≤ p.f1 → p.f4.length ≤ 125) : Grow N (takeM N p).1 ∧ (takeM N p).2.length ≤ 1 := by
 have hn : (N.note p).f0 = 2 → (N.note p).f2.length ≤ 125 := fun h => by
  obtain ⟨e1, e2⟩ := note_two N p h
  rw [e1]
  exact hp (by omega)
 unfold takeM
 split
 ·have := takes_grow (N.wg p) (N.note p) hn
  exact ⟨⟨this.cl, this.keys, this.key, this.out⟩, Nat.le_refl _⟩
 ·exact ⟨⟨rfl, rfl, by show N.key ≤ _; omega, by show N.out.length ≤ _; omega⟩, Nat.zero_le _⟩
theorem closeM_bytes {d : List Int} (hd : ∀ x ∈ d, 0 ≤ x ∧ x ≤ 255) : ∀ x ∈ (closeM d).2.1, 0 ≤ x ∧ x ≤ 255 := by
 intro x hx
 unfold closeM at hx
 split at hx
 ·cases hx
 ·cases hx
 ·rename_i a b r
  split at hx
  ·split at hx
   ·exact hd x (List.mem_cons_of_mem _ (List.mem_cons_of_mem _ hx))
   ·cases hx
  ·cases hx
theorem Stp.bytes {b b' nd d : List Int} {busy te over fin busy' te' over' tx ok : Bool} {op kind code : Int} (hs : Stp b busy te over fin op d b' busy' te' over' kind tx code nd ok) (hb8 : ∀ x ∈ b, 0 ≤ x ∧ x ≤ 255) (hd8 : ∀ x ∈ d, 0 ≤ x ∧ x ≤ 255) : ∀ x ∈ nd, 0 ≤ x ∧ x ≤ 255 := by
 cases hs with
 | told h ho hc hf => exact fun x hx => (List.mem_append.1 hx).elim (hb8 x) (hd8 x)
 | ping h ho => exact hd8
 | pong h ho => exact hd8
 | close h ho tn => exact closeM_bytes hd8
 | over h => exact fun x hx => (by cases hx)
 | more h ho hc hf => exact fun x hx => (by cases hx)
 | part h ho hc tn => exact fun x hx => (by cases hx)
 | other h ho tn => exact fun x hx => (by cases hx)
theorem runM_end (N : TM) (ps : List Pc) (cd : Int) (h : N.cause ≠ 0) : runM N ps cd = (N, []) := by
 cases ps with
 | nil => unfold runM; rw [if_pos h]
 | cons p ps => unfold runM; rw [if_pos h]
theorem runM_bad (N : TM) (cd : Int) (h : N.cause = 0) (hc : cd ≠ 0) : runM N [] cd = (badM N cd, [bNote cd]) := by
 unfold runM; rw [if_neg (by rw [h]; decide), if_pos hc]
theorem runM_stop (N : TM) (h : N.cause = 0) : runM N [] 0 = (N, []) := by
 unfold runM; rw [if_neg (by rw [h]; decide), if_neg (by decide)]
theorem runM_cons (N : TM) (p : Pc) (ps : List Pc) (cd : Int) (h : N.cause = 0) : runM N (p :: ps) cd = ((runM (takeM N p).1 ps cd).1, (takeM N p).2 ++ (runM (takeM N p).1 ps cd).2) := by
 conv => lhs; unfold runM
 rw [if_neg (by rw [h]; decide)]
theorem bad_cause (N : TM) (c : Int) : (badM N c).cause ≠ 0 := by
 unfold badM
 split
 ·assumption
 ·unfold sendM
  split
  ·show (2 : Int) ≠ 0; decide
  ·show (2 : Int) ≠ 0; decide
end Go.Proofs.YtpmeapdcjmaeiaaDoor
