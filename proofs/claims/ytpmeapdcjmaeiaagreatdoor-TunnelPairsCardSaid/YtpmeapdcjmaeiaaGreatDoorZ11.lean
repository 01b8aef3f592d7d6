/- What the law's row rests on, part 11. -/
import Derived.Test.YtpmeapdcjmaeiaaGreatDoorZ10
import Derived.RegionTactic
import Derived.Deep.DeepCutAuto
import Derived.Deep.CutBlock
import Derived.Outline
import Derived.Deep.RegionHeld3
import Derived.Deep.LoopGhost
set_option linter.unusedVariables false
set_option linter.unusedSimpArgs false
set_option maxRecDepth 100000
set_option maxHeartbeats 16000000
namespace Go.Proofs.YtpmeapdcjmaeiaaGreatDoor
open Go.RowKit Go.Wa Go.Wb Go.Wc PAll U
def Ap (W : World) (F : Nat → Prop) (A : Option Addr) (d : List Int) : Prop := ∀ W', W.heap.size ≤ W'.heap.size → (∀ k, k < W.heap.size → ¬ F k → W'.heap[k]? = W.heap[k]?) → Kd.C (Kd.int .u8) W' A d.length d
theorem Ap.C {W : World} {F : Nat → Prop} {A : Option Addr} {d : List Int} (h : Ap W F A d) : Kd.C (Kd.int .u8) W A d.length d := h W (Nat.le_refl _) (fun _ _ _ => rfl)
theorem Ap.kf {W W' : World} {F F' : Nat → Prop} {A : Option Addr} {d : List Int} (h : Ap W F A d) (hk : Kf W W' F F') : Ap W' F' A d := fun W2 hs h2 => h W2 (Nat.le_trans hk.size hs) (fun k hlt hn => (h2 k (Nat.lt_of_lt_of_le hlt hk.size) (fun e => (hk.new k e).elim hn (fun e => by omega))).trans (hk.keep k hlt hn))
theorem Ap.below {W W' : World} {F : Nat → Prop} {A : Option Addr} {d : List Int} (h : Ap W F A d) (hb : Below W.heap.size W W') : Ap W' F A d := fun W2 hs h2 => h W2 (Nat.le_trans hb.size hs) (fun k hlt hn => (h2 k (Nat.lt_of_lt_of_le hlt hb.size) hn).trans (hb.block k hlt))
theorem Ap.of_row {W : World} {F : Nat → Prop} {A : Option Addr} {n c base : Nat} {d : List Int} {ok : Nat → Prop} (h : Kd.R (Kd.int .u8) 5 W base ok (.slice A n c) d) (hF : ∀ k, (Value.slice A n c).ownBlock = some k → ¬ F k) : Ap W F A d := fun W' hs hk => by
 have h1 := row_keep h (fun k e => hk k (Kd.R_lt h k e) (hF k e))
 exact (Kd.R_reads' h1).2.2
theorem Ap.of_low {w0 W : World} {F : Nat → Prop} {A : Option Addr} {d : List Int} (h : Kd.C (Kd.int .u8) w0 A d.length d) (hb : Below w0.heap.size w0 W) (hF : ∀ k, F k → w0.heap.size ≤ k) : Ap W F A d := fun W' hs hk => by
 have hr : ReadsInt w0 .u8 A d.length d := Kd.reads_of_C h
 by_cases hn : 0 < d.length
 ·obtain ⟨ad, rfl, hc⟩ := hr.2.2 hn
  have h0 := hc 0 hn
  have hl : ad.block < w0.heap.size := by
   have := World.block_lt_of_cell? w0 _ h0
   rwa [add_block] at this
  exact C_at h ((hk ad.block (Nat.lt_of_lt_of_le hl hb.size) (fun e => by have := hF _ e; omega)).trans (hb.block _ hl))
 ·have hd : d = [] := List.length_eq_zero_iff.1 (by omega)
  subst hd
  exact C_zero A W'
theorem key_le {M : TM} (h : M.Ok) : 0 ≤ M.key' ∧ M.key' ≤ M.key + 1 := by
 have := h.key0
 unfold TM.key'
 split
 ·split <;> omega
 ·omega
theorem Ok.key {M : TM} (h : M.Ok) : TM.Ok { M with key := M.key' } := { h with key0 := (key_le h).1 }
theorem putL_le {fin : Bool} {op : Int} {mk : Bool} {key : Int} {d : List Int} (h0 : 0 ≤ op) (hd : ∀ x ∈ d, Byte x) (hM : mayB fin op mk key d = true) : (putL fin op mk key d).length ≤ 4104 := by
 have h1 := putL_len (fin := fin) (op := op) (mask := mk) (key := key) (d := d) h0 hd hM
 have h2 := ((mayB_iff ..).1 hM).2.2.1
 have h3 : frontOf mk d.length ≤ 8 := by unfold frontOf; cases mk <;> split <;> simp
 omega
theorem putL_Byte {fin : Bool} {op : Int} {mk : Bool} {key : Int} {d : List Int} (h0 : 0 ≤ op) (hd : ∀ x ∈ d, Byte x) (hM : mayB fin op mk key d = true) : ∀ x ∈ putL fin op mk key d, 0 ≤ x ∧ x ≤ 255 := fun x hx => by
 have := putL_bytes (fin := fin) (op := op) (mask := mk) (key := key) (d := d) h0 hd hM
 rw [List.all_eq_true] at this
 exact isByte_iff.1 (this x hx)
theorem tput {w0 W : World} {t : Nat} {M : TM} {I : TI} (h : Tn w0 W t M I) {fin : Bool} {op : Int} {mk : Bool} {A : Option Addr} {c : Nat} {d : List Int} (hd : Ap W (TF M I t) A d) (hc : d.length ≤ c) (hby : ∀ x ∈ d, Byte x) (h0 : 0 ≤ op) (hM : mayB fin op M.cl M.nkey d = true) (hmk : mk = false ∨ mk = M.cl) (hkb : M.key < 9223372036854775807) (hol : M.out.length ≤ 1000000) : Calls Tryz.prog 38 #[.pointer (some ⟨t, 0, none⟩), .agg #[.bool fin, .int .u8 op, .bool mk, .int .u32 0, .slice A d.length c]] W (fun e w' => e = .returned (.tuple #[]) ∧ ∃ vo', Tn w0 w' t (putM M fin op d) { I with vo := vo' } ∧ Kf W w' (TF M I t) (TF (putM M fin op d) { I with vo := vo' } t)) := by
 have HMK := a_ hmk
 have H0 := a_ h0
 have HOL := a_ hol
 have HRL := a_ (putL_le h0 hby hM)
 clear hmk h0 hol
 have hu81 := Tryz.underlying81
 have HM := a_ hM
 have HA := a_ hd
 have HC := a_ hc
 have HBY := a_ hby
 have HH := a_ h
 have HKB := a_ hkb
 have h1 := h.below (below_alloc (Below.refl W.heap.size W) (.cells #[.bool fin, .int .u8 op, .bool mk, .int .u32 0, .slice A d.length c] 81))
 have hp1 : (W.alloc (.cells #[.bool fin, .int .u8 op, .bool mk, .int .u32 0, .slice A d.length c] 81)).heap[W.heap.size]? = some (.cells #[.bool fin, .int .u8 op, .bool mk, .int .u32 0, .slice A d.length c] 81 (0, 0)) := last_at _ _ _ rfl
 have hk1 : Kf W (W.alloc (.cells #[.bool fin, .int .u8 op, .bool mk, .int .u32 0, .slice A d.length c] 81)) (TF M I t) (TF M I t) := (Kf.refl W _).below (below_alloc (Below.refl _ _) _)
 obtain ⟨Ak, ck, ek⟩ := Kd.R_slice h.ks
 clear hM hd hc hby h hkb
 go_enter Tryz.func38, Tryz.ntmps38
 go_upto_region 1 with fail
 generalize W.alloc (.cells #[.bool fin, .int .u8 op, .bool mk, .int .u32 0, .slice A d.length c] 81) = W1 at h1 hp1 hk1 ⊢
 have H1 := a_ h1
 have HP1 := a_ hp1
 have HK1 := a_ hk1
 have hb1 := h1.blk
 unfold tcells at hb1
 rw [ek] at hb1
 obtain ⟨t_0, t_f0, t_1, t_f1, t_2, t_f2⟩ := xf3_ hb1
 have t_l := blk_lt hb1
 obtain ⟨-, -, -, -, p_2, p_f2, p_3, p_f3⟩ := xf4_ hp1
 have p_l := blk_lt hp1
 clear h1 hp1 hk1 hb1
 have hpt : W.heap.size ≠ t := by have := blk_lt HH.out.blk; omega
 go_upto_if 7 with fail
 go_cut [0, 3] (fun tv pv wc => tv = .pointer (some ⟨t, 0, none⟩) ∧ pv = .pointer (some ⟨W.heap.size, 0, none⟩) ∧ Tn w0 wc t { M with key := M.key' } I ∧ wc.heap[W.heap.size]? = some (.cells #[.bool fin, .int .u8 op, .bool M.cl, .int .u32 M.nkey, .slice A d.length c] 81 (0, 0)) ∧ Kf W wc (TF M I t) (TF { M with key := M.key' } I t))
 case first =>
  by_cases hcl : M.cl = false
  ·rw [hcl] at t_0
   have hmk : mk = false := by rcases HMK.out with h | h <;> simp [h, hcl]
   subst hmk
   simp only [hcl]
   go_wp2_with fail
   have ek' : M.key' = M.key := by unfold TM.key'; rw [hcl]; rfl
   have en : M.nkey = 0 := by unfold TM.nkey; rw [hcl]; rfl
   go_meet
   case rel =>
    exact ⟨rfl, rfl, by rw [ek']; exact H1.out, by rw [en, hcl]; exact HP1.out, by rw [ek']; exact HK1.out⟩
  ·have hcl : M.cl = true := by simpa using hcl
   rw [hcl] at t_0
   simp only [hcl]
   have hp2 : (W1.setCell ⟨W.heap.size, 2, none⟩ (.bool true)).heap[W.heap.size]? = some (.cells #[.bool fin, .int .u8 op, .bool true, .int .u32 0, .slice A d.length c] 81 (0, 0)) := blk_put HP1.out 2 _ rfl
   have hs2 : ∀ k, k ≠ W.heap.size → (W1.setCell ⟨W.heap.size, 2, none⟩ (.bool true)).heap[k]? = W1.heap[k]? := fun k e => Below.heap_setCell W1 ⟨W.heap.size, 2, none⟩ _ k e
   have hB2 := Below.setCell H1.out.bel (p := ⟨W.heap.size, 2, none⟩) (show w0.heap.size ≤ W.heap.size from HH.out.bel.size) (.bool true)
   have h2 := H1.out.move hB2 (fun k hk => hs2 k (fun e => by have := HH.out.lt hk; omega))
   have hk2 : Kf W (W1.setCell ⟨W.heap.size, 2, none⟩ (.bool true)) (TF M I t) (TF M I t) := ⟨Nat.le_trans HK1.out.size (by simp [World.setCell]), fun k hlt hn => (hs2 k (by omega)).trans (HK1.out.keep k hlt hn), fun k hk => .inl hk⟩
   by_cases hkl : 0 < M.keys.length
   ·go_upto_region 3 with fail
    generalize W1.setCell ⟨W.heap.size, 2, none⟩ (.bool true) = W2 at hp2 h2 hk2 hB2 ⊢
    clear hs2 t_0 t_1 t_2 t_f0 t_f1 t_f2 t_l p_2 p_3 p_f2 p_f3 p_l
    have hb2 := h2.blk
    unfold tcells at hb2
    rw [ek] at hb2
    obtain ⟨s_0, s_f0, s_1, s_f1, s_2, s_f2⟩ := xf3_ hb2
    have s_l := blk_lt hb2
    obtain ⟨-, -, -, -, -, -, q_3, q_f3⟩ := xf4_ hp2
    have q_l := blk_lt hp2
    have hks := h2.ks
    rw [ek] at hks
    have hq0 : 0 ≤ Int.tmod M.key (M.keys.length : Int) := Int.tmod_nonneg _ HH.out.ok.key0
    have hq1 : Int.tmod M.key (M.keys.length : Int) < (M.keys.length : Int) := Int.tmod_lt_of_pos _ (by omega)
    obtain ⟨ad, ead, hx⟩ := Kd.at_int (Kd.R_reads' hks).2.2 (Int.tmod M.key (M.keys.length : Int)) hq0 hq1
    subst ead
    have hx' : W2.cell? (ad.add (Int.tmod M.key (M.keys.length : Int)).toNat) = some (.int .u32 (rd M.keys (Int.tmod M.key (M.keys.length : Int)))) := hx
    have HE := a_ ek
    have H2 := a_ h2
    have HP2 := a_ hp2
    have HK2 := a_ hk2
    have HR2 := a_ hks
    clear ek h2 hp2 hk2 hks hb2
    have hkz : ((M.keys.length : Int) == 0) = false := nb_ (by omega)
    have hkn : ¬ M.keys = [] := fun e => by rw [e] at hkl; exact absurd hkl (by decide)
    have hkl' : (0 : Int) < (M.keys.length : Int) := by omega
    go_upto_region 4 with fail
    go_region
    go_upto_region 5 with fail
    have hs3 : ∀ k, k ≠ W.heap.size → (W2.setCell ⟨W.heap.size, 3, none⟩ (.int .u32 (rd M.keys (Int.tmod M.key (M.keys.length : Int))))).drew.heap[k]? = W2.heap[k]? := fun k e => Below.heap_setCell W2 ⟨W.heap.size, 3, none⟩ _ k e
    have hp3 : (W2.setCell ⟨W.heap.size, 3, none⟩ (.int .u32 (rd M.keys (Int.tmod M.key (M.keys.length : Int))))).drew.heap[W.heap.size]? = some (.cells #[.bool fin, .int .u8 op, .bool true, .int .u32 (rd M.keys (Int.tmod M.key (M.keys.length : Int))), .slice A d.length c] 81 (0, 0)) := blk_drew (blk_put HP2.out 3 _ rfl)
    have hB3 := below_drew (Below.setCell H2.out.bel (p := ⟨W.heap.size, 3, none⟩) (show w0.heap.size ≤ W.heap.size from HH.out.bel.size) (.int .u32 (rd M.keys (Int.tmod M.key (M.keys.length : Int)))))
    have h3 := H2.out.move hB3 (fun k hk => hs3 k (fun e => by have := HH.out.lt hk; omega))
    have hk3 : Kf W (W2.setCell ⟨W.heap.size, 3, none⟩ (.int .u32 (rd M.keys (Int.tmod M.key (M.keys.length : Int))))).drew (TF M I t) (TF M I t) := ⟨Nat.le_trans HK2.out.size (show W2.heap.size ≤ (W2.setCell ⟨W.heap.size, 3, none⟩ _).heap.size by simp [World.setCell]), fun k hlt hn => (hs3 k (by omega)).trans (HK2.out.keep k hlt hn), fun k hk => .inl hk⟩
    generalize (W2.setCell ⟨W.heap.size, 3, none⟩ (.int .u32 (rd M.keys (Int.tmod M.key (M.keys.length : Int))))).drew = W3 at h3 hp3 hk3 hB3 ⊢
    clear hs3 hB2 hB3 s_0 s_1 s_2 s_f0 s_f1 s_f2 s_l q_3 q_f3 q_l hx hx' hq0 hq1 hkz hkl'
    have H3 := a_ h3
    have HP3 := a_ hp3
    have HK3 := a_ hk3
    obtain ⟨-, -, -, -, z_2, z_f⟩ := xf3_ h3.blk
    have z_l := blk_lt h3.blk
    have hw : wrap64 (M.key + 1) = M.key + 1 := by have := HKB.out; have := HH.out.ok.key0; unfold wrap64; omega
    clear h3 hp3 hk3
    go_wp2_with fail
    have ek' : M.key' = M.key + 1 := by unfold TM.key'; rw [if_pos hcl, if_pos hkl]
    have en : M.nkey = rd M.keys (Int.tmod M.key (M.keys.length : Int)) := by unfold TM.nkey; rw [if_pos hcl, if_pos hkl]
    have hz : ∀ k, k ≠ t → (W3.setCell ⟨t, 2, none⟩ (.int .i64 (M.key + 1))).heap[k]? = W3.heap[k]? := fun k e => Below.heap_setCell W3 ⟨t, 2, none⟩ _ k e
    go_meet
    case rel =>
     exact ⟨rfl, rfl, H3.out.set 2 _ (by rw [ek']; rfl) rfl rfl (Ok.key HH.out.ok), by rw [en, hcl]; exact (hz _ hpt).trans HP3.out, ⟨Nat.le_trans HK3.out.size (by simp [World.setCell]), fun k hlt hn => (hz k (fun e => hn (.inl e))).trans (HK3.out.keep k hlt hn), fun k hk => .inl hk⟩⟩
   ·have hkn : M.keys.length = 0 := by omega
    rw [hkn] at t_1
    go_wp2_with fail
    have ek' : M.key' = M.key := by unfold TM.key'; rw [if_pos hcl, if_neg hkl]
    have en : M.nkey = 0 := by unfold TM.nkey; rw [if_pos hcl, if_neg hkl]
    go_meet
    case rel =>
     exact ⟨rfl, rfl, by rw [ek']; exact h2, by rw [en, hcl]; exact hp2, by rw [ek']; exact hk2⟩
 case rest =>
  clear ek
  obtain ⟨rfl, rfl, hT, hP, hK⟩ := hcut
  have H6 := a_ hT
  have HP6 := a_ hP
  have HK6 := a_ hK
  obtain ⟨Ao, co, eo⟩ := Kd.R_slice hT.out
  clear hT hP hK
  go_upto_region 6 with fail
  have hb6 := H6.out.blk
  unfold tcells at hb6
  have EO := a_ eo
  obtain ⟨no, hno⟩ : ∃ n, n = M.out.length := ⟨_, rfl⟩
  have HNO := a_ hno
  rw [show I.vo = .slice Ao no co by rw [hno]; exact eo] at hb6
  clear eo hno
  have c6 : wc.cell? ⟨t, 6, none⟩ = some (.slice Ao no co) := (blk_cell hb6 6).trans rfl
  clear hb6
  obtain ⟨d0, d1, d2, d3, d4⟩ := xl5_ HP6.out
  have hinfo : (Tryz.prog.info? 5).map (fun i => (i.zero, i.size, i.bytes)) = some (some (.int .u8 0), 1, 1) := by kernel_rfl
  have HI := a_ hinfo
  clear hinfo
  refine start_ (n := 11) (S := fun w' => w'.cell? ⟨t, 6, none⟩ = some (.slice Ao no co) ∧ w'.cell? ⟨W.heap.size, 0, none⟩ = some (.bool fin) ∧ w'.cell? ⟨W.heap.size, 1, none⟩ = some (.int .u8 op) ∧ w'.cell? ⟨W.heap.size, 2, none⟩ = some (.bool M.cl) ∧ w'.cell? ⟨W.heap.size, 3, none⟩ = some (.int .u32 M.nkey) ∧ w'.cell? ⟨W.heap.size, 4, none⟩ = some (.slice A d.length c)) (ds := [10]) #[false, false, false, false, false, false, false, false, false, false, false] (by kernel_rfl) rfl rfl (⟨c6, d0, d1, d2, d3, d4⟩) (fun hHeld => ?_)
  refine pureP 0 39 ?_
  refine pureP 1 40 ?_
  refine pureP 2 41 ?_
  refine pureP 3 42 ?_
  refine take_ (i := 4) (N := (some 43)) (v := ?_) (a' := ?_) #[true, true, true, true, true, false, false, false, false, false, false] rfl rfl (by kernel_rfl) (fun _ _ _ h => h) (Or.inl ⟨by rfl, ?_⟩) hHeld ?_ ?_
  rotate_left
  ·rintro w' ⟨s0, s1, s2, s3, s4, s5⟩
   go_simp
   first | done | with_reducible rfl
  rotate_left
  ·simp only [Act.put, z1_, z2_, z3_, i64_w, i32_w]
   rfl
  refine take_ (i := 5) (N := (some 44)) (v := ?_) (a' := ?_) #[true, true, true, true, true, true, false, false, false, false, false] rfl rfl (by kernel_rfl) (fun _ _ _ h => h) (Or.inl ⟨by rfl, ?_⟩) hHeld ?_ ?_
  rotate_left
  ·rintro w' ⟨s0, s1, s2, s3, s4, s5⟩
   go_simp
   first | done | with_reducible rfl
  rotate_left
  ·simp only [Act.put, z1_, z2_, z3_, i64_w, i32_w]
   rfl
  refine one_ (i := 6) (N := (some 45)) #[true, true, true, true, true, true, true, false, false, false, false] rfl rfl (by kernel_rfl) (by decide) (fun K hK => ?_)
  go_simp
  go_at_call 37
  refine (wsframe_Put.calls (d.length + 10) fin op M.cl M.nkey A c d (putL fin op M.cl M.nkey d) _ (Ap.C (HA.out.kf (HK6.out.below (below_drew (Below.refl _ _))))) HC.out (put_f fin op M.cl M.nkey d H0.out HM.out _ (Nat.le_refl _))).mono ?_
  rintro e w7 ⟨v7, rfl, hr7, hb7⟩
  have hb7' : Below wc.heap.size wc w7 := below_step (below_drew (Below.refl _ _)) hb7
  have H7 := a_ (H6.out.below hb7')
  have HP7 := a_ (blk_below HP6.out hb7')
  have HK7 := a_ (HK6.out.below hb7')
  obtain ⟨A7, c7, rfl⟩ := Kd.R_slice hr7
  obtain ⟨nr, hnr⟩ : ∃ n, n = (putL fin op M.cl M.nkey d).length := ⟨_, rfl⟩
  have HR7 := a_ hr7
  have HNR := a_ hnr
  rw [← hnr]
  clear hr7 hb7 hb7' hnr c6 d0 d1 d2 d3 d4 hHeld
  have hb6 := H7.out.blk
  unfold tcells at hb6
  rw [show I.vo = .slice Ao no co by rw [HNO.out]; exact EO.out] at hb6
  have c6 : w7.cell? ⟨t, 6, none⟩ = some (.slice Ao no co) := (blk_cell hb6 6).trans rfl
  clear hb6
  obtain ⟨d0, d1, d2, d3, d4⟩ := xl5_ HP7.out
  refine hK.out _ _ (⟨c6, d0, d1, d2, d3, d4⟩) (fun hHeld => ?_)
  clear hK K
  refine one_ (i := 7) (N := (some 46)) #[true, true, true, true, true, true, true, true, false, false, false] rfl rfl (by kernel_rfl) (by decide) (fun K hK => ?_)
  refine Kd.R_append_rows_step (Kd.int .u8) (w0 := w0) w0.heap.size (by rfl) (.tmp 43) (.tmp 45) 27 5 (.int .u8 0) 1 rfl Tryz.underlying27 HI.out rfl (by decide) (by omega) (.slice Ao no co) M.out (putL fin op M.cl M.nkey d) _ _ _ (fun _ => True) (fun _ => False) rfl rfl ?aO ?aR (fun _ _ h => h) (fun _ h => h.elim) ?aF ?aB ?aS ?aL ?_
  (case aO => exact (show I.vo = .slice Ao no co by rw [HNO.out]; exact EO.out) ▸ H7.out.out)
  (case aR => rw [HNR.out]; exact (Kd.R_reads' HR7.out).2.2)
  (case aF => exact fun _ _ => trivial)
  (case aB => exact H7.out.bel)
  (case aS => exact H7.out.bel.size)
  (case aL => have := HOL.out; have := HRL.out; have := HNR.out; omega)
  intro v1 w8 ho hb hg1 hat
  obtain ⟨A1, c1, e1⟩ := Kd.R_slice ho
  obtain ⟨mm, hmm⟩ : ∃ mm, mm = (M.out ++ putL fin op M.cl M.nkey d).length := ⟨_, rfl⟩
  rw [← hmm] at e1
  clear hmm
  subst e1
  have HG8 : Aside0 (w7.grownBy w8 I.vo.ownBlock) := ⟨by rw [show I.vo = .slice Ao no co by rw [HNO.out]; exact EO.out]; exact hg1⟩
  have hvt : (Value.slice Ao no co).ownBlock ≠ some t := by rw [← (show I.vo = .slice Ao no co by rw [HNO.out]; exact EO.out)]; exact fun e => row_at_ne (d := 0) H7.out.out H7.out.blk (by decide) e rfl
  have hvp : (Value.slice Ao no co).ownBlock ≠ some W.heap.size := by rw [← (show I.vo = .slice Ao no co by rw [HNO.out]; exact EO.out)]; exact fun e => row_at_ne (d := 0) H7.out.out HP7.out (by decide) e rfl
  have hk1 := (hg1.block t (blk_lt H7.out.blk) (fun e => hvt e.symm)).trans H7.out.blk
  have hk2 := (hg1.block W.heap.size (blk_lt HP7.out) (fun e => hvp e.symm)).trans HP7.out
  unfold tcells at hk1
  rw [show I.vo = .slice Ao no co by rw [HNO.out]; exact EO.out] at hk1
  obtain ⟨-, -, -, -, -, -, -, -, -, -, -, -, g6, gf6⟩ := xf7_ hk1
  have gl := blk_lt hk1
  obtain ⟨f0, f1, f2, f3, f4⟩ := xl5_ hk2
  have hAT : (Value.slice A1 mm c1).ownBlock = I.vo.ownBlock ∨ ∃ k, (Value.slice A1 mm c1).ownBlock = some k ∧ w7.heap.size ≤ k := by rw [show I.vo = .slice Ao no co by rw [HNO.out]; exact EO.out]; exact hat
  have HF := a_ (H7.out.appOut HG8.out hb ho hAT (fun x hx => (List.mem_append.1 hx).elim (HH.out.ok.obyt x) (putL_Byte H0.out HBY.out HM.out x)))
  clear ho hb hg1 hat hAT hk1 hk2 hvt hvp c6 d0 d1 d2 d3 d4
  refine hK.out _ _ (⟨g6, f0, f1, f2, f3, f4⟩) (fun hHeld => ?_)
  clear hK K
  refine norm_ (a' := ?_) ?_ ?_
  rotate_left
  ·show Act.put _ (some 46) _ = _
   simp only [Act.put, z1_, z2_, z3_, i64_w, i32_w]
   rfl
  refine pureP 8 47 ?_
  refine pureP 9 48 ?_
  refine last_ (i := 10) (N := none) #[true, true, true, true, true, true, true, true, true, true, true] rfl rfl (by kernel_rfl) (by decide) (fun K hK => ?_)
  go_simp
  refine hK.out _ _ ?_
  clear hK K
  refine done_ (by kernel_rfl) ?_
  generalize w8.setCell ⟨t, 6, none⟩ (.slice A1 mm c1) = w9 at HF ⊢
  clear g6 gf6 gl f0 f1 f2 f3 f4
  go_wp2_with fail
  exact bodyPost_end (v := .tuple #[]) (by simp [results, Tryz.results38, go_sem]) rfl ⟨rfl, _, HF.out.1, HK7.out.trans HF.out.2⟩
theorem dataE (code : Int) : dataC code (⟨#[]⟩ : ByteArray) = if toldB code = true then [code / 256 % 256, code % 256] else [] := by
 unfold dataC
 have e : bs (wholeC (⟨#[]⟩ : ByteArray)) = [] := by decide
 rw [e, List.append_nil]
theorem dataE_len (code : Int) : (dataC code (⟨#[]⟩ : ByteArray)).length ≤ 125 := by
 rw [dataE]; split <;> simp
theorem dataE_byte (code : Int) : ∀ x ∈ dataC code (⟨#[]⟩ : ByteArray), Byte x := by
 rw [dataE]
 intro x hx
 split at hx
 ·simp only [List.mem_cons, List.not_mem_nil, or_false] at hx
  rcases hx with rfl | rfl <;> exact ⟨by omega, by omega⟩
 ·cases hx
theorem may8 {M : TM} {op : Int} {d : List Int} (hop : 8 ≤ op ∧ op ≤ 10) (hl : d.length ≤ 125) : mayB true op M.cl M.nkey d = true := by
 refine (mayB_iff ..).2 ⟨.inr hop, ?_, by omega, .inr ⟨rfl, by omega⟩⟩
 unfold TM.nkey
 cases M.cl with
 | true => exact .inl rfl
 | false => exact .inr rfl
theorem tshut_yes {w0 W : World} {t : Nat} {M : TM} {I : TI} (h : Tn w0 W t M I) {fin : Bool} {op : Int} {A : Option Addr} {c : Nat} {d : List Int} (hd : Ap W (TF M I t) A d) (hc : d.length ≤ c) (hby : ∀ x ∈ d, Byte x) (h0 : 0 ≤ op) (hM : mayB fin op M.cl M.nkey d = true) (hkb : M.key < 9223372036854775807) (hol : M.out.length ≤ 1000000) : Calls Tryz.prog 47 #[.pointer (some ⟨t, 0, none⟩), .agg #[.bool fin, .int .u8 op, .bool false, .int .u32 0, .slice A d.length c], .bool true] W (fun e w' => e = .returned (.tuple #[]) ∧ ∃ vo', Tn w0 w' t (putM M fin op d) { I with vo := vo' } ∧ Kf W w' (TF M I t) (TF (putM M fin op d) { I with vo := vo' } t)) := by
 have hu81 := Tryz.underlying81
 have HM := a_ (And.intro h0 hM)
 have HA := a_ (And.intro hd hc)
 have HBY := a_ hby
 have HH := a_ h
 have HKB := a_ (And.intro hkb hol)
 clear hM h0 hd hc hby h hkb hol
 go_enter Tryz.func47, Tryz.ntmps47
 go_wp2_with fail
 refine (tput (HH.out.below (below_alloc (Below.refl _ _) _)) (HA.out.1.below (below_alloc (Below.refl _ _) _)) HA.out.2 HBY.out HM.out.1 HM.out.2 (.inl rfl) HKB.out.1 HKB.out.2).mono ?_
 rintro e w2 ⟨rfl, vo', hT, hK⟩
 have HT := a_ hT
 have HK := a_ (hK.from (below_alloc (Below.refl _ _) _))
 clear hT hK
 go_wp2_with fail
 exact bodyPost_end (v := .tuple #[]) (by simp [results, Tryz.results47, go_sem]) rfl ⟨rfl, _, HT.out, HK.out⟩
theorem tshut_no {W : World} {t : Nat} {b0 b2 : Bool} {b1 b3 : Int} {v : Value} (hv : v.oneCell' = true) : Calls Tryz.prog 47 #[.pointer (some ⟨t, 0, none⟩), .agg #[.bool b0, .int .u8 b1, .bool b2, .int .u32 b3, v], .bool false] W (fun e w' => e = .returned (.tuple #[]) ∧ Below W.heap.size W w') := by
 have hu81 := Tryz.underlying81
 go_enter Tryz.func47, Tryz.ntmps47
 go_wp2_with fail
 exact bodyPost_end (v := .tuple #[]) (by simp [results, Tryz.results47, go_sem]) rfl ⟨rfl, below_alloc (Below.refl _ _) _⟩
theorem twrong {w0 W : World} {t : Nat} {M : TM} {I : TI} (h : Tn w0 W t M I) {code : Int} (hkb : M.key < 9223372036854775807) (hol : M.out.length ≤ 1000000) : Calls Tryz.prog 43 #[.pointer (some ⟨t, 0, none⟩), .int .u32 code] W (fun e w' => e = .returned (.agg #[.int .u8 5, .bool false, .slice none 0 0, .int .u32 code]) ∧ ∃ vo', Tn w0 w' t (badM M code) { I with vo := vo' } ∧ Kf W w' (TF M I t) (TF (badM M code) { I with vo := vo' } t)) := by
 have hu37 := Tryz.underlying37
 have hu81 := Tryz.underlying81
 have HKB := a_ (And.intro hkb hol)
 have hf96 := True.intro
 have h1 := h.below (below_alloc (Below.refl W.heap.size W) (.cells #[.int .u8 0, .bool false, .slice none 0 0, .int .u32 0] 37))
 have hn1 : (W.alloc (.cells #[.int .u8 0, .bool false, .slice none 0 0, .int .u32 0] 37)).heap[W.heap.size]? = some (.cells #[.int .u8 0, .bool false, .slice none 0 0, .int .u32 0] 37 (0, 0)) := last_at _ _ _ rfl
 have HK1 := a_ ((Kf.refl W (TF M I t)).below (below_alloc (Below.refl W.heap.size W) (.cells #[.int .u8 0, .bool false, .slice none 0 0, .int .u32 0] 37)))
 have HNT := a_ (fun e : TF M I t W.heap.size => Nat.lt_irrefl _ (h.lt e))
 have HLO := a_ h.bel.size
 clear h hkb hol
 go_enter Tryz.func43, Tryz.ntmps43
 go_upto_region 1 with fail
 generalize (W.alloc (.cells #[.int .u8 0, .bool false, .slice none 0 0, .int .u32 0] 37)) = w1 at h1 hn1 HK1 ⊢
 have H1 := a_ h1
 have HN1 := a_ hn1
 have t5 : w1.cell? ⟨t, 5, none⟩ = some (.pointer (some ⟨I.dg, 0, none⟩)) := (blk_cell h1.blk 5).trans rfl
 clear h1 hn1
 go_wp2_with fail
 by_cases hca : M.cause = 0
 ·by_cases hs : M.sent = true
  ·have HB : Aside0 ({ M with sent := M.sent, got := M.got, code := M.code, cause := 2, ecode := code } = badM M code) := ⟨by unfold badM sendM; rw [if_neg (by simpa using hca), if_pos hs]⟩
   refine (closing_Door_Bad.calls 7000 I.dg M.sent M.got M.code M.cause M.ecode code false 0 false 0 [] false M.sent M.got M.code 2 code w0 _ H1.out.dr H1.out.bel (by unfold closing_Door_Bad.f closing_Door_Through.f closing_Door_End.f; simp only [Option.bind_some]; rw [hca, hs]; rfl)).mono ?_
   rintro e w2 ⟨v4, rfl, hr4, hI2, hB2, hK2⟩
   obtain ⟨A4, c4, rfl⟩ := Kd.R_slice hr4
   obtain ⟨hT2, hK12⟩ := H1.out.setDoor hI2 hB2 hK2
   have HT2 := a_ hT2
   have HK12 := a_ hK12
   clear hr4 hI2 hB2 hK2 hT2 hK12 t5
   go_wp2_with fail
   refine (tshut_no rfl).mono ?_
   rintro e w3 ⟨rfl, hb3⟩
   have HT3 := a_ (HT2.out.below hb3)
   have K13 := a_ (HK12.out.below hb3)
   clear hb3 HT2 HK12
   go_upto_region 2 with fail
   have HN3 : Aside0 (w3.heap[W.heap.size]? = some (.cells #[.int .u8 0, .bool false, .slice none 0 0, .int .u32 0] 37 (0, 0))) := ⟨(K13.out.keep _ (blk_lt HN1.out) HNT.out).trans HN1.out⟩
   have HNF : Aside0 (¬ TF ({ M with sent := M.sent, got := M.got, code := M.code, cause := 2, ecode := code }) (I) t W.heap.size) := ⟨fun hk => (K13.out.new _ hk).elim HNT.out (fun e => by have := blk_lt HN1.out; omega)⟩
   have hne : ∀ k, k ≠ W.heap.size → ((((w3.setCell ⟨W.heap.size, 0, none⟩ (.int .u8 5)).setCell ⟨W.heap.size, 1, none⟩ (.bool false)).setCell ⟨W.heap.size, 2, none⟩ (.slice none 0 0)).setCell ⟨W.heap.size, 3, none⟩ (.int .u32 code)).heap[k]? = w3.heap[k]? := fun k e => heap_sets4 e
   have HT4 := a_ (HT3.out.move (sets4 HT3.out.bel HLO.out) (fun k hk => hne k (fun e => HNF.out (e ▸ hk))))
   have HK3 := a_ (HK1.out.trans K13.out)
   have HK4 : Aside0 (Kf W ((((w3.setCell ⟨W.heap.size, 0, none⟩ (.int .u8 5)).setCell ⟨W.heap.size, 1, none⟩ (.bool false)).setCell ⟨W.heap.size, 2, none⟩ (.slice none 0 0)).setCell ⟨W.heap.size, 3, none⟩ (.int .u32 code)) (TF M I t) (TF ({ M with sent := M.sent, got := M.got, code := M.code, cause := 2, ecode := code }) (I) t)) := ⟨⟨Nat.le_trans HK3.out.size (by simp [World.setCell]), fun k hlt hn => (hne k (by omega)).trans (HK3.out.keep k hlt hn), HK3.out.new⟩⟩
   clear hne
   obtain ⟨n_0, n_f0, n_1, n_f1, n_2, n_f2, n_3, n_f3⟩ := xf4_ HN3.out
   have n_l := blk_lt HN3.out
   go_wp2_with fail
   exact bodyPost_ret (v := .agg #[.int .u8 5, .bool false, .slice none 0 0, .int .u32 code]) (by simp [results, Tryz.results43, go_sem, n_0, n_1, n_2, n_3]) rfl ⟨rfl, _, HB.out ▸ HT4.out, HB.out ▸ HK4.out⟩
  ·have hs : M.sent = false := by simpa using hs
   have HB : Aside0 (putM { M with sent := true, got := M.got, code := M.code, cause := 2, ecode := code } true 8 (dataC code (⟨#[]⟩ : ByteArray)) = badM M code) := ⟨by unfold badM sendM; rw [if_neg (by simpa using hca), if_neg (by simp [hs])]⟩
   have hbr : message_Close.f 7000 code (⟨#[]⟩ : ByteArray) = some (true, 8, false, 0, dataC code (⟨#[]⟩ : ByteArray)) := bears code _ (by decide) 7000 (Nat.le_refl _)
   refine (closing_Door_Bad.calls 7000 I.dg M.sent M.got M.code M.cause M.ecode code true 8 false 0 (dataC code (⟨#[]⟩ : ByteArray)) true true M.got M.code 2 code w0 _ H1.out.dr H1.out.bel (by unfold closing_Door_Bad.f closing_Door_Through.f closing_Door_End.f; simp only [Option.bind_some]; rw [hca, hs]; unfold closing_Door_send.f; rw [hbr]; rfl)).mono ?_
   rintro e w2 ⟨v4, rfl, hr4, hI2, hB2, hK2⟩
   obtain ⟨A4, c4, rfl⟩ := Kd.R_slice hr4
   obtain ⟨hT2, hK12⟩ := H1.out.setDoor hI2 hB2 hK2
   have HA2 := a_ (Ap.of_row (F := TF { M with sent := true, got := M.got, code := M.code, cause := 2, ecode := code } I t) hr4 (fun k e hk => (hK12.new k hk).elim (fun e2 => by have := H1.out.lt e2; have := Kd.R_base hr4 k e; omega) (fun e2 => by
    have := hT2.lt hk
    have h3 := Kd.R_base hr4 k e
    exact absurd (H1.out.lt (show TF M I t k from hk)) (by omega))))
   have HC2 := a_ (Kd.R_reads' hr4).2.1
   have HT2 := a_ hT2
   have HK12 := a_ hK12
   clear hr4 hI2 hB2 hK2 hT2 hK12 t5 hbr
   obtain ⟨dd, hdd⟩ : ∃ dd, dd = dataC code (⟨#[]⟩ : ByteArray) := ⟨_, rfl⟩
   have HDL : Aside0 (dd.length ≤ 125 ∧ ∀ x ∈ dd, Byte x) := ⟨by rw [hdd]; exact ⟨dataE_len code, dataE_byte code⟩⟩
   rw [← hdd] at HA2 HC2 HB ⊢
   clear hdd
   go_wp2_with fail
   refine (tshut_yes HT2.out HA2.out HC2.out HDL.out.2 (by decide) (may8 ⟨by decide, by decide⟩ HDL.out.1) HKB.out.1 HKB.out.2).mono ?_
   rintro e w3 ⟨rfl, vo', hT3, hK23⟩
   have HT3 := a_ hT3
   have K13 := a_ (HK12.out.trans hK23)
   clear hT3 hK23 HT2 HK12
   go_upto_region 2 with fail
   have HN3 : Aside0 (w3.heap[W.heap.size]? = some (.cells #[.int .u8 0, .bool false, .slice none 0 0, .int .u32 0] 37 (0, 0))) := ⟨(K13.out.keep _ (blk_lt HN1.out) HNT.out).trans HN1.out⟩
   have HNF : Aside0 (¬ TF (putM { M with sent := true, got := M.got, code := M.code, cause := 2, ecode := code } true 8 dd) ({ I with vo := vo' }) t W.heap.size) := ⟨fun hk => (K13.out.new _ hk).elim HNT.out (fun e => by have := blk_lt HN1.out; omega)⟩
   have hne : ∀ k, k ≠ W.heap.size → ((((w3.setCell ⟨W.heap.size, 0, none⟩ (.int .u8 5)).setCell ⟨W.heap.size, 1, none⟩ (.bool false)).setCell ⟨W.heap.size, 2, none⟩ (.slice none 0 0)).setCell ⟨W.heap.size, 3, none⟩ (.int .u32 code)).heap[k]? = w3.heap[k]? := fun k e => heap_sets4 e
   have HT4 := a_ (HT3.out.move (sets4 HT3.out.bel HLO.out) (fun k hk => hne k (fun e => HNF.out (e ▸ hk))))
   have HK3 := a_ (HK1.out.trans K13.out)
   have HK4 : Aside0 (Kf W ((((w3.setCell ⟨W.heap.size, 0, none⟩ (.int .u8 5)).setCell ⟨W.heap.size, 1, none⟩ (.bool false)).setCell ⟨W.heap.size, 2, none⟩ (.slice none 0 0)).setCell ⟨W.heap.size, 3, none⟩ (.int .u32 code)) (TF M I t) (TF (putM { M with sent := true, got := M.got, code := M.code, cause := 2, ecode := code } true 8 dd) ({ I with vo := vo' }) t)) := ⟨⟨Nat.le_trans HK3.out.size (by simp [World.setCell]), fun k hlt hn => (hne k (by omega)).trans (HK3.out.keep k hlt hn), HK3.out.new⟩⟩
   clear hne
   obtain ⟨n_0, n_f0, n_1, n_f1, n_2, n_f2, n_3, n_f3⟩ := xf4_ HN3.out
   have n_l := blk_lt HN3.out
   go_wp2_with fail
   exact bodyPost_ret (v := .agg #[.int .u8 5, .bool false, .slice none 0 0, .int .u32 code]) (by simp [results, Tryz.results43, go_sem, n_0, n_1, n_2, n_3]) rfl ⟨rfl, _, HB.out ▸ HT4.out, HB.out ▸ HK4.out⟩
 ·have HB : Aside0 (M = badM M code) := ⟨by unfold badM; rw [if_pos hca]⟩
  have hcb : (M.cause != 0) = true := by simpa using hca
  refine (closing_Door_Bad.calls 7000 I.dg M.sent M.got M.code M.cause M.ecode code false 0 false 0 [] false M.sent M.got M.code M.cause M.ecode w0 _ H1.out.dr H1.out.bel (by unfold closing_Door_Bad.f closing_Door_Through.f closing_Door_End.f; simp only [Option.bind_some]; rw [hcb]; rfl)).mono ?_
  rintro e w2 ⟨v4, rfl, hr4, hI2, hB2, hK2⟩
  obtain ⟨A4, c4, rfl⟩ := Kd.R_slice hr4
  obtain ⟨hT2, hK12⟩ := H1.out.setDoor hI2 hB2 hK2
  have HT2 := a_ hT2
  have HK12 := a_ hK12
  clear hr4 hI2 hB2 hK2 hT2 hK12 t5
  go_wp2_with fail
  refine (tshut_no rfl).mono ?_
  rintro e w3 ⟨rfl, hb3⟩
  have HT3 := a_ (HT2.out.below hb3)
  have K13 := a_ (HK12.out.below hb3)
  clear hb3 HT2 HK12
  go_upto_region 2 with fail
  have HN3 : Aside0 (w3.heap[W.heap.size]? = some (.cells #[.int .u8 0, .bool false, .slice none 0 0, .int .u32 0] 37 (0, 0))) := ⟨(K13.out.keep _ (blk_lt HN1.out) HNT.out).trans HN1.out⟩
  have HNF : Aside0 (¬ TF (M) (I) t W.heap.size) := ⟨fun hk => (K13.out.new _ hk).elim HNT.out (fun e => by have := blk_lt HN1.out; omega)⟩
  have hne : ∀ k, k ≠ W.heap.size → ((((w3.setCell ⟨W.heap.size, 0, none⟩ (.int .u8 5)).setCell ⟨W.heap.size, 1, none⟩ (.bool false)).setCell ⟨W.heap.size, 2, none⟩ (.slice none 0 0)).setCell ⟨W.heap.size, 3, none⟩ (.int .u32 code)).heap[k]? = w3.heap[k]? := fun k e => heap_sets4 e
  have HT4 := a_ (HT3.out.move (sets4 HT3.out.bel HLO.out) (fun k hk => hne k (fun e => HNF.out (e ▸ hk))))
  have HK3 := a_ (HK1.out.trans K13.out)
  have HK4 : Aside0 (Kf W ((((w3.setCell ⟨W.heap.size, 0, none⟩ (.int .u8 5)).setCell ⟨W.heap.size, 1, none⟩ (.bool false)).setCell ⟨W.heap.size, 2, none⟩ (.slice none 0 0)).setCell ⟨W.heap.size, 3, none⟩ (.int .u32 code)) (TF M I t) (TF (M) (I) t)) := ⟨⟨Nat.le_trans HK3.out.size (by simp [World.setCell]), fun k hlt hn => (hne k (by omega)).trans (HK3.out.keep k hlt hn), HK3.out.new⟩⟩
  clear hne
  obtain ⟨n_0, n_f0, n_1, n_f1, n_2, n_f2, n_3, n_f3⟩ := xf4_ HN3.out
  have n_l := blk_lt HN3.out
  go_wp2_with fail
  exact bodyPost_ret (v := .agg #[.int .u8 5, .bool false, .slice none 0 0, .int .u32 code]) (by simp [results, Tryz.results43, go_sem, n_0, n_1, n_2, n_3]) rfl ⟨rfl, _, HB.out ▸ HT4.out, HB.out ▸ HK4.out⟩
theorem ttakes {w0 W : World} {t : Nat} {M : TM} {I : TI} (h : Tn w0 W t M I) {k : Int} {tx : Bool} {nd : List Int} {code : Int} {A : Option Addr} {c : Nat} (hd : Ap W (TF M I t) A nd) (hc : nd.length ≤ c) (hby : ∀ x ∈ nd, Byte x) (hpl : k = 2 → nd.length ≤ 125) (hkb : M.key < 9223372036854775807) (hol : M.out.length ≤ 1000000) : Calls Tryz.prog 45 #[.pointer (some ⟨t, 0, none⟩), .agg #[.int .u8 k, .bool tx, .slice A nd.length c, .int .u32 code]] W (fun e w' => ∃ vo' vn', e = .returned (.agg #[.int .u8 (takesM M ⟨k, tx, nd, code⟩).2.f0, .bool (takesM M ⟨k, tx, nd, code⟩).2.f1, vn', .int .u32 (takesM M ⟨k, tx, nd, code⟩).2.f3]) ∧ (((takesM M ⟨k, tx, nd, code⟩).2 = ⟨k, tx, nd, code⟩ ∧ vn' = .slice A nd.length c) ∨ ((takesM M ⟨k, tx, nd, code⟩).2.f2 = [] ∧ vn' = .slice none 0 0)) ∧ Tn w0 w' t (takesM M ⟨k, tx, nd, code⟩).1 { I with vo := vo' } ∧ Kf W w' (TF M I t) (TF (takesM M ⟨k, tx, nd, code⟩).1 { I with vo := vo' } t)) := by
 have hu37 := Tryz.underlying37
 have hu81 := Tryz.underlying81
 have HKB := a_ (And.intro hkb hol)
 have HA := a_ hd
 have HC := a_ hc
 have HBY := a_ hby
 have HPL := a_ hpl
 have hb1 : Below W.heap.size W ((W.alloc (.cells #[.int .u8 k, .bool tx, .slice A nd.length c, .int .u32 code] 37)).alloc (.cells #[.int .u8 0, .bool false, .slice none 0 0, .int .u32 0] 37)) := below_alloc (below_alloc (Below.refl _ _) _) _
 have h1 := h.below hb1
 have hx1 : ((W.alloc (.cells #[.int .u8 k, .bool tx, .slice A nd.length c, .int .u32 code] 37)).alloc (.cells #[.int .u8 0, .bool false, .slice none 0 0, .int .u32 0] 37)).heap[W.heap.size]? = some (.cells #[.int .u8 k, .bool tx, .slice A nd.length c, .int .u32 code] 37 (0, 0)) := blk_alloc (last_at _ _ _ rfl) _
 have hr1 : ((W.alloc (.cells #[.int .u8 k, .bool tx, .slice A nd.length c, .int .u32 code] 37)).alloc (.cells #[.int .u8 0, .bool false, .slice none 0 0, .int .u32 0] 37)).heap[W.heap.size + 1]? = some (.cells #[.int .u8 0, .bool false, .slice none 0 0, .int .u32 0] 37 (0, 0)) := last_at _ _ _ (by simp)
 have HK1 := a_ ((Kf.refl W (TF M I t)).below hb1)
 have HA1 := a_ (hd.below hb1)
 have HLO := a_ h.bel.size
 have HNX : Aside0 (¬ TF M I t W.heap.size) := ⟨fun e => Nat.lt_irrefl _ (h.lt e)⟩
 have HNT : Aside0 (¬ TF M I t (W.heap.size + 1)) := ⟨fun e => by have := h.lt e; omega⟩
 clear h hkb hol hd hc hby hpl hb1
 go_enter Tryz.func45, Tryz.ntmps45
 go_upto_region 1 with fail
 generalize ((W.alloc (.cells #[.int .u8 k, .bool tx, .slice A nd.length c, .int .u32 code] 37)).alloc (.cells #[.int .u8 0, .bool false, .slice none 0 0, .int .u32 0] 37)) = w1 at h1 hx1 hr1 HK1 HA1 ⊢
 have H1 := a_ h1
 have HX1 := a_ hx1
 have HR1 := a_ hr1
 obtain ⟨x0, -, -, x3⟩ := xl4_ hx1
 obtain ⟨-, -, -, -, -, t5, -, t7⟩ := xl8_ h1.blk
 clear h1 hx1 hr1
 by_cases k5 : k = 5
 ·subst k5
  have HB : Aside0 (takesM M ⟨5, tx, nd, code⟩ = (badM M code, bNote code)) := ⟨by unfold takesM; rw [if_pos rfl]⟩
  go_wp2_with fail
  refine (twrong H1.out (code := code) HKB.out.1 HKB.out.2).mono ?_
  rintro e w3 ⟨rfl, vo', hT3, hK3⟩
  have HT3 := a_ hT3
  have K13 := a_ hK3
  clear hT3 hK3
  have HX3 : Aside0 (w3.heap[W.heap.size]? = some (.cells #[.int .u8 5, .bool tx, .slice A nd.length c, .int .u32 code] 37 (0, 0))) := ⟨(K13.out.keep _ (blk_lt HX1.out) HNX.out).trans HX1.out⟩
  have HR3 : Aside0 (w3.heap[W.heap.size + 1]? = some (.cells #[.int .u8 0, .bool false, .slice none 0 0, .int .u32 0] 37 (0, 0))) := ⟨(K13.out.keep _ (blk_lt HR1.out) HNT.out).trans HR1.out⟩
  have HNF : Aside0 (¬ TF (badM M code) ({ I with vo := vo' }) t (W.heap.size + 1)) := ⟨fun hk => (K13.out.new _ hk).elim HNT.out (fun e => by have := blk_lt HR1.out; omega)⟩
  have hne : ∀ q_, q_ ≠ W.heap.size + 1 → ((((w3.setCell ⟨W.heap.size + 1, 0, none⟩ (.int .u8 5)).setCell ⟨W.heap.size + 1, 1, none⟩ (.bool false)).setCell ⟨W.heap.size + 1, 2, none⟩ (.slice none 0 0)).setCell ⟨W.heap.size + 1, 3, none⟩ (.int .u32 code)).heap[q_]? = w3.heap[q_]? := fun q_ e => heap_sets4 e
  have HT4 := a_ (HT3.out.move (sets4 HT3.out.bel (show w0.heap.size ≤ W.heap.size + 1 from Nat.le_succ_of_le HLO.out)) (fun k hk => hne k (fun e => HNF.out (e ▸ hk))))
  have HK3 := a_ (HK1.out.trans K13.out)
  have HK4 : Aside0 (Kf W ((((w3.setCell ⟨W.heap.size + 1, 0, none⟩ (.int .u8 5)).setCell ⟨W.heap.size + 1, 1, none⟩ (.bool false)).setCell ⟨W.heap.size + 1, 2, none⟩ (.slice none 0 0)).setCell ⟨W.heap.size + 1, 3, none⟩ (.int .u32 code)) (TF M I t) (TF (badM M code) ({ I with vo := vo' }) t)) := ⟨⟨Nat.le_trans HK3.out.size (by simp [World.setCell]), fun k hlt hn => (hne k (by omega)).trans (HK3.out.keep k hlt hn), HK3.out.new⟩⟩
  clear hne
  obtain ⟨n_0, n_f0, n_1, n_f1, n_2, n_f2, n_3, n_f3⟩ := xf4_ HR3.out
  have n_l := blk_lt HR3.out
  go_wp2_with fail
  exact bodyPost_ret (v := .agg #[.int .u8 5, .bool false, .slice none 0 0, .int .u32 code]) (by simp [results, Tryz.results45, go_sem, n_0, n_1, n_2, n_3]) rfl ⟨_, .slice none 0 0, (by first | (rw [HB.out]; done) | (rw [HB.out]; rfl)), by rw [HB.out]; exact .inr ⟨rfl, rfl⟩, by rw [HB.out]; exact HT4.out, by rw [HB.out]; exact HK4.out⟩
 ·by_cases k4 : k = 4
  ·subst k4
   go_upto_region 5 with fail
   by_cases hca : M.cause = 0
   ·by_cases hs : M.sent = true
    ·have HB : Aside0 (takesM M ⟨4, tx, nd, code⟩ = ({ M with sent := M.sent, got := true, code := code, cause := 1, ecode := code }, ⟨4, tx, nd, code⟩)) := ⟨by unfold takesM; rw [if_neg (show ¬ ((4 : Int) = 5) by decide), if_pos rfl]; show (gotM M code, _) = _; unfold gotM sendM; rw [if_neg (by simpa using hca), if_pos hs]⟩
     refine wp_region_noPanic ?_
     refine wp_region_held_drew (S := fun w' => w'.cell? ⟨t, 5, none⟩ = some (.pointer (some ⟨I.dg, 0, none⟩)) ∧ w'.cell? ⟨W.heap.size, 3, none⟩ = some (.int .u32 code)) (by kernel_rfl) (⟨t5, x3⟩) (fun hHeld => ?_)
     refine takeP 0 15 ?_
     refine takeP 1 16 ?_
     refine takeP 2 17 ?_
     refine takeP 3 18 ?_
     refine takeP 4 19 ?_
     refine takeP 5 20 ?_
     refine takeP 6 21 ?_
     refine rd1_ 7 fun K hK => ?_
     go_simp
     go_at_call 78
     with_reducible refine (closing_Door_Got.calls 7000 I.dg M.sent M.got M.code M.cause M.ecode code false 0 false 0 [] false M.sent true code 1 code w0 _ (H1.out.below (below_drew (Below.refl _ _))).dr (H1.out.below (below_drew (Below.refl _ _))).bel (by unfold closing_Door_Got.f closing_Door_Through.f closing_Door_End.f; simp only [Option.bind_some]; rw [hca, hs]; simp [closing_Door_send.f, closing_Door_ends.f])).mono ?_
     rintro e w2 ⟨v4, rfl, hr4, hI2, hB2, hK2⟩
     obtain ⟨A4, c4, rfl⟩ := Kd.R_slice hr4
     obtain ⟨hT2, hK12⟩ := (H1.out.below (below_drew (Below.refl _ _))).setDoor hI2 hB2 hK2
     have hx2 := (hK12.keep _ (blk_lt (blk_drew HX1.out)) HNX.out).trans (blk_drew HX1.out)
     have HX2 := a_ hx2
     have HT2 := a_ hT2
     have HK12 := a_ ((Kf.refl w1 (TF M I t)).below (below_drew (Below.refl _ _)) |>.trans hK12)
     clear hr4 hI2 hB2 hK2 hT2 hK12 hx2 hHeld
     refine hK.out _ _ (⟨(blk_cell HT2.out.blk 5).trans rfl, (blk_cell HX2.out 3).trans rfl⟩) (fun hHeld => ?_)
     clear hK K
     try simp only [Act.put, z1_, z2_, z3_]
     refine takeP 8 23 ?_
     refine takeP 9 24 ?_
     refine rd1_ 10 fun K hK => ?_
     go_simp
     go_at_call 47
     with_reducible refine (tshut_no rfl).mono ?_
     rintro e w' ⟨rfl, hb3⟩
     have HT3 := a_ (HT2.out.below hb3)
     have K13 := a_ (HK12.out.below hb3)
     clear hb3 hHeld
     refine hK.out _ _ (⟨(blk_cell HT3.out.blk 5).trans rfl, (blk_cell ((K13.out.keep _ (blk_lt HX1.out) HNX.out).trans HX1.out) 3).trans rfl⟩) (fun hHeld => ?_)
     clear hK K
     try simp only [Act.put, z1_, z2_, z3_]
     refine wpAnyH_done (by kernel_rfl) ?_ _
     refine NoPanic.normal ?_
     clear hHeld t5 t7
     go_upto_region 13 with fail
     have HX3 : Aside0 (w'.heap[W.heap.size]? = some (.cells #[.int .u8 4, .bool tx, .slice A nd.length c, .int .u32 code] 37 (0, 0))) := ⟨(K13.out.keep _ (blk_lt HX1.out) HNX.out).trans HX1.out⟩
     have HR3 : Aside0 (w'.heap[W.heap.size + 1]? = some (.cells #[.int .u8 0, .bool false, .slice none 0 0, .int .u32 0] 37 (0, 0))) := ⟨(K13.out.keep _ (blk_lt HR1.out) HNT.out).trans HR1.out⟩
     have HNF : Aside0 (¬ TF ({ M with sent := M.sent, got := true, code := code, cause := 1, ecode := code }) (I) t (W.heap.size + 1)) := ⟨fun hk => (K13.out.new _ hk).elim HNT.out (fun e => by have := blk_lt HR1.out; omega)⟩
     have hne : ∀ q_, q_ ≠ W.heap.size + 1 → ((((w'.setCell ⟨W.heap.size + 1, 0, none⟩ (.int .u8 4)).setCell ⟨W.heap.size + 1, 1, none⟩ (.bool tx)).setCell ⟨W.heap.size + 1, 2, none⟩ (.slice A nd.length c)).setCell ⟨W.heap.size + 1, 3, none⟩ (.int .u32 code)).heap[q_]? = w'.heap[q_]? := fun q_ e => heap_sets4 e
     have HT4 := a_ (HT3.out.move (sets4 HT3.out.bel (show w0.heap.size ≤ W.heap.size + 1 from Nat.le_succ_of_le HLO.out)) (fun k hk => hne k (fun e => HNF.out (e ▸ hk))))
     have HK3 := a_ (HK1.out.trans K13.out)
     have HK4 : Aside0 (Kf W ((((w'.setCell ⟨W.heap.size + 1, 0, none⟩ (.int .u8 4)).setCell ⟨W.heap.size + 1, 1, none⟩ (.bool tx)).setCell ⟨W.heap.size + 1, 2, none⟩ (.slice A nd.length c)).setCell ⟨W.heap.size + 1, 3, none⟩ (.int .u32 code)) (TF M I t) (TF ({ M with sent := M.sent, got := true, code := code, cause := 1, ecode := code }) (I) t)) := ⟨⟨Nat.le_trans HK3.out.size (by simp [World.setCell]), fun k hlt hn => (hne k (by omega)).trans (HK3.out.keep k hlt hn), HK3.out.new⟩⟩
     clear hne
     clear x0 x3
     obtain ⟨x_0, x_1, x_2, x_3⟩ := xl4_ HX3.out
     have x_l := blk_lt HX3.out
     obtain ⟨n_0, n_f0, n_1, n_f1, n_2, n_f2, n_3, n_f3⟩ := xf4_ HR3.out
     have n_l := blk_lt HR3.out
     go_wp2_with fail
     exact bodyPost_ret (v := .agg #[.int .u8 4, .bool tx, .slice A nd.length c, .int .u32 code]) (by simp [results, Tryz.results45, go_sem, n_0, n_1, n_2, n_3]) rfl ⟨_, .slice A nd.length c, (by first | (rw [HB.out]; done) | (rw [HB.out]; rfl)), by rw [HB.out]; exact .inl ⟨rfl, rfl⟩, by rw [HB.out]; exact HT4.out, by rw [HB.out]; exact HK4.out⟩
    ·have hs : M.sent = false := by simpa using hs
     have hbr : message_Close.f 7000 code (⟨#[]⟩ : ByteArray) = some (true, 8, false, 0, dataC code (⟨#[]⟩ : ByteArray)) := bears code _ (by decide) 7000 (Nat.le_refl _)
     obtain ⟨dd, hdd⟩ : ∃ dd, dd = dataC code (⟨#[]⟩ : ByteArray) := ⟨_, rfl⟩
     have HDL : Aside0 (dd.length ≤ 125 ∧ ∀ x ∈ dd, Byte x) := ⟨by rw [hdd]; exact ⟨dataE_len code, dataE_byte code⟩⟩
     have HDD := a_ hdd
     rw [← hdd] at hbr
     have HBR := a_ hbr
     clear hdd hbr
     have HB : Aside0 (takesM M ⟨4, tx, nd, code⟩ = (putM { M with sent := true, got := true, code := code, cause := 1, ecode := code } true 8 dd, ⟨4, tx, nd, code⟩)) := ⟨by unfold takesM; rw [if_neg (show ¬ ((4 : Int) = 5) by decide), if_pos rfl]; show (gotM M code, _) = _; unfold gotM sendM; rw [if_neg (by simpa using hca), if_neg (by simp [hs]), HDD.out]; rfl⟩
     refine wp_region_noPanic ?_
     refine wp_region_held_drew (S := fun w' => w'.cell? ⟨t, 5, none⟩ = some (.pointer (some ⟨I.dg, 0, none⟩)) ∧ w'.cell? ⟨W.heap.size, 3, none⟩ = some (.int .u32 code)) (by kernel_rfl) (⟨t5, x3⟩) (fun hHeld => ?_)
     refine takeP 0 15 ?_
     refine takeP 1 16 ?_
     refine takeP 2 17 ?_
     refine takeP 3 18 ?_
     refine takeP 4 19 ?_
     refine takeP 5 20 ?_
     refine takeP 6 21 ?_
     refine rd1_ 7 fun K hK => ?_
     go_simp
     go_at_call 78
     with_reducible refine (closing_Door_Got.calls 7000 I.dg M.sent M.got M.code M.cause M.ecode code true 8 false 0 dd true true true code 1 code w0 _ (H1.out.below (below_drew (Below.refl _ _))).dr (H1.out.below (below_drew (Below.refl _ _))).bel (by unfold closing_Door_Got.f closing_Door_Through.f closing_Door_End.f; simp only [Option.bind_some]; rw [hca, hs]; simp [closing_Door_send.f, closing_Door_ends.f, HBR.out])).mono ?_
     rintro e w2 ⟨v4, rfl, hr4, hI2, hB2, hK2⟩
     obtain ⟨A4, c4, rfl⟩ := Kd.R_slice hr4
     obtain ⟨hT2, hK12⟩ := (H1.out.below (below_drew (Below.refl _ _))).setDoor hI2 hB2 hK2
     have hx2 := (hK12.keep _ (blk_lt (blk_drew HX1.out)) HNX.out).trans (blk_drew HX1.out)
     have HX2 := a_ hx2
     have HA2 := a_ (Ap.of_row (F := TF ({ M with sent := true, got := true, code := code, cause := 1, ecode := code }) I t) hr4 (fun k e hk => absurd ((H1.out.below (below_drew (Below.refl _ _))).lt (show TF M I t k from hk)) (by have := Kd.R_base hr4 k e; omega)))
     have HC2 := a_ (Kd.R_reads' hr4).2.1
     have HT2 := a_ hT2
     have HK12 := a_ ((Kf.refl w1 (TF M I t)).below (below_drew (Below.refl _ _)) |>.trans hK12)
     clear hr4 hI2 hB2 hK2 hT2 hK12 hx2 hHeld
     refine hK.out _ _ (⟨(blk_cell HT2.out.blk 5).trans rfl, (blk_cell HX2.out 3).trans rfl⟩) (fun hHeld => ?_)
     clear hK K
     try simp only [Act.put, z1_, z2_, z3_]
     refine takeP 8 23 ?_
     refine takeP 9 24 ?_
     refine rd1_ 10 fun K hK => ?_
     go_simp
     go_at_call 47
     with_reducible refine (tshut_yes HT2.out HA2.out HC2.out HDL.out.2 (by decide) (may8 ⟨by decide, by decide⟩ HDL.out.1) HKB.out.1 HKB.out.2).mono ?_
     rintro e w' ⟨rfl, vo', hT3, hK23⟩
     have HT3 := a_ hT3
     have K13 := a_ (HK12.out.trans hK23)
     clear hT3 hK23 hHeld
     refine hK.out _ _ (⟨(blk_cell HT3.out.blk 5).trans rfl, (blk_cell ((K13.out.keep _ (blk_lt HX1.out) HNX.out).trans HX1.out) 3).trans rfl⟩) (fun hHeld => ?_)
     clear hK K
     try simp only [Act.put, z1_, z2_, z3_]
     refine wpAnyH_done (by kernel_rfl) ?_ _
     refine NoPanic.normal ?_
     clear hHeld t5 t7
     go_upto_region 13 with fail
     have HX3 : Aside0 (w'.heap[W.heap.size]? = some (.cells #[.int .u8 4, .bool tx, .slice A nd.length c, .int .u32 code] 37 (0, 0))) := ⟨(K13.out.keep _ (blk_lt HX1.out) HNX.out).trans HX1.out⟩
     have HR3 : Aside0 (w'.heap[W.heap.size + 1]? = some (.cells #[.int .u8 0, .bool false, .slice none 0 0, .int .u32 0] 37 (0, 0))) := ⟨(K13.out.keep _ (blk_lt HR1.out) HNT.out).trans HR1.out⟩
     have HNF : Aside0 (¬ TF (putM ({ M with sent := true, got := true, code := code, cause := 1, ecode := code }) true 8 dd) ({ I with vo := vo' }) t (W.heap.size + 1)) := ⟨fun hk => (K13.out.new _ hk).elim HNT.out (fun e => by have := blk_lt HR1.out; omega)⟩
     have hne : ∀ q_, q_ ≠ W.heap.size + 1 → ((((w'.setCell ⟨W.heap.size + 1, 0, none⟩ (.int .u8 4)).setCell ⟨W.heap.size + 1, 1, none⟩ (.bool tx)).setCell ⟨W.heap.size + 1, 2, none⟩ (.slice A nd.length c)).setCell ⟨W.heap.size + 1, 3, none⟩ (.int .u32 code)).heap[q_]? = w'.heap[q_]? := fun q_ e => heap_sets4 e
     have HT4 := a_ (HT3.out.move (sets4 HT3.out.bel (show w0.heap.size ≤ W.heap.size + 1 from Nat.le_succ_of_le HLO.out)) (fun k hk => hne k (fun e => HNF.out (e ▸ hk))))
     have HK3 := a_ (HK1.out.trans K13.out)
     have HK4 : Aside0 (Kf W ((((w'.setCell ⟨W.heap.size + 1, 0, none⟩ (.int .u8 4)).setCell ⟨W.heap.size + 1, 1, none⟩ (.bool tx)).setCell ⟨W.heap.size + 1, 2, none⟩ (.slice A nd.length c)).setCell ⟨W.heap.size + 1, 3, none⟩ (.int .u32 code)) (TF M I t) (TF (putM ({ M with sent := true, got := true, code := code, cause := 1, ecode := code }) true 8 dd) ({ I with vo := vo' }) t)) := ⟨⟨Nat.le_trans HK3.out.size (by simp [World.setCell]), fun k hlt hn => (hne k (by omega)).trans (HK3.out.keep k hlt hn), HK3.out.new⟩⟩
     clear hne
     clear x0 x3
     obtain ⟨x_0, x_1, x_2, x_3⟩ := xl4_ HX3.out
     have x_l := blk_lt HX3.out
     obtain ⟨n_0, n_f0, n_1, n_f1, n_2, n_f2, n_3, n_f3⟩ := xf4_ HR3.out
     have n_l := blk_lt HR3.out
     go_wp2_with fail
     exact bodyPost_ret (v := .agg #[.int .u8 4, .bool tx, .slice A nd.length c, .int .u32 code]) (by simp [results, Tryz.results45, go_sem, n_0, n_1, n_2, n_3]) rfl ⟨_, .slice A nd.length c, (by first | (rw [HB.out]; done) | (rw [HB.out]; rfl)), by rw [HB.out]; exact .inl ⟨rfl, rfl⟩, by rw [HB.out]; exact HT4.out, by rw [HB.out]; exact HK4.out⟩
   ·have HB : Aside0 (takesM M ⟨4, tx, nd, code⟩ = (M, ⟨4, tx, nd, code⟩)) := ⟨by unfold takesM; rw [if_neg (show ¬ ((4 : Int) = 5) by decide), if_pos rfl]; show (gotM M code, _) = _; unfold gotM; rw [if_pos hca]⟩
    refine wp_region_noPanic ?_
    refine wp_region_held_drew (S := fun w' => w'.cell? ⟨t, 5, none⟩ = some (.pointer (some ⟨I.dg, 0, none⟩)) ∧ w'.cell? ⟨W.heap.size, 3, none⟩ = some (.int .u32 code)) (by kernel_rfl) (⟨t5, x3⟩) (fun hHeld => ?_)
    refine takeP 0 15 ?_
    refine takeP 1 16 ?_
    refine takeP 2 17 ?_
    refine takeP 3 18 ?_
    refine takeP 4 19 ?_
    refine takeP 5 20 ?_
    refine takeP 6 21 ?_
    refine rd1_ 7 fun K hK => ?_
    go_simp
    go_at_call 78
    with_reducible refine (closing_Door_Got.calls 7000 I.dg M.sent M.got M.code M.cause M.ecode code false 0 false 0 [] false M.sent M.got M.code M.cause M.ecode w0 _ (H1.out.below (below_drew (Below.refl _ _))).dr (H1.out.below (below_drew (Below.refl _ _))).bel (by unfold closing_Door_Got.f closing_Door_Through.f closing_Door_End.f; simp only [Option.bind_some]; rw [show (M.cause != 0) = true by simpa using hca]; simp)).mono ?_
    rintro e w2 ⟨v4, rfl, hr4, hI2, hB2, hK2⟩
    obtain ⟨A4, c4, rfl⟩ := Kd.R_slice hr4
    obtain ⟨hT2, hK12⟩ := (H1.out.below (below_drew (Below.refl _ _))).setDoor hI2 hB2 hK2
    have hx2 := (hK12.keep _ (blk_lt (blk_drew HX1.out)) HNX.out).trans (blk_drew HX1.out)
    have HX2 := a_ hx2
    have HT2 := a_ hT2
    have HK12 := a_ ((Kf.refl w1 (TF M I t)).below (below_drew (Below.refl _ _)) |>.trans hK12)
    clear hr4 hI2 hB2 hK2 hT2 hK12 hx2 hHeld
    refine hK.out _ _ (⟨(blk_cell HT2.out.blk 5).trans rfl, (blk_cell HX2.out 3).trans rfl⟩) (fun hHeld => ?_)
    clear hK K
    try simp only [Act.put, z1_, z2_, z3_]
    refine takeP 8 23 ?_
    refine takeP 9 24 ?_
    refine rd1_ 10 fun K hK => ?_
    go_simp
    go_at_call 47
    with_reducible refine (tshut_no rfl).mono ?_
    rintro e w' ⟨rfl, hb3⟩
    have HT3 := a_ (HT2.out.below hb3)
    have K13 := a_ (HK12.out.below hb3)
    clear hb3 hHeld
    refine hK.out _ _ (⟨(blk_cell HT3.out.blk 5).trans rfl, (blk_cell ((K13.out.keep _ (blk_lt HX1.out) HNX.out).trans HX1.out) 3).trans rfl⟩) (fun hHeld => ?_)
    clear hK K
    try simp only [Act.put, z1_, z2_, z3_]
    refine wpAnyH_done (by kernel_rfl) ?_ _
    refine NoPanic.normal ?_
    clear hHeld t5 t7
    go_upto_region 13 with fail
    have HX3 : Aside0 (w'.heap[W.heap.size]? = some (.cells #[.int .u8 4, .bool tx, .slice A nd.length c, .int .u32 code] 37 (0, 0))) := ⟨(K13.out.keep _ (blk_lt HX1.out) HNX.out).trans HX1.out⟩
    have HR3 : Aside0 (w'.heap[W.heap.size + 1]? = some (.cells #[.int .u8 0, .bool false, .slice none 0 0, .int .u32 0] 37 (0, 0))) := ⟨(K13.out.keep _ (blk_lt HR1.out) HNT.out).trans HR1.out⟩
    have HNF : Aside0 (¬ TF (M) (I) t (W.heap.size + 1)) := ⟨fun hk => (K13.out.new _ hk).elim HNT.out (fun e => by have := blk_lt HR1.out; omega)⟩
    have hne : ∀ q_, q_ ≠ W.heap.size + 1 → ((((w'.setCell ⟨W.heap.size + 1, 0, none⟩ (.int .u8 4)).setCell ⟨W.heap.size + 1, 1, none⟩ (.bool tx)).setCell ⟨W.heap.size + 1, 2, none⟩ (.slice A nd.length c)).setCell ⟨W.heap.size + 1, 3, none⟩ (.int .u32 code)).heap[q_]? = w'.heap[q_]? := fun q_ e => heap_sets4 e
    have HT4 := a_ (HT3.out.move (sets4 HT3.out.bel (show w0.heap.size ≤ W.heap.size + 1 from Nat.le_succ_of_le HLO.out)) (fun k hk => hne k (fun e => HNF.out (e ▸ hk))))
    have HK3 := a_ (HK1.out.trans K13.out)
    have HK4 : Aside0 (Kf W ((((w'.setCell ⟨W.heap.size + 1, 0, none⟩ (.int .u8 4)).setCell ⟨W.heap.size + 1, 1, none⟩ (.bool tx)).setCell ⟨W.heap.size + 1, 2, none⟩ (.slice A nd.length c)).setCell ⟨W.heap.size + 1, 3, none⟩ (.int .u32 code)) (TF M I t) (TF (M) (I) t)) := ⟨⟨Nat.le_trans HK3.out.size (by simp [World.setCell]), fun k hlt hn => (hne k (by omega)).trans (HK3.out.keep k hlt hn), HK3.out.new⟩⟩
    clear hne
    clear x0 x3
    obtain ⟨x_0, x_1, x_2, x_3⟩ := xl4_ HX3.out
    have x_l := blk_lt HX3.out
    obtain ⟨n_0, n_f0, n_1, n_f1, n_2, n_f2, n_3, n_f3⟩ := xf4_ HR3.out
    have n_l := blk_lt HR3.out
    go_wp2_with fail
    exact bodyPost_ret (v := .agg #[.int .u8 4, .bool tx, .slice A nd.length c, .int .u32 code]) (by simp [results, Tryz.results45, go_sem, n_0, n_1, n_2, n_3]) rfl ⟨_, .slice A nd.length c, (by first | (rw [HB.out]; done) | (rw [HB.out]; rfl)), by rw [HB.out]; exact .inl ⟨rfl, rfl⟩, by rw [HB.out]; exact HT4.out, by rw [HB.out]; exact HK4.out⟩
  ·by_cases k2 : k = 2
   ·subst k2
    go_wp2_with fail
    refine (closing_Door_Sent.calls I.dg M.sent M.got M.code M.cause M.ecode M.sent M.sent M.got M.code M.cause M.ecode w0 _ H1.out.dr H1.out.bel rfl).mono ?_
    rintro e w2 ⟨rfl, hI2, hB2, hK2⟩
    obtain ⟨hT2, hK12⟩ := H1.out.setDoor hI2 hB2 hK2
    have HT2 : Aside0 (Tn w0 w2 t M I) := ⟨hT2⟩
    have HK12 : Aside0 (Kf w1 w2 (TF M I t) (TF M I t)) := ⟨hK12⟩
    have hx2 := (hK12.keep _ (blk_lt HX1.out) HNX.out).trans HX1.out
    have HX2 := a_ hx2
    have HA2 := a_ (HA1.out.kf HK12.out)
    clear hI2 hB2 hK2 hT2 hK12 hx2 t5 t7 x0 x3
    have x2 : w2.cell? ⟨W.heap.size, 2, none⟩ = some (.slice A nd.length c) := (blk_cell HX2.out 2).trans rfl
    obtain ⟨-, -, -, -, -, -, -, -, -, -, -, -, -, -, t7, tf7⟩ := xf8_ HT2.out.blk
    have tl7 := blk_lt HT2.out.blk
    by_cases hs : M.sent = true
    ·have HB : Aside0 (takesM M ⟨2, tx, nd, code⟩ = (M, ⟨2, tx, nd, code⟩)) := ⟨by unfold takesM; rw [if_neg (show ¬ ((2 : Int) = 5) by decide), if_neg (show ¬ ((2 : Int) = 4) by decide), if_pos rfl]; rw [if_pos hs]⟩
     simp only [hs]
     go_upto_region 8 with fail
     have HT3 := HT2
     have K13 := HK12
     clear x2 t7 tf7 tl7
     have HX3 : Aside0 (w2.heap[W.heap.size]? = some (.cells #[.int .u8 2, .bool tx, .slice A nd.length c, .int .u32 code] 37 (0, 0))) := ⟨(K13.out.keep _ (blk_lt HX1.out) HNX.out).trans HX1.out⟩
     have HR3 : Aside0 (w2.heap[W.heap.size + 1]? = some (.cells #[.int .u8 0, .bool false, .slice none 0 0, .int .u32 0] 37 (0, 0))) := ⟨(K13.out.keep _ (blk_lt HR1.out) HNT.out).trans HR1.out⟩
     have HNF : Aside0 (¬ TF (M) (I) t (W.heap.size + 1)) := ⟨fun hk => (K13.out.new _ hk).elim HNT.out (fun e => by have := blk_lt HR1.out; omega)⟩
     have hne : ∀ q_, q_ ≠ W.heap.size + 1 → ((((w2.setCell ⟨W.heap.size + 1, 0, none⟩ (.int .u8 2)).setCell ⟨W.heap.size + 1, 1, none⟩ (.bool tx)).setCell ⟨W.heap.size + 1, 2, none⟩ (.slice A nd.length c)).setCell ⟨W.heap.size + 1, 3, none⟩ (.int .u32 code)).heap[q_]? = w2.heap[q_]? := fun q_ e => heap_sets4 e
     have HT4 := a_ (HT3.out.move (sets4 HT3.out.bel (show w0.heap.size ≤ W.heap.size + 1 from Nat.le_succ_of_le HLO.out)) (fun k hk => hne k (fun e => HNF.out (e ▸ hk))))
     have HK3 := a_ (HK1.out.trans K13.out)
     have HK4 : Aside0 (Kf W ((((w2.setCell ⟨W.heap.size + 1, 0, none⟩ (.int .u8 2)).setCell ⟨W.heap.size + 1, 1, none⟩ (.bool tx)).setCell ⟨W.heap.size + 1, 2, none⟩ (.slice A nd.length c)).setCell ⟨W.heap.size + 1, 3, none⟩ (.int .u32 code)) (TF M I t) (TF (M) (I) t)) := ⟨⟨Nat.le_trans HK3.out.size (by simp [World.setCell]), fun k hlt hn => (hne k (by omega)).trans (HK3.out.keep k hlt hn), HK3.out.new⟩⟩
     clear hne
     obtain ⟨x_0, x_1, x_2, x_3⟩ := xl4_ HX3.out
     have x_l := blk_lt HX3.out
     obtain ⟨n_0, n_f0, n_1, n_f1, n_2, n_f2, n_3, n_f3⟩ := xf4_ HR3.out
     have n_l := blk_lt HR3.out
     go_wp2_with fail
     exact bodyPost_ret (v := .agg #[.int .u8 2, .bool tx, .slice A nd.length c, .int .u32 code]) (by simp [results, Tryz.results45, go_sem, n_0, n_1, n_2, n_3]) rfl ⟨_, .slice A nd.length c, (by first | (rw [HB.out]; done) | (rw [HB.out]; rfl)), by rw [HB.out]; exact .inl ⟨rfl, rfl⟩, by rw [HB.out]; exact HT4.out, by rw [HB.out]; exact HK4.out⟩
    ·have hs : M.sent = false := by simpa using hs
     by_cases hp : M.pongs = 16
     ·have HB : Aside0 (takesM M ⟨2, tx, nd, code⟩ = (badM M 1008, bNote 1008)) := ⟨by unfold takesM; rw [if_neg (show ¬ ((2 : Int) = 5) by decide), if_neg (show ¬ ((2 : Int) = 4) by decide), if_pos rfl]; rw [if_neg (by simp [hs]), if_pos hp]⟩
      simp only [hs]
      rw [hp] at t7
      go_upto_region 10 with fail
      clear x2 t7 tf7 tl7
      go_wp2_with fail
      refine (twrong HT2.out (code := 1008) HKB.out.1 HKB.out.2).mono ?_
      rintro e w3 ⟨rfl, vo', hT3, hK3⟩
      have HT3 := a_ hT3
      have K13 := a_ (HK12.out.trans hK3)
      clear hT3 hK3
      have HX3 : Aside0 (w3.heap[W.heap.size]? = some (.cells #[.int .u8 2, .bool tx, .slice A nd.length c, .int .u32 code] 37 (0, 0))) := ⟨(K13.out.keep _ (blk_lt HX1.out) HNX.out).trans HX1.out⟩
      have HR3 : Aside0 (w3.heap[W.heap.size + 1]? = some (.cells #[.int .u8 0, .bool false, .slice none 0 0, .int .u32 0] 37 (0, 0))) := ⟨(K13.out.keep _ (blk_lt HR1.out) HNT.out).trans HR1.out⟩
      have HNF : Aside0 (¬ TF (badM M 1008) ({ I with vo := vo' }) t (W.heap.size + 1)) := ⟨fun hk => (K13.out.new _ hk).elim HNT.out (fun e => by have := blk_lt HR1.out; omega)⟩
      have hne : ∀ q_, q_ ≠ W.heap.size + 1 → ((((w3.setCell ⟨W.heap.size + 1, 0, none⟩ (.int .u8 5)).setCell ⟨W.heap.size + 1, 1, none⟩ (.bool false)).setCell ⟨W.heap.size + 1, 2, none⟩ (.slice none 0 0)).setCell ⟨W.heap.size + 1, 3, none⟩ (.int .u32 1008)).heap[q_]? = w3.heap[q_]? := fun q_ e => heap_sets4 e
      have HT4 := a_ (HT3.out.move (sets4 HT3.out.bel (show w0.heap.size ≤ W.heap.size + 1 from Nat.le_succ_of_le HLO.out)) (fun k hk => hne k (fun e => HNF.out (e ▸ hk))))
      have HK3 := a_ (HK1.out.trans K13.out)
      have HK4 : Aside0 (Kf W ((((w3.setCell ⟨W.heap.size + 1, 0, none⟩ (.int .u8 5)).setCell ⟨W.heap.size + 1, 1, none⟩ (.bool false)).setCell ⟨W.heap.size + 1, 2, none⟩ (.slice none 0 0)).setCell ⟨W.heap.size + 1, 3, none⟩ (.int .u32 1008)) (TF M I t) (TF (badM M 1008) ({ I with vo := vo' }) t)) := ⟨⟨Nat.le_trans HK3.out.size (by simp [World.setCell]), fun k hlt hn => (hne k (by omega)).trans (HK3.out.keep k hlt hn), HK3.out.new⟩⟩
      clear hne
      obtain ⟨n_0, n_f0, n_1, n_f1, n_2, n_f2, n_3, n_f3⟩ := xf4_ HR3.out
      have n_l := blk_lt HR3.out
      go_wp2_with fail
      exact bodyPost_ret (v := .agg #[.int .u8 5, .bool false, .slice none 0 0, .int .u32 1008]) (by simp [results, Tryz.results45, go_sem, n_0, n_1, n_2, n_3]) rfl ⟨_, .slice none 0 0, (by first | (rw [HB.out]; done) | (rw [HB.out]; rfl)), by rw [HB.out]; exact .inr ⟨rfl, rfl⟩, by rw [HB.out]; exact HT4.out, by rw [HB.out]; exact HK4.out⟩
     ·have HB : Aside0 (takesM M ⟨2, tx, nd, code⟩ = (putM { M with pongs := M.pongs + 1 } true 10 nd, ⟨2, tx, nd, code⟩)) := ⟨by unfold takesM; rw [if_neg (show ¬ ((2 : Int) = 5) by decide), if_neg (show ¬ ((2 : Int) = 4) by decide), if_pos rfl]; rw [if_neg (by simp [hs]), if_neg hp]⟩
      simp only [hs]
      have hpb : (M.pongs == 16) = false := nb_ hp
      have hpw : wrap64 (M.pongs + 1) = M.pongs + 1 := by have := H1.out.ok.pong; unfold wrap64; omega
      go_upto_region 12 with fail
      have h3 := HT2.out.set (M' := { M with pongs := M.pongs + 1 }) 7 (.int .i64 (M.pongs + 1)) rfl rfl rfl { HT2.out.ok with pong := by have := HT2.out.ok.pong; exact ⟨by show 0 ≤ M.pongs + 1; omega, by show M.pongs + 1 ≤ 16; omega⟩ }
      have hz : ∀ k, k ≠ t → (w2.setCell ⟨t, 7, none⟩ (.int .i64 (M.pongs + 1))).heap[k]? = w2.heap[k]? := fun k e => Below.heap_setCell w2 ⟨t, 7, none⟩ _ k e
      have hk3 : Kf w2 (w2.setCell ⟨t, 7, none⟩ (.int .i64 (M.pongs + 1))) (TF M I t) (TF { M with pongs := M.pongs + 1 } I t) := ⟨by simp [World.setCell], fun k _ hn => hz k (fun e => hn (.inl e)), fun k hk => .inl hk⟩
      have hx3 := (hz _ (fun e => HNX.out (.inl e))).trans HX2.out
      generalize w2.setCell ⟨t, 7, none⟩ (.int .i64 (M.pongs + 1)) = w3 at h3 hk3 hx3 ⊢
      clear hz x2 t7 tf7 tl7
      have H3 := a_ h3
      have HK13 := a_ (HK12.out.trans hk3)
      have HA3 := a_ (HA2.out.kf hk3)
      have x2 : w3.cell? ⟨W.heap.size, 2, none⟩ = some (.slice A nd.length c) := (blk_cell hx3 2).trans rfl
      clear h3 hk3 hx3
      go_wp2_with fail
      refine (tput H3.out HA3.out HC.out HBY.out (by decide) (may8 ⟨by decide, by decide⟩ (HPL.out (by first | trivial | rfl))) (.inl rfl) HKB.out.1 HKB.out.2).mono ?_
      rintro e w4 ⟨rfl, vo', hT4, hK4⟩
      have HT3 := a_ hT4
      have K13 := a_ (HK13.out.trans hK4)
      clear hT4 hK4 x2
      go_upto_region 13 with fail
      have HX3 : Aside0 (w4.heap[W.heap.size]? = some (.cells #[.int .u8 2, .bool tx, .slice A nd.length c, .int .u32 code] 37 (0, 0))) := ⟨(K13.out.keep _ (blk_lt HX1.out) HNX.out).trans HX1.out⟩
      have HR3 : Aside0 (w4.heap[W.heap.size + 1]? = some (.cells #[.int .u8 0, .bool false, .slice none 0 0, .int .u32 0] 37 (0, 0))) := ⟨(K13.out.keep _ (blk_lt HR1.out) HNT.out).trans HR1.out⟩
      have HNF : Aside0 (¬ TF (putM { M with pongs := M.pongs + 1 } true 10 nd) ({ I with vo := vo' }) t (W.heap.size + 1)) := ⟨fun hk => (K13.out.new _ hk).elim HNT.out (fun e => by have := blk_lt HR1.out; omega)⟩
      have hne : ∀ q_, q_ ≠ W.heap.size + 1 → ((((w4.setCell ⟨W.heap.size + 1, 0, none⟩ (.int .u8 2)).setCell ⟨W.heap.size + 1, 1, none⟩ (.bool tx)).setCell ⟨W.heap.size + 1, 2, none⟩ (.slice A nd.length c)).setCell ⟨W.heap.size + 1, 3, none⟩ (.int .u32 code)).heap[q_]? = w4.heap[q_]? := fun q_ e => heap_sets4 e
      have HT4 := a_ (HT3.out.move (sets4 HT3.out.bel (show w0.heap.size ≤ W.heap.size + 1 from Nat.le_succ_of_le HLO.out)) (fun k hk => hne k (fun e => HNF.out (e ▸ hk))))
      have HK3 := a_ (HK1.out.trans K13.out)
      have HK4 : Aside0 (Kf W ((((w4.setCell ⟨W.heap.size + 1, 0, none⟩ (.int .u8 2)).setCell ⟨W.heap.size + 1, 1, none⟩ (.bool tx)).setCell ⟨W.heap.size + 1, 2, none⟩ (.slice A nd.length c)).setCell ⟨W.heap.size + 1, 3, none⟩ (.int .u32 code)) (TF M I t) (TF (putM { M with pongs := M.pongs + 1 } true 10 nd) ({ I with vo := vo' }) t)) := ⟨⟨Nat.le_trans HK3.out.size (by simp [World.setCell]), fun k hlt hn => (hne k (by omega)).trans (HK3.out.keep k hlt hn), HK3.out.new⟩⟩
      clear hne
      obtain ⟨x_0, x_1, x_2, x_3⟩ := xl4_ HX3.out
      have x_l := blk_lt HX3.out
      obtain ⟨n_0, n_f0, n_1, n_f1, n_2, n_f2, n_3, n_f3⟩ := xf4_ HR3.out
      have n_l := blk_lt HR3.out
      go_wp2_with fail
      exact bodyPost_ret (v := .agg #[.int .u8 2, .bool tx, .slice A nd.length c, .int .u32 code]) (by simp [results, Tryz.results45, go_sem, n_0, n_1, n_2, n_3]) rfl ⟨_, .slice A nd.length c, (by first | (rw [HB.out]; done) | (rw [HB.out]; rfl)), by rw [HB.out]; exact .inl ⟨rfl, rfl⟩, by rw [HB.out]; exact HT4.out, by rw [HB.out]; exact HK4.out⟩
   ·have b5 : (k == 5) = false := nb_ k5
    have b4 : (k == 4) = false := nb_ k4
    have b2 : (k == 2) = false := nb_ k2
    have HB : Aside0 (takesM M ⟨k, tx, nd, code⟩ = (M, ⟨k, tx, nd, code⟩)) := ⟨by unfold takesM; rw [if_neg k5, if_neg k4, if_neg k2]⟩
    clear k5 k4 k2
    go_upto_region 6 with fail
    have HT3 := H1
    have K13 := a_ (Kf.refl w1 (TF M I t))
    have HX3 : Aside0 (w1.heap[W.heap.size]? = some (.cells #[.int .u8 k, .bool tx, .slice A nd.length c, .int .u32 code] 37 (0, 0))) := ⟨(K13.out.keep _ (blk_lt HX1.out) HNX.out).trans HX1.out⟩
    have HR3 : Aside0 (w1.heap[W.heap.size + 1]? = some (.cells #[.int .u8 0, .bool false, .slice none 0 0, .int .u32 0] 37 (0, 0))) := ⟨(K13.out.keep _ (blk_lt HR1.out) HNT.out).trans HR1.out⟩
    have HNF : Aside0 (¬ TF (M) (I) t (W.heap.size + 1)) := ⟨fun hk => (K13.out.new _ hk).elim HNT.out (fun e => by have := blk_lt HR1.out; omega)⟩
    have hne : ∀ q_, q_ ≠ W.heap.size + 1 → ((((w1.setCell ⟨W.heap.size + 1, 0, none⟩ (.int .u8 k)).setCell ⟨W.heap.size + 1, 1, none⟩ (.bool tx)).setCell ⟨W.heap.size + 1, 2, none⟩ (.slice A nd.length c)).setCell ⟨W.heap.size + 1, 3, none⟩ (.int .u32 code)).heap[q_]? = w1.heap[q_]? := fun q_ e => heap_sets4 e
    have HT4 := a_ (HT3.out.move (sets4 HT3.out.bel (show w0.heap.size ≤ W.heap.size + 1 from Nat.le_succ_of_le HLO.out)) (fun k hk => hne k (fun e => HNF.out (e ▸ hk))))
    have HK3 := a_ (HK1.out.trans K13.out)
    have HK4 : Aside0 (Kf W ((((w1.setCell ⟨W.heap.size + 1, 0, none⟩ (.int .u8 k)).setCell ⟨W.heap.size + 1, 1, none⟩ (.bool tx)).setCell ⟨W.heap.size + 1, 2, none⟩ (.slice A nd.length c)).setCell ⟨W.heap.size + 1, 3, none⟩ (.int .u32 code)) (TF M I t) (TF (M) (I) t)) := ⟨⟨Nat.le_trans HK3.out.size (by simp [World.setCell]), fun k hlt hn => (hne k (by omega)).trans (HK3.out.keep k hlt hn), HK3.out.new⟩⟩
    clear hne
    clear x0 x3 t5 t7
    obtain ⟨x_0, x_1, x_2, x_3⟩ := xl4_ HX3.out
    have x_l := blk_lt HX3.out
    obtain ⟨n_0, n_f0, n_1, n_f1, n_2, n_f2, n_3, n_f3⟩ := xf4_ HR3.out
    have n_l := blk_lt HR3.out
    go_wp2_with fail
    exact bodyPost_ret (v := .agg #[.int .u8 k, .bool tx, .slice A nd.length c, .int .u32 code]) (by simp [results, Tryz.results45, go_sem, n_0, n_1, n_2, n_3]) rfl ⟨_, .slice A nd.length c, (by first | (rw [HB.out]; done) | (rw [HB.out]; rfl)), by rw [HB.out]; exact .inl ⟨rfl, rfl⟩, by rw [HB.out]; exact HT4.out, by rw [HB.out]; exact HK4.out⟩
end Go.Proofs.YtpmeapdcjmaeiaaGreatDoor
namespace Go.Proofs.YtpmeapdcjmaeiaaGreatDoor
open Go.RowKit Go.Wa Go.Wb Go.Wc PAll U
def TM.wl (N : TM) (l : List Int) (s : Bool) : TM := { N with l := l, sbad := s }
theorem send_wl (N : TM) (l : List Int) (s : Bool) (d : List Int) : sendM (N.wl l s) d = (sendM N d).wl l s := by
 unfold sendM
 show (if N.sent = true then _ else _) = _
 split
 ·rfl
 ·rfl
theorem bad_wl (N : TM) (l : List Int) (s : Bool) (c : Int) : badM (N.wl l s) c = (badM N c).wl l s := by
 unfold badM
 show (if N.cause ≠ 0 then _ else _) = _
 split
 ·rfl
 ·exact send_wl { N with cause := 2, ecode := c } l s _
theorem got_wl (N : TM) (l : List Int) (s : Bool) (c : Int) : gotM (N.wl l s) c = (gotM N c).wl l s := by
 unfold gotM
 show (if N.cause ≠ 0 then _ else _) = _
 split
 ·rfl
 ·have := send_wl { N with got := true, code := c } l s (dataC c (⟨#[]⟩ : ByteArray))
  show ({ sendM (({ N with got := true, code := c } : TM).wl l s) (dataC c (⟨#[]⟩ : ByteArray)) with cause := 1, ecode := c } : TM) = _
  rw [this]
  rfl
theorem takes_wl (N : TM) (l : List Int) (s : Bool) (n : Nt) : takesM (N.wl l s) n = ((takesM N n).1.wl l s, (takesM N n).2) := by
 unfold takesM
 split
 ·rw [bad_wl]
 ·split
  ·rw [got_wl]
  ·split
   ·show (if N.sent = true then _ else (if N.pongs = 16 then _ else _)) = _
    split
    ·rfl
    ·split
     ·rw [bad_wl]
     ·rfl
   ·rfl
section
variable {w0 W W' : World} {t : Nat} {M : TM} {I : TI}
theorem Tn.setSplit (h : Tn w0 W t M I) {v' : Value} {sb' : Bool} {l' : List Int} (hsp : Sp w0 W' I.sg v' (!M.cl) sb' l') (hB : Below w0.heap.size w0 W') (hs : W.heap.size ≤ W'.heap.size) (hk : ∀ k, k < W.heap.size → k ≠ I.sg → I.vs.ownBlock ≠ some k → W'.heap[k]? = W.heap[k]?) (hv : ∀ k, v'.ownBlock = some k → I.vs.ownBlock = some k ∨ W.heap.size ≤ k) (h1 : l'.length ≤ 4110) (h2 : l'.all isByte = true) : Tn w0 W' t (M.wl l' sb') { I with vs := v' } ∧ Kf W W' (TF M I t) (TF (M.wl l' sb') { I with vs := v' } t) := by
 have hb := h.sp.blk
 have e1 : ∀ k, k < W.heap.size → k ≠ I.sg → I.vs.ownBlock ≠ some k → W'.heap[k]? = W.heap[k]? := hk
 have nvs : ∀ {g : Nat} {cs : Array Value} {ty : TypeId}, W.heap[g]? = some (.cells cs ty (0, 0)) → 5 ≠ ty → I.vs.ownBlock ≠ some g := fun hg hne e => row_at_ne (d := 0) h.sp.row hg hne e rfl
 have hgf : ∀ k, GF I.v I.u M.over I.gg k → k ≠ I.sg ∧ I.vs.ownBlock ≠ some k := fun k hk => by
  refine ⟨fun e => h.gf_ne hb (by decide) (by decide) (by decide) (e ▸ hk), fun e => ?_⟩
  obtain ⟨c, hc⟩ := Kd.R_typed h.sp.row k e
  rcases hk with rfl | ⟨ho, e2 | e2⟩
  ·obtain ⟨_, _, _, _, _, hb'⟩ := h.gt.blk
   exact blk_ne hc hb' (by decide) rfl
  ·exact (h.a2 ho k e2).2 e
  ·rcases h.gt.st with ⟨_, h4, _⟩ | ⟨h4, _⟩
   ·obtain ⟨c2, hc2⟩ := h4.gw.uty k e2
    exact blk_ne hc hc2 (by decide) rfl
   ·rw [ho] at h4; cases h4
 have hks : ∀ k, I.vk.ownBlock = some k → k ≠ I.sg ∧ I.vs.ownBlock ≠ some k := fun k e => ⟨row_at_ne (d := 0) h.ks hb (by decide) e, fun e2 => by
  obtain ⟨c, hc⟩ := Kd.R_typed h.ks k e
  exact row_at_ne (d := 0) h.sp.row hc (by decide) e2 rfl⟩
 have hou : ∀ k, I.vo.ownBlock = some k → k ≠ I.sg ∧ I.vs.ownBlock ≠ some k := fun k e => ⟨row_at_ne (d := 0) h.out hb (by decide) e, fun e2 => h.a1 k e2 e⟩
 have hvn : ∀ k, v'.ownBlock = some k → k < W.heap.size → I.vs.ownBlock = some k := fun k e hlt => (hv k e).elim id (fun h => by omega)
 refine ⟨⟨hB, (e1 t (blk_lt h.blk) h.ts (nvs h.blk (by decide))).trans h.blk, h.base, row_keep32 h.ks (fun k e => e1 k (Kd.R_lt h.ks k e) (hks k e).1 (hks k e).2), hsp, h.sbase, h.gt.move hB (fun k e => e1 k (h.gt.lt e) (hgf k e).1 (hgf k e).2), ⟨(e1 _ (blk_lt h.dr.1) h.sd.symm (nvs h.dr.1 (by decide))).trans h.dr.1, h.dr.2⟩, row_keep8 h.out (fun k e => e1 k (Kd.R_lt h.out k e) (hou k e).1 (hou k e).2), fun k e e2 => h.a1 k (hvn k e (Kd.R_lt h.out k e2)) e2, fun ho k e => ⟨(h.a2 ho k e).1, fun e2 => (h.a2 ho k e).2 (hvn k e2 (h.gt.lt (.inr ⟨ho, .inl e⟩)))⟩, { h.ok with llen := h1, lbyt := h2 }⟩, ⟨hs, fun k hlt hn => e1 k hlt (fun e => hn (.inr (.inl e))) (fun e => hn (.inr (.inr (.inr (.inr (.inl e)))))), fun k hk => ?_⟩⟩
 rcases hk with hk | hk | hk | hk | hk | hk | hk
 ·exact .inl (.inl hk)
 ·exact .inl (.inr (.inl hk))
 ·exact .inl (.inr (.inr (.inl hk)))
 ·exact .inl (.inr (.inr (.inr (.inl hk))))
 ·exact (hv k hk).imp_left (fun e => .inr (.inr (.inr (.inr (.inl e)))))
 ·exact .inl (.inr (.inr (.inr (.inr (.inr (.inl hk))))))
 ·exact .inl (.inr (.inr (.inr (.inr (.inr (.inr hk))))))
theorem Tn.feed (h : Tn w0 W t M I) {l' : List Int} {n : Int} {e : Ending} (hp : FeedPost w0 I.sg I.vs (!M.cl) l' n W e W') (h1 : l'.length ≤ 4110) (h2 : l'.all isByte = true) : ∃ v', e = .returned (.int .i64 n) ∧ Tn w0 W' t (M.wl l' false) { I with vs := v' } ∧ Kf W W' (TF M I t) (TF (M.wl l' false) { I with vs := v' } t) := by
 obtain ⟨v', he, hsp, hB, hs, hk, hv⟩ := hp
 exact ⟨v', he, h.setSplit hsp hB hs (fun k a b c => hk k a b (fun e => c e.symm)) (fun k e => hv.elim (fun e1 => .inl (e1 ▸ e)) (fun ⟨b, e1, h3⟩ => .inr (by rw [e1] at e; injection e with e; omega))) h1 h2⟩
theorem Tn.nextf (h : Tn w0 W t M I) {d s5 : List Int} {s1 s3 : Bool} {s2 s4 : Int} {e : Ending} (hp : NextPost w0 I.sg (!M.cl) d s1 s2 s3 s4 s5 W e W') (h1 : d.length ≤ 4110) (h2 : d.all isByte = true) : ∃ v' pv, e = .returned (.tuple #[.agg #[.bool s1, .int .u8 s2, .bool s3, .int .u32 s4, pv], .agg #[.int .u8 0, .int .u32 0], .bool true]) ∧ Tn w0 W' t (M.wl d false) { I with vs := v' } ∧ Kf W W' (TF M I t) (TF (M.wl d false) { I with vs := v' } t) ∧ Kd.R (Kd.int .u8) 5 W' W.heap.size (fun _ => True) pv s5 ∧ (∀ k, pv.ownBlock = some k → ¬ TF (M.wl d false) { I with vs := v' } t k) := by
 obtain ⟨v', pv, he, hsp, hr, hpv, hB, hk, hne⟩ := hp
 have hsz : W.heap.size ≤ W'.heap.size := by
  rcases Nat.lt_or_ge W'.heap.size W.heap.size with hl | hl
  ·exfalso
   have hsg := blk_lt hsp.blk
   have hz : W'.heap.size ≠ I.sg := by omega
   have := hk W'.heap.size hl hz
   rw [Array.getElem?_eq_none (Nat.le_refl _), Array.getElem?_eq_getElem hl] at this
   cases this
  ·exact hl
 obtain ⟨a, b⟩ := h.setSplit hsp hB hsz (fun k x y _ => hk k x y) (fun k e => .inr (Kd.R_base hr k e)) h1 h2
 refine ⟨v', pv, he, a, b, hpv, fun k e hk2 => ?_⟩
 have hge := Kd.R_base hpv k e
 have hold : TF M I t k → False := fun hh => by have := h.lt hh; omega
 rcases hk2 with h3 | h3 | h3 | h3 | h3 | h3 | h3
 ·exact hold (.inl h3)
 ·exact hold (.inr (.inl h3))
 ·exact hold (.inr (.inr (.inl h3)))
 ·exact hold (.inr (.inr (.inr (.inl h3))))
 ·exact hne k e h3
 ·exact hold (.inr (.inr (.inr (.inr (.inr (.inl h3))))))
 ·exact hold (.inr (.inr (.inr (.inr (.inr (.inr h3))))))
theorem Tn.nextb (h : Tn w0 W t M I) {c : Int} {e : Ending} (hp : NextBad w0 I.sg (!M.cl) c W e W') : e = .returned (.tuple #[.agg #[.bool false, .int .u8 0, .bool false, .int .u32 0, .slice none 0 0], .agg #[.int .u8 3, .int .u32 c], .bool true]) ∧ Tn w0 W' t (M.wl [] true) { I with vs := .slice none 0 0 } ∧ Kf W W' (TF M I t) (TF (M.wl [] true) { I with vs := .slice none 0 0 } t) := by
 obtain ⟨he, hsp, hB, hk⟩ := hp
 have hsz : W.heap.size ≤ W'.heap.size := by
  rcases Nat.lt_or_ge W'.heap.size W.heap.size with hl | hl
  ·exfalso
   have hsg := blk_lt hsp.blk
   have := hk W'.heap.size hl (by omega)
   rw [Array.getElem?_eq_none (Nat.le_refl _), Array.getElem?_eq_getElem hl] at this
   cases this
  ·exact hl
 exact ⟨he, h.setSplit hsp hB hsz (fun k x y _ => hk k x y) (fun k e => by cases e) (by decide) rfl⟩
theorem Imq.te {g gu : Nat} {v u : Value} {b f : List Int} {busy te te2 over : Bool} (h : Imq w0 W g v u b busy te over gu f) (ht : over = false → te2 = te) : Imq w0 W g v u b busy te2 over gu f := by
 cases over with
 | false => rw [ht rfl]; exact h
 | true =>
  refine ⟨h.bel, h.base, ?_⟩
  rcases h.st with ⟨h1, _⟩ | ⟨h1, h2, h3, bu, te1, u1, h4⟩
  ·cases h1
  ·exact .inr ⟨rfl, h2, h3, bu, te1, u1, h4⟩
theorem Tn.take (h : Tn w0 W t M I) {p : Pc} (hby : ∀ x ∈ p.f4, 0 ≤ x ∧ x ≤ 255) {b' nd : List Int} {busy' te' over' tx ok : Bool} {kind code : Int} {v' u' vn : Value} {gu' : Nat} {f' : List Int} (hq : TakeQ w0 W I.gg I.v I.u M.b M.busy M.te M.over p.f0 p.f1 p.f4 W' b' busy' te' over' kind tx code nd ok v' u' gu' f' vn) :
  (gF M.b M.busy M.te M.over p.f0 p.f1 p.f4).2.2.2.2.1 = ⟨kind, tx, nd, code⟩ ∧ (gF M.b M.busy M.te M.over p.f0 p.f1 p.f4).2.2.2.2.2 = ok ∧ Tn w0 W' t (M.wg p) { I with v := v', u := u', gu := gu', f := f' } ∧ Kf W W' (TF M I t) (TF (M.wg p) { I with v := v', u := u', gu := gu', f := f' } t) ∧ (∀ k, vn.ownBlock = some k → ¬ TF (M.wg p) { I with v := v', u := u', gu := gu', f := f' } t k) := by
 obtain ⟨te2, hgf, hte⟩ := hq.stp.fn
 obtain ⟨hnob, hbyt, hblen⟩ := hq.stp.stays h.ok.nob h.ok.byt hby h.ok.blen
 have hMo : (M.wg p).over = over' := by unfold TM.wg; rw [hgf]
 have hMG : M.wg p = { M with b := b', busy := busy', te := te2, over := over' } := by unfold TM.wg; rw [hgf]
 have hst := hq.keep
 have gfne : ∀ {k : Nat} {cs : Array Value} {ty : TypeId}, W.heap[k]? = some (.cells cs ty (0, 0)) → ty ≠ 119 → ty ≠ 155 → ty ≠ 5 → ¬ GF I.v I.u M.over I.gg k := fun hb a b c => h.gf_ne hb a b c
 have rowne : ∀ {v : Value} {xs : List Int}, Kd.R (Kd.int .u8) 5 W w0.heap.size (fun _ => True) v xs → (M.over = false → ∀ k, I.v.ownBlock = some k → v.ownBlock ≠ some k) → ∀ k, v.ownBlock = some k → ¬ GF I.v I.u M.over I.gg k := fun hr hne k e => byte_gf h.gt hr e (fun ho e2 => hne ho k e2 e)
 have hvo := rowne h.out (fun ho k e => (h.a2 ho k e).1)
 have hvs := rowne h.sp.row (fun ho k e => (h.a2 ho k e).2)
 have hkey : ∀ k, I.vk.ownBlock = some k → ¬ GF I.v I.u M.over I.gg k := fun k e => by
  obtain ⟨c, hc⟩ := Kd.R_typed h.ks k e
  exact gfne hc (by decide) (by decide) (by decide)
 have oldrow : ∀ k, (I.vo.ownBlock = some k ∨ I.vs.ownBlock = some k) → ¬ GF v' u' over' I.gg k := fun k e hk => by
  have hlt : k < W.heap.size := e.elim (Kd.R_lt h.out k) (Kd.R_lt h.sp.row k)
  have hn : ¬ GF I.v I.u M.over I.gg k := e.elim (hvo k) (hvs k)
  exact (hq.new k hk).elim hn (fun e => by omega)
 refine ⟨by rw [hgf], by rw [hgf], ?_, ?_, ?_⟩
 ·rw [hMG]
  refine ⟨hq.imp.bel, (hst t (blk_lt h.blk) (gfne h.blk (by decide) (by decide) (by decide))).trans h.blk, h.base, row_keep32 h.ks (fun k e => hst k (Kd.R_lt h.ks k e) (hkey k e)), ⟨(hst _ (blk_lt h.sp.blk) (gfne h.sp.blk (by decide) (by decide) (by decide))).trans h.sp.blk, row_keep8 h.sp.row (fun k e => hst k (Kd.R_lt h.sp.row k e) (hvs k e))⟩, h.sbase, hq.imp.te hte, ⟨(hst _ (blk_lt h.dr.1) (gfne h.dr.1 (by decide) (by decide) (by decide))).trans h.dr.1, h.dr.2⟩, row_keep8 h.out (fun k e => hst k (Kd.R_lt h.out k e) (hvo k e)), h.a1, fun ho k e => ⟨fun e2 => oldrow k (.inl e2) (.inr ⟨ho, .inl e⟩), fun e2 => oldrow k (.inr e2) (.inr ⟨ho, .inl e⟩)⟩, { h.ok with nob := hnob, blen := hblen, byt := hbyt }⟩
 ·rw [hMG]
  refine ⟨hq.size, fun k hlt hn => hst k hlt (fun e => hn (.inr (.inr (.inr (.inl e))))), fun k hk => ?_⟩
  rcases hk with hk | hk | hk | hk | hk | hk | hk
  ·exact .inl (.inl hk)
  ·exact .inl (.inr (.inl hk))
  ·exact .inl (.inr (.inr (.inl hk)))
  ·exact (hq.new k hk).imp_left (fun e => .inr (.inr (.inr (.inl e))))
  ·exact .inl (.inr (.inr (.inr (.inr (.inl hk)))))
  ·exact .inl (.inr (.inr (.inr (.inr (.inr (.inl hk))))))
  ·exact .inl (.inr (.inr (.inr (.inr (.inr (.inr hk))))))
 ·intro k e hk
  rw [hMG] at hk
  have hbt : ¬ GF v' u' over' I.gg k := hq.row.1 k e
  obtain ⟨c, hc⟩ := Kd.R_typed hq.row k e
  have hnew := hq.note k e
  have ty : ∀ {g : Nat} {cs : Array Value} {ty : TypeId}, W.heap[g]? = some (.cells cs ty (0, 0)) → ty ≠ 119 → ty ≠ 155 → ty ≠ 5 → k ≠ g := fun hg a b c2 e2 => by
   subst e2
   have h2 := (hst k (blk_lt hg) (gfne hg a b c2)).trans hg
   rw [hc] at h2
   injection h2 with h2
   injection h2 with _ h2 _
   exact c2 h2.symm
  have rw_ : ∀ {v : Value} {xs : List Int}, Kd.R (Kd.int .u8) 5 W w0.heap.size (fun _ => True) v xs → (∀ k, v.ownBlock = some k → ¬ GF I.v I.u M.over I.gg k) → v.ownBlock ≠ some k := fun hr hn e2 => hnew.elim (hn k e2) (fun h3 => by have := Kd.R_lt hr k e2; omega)
  rcases hk with hk | hk | hk | hk | hk | hk | hk
  ·exact ty h.blk (by decide) (by decide) (by decide) hk
  ·exact ty h.sp.blk (by decide) (by decide) (by decide) hk
  ·exact ty h.dr.1 (by decide) (by decide) (by decide) hk
  ·exact hbt hk
  ·exact rw_ h.sp.row hvs hk
  ·exact rw_ h.out hvo hk
  ·obtain ⟨c2, hc2⟩ := Kd.R_typed h.ks k hk
   exact ty hc2 (by decide) (by decide) (by decide) rfl
end
end Go.Proofs.YtpmeapdcjmaeiaaGreatDoor
namespace Go.Proofs.YtpmeapdcjmaeiaaGreatDoor
open Go.RowKit Go.Wa Go.Wb Go.Wc PAll U
theorem head_small {l : List Int} {m : Bool} (h : (headF l m).2.2.2 = 0) (ht : (headF l m).2.2.1 = false) (h8 : 8 ≤ rd l 0 % 16) : (headF l m).2.1 ≤ 125 := by
 unfold headF at h ht ⊢
 split
 ·show (0 : Int) ≤ 125; decide
 ·rename_i a1
  rw [if_neg a1] at h ht
  split
  ·show (0 : Int) ≤ 125; decide
  ·rename_i a2
   rw [if_neg a2] at h ht
   split
   ·show (0 : Int) ≤ 125; decide
   ·rename_i a3
    rw [if_neg a3] at h ht
    split
    ·show (0 : Int) ≤ 125; decide
    ·rename_i a4
     rw [if_neg a4] at h ht
     have h126 : rd l 1 % 128 < 126 := by
      rcases Int.lt_or_le (rd l 1 % 128) 126 with hh | hh
      ·exact hh
      ·exact absurd (.inr ⟨h8, hh⟩) a4
     have hl : lenF l = (rd l 1 % 128, 2, false, 0) := by
      unfold lenF
      rw [if_neg (by omega), if_neg (by omega)]
     rw [hl]
     simp only
     split
     ·show (0 : Int) ≤ 125; decide
     ·split
      ·show (0 : Int) ≤ 125; decide
      ·split
       ·show (0 : Int) ≤ 125; decide
       ·show rd l 1 % 128 ≤ 125
        omega
theorem frame_piece {l : List Int} {m : Bool} (h : IsFr l m) (hl : l.all isByte = true) : (8 ≤ (pieceOf (l.take (size1 l m)) m).f1 → (pieceOf (l.take (size1 l m)) m).f4.length ≤ 125) ∧ (pieceOf (l.take (size1 l m)) m).f4.length ≤ 4096 ∧ (∀ x ∈ (pieceOf (l.take (size1 l m)) m).f4, Byte x) ∧ 2 ≤ size1 l m := by
 have hcut := h.cut hl
 obtain ⟨m1, m2, m3, m4, m5⟩ := h.min hl
 have hr := h.room
 have hlen : (l.take (size1 l m)).length = size1 l m := by rw [List.length_take]; omega
 have hraw : (rawOf (l.take (size1 l m)) m).length = (headF l m).2.1.toNat := by
  unfold rawOf
  rw [List.length_drop, hlen, hcut]
  omega
 have hd : (dataOf (l.take (size1 l m)) m).length = (headF l m).2.1.toNat := by
  unfold dataOf
  split
  ·rw [turned_len, hraw]
  ·exact hraw
 have hb : ∀ x ∈ rawOf (l.take (size1 l m)) m, Byte x := fun x hx => by
  have h1 := take_byte hl (size1 l m)
  have h2 := drop_byte h1 (headF (l.take (size1 l m)) m).1.toNat
  rw [List.all_eq_true] at h2
  exact isByte_iff.1 (h2 x hx)
 refine ⟨fun h8 => ?_, ?_, fun x hx => ?_, by omega⟩
 ·have h8' : 8 ≤ rd (l.take (size1 l m)) 0 % 16 := h8
  have hs := head_small (l := l.take (size1 l m)) (m := m) (by rw [hcut]; exact h.code) (by rw [hcut]; exact h.told) h8'
  rw [hcut] at hs
  show (dataOf _ _).length ≤ 125
  rw [hd]
  omega
 ·show (dataOf _ _).length ≤ 4096
  rw [hd]
  omega
 ·have hx' : x ∈ dataOf (l.take (size1 l m)) m := hx
  unfold dataOf at hx'
  split at hx'
  ·exact turned_byte _ _ hb x hx'
  ·exact hb x hx'
theorem putL_small {op : Int} {mk : Bool} {key : Int} {d : List Int} (hd : d.length ≤ 125) : (putL true op mk key d).length ≤ 131 := by
 have h1 : (if d.length < 126 then ([] : List Int) else [(d.length : Int) / 256 % 256, (d.length : Int) % 256]) = [] := if_pos (by omega)
 unfold putL
 rw [h1]
 have hk : (PAll.keyOf key).length = 4 := rfl
 cases mk with
 | true =>
  simp only [List.nil_append, List.length_cons, if_true, List.length_append, turned_len]
  omega
 | false =>
  simp only [List.nil_append, List.length_cons, if_neg (show ¬ (false = true) by decide)]
  omega
structure Grow (N N' : TM) : Prop where
 cl : N'.cl = N.cl
 keys : N'.keys = N.keys
 key : N'.key ≤ N.key + 1
 out : N'.out.length ≤ N.out.length + 131
theorem Grow.refl (N : TM) : Grow N N := ⟨rfl, rfl, by omega, by omega⟩
theorem put_grow (N : TM) (op : Int) (d : List Int) (hd : d.length ≤ 125) : Grow N (putM N true op d) := by
 refine ⟨rfl, rfl, ?_, ?_⟩
 ·show N.key' ≤ N.key + 1
  unfold TM.key'
  split
  ·split <;> omega
  ·omega
 ·show (N.out ++ putL true op N.cl N.nkey d).length ≤ _
  rw [List.length_append]
  have := putL_small (op := op) (mk := N.cl) (key := N.nkey) hd
  omega
theorem send_grow (N : TM) (d : List Int) (hd : d.length ≤ 125) : Grow N (sendM N d) := by
 unfold sendM
 split
 ·exact Grow.refl N
 ·have := put_grow { N with sent := true } 8 d hd
  exact ⟨this.cl, this.keys, this.key, this.out⟩
theorem bad_grow (N : TM) (c : Int) : Grow N (badM N c) := by
 unfold badM
 split
 ·exact Grow.refl N
 ·have := send_grow { N with cause := 2, ecode := c } _ (dataE_len c)
  exact ⟨this.cl, this.keys, this.key, this.out⟩
theorem got_grow (N : TM) (c : Int) : Grow N (gotM N c) := by
 unfold gotM
 split
 ·exact Grow.refl N
 ·have := send_grow { N with got := true, code := c } _ (dataE_len c)
  exact ⟨this.cl, this.keys, this.key, this.out⟩
theorem takes_grow (N : TM) (n : Nt) (hn : n.f0 = 2 → n.f2.length ≤ 125) : Grow N (takesM N n).1 := by
 unfold takesM
 split
 ·exact bad_grow N _
 ·split
  ·exact got_grow N _
  ·split
   ·rename_i h2
    split
    ·exact Grow.refl N
    ·split
     ·exact bad_grow N _
     ·have := put_grow { N with pongs := N.pongs + 1 } 10 n.f2 (hn h2)
      exact ⟨this.cl, this.keys, this.key, this.out⟩
   ·exact Grow.refl N
theorem closeM_kind (d : List Int) : (closeM d).1 = 4 ∨ (closeM d).1 = 5 := by
 unfold closeM
 split
 ·exact .inl rfl
 ·exact .inr rfl
 ·split
  ·split
   ·exact .inl rfl
   ·exact .inr rfl
  ·exact .inr rfl
theorem note_two (N : TM) (p : Pc) (h : (N.note p).f0 = 2) : (N.note p).f2 = p.f4 ∧ p.f1 = 9 := by
 unfold TM.note gF at h ⊢
 split
 ·rename_i a; rw [if_pos a] at h; exact absurd h (by show ¬ (0 : Int) = 2; decide)
 ·rename_i a
  rw [if_neg a] at h
  split
  ·rename_i a1
   rw [if_pos a1] at h
   split
   ·rename_i a2; rw [if_pos a2] at h; exact absurd h (by show ¬ (5 : Int) = 2; decide)
   ·rename_i a2
    rw [if_neg a2] at h
    split
    ·rename_i a3; rw [if_pos a3] at h; exact absurd h (by show ¬ (1 : Int) = 2; decide)
    ·rename_i a3; rw [if_neg a3] at h; exact absurd h (by show ¬ (0 : Int) = 2; decide)
  ·rename_i a1
   rw [if_neg a1] at h
   split
   ·rename_i a2
    rw [if_pos a2] at h
    have h' : (closeM p.f4).1 = 2 := h
    rcases closeM_kind p.f4 with e | e <;> rw [e] at h' <;> exact absurd h' (by decide)
   ·rename_i a2
    rw [if_neg a2] at h
    split
    ·rename_i a3; exact ⟨rfl, a3⟩
    ·rename_i a3
     rw [if_neg a3] at h
     split
     ·rename_i a4; rw [if_pos a4] at h; exact absurd h (by show ¬ (3 : Int) = 2; decide)
     ·rename_i a4; rw [if_neg a4] at h; exact absurd h (by show ¬ (5 : Int) = 2; decide)
theorem take_grow (N : TM) (p : Pc) (hp : 8 ≤ p.f1 → p.f4.length ≤ 125) : Grow N (takeM N p).1 ∧ (takeM N p).2.length ≤ 1 := by
 have hn : (N.note p).f0 = 2 → (N.note p).f2.length ≤ 125 := fun h => by
  obtain ⟨e1, e2⟩ := note_two N p h
  rw [e1]
  exact hp (by omega)
 unfold takeM
 split
 ·have := takes_grow (N.wg p) (N.note p) hn
  exact ⟨⟨this.cl, this.keys, this.key, this.out⟩, Nat.le_refl _⟩
 ·exact ⟨⟨rfl, rfl, by show N.key ≤ _; omega, by show N.out.length ≤ _; omega⟩, Nat.zero_le _⟩
theorem closeM_bytes {d : List Int} (hd : ∀ x ∈ d, 0 ≤ x ∧ x ≤ 255) : ∀ x ∈ (closeM d).2.1, 0 ≤ x ∧ x ≤ 255 := by
 intro x hx
 unfold closeM at hx
 split at hx
 ·cases hx
 ·cases hx
 ·rename_i a b r
  split at hx
  ·split at hx
   ·exact hd x (List.mem_cons_of_mem _ (List.mem_cons_of_mem _ hx))
   ·cases hx
  ·cases hx
theorem Stp.bytes {b b' nd d : List Int} {busy te over fin busy' te' over' tx ok : Bool} {op kind code : Int} (hs : Stp b busy te over fin op d b' busy' te' over' kind tx code nd ok) (hb8 : ∀ x ∈ b, 0 ≤ x ∧ x ≤ 255) (hd8 : ∀ x ∈ d, 0 ≤ x ∧ x ≤ 255) : ∀ x ∈ nd, 0 ≤ x ∧ x ≤ 255 := by
 cases hs with
 | told h ho hc hf => exact fun x hx => (List.mem_append.1 hx).elim (hb8 x) (hd8 x)
 | ping h ho => exact hd8
 | pong h ho => exact hd8
 | close h ho tn => exact closeM_bytes hd8
 | over h => exact fun x hx => (by cases hx)
 | more h ho hc hf => exact fun x hx => (by cases hx)
 | part h ho hc tn => exact fun x hx => (by cases hx)
 | other h ho tn => exact fun x hx => (by cases hx)
theorem runM_end (N : TM) (ps : List Pc) (cd : Int) (h : N.cause ≠ 0) : runM N ps cd = (N, []) := by
 cases ps with
 | nil => unfold runM; rw [if_pos h]
 | cons p ps => unfold runM; rw [if_pos h]
theorem runM_bad (N : TM) (cd : Int) (h : N.cause = 0) (hc : cd ≠ 0) : runM N [] cd = (badM N cd, [bNote cd]) := by
 unfold runM; rw [if_neg (by rw [h]; decide), if_pos hc]
theorem runM_stop (N : TM) (h : N.cause = 0) : runM N [] 0 = (N, []) := by
 unfold runM; rw [if_neg (by rw [h]; decide), if_neg (by decide)]
theorem runM_cons (N : TM) (p : Pc) (ps : List Pc) (cd : Int) (h : N.cause = 0) : runM N (p :: ps) cd = ((runM (takeM N p).1 ps cd).1, (takeM N p).2 ++ (runM (takeM N p).1 ps cd).2) := by
 conv => lhs; unfold runM
 rw [if_neg (by rw [h]; decide)]
theorem bad_cause (N : TM) (c : Int) : (badM N c).cause ≠ 0 := by
 unfold badM
 split
 ·assumption
 ·unfold sendM
  split
  ·show (2 : Int) ≠ 0; decide
  ·show (2 : Int) ≠ 0; decide
theorem row_kf {α : Type} {kd : Kd α} {e base : Nat} {W W' : World} {F F' P : Nat → Prop} {v : Value} {xs : List α} (h : kd.R e W base (fun k => ¬ F k ∧ P k) v xs) (hK : Kf W W' F F') : kd.R e W' base (fun k => ¬ F' k ∧ P k) v xs :=
 Kd.R_mono (Kd.R_step (Kd.R_bound h) (fun k hk hlt => hK.keep k hlt hk.1.1)) (fun k hk => ⟨fun hf => (hK.new k hf).elim hk.1.1 (fun e => by have := hk.2.2.1; omega), hk.1.2⟩)
theorem row_kfx {α : Type} {kd : Kd α} {e base g : Nat} {W W' : World} {F F' P : Nat → Prop} {v : Value} {xs : List α} (h : kd.R e W base (fun k => (¬ F k ∧ P k) ∧ k ≠ g) v xs) (hK : Kf W W' F F') : kd.R e W' base (fun k => (¬ F' k ∧ P k) ∧ k ≠ g) v xs :=
 Kd.R_mono (Kd.R_step (Kd.R_bound h) (fun k hk hlt => hK.keep k hlt hk.1.1.1)) (fun k hk => ⟨⟨fun hf => (hK.new k hf).elim hk.1.1.1 (fun e => by have := hk.2.2.1; omega), hk.1.1.2⟩, hk.1.2⟩)
theorem row_newx {α : Type} {kd : Kd α} {e base : Nat} {W W' : World} {F : Nat → Prop} {v : Value} {xs : List α} (h : kd.R e W base F v xs) (hb : Below W.heap.size W W') : kd.R e W' base (fun k => F k ∧ k ≠ W.heap.size) v xs :=
 Kd.R_mono (Kd.R_step (Kd.R_bound h) (fun k hk hlt => hb.block k hlt)) (fun k hk => ⟨hk.1, fun e => by have := hk.2.2.1; omega⟩)
structure Fd (w0 W : World) (t : Nat) (M : TM) (I : TI) (ps : List Pc) (cd : Int) (left : List Int) (N : TM) (l1 : List Int) (s1 : Bool) (I1 : TI) (xc : List Int) (ps1 : List Pc) (ns1 : List Nt) (Ab : Option Addr) (cb : Nat) (ov : Value) (wr : World) : Prop where
 tn : Tn w0 wr t (N.wl l1 s1) I1
 kf : Kf W wr (TF M I t) (TF (N.wl l1 s1) I1 t)
 ap : Ap W (TF M I t) Ab xc
 row : Kd.R k37 37 wr w0.heap.size (fun k => ¬ TF (N.wl l1 s1) I1 t k ∧ (TF M I t k ∨ W.heap.size ≤ k)) ov ns1
 ovn : ∀ k, ov.ownBlock = some k → W.heap.size ≤ k
 xb : xc.all isByte = true
 xl : xc.length ≤ cb
 cl : N.cl = M.cl
 live : N.cause = 0 → s1 = false
 all : N.cause = 0 → AllP (!M.cl) (l1 ++ xc) ps1 cd left
 run : runM M ps cd = ((runM N ps1 cd).1, ns1 ++ (runM N ps1 cd).2)
 cnt : N.cause = 0 → ns1.length + ps1.length ≤ ps.length
 key : N.cause = 0 → N.key + ps1.length ≤ M.key + ps.length
 len : N.cause = 0 → N.out.length + 131 * ps1.length ≤ M.out.length + 131 * ps.length
def FdR (w0 W : World) (t : Nat) (M : TM) (I : TI) (ps : List Pc) (cd : Int) (left : List Int) (mu : Nat) (bv ov : Value) (wr : World) : Prop :=
 ∃ (N : TM) (l1 : List Int) (s1 : Bool) (I1 : TI) (xc : List Int) (ps1 : List Pc) (ns1 : List Nt) (Ab : Option Addr) (cb : Nat), bv = .slice Ab xc.length cb ∧ mu = 2 * (l1.length + xc.length) + xc.length ∧ Fd w0 W t M I ps cd left N l1 s1 I1 xc ps1 ns1 Ab cb ov wr
def FeedP (w0 W : World) (t : Nat) (M : TM) (I : TI) (ps : List Pc) (cd : Int) (left : List Int) (e : Ending) (w' : World) : Prop :=
 ∃ l' s' I' An cn, e = .returned (.slice An (runM M ps cd).2.length cn) ∧ Tn w0 w' t ((runM M ps cd).1.wl l' s') I' ∧ Kf W w' (TF M I t) (TF ((runM M ps cd).1.wl l' s') I' t) ∧ Kd.R k37 37 w' w0.heap.size (fun k => ¬ TF ((runM M ps cd).1.wl l' s') I' t k ∧ (TF M I t k ∨ W.heap.size ≤ k)) (.slice An (runM M ps cd).2.length cn) (runM M ps cd).2 ∧ ((runM M ps cd).1.cause = 0 → l' = left ∧ s' = false)
theorem FeedP.mk_ {w0 W : World} {t : Nat} {M : TM} {I : TI} {ps : List Pc} {cd : Int} {left : List Int} {N : TM} {l1 : List Int} {s1 : Bool} {I1 : TI} {ns1 : List Nt} {A : Option Addr} {n c : Nat} {w' : World} (hr : runM M ps cd = (N, ns1)) (ht : Tn w0 w' t (N.wl l1 s1) I1) (hk : Kf W w' (TF M I t) (TF (N.wl l1 s1) I1 t)) (hw : Kd.R k37 37 w' w0.heap.size (fun k => ¬ TF (N.wl l1 s1) I1 t k ∧ (TF M I t k ∨ W.heap.size ≤ k)) (.slice A n c) ns1) (hl : N.cause = 0 → l1 = left ∧ s1 = false) : FeedP w0 W t M I ps cd left (.returned (.slice A n c)) w' := by
 obtain ⟨A', c', e⟩ := Kd.R_slice hw
 injection e with e1 e2 e3
 subst e2
 unfold FeedP
 rw [hr]
 exact ⟨l1, s1, I1, A, c, rfl, ht, hk, hw, hl⟩
theorem all_frame {m : Bool} {l : List Int} {ps : List Pc} {c : Int} {r : List Int} (h : AllP m l ps c r) (hf : IsFr l m) : ∃ ps', ps = pieceOf (l.take (size1 l m)) m :: ps' ∧ AllP m (l.drop (size1 l m)) ps' c r := by
 cases h with
 | bad h1 => exact absurd hf.code h1
 | stop h1 h2 => exact absurd hf h2
 | frame h1 h2 => exact ⟨_, rfl, h2⟩
theorem all_bad {m : Bool} {l : List Int} {ps : List Pc} {c : Int} {r : List Int} (h : AllP m l ps c r) (hb : code1 l m ≠ 0) : ps = [] ∧ c = code1 l m := by
 cases h with
 | bad h1 => exact ⟨rfl, rfl⟩
 | stop h1 h2 => exact absurd h1 hb
 | frame h1 h2 => exact absurd h1.code hb
theorem all_stop {m : Bool} {l : List Int} {ps : List Pc} {c : Int} {r : List Int} (h : AllP m l ps c r) (h1 : code1 l m = 0) (h2 : ¬ IsFr l m) : ps = [] ∧ c = 0 ∧ r = l := by
 cases h with
 | bad h3 => exact absurd h1 h3
 | stop h1 h2 => exact ⟨rfl, rfl, rfl⟩
 | frame h3 h4 => exact absurd h3 h2
theorem code_app {l x : List Int} {m : Bool} (h : code1 l m ≠ 0) : code1 (l ++ x) m = code1 l m := by
 unfold code1
 rw [headF_app l x m (code1_told h)]
theorem frame_app {l x : List Int} {m : Bool} (h : IsFr l m) : pieceOf ((l ++ x).take (size1 (l ++ x) m)) m = pieceOf (l.take (size1 l m)) m ∧ (l ++ x).drop (size1 (l ++ x) m) = l.drop (size1 l m) ++ x := by
 obtain ⟨_, hs⟩ := h.app x
 rw [hs, List.take_append_of_le_length h.room, List.drop_append_of_le_length h.room]
 exact ⟨rfl, rfl⟩
theorem tfeed {w0 W : World} {t : Nat} {M : TM} {I : TI} (h : Tn w0 W t M I) {x : List Int} {A : Option Addr} {c : Nat} (hx : Ap W (TF M I t) A x) (hc : x.length ≤ c) (hxb : x.all isByte = true) {ps : List Pc} {cd : Int} {left : List Int} (hlive : M.cause = 0 → M.sbad = false) (hall : AllP (!M.cl) (M.l ++ x) ps cd left) (hkb : M.key + ps.length + 2 < 9223372036854775807) (hol : M.out.length + 131 * ps.length + 500 ≤ 1000000) (hg : Cond w0) : Calls Tryz.prog 11 #[.pointer (some ⟨t, 0, none⟩), .slice A x.length c] W (FeedP w0 W t M I ps cd left) := by
 have hu37 := Tryz.underlying37
 have hu81 := Tryz.underlying81
 have hu87 := Tryz.underlying87
 have hff_ := field87_1
 have HCO := a_ hg
 have HBD := a_ (And.intro hkb hol)
 have hinfo : (Tryz.prog.info? 37).map (fun i => (i.zero, i.size, i.bytes)) = some (some (.agg #[.int .u8 0, .bool false, .slice none 0 0, .int .u32 0]), 4, 40) := by kernel_rfl
 have HI := a_ hinfo
 clear hinfo
 have h0 : Fd w0 W t M I ps cd left M M.l M.sbad I x ps [] A c (.slice none 0 0) W := ⟨h, Kf.refl _ _, hx, Kd.R_nil _ _ _ _ _, fun k e => (by cases e), hxb, hc, rfl, hlive, fun _ => hall, by simp, fun _ => by simp, fun _ => Int.le_refl _, fun _ => Nat.le_refl _⟩
 have H0 := a_ h0
 clear h0 h hx hxb hc hlive hall hkb hol hg
 go_enter Tryz.func11, Tryz.ntmps11
 go_wp2_with fail
 go_loopg [1, 5] (2 * (M.l.length + x.length) + x.length) (fun mu bv ov wr => FdR w0 W t M I ps cd left mu bv ov wr)
 case atStart => exact ⟨M, M.l, M.sbad, I, x, ps, [], A, c, rfl, rfl, H0.out⟩
 case round =>
  clear H0
  obtain ⟨N, l1, s1, I1, xc, ps1, ns1, Ab, cb, rfl, hmu, hF⟩ := hrel
  have HMU := a_ hmu
  have HF := a_ hF
  have HT := a_ hF.tn
  have HK := a_ hF.kf
  have HA := a_ hF.ap
  have HR := a_ hF.row
  have HOV := a_ hF.ovn
  clear hF hmu
  have t5 : wr.cell? ⟨t, 5, none⟩ = some (.pointer (some ⟨I1.dg, 0, none⟩)) := (blk_cell HT.out.blk 5).trans rfl
  by_cases hca : N.cause = 0
  ·have hcb : ((N.wl l1 s1).cause != 0) = false := by simp [TM.wl, hca]
   have hs1 : s1 = false := HF.out.live hca
   subst hs1
   have HALL := a_ (HF.out.all hca)
   have HCNT := a_ (And.intro (HF.out.cnt hca) (And.intro (HF.out.key hca) (HF.out.len hca)))
   go_wp2_with fail
   refine (closing_Door_Through.calls I1.dg (N.wl l1 false).sent (N.wl l1 false).got (N.wl l1 false).code (N.wl l1 false).cause (N.wl l1 false).ecode ((N.wl l1 false).cause != 0) (N.wl l1 false).sent (N.wl l1 false).got (N.wl l1 false).code (N.wl l1 false).cause (N.wl l1 false).ecode w0 _ HT.out.dr HT.out.bel rfl).mono ?_
   rintro e w2 ⟨rfl, hI2, hB2, hK2⟩
   obtain ⟨hT2, hK12⟩ := HT.out.setDoor hI2 hB2 hK2
   have hkf_ := (show Kf wr w2 (TF (N.wl l1 false) I1 t) (TF (N.wl l1 false) I1 t) from hK12)
   have HT' := a_ ((show Tn w0 w2 t (N.wl l1 false) I1 from hT2))
   have HK' := a_ (HK.out.trans hkf_)
   have HR' := a_ (row_kf HR.out hkf_)
   clear hkf_ HT HK HR hT2 hK12 hI2 hB2 hK2
   have HT := HT'
   have HK := HK'
   have HR := HR'
   clear HT' HK' HR'
   simp only [hcb]
   clear t5 hcb
   have HCA := a_ hca
   clear hca
   have t3 : w2.cell? ⟨t, 3, none⟩ = some (.pointer (some ⟨I1.sg, 0, none⟩)) := (blk_cell HT.out.blk 3).trans rfl
   obtain ⟨n, hn⟩ : ∃ n, n = min xc.length (4110 - l1.length) := ⟨_, rfl⟩
   have HN := a_ hn
   have HLL : Aside0 (l1.length ≤ 4110) := ⟨HT.out.ok.llen⟩
   go_wp2_with fail
   refine (Feed_any HT.out.sp HT.out.bel HT.out.sbase (HA.out _ HK.out.size HK.out.keep) HF.out.xl HLL.out hn).mono ?_
   rintro e w3 hp
   have hl3 : (l1 ++ xc.take n).length ≤ 4110 := by rw [List.length_append, List.length_take]; have := HLL.out; have := HN.out; omega
   have hb3 : (l1 ++ xc.take n).all isByte = true := app_byte HT.out.ok.lbyt (take_byte HF.out.xb n)
   obtain ⟨vs3, rfl, hT3, hK3⟩ := HT.out.feed hp hl3 hb3
   replace hT3 : Tn w0 w3 t (N.wl (l1 ++ xc.take n) false) { I1 with vs := vs3 } := hT3
   replace hK3 : Kf w2 w3 (TF (N.wl l1 false) I1 t) (TF (N.wl (l1 ++ xc.take n) false) { I1 with vs := vs3 } t) := hK3
   obtain ⟨l2, hl2⟩ : ∃ l2, l2 = l1 ++ xc.take n := ⟨_, rfl⟩
   rw [← hl2] at hT3 hK3 hl3 hb3
   obtain ⟨I2, hI2⟩ : ∃ I2 : TI, I2 = { I1 with vs := vs3 } := ⟨_, rfl⟩
   rw [← hI2] at hT3 hK3
   have HDG := a_ (show I2.dg = I1.dg ∧ I2.gg = I1.gg ∧ I2.sg = I1.sg by rw [hI2]; exact ⟨rfl, rfl, rfl⟩)
   have hkf_ := (show Kf w2 w3 (TF (N.wl l1 false) I1 t) (TF (N.wl l2 false) I2 t) from hK3)
   have HT' := a_ ((show Tn w0 w3 t (N.wl l2 false) I2 from hT3))
   have HK' := a_ (HK.out.trans hkf_)
   have HR' := a_ (row_kf HR.out hkf_)
   have HL2 := a_ hl2
   have HB3 := a_ (And.intro hl3 hb3)
   clear hkf_ HT HK HR hT3 hK3 hp hl2 hl3 hb3 hI2 t3 hn
   have HT := HT'
   have HK := HK'
   have HR := HR'
   clear HT' HK' HR'
   obtain ⟨A3, c3, hcut, hC3, hc3⟩ := cut_left Ab cb n xc (by have := HN.out; omega) HF.out.xl
   obtain ⟨x2, hx2⟩ : ∃ x2, x2 = xc.drop n := ⟨_, rfl⟩
   rw [← hx2] at hcut hC3 hc3
   have HA2 : Aside0 (Ap W (TF M I t) A3 x2) := ⟨fun W' h1 h2 => hC3 W' (HA.out W' h1 h2)⟩
   have HX2 := a_ hx2
   have HC3 := a_ hc3
   have HALL2 : Aside0 (AllP (!M.cl) (l2 ++ x2) ps1 cd left) := ⟨by rw [HL2.out, hx2, List.append_assoc, List.take_append_drop]; exact HALL.out⟩
   clear hC3 hx2 hc3 HA HALL
   have HA := HA2
   clear HA2
   have hnl : n ≤ xc.length := by have := HN.out; omega
   go_upto_region 7 with fail
   clear hcut hnl
   have t3 : w3.cell? ⟨t, 3, none⟩ = some (.pointer (some ⟨I2.sg, 0, none⟩)) := (blk_cell HT.out.blk 3).trans rfl
   have HXB : Aside0 (x2.all isByte = true) := ⟨by rw [HX2.out]; exact drop_byte HF.out.xb n⟩
   have HLEN : Aside0 (l2.length = l1.length + n ∧ x2.length + n = xc.length) := ⟨by rw [HL2.out, HX2.out, List.length_append, List.length_take, List.length_drop]; have := HN.out; omega⟩
   by_cases hc : code1 l2 (!M.cl) = 0
   ·have HCL : Aside0 ((!(N.wl l2 false).cl) = (!M.cl)) := ⟨congrArg (fun b => !b) HF.out.cl⟩
    by_cases hf : IsFr l2 (!M.cl)
    ·go_wp2_with fail
     obtain ⟨p, hpp⟩ : ∃ p : Pc, p = pieceOf (l2.take (size1 l2 (!M.cl))) (!M.cl) := ⟨_, rfl⟩
     obtain ⟨l3, hl3⟩ : ∃ l3, l3 = l2.drop (size1 l2 (!M.cl)) := ⟨_, rfl⟩
     obtain ⟨hp8, hp4, hpb, hp2⟩ := frame_piece hf HB3.out.2
     rw [← hpp] at hp8 hp4 hpb
     obtain ⟨hfa1, hfa2⟩ := frame_app (x := x2) hf
     obtain ⟨ps2, hps, hall2⟩ := all_frame HALL2.out (hf.app x2).1
     rw [hfa1, ← hpp] at hps
     rw [hfa2, ← hl3] at hall2
     subst hps
     have hl3len : l3.length + 2 ≤ l2.length := by rw [hl3, List.length_drop]; have := hf.room; omega
     have HP8 := a_ (And.intro hp8 (And.intro hp4 hpb))
     have HALL3 := a_ hall2
     have HL3 := a_ hl3len
     have HB5 : Aside0 (l3.length ≤ 4110 ∧ l3.all isByte = true) := ⟨⟨by have := HB3.out.1; omega, by rw [hl3]; exact drop_byte HB3.out.2 _⟩⟩
     have hNF := Next_frame HT.out.sp HT.out.bel HT.out.sbase (HCO.out.below HT.out.bel) HB3.out.2 (show IsFr (N.wl l2 false).l (!(N.wl l2 false).cl) by rw [HCL.out]; exact hf) (by have := HB3.out.1; show l2.length ≤ _; omega) (show p = pieceOf ((N.wl l2 false).l.take (size1 (N.wl l2 false).l (!(N.wl l2 false).cl))) (!(N.wl l2 false).cl) by rw [hpp, HCL.out]; rfl)
     rw [show (N.wl l2 false).l.drop (size1 (N.wl l2 false).l (!(N.wl l2 false).cl)) = l3 by rw [hl3, HCL.out]; rfl] at hNF
     have HNF := a_ hNF
     clear hNF hpp hl3 hp8 hp4 hpb hp2 hfa1 hfa2 hall2 hl3len hc hf
     go_wp2_with fail
     refine HNF.out.mono ?_
     rintro e w5 hnp
     obtain ⟨vs5, pv, rfl, hT5, hK5, hpv, hpn⟩ := HT.out.nextf hnp HB5.out.1 HB5.out.2
     obtain ⟨I3, hI3⟩ : ∃ I3 : TI, I3 = { I2 with vs := vs5 } := ⟨_, rfl⟩
     replace hT5 : Tn w0 w5 t (N.wl l3 false) I3 := hI3 ▸ hT5
     replace hK5 : Kf w3 w5 (TF (N.wl l2 false) I2 t) (TF (N.wl l3 false) I3 t) := hI3 ▸ hK5
     replace hpn : ∀ k, pv.ownBlock = some k → ¬ TF (N.wl l3 false) I3 t k := hI3 ▸ hpn
     obtain ⟨Ap_, cp, rfl⟩ := Kd.R_slice hpv
     have HPV := a_ (row_ok (Kd.R_lower hpv HT.out.bel.size) hpn)
     have hkf_ := hK5
     have HT' := a_ (hT5)
     have HK' := a_ (HK.out.trans hkf_)
     have HR' := a_ (row_kf HR.out hkf_)
     clear hkf_ HT HK HR hT5 hK5 hnp hpv hpn HNF hI3
     have HT := HT'
     have HK := HK'
     have HR := HR'
     clear HT' HK' HR'
     go_upto_region 8 with fail
     have hb6 : Below w5.heap.size w5 ((w5.alloc (.cells #[.bool p.f0, .int .u8 p.f1, .bool p.f2, .int .u32 p.f3, .slice Ap_ p.f4.length cp] 81)).alloc (.cells #[.int .u8 0, .int .u32 0] 87)) := below_alloc (below_alloc (Below.refl _ _) _) _
     have hx0 : ((w5.alloc (.cells #[.bool p.f0, .int .u8 p.f1, .bool p.f2, .int .u32 p.f3, .slice Ap_ p.f4.length cp] 81)).alloc (.cells #[.int .u8 0, .int .u32 0] 87)).heap[w5.heap.size]? = some (.cells #[.bool p.f0, .int .u8 p.f1, .bool p.f2, .int .u32 p.f3, .slice Ap_ p.f4.length cp] 81 (0, 0)) := blk_alloc (last_at _ _ _ rfl) _
     have hx1 : ((w5.alloc (.cells #[.bool p.f0, .int .u8 p.f1, .bool p.f2, .int .u32 p.f3, .slice Ap_ p.f4.length cp] 81)).alloc (.cells #[.int .u8 0, .int .u32 0] 87)).heap[w5.heap.size + 1]? = some (.cells #[.int .u8 0, .int .u32 0] 87 (0, 0)) := last_at _ _ _ (by simp)
     generalize ((w5.alloc (.cells #[.bool p.f0, .int .u8 p.f1, .bool p.f2, .int .u32 p.f3, .slice Ap_ p.f4.length cp] 81)).alloc (.cells #[.int .u8 0, .int .u32 0] 87)) = w6 at hb6 hx0 hx1 ⊢
     have hkf_ := (Kf.refl w5 (TF (N.wl l3 false) I3 t)).below hb6
     have HT' := a_ (HT.out.below hb6)
     have HK' := a_ (HK.out.trans hkf_)
     have HR' := a_ (row_kf HR.out hkf_)
     have HPV6 := a_ (Kd.R_below HPV.out hb6)
     have HNP : Aside0 (¬ TF (N.wl l3 false) I3 t w5.heap.size) := ⟨fun hh => Nat.lt_irrefl _ (HT.out.lt hh)⟩
     clear hkf_ HT HK HR HPV t3
     have HT := HT'
     have HK := HK'
     have HR := HR'
     clear HT' HK' HR'
     have HPV := HPV6
     clear HPV6
     generalize w5.heap.size = gp at hx0 hx1 HNP ⊢
     clear hb6
     obtain ⟨y0, y1, y2, y3, y4⟩ := xl5_ hx0
     obtain ⟨z0, z1⟩ := xl2_ hx1
     have HX0 := a_ hx0
     clear hx0 hx1
     go_upto_region 11 with fail
     clear z0 z1
     have t4 : w6.cell? ⟨t, 4, none⟩ = some (.pointer (some ⟨I3.gg, 0, none⟩)) := (blk_cell HT.out.blk 4).trans rfl
     refine wp_region_noPanic ?_
     refine wp_region_held_drew (S := fun w' => w'.cell? ⟨t, 4, none⟩ = some (.pointer (some ⟨I3.gg, 0, none⟩)) ∧ w'.cell? ⟨gp, 0, none⟩ = some (.bool p.f0) ∧ w'.cell? ⟨gp, 1, none⟩ = some (.int .u8 p.f1) ∧ w'.cell? ⟨gp, 2, none⟩ = some (.bool p.f2) ∧ w'.cell? ⟨gp, 3, none⟩ = some (.int .u32 p.f3) ∧ w'.cell? ⟨gp, 4, none⟩ = some (.slice Ap_ p.f4.length cp)) (by kernel_rfl) (⟨t4, y0, y1, y2, y3, y4⟩) (fun hHeld => ?_)
     refine takeP 0 56 ?_
     refine takeP 1 57 ?_
     refine takeP 2 58 ?_
     refine takeP 3 59 ?_
     refine takeP 4 60 ?_
     clear t4 y0 y1 y2 y3 y4 hHeld
     have hbd : Below w6.heap.size w6 w6.drew := below_drew (Below.refl _ _)
     have hkf_ := (Kf.refl w6 (TF (N.wl l3 false) I3 t)).below hbd
     have HT' := a_ (HT.out.below hbd)
     have HK' := a_ (HK.out.trans hkf_)
     have HR' := a_ (row_kf HR.out hkf_)
     have HPV6 := a_ (Kd.R_below HPV.out hbd)
     have HX6 := a_ (blk_below HX0.out hbd)
     clear hkf_ HT HK HR HPV HX0 hbd
     have HT := HT'
     have HK := HK'
     have HR := HR'
     clear HT' HK' HR'
     have HPV := HPV6
     have HX0 := HX6
     clear HPV6 HX6
     generalize w6.drew = wd at HT HK HR HPV HX0 ⊢
     refine wpAnyH_ready (rs := [5, 9]) (by kernel_rfl) (by simp) ?_
     refine (AllReadyH.cons rfl (fun K hK => ?_) (AllReadyH.cons rfl (fun K hK => ?_) AllReadyH.nil))
     ·go_simp
      go_at_call 44
      refine (take_stepq (fin := p.f0) (op := p.f1) (mk := p.f2) (key := p.f3) (d := p.f4) HT.out.gt HT.out.ok.nob HT.out.ok.blen (Dat.of_row HPV.out) (fun ho k e e2 => HPV.out.1 k e (.inr (.inr (.inr (.inl (.inr ⟨ho, .inl e2⟩)))))) HP8.out.2.2 (by have := HP8.out.2.1; omega) HCO.out).mono ?_
      rintro e w7 ⟨b', busy', te', over', kind, tx, code, nd, ok, v', u', gu', f', vn, rfl, hq⟩
      obtain ⟨hq1, hq2, hT7, hK7, hvn⟩ := HT.out.take (p := p) HP8.out.2.2 hq
      obtain ⟨An, cn, rfl⟩ := Kd.R_slice hq.row
      obtain ⟨I4, hI4⟩ : ∃ I4 : TI, I4 = { I3 with v := v', u := u', gu := gu', f := f' } := ⟨_, rfl⟩
      replace hT7 : Tn w0 w7 t ((N.wg p).wl l3 false) I4 := hI4 ▸ hT7
      replace hK7 : Kf wd w7 (TF (N.wl l3 false) I3 t) (TF ((N.wg p).wl l3 false) I4 t) := hI4 ▸ hK7
      replace hvn : ∀ k, (Value.slice An nd.length cn).ownBlock = some k → ¬ TF ((N.wg p).wl l3 false) I4 t k := hI4 ▸ hvn
      have HGG := a_ (show I4.gg = I3.gg by rw [hI4])
      have HVN : Aside0 (Kd.R (Kd.int .u8) 5 w7 w0.heap.size (fun k => ¬ TF ((N.wg p).wl l3 false) I4 t k ∧ (TF M I t k ∨ W.heap.size ≤ k)) (.slice An nd.length cn) nd) := ⟨row_ok hq.row (fun k e => ⟨hvn k e, (hq.note k e).elim (fun e2 => HK.out.new k (.inr (.inr (.inr (.inl e2))))) (fun e2 => .inr (Nat.le_trans HK.out.size e2))⟩)⟩
      have HQ1 : Aside0 (N.note p = ⟨kind, tx, nd, code⟩) := ⟨hq1⟩
      have HQ2 : Aside0 (N.tells p = ok) := ⟨hq2⟩
      have HQB : Aside0 (∀ x ∈ nd, 0 ≤ x ∧ x ≤ 255) := ⟨hq.stp.bytes HT.out.ok.byt HP8.out.2.2⟩
      have hx7 := (hK7.keep _ (blk_lt HX0.out) HNP.out).trans HX0.out
      have hkf_ := hK7
      have HT' := a_ (hT7)
      have HK' := a_ (HK.out.trans hkf_)
      have HR' := a_ (row_kf HR.out hkf_)
      clear HX0
      have HX0 := a_ hx7
      clear hkf_ HT HK HR hT7 hK7 hvn hq1 hq2 hq hx7 hI4 HPV
      have HT := HT'
      have HK := HK'
      have HR := HR'
      clear HT' HK' HR'
      refine hK.out _ _ (⟨(blk_cell HT.out.blk 4).trans (by rw [show (tcells ((N.wg p).wl l3 false) I4)[4]? = some (.pointer (some ⟨I4.gg, 0, none⟩)) from rfl, HGG.out]), (blk_cell HX0.out 0).trans rfl, (blk_cell HX0.out 1).trans rfl, (blk_cell HX0.out 2).trans rfl, (blk_cell HX0.out 3).trans rfl, (blk_cell HX0.out 4).trans rfl⟩) (fun hHeld => ?_)
      clear hK K
      try simp only [Act.put, z1_, z2_, z3_]
      refine takeP 6 55 ?_
      refine takeP 7 62 ?_
      refine takeP 8 63 ?_
      clear hHeld
      refine wpAnyH_ready (rs := [9]) (by kernel_rfl) (by simp) ?_
      refine (AllReadyH.cons rfl (fun K hK => ?_) AllReadyH.nil)
      go_simp
      have hba : Below w7.heap.size w7 (w7.alloc (.cells #[.int .u8 0, .bool false, .slice none 0 0, .int .u32 0] 37)) := below_alloc (Below.refl _ _) _
      have hna : (w7.alloc (.cells #[.int .u8 0, .bool false, .slice none 0 0, .int .u32 0] 37)).heap[w7.heap.size]? = some (.cells #[.int .u8 0, .bool false, .slice none 0 0, .int .u32 0] 37 (0, 0)) := last_at _ _ _ rfl
      have HNX4 : Aside0 (¬ TF ((N.wg p).wl l3 false) I4 t w7.heap.size) := ⟨fun hh => Nat.lt_irrefl _ (HT.out.lt hh)⟩
      have HLG := a_ (And.intro HT.out.bel.size HK.out.size)
      have hax := blk_below HX0.out hba
      have hkf_ := (Kf.refl w7 (TF ((N.wg p).wl l3 false) I4 t)).below hba
      have hat_ := HT.out.below hba
      have har_ := row_newx HR.out hba
      have hak_ := HK.out.trans hkf_
      have hav_ := Kd.R_below HVN.out hba
      refine hK.out _ _ (⟨(blk_cell hat_.blk 4).trans (by rw [show (tcells ((N.wg p).wl l3 false) I4)[4]? = some (.pointer (some ⟨I4.gg, 0, none⟩)) from rfl, HGG.out]), (blk_cell hax 0).trans rfl, (blk_cell hax 1).trans rfl, (blk_cell hax 2).trans rfl, (blk_cell hax 3).trans rfl, (blk_cell hax 4).trans rfl⟩) (fun hHeld => ?_)
      clear hK K
      try simp only [Act.put, z1_, z2_, z3_]
      generalize w7.alloc (.cells #[.int .u8 0, .bool false, .slice none 0 0, .int .u32 0] 37) = wa at hna hax hat_ har_ hak_ hav_ hHeld ⊢
      generalize w7.heap.size = gx at hna har_ HNX4 HLG ⊢
      clear hba hkf_ HT HK HR HX0 HVN hHeld
      have HT := a_ hat_
      have HK := a_ hak_
      have HR := a_ har_
      have HX0 := a_ hax
      have HNB := a_ hna
      have HVN := a_ hav_
      clear hat_ har_ hak_ hav_ hax hna
      obtain ⟨n_0, nf_0, n_1, nf_1, n_2, nf_2, n_3, nf_3⟩ := xf4_ HNB.out
      have nl_ := blk_lt HNB.out
      refine wpAnyH_ready (rs := [10]) (by kernel_rfl) (by simp) ?_
      refine (AllReadyH.cons rfl (fun K hK => ?_) AllReadyH.nil)
      go_simp
      have hst_ : ∀ q_, q_ ≠ gx → ((((wa.setCell ⟨gx, 0, none⟩ (.int .u8 kind)).setCell ⟨gx, 1, none⟩ (.bool tx)).setCell ⟨gx, 2, none⟩ (.slice An nd.length cn)).setCell ⟨gx, 3, none⟩ (.int .u32 code)).heap[q_]? = wa.heap[q_]? := fun q_ e => heap_sets4 e
      have hat_ := HT.out.move (sets4 HT.out.bel HLG.out.1) (fun k hk => hst_ k (fun e => HNX4.out (e ▸ hk)))
      have hgpx : gp ≠ gx := fun e => by
       have h1 := HX0.out
       rw [e, HNB.out] at h1
       injection h1 with h1
       injection h1 with _ h1 _
       exact absurd h1 (by decide)
      have hax := (hst_ gp hgpx).trans HX0.out
      refine hK.out _ _ (⟨(blk_cell hat_.blk 4).trans (by rw [show (tcells ((N.wg p).wl l3 false) I4)[4]? = some (.pointer (some ⟨I4.gg, 0, none⟩)) from rfl, HGG.out]), (blk_cell hax 0).trans rfl, (blk_cell hax 1).trans rfl, (blk_cell hax 2).trans rfl, (blk_cell hax 3).trans rfl, (blk_cell hax 4).trans rfl⟩) (fun hHeld => ?_)
      clear hK K
      try simp only [Act.put, z1_, z2_, z3_]
      refine takeP 11 11 ?_
      refine wpAnyH_done (by kernel_rfl) ?_ _
      refine NoPanic.normal ?_
      have hak_ : Kf W ((((wa.setCell ⟨gx, 0, none⟩ (.int .u8 kind)).setCell ⟨gx, 1, none⟩ (.bool tx)).setCell ⟨gx, 2, none⟩ (.slice An nd.length cn)).setCell ⟨gx, 3, none⟩ (.int .u32 code)) (TF M I t) (TF ((N.wg p).wl l3 false) I4 t) := ⟨Nat.le_trans HK.out.size (by simp [World.setCell]), fun k hlt hn => (hst_ k (by have := HLG.out.2; omega)).trans (HK.out.keep k hlt hn), HK.out.new⟩
      have har_ := Kd.R_mono (Kd.R_step (w1 := (((wa.setCell ⟨gx, 0, none⟩ (.int .u8 kind)).setCell ⟨gx, 1, none⟩ (.bool tx)).setCell ⟨gx, 2, none⟩ (.slice An nd.length cn)).setCell ⟨gx, 3, none⟩ (.int .u32 code)) HR.out (fun k hk _ => hst_ k hk.2)) (fun k hk => hk.1)
      have hav_ := row_ok (row_keep (W' := (((wa.setCell ⟨gx, 0, none⟩ (.int .u8 kind)).setCell ⟨gx, 1, none⟩ (.bool tx)).setCell ⟨gx, 2, none⟩ (.slice An nd.length cn)).setCell ⟨gx, 3, none⟩ (.int .u32 code)) HVN.out (fun k e => hst_ k (row_at_ne (d := 0) HVN.out HNB.out (by decide) e))) (fun k e => HVN.out.1 k e)
      have hn8 : ((((wa.setCell ⟨gx, 0, none⟩ (.int .u8 kind)).setCell ⟨gx, 1, none⟩ (.bool tx)).setCell ⟨gx, 2, none⟩ (.slice An nd.length cn)).setCell ⟨gx, 3, none⟩ (.int .u32 code)).heap[gx]? = some (.cells #[.int .u8 kind, .bool tx, .slice An nd.length cn, .int .u32 code] 37 (0, 0)) := blk_put (blk_put (blk_put (blk_put HNB.out 0 _ rfl) 1 _ rfl) 2 _ rfl) 3 _ rfl
      clear hHeld hst_ hax hgpx
      generalize (((wa.setCell ⟨gx, 0, none⟩ (.int .u8 kind)).setCell ⟨gx, 1, none⟩ (.bool tx)).setCell ⟨gx, 2, none⟩ (.slice An nd.length cn)).setCell ⟨gx, 3, none⟩ (.int .u32 code) = w9 at hat_ hak_ har_ hav_ hn8 ⊢
      clear HT HK HR HVN HNB HX0 n_0 n_1 n_2 n_3 nf_0 nf_1 nf_2 nf_3 nl_ HNX4 HLG HNP
      have HT := a_ hat_
      have HK := a_ hak_
      have HR := a_ har_
      have HVN := a_ hav_
      have HN9 := a_ hn8
      clear hat_ hak_ har_ hav_ hn8
      cases ok with
      | false =>
       have HTK : Aside0 (takeM N p = (N.wg p, [])) := ⟨by unfold takeM; rw [HQ2.out, if_neg (by decide)]⟩
       have hcn := HCNT.out
       simp only [List.length_cons] at hcn
       have HCN := a_ hcn
       clear hcn
       go_wp2_with fail
       go_roundg (2 * (l3.length + x2.length) + x2.length)
       case measure => have := HMU.out; have := HLEN.out; have := HL3.out; omega
       case rel => exact ⟨N.wg p, l3, false, I4, x2, ps2, ns1, A3, c3, rfl, rfl, HT.out, HK.out, HA.out, HR.out, HOV.out, HXB.out, HC3.out, HF.out.cl, fun _ => rfl, fun _ => HALL3.out, by rw [HF.out.run, runM_cons N p ps2 cd HCA.out, HTK.out, List.nil_append], fun _ => by have := HCN.out.1; omega, fun _ => by have := HCN.out.2.1; show N.key + _ ≤ _; omega, fun _ => by have := HCN.out.2.2; show N.out.length + _ ≤ _; omega⟩
      | true =>
       have hcn := HCNT.out
       simp only [List.length_cons] at hcn
       have HCN := a_ hcn
       clear hcn
       have HGW := a_ (take_grow N p HP8.out.1)
       obtain ⟨x_0, x_1, x_2, x_3⟩ := xl4_ HN9.out
       have x_l := blk_lt HN9.out
       go_wp2_with fail
       refine (ttakes HT.out (k := kind) (tx := tx) (nd := nd) (code := code) (Ap.of_row HVN.out (fun k e => (HVN.out.1 k e).1)) (Kd.R_reads' HVN.out).2.1 HQB.out (fun hk2 => by
        have h2 := note_two N p (by rw [HQ1.out]; exact hk2)
        rw [HQ1.out] at h2
        rw [show nd = p.f4 from h2.1]
        exact HP8.out.1 (by have := h2.2; omega)) (by show N.key < _; have h1 := HCN.out; have h2 := HBD.out; omega) (by show N.out.length ≤ _; have h1 := HCN.out; have h2 := HBD.out; omega)).mono ?_
       rintro e w7 ⟨vo7, vn7, rfl, hvn7, hT7, hK7⟩
       rw [takes_wl] at hvn7 hT7 hK7 ⊢
       obtain ⟨N2, n2, hN2⟩ : ∃ N2 n2, takesM (N.wg p) ⟨kind, tx, nd, code⟩ = (N2, n2) := ⟨_, _, rfl⟩
       rw [hN2] at hvn7 hT7 hK7 ⊢
       dsimp only at hvn7 hT7 hK7 ⊢
       obtain ⟨I5, hI5⟩ : ∃ I5 : TI, I5 = { I4 with vo := vo7 } := ⟨_, rfl⟩
       rw [← hI5] at hT7 hK7
       have HTK : Aside0 (takeM N p = (N2, [n2])) := ⟨by unfold takeM; rw [HQ2.out, if_pos rfl, HQ1.out, hN2]⟩
       have hv2 : Kd.R (Kd.int .u8) 5 w7 w0.heap.size (fun k => ¬ TF (N2.wl l3 false) I5 t k ∧ (TF M I t k ∨ W.heap.size ≤ k)) vn7 n2.f2 := by
        rcases hvn7 with ⟨e1, e2⟩ | ⟨e1, e2⟩
        ·rw [e1, e2]
         exact row_kf HVN.out hK7
        ·rw [e1, e2]
         exact Kd.R_nil _ _ _ _ _
       obtain ⟨An2, cn2, rfl⟩ := Kd.R_slice hv2
       have HV2 := a_ hv2
       have hkf_ := hK7
       have HT' := a_ (hT7)
       have HK' := a_ (HK.out.trans hkf_)
       have HR' := a_ (row_kf HR.out hkf_)
       clear hkf_ HT HK HR hT7 hK7 hvn7 hv2 hN2 hI5 x_0 x_1 x_2 x_3 x_l HVN HN9
       have HT := HT'
       have HK := HK'
       have HR := HR'
       clear HT' HK' HR'
       have HGL := a_ (show (ns1.length + 1) * 40 ≤ 140737488355328 by have h1 := HCN.out; have h2 := HBD.out; omega)
       have HV3 : Aside0 (Kd.R (Kd.int .u8) 5 w7 w0.heap.size (fun k => (¬ TF (N2.wl l3 false) I5 t k ∧ (TF M I t k ∨ W.heap.size ≤ k)) ∧ some k ≠ u5.ownBlock) (.slice An2 n2.f2.length cn2) n2.f2) := ⟨row_ok HV2.out (fun k e => ⟨HV2.out.1 k e, fun e2 => by
        obtain ⟨c1, h1⟩ := Kd.R_typed HR.out k e2.symm
        exact row_at_ne (d := 0) HV2.out h1 (by decide) e rfl⟩)⟩
       go_wp2_with (at_builtin; refine Kd.R_append k37 (w0 := w0) w0.heap.size rfl (.tmp 65) (.tmp 69) 32 37 (.agg #[.int .u8 0, .bool false, .slice none 0 0, .int .u32 0]) 40 rfl Tryz.underlying32 HI.out rfl (by decide) (by decide) u5 ns1 n2 [.int .u8 n2.f0, .bool n2.f1, .slice An2 n2.f2.length cn2, .int .u32 n2.f3] (fun k => ¬ TF (N2.wl l3 false) I5 t k ∧ (TF M I t k ∨ W.heap.size ≤ k)) (fun k => (¬ TF (N2.wl l3 false) I5 t k ∧ (TF M I t k ∨ W.heap.size ≤ k)) ∧ some k ≠ u5.ownBlock) rfl rfl ?aP (fun _ h => h) ?aF HR.out HT.out.bel HT.out.bel.size HGL.out ?_; (case aP => exact k37_mkM _ _ _ n2 HV3.out); (case aF => exact fun k hk => ⟨fun e => by have := HT.out.lt e; omega, .inr (by have := HK.out.size; omega)⟩); intro v1 w8 hR1 hB1 hg1 hat1; have HR8 := a_ hR1; have HG8 := a_ (And.intro hB1 (And.intro hg1 hat1)); clear hR1 hB1 hg1 hat1)
       have hmv : ∀ k, k < w7.heap.size → u5.ownBlock ≠ some k → w8.heap[k]? = w7.heap[k]? := fun k hlt hn => HG8.out.2.1.block k hlt (fun e => hn e.symm)
       have HT8 := a_ (HT.out.move HG8.out.1 (fun k hk => hmv k (HT.out.lt hk) (fun e => (HR.out.1 k e).1 hk)))
       have HK8 : Aside0 (Kf W w8 (TF M I t) (TF (N2.wl l3 false) (I5) t)) := ⟨⟨Nat.le_trans HK.out.size HG8.out.2.1.size, fun k hlt hn => (hmv k (Nat.lt_of_lt_of_le hlt HK.out.size) (fun e => by have := HOV.out k e; omega)).trans (HK.out.keep k hlt hn), HK.out.new⟩⟩
       have HOV8 : Aside0 (∀ k, v1.ownBlock = some k → W.heap.size ≤ k) := ⟨fun k e => by
        rcases HG8.out.2.2 with e1 | ⟨j, e1, hj⟩
        ·exact HOV.out k (e1 ▸ e)
        ·rw [e1] at e
         injection e with e
         have := HK.out.size
         omega⟩
       clear hmv HT HK HR HG8
       go_roundg (2 * (l3.length + x2.length) + x2.length)
       case measure => have := HMU.out; have := HLEN.out; have := HL3.out; omega
       case rel => exact ⟨N2, l3, false, I5, x2, ps2, ns1 ++ [n2], A3, c3, rfl, rfl, HT8.out, HK8.out, HA.out, HR8.out, HOV8.out, HXB.out, HC3.out, by have := HGW.out.1.cl; rw [HTK.out] at this; exact this.trans HF.out.cl, fun _ => rfl, fun _ => HALL3.out, by rw [HF.out.run, runM_cons N p ps2 cd HCA.out, HTK.out, List.append_assoc], fun _ => by have := HCN.out.1; rw [List.length_append]; show _ + 1 + _ ≤ _; omega, fun _ => by have h1 := HGW.out.1.key; rw [HTK.out] at h1; have h1 : N2.key ≤ N.key + 1 := h1; have := HCN.out.2.1; omega, fun _ => by have h1 := HGW.out.1.out; rw [HTK.out] at h1; have h1 : N2.out.length ≤ N.out.length + 131 := h1; have := HCN.out.2.2; omega⟩
     ·go_simp
      have hba : Below wd.heap.size wd (wd.alloc (.cells #[.int .u8 0, .bool false, .slice none 0 0, .int .u32 0] 37)) := below_alloc (Below.refl _ _) _
      have hna : (wd.alloc (.cells #[.int .u8 0, .bool false, .slice none 0 0, .int .u32 0] 37)).heap[wd.heap.size]? = some (.cells #[.int .u8 0, .bool false, .slice none 0 0, .int .u32 0] 37 (0, 0)) := last_at _ _ _ rfl
      have HNX : Aside0 (¬ TF (N.wl l3 false) I3 t wd.heap.size) := ⟨fun hh => Nat.lt_irrefl _ (HT.out.lt hh)⟩
      have HLG := a_ (And.intro HT.out.bel.size HK.out.size)
      have hax := blk_below HX0.out hba
      have hkf_ := (Kf.refl wd (TF (N.wl l3 false) I3 t)).below hba
      have hat_ := HT.out.below hba
      have har_ := row_newx HR.out hba
      have hak_ := HK.out.trans hkf_
      have hav_ := Kd.R_below HPV.out hba
      refine hK.out _ _ (⟨(blk_cell hat_.blk 4).trans rfl, (blk_cell hax 0).trans rfl, (blk_cell hax 1).trans rfl, (blk_cell hax 2).trans rfl, (blk_cell hax 3).trans rfl, (blk_cell hax 4).trans rfl⟩) (fun hHeld => ?_)
      clear hK K
      try simp only [Act.put, z1_, z2_, z3_]
      generalize wd.alloc (.cells #[.int .u8 0, .bool false, .slice none 0 0, .int .u32 0] 37) = wa at hna hax hat_ har_ hak_ hav_ hHeld ⊢
      generalize wd.heap.size = gx at hna har_ HNX HLG ⊢
      clear hba hkf_ HT HK HR HX0 HPV hHeld
      have HT := a_ hat_
      have HK := a_ hak_
      have HR := a_ har_
      have HX0 := a_ hax
      have HNB := a_ hna
      have HPV := a_ hav_
      clear hat_ har_ hak_ hav_ hax hna
      refine wpAnyH_ready (rs := [5]) (by kernel_rfl) (by simp) ?_
      refine (AllReadyH.cons rfl (fun K hK => ?_) AllReadyH.nil)
      go_simp
      go_at_call 44
      refine (take_stepq (fin := p.f0) (op := p.f1) (mk := p.f2) (key := p.f3) (d := p.f4) HT.out.gt HT.out.ok.nob HT.out.ok.blen (Dat.of_row HPV.out) (fun ho k e e2 => HPV.out.1 k e (.inr (.inr (.inr (.inl (.inr ⟨ho, .inl e2⟩)))))) HP8.out.2.2 (by have := HP8.out.2.1; omega) HCO.out).mono ?_
      rintro e w7 ⟨b', busy', te', over', kind, tx, code, nd, ok, v', u', gu', f', vn, rfl, hq⟩
      obtain ⟨hq1, hq2, hT7, hK7, hvn⟩ := HT.out.take (p := p) HP8.out.2.2 hq
      obtain ⟨An, cn, rfl⟩ := Kd.R_slice hq.row
      obtain ⟨I4, hI4⟩ : ∃ I4 : TI, I4 = { I3 with v := v', u := u', gu := gu', f := f' } := ⟨_, rfl⟩
      replace hT7 : Tn w0 w7 t ((N.wg p).wl l3 false) I4 := hI4 ▸ hT7
      replace hK7 : Kf wa w7 (TF (N.wl l3 false) I3 t) (TF ((N.wg p).wl l3 false) I4 t) := hI4 ▸ hK7
      replace hvn : ∀ k, (Value.slice An nd.length cn).ownBlock = some k → ¬ TF ((N.wg p).wl l3 false) I4 t k := hI4 ▸ hvn
      have HGG := a_ (show I4.gg = I3.gg by rw [hI4])
      have HVN : Aside0 (Kd.R (Kd.int .u8) 5 w7 w0.heap.size (fun k => ¬ TF ((N.wg p).wl l3 false) I4 t k ∧ (TF M I t k ∨ W.heap.size ≤ k)) (.slice An nd.length cn) nd) := ⟨row_ok hq.row (fun k e => ⟨hvn k e, (hq.note k e).elim (fun e2 => HK.out.new k (.inr (.inr (.inr (.inl e2))))) (fun e2 => .inr (Nat.le_trans HK.out.size e2))⟩)⟩
      have HQ1 : Aside0 (N.note p = ⟨kind, tx, nd, code⟩) := ⟨hq1⟩
      have HQ2 : Aside0 (N.tells p = ok) := ⟨hq2⟩
      have HQB : Aside0 (∀ x ∈ nd, 0 ≤ x ∧ x ≤ 255) := ⟨hq.stp.bytes HT.out.ok.byt HP8.out.2.2⟩
      have hx7 := (hK7.keep _ (blk_lt HX0.out) HNP.out).trans HX0.out
      have hn7 := (hK7.keep _ (blk_lt HNB.out) HNX.out).trans HNB.out
      have HNX4 : Aside0 (¬ TF ((N.wg p).wl l3 false) I4 t gx) := ⟨fun hh => (hK7.new _ hh).elim HNX.out (fun e => by have := blk_lt HNB.out; omega)⟩
      have hkf_ := hK7
      have HT' := a_ (hT7)
      have HK' := a_ (HK.out.trans hkf_)
      have HR' := a_ (row_kfx HR.out hkf_)
      clear HX0
      have HX0 := a_ hx7
      clear HNB
      have HNB := a_ hn7
      clear hkf_ HT HK HR hT7 hK7 hvn hq1 hq2 hq hx7 hI4 HPV hn7
      have HT := HT'
      have HK := HK'
      have HR := HR'
      clear HT' HK' HR'
      refine hK.out _ _ (⟨(blk_cell HT.out.blk 4).trans (by rw [show (tcells ((N.wg p).wl l3 false) I4)[4]? = some (.pointer (some ⟨I4.gg, 0, none⟩)) from rfl, HGG.out]), (blk_cell HX0.out 0).trans rfl, (blk_cell HX0.out 1).trans rfl, (blk_cell HX0.out 2).trans rfl, (blk_cell HX0.out 3).trans rfl, (blk_cell HX0.out 4).trans rfl⟩) (fun hHeld => ?_)
      clear hK K
      try simp only [Act.put, z1_, z2_, z3_]
      refine takeP 6 55 ?_
      refine takeP 7 62 ?_
      refine takeP 8 63 ?_
      clear hHeld
      obtain ⟨n_0, nf_0, n_1, nf_1, n_2, nf_2, n_3, nf_3⟩ := xf4_ HNB.out
      have nl_ := blk_lt HNB.out
      refine wpAnyH_ready (rs := [10]) (by kernel_rfl) (by simp) ?_
      refine (AllReadyH.cons rfl (fun K hK => ?_) AllReadyH.nil)
      go_simp
      have hst_ : ∀ q_, q_ ≠ gx → ((((w7.setCell ⟨gx, 0, none⟩ (.int .u8 kind)).setCell ⟨gx, 1, none⟩ (.bool tx)).setCell ⟨gx, 2, none⟩ (.slice An nd.length cn)).setCell ⟨gx, 3, none⟩ (.int .u32 code)).heap[q_]? = w7.heap[q_]? := fun q_ e => heap_sets4 e
      have hat_ := HT.out.move (sets4 HT.out.bel HLG.out.1) (fun k hk => hst_ k (fun e => HNX4.out (e ▸ hk)))
      have hgpx : gp ≠ gx := fun e => by
       have h1 := HX0.out
       rw [e, HNB.out] at h1
       injection h1 with h1
       injection h1 with _ h1 _
       exact absurd h1 (by decide)
      have hax := (hst_ gp hgpx).trans HX0.out
      refine hK.out _ _ (⟨(blk_cell hat_.blk 4).trans (by rw [show (tcells ((N.wg p).wl l3 false) I4)[4]? = some (.pointer (some ⟨I4.gg, 0, none⟩)) from rfl, HGG.out]), (blk_cell hax 0).trans rfl, (blk_cell hax 1).trans rfl, (blk_cell hax 2).trans rfl, (blk_cell hax 3).trans rfl, (blk_cell hax 4).trans rfl⟩) (fun hHeld => ?_)
      clear hK K
      try simp only [Act.put, z1_, z2_, z3_]
      refine takeP 11 11 ?_
      refine wpAnyH_done (by kernel_rfl) ?_ _
      refine NoPanic.normal ?_
      have hak_ : Kf W ((((w7.setCell ⟨gx, 0, none⟩ (.int .u8 kind)).setCell ⟨gx, 1, none⟩ (.bool tx)).setCell ⟨gx, 2, none⟩ (.slice An nd.length cn)).setCell ⟨gx, 3, none⟩ (.int .u32 code)) (TF M I t) (TF ((N.wg p).wl l3 false) I4 t) := ⟨Nat.le_trans HK.out.size (by simp [World.setCell]), fun k hlt hn => (hst_ k (by have := HLG.out.2; omega)).trans (HK.out.keep k hlt hn), HK.out.new⟩
      have har_ := Kd.R_mono (Kd.R_step (w1 := (((w7.setCell ⟨gx, 0, none⟩ (.int .u8 kind)).setCell ⟨gx, 1, none⟩ (.bool tx)).setCell ⟨gx, 2, none⟩ (.slice An nd.length cn)).setCell ⟨gx, 3, none⟩ (.int .u32 code)) HR.out (fun k hk _ => hst_ k hk.2)) (fun k hk => hk.1)
      have hav_ := row_ok (row_keep (W' := (((w7.setCell ⟨gx, 0, none⟩ (.int .u8 kind)).setCell ⟨gx, 1, none⟩ (.bool tx)).setCell ⟨gx, 2, none⟩ (.slice An nd.length cn)).setCell ⟨gx, 3, none⟩ (.int .u32 code)) HVN.out (fun k e => hst_ k (row_at_ne (d := 0) HVN.out HNB.out (by decide) e))) (fun k e => HVN.out.1 k e)
      have hn8 : ((((w7.setCell ⟨gx, 0, none⟩ (.int .u8 kind)).setCell ⟨gx, 1, none⟩ (.bool tx)).setCell ⟨gx, 2, none⟩ (.slice An nd.length cn)).setCell ⟨gx, 3, none⟩ (.int .u32 code)).heap[gx]? = some (.cells #[.int .u8 kind, .bool tx, .slice An nd.length cn, .int .u32 code] 37 (0, 0)) := blk_put (blk_put (blk_put (blk_put HNB.out 0 _ rfl) 1 _ rfl) 2 _ rfl) 3 _ rfl
      clear hHeld hst_ hax hgpx
      generalize (((w7.setCell ⟨gx, 0, none⟩ (.int .u8 kind)).setCell ⟨gx, 1, none⟩ (.bool tx)).setCell ⟨gx, 2, none⟩ (.slice An nd.length cn)).setCell ⟨gx, 3, none⟩ (.int .u32 code) = w9 at hat_ hak_ har_ hav_ hn8 ⊢
      clear HT HK HR HVN HNB HX0 n_0 n_1 n_2 n_3 nf_0 nf_1 nf_2 nf_3 nl_ HNX4 HLG HNP
      have HT := a_ hat_
      have HK := a_ hak_
      have HR := a_ har_
      have HVN := a_ hav_
      have HN9 := a_ hn8
      clear hat_ hak_ har_ hav_ hn8
      cases ok with
      | false =>
       have HTK : Aside0 (takeM N p = (N.wg p, [])) := ⟨by unfold takeM; rw [HQ2.out, if_neg (by decide)]⟩
       have hcn := HCNT.out
       simp only [List.length_cons] at hcn
       have HCN := a_ hcn
       clear hcn
       go_wp2_with fail
       go_roundg (2 * (l3.length + x2.length) + x2.length)
       case measure => have := HMU.out; have := HLEN.out; have := HL3.out; omega
       case rel => exact ⟨N.wg p, l3, false, I4, x2, ps2, ns1, A3, c3, rfl, rfl, HT.out, HK.out, HA.out, HR.out, HOV.out, HXB.out, HC3.out, HF.out.cl, fun _ => rfl, fun _ => HALL3.out, by rw [HF.out.run, runM_cons N p ps2 cd HCA.out, HTK.out, List.nil_append], fun _ => by have := HCN.out.1; omega, fun _ => by have := HCN.out.2.1; show N.key + _ ≤ _; omega, fun _ => by have := HCN.out.2.2; show N.out.length + _ ≤ _; omega⟩
      | true =>
       have hcn := HCNT.out
       simp only [List.length_cons] at hcn
       have HCN := a_ hcn
       clear hcn
       have HGW := a_ (take_grow N p HP8.out.1)
       obtain ⟨x_0, x_1, x_2, x_3⟩ := xl4_ HN9.out
       have x_l := blk_lt HN9.out
       go_wp2_with fail
       refine (ttakes HT.out (k := kind) (tx := tx) (nd := nd) (code := code) (Ap.of_row HVN.out (fun k e => (HVN.out.1 k e).1)) (Kd.R_reads' HVN.out).2.1 HQB.out (fun hk2 => by
        have h2 := note_two N p (by rw [HQ1.out]; exact hk2)
        rw [HQ1.out] at h2
        rw [show nd = p.f4 from h2.1]
        exact HP8.out.1 (by have := h2.2; omega)) (by show N.key < _; have h1 := HCN.out; have h2 := HBD.out; omega) (by show N.out.length ≤ _; have h1 := HCN.out; have h2 := HBD.out; omega)).mono ?_
       rintro e w7 ⟨vo7, vn7, rfl, hvn7, hT7, hK7⟩
       rw [takes_wl] at hvn7 hT7 hK7 ⊢
       obtain ⟨N2, n2, hN2⟩ : ∃ N2 n2, takesM (N.wg p) ⟨kind, tx, nd, code⟩ = (N2, n2) := ⟨_, _, rfl⟩
       rw [hN2] at hvn7 hT7 hK7 ⊢
       dsimp only at hvn7 hT7 hK7 ⊢
       obtain ⟨I5, hI5⟩ : ∃ I5 : TI, I5 = { I4 with vo := vo7 } := ⟨_, rfl⟩
       rw [← hI5] at hT7 hK7
       have HTK : Aside0 (takeM N p = (N2, [n2])) := ⟨by unfold takeM; rw [HQ2.out, if_pos rfl, HQ1.out, hN2]⟩
       have hv2 : Kd.R (Kd.int .u8) 5 w7 w0.heap.size (fun k => ¬ TF (N2.wl l3 false) I5 t k ∧ (TF M I t k ∨ W.heap.size ≤ k)) vn7 n2.f2 := by
        rcases hvn7 with ⟨e1, e2⟩ | ⟨e1, e2⟩
        ·rw [e1, e2]
         exact row_kf HVN.out hK7
        ·rw [e1, e2]
         exact Kd.R_nil _ _ _ _ _
       obtain ⟨An2, cn2, rfl⟩ := Kd.R_slice hv2
       have HV2 := a_ hv2
       have hkf_ := hK7
       have HT' := a_ (hT7)
       have HK' := a_ (HK.out.trans hkf_)
       have HR' := a_ (row_kf HR.out hkf_)
       clear hkf_ HT HK HR hT7 hK7 hvn7 hv2 hN2 hI5 x_0 x_1 x_2 x_3 x_l HVN HN9
       have HT := HT'
       have HK := HK'
       have HR := HR'
       clear HT' HK' HR'
       have HGL := a_ (show (ns1.length + 1) * 40 ≤ 140737488355328 by have h1 := HCN.out; have h2 := HBD.out; omega)
       have HV3 : Aside0 (Kd.R (Kd.int .u8) 5 w7 w0.heap.size (fun k => (¬ TF (N2.wl l3 false) I5 t k ∧ (TF M I t k ∨ W.heap.size ≤ k)) ∧ some k ≠ u5.ownBlock) (.slice An2 n2.f2.length cn2) n2.f2) := ⟨row_ok HV2.out (fun k e => ⟨HV2.out.1 k e, fun e2 => by
        obtain ⟨c1, h1⟩ := Kd.R_typed HR.out k e2.symm
        exact row_at_ne (d := 0) HV2.out h1 (by decide) e rfl⟩)⟩
       go_wp2_with (at_builtin; refine Kd.R_append k37 (w0 := w0) w0.heap.size rfl (.tmp 65) (.tmp 69) 32 37 (.agg #[.int .u8 0, .bool false, .slice none 0 0, .int .u32 0]) 40 rfl Tryz.underlying32 HI.out rfl (by decide) (by decide) u5 ns1 n2 [.int .u8 n2.f0, .bool n2.f1, .slice An2 n2.f2.length cn2, .int .u32 n2.f3] (fun k => ¬ TF (N2.wl l3 false) I5 t k ∧ (TF M I t k ∨ W.heap.size ≤ k)) (fun k => (¬ TF (N2.wl l3 false) I5 t k ∧ (TF M I t k ∨ W.heap.size ≤ k)) ∧ some k ≠ u5.ownBlock) rfl rfl ?aP (fun _ h => h) ?aF HR.out HT.out.bel HT.out.bel.size HGL.out ?_; (case aP => exact k37_mkM _ _ _ n2 HV3.out); (case aF => exact fun k hk => ⟨fun e => by have := HT.out.lt e; omega, .inr (by have := HK.out.size; omega)⟩); intro v1 w8 hR1 hB1 hg1 hat1; have HR8 := a_ hR1; have HG8 := a_ (And.intro hB1 (And.intro hg1 hat1)); clear hR1 hB1 hg1 hat1)
       have hmv : ∀ k, k < w7.heap.size → u5.ownBlock ≠ some k → w8.heap[k]? = w7.heap[k]? := fun k hlt hn => HG8.out.2.1.block k hlt (fun e => hn e.symm)
       have HT8 := a_ (HT.out.move HG8.out.1 (fun k hk => hmv k (HT.out.lt hk) (fun e => (HR.out.1 k e).1 hk)))
       have HK8 : Aside0 (Kf W w8 (TF M I t) (TF (N2.wl l3 false) (I5) t)) := ⟨⟨Nat.le_trans HK.out.size HG8.out.2.1.size, fun k hlt hn => (hmv k (Nat.lt_of_lt_of_le hlt HK.out.size) (fun e => by have := HOV.out k e; omega)).trans (HK.out.keep k hlt hn), HK.out.new⟩⟩
       have HOV8 : Aside0 (∀ k, v1.ownBlock = some k → W.heap.size ≤ k) := ⟨fun k e => by
        rcases HG8.out.2.2 with e1 | ⟨j, e1, hj⟩
        ·exact HOV.out k (e1 ▸ e)
        ·rw [e1] at e
         injection e with e
         have := HK.out.size
         omega⟩
       clear hmv HT HK HR HG8
       go_roundg (2 * (l3.length + x2.length) + x2.length)
       case measure => have := HMU.out; have := HLEN.out; have := HL3.out; omega
       case rel => exact ⟨N2, l3, false, I5, x2, ps2, ns1 ++ [n2], A3, c3, rfl, rfl, HT8.out, HK8.out, HA.out, HR8.out, HOV8.out, HXB.out, HC3.out, by have := HGW.out.1.cl; rw [HTK.out] at this; exact this.trans HF.out.cl, fun _ => rfl, fun _ => HALL3.out, by rw [HF.out.run, runM_cons N p ps2 cd HCA.out, HTK.out, List.append_assoc], fun _ => by have := HCN.out.1; rw [List.length_append]; show _ + 1 + _ ≤ _; omega, fun _ => by have h1 := HGW.out.1.key; rw [HTK.out] at h1; have h1 : N2.key ≤ N.key + 1 := h1; have := HCN.out.2.1; omega, fun _ => by have h1 := HGW.out.1.out; rw [HTK.out] at h1; have h1 : N2.out.length ≤ N.out.length + 131 := h1; have := HCN.out.2.2; omega⟩
    ·go_wp2_with fail
     refine (Next_none HT.out.sp (HCO.out.below HT.out.bel) HB3.out.2 (by rw [HCL.out]; exact hc) (by rw [HCL.out]; exact hf)).mono ?_
     rintro e w5 ⟨rfl, hb5⟩
     have hkf_ := (Kf.refl w3 (TF (N.wl l2 false) I2 t)).below hb5
     have HT' := a_ (HT.out.below hb5)
     have HK' := a_ (HK.out.trans hkf_)
     have HR' := a_ (row_kf HR.out hkf_)
     clear hkf_ HT HK HR hb5
     have HT := HT'
     have HK := HK'
     have HR := HR'
     clear HT' HK' HR'
     go_upto_region 8 with fail
     have hb6 : Below w5.heap.size w5 ((w5.alloc (.cells #[.bool false, .int .u8 0, .bool false, .int .u32 0, .slice none 0 0] 81)).alloc (.cells #[.int .u8 0, .int .u32 0] 87)) := below_alloc (below_alloc (Below.refl _ _) _) _
     have hx0 : ((w5.alloc (.cells #[.bool false, .int .u8 0, .bool false, .int .u32 0, .slice none 0 0] 81)).alloc (.cells #[.int .u8 0, .int .u32 0] 87)).heap[w5.heap.size]? = some (.cells #[.bool false, .int .u8 0, .bool false, .int .u32 0, .slice none 0 0] 81 (0, 0)) := blk_alloc (last_at _ _ _ rfl) _
     have hx1 : ((w5.alloc (.cells #[.bool false, .int .u8 0, .bool false, .int .u32 0, .slice none 0 0] 81)).alloc (.cells #[.int .u8 0, .int .u32 0] 87)).heap[w5.heap.size + 1]? = some (.cells #[.int .u8 0, .int .u32 0] 87 (0, 0)) := last_at _ _ _ (by simp)
     generalize ((w5.alloc (.cells #[.bool false, .int .u8 0, .bool false, .int .u32 0, .slice none 0 0] 81)).alloc (.cells #[.int .u8 0, .int .u32 0] 87)) = w6 at hb6 hx0 hx1 ⊢
     have hkf_ := (Kf.refl w5 (TF (N.wl l2 false) I2 t)).below hb6
     have HT' := a_ (HT.out.below hb6)
     have HK' := a_ (HK.out.trans hkf_)
     have HR' := a_ (row_kf HR.out hkf_)
     clear hkf_ HT HK HR
     have HT := HT'
     have HK := HK'
     have HR := HR'
     clear HT' HK' HR'
     generalize w5.heap.size = gp at hx0 hx1 ⊢
     clear hb6
     obtain ⟨y0, y1, y2, y3, y4⟩ := xl5_ hx0
     obtain ⟨z0, z1⟩ := xl2_ hx1
     clear hx0 hx1 t3
     by_cases hn0 : n = 0
     ·have hx0 : x2 = [] := by
       rcases Nat.lt_or_ge l2.length 4110 with h | h
       ·have h1 := HLEN.out
        have h2 := HN.out
        exact List.length_eq_zero_iff.1 (by omega)
       ·rcases full_told (m := !M.cl) HB3.out.2 h with h3 | h3
        ·exact absurd hc h3
        ·exact absurd h3 hf
      subst hx0
      obtain ⟨rfl, rfl, hr⟩ := all_stop HALL2.out (by rw [List.append_nil]; exact hc) (by rw [List.append_nil]; exact hf)
      obtain ⟨Ao, co, rfl⟩ := Kd.R_slice HR.out
      have hnz : ((n : Int) == 0) = true := by subst hn0; rfl
      have HHR := a_ hr
      clear hr hc hf
      have hn0' := a_ hn0
      clear hn0
      go_wp2_with fail
      go_ret
      exact FeedP.mk_ (by rw [HF.out.run, runM_stop N HCA.out, List.append_nil]) HT.out HK.out HR.out (fun _ => ⟨by rw [HHR.out, List.append_nil], rfl⟩)
     ·have hnz : ((n : Int) == 0) = false := nb_ (by omega)
      have HN0 := a_ hn0
      clear hn0 hc hf
      go_wp2_with fail
      go_roundg (2 * (l2.length + x2.length) + x2.length)
      case measure => have := HMU.out; have := HLEN.out; have := HN0.out; omega
      case rel => exact ⟨N, l2, false, I2, x2, ps1, ns1, A3, c3, rfl, rfl, HT.out, HK.out, HA.out, HR.out, HOV.out, HXB.out, HC3.out, HF.out.cl, fun _ => rfl, fun _ => HALL2.out, HF.out.run, HF.out.cnt, HF.out.key, HF.out.len⟩
   ·have HNE : Aside0 (l2.length ≠ 0) := ⟨fun e => hc (by rw [List.length_eq_zero_iff.1 e]; exact (none_nil _).1)⟩
    have HCL : Aside0 ((!(N.wl l2 false).cl) = (!M.cl)) := ⟨congrArg (fun b => !b) HF.out.cl⟩
    obtain ⟨cq, hcq⟩ : ∃ cq, cq = code1 l2 (!M.cl) := ⟨_, rfl⟩
    obtain ⟨hps, hcd⟩ := all_bad HALL2.out (by rw [code_app hc]; exact hc)
    rw [code_app hc, ← hcq] at hcd
    rw [← hcq] at hc
    subst hps
    subst hcd
    have hNB := Next_bad HT.out.sp HT.out.bel HT.out.sbase (HCO.out.below HT.out.bel) HB3.out.2 (by rw [show code1 (N.wl l2 false).l (!(N.wl l2 false).cl) = code1 l2 (!M.cl) by rw [HCL.out]; rfl, ← hcq]; exact hc)
    rw [show code1 (N.wl l2 false).l (!(N.wl l2 false).cl) = cd by rw [hcq, HCL.out]; rfl] at hNB
    have HNB := a_ hNB
    have HCD := a_ hc
    clear hNB hcq hc
    go_wp2_with fail
    refine HNB.out.mono ?_
    rintro e w5 hp
    obtain ⟨rfl, hT5, hK5⟩ := HT.out.nextb hp
    obtain ⟨I3, hI3⟩ : ∃ I3 : TI, I3 = { I2 with vs := .slice none 0 0 } := ⟨_, rfl⟩
    replace hT5 : Tn w0 w5 t (N.wl [] true) I3 := hI3 ▸ hT5
    replace hK5 : Kf w3 w5 (TF (N.wl l2 false) I2 t) (TF (N.wl [] true) I3 t) := hI3 ▸ hK5
    have hkf_ := hK5
    have HT' := a_ (hT5)
    have HK' := a_ (HK.out.trans hkf_)
    have HR' := a_ (row_kf HR.out hkf_)
    clear hkf_ HT HK HR hT5 hK5 hp HNB
    have HT := HT'
    have HK := HK'
    have HR := HR'
    clear HT' HK' HR'
    go_upto_region 8 with fail
    have hb6 : Below w5.heap.size w5 ((w5.alloc (.cells #[.bool false, .int .u8 0, .bool false, .int .u32 0, .slice none 0 0] 81)).alloc (.cells #[.int .u8 3, .int .u32 cd] 87)) := below_alloc (below_alloc (Below.refl _ _) _) _
    have hx0 : ((w5.alloc (.cells #[.bool false, .int .u8 0, .bool false, .int .u32 0, .slice none 0 0] 81)).alloc (.cells #[.int .u8 3, .int .u32 cd] 87)).heap[w5.heap.size]? = some (.cells #[.bool false, .int .u8 0, .bool false, .int .u32 0, .slice none 0 0] 81 (0, 0)) := blk_alloc (last_at _ _ _ rfl) _
    have hx1 : ((w5.alloc (.cells #[.bool false, .int .u8 0, .bool false, .int .u32 0, .slice none 0 0] 81)).alloc (.cells #[.int .u8 3, .int .u32 cd] 87)).heap[w5.heap.size + 1]? = some (.cells #[.int .u8 3, .int .u32 cd] 87 (0, 0)) := last_at _ _ _ (by simp)
    generalize ((w5.alloc (.cells #[.bool false, .int .u8 0, .bool false, .int .u32 0, .slice none 0 0] 81)).alloc (.cells #[.int .u8 3, .int .u32 cd] 87)) = w6 at hb6 hx0 hx1 ⊢
    have hkf_ := (Kf.refl w5 (TF (N.wl [] true) I3 t)).below hb6
    have HT' := a_ (HT.out.below hb6)
    have HK' := a_ (HK.out.trans hkf_)
    have HR' := a_ (row_kf HR.out hkf_)
    clear hkf_ HT HK HR
    have HT := HT'
    have HK := HK'
    have HR := HR'
    clear HT' HK' HR'
    generalize w5.heap.size = gp at hx0 hx1 ⊢
    clear hb6
    obtain ⟨y0, y1, y2, y3, y4⟩ := xl5_ hx0
    obtain ⟨z0, z1⟩ := xl2_ hx1
    clear hx0 hx1 t3
    go_wp2_with fail
    refine (twrong HT.out (code := cd) (by show N.key < _; have h1 := HCNT.out; have h2 := HBD.out; omega) (by show N.out.length ≤ _; have h1 := HCNT.out; have h2 := HBD.out; omega)).mono ?_
    rintro e w7 ⟨rfl, vo7, hT7, hK7⟩
    rw [bad_wl] at hT7 hK7
    obtain ⟨I4, hI4⟩ : ∃ I4 : TI, I4 = { I3 with vo := vo7 } := ⟨_, rfl⟩
    rw [← hI4] at hT7 hK7
    have hkf_ := hK7
    have HT' := a_ (hT7)
    have HK' := a_ (HK.out.trans hkf_)
    have HR' := a_ (row_kf HR.out hkf_)
    clear hkf_ HT HK HR hT7 hK7 hI4 y0 y1 y2 y3 y4 z0 z1
    have HT := HT'
    have HK := HK'
    have HR := HR'
    clear HT' HK' HR'
    have HGL := a_ (show (ns1.length + 1) * 40 ≤ 140737488355328 by have h1 := HCNT.out; have h2 := HBD.out; simp at h1; omega)
    go_wp2_with (at_builtin; refine Kd.R_append k37 (w0 := w0) w0.heap.size rfl (.tmp 46) (.tmp 51) 32 37 (.agg #[.int .u8 0, .bool false, .slice none 0 0, .int .u32 0]) 40 rfl Tryz.underlying32 HI.out rfl (by decide) (by decide) u5 ns1 (bNote cd) [.int .u8 5, .bool false, .slice none 0 0, .int .u32 cd] (fun k => ¬ TF ((badM N cd).wl [] true) I4 t k ∧ (TF M I t k ∨ W.heap.size ≤ k)) (fun k => (¬ TF ((badM N cd).wl [] true) I4 t k ∧ (TF M I t k ∨ W.heap.size ≤ k)) ∧ some k ≠ u5.ownBlock) rfl rfl ?aP (fun _ h => h) ?aF HR.out HT.out.bel HT.out.bel.size HGL.out ?_; (case aP => exact k37_mkM _ _ _ (bNote cd) (Kd.R_nil _ _ _ _ _)); (case aF => exact fun k hk => ⟨fun e => by have := HT.out.lt e; omega, .inr (by have := HK.out.size; omega)⟩); intro v1 w8 hR1 hB1 hg1 hat1; have HR8 := a_ hR1; have HG8 := a_ (And.intro hB1 (And.intro hg1 hat1)); clear hR1 hB1 hg1 hat1)
    have hmv : ∀ k, k < w7.heap.size → u5.ownBlock ≠ some k → w8.heap[k]? = w7.heap[k]? := fun k hlt hn => HG8.out.2.1.block k hlt (fun e => hn e.symm)
    have HT8 := a_ (HT.out.move HG8.out.1 (fun k hk => hmv k (HT.out.lt hk) (fun e => (HR.out.1 k e).1 hk)))
    have HK8 : Aside0 (Kf W w8 (TF M I t) (TF ((badM N cd).wl [] true) (I4) t)) := ⟨⟨Nat.le_trans HK.out.size HG8.out.2.1.size, fun k hlt hn => (hmv k (Nat.lt_of_lt_of_le hlt HK.out.size) (fun e => by have := HOV.out k e; omega)).trans (HK.out.keep k hlt hn), HK.out.new⟩⟩
    have HOV8 : Aside0 (∀ k, v1.ownBlock = some k → W.heap.size ≤ k) := ⟨fun k e => by
     rcases HG8.out.2.2 with e1 | ⟨j, e1, hj⟩
     ·exact HOV.out k (e1 ▸ e)
     ·rw [e1] at e
      injection e with e
      have := HK.out.size
      omega⟩
    clear hmv HT HK HR HG8
    go_roundg (2 * (([] : List Int).length + x2.length) + x2.length)
    case measure => have := HMU.out; have := HLEN.out; have h2 : l2.length ≠ 0 := HNE.out; simp; omega
    case rel => exact ⟨badM N cd, [], true, I4, x2, [], ns1 ++ [bNote cd], A3, c3, rfl, rfl, HT8.out, HK8.out, HA.out, HR8.out, HOV8.out, HXB.out, HC3.out, (bad_grow N cd).cl.trans HF.out.cl, fun h => absurd h (bad_cause N cd), fun h => absurd h (bad_cause N cd), by rw [HF.out.run, runM_bad N cd HCA.out HCD.out, runM_end _ _ _ (bad_cause N cd), List.append_nil], fun h => absurd h (bad_cause N cd), fun h => absurd h (bad_cause N cd), fun h => absurd h (bad_cause N cd)⟩
  ·have hcb : ((N.wl l1 s1).cause != 0) = true := by simpa [TM.wl] using hca
   obtain ⟨Ao, co, rfl⟩ := Kd.R_slice HR.out
   go_wp2_with fail
   refine (closing_Door_Through.calls I1.dg (N.wl l1 s1).sent (N.wl l1 s1).got (N.wl l1 s1).code (N.wl l1 s1).cause (N.wl l1 s1).ecode ((N.wl l1 s1).cause != 0) (N.wl l1 s1).sent (N.wl l1 s1).got (N.wl l1 s1).code (N.wl l1 s1).cause (N.wl l1 s1).ecode w0 _ HT.out.dr HT.out.bel rfl).mono ?_
   rintro e w2 ⟨rfl, hI2, hB2, hK2⟩
   obtain ⟨hT2, hK12⟩ := HT.out.setDoor hI2 hB2 hK2
   have hkf_ := (show Kf wr w2 (TF (N.wl l1 s1) I1 t) (TF (N.wl l1 s1) I1 t) from hK12)
   have HT' := a_ ((show Tn w0 w2 t (N.wl l1 s1) I1 from hT2))
   have HK' := a_ (HK.out.trans hkf_)
   have HR' := a_ (row_kf HR.out hkf_)
   clear hkf_ HT HK HR hT2 hK12 hI2 hB2 hK2
   have HT := HT'
   have HK := HK'
   have HR := HR'
   clear HT' HK' HR'
   simp only [hcb]
   clear t5
   go_wp2_with fail
   go_ret
   exact FeedP.mk_ (by rw [HF.out.run, runM_end N ps1 cd hca, List.append_nil]) HT.out HK.out HR.out (fun h => absurd h hca)
end Go.Proofs.YtpmeapdcjmaeiaaGreatDoor
