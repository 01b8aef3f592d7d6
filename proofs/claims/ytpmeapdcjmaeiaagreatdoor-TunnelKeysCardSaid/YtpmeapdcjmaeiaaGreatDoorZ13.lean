/- What the law's row rests on, part 13. -/
import Derived.Test.YtpmeapdcjmaeiaaGreatDoorZ12
import Derived.Deep.RegionHeld3
import Derived.Deep.LoopGhost
import Derived.Deep.CutBlock
import Derived.Deep.DeepCutAuto
import Derived.Outline
set_option linter.unusedVariables false
set_option linter.unusedSimpArgs false
set_option maxRecDepth 100000
set_option maxHeartbeats 16000000
namespace Go.Proofs.YtpmeapdcjmaeiaaGreatDoor
open Go.RowKit Go.Wa Go.Wb Go.Wc PAll U
theorem eqlNil_sclone8 (w : World) (A : Option Addr) (n c : Nat) : (binOp .eql 27 (.slice A n c) (.slice none 0 0)).run Tryz.prog w = .ok (.bool A.isNone) w := by
 have h : ∀ d : Nat, (Op.equalIn (d + 1) 27 (.slice A n c) (.slice none 0 0)).run Tryz.prog w = .ok A.isNone w := fun d => by
  cases A <;> simp [Op.equalIn, run_underlying Tryz.underlying27]
 simp only [binOp]
 simp [Op.equal, Op.maxDepth, h 9999]
theorem info_sclone8 : (Tryz.prog.info? 5).map (fun i => (i.zero, i.size, i.bytes)) = some (some (.int .u8 0), 1, 1) := by kernel_rfl
theorem sclone8 (A0 : Option Addr) (c0 : Nat) (l0 : List Int) (w : World) (hr0 : Kd.C (Kd.int .u8) w A0 l0.length l0) (hc0 : l0.length ≤ c0) (hlen : l0.length ≤ 1000000000) :
  Calls Tryz.prog 39 #[.slice A0 l0.length c0] w fun e w' => ∃ v0_ : Value, e = .returned (v0_) ∧ Kd.R (Kd.int .u8) 5 w' w.heap.size (fun _ => True) v0_ l0 ∧ Below w.heap.size w w' := by
 have huS := Tryz.underlying27
 have huB := Tryz.underlying5
 have HR := a_ hr0
 rcases A0 with _ | ad
 ·have h0 : l0 = [] := by
   cases l0 with
   | nil => rfl
   | cons a t => obtain ⟨_, h, _⟩ := HR.out.2.2 (by simp); cases h
  subst h0
  clear hr0 HR
  have hnil : ∀ W, (binOp .eql 27 (.slice none 0 c0) (.slice none 0 0)).run Tryz.prog W = .ok (.bool true) W := fun W => eqlNil_sclone8 W none 0 c0
  go_enter Tryz.func39, Tryz.ntmps39
  go_wp2_with fail
  go_ret
  exact ⟨_, rfl, Kd.R_nil _ _ _ _ _, Below.refl _ _⟩
 ·have HL := a_ hlen
  clear hr0 hlen
  have hnil : ∀ W, (binOp .eql 27 (.slice (some ad) l0.length c0) (.slice none 0 0)).run Tryz.prog W = .ok (.bool false) W := fun W => eqlNil_sclone8 W (some ad) l0.length c0
  go_enter Tryz.func39, Tryz.ntmps39
  have HO : Aside0 ((w.alloc (.cells #[] 5)).ownsRow w.heap.size 5 1 (.slice (some ⟨w.heap.size, 0, none⟩) 0 0) 0 []) := ⟨⟨rfl, .inr ⟨w.heap.size, 0, #[], rfl, Nat.le_refl _, blk_new w _, Nat.le_refl _, by decide, rfl, rfl⟩⟩⟩
  have HS : Aside0 (ReadsInt (w.alloc (.cells #[] 5)) .u8 (some ad) l0.length l0) := ⟨Kd.reads_of_C (Kd.C_alloc HR.out _)⟩
  go_wp2_with (at_builtin; refine print_append_row (w0 := w) w.heap.size rfl (.tmp 5) (.tmp 6) 27 5 .u8 1 rfl Tryz.underlying27 info_sclone8 (by decide) (.slice (some ⟨w.heap.size, 0, none⟩) 0 0) [] l0 (some ad) l0.length c0 rfl rfl HO.out HS.out ((Below.refl _ _).alloc (Nat.le_refl _) _) (by simp) (by have := HL.out; simp; omega) ?_; intro v1 w1 ho hb hg hat)
  go_ret
  exact ⟨_, rfl, Kd.R_of_own (show w1.ownsRow w.heap.size 5 1 v1 l0.length (nums .u8 l0) by simpa using ho) (fun _ _ => trivial), hb⟩
theorem eqlNil_sclone32 (w : World) (A : Option Addr) (n c : Nat) : (binOp .eql 22 (.slice A n c) (.slice none 0 0)).run Tryz.prog w = .ok (.bool A.isNone) w := by
 have h : ∀ d : Nat, (Op.equalIn (d + 1) 22 (.slice A n c) (.slice none 0 0)).run Tryz.prog w = .ok A.isNone w := fun d => by
  cases A <;> simp [Op.equalIn, run_underlying Tryz.underlying22]
 simp only [binOp]
 simp [Op.equal, Op.maxDepth, h 9999]
theorem info_sclone32 : (Tryz.prog.info? 35).map (fun i => (i.zero, i.size, i.bytes)) = some (some (.int .u32 0), 1, 4) := by kernel_rfl
theorem sclone32 (A0 : Option Addr) (c0 : Nat) (l0 : List Int) (w : World) (hr0 : Kd.C (Kd.int .u32) w A0 l0.length l0) (hc0 : l0.length ≤ c0) (hlen : l0.length ≤ 1000000000) :
  Calls Tryz.prog 30 #[.slice A0 l0.length c0] w fun e w' => ∃ v0_ : Value, e = .returned (v0_) ∧ Kd.R (Kd.int .u32) 35 w' w.heap.size (fun _ => True) v0_ l0 ∧ Below w.heap.size w w' := by
 have huS := Tryz.underlying22
 have huB := Tryz.underlying35
 have HR := a_ hr0
 rcases A0 with _ | ad
 ·have h0 : l0 = [] := by
   cases l0 with
   | nil => rfl
   | cons a t => obtain ⟨_, h, _⟩ := HR.out.2.2 (by simp); cases h
  subst h0
  clear hr0 HR
  have hnil : ∀ W, (binOp .eql 22 (.slice none 0 c0) (.slice none 0 0)).run Tryz.prog W = .ok (.bool true) W := fun W => eqlNil_sclone32 W none 0 c0
  go_enter Tryz.func30, Tryz.ntmps30
  go_wp2_with fail
  go_ret
  exact ⟨_, rfl, Kd.R_nil _ _ _ _ _, Below.refl _ _⟩
 ·have HL := a_ hlen
  clear hr0 hlen
  have hnil : ∀ W, (binOp .eql 22 (.slice (some ad) l0.length c0) (.slice none 0 0)).run Tryz.prog W = .ok (.bool false) W := fun W => eqlNil_sclone32 W (some ad) l0.length c0
  go_enter Tryz.func30, Tryz.ntmps30
  have HO : Aside0 ((w.alloc (.cells #[] 35)).ownsRow w.heap.size 35 1 (.slice (some ⟨w.heap.size, 0, none⟩) 0 0) 0 []) := ⟨⟨rfl, .inr ⟨w.heap.size, 0, #[], rfl, Nat.le_refl _, blk_new w _, Nat.le_refl _, by decide, rfl, rfl⟩⟩⟩
  have HS : Aside0 (ReadsInt (w.alloc (.cells #[] 35)) .u32 (some ad) l0.length l0) := ⟨Kd.reads_of_C (Kd.C_alloc HR.out _)⟩
  go_wp2_with (at_builtin; refine print_append_row (w0 := w) w.heap.size rfl (.tmp 5) (.tmp 6) 22 35 .u32 4 rfl Tryz.underlying22 info_sclone32 (by decide) (.slice (some ⟨w.heap.size, 0, none⟩) 0 0) [] l0 (some ad) l0.length c0 rfl rfl HO.out HS.out ((Below.refl _ _).alloc (Nat.le_refl _) _) (by simp) (by have := HL.out; simp; omega) ?_; intro v1 w1 ho hb hg hat)
  go_ret
  exact ⟨_, rfl, Kd.R_of_own (show w1.ownsRow w.heap.size 35 1 v1 l0.length (nums .u32 l0) by simpa using ho) (fun _ _ => trivial), hb⟩
def newT (cl : Bool) (keys : List Int) : TM := ⟨cl, keys, 0, [], false, [], false, false, false, false, false, 0, 0, 0, [], 0, false⟩
theorem newT_ok {cl : Bool} {keys : List Int} (hk : ∀ x ∈ keys, 0 ≤ x ∧ x ≤ 4294967295) (hl : keys.length ≤ 1000) : (newT cl keys).Ok := ⟨fun _ => rfl, Nat.zero_le _, fun x hx => (by cases hx), Nat.zero_le _, rfl, Int.le_refl _, hk, hl, fun x hx => (by cases hx), ⟨Int.le_refl _, by show (0 : Int) ≤ 16; decide⟩⟩
theorem tnew {w0 W : World} (hB : Below w0.heap.size w0 W) (cl : Bool) {keys : List Int} {A : Option Addr} {c : Nat} (hA : Kd.C (Kd.int .u32) W A keys.length keys) (hc : keys.length ≤ c) (hk : ∀ x ∈ keys, 0 ≤ x ∧ x ≤ 4294967295) (hl : keys.length ≤ 1000) : Calls Tryz.prog 8 #[.bool cl, .slice A keys.length c] W fun e w' => ∃ t I, e = .returned (.pointer (some ⟨t, 0, none⟩)) ∧ Tn w0 w' t (newT cl keys) I ∧ Below W.heap.size W w' ∧ ∀ k, TF (newT cl keys) I t k → W.heap.size ≤ k := by
 have hu76 := Tryz.underlying76
 have HK0 := a_ (And.intro hk hl)
 have HA := a_ hA
 have HC := a_ hc
 have HB := a_ hB
 clear hk hl hA hc hB
 go_enter Tryz.func8, Tryz.ntmps8
 go_wp2_with fail
 refine (sclone32 A c keys _ HA.out HC.out (by have := HK0.out.2; omega)).mono ?_
 rintro e w1 ⟨vk, rfl, hrk, hb1⟩
 obtain ⟨Ak, ck, rfl⟩ := Kd.R_slice hrk
 have HRB := a_ (Kd.R_base hrk)
 have HR1 := a_ (Kd.R_lower hrk HB.out.size)
 have HB1 := a_ (below_step HB.out hb1)
 have HW1 := a_ hb1
 clear hrk hb1
 go_wp2_with fail
 refine (split_new (!cl) w0 _ HB1.out).mono ?_
 rintro e w2 ⟨rfl, hs2, hb2⟩
 have HR2 := a_ (Kd.R_below HR1.out hb2)
 have HB2 := a_ (below_step HB1.out hb2)
 have HW2 := a_ (below_step HW1.out hb2)
 have HS2 := a_ hs2
 have HL2 := a_ (And.intro (show w0.heap.size ≤ w1.heap.size from HB1.out.size) (show W.heap.size ≤ w1.heap.size from HW1.out.size))
 generalize w1.heap.size = sg at HS2 HL2 ⊢
 clear hs2 hb2 HR1 HB1 HW1
 go_wp2_with fail
 refine (gnew_any _).mono ?_
 rintro e w3 ⟨rfl, hG3, hb3⟩
 have HR3 := a_ (Kd.R_below HR2.out hb3)
 have HB3 := a_ (below_step HB2.out hb3)
 have HW3 := a_ (below_step HW2.out hb3)
 have HS3 := a_ (HS2.out.below hb3)
 have HG3 := a_ hG3
 have HL3 := a_ (And.intro (show w0.heap.size ≤ w2.heap.size from HB2.out.size) (show W.heap.size ≤ w2.heap.size from HW2.out.size))
 generalize w2.heap.size = gg at HG3 HL3 ⊢
 clear hG3 hb3 HR2 HB2 HW2 HS2
 go_wp2_with fail
 refine (closing_New.calls false false 0 0 0 w3 _ (Below.refl _ _) rfl).mono ?_
 rintro e w4 ⟨dg, rfl, hD4, _, hb4⟩
 have hB4 := below_step HB3.out hb4
 have HLD := a_ (show W.heap.size ≤ dg from Nat.le_trans HW3.out.size hD4.2)
 replace hD4 : IsS121 w0 w4 dg false false 0 0 0 := ⟨hD4.1, Nat.le_trans HB3.out.size hD4.2⟩
 have HR4 := a_ (Kd.R_below HR3.out hb4)
 have HW4 := a_ (below_step HW3.out hb4)
 have HS4 := a_ (HS3.out.below hb4)
 have HG4 := a_ (blk_below HG3.out hb4)
 have HD4 := a_ hD4
 have HB4 := a_ hB4
 clear hD4 hB4 hb4 HR3 HW3 HS3 HG3 HB3
 go_wp2_with fail
 have hba := below_alloc (Below.refl w4.heap.size w4) (.cells #[.bool cl, .slice Ak keys.length ck, .int .i64 0, .pointer (some ⟨sg, 0, none⟩), .pointer (some ⟨gg, 0, none⟩), .pointer (some ⟨dg, 0, none⟩), .slice none 0 0, .int .i64 0, .bool false] 76)
 go_ret
 refine ⟨w4.heap.size, ⟨.slice Ak keys.length ck, sg, gg, dg, .slice none 0 0, .slice none 0 0, .pointer none, .slice none 0 0, 0, []⟩, rfl, ⟨below_step HB4.out hba, last_at _ _ _ rfl, HB4.out.size, Kd.R_below HR4.out hba, HS4.out.below hba, HL2.out.1, ⟨below_step HB4.out hba, HL3.out.1, .inl ⟨rfl, ⟨⟨blk_below HG4.out hba, Kd.R_nil _ _ _ _ _, below_step HB4.out hba, HL3.out.1, rfl, fun k e => by cases e⟩, fun e => by cases e⟩, fun e => by cases e⟩⟩, HD4.out.below hba, Kd.R_nil _ _ _ _ _, fun k e => (by cases e), fun _ k e => (by cases e), newT_ok HK0.out.1 HK0.out.2⟩, below_step HW4.out hba, fun k hk => ?_⟩
 rcases hk with hk | hk | hk | (hk | ⟨_, hk | hk⟩) | hk | hk | hk
 ·rw [hk]; exact HW4.out.size
 ·rw [hk]; exact HL2.out.2
 ·rw [hk]; exact HLD.out
 ·rw [hk]; exact HL3.out.2
 ·cases hk
 ·cases hk
 ·cases hk
 ·cases hk
 ·exact HRB.out k hk
theorem cut_take (A : Option Addr) (c k : Nat) (lx : List Int) (hk : k ≤ lx.length) (hc : lx.length ≤ c) : (∀ W : World, (Instr.slice 27 (.slice A lx.length c) none (some (.int .i64 (k : Int))) none).run Tryz.prog W = .ok (.slice A (lx.take k).length c) W) := by
 have hd : (Tryz.prog.info? 5).map (fun i => i.size) = some 1 := by kernel_rfl
 obtain ⟨i_, hi_⟩ : ∃ i, Tryz.prog.info? 5 = some i := by
  have h : (Tryz.prog.info? 5).isSome = true := by kernel_rfl
  exact Option.isSome_iff_exists.1 h
 have hsz_ : i_.size = 1 := by
  rw [hi_] at hd
  exact Option.some.inj hd
 have h := (print_take_int (P := Tryz.prog) (k := .u8) 27 5 Tryz.underlying27 hi_ hsz_ A c lx (k : Int) (by omega) (by omega) hc).1
 rw [Int.toNat_natCast] at h
 exact h
theorem row_kf0 {α : Type} {kd : Kd α} {e base : Nat} {W W' : World} {F F' : Nat → Prop} {v : Value} {xs : List α} (h : kd.R e W base (fun k => ¬ F k) v xs) (hK : Kf W W' F F') : kd.R e W' base (fun k => ¬ F' k) v xs :=
 Kd.R_mono (Kd.R_step (Kd.R_bound h) (fun k hk hlt => hK.keep k hlt hk.1)) (fun k hk hf => (hK.new k hf).elim hk.1 (fun e => by have := hk.2.2.1; omega))
theorem Tn.newOut {w0 W : World} {t : Nat} {M : TM} {I : TI} (h : Tn w0 W t M I) {v1 : Value} {l1 : List Int} (hr : Kd.R (Kd.int .u8) 5 W w0.heap.size (fun _ => True) v1 l1) (hf : ∀ k, v1.ownBlock = some k → ¬ TF M I t k) (hby : ∀ x ∈ l1, 0 ≤ x ∧ x ≤ 255) : Tn w0 (W.setCell ⟨t, 6, none⟩ v1) t { M with out := l1 } { I with vo := v1 } ∧ (∀ W0, Kf W0 W (TF M I t) (TF M I t) → (∀ k, v1.ownBlock = some k → W0.heap.size ≤ k) → Kf W0 (W.setCell ⟨t, 6, none⟩ v1) (TF M I t) (TF { M with out := l1 } { I with vo := v1 } t)) := by
 refine ⟨h.setOut hr (fun k e => ⟨fun e2 => hf k e (.inr (.inr (.inr (.inr (.inl e2))))), fun ho e2 => hf k e (.inr (.inr (.inr (.inl (.inr ⟨ho, .inl e2⟩)))))⟩) hby, fun W0 hK hn => ⟨Nat.le_trans hK.size (by simp [World.setCell]), fun k hlt hnk => (Below.heap_setCell W ⟨t, 6, none⟩ v1 k (fun e => hnk (.inl e))).trans (hK.keep k hlt hnk), fun k hk => ?_⟩⟩
 rcases hk with hk | hk | hk | hk | hk | hk | hk
 ·exact hK.new k (.inl hk)
 ·exact hK.new k (.inr (.inl hk))
 ·exact hK.new k (.inr (.inr (.inl hk)))
 ·exact hK.new k (.inr (.inr (.inr (.inl hk))))
 ·exact hK.new k (.inr (.inr (.inr (.inr (.inl hk)))))
 ·exact .inr (hn k hk)
 ·exact hK.new k (.inr (.inr (.inr (.inr (.inr (.inr hk))))))
theorem tmay_ok {w0 W : World} {t : Nat} {M : TM} {I : TI} (h : Tn w0 W t M I) (hs : M.sent = false) (hca : M.cause = 0) : Calls Tryz.prog 34 #[.pointer (some ⟨t, 0, none⟩)] W (fun e w' => e = .returned (.int .i64 0) ∧ Tn w0 w' t M I ∧ Kf W w' (TF M I t) (TF M I t)) := by
 have hcb : (M.cause != 0) = false := by simp [hca]
 have H1 := a_ h
 have t5 : W.cell? ⟨t, 5, none⟩ = some (.pointer (some ⟨I.dg, 0, none⟩)) := (blk_cell h.blk 5).trans rfl
 clear h
 go_enter Tryz.func34, Tryz.ntmps34
 go_wp2_with fail
 refine (closing_Door_Sent.calls I.dg M.sent M.got M.code M.cause M.ecode M.sent M.sent M.got M.code M.cause M.ecode w0 _ H1.out.dr H1.out.bel rfl).mono ?_
 rintro e w2 ⟨rfl, hI2, hB2, hK2⟩
 obtain ⟨hT2, hK12⟩ := H1.out.setDoor hI2 hB2 hK2
 have HT2 : Aside0 (Tn w0 w2 t M I) := ⟨hT2⟩
 have HK12 : Aside0 (Kf W w2 (TF M I t) (TF M I t)) := ⟨hK12⟩
 clear hI2 hB2 hK2 hT2 hK12
 simp only [hs]
 have t5' : w2.cell? ⟨t, 5, none⟩ = some (.pointer (some ⟨I.dg, 0, none⟩)) := (blk_cell HT2.out.blk 5).trans rfl
 clear H1 t5
 have H1 := HT2
 go_wp2_with fail
 refine (closing_Door_Through.calls I.dg M.sent M.got M.code M.cause M.ecode (M.cause != 0) M.sent M.got M.code M.cause M.ecode w0 _ H1.out.dr H1.out.bel rfl).mono ?_
 rintro e w3 ⟨rfl, hI2, hB2, hK2⟩
 obtain ⟨hT3, hK23⟩ := H1.out.setDoor hI2 hB2 hK2
 have HT3 : Aside0 (Tn w0 w3 t M I) := ⟨hT3⟩
 have HK23 : Aside0 (Kf w2 w3 (TF M I t) (TF M I t)) := ⟨hK23⟩
 clear hI2 hB2 hK2 hT3 hK23
 simp only [hcb]
 go_wp2_with fail
 go_ret
 exact ⟨rfl, HT3.out, HK12.out.trans HK23.out⟩
theorem may9 {M : TM} {x : List Int} (hl : x.length ≤ 125) : mayB true 9 M.cl 0 x = true := (mayB_iff ..).2 ⟨.inr ⟨by decide, by decide⟩, .inr rfl, by omega, .inr ⟨rfl, by omega⟩⟩
theorem tping {w0 W : World} {t : Nat} {M : TM} {I : TI} (h : Tn w0 W t M I) {x : List Int} {A : Option Addr} {c : Nat} (hs : M.sent = false) (hca : M.cause = 0) (hA : Ap W (TF M I t) A x) (hc : x.length ≤ c) (hby : ∀ y ∈ x, Byte y) (hkb : M.key < 9223372036854775807) (hol : M.out.length ≤ 1000000) (hl : x.length ≤ 125 ∧ M.out.length + (putL true 9 M.cl 0 x).length ≤ 16384) : Calls Tryz.prog 18 #[.pointer (some ⟨t, 0, none⟩), .slice A x.length c] W (fun e w' => e = .returned (.int .i64 0) ∧ ∃ vo', Tn w0 w' t (putM M true 9 x) { I with vo := vo' } ∧ Kf W w' (TF M I t) (TF (putM M true 9 x) { I with vo := vo' } t)) := by
 have hu81 := Tryz.underlying81
 have HA := a_ hA
 have HC := a_ hc
 have HBY := a_ hby
 have HB := a_ (And.intro hkb hol)
 have HL := a_ hl
 have H0 := a_ h
 clear hA hc hby hkb hol hl h
 go_enter Tryz.func18, Tryz.ntmps18
 go_wp2_with fail
 refine (tmay_ok H0.out hs hca).mono ?_
 rintro e w1 ⟨rfl, hT1, hK1⟩
 have H1 := a_ hT1
 have K1 := a_ hK1
 have t0 : w1.cell? ⟨t, 0, none⟩ = some (.bool M.cl) := (blk_cell hT1.blk 0).trans rfl
 clear hT1 hK1 hs hca
 go_upto_region 5 with fail
 have hb2 : Below w1.heap.size w1 (w1.alloc (.cells #[.bool true, .int .u8 9, .bool M.cl, .int .u32 0, .slice A x.length c] 81)) := below_alloc (Below.refl _ _) _
 have hx2 : (w1.alloc (.cells #[.bool true, .int .u8 9, .bool M.cl, .int .u32 0, .slice A x.length c] 81)).heap[w1.heap.size]? = some (.cells #[.bool true, .int .u8 9, .bool M.cl, .int .u32 0, .slice A x.length c] 81 (0, 0)) := last_at _ _ _ rfl
 have H2 := a_ (H1.out.below hb2)
 have K2 := a_ (K1.out.below hb2)
 have HNP : Aside0 (¬ TF M I t w1.heap.size) := ⟨fun hh => Nat.lt_irrefl _ (H1.out.lt hh)⟩
 generalize w1.alloc (.cells #[.bool true, .int .u8 9, .bool M.cl, .int .u32 0, .slice A x.length c] 81) = w2 at hb2 hx2 H2 K2 ⊢
 generalize w1.heap.size = gp at hx2 HNP ⊢
 clear hb2 t0 H1 K1
 have HX2 := a_ hx2
 clear hx2
 obtain ⟨Ao, co, eo⟩ := Kd.R_slice H2.out.out
 obtain ⟨no, hno⟩ : ∃ n, n = M.out.length := ⟨_, rfl⟩
 rw [← hno] at eo
 have HNO := a_ hno
 have hb6 := H2.out.blk
 unfold tcells at hb6
 rw [eo] at hb6
 have c6 : w2.cell? ⟨t, 6, none⟩ = some (.slice Ao no co) := (blk_cell hb6 6).trans rfl
 have HEO := a_ eo
 clear eo hno hb6
 obtain ⟨d0, d1, d2, d3, d4⟩ := xl5_ HX2.out
 have hl2 : ¬ (125 : Int) < (x.length : Int) := by have := HL.out.1; omega
 go_upto_region 7 with fail
 refine wp_region_noPanic ?_
 refine wp_region_held_drew (S := fun w' => Aside0 (Below w2.heap.size w2 w') ∧ w'.cell? ⟨t, 6, none⟩ = some (.slice Ao no co) ∧ w'.cell? ⟨gp, 0, none⟩ = some (.bool true) ∧ w'.cell? ⟨gp, 1, none⟩ = some (.int .u8 9) ∧ w'.cell? ⟨gp, 2, none⟩ = some (.bool M.cl) ∧ w'.cell? ⟨gp, 3, none⟩ = some (.int .u32 0) ∧ w'.cell? ⟨gp, 4, none⟩ = some (.slice A x.length c)) (by kernel_rfl) (⟨⟨below_drew (Below.refl w2.heap.size w2)⟩, ((below_drew (Below.refl w2.heap.size w2)).cell (World.block_lt_of_cell? _ _ c6)).trans c6, ((below_drew (Below.refl w2.heap.size w2)).cell (World.block_lt_of_cell? _ _ d0)).trans d0, ((below_drew (Below.refl w2.heap.size w2)).cell (World.block_lt_of_cell? _ _ d1)).trans d1, ((below_drew (Below.refl w2.heap.size w2)).cell (World.block_lt_of_cell? _ _ d2)).trans d2, ((below_drew (Below.refl w2.heap.size w2)).cell (World.block_lt_of_cell? _ _ d3)).trans d3, ((below_drew (Below.refl w2.heap.size w2)).cell (World.block_lt_of_cell? _ _ d4)).trans d4⟩) (fun hHeld => ?_)
 refine takeP 0 23 ?_
 refine takeP 1 24 ?_
 refine takeP 2 25 ?_
 refine takeP 3 26 ?_
 refine takeP 4 27 ?_
 refine takeP 5 28 ?_
 refine rd1_ 6 fun K hK => ?_
 go_simp
 go_at_call 37
 with_reducible refine (wsframe_Put.calls (x.length + 10) true 9 M.cl 0 A c x (putL true 9 M.cl 0 x) _ (Ap.C (HA.out.kf (K2.out.below hHeld.1.out))) HC.out (put_f true 9 M.cl 0 x (by decide) (may9 HL.out.1) _ (Nat.le_refl _))).mono ?_
 rintro e w' ⟨v7, rfl, hr7, hb7⟩
 obtain ⟨A7, c7, rfl⟩ := Kd.R_slice hr7
 obtain ⟨nr, hnr⟩ : ∃ n, n = (putL true 9 M.cl 0 x).length := ⟨_, rfl⟩
 have HNR := a_ hnr
 rw [← hnr]
 clear hnr hr7
 have hsum : wrap64 ((no : Int) + (nr : Int)) = ((no + nr : Nat) : Int) := by have h1 := HL.out.2; have h2 := HNO.out; have h3 := HNR.out; unfold wrap64; omega
 have hsum2 : IntKind.i64.wrap ((no : Int) + (nr : Int)) = ((no + nr : Nat) : Int) := by rw [i64_w]; exact hsum
 have hle_ : ¬ (16384 : Int) < ((no + nr : Nat) : Int) := by have h1 := HL.out.2; have h2 := HNO.out; have h3 := HNR.out; omega
 refine hK.out _ _ (⟨⟨below_step hHeld.1.out hb7⟩, ((below_step hHeld.1.out hb7).cell (World.block_lt_of_cell? _ _ c6)).trans c6, ((below_step hHeld.1.out hb7).cell (World.block_lt_of_cell? _ _ d0)).trans d0, ((below_step hHeld.1.out hb7).cell (World.block_lt_of_cell? _ _ d1)).trans d1, ((below_step hHeld.1.out hb7).cell (World.block_lt_of_cell? _ _ d2)).trans d2, ((below_step hHeld.1.out hb7).cell (World.block_lt_of_cell? _ _ d3)).trans d3, ((below_step hHeld.1.out hb7).cell (World.block_lt_of_cell? _ _ d4)).trans d4⟩) (fun hHeld => ?_)
 clear hK K
 try simp only [Act.put, z1_, z2_, z3_]
 refine takeP 7 30 ?_
 refine takeP 8 31 ?_
 refine takeP 9 32 ?_
 refine takeP 10 22 ?_
 refine wpAnyH_done (by kernel_rfl) ?_ _
 refine NoPanic.normal ?_
 have HB3 := a_ hHeld.1.out
 clear hHeld c6 d0 d1 d2 d3 d4
 have H3 := a_ (H2.out.below HB3.out)
 have K3 := a_ (K2.out.below HB3.out)
 have HX3 := a_ (blk_below HX2.out HB3.out)
 clear H2 K2 HX2
 obtain ⟨d0, d1, d2, d3, d4⟩ := xl5_ HX3.out
 go_wp2_with fail
 refine (tput (fin := true) (op := 9) H3.out (HA.out.kf K3.out) HC.out HBY.out (by decide) (may8 ⟨by decide, by decide⟩ HL.out.1) (.inr rfl) HB.out.1 HB.out.2).mono ?_
 rintro e w4 ⟨rfl, vo4, hT4, hK4⟩
 have H4 := a_ hT4
 have K4 := a_ (K3.out.trans hK4)
 clear hT4 hK4 d0 d1 d2 d3 d4
 go_wp2_with fail
 go_ret
 exact ⟨rfl, _, H4.out, K4.out⟩
def outM (M : TM) (most : Int) : List Int × Bool × TM :=
 if M.ended = true then ([], false, M)
 else if M.out.drop (min (max most 1).toNat M.out.length) ≠ [] then (M.out.take (min (max most 1).toNat M.out.length), false, { M with out := M.out.drop (min (max most 1).toNat M.out.length) })
 else (M.out.take (min (max most 1).toNat M.out.length), M.cause != 0, { M with out := M.out.drop (min (max most 1).toNat M.out.length), pongs := 0, ended := M.cause != 0 })
def OutP (w0 W : World) (t : Nat) (M : TM) (I : TI) (most : Int) (e : Ending) (w' : World) : Prop := ∃ Ab cb vo', e = .returned (.tuple #[.slice Ab (outM M most).1.length cb, .bool (outM M most).2.1]) ∧ Tn w0 w' t (outM M most).2.2 { I with vo := vo' } ∧ Kf W w' (TF M I t) (TF (outM M most).2.2 { I with vo := vo' } t) ∧ Kd.R (Kd.int .u8) 5 w' w0.heap.size (fun k => ¬ TF (outM M most).2.2 { I with vo := vo' } t k) (.slice Ab (outM M most).1.length cb) (outM M most).1 ∧ ∀ k, (Value.slice Ab (outM M most).1.length cb).ownBlock = some k → W.heap.size ≤ k
theorem tout {w0 W : World} {t : Nat} {M : TM} {I : TI} (h : Tn w0 W t M I) {most : Int} (hm : -9223372036854775808 ≤ most ∧ most ≤ 9223372036854775807) (hol : M.out.length ≤ 1000000) : Calls Tryz.prog 10 #[.pointer (some ⟨t, 0, none⟩), .int .i64 most] W (OutP w0 W t M I most) := by
 have HM := a_ hm
 have HOL := a_ hol
 have H0 := a_ h
 have t8 : W.cell? ⟨t, 8, none⟩ = some (.bool M.ended) := (blk_cell h.blk 8).trans rfl
 clear hm hol h
 go_enter Tryz.func10, Tryz.ntmps10
 by_cases he : M.ended = true
 ·rw [he] at t8
  go_wp2_with fail
  have HO : outM M most = ([], false, M) := by unfold outM; rw [if_pos he]
  unfold OutP
  rw [HO]
  exact bodyPost_ret (v := .tuple #[.slice none 0 0, .bool false]) (by simp [results, Tryz.results10, go_sem]) rfl ⟨none, 0, I.vo, rfl, H0.out, Kf.refl _ _, Kd.R_nil _ _ _ _ _, fun k e => by cases e⟩
 ·have he' : M.ended = false := by simpa using he
  rw [he'] at t8
  obtain ⟨Ao, co, eo⟩ := Kd.R_slice H0.out.out
  obtain ⟨no, hno⟩ : ∃ n, n = M.out.length := ⟨_, rfl⟩
  rw [← hno] at eo
  have HNO := a_ hno
  have hb6 := H0.out.blk
  unfold tcells at hb6
  rw [eo] at hb6
  have c6 : W.cell? ⟨t, 6, none⟩ = some (.slice Ao no co) := (blk_cell hb6 6).trans rfl
  have HEO := a_ eo
  clear eo hno hb6
  obtain ⟨n, hn⟩ : ∃ n, n = min (max most 1).toNat M.out.length := ⟨_, rfl⟩
  have hnle : n ≤ M.out.length := by omega
  have hco : M.out.length ≤ co := by have h1 := H0.out.out; rw [HEO.out] at h1; have := (Kd.R_reads' h1); omega
  have hC0 : Kd.C (Kd.int .u8) W Ao M.out.length M.out := by have h1 := H0.out.out; rw [HEO.out] at h1; exact (Kd.R_reads' h1).2.2
  have hnn : (if (no : Int) < (if most < 1 then 1 else most) then (no : Int) else (if most < 1 then 1 else most)) = ((n : Nat) : Int) := by
   have h1 := HNO.out
   split <;> split <;> omega
  obtain ⟨tk, htk⟩ : ∃ tk, tk = M.out.take n := ⟨_, rfl⟩
  obtain ⟨rs, hrs⟩ : ∃ rs, rs = M.out.drop n := ⟨_, rfl⟩
  have hcT := cut_take Ao co n M.out hnle hco
  obtain ⟨A2, c2, hcD, hC2, hc2⟩ := cut_left Ao co n M.out hnle hco
  have hCt := Kd.C_take (m := n) hC0 hnle
  rw [← htk] at hcT hCt
  rw [← hrs] at hcD hC2 hc2
  have hCd := hC2 _ hC0
  rw [← HNO.out] at hcT hcD
  have HTK := a_ (And.intro (show tk.length ≤ co by rw [htk, List.length_take]; omega) (show tk.length ≤ 1000000000 by rw [htk, List.length_take]; have := HOL.out; omega))
  have HRS := a_ (And.intro (show rs.length ≤ c2 from hc2) (show rs.length ≤ 1000000000 by rw [hrs, List.length_drop]; have := HOL.out; omega))
  have HBT : Aside0 (∀ x ∈ rs, 0 ≤ x ∧ x ≤ 255) := ⟨fun x hx => H0.out.ok.obyt x (by rw [hrs] at hx; exact List.mem_of_mem_drop hx)⟩
  have HOM : Aside0 (outM M most = if rs ≠ [] then (tk, false, { M with out := rs }) else (tk, M.cause != 0, { M with out := rs, pongs := 0, ended := M.cause != 0 })) := ⟨by unfold outM; rw [if_neg he, ← hn, ← htk, ← hrs]⟩
  have HCT := a_ hCt
  have HCD := a_ hCd
  clear hnle hco hC0 htk hrs hC2 hc2 hCt hCd he hn
  go_upto_region 4 with fail
  clear hnn
  generalize (if most < 1 then (1 : Int) else most) = mx_
  go_wp2_with fail
  refine (sclone8 Ao co tk _ HCT.out HTK.out.1 HTK.out.2).mono ?_
  rintro e w1 ⟨vb, rfl, hrb, hb1⟩
  obtain ⟨Ab, cb, rfl⟩ := Kd.R_slice hrb
  have H1 := a_ (H0.out.below hb1)
  have K1 := a_ ((Kf.refl W (TF M I t)).below hb1)
  have HLB := a_ (And.intro (Kd.R_base hrb) (Kd.R_lt hrb))
  have HRB := a_ (Kd.R_lower hrb H0.out.bel.size)
  have HCD1 := a_ (Kd.C_below HCD.out hb1)
  have HFL : Aside0 (∀ k, TF M I t k → k < W.heap.size) := ⟨fun k hk => H0.out.lt hk⟩
  have HS1 := a_ hb1.size
  have c6' : w1.cell? ⟨t, 6, none⟩ = some (.slice Ao no co) := (hb1.cell (World.block_lt_of_cell? _ _ c6)).trans c6
  clear hrb hb1 HCT HCD c6 t8
  go_wp2_with fail
  refine (sclone8 A2 c2 rs _ HCD1.out HRS.out.1 HRS.out.2).mono ?_
  rintro e w2 ⟨vr, rfl, hrr, hb2⟩
  obtain ⟨Ar, cr, rfl⟩ := Kd.R_slice hrr
  have H2 := a_ (H1.out.below hb2)
  have K2 := a_ (K1.out.below hb2)
  have HLR := a_ (Kd.R_base hrr)
  have HRB2 := a_ (Kd.R_below HRB.out hb2)
  obtain ⟨hT3, hK3⟩ := H2.out.newOut (Kd.R_lower hrr H1.out.bel.size) (fun k e hk => by have h1 := HFL.out k hk; have h2 := HLR.out k e; have := HS1.out; omega) HBT.out
  have H3 := a_ hT3
  have K3 := a_ (hK3 W K2.out (fun k e => by have h2 := HLR.out k e; have := HS1.out; omega))
  have HRB3 : Aside0 (Kd.R (Kd.int .u8) 5 (w2.setCell ⟨t, 6, none⟩ (.slice Ar rs.length cr)) w0.heap.size (fun k => ¬ TF { M with out := rs } { I with vo := .slice Ar rs.length cr } t k) (.slice Ab tk.length cb) tk) := ⟨(row_ok (row_keep (W' := w2.setCell ⟨t, 6, none⟩ (.slice Ar rs.length cr)) HRB2.out (fun k e => Below.heap_setCell w2 ⟨t, 6, none⟩ _ k (row_at_ne (d := 0) HRB2.out H2.out.blk (by decide) e))) (fun k e (hk : TF { M with out := rs } { I with vo := .slice Ar rs.length cr } t k) => by
   have h1 := HLB.out.1 k e
   have h2 := HLB.out.2 k e
   rcases hk with hk | hk | hk | hk | hk | hk | hk
   ·have := HFL.out k (.inl hk); omega
   ·have := HFL.out k (.inr (.inl hk)); omega
   ·have := HFL.out k (.inr (.inr (.inl hk))); omega
   ·have := HFL.out k (.inr (.inr (.inr (.inl hk)))); omega
   ·have := HFL.out k (.inr (.inr (.inr (.inr (.inl hk))))); omega
   ·have := HLR.out k hk; omega
   ·have := HFL.out k (.inr (.inr (.inr (.inr (.inr (.inr hk)))))); omega))⟩
  have c6 : w2.cell? ⟨t, 6, none⟩ = some (.slice Ao no co) := (hb2.cell (World.block_lt_of_cell? _ _ c6')).trans c6'
  have cf6 := blk_frozen H2.out.blk 6
  have cl6 := blk_lt H2.out.blk
  clear hT3 hK3 hrr hb2 c6' H1 K1
  go_upto_region 6 with fail
  generalize w2.setCell ⟨t, 6, none⟩ (.slice Ar rs.length cr) = w3 at H3 K3 HRB3 ⊢
  clear c6 cf6 cl6 hcT hcD
  have c6 : w3.cell? ⟨t, 6, none⟩ = some (.slice Ar rs.length cr) := (blk_cell H3.out.blk 6).trans rfl
  by_cases hre : rs = []
  ·have hrl : ¬ (0 : Int) < (rs.length : Int) := by rw [hre]; decide
   have HRE := a_ hre
   clear hre
   obtain ⟨-, -, -, -, -, -, -, -, -, -, -, -, -, -, c7, cf7⟩ := xf8_ H3.out.blk
   have cl7 := blk_lt H3.out.blk
   have hS4 := H3.out.set (M' := { M with out := rs, pongs := 0 }) 7 (.int .i64 0) rfl rfl rfl { H3.out.ok with pong := ⟨Int.le_refl _, by show (0 : Int) ≤ 16; decide⟩ }
   have hne : ∀ k, k ≠ t → (w3.setCell ⟨t, 7, none⟩ (.int .i64 0)).heap[k]? = w3.heap[k]? := fun k e => Below.heap_setCell w3 ⟨t, 7, none⟩ _ k e
   have H4 := a_ hS4
   have K4 : Aside0 (Kf W (w3.setCell ⟨t, 7, none⟩ (.int .i64 0)) (TF M I t) (TF { M with out := rs, pongs := 0 } { I with vo := .slice Ar rs.length cr } t)) := ⟨⟨Nat.le_trans K3.out.size (by simp [World.setCell]), fun k hlt hn => (hne k (fun e => hn (.inl e))).trans (K3.out.keep k hlt hn), K3.out.new⟩⟩
   have HRB4 := a_ (row_ok (row_keep (W' := w3.setCell ⟨t, 7, none⟩ (.int .i64 0)) HRB3.out (fun k e => hne k (row_at_ne (d := 0) HRB3.out H3.out.blk (by decide) e))) (fun k e => HRB3.out.1 k e))
   clear hS4 hne
   go_upto_region 9 with fail
   generalize w3.setCell ⟨t, 7, none⟩ (.int .i64 0) = w4 at H4 K4 HRB4 ⊢
   clear c6 c7 cf7 cl7 hrl
   have t5 : w4.cell? ⟨t, 5, none⟩ = some (.pointer (some ⟨I.dg, 0, none⟩)) := (blk_cell H4.out.blk 5).trans rfl
   go_wp2_with fail
   refine (closing_Door_Through.calls I.dg M.sent M.got M.code M.cause M.ecode (M.cause != 0) M.sent M.got M.code M.cause M.ecode w0 _ H4.out.dr H4.out.bel rfl).mono ?_
   rintro e w5 ⟨rfl, hI2, hB2, hK2⟩
   obtain ⟨hT5, hK45⟩ := H4.out.setDoor hI2 hB2 hK2
   have H5 : Aside0 (Tn w0 w5 t { M with out := rs, pongs := 0 } { I with vo := .slice Ar rs.length cr }) := ⟨hT5⟩
   have K5 : Aside0 (Kf W w5 (TF M I t) (TF { M with out := rs, pongs := 0 } { I with vo := .slice Ar rs.length cr } t)) := ⟨K4.out.trans hK45⟩
   have HRB5 : Aside0 (Kd.R (Kd.int .u8) 5 w5 w0.heap.size (fun k => ¬ TF { M with out := rs, pongs := 0 } { I with vo := .slice Ar rs.length cr } t k) (.slice Ab tk.length cb) tk) := ⟨row_kf0 HRB4.out hK45⟩
   obtain ⟨en, hen⟩ : ∃ en, en = (M.cause != 0) := ⟨_, rfl⟩
   rw [← hen] at HOM ⊢
   clear hT5 hI2 hB2 hK2 hK45 t5 hen
   obtain ⟨-, -, -, -, -, -, -, -, -, -, -, -, -, -, -, -, c8, cf8⟩ := xf9_ H5.out.blk
   have cl8 := blk_lt H5.out.blk
   have hS6 := H5.out.set (M' := { M with out := rs, pongs := 0, ended := en }) 8 (.bool en) rfl rfl rfl { H5.out.ok with }
   have hne : ∀ k, k ≠ t → (w5.setCell ⟨t, 8, none⟩ (.bool en)).heap[k]? = w5.heap[k]? := fun k e => Below.heap_setCell w5 ⟨t, 8, none⟩ _ k e
   have H6 := a_ hS6
   have K6 : Aside0 (Kf W (w5.setCell ⟨t, 8, none⟩ (.bool en)) (TF M I t) (TF { M with out := rs, pongs := 0, ended := en } { I with vo := .slice Ar rs.length cr } t)) := ⟨⟨Nat.le_trans K5.out.size (by simp [World.setCell]), fun k hlt hn => (hne k (fun e => hn (.inl e))).trans (K5.out.keep k hlt hn), K5.out.new⟩⟩
   have HRB6 := a_ (row_ok (row_keep (W' := w5.setCell ⟨t, 8, none⟩ (.bool en)) HRB5.out (fun k e => hne k (row_at_ne (d := 0) HRB5.out H5.out.blk (by decide) e))) (fun k e => HRB5.out.1 k e))
   clear hS6 hne
   go_upto_region 10 with fail
   generalize w5.setCell ⟨t, 8, none⟩ (.bool en) = w6 at H6 K6 HRB6 ⊢
   clear c8 cf8 cl8
   have c8 : w6.cell? ⟨t, 8, none⟩ = some (.bool en) := (blk_cell H6.out.blk 8).trans rfl
   refine wp_region_noPanic ?_
   refine wp_region_held_drew (S := fun w' => Aside0 (w6.drew = w') ∧ w'.cell? ⟨t, 8, none⟩ = some (.bool en)) (by kernel_rfl) (⟨⟨rfl⟩, c8⟩) (fun hHeld => ?_)
   refine takeP 0 59 ?_
   refine takeP 1 60 ?_
   refine takeP 2 61 ?_
   refine takeP 3 62 ?_
   refine takeP 4 63 ?_
   refine takeP 5 4 ?_
   refine takeP 6 5 ?_
   refine wpAnyH_done (by kernel_rfl) ?_ _
   refine NoPanic.normal ?_
   clear hHeld c8
   go_wp2_with fail
   have HO : outM M most = (tk, en, { M with out := rs, pongs := 0, ended := en }) := by rw [HOM.out, if_neg (by rw [HRE.out]; simp)]
   unfold OutP
   rw [HO]
   exact bodyPost_ret (v := .tuple #[.slice Ab tk.length cb, .bool en]) (by simp [results, Tryz.results10, go_sem]) rfl ⟨Ab, cb, _, rfl, H6.out.below (below_drew (Below.refl _ _)), K6.out.below (below_drew (Below.refl _ _)), Kd.R_drew HRB6.out, HLB.out.1⟩
  ·have hrl : (0 : Int) < (rs.length : Int) := by
    rcases Nat.eq_zero_or_pos rs.length with h | h
    ·exact absurd (List.length_eq_zero_iff.1 h) hre
    ·omega
   have HRE := a_ hre
   clear hre
   go_wp2_with fail
   have HO : outM M most = (tk, false, { M with out := rs }) := by rw [HOM.out, if_pos HRE.out]
   unfold OutP
   rw [HO]
   exact bodyPost_ret (v := .tuple #[.slice Ab tk.length cb, .bool false]) (by simp [results, Tryz.results10, go_sem]) rfl ⟨Ab, cb, _, rfl, H3.out, K3.out, HRB3.out, HLB.out.1⟩
def sendAll (M : TM) (ps : List Pc) : TM := ps.foldl (fun M p => putM M p.f0 p.f1 p.f4) M
theorem sendAll_snoc (M : TM) (ps : List Pc) (p : Pc) : sendAll M (ps ++ [p]) = putM (sendAll M ps) p.f0 p.f1 p.f4 := by unfold sendAll; rw [List.foldl_append]; rfl
def sumLen (cl : Bool) (ps : List Pc) : Nat := (ps.map fun p => (putL p.f0 p.f1 cl 0 p.f4).length).sum
theorem sumLen_snoc (cl : Bool) (ps : List Pc) (p : Pc) : sumLen cl (ps ++ [p]) = sumLen cl ps + (putL p.f0 p.f1 cl 0 p.f4).length := by unfold sumLen; rw [List.map_append, List.sum_append]; simp
theorem sumLen_take (cl : Bool) : ∀ (ps : List Pc) (k : Nat), sumLen cl (ps.take k) ≤ sumLen cl ps
 | [], k => by rw [List.take_nil]; exact Nat.le_refl _
 | p :: ps, 0 => Nat.zero_le _
 | p :: ps, k + 1 => by
  have := sumLen_take cl ps k
  show (putL p.f0 p.f1 cl 0 p.f4).length + sumLen cl (ps.take k) ≤ (putL p.f0 p.f1 cl 0 p.f4).length + sumLen cl ps
  omega
theorem putL_keyless (fin : Bool) (op : Int) (mk : Bool) (k1 k2 : Int) (d : List Int) : (putL fin op mk k1 d).length = (putL fin op mk k2 d).length := by
 unfold putL
 cases mk with
 | true =>
  have h : ∀ k, (PAll.keyOf k ++ turned d k).length = 4 + d.length := fun k => by rw [List.length_append, turned_len]; rfl
  simp only [if_true, List.length_cons, List.length_append, turned_len]
  rfl
 | false => rfl
theorem sendAll_fix (M : TM) : ∀ ps : List Pc, (sendAll M ps).cl = M.cl ∧ (sendAll M ps).keys = M.keys ∧ (sendAll M ps).sent = M.sent ∧ (sendAll M ps).cause = M.cause ∧ (sendAll M ps).key ≤ M.key + ps.length ∧ (sendAll M ps).out.length = M.out.length + sumLen M.cl ps := by
 intro ps
 induction ps generalizing M with
 | nil => exact ⟨rfl, rfl, rfl, rfl, by show M.key ≤ M.key + 0; omega, rfl⟩
 | cons p ps ih =>
  obtain ⟨h1, h2, h3, h4, h5, h6⟩ := ih (putM M p.f0 p.f1 p.f4)
  have hk : (putM M p.f0 p.f1 p.f4).key ≤ M.key + 1 := by
   show TM.key' _ ≤ _
   unfold TM.key'
   split
   ·split <;> omega
   ·omega
  have ho : (putM M p.f0 p.f1 p.f4).out.length = M.out.length + (putL p.f0 p.f1 M.cl 0 p.f4).length := by
   show (M.out ++ putL p.f0 p.f1 M.cl M.nkey p.f4).length = _
   rw [List.length_append, putL_keyless p.f0 p.f1 M.cl M.nkey 0 p.f4]
  refine ⟨h1, h2, h3, h4, ?_, ?_⟩
  ·show (sendAll (putM M p.f0 p.f1 p.f4) ps).key ≤ M.key + ((ps.length + 1 : Nat) : Int)
   omega
  ·show (sendAll (putM M p.f0 p.f1 p.f4) ps).out.length = M.out.length + ((putL p.f0 p.f1 M.cl 0 p.f4).length + sumLen M.cl ps)
   rw [h6, ho]
   show _ + sumLen M.cl ps = _
   omega
theorem putL_le8 (fin : Bool) (op : Int) (cl : Bool) (d : List Int) : (putL fin op cl 0 d).length ≤ d.length + 8 := by
 have hk : (PAll.keyOf 0).length = 4 := rfl
 have h2 : (if d.length < 126 then ([] : List Int) else [(d.length : Int) / 256 % 256, (d.length : Int) % 256]).length ≤ 2 := by split <;> simp
 unfold putL
 cases cl with
 | true =>
  simp only [List.length_cons, if_true, List.length_append, turned_len]
  omega
 | false =>
  simp only [List.length_cons, Bool.false_eq_true, if_false, List.length_append]
  omega
theorem sumLen_le (cl : Bool) : ∀ ps : List Pc, (∀ p ∈ ps, p.f4.length ≤ 4096) → sumLen cl ps ≤ 4104 * ps.length
 | [], _ => Nat.le_refl _
 | p :: ps, h => by
  have h1 := sumLen_le cl ps (fun q hq => h q (List.mem_cons_of_mem _ hq))
  have h2 := putL_le8 p.f0 p.f1 cl p.f4
  have h3 := h p List.mem_cons_self
  show (putL p.f0 p.f1 cl 0 p.f4).length + sumLen cl ps ≤ 4104 * (ps.length + 1)
  omega
structure SnP (ps : List Pc) : Prop where
 op : ∀ p ∈ ps, 0 ≤ p.f1 ∧ p.f1 ≤ 2
 msk : ∀ p ∈ ps, p.f2 = false
 key : ∀ p ∈ ps, p.f3 = 0
 len : ∀ p ∈ ps, p.f4.length ≤ 4096
theorem CutP.snp {M : Nat} {op : Int} {b : List Int} {ps : List Pm} (h : CutP M op b ps) (hM : M ≤ 4096) (ho : 0 ≤ op ∧ op ≤ 2) : SnP ps := by
 induction h with
 | last hl => exact ⟨fun p hp => by rw [List.mem_singleton.1 hp]; exact ho, fun p hp => by rw [List.mem_singleton.1 hp], fun p hp => by rw [List.mem_singleton.1 hp], fun p hp => by rw [List.mem_singleton.1 hp]; exact Nat.le_trans hl hM⟩
 | more hl hc ih =>
  have ih := ih ⟨by decide, by decide⟩
  refine ⟨fun p hp => ?_, fun p hp => ?_, fun p hp => ?_, fun p hp => ?_⟩
  ·rcases List.mem_cons.1 hp with rfl | hp
   ·exact ho
   ·exact ih.op p hp
  ·rcases List.mem_cons.1 hp with rfl | hp
   ·rfl
   ·exact ih.msk p hp
  ·rcases List.mem_cons.1 hp with rfl | hp
   ·rfl
   ·exact ih.key p hp
  ·rcases List.mem_cons.1 hp with rfl | hp
   ·show (List.take M _).length ≤ 4096
    rw [List.length_take]; omega
   ·exact ih.len p hp
theorem CutP.data {M : Nat} {op : Int} {b : List Int} {ps : List Pm} (h : CutP M op b ps) (hb : ∀ x ∈ b, Byte x) : ∀ p ∈ ps, ∀ x ∈ p.f4, Byte x := by
 induction h with
 | last hl => exact fun p hp => by rw [List.mem_singleton.1 hp]; exact hb
 | more hl hc ih =>
  intro p hp
  rcases List.mem_cons.1 hp with rfl | hp
  ·exact fun x hx => hb x (List.mem_of_mem_take hx)
  ·exact ih (fun x hx => hb x (List.mem_of_mem_drop hx)) p hp
theorem mayS {p : Pc} (ho : 0 ≤ p.f1 ∧ p.f1 ≤ 2) (hl : p.f4.length ≤ 4096) (cl : Bool) (k : Int) (hk : cl = true ∨ k = 0) : mayB p.f0 p.f1 cl k p.f4 = true := (mayB_iff ..).2 ⟨.inl ho.2, hk, by omega, .inl (by omega)⟩
theorem nkey_zero (M : TM) : M.cl = true ∨ M.nkey = 0 := by
 unfold TM.nkey
 cases M.cl with
 | true => exact .inl rfl
 | false => exact .inr rfl
def SzR (w0 W : World) (cl : Bool) (ps : List Pc) (Ap_ : Option Addr) (cp : Nat) (t : Nat) (M : TM) (I : TI) (mu : Nat) (sv iv : Value) (wr : World) : Prop := ∃ i : Nat, iv = .int .i64 (i : Nat) ∧ sv = .int .i64 ((sumLen cl (ps.take i) : Nat) : Int) ∧ i + mu = ps.length ∧ Below W.heap.size W wr
def SdR (w0 W : World) (ps : List Pc) (Ap_ : Option Addr) (cp : Nat) (t : Nat) (M : TM) (I : TI) (mu : Nat) (iv : Value) (wr : World) : Prop := ∃ (i : Nat) (vo : Value), iv = .int .i64 (i : Nat) ∧ i + mu = ps.length ∧ Tn w0 wr t (sendAll M (ps.take i)) { I with vo := vo } ∧ Kf W wr (TF M I t) (TF (sendAll M (ps.take i)) { I with vo := vo } t) ∧ Kd.R k81 81 wr w0.heap.size (fun k => ¬ TF (sendAll M (ps.take i)) { I with vo := vo } t k) (.slice Ap_ ps.length cp) ps
theorem tsendG {w0 W : World} {t : Nat} {M : TM} {I : TI} (h : Tn w0 W t M I) {b : List Int} {A : Option Addr} {c : Nat} {most : Int} (hs : M.sent = false) (hca : M.cause = 0) (hA : Ap W (TF M I t) A b) (hc : b.length ≤ c) (hbb : ∀ x ∈ b, Byte x) (hlb : b.length ≤ 4096) (hkb : M.key < 9223372036854000000) (hol : M.out.length ≤ 100000) : Calls Tryz.prog 9 #[.pointer (some ⟨t, 0, none⟩), .bool false, .slice A b.length c, .int .i64 most] W (fun e w' => ∃ ps, CutP (mostC most) 2 b ps ∧ ((M.out.length + sumLen M.cl ps ≤ 16384 ∧ e = .returned (.int .i64 0) ∧ ∃ vo', Tn w0 w' t (sendAll M ps) { I with vo := vo' } ∧ Kf W w' (TF M I t) (TF (sendAll M ps) { I with vo := vo' } t)) ∨ (16384 < M.out.length + sumLen M.cl ps ∧ e = .returned (.int .i64 8) ∧ Tn w0 w' t M I ∧ Kf W w' (TF M I t) (TF M I t)))) := by
 have hu81 := Tryz.underlying81
 have HBB := a_ hbb
 have HA := a_ hA
 have HC := a_ hc
 have HLB := a_ hlb
 have HKB := a_ (And.intro hkb hol)
 have H0 := a_ h
 clear hbb hA hc hlb hkb hol h
 go_enter Tryz.func9, Tryz.ntmps9
 go_wp2_with fail
 refine (tmay_ok H0.out hs hca).mono ?_
 rintro e w1 ⟨rfl, hT1, hK1⟩
 have H1 := a_ hT1
 have K1 := a_ hK1
 clear hT1 hK1 hs hca
 have hlb2 : ¬ (4096 : Int) < (b.length : Int) := by have := HLB.out; omega
 go_wp2_with fail
 refine (cut_any false A c b most _ (Ap.C (HA.out.kf K1.out)) HC.out (by have := HLB.out; omega)).mono ?_
 rintro e w2 ⟨pv, ps, rfl, hcp, hpl, hR, hb2⟩
 obtain ⟨Ap_, cp, rfl⟩ := Kd.R_slice hR
 have HCP := a_ hcp
 have HPL := a_ hpl
 have H2 := a_ (H1.out.below hb2)
 have K2 := a_ (K1.out.below hb2)
 have HLO := a_ (fun k (hk : TF M I t k) => H1.out.lt hk)
 have HR2 : Aside0 (Kd.R k81 81 w2 w0.heap.size (fun k => ¬ TF M I t k) (.slice Ap_ ps.length cp) ps) := ⟨Kd.R_mono (Kd.R_bound (Kd.R_lower hR (Nat.le_refl _))) (fun k hk hf => by have := HLO.out k hf; have := hk.2.1; omega) |> fun h => Kd.R_lower h H1.out.bel.size⟩
 have HSN := a_ (hcp.snp (mostC_pos most).2 (by decide))
 have HDB := a_ (hcp.data HBB.out)
 have HSL : Aside0 (sumLen M.cl ps ≤ 20000000) := ⟨by
  have h1 := sumLen_le M.cl ps HSN.out.len
  have h2 := hpl
  have h3 := HLB.out
  omega⟩
 clear hcp hpl hR hb2 hlb2 H1 K1
 go_wp2_with fail
 go_loopg [11, 38] ps.length (fun mu sv iv wr => SzR w0 w2 M.cl ps Ap_ cp t M I mu sv iv wr)
 case atStart => exact ⟨0, rfl, rfl, by omega, Below.refl _ _⟩
 case round =>
  obtain ⟨i, rfl, rfl, hi, hbr⟩ := hrel
  have HI := a_ hi
  have HBR := a_ hbr
  clear hi hbr
  by_cases hlt : i < ps.length
  ·have hRr := Kd.R_below HR2.out HBR.out
   obtain ⟨gp, A4, c4, rfl, e0, e1, e2, e3, e4, hR4⟩ := row_at hRr i hlt
   obtain ⟨p, hp⟩ : ∃ p, p = ps[i] := ⟨_, rfl⟩
   have hpm : p ∈ ps := hp ▸ List.getElem_mem hlt
   have hsn : sumLen M.cl (ps.take (i + 1)) = sumLen M.cl (ps.take i) + (putL p.f0 p.f1 M.cl 0 p.f4).length := by rw [List.take_add_one, List.getElem?_eq_getElem hlt, ← hp]; exact sumLen_snoc ..
   have htot := sumLen_take M.cl ps (i + 1)
   have hbd := HSL.out
   rw [← hp] at e0 e1 e2 e3 e4 hR4
   rw [HSN.out.msk p hpm] at e2
   rw [HSN.out.key p hpm] at e3
   have HOP := a_ (HSN.out.op p hpm)
   have HLN := a_ (HSN.out.len p hpm)
   have hR4 := a_ hR4
   obtain ⟨s, hs⟩ : ∃ s, s = sumLen M.cl (ps.take i) := ⟨_, rfl⟩
   obtain ⟨nr, hnr⟩ : ∃ n, n = (putL p.f0 p.f1 M.cl 0 p.f4).length := ⟨_, rfl⟩
   rw [← hs, ← hnr] at hsn
   rw [← hs]
   have hsum : wrap64 ((s : Int) + (nr : Int)) = ((s + nr : Nat) : Int) := by unfold wrap64; omega
   have hsum2 : IntKind.i64.wrap ((s : Int) + (nr : Int)) = ((s + nr : Nat) : Int) := by rw [i64_w]; exact hsum
   have HSM := a_ hsn
   have HNR := a_ hnr
   have hip : (0 : Int) ≤ (i : Int) := by omega
   have hlti : (i : Int) < (ps.length : Int) := by omega
   have HII := a_ (show ((i + 1 : Nat) : Int) = (i : Int) + 1 by omega)
   have hi9 : ps.length ≤ 100000 := by have := HPL.out; omega
   have t0 : wr.cell? ⟨t, 0, none⟩ = some (.bool M.cl) := (blk_cell (H2.out.below HBR.out).blk 0).trans rfl
   clear hRr hp hpm hsn htot hbd hs hnr
   go_upto_region 13 with fail
   have hb3 : Below wr.heap.size wr (wr.alloc (.cells #[.bool p.f0, .int .u8 p.f1, .bool false, .int .u32 0, .slice A4 p.f4.length c4] 81)) := below_alloc (Below.refl _ _) _
   have hx3 : (wr.alloc (.cells #[.bool p.f0, .int .u8 p.f1, .bool false, .int .u32 0, .slice A4 p.f4.length c4] 81)).heap[wr.heap.size]? = some (.cells #[.bool p.f0, .int .u8 p.f1, .bool false, .int .u32 0, .slice A4 p.f4.length c4] 81 (0, 0)) := last_at _ _ _ rfl
   have hgb : t < wr.heap.size := blk_lt (H2.out.below HBR.out).blk
   have t0 := (hb3.cell (World.block_lt_of_cell? _ _ t0)).trans t0
   have tf0 := blk_frozen (H2.out.below (below_step HBR.out hb3)).blk 0
   have tl_ := blk_lt (H2.out.below (below_step HBR.out hb3)).blk
   generalize wr.alloc (.cells #[.bool p.f0, .int .u8 p.f1, .bool false, .int .u32 0, .slice A4 p.f4.length c4] 81) = w3 at hb3 hx3 t0 tf0 tl_ ⊢
   obtain ⟨gb, hge⟩ : ∃ g, g = wr.heap.size := ⟨_, rfl⟩
   rw [← hge] at hx3 ⊢
   have HGE := a_ hge
   clear hge
   have HB3 := a_ hb3
   have HX3 := a_ hx3
   obtain ⟨-, -, -, -, d2, df2⟩ := xf3_ hx3
   have dl_ := blk_lt hx3
   clear hb3 hx3 e0 e1 e2 e3 e4
   go_upto_region 14 with fail
   have hb4 : Below wr.heap.size wr (w3.setCell ⟨gb, 2, none⟩ (.bool M.cl)) := Below.setCell HB3.out (by rw [HGE.out]; exact Nat.le_refl _) _
   have hx4 : (w3.setCell ⟨gb, 2, none⟩ (.bool M.cl)).heap[gb]? = some (.cells #[.bool p.f0, .int .u8 p.f1, .bool M.cl, .int .u32 0, .slice A4 p.f4.length c4] 81 (0, 0)) := blk_put HX3.out 2 _ rfl
   generalize w3.setCell ⟨gb, 2, none⟩ (.bool M.cl) = w4 at hb4 hx4 ⊢
   clear HB3 HX3 d2 df2 dl_ t0 tf0 tl_ HGE hgb
   have HB4 := a_ hb4
   have HX4 := a_ hx4
   obtain ⟨d0, d1, d2, d3, d4⟩ := xl5_ HX4.out
   clear hb4 hx4
   go_wp2_with fail
   refine (wsframe_Put.calls (p.f4.length + 10) p.f0 p.f1 M.cl 0 A4 c4 p.f4 (putL p.f0 p.f1 M.cl 0 p.f4) _ (Kd.R_reads' (Kd.R_below hR4.out HB4.out)).2.2 (Kd.R_reads' hR4.out).2.1 (put_f p.f0 p.f1 M.cl 0 p.f4 HOP.out.1 (mayS HOP.out HLN.out M.cl 0 (.inr rfl)) _ (Nat.le_refl _))).mono ?_
   rintro e w5 ⟨v7, rfl, hr7, hb5⟩
   obtain ⟨A7, c7, rfl⟩ := Kd.R_slice hr7
   rw [← HNR.out]
   have HB5 := a_ hb5
   clear hr7 hb5 d0 d1 d2 d3 d4
   go_wp2_with fail
   go_roundg (ps.length - (i + 1))
   case measure => have := HI.out; omega
   case rel => exact ⟨i + 1, by rw [HII.out], by rw [HSM.out, Int.natCast_add], (by have := HI.out; omega), below_step HBR.out (below_step HB4.out HB5.out)⟩
  ·have hlti : ¬ (i : Int) < (ps.length : Int) := by omega
   have hie : ps.take i = ps := List.take_of_length_le (by omega)
   rw [hie]
   have hbd := HSL.out
   obtain ⟨s, hs⟩ : ∃ s, s = sumLen M.cl ps := ⟨_, rfl⟩
   rw [← hs] at hbd ⊢
   have H3 := a_ (H2.out.below HBR.out)
   have K3 := a_ (K2.out.below HBR.out)
   have HR3 := a_ (Kd.R_below HR2.out HBR.out)
   obtain ⟨Ao, co, eo⟩ := Kd.R_slice H3.out.out
   obtain ⟨no, hno⟩ : ∃ n, n = M.out.length := ⟨_, rfl⟩
   rw [← hno] at eo
   have HNO := a_ hno
   have hb6 := H3.out.blk
   unfold tcells at hb6
   rw [eo] at hb6
   have c6 : wr.cell? ⟨t, 6, none⟩ = some (.slice Ao no co) := (blk_cell hb6 6).trans rfl
   have hnb : no ≤ 100000 := by have := HKB.out.2; omega
   have hsum : wrap64 ((no : Int) + (s : Int)) = ((no + s : Nat) : Int) := by unfold wrap64; omega
   have hsum2 : IntKind.i64.wrap ((no : Int) + (s : Int)) = ((no + s : Nat) : Int) := by rw [i64_w]; exact hsum
   have HBD := a_ hbd
   have HSS := a_ hs
   clear H2 K2 HR2 HBR HI hie hs eo hno hb6 hbd hnb
   by_cases hfull : 16384 < no + s
   ·have hle_ : (16384 : Int) < ((no + s : Nat) : Int) := by omega
    have HFU := a_ hfull
    clear hfull
    go_wp2_with fail
    go_ret
    refine ⟨ps, HCP.out, .inr ⟨?_, rfl, H3.out, K3.out⟩⟩
    rw [← HNO.out, ← HSS.out]
    exact HFU.out
   ·have hle_ : ¬ (16384 : Int) < ((no + s : Nat) : Int) := by omega
    have HFU := a_ hfull
    clear hfull
    go_wp2_with fail
    have HR3 : Aside0 (Kd.R k81 81 wr w0.heap.size (fun k => ¬ TF (sendAll M (ps.take 0)) { I with vo := I.vo } t k) (.slice Ap_ ps.length cp) ps) := HR3
    go_loopg [63] ps.length (fun mu iv wz => SdR w0 wr ps Ap_ cp t M I mu iv wz)
    case atStart => exact ⟨0, I.vo, rfl, by omega, H3.out, Kf.refl _ _, HR3.out⟩
    case round =>
     obtain ⟨i, vo, rfl, hi, hT, hK, hR⟩ := hrel
     obtain ⟨N, hN⟩ : ∃ N, N = sendAll M (ps.take i) := ⟨_, rfl⟩
     have hfx := sendAll_fix M (ps.take i)
     have htk := sumLen_take M.cl ps i
     have hbd := HBD.out
     rw [← hN] at hT hK hR hfx
     obtain ⟨f1, f2, f3, f4, f5, f6⟩ := hfx
     have hkl : (ps.take i).length ≤ ps.length := by rw [List.length_take]; omega
     have hkey : N.key < 9223372036854775807 := by have := HKB.out.1; have := HPL.out; have := HLB.out; omega
     have hol : N.out.length ≤ 1000000 := by have := HNO.out; have := HSS.out; have := HFU.out; omega
     have HI := a_ hi
     have HN := a_ hN
     have HT := a_ hT
     have HK := a_ hK
     have HR := a_ hR
     have HKO := a_ (And.intro hkey hol)
     clear hi hN hT hK hR f1 f2 f3 f4 f5 f6 hkl hkey hol htk hbd
     by_cases hlt : i < ps.length
     ·obtain ⟨gp, A4, c4, rfl, e0, e1, e2, e3, e4, hR4⟩ := row_at HR.out i hlt
      obtain ⟨p, hp⟩ : ∃ p, p = ps[i] := ⟨_, rfl⟩
      have hpm : p ∈ ps := hp ▸ List.getElem_mem hlt
      have hsn : sendAll M (ps.take (i + 1)) = putM N p.f0 p.f1 p.f4 := by rw [List.take_add_one, List.getElem?_eq_getElem hlt, ← hp, HN.out]; exact sendAll_snoc ..
      rw [← hp] at e0 e1 e2 e3 e4 hR4
      rw [HSN.out.msk p hpm] at e2
      rw [HSN.out.key p hpm] at e3
      have HOP := a_ (HSN.out.op p hpm)
      have HLN := a_ (HSN.out.len p hpm)
      have HDT := a_ (HDB.out p hpm)
      have HR4 := a_ hR4
      have HSM := a_ hsn
      have hip : (0 : Int) ≤ (i : Int) := by omega
      have hlti : (i : Int) < (ps.length : Int) := by omega
      have HII := a_ (show ((i + 1 : Nat) : Int) = (i : Int) + 1 by omega)
      have hi9 : ps.length ≤ 100000 := by have := HPL.out; have := HLB.out; omega
      clear hp hpm hsn hR4
      go_upto_region 21 with fail
      have hb3 : Below wr.heap.size wr (wr.alloc (.cells #[.bool p.f0, .int .u8 p.f1, .bool false, .int .u32 0, .slice A4 p.f4.length c4] 81)) := below_alloc (Below.refl _ _) _
      have hx3 : (wr.alloc (.cells #[.bool p.f0, .int .u8 p.f1, .bool false, .int .u32 0, .slice A4 p.f4.length c4] 81)).heap[wr.heap.size]? = some (.cells #[.bool p.f0, .int .u8 p.f1, .bool false, .int .u32 0, .slice A4 p.f4.length c4] 81 (0, 0)) := last_at _ _ _ rfl
      generalize wr.alloc (.cells #[.bool p.f0, .int .u8 p.f1, .bool false, .int .u32 0, .slice A4 p.f4.length c4] 81) = w3 at hb3 hx3 ⊢
      generalize wr.heap.size = gb at hx3 ⊢
      have HB3 := a_ hb3
      obtain ⟨d0, d1, d2, d3, d4⟩ := xl5_ hx3
      clear hb3 hx3 e0 e1 e2 e3 e4
      go_wp2_with fail
      refine (tput (fin := p.f0) (op := p.f1) (HT.out.below HB3.out) (Ap.of_row (Kd.R_below HR4.out HB3.out) (fun k e => HR4.out.1 k e)) (Kd.R_reads' HR4.out).2.1 HDT.out HOP.out.1 (mayS HOP.out HLN.out N.cl N.nkey (nkey_zero N)) (.inl rfl) HKO.out.1 HKO.out.2).mono ?_
      rintro e w4 ⟨rfl, vo4, hT4, hK4⟩
      have HT4 := a_ hT4
      have HK4 := a_ hK4
      clear hT4 hK4 d0 d1 d2 d3 d4
      go_wp2_with fail
      go_roundg (ps.length - (i + 1))
      case measure => have := HI.out; omega
      case rel => exact ⟨i + 1, vo4, by rw [HII.out], (by have := HI.out; omega), HSM.out ▸ HT4.out, HSM.out ▸ (HK.out.below HB3.out).trans HK4.out, HSM.out ▸ row_kf0 (Kd.R_below HR.out HB3.out) HK4.out⟩
     ·have hlti : ¬ (i : Int) < (ps.length : Int) := by omega
      have hie : ps.take i = ps := List.take_of_length_le (by omega)
      have HN : Aside0 (N = sendAll M ps) := ⟨by rw [HN.out, hie]⟩
      clear hie
      go_wp2_with fail
      go_ret
      refine ⟨ps, HCP.out, .inl ⟨?_, rfl, vo, HN.out ▸ HT.out, K3.out.trans (HN.out ▸ HK.out)⟩⟩
      rw [← HNO.out, ← HSS.out]
      exact Nat.not_lt.mp HFU.out
theorem tsend {w0 W : World} {t : Nat} {M : TM} {I : TI} (h : Tn w0 W t M I) {b : List Int} {A : Option Addr} {c : Nat} {most : Int} (hs : M.sent = false) (hca : M.cause = 0) (hA : Ap W (TF M I t) A b) (hc : b.length ≤ c) (hbb : ∀ x ∈ b, Byte x) (hlb : b.length ≤ 4096) (hb : ∀ ps, CutP (mostC most) 2 b ps → M.out.length + sumLen M.cl ps ≤ 16384) (hkb : M.key < 9223372036854000000) (hol : M.out.length ≤ 100000) : Calls Tryz.prog 9 #[.pointer (some ⟨t, 0, none⟩), .bool false, .slice A b.length c, .int .i64 most] W (fun e w' => e = .returned (.int .i64 0) ∧ ∃ ps vo', CutP (mostC most) 2 b ps ∧ Tn w0 w' t (sendAll M ps) { I with vo := vo' } ∧ Kf W w' (TF M I t) (TF (sendAll M ps) { I with vo := vo' } t)) :=
 by
  refine (tsendG h hs hca hA hc hbb hlb hkb hol).mono ?_
  rintro e w' ⟨ps, hcp, hq⟩
  rcases hq with ⟨_, he, vo, hT, hK⟩ | ⟨hf, _⟩
  ·exact ⟨he, ps, vo, hcp, hT, hK⟩
  ·exact absurd (hb ps hcp) (by omega)
theorem twaits {w0 W : World} {t : Nat} {M : TM} {I : TI} (h : Tn w0 W t M I) : Calls Tryz.prog 13 #[.pointer (some ⟨t, 0, none⟩)] W (fun e w' => e = .returned (.int .i64 (M.out.length : Nat)) ∧ Tn w0 w' t M I ∧ Kf W w' (TF M I t) (TF M I t)) := by
 obtain ⟨Ao, co, eo⟩ := Kd.R_slice h.out
 obtain ⟨no, hno⟩ : ∃ n, n = M.out.length := ⟨_, rfl⟩
 rw [← hno] at eo ⊢
 have hb6 := h.blk
 unfold tcells at hb6
 rw [eo] at hb6
 have c6 : W.cell? ⟨t, 6, none⟩ = some (.slice Ao no co) := (blk_cell hb6 6).trans rfl
 have H0 := a_ h
 clear h eo hno hb6
 go_enter Tryz.func13, Tryz.ntmps13
 go_wp2_with fail
 go_ret
 first | exact ⟨rfl, H0.out, Kf.refl _ _⟩ | exact ⟨rfl, H0.out.below (below_drew (Below.refl _ _)), (Kf.refl _ _).below (below_drew (Below.refl _ _))⟩
end Go.Proofs.YtpmeapdcjmaeiaaGreatDoor
namespace Go.Proofs.YtpmeapdcjmaeiaaGreatDoor
open Go.RowKit Go.Wa Go.Wb Go.Wc PAll U
theorem all_on {m : Bool} {a b : List Int} {x y : List Pc} {c ca : Int} {r ra : List Int} (ha : AllP m a x ca ra) : ca = 0 → AllP m (ra ++ b) y c r → AllP m (a ++ b) (x ++ y) c r := by
 induction ha with
 | bad h => intro h0 _; exact absurd h0 h
 | stop h1 h2 => intro _ h3; exact h3
 | @frame l ps c' r' h1 h2 ih =>
  intro h3 h4
  obtain ⟨h5, h6⟩ := h1.app b
  have e := AllP.frame h5 (ps := ps ++ y) (c := c) (r := r)
  rw [h6, List.drop_append_of_le_length h1.room, List.take_append_of_le_length h1.room] at e
  exact e (ih h3 h4)
theorem all_badon {m : Bool} {a : List Int} {x : List Pc} {ca : Int} {ra : List Int} (ha : AllP m a x ca ra) (b : List Int) : ca ≠ 0 → AllP m (a ++ b) x ca [] := by
 induction ha with
 | @bad l h =>
  intro _
  have e := headF_app l b m (code1_told h)
  have h1 : code1 (l ++ b) m = code1 l m := by unfold code1; rw [e]
  rw [← h1]
  exact .bad (by rw [h1]; exact h)
 | stop h1 h2 => intro h; exact absurd rfl h
 | @frame l ps c' r' h1 h2 ih =>
  intro h3
  obtain ⟨h5, h6⟩ := h1.app b
  have e := AllP.frame h5 (ps := ps) (c := c') (r := [])
  rw [h6, List.drop_append_of_le_length h1.room, List.take_append_of_le_length h1.room] at e
  exact e (ih h3)
theorem all_good {m : Bool} {a b : List Int} {x y : List Pc} {ca : Int} {ra r : List Int} (ha : AllP m a x ca ra) (hw : AllP m (a ++ b) y 0 r) : ca = 0 := by
 by_cases h : ca = 0
 ·exact h
 ·exact ((all_badon ha b h).uniq hw).2.1
theorem runM_app (M : TM) (a b : List Pc) (cd : Int) : runM M (a ++ b) cd = ((runM (runM M a 0).1 b cd).1, (runM M a 0).2 ++ (runM (runM M a 0).1 b cd).2) := by
 induction a generalizing M with
 | nil =>
  by_cases h : M.cause = 0
  ·rw [runM_stop M h]; rfl
  ·rw [runM_end M [] 0 h]; rfl
 | cons p ps ih =>
  by_cases h : M.cause = 0
  ·rw [List.cons_append, runM_cons M p (ps ++ b) cd h, runM_cons M p ps 0 h, ih, List.append_assoc]
  ·rw [List.cons_append, runM_end M _ cd h, runM_end M _ 0 h, runM_end M b cd h]; rfl
theorem run_wl (N : TM) (l : List Int) (s : Bool) (ps : List Pc) (cd : Int) : runM (N.wl l s) ps cd = ((runM N ps cd).1.wl l s, (runM N ps cd).2) := by
 induction ps generalizing N with
 | nil =>
  by_cases h : N.cause = 0
  ·by_cases hc : cd = 0
   ·subst hc; rw [runM_stop N h, runM_stop (N.wl l s) h]
   ·rw [runM_bad N cd h hc, runM_bad (N.wl l s) cd h hc, bad_wl]
  ·rw [runM_end N _ cd h, runM_end (N.wl l s) _ cd h]
 | cons p ps ih =>
  by_cases h : N.cause = 0
  ·rw [runM_cons N p ps cd h, runM_cons (N.wl l s) p ps cd h, take_wl]
   simp only [ih]
  ·rw [runM_end N _ cd h, runM_end (N.wl l s) _ cd h]
def pf (p : Pc) : Bool × Int × List Int := (p.f0, p.f1, p.f4)
def srv (busy : Bool) (b : List Int) : TM := { newT false [] with b := b, busy := busy }
def n1 (x : List Int) : Nt := ⟨1, false, x, 0⟩
theorem srv_last (busy : Bool) (b d : List Int) (op : Int) (hop : op = if busy = true then 0 else 2) (hl : b.length + d.length ≤ 4096) (hb : busy = false → b = []) (p : Pc) (hp : pf p = (true, op, d)) : takeM (srv busy b) p = (srv false [], [n1 (b ++ d)]) := by
 have hpc : partC busy false true op b d = 0 := by
  unfold partC textN
  subst hop
  cases busy <;> simp <;> omega
 have htn : textN busy false op = false := by
  unfold textN
  subst hop
  cases busy <;> rfl
 have hg : gF b busy false false true op d = ([], false, false, false, n1 (b ++ d), true) := by
  unfold gF
  rw [if_neg (by decide), if_pos (by subst hop; cases busy <;> simp), if_neg (by rw [hpc]; decide), if_pos rfl, htn]
  rfl
 unfold pf at hp
 injection hp with h0 h1
 injection h1 with h1 h2
 have hg2 : gF (srv busy b).b (srv busy b).busy (srv busy b).te (srv busy b).over p.f0 p.f1 p.f4 = ([], false, false, false, n1 (b ++ d), true) := by rw [h0, h1, h2]; exact hg
 have e1 : (srv busy b).tells p = true := by unfold TM.tells; rw [hg2]
 have e2 : (srv busy b).note p = n1 (b ++ d) := by unfold TM.note; rw [hg2]
 have e3 : (srv busy b).wg p = srv false [] := by unfold TM.wg; rw [hg2]; rfl
 unfold takeM
 rw [if_pos e1, e2, e3]
 have ht : takesM (srv false []) (n1 (b ++ d)) = (srv false [], n1 (b ++ d)) := by
  unfold takesM
  rw [if_neg (show ¬ (n1 (b ++ d)).f0 = 5 by show ¬ (1 : Int) = 5; decide), if_neg (show ¬ (n1 (b ++ d)).f0 = 4 by show ¬ (1 : Int) = 4; decide), if_neg (show ¬ (n1 (b ++ d)).f0 = 2 by show ¬ (1 : Int) = 2; decide)]
 rw [ht]
theorem srv_more (busy : Bool) (b d : List Int) (op : Int) (hop : op = if busy = true then 0 else 2) (hl : b.length + d.length ≤ 4096) (p : Pc) (hp : pf p = (false, op, d)) : takeM (srv busy b) p = (srv true (b ++ d), []) := by
 have hpc : partC busy false false op b d = 0 := by
  unfold partC textN
  subst hop
  cases busy <;> simp <;> omega
 have htn : textN busy false op = false := by
  unfold textN
  subst hop
  cases busy <;> rfl
 have hg : gF b busy false false false op d = (b ++ d, true, false, false, ⟨0, false, [], 0⟩, false) := by
  unfold gF
  rw [if_neg (by decide), if_pos (by subst hop; cases busy <;> simp), if_neg (by rw [hpc]; decide), if_neg (by decide), htn]
 unfold pf at hp
 injection hp with h0 h1
 injection h1 with h1 h2
 have hg2 : gF (srv busy b).b (srv busy b).busy (srv busy b).te (srv busy b).over p.f0 p.f1 p.f4 = (b ++ d, true, false, false, ⟨0, false, [], 0⟩, false) := by rw [h0, h1, h2]; exact hg
 have e1 : (srv busy b).tells p = false := by unfold TM.tells; rw [hg2]
 have e3 : (srv busy b).wg p = srv true (b ++ d) := by unfold TM.wg; rw [hg2]; rfl
 unfold takeM
 rw [if_neg (by rw [e1]; decide), e3]
inductive Rn : Bool → List Int → List (Bool × Int × List Int) → Bool → List Int → List (List Int) → Prop
 | nil {busy : Bool} {b : List Int} : Rn busy b [] busy b []
 | last {busy bu2 : Bool} {b d b2 : List Int} {op : Int} {fs : List (Bool × Int × List Int)} {ns : List (List Int)} : op = (if busy = true then 0 else 2) → b.length + d.length ≤ 4096 → Rn false [] fs bu2 b2 ns → Rn busy b ((true, op, d) :: fs) bu2 b2 ((b ++ d) :: ns)
 | more {busy bu2 : Bool} {b d b2 : List Int} {op : Int} {fs : List (Bool × Int × List Int)} {ns : List (List Int)} : op = (if busy = true then 0 else 2) → b.length + d.length ≤ 4096 → Rn true (b ++ d) fs bu2 b2 ns → Rn busy b ((false, op, d) :: fs) bu2 b2 ns
theorem Rn.app {busy bu2 bu3 : Bool} {b b2 b3 : List Int} {fs gs : List (Bool × Int × List Int)} {ns ms : List (List Int)} (h : Rn busy b fs bu2 b2 ns) (h2 : Rn bu2 b2 gs bu3 b3 ms) : Rn busy b (fs ++ gs) bu3 b3 (ns ++ ms) := by
 induction h with
 | nil => exact h2
 | last h1 h3 _ ih => exact .last h1 h3 (ih h2)
 | more h1 h3 _ ih => exact .more h1 h3 (ih h2)
theorem Rn.split : ∀ (fs : List (Bool × Int × List Int)) {busy bu2 : Bool} {b b2 : List Int} {gs : List (Bool × Int × List Int)} {ns : List (List Int)}, Rn busy b (fs ++ gs) bu2 b2 ns → ∃ bu b1 n1 n2, Rn busy b fs bu b1 n1 ∧ Rn bu b1 gs bu2 b2 n2 ∧ ns = n1 ++ n2
 | [], _, _, _, _, _, ns, h => ⟨_, _, [], ns, .nil, h, rfl⟩
 | f :: fs, _, _, _, _, gs, _, h => by
  cases h with
  | last h1 h3 h4 =>
   obtain ⟨bu, b1, n1, n2, h5, h6, rfl⟩ := Rn.split fs h4
   exact ⟨bu, b1, _ :: n1, n2, .last h1 h3 h5, h6, rfl⟩
  | more h1 h3 h4 =>
   obtain ⟨bu, b1, n1, n2, h5, h6, rfl⟩ := Rn.split fs h4
   exact ⟨bu, b1, n1, n2, .more h1 h3 h5, h6, rfl⟩
theorem Rn.run {busy bu2 : Bool} {b b2 : List Int} {fs : List (Bool × Int × List Int)} {ns : List (List Int)} (h : Rn busy b fs bu2 b2 ns) : ∀ qs : List Pc, (busy = false → b = []) → qs.map pf = fs → runM (srv busy b) qs 0 = (srv bu2 b2, ns.map n1) ∧ (bu2 = false → b2 = []) := by
 induction h with
 | nil =>
  intro qs hb hq
  rw [List.map_eq_nil_iff.1 hq]
  exact ⟨runM_stop _ rfl, hb⟩
 | last h1 h3 _ ih =>
  intro qs hb hq
  cases qs with
  | nil => cases hq
  | cons q qs =>
   injection hq with e1 e2
   obtain ⟨h5, h6⟩ := ih qs (fun _ => rfl) e2
   rw [runM_cons _ _ _ _ rfl, srv_last _ _ _ _ h1 h3 hb q e1, h5]
   exact ⟨rfl, h6⟩
 | more h1 h3 _ ih =>
  intro qs hb hq
  cases qs with
  | nil => cases hq
  | cons q qs =>
   injection hq with e1 e2
   obtain ⟨h5, h6⟩ := ih qs (fun h => by cases h) e2
   rw [runM_cons _ _ _ _ rfl, srv_more _ _ _ _ h1 h3 q e1, h5]
   exact ⟨rfl, h6⟩
theorem cut_rn {mo : Nat} {op : Int} {d : List Int} {ps : List Pm} (h : CutP mo op d ps) : ∀ (busy : Bool) (b : List Int), op = (if busy = true then 0 else 2) → b.length + d.length ≤ 4096 → Rn busy b (ps.map pf) false [] [b ++ d] := by
 induction h with
 | @last op d hl =>
  intro busy b hop hbl
  exact .last hop hbl .nil
 | @more op d ps hl hc ih =>
  intro busy b hop hbl
  have htl : (d.take mo).length + (d.drop mo).length = d.length := by rw [← List.length_append, List.take_append_drop]
  have := ih true (b ++ d.take mo) rfl (by rw [List.length_append]; omega)
  rw [List.append_assoc, List.take_append_drop] at this
  exact Rn.more (d := d.take mo) hop (by omega) this
theorem cut_sum {mo : Nat} {op : Int} {d : List Int} {ps : List Pm} (cl : Bool) (h : CutP mo op d ps) (h30 : 30 ≤ mo) (hL : ∀ (fin : Bool) (op : Int) (d : List Int), d.length ≤ 4096 → (putL fin op cl 0 d).length ≤ d.length + 8) (hd : d.length ≤ 4096) : sumLen cl ps ≤ d.length + 8 * (d.length / 30 + 1) ∧ ps.length ≤ d.length / 30 + 1 := by
 induction h with
 | @last op d hl =>
  have := hL true op d hd
  show (putL true op cl 0 d).length + 0 ≤ _ ∧ 1 ≤ _
  omega
 | @more op d ps hl hc ih =>
  have htl : (d.take mo).length = mo := by rw [List.length_take]; omega
  have hdl : (d.drop mo).length = d.length - mo := List.length_drop
  have h1 := hL false op (d.take mo) (by omega)
  have h2 := ih (by omega)
  show (putL false op cl 0 (d.take mo)).length + sumLen cl ps ≤ _ ∧ ps.length + 1 ≤ _
  omega
theorem nkey_ok {M : TM} (h : M.Ok) : 0 ≤ M.nkey ∧ M.nkey ≤ 4294967295 := by
 unfold TM.nkey
 split
 ·split
  ·rename_i h1 h2
   have h3 : 0 ≤ Int.tmod M.key (M.keys.length : Int) := Int.tmod_nonneg _ h.key0
   have h4 : Int.tmod M.key (M.keys.length : Int) < (M.keys.length : Int) := Int.tmod_lt_of_pos _ (by omega)
   unfold rd
   rw [List.getD_eq_getElem?_getD, List.getElem?_eq_getElem (by omega)]
   exact h.keys _ (List.getElem_mem _)
  ·exact ⟨by decide, by decide⟩
 ·exact ⟨by decide, by decide⟩
theorem send_wire {cl : Bool} : ∀ (ps : List Pm) (M : TM) (qs : List Pc), M.cl = cl → M.out = putAll qs → (∀ p ∈ qs, OkP cl p) → (∀ k : TM, k.keys = M.keys → 0 ≤ k.key → 0 ≤ k.nkey ∧ k.nkey ≤ 4294967295) → 0 ≤ M.key → SnP ps → (∀ p ∈ ps, ∀ x ∈ p.f4, Byte x) →
  ∃ rs : List Pc, (sendAll M ps).out = putAll (qs ++ rs) ∧ (∀ p ∈ qs ++ rs, OkP cl p) ∧ rs.map pf = ps.map pf
 | [], M, qs, _, ho, hq, _, _, _, _ => ⟨[], by rw [List.append_nil]; exact ho, by rw [List.append_nil]; exact hq, rfl⟩
 | p :: ps, M, qs, hcl, ho, hq, hk, hk0, hs, hb => by
  have hnk := hk M rfl hk0
  have hok : OkP cl ⟨p.f0, p.f1, cl, M.nkey, p.f4⟩ := ⟨by have := mayS (hs.op p List.mem_cons_self) (hs.len p List.mem_cons_self) cl M.nkey (hcl ▸ nkey_zero M); exact this, rfl, (hs.op p List.mem_cons_self).1, hnk.1, hnk.2, hb p List.mem_cons_self⟩
  have hput : (putM M p.f0 p.f1 p.f4).out = putAll (qs ++ [⟨p.f0, p.f1, cl, M.nkey, p.f4⟩]) := by
   rw [putAll_snoc]
   show M.out ++ putL p.f0 p.f1 M.cl M.nkey p.f4 = _
   rw [ho, hcl]
   rfl
  have hkey : 0 ≤ (putM M p.f0 p.f1 p.f4).key := by
   show 0 ≤ TM.key' M
   unfold TM.key'
   split <;> (try split) <;> omega
  obtain ⟨rs, h1, h2, h3⟩ := send_wire ps (putM M p.f0 p.f1 p.f4) (qs ++ [⟨p.f0, p.f1, cl, M.nkey, p.f4⟩]) hcl hput (fun q hm => by
   rcases List.mem_append.1 hm with hm | hm
   ·exact hq q hm
   ·rw [List.mem_singleton.1 hm]; exact hok) hk hkey ⟨fun q hm => hs.op q (List.mem_cons_of_mem _ hm), fun q hm => hs.msk q (List.mem_cons_of_mem _ hm), fun q hm => hs.key q (List.mem_cons_of_mem _ hm), fun q hm => hs.len q (List.mem_cons_of_mem _ hm)⟩ (fun q hm => hb q (List.mem_cons_of_mem _ hm))
  refine ⟨⟨p.f0, p.f1, cl, M.nkey, p.f4⟩ :: rs, ?_, ?_, ?_⟩
  ·show (sendAll (putM M p.f0 p.f1 p.f4) ps).out = _
   rw [h1, List.append_assoc]
   rfl
  ·rw [List.append_assoc] at h2
   exact h2
  ·rw [List.map_cons, List.map_cons, h3]
   rfl
theorem putL_8 (fin : Bool) (op : Int) (d : List Int) : (putL fin op true 0 d).length ≤ d.length + 8 := by
 have hk : (PAll.keyOf 0).length = 4 := rfl
 have h2 : (if d.length < 126 then ([] : List Int) else [(d.length : Int) / 256 % 256, (d.length : Int) % 256]).length ≤ 2 := by split <;> simp
 unfold putL
 simp only [List.length_cons, if_true, List.length_append, turned_len]
 omega
def clM (ks : List Int) (k : Int) (o : List Int) : TM := { newT true ks with key := k, out := o }
theorem send_clM (ks : List Int) : ∀ (cs : List Pm) (k : Int) (o : List Int), 0 ≤ k → ∃ k' o', sendAll (clM ks k o) cs = clM ks k' o' ∧ 0 ≤ k'
 | [], k, o, h => ⟨k, o, rfl, h⟩
 | p :: cs, k, o, h => by
  have hk : 0 ≤ (clM ks k o).key' := by
   unfold TM.key'
   have : (clM ks k o).key = k := rfl
   split <;> (try split) <;> omega
  obtain ⟨k', o', e, h'⟩ := send_clM ks cs (clM ks k o).key' (o ++ putL p.f0 p.f1 (clM ks k o).cl (clM ks k o).nkey p.f4) hk
  exact ⟨k', o', e, h'⟩
theorem nkey_le {ks : List Int} (hk : ∀ x ∈ ks, 0 ≤ x ∧ x ≤ 4294967295) {M : TM} (e : M.keys = ks) (h0 : 0 ≤ M.key) : 0 ≤ M.nkey ∧ M.nkey ≤ 4294967295 := by
 unfold TM.nkey
 split
 ·split
  ·rename_i h1 h2
   have h3 : 0 ≤ Int.tmod M.key (M.keys.length : Int) := Int.tmod_nonneg _ h0
   have h4 : Int.tmod M.key (M.keys.length : Int) < (M.keys.length : Int) := Int.tmod_lt_of_pos _ (by omega)
   unfold rd
   rw [List.getD_eq_getElem?_getD, List.getElem?_eq_getElem (by omega)]
   exact hk _ (e ▸ List.getElem_mem _)
  ·exact ⟨by decide, by decide⟩
 ·exact ⟨by decide, by decide⟩
structure Snd (ms : List (List Int)) (k : Int) (o : List Int) (ps : List Pc) : Prop where
 out : o = putAll ps
 ok : ∀ p ∈ ps, OkP true p
 runs : Rn false [] (ps.map pf) false [] ms
 len : o.length ≤ 388 * ms.length
 key : 0 ≤ k ∧ k ≤ 11 * (ms.length : Int)
 cnt : ps.length ≤ 11 * ms.length
theorem Snd.nil : Snd [] 0 [] [] := ⟨rfl, fun p hp => (by cases hp), .nil, Nat.le_refl _, ⟨by decide, by decide⟩, Nat.le_refl _⟩
theorem Snd.send {ms : List (List Int)} {k : Int} {o : List Int} {ps : List Pc} (h : Snd ms k o ps) {ks : List Int} (hks : ∀ x ∈ ks, 0 ≤ x ∧ x ≤ 4294967295) {mo : Nat} {m : List Int} {cs : List Pm} (hc : CutP mo 2 m cs) (h30 : 30 ≤ mo) (hM : mo ≤ 4096) (hm : m.length ≤ 300) (hb : ∀ x ∈ m, Byte x) :
  ∃ k' o' ps', sendAll (clM ks k o) cs = clM ks k' o' ∧ Snd (ms ++ [m]) k' o' ps' := by
 obtain ⟨k', o', e, hk'⟩ := send_clM ks cs k o h.key.1
 obtain ⟨_, _, _, _, f5, f6⟩ := sendAll_fix (clM ks k o) cs
 obtain ⟨rs, w1, w2, w3⟩ := send_wire cs (clM ks k o) ps rfl h.out h.ok (fun N e h0 => nkey_le (M := N) hks e h0) h.key.1 (hc.snp hM ⟨by decide, by decide⟩) (hc.data hb)
 obtain ⟨s1, s2⟩ := cut_sum true hc h30 (fun fin op d _ => putL_8 fin op d) (by omega)
 rw [e] at f5 f6 w1
 have f5 : k' ≤ k + cs.length := f5
 have f6 : o'.length = o.length + sumLen true cs := f6
 have hlen : (ms ++ [m]).length = ms.length + 1 := by rw [List.length_append]; rfl
 have hrl : rs.length = cs.length := by have := congrArg List.length w3; simpa using this
 refine ⟨k', o', ps ++ rs, e, w1, w2, ?_, ?_, ⟨hk', ?_⟩, ?_⟩
 ·rw [List.map_append, w3]
  exact h.runs.app (cut_rn hc false [] rfl (by simp; omega))
 ·have := h.len; rw [hlen]; omega
 ·have := h.key.2; rw [hlen]; omega
 ·have := h.cnt; rw [hlen, List.length_append]; omega
theorem left_byte {m : Bool} {a r : List Int} {x : List Pc} {c : Int} (h : AllP m a x c r) : a.all isByte = true → r.all isByte = true := by
 induction h with
 | bad _ => exact fun _ => rfl
 | stop _ _ => exact id
 | frame h1 _ ih => exact fun ha => ih (drop_byte ha _)
structure Pt (F left : List Int) (got : List Pc) (N : TM) (ns : List Nt) : Prop where
 all : AllP true F got 0 left
 run : runM (srv false []) got 0 = (N, ns)
theorem Pt.nil : Pt [] [] [] (srv false []) [] := ⟨AllP.puts [] (fun p hp => by cases hp), runM_stop _ rfl⟩
section
variable {ps : List Pc} {ms : List (List Int)} (hok : ∀ p ∈ ps, OkP true p) (hr : Rn false [] (ps.map pf) false [] ms)
include hok hr
theorem Pt.is {F R left : List Int} {got : List Pc} {N : TM} {ns : List Nt} (h : Pt F left got N ns) (hw : putAll ps = F ++ R) : (∃ (bu : Bool) (b : List Int) (n : List (List Int)), N = srv bu b ∧ ns = n.map n1) ∧ got.length ≤ ps.length ∧ left.all isByte = true := by
 have hb := putAll_bytes ps hok
 rw [hw, List.all_append, Bool.and_eq_true] at hb
 have hl := left_byte h.all hb.1
 obtain ⟨p3, c3, r3, h3⟩ := AllP.total true _ (left ++ R) (app_byte hl hb.2) (Nat.le_refl _)
 have h4 := all_on h.all rfl h3
 rw [← hw] at h4
 have e := (AllP.puts ps hok).uniq h4
 rw [e.1, List.map_append] at hr
 obtain ⟨bu, b1, n1', n2, h5, _, _⟩ := Rn.split _ hr
 have h6 := (h5.run got (fun _ => rfl) rfl).1
 rw [h.run] at h6
 injection h6 with h6 h7
 exact ⟨⟨bu, b1, n1', h6, h7⟩, by rw [e.1, List.length_append]; omega, hl⟩
theorem Pt.step {F x R left : List Int} {got : List Pc} {N : TM} {ns : List Nt} (h : Pt F left got N ns) (hw : putAll ps = F ++ (x ++ R)) : ∃ p2 l2, AllP true (left ++ x) p2 0 l2 ∧ p2.length ≤ ps.length ∧ Pt (F ++ x) l2 (got ++ p2) (runM N p2 0).1 (ns ++ (runM N p2 0).2) := by
 have hb := putAll_bytes ps hok
 rw [hw, List.all_append, Bool.and_eq_true, List.all_append, Bool.and_eq_true] at hb
 have hl := left_byte h.all hb.1
 obtain ⟨p3, c3, r3, h3⟩ := AllP.total true _ (left ++ x) (app_byte hl hb.2.1) (Nat.le_refl _)
 have h4 := all_on h.all rfl h3
 have hw2 : putAll ps = (F ++ x) ++ R := by rw [hw, List.append_assoc]
 have hp := AllP.puts ps hok
 have hc : c3 = 0 := all_good (b := R) h4 (hw2 ▸ hp)
 subst hc
 have hpt : Pt (F ++ x) r3 (got ++ p3) (runM N p3 0).1 (ns ++ (runM N p3 0).2) := ⟨h4, by rw [runM_app, h.run]⟩
 have := (hpt.is hok hr hw2).2.1
 exact ⟨p3, r3, h3, by rw [List.length_append] at this; omega, hpt⟩
theorem Pt.end {left : List Int} {got : List Pc} {N : TM} {ns : List Nt} (h : Pt (putAll ps) left got N ns) : got = ps ∧ left = [] ∧ N = srv false [] ∧ ns = ms.map n1 := by
 have e := h.all.uniq (AllP.puts ps hok)
 have h6 := (hr.run ps (fun _ => rfl) rfl).1
 have h7 := h.run
 rw [e.1, h6] at h7
 injection h7 with h7 h8
 exact ⟨e.1, e.2.2, h7.symm, h8.symm⟩
end
theorem out_part (ks : List Int) (k : Int) (o : List Int) (most : Int) (h1 : 1 ≤ most) : outM (clM ks k o) most = (o.take (min most.toNat o.length), false, clM ks k (o.drop (min most.toNat o.length))) := by
 have hn : min (max most 1).toNat (clM ks k o).out.length = min most.toNat o.length := by
  have e : (clM ks k o).out = o := rfl
  have : max most 1 = most := by omega
  rw [e, this]
 unfold outM
 rw [if_neg (show ¬ (clM ks k o).ended = true from fun h => by cases h), hn]
 split
 ·rfl
 ·rfl
end Go.Proofs.YtpmeapdcjmaeiaaGreatDoor
namespace Go.Proofs.YtpmeapdcjmaeiaaGreatDoor
open Go.RowKit Go.Wa Go.Wb Go.Wc PAll U
structure Four (w0 W : World) (tx : Nat) (Mx : TM) (Ix : TI) (ty : Nat) (My : TM) (Iy : TI) (tp : Nat) (Mp : TM) (Ip : TI) (tq : Nat) (Mq : TM) (Iq : TI) : Prop where
 x : Tn w0 W tx Mx Ix
 y : Tn w0 W ty My Iy
 p : Tn w0 W tp Mp Ip
 q : Tn w0 W tq Mq Iq
 xy : ∀ k, TF Mx Ix tx k → ¬ TF My Iy ty k
 xp : ∀ k, TF Mx Ix tx k → ¬ TF Mp Ip tp k
 xq : ∀ k, TF Mx Ix tx k → ¬ TF Mq Iq tq k
 yp : ∀ k, TF My Iy ty k → ¬ TF Mp Ip tp k
 yq : ∀ k, TF My Iy ty k → ¬ TF Mq Iq tq k
 pq : ∀ k, TF Mp Ip tp k → ¬ TF Mq Iq tq k
 lx : ∀ k, TF Mx Ix tx k → w0.heap.size ≤ k
 ly : ∀ k, TF My Iy ty k → w0.heap.size ≤ k
 lp : ∀ k, TF Mp Ip tp k → w0.heap.size ≤ k
 lq : ∀ k, TF Mq Iq tq k → w0.heap.size ≤ k
section
variable {w0 W W' : World} {tx ty tp tq : Nat} {Mx My Mp Mq M' : TM} {Ix Iy Ip Iq I' : TI}
theorem Four.below (h : Four w0 W tx Mx Ix ty My Iy tp Mp Ip tq Mq Iq) (hb : Below W.heap.size W W') : Four w0 W' tx Mx Ix ty My Iy tp Mp Ip tq Mq Iq := ⟨h.x.below hb, h.y.below hb, h.p.below hb, h.q.below hb, h.xy, h.xp, h.xq, h.yp, h.yq, h.pq, h.lx, h.ly, h.lp, h.lq⟩
theorem Four.stepX (h : Four w0 W tx Mx Ix ty My Iy tp Mp Ip tq Mq Iq) (hT : Tn w0 W' tx M' I') (hK : Kf W W' (TF Mx Ix tx) (TF M' I' tx)) : Four w0 W' tx M' I' ty My Iy tp Mp Ip tq Mq Iq := by
 have oy := hK.other (fun k hk => h.y.lt hk) (fun k hk hf => h.xy k hf hk)
 have op := hK.other (fun k hk => h.p.lt hk) (fun k hk hf => h.xp k hf hk)
 have oq := hK.other (fun k hk => h.q.lt hk) (fun k hk hf => h.xq k hf hk)
 exact ⟨hT, h.y.move hT.bel oy.1, h.p.move hT.bel op.1, h.q.move hT.bel oq.1, fun k hf hk => oy.2 k hk hf, fun k hf hk => op.2 k hk hf, fun k hf hk => oq.2 k hk hf, h.yp, h.yq, h.pq, fun k hk => (hK.new k hk).elim (h.lx k) (fun e => Nat.le_trans h.x.bel.size e), h.ly, h.lp, h.lq⟩
theorem Four.stepY (h : Four w0 W tx Mx Ix ty My Iy tp Mp Ip tq Mq Iq) (hT : Tn w0 W' ty M' I') (hK : Kf W W' (TF My Iy ty) (TF M' I' ty)) : Four w0 W' tx Mx Ix ty M' I' tp Mp Ip tq Mq Iq := by
 have ox := hK.other (fun k hk => h.x.lt hk) (fun k hk hf => h.xy k hk hf)
 have op := hK.other (fun k hk => h.p.lt hk) (fun k hk hf => h.yp k hf hk)
 have oq := hK.other (fun k hk => h.q.lt hk) (fun k hk hf => h.yq k hf hk)
 exact ⟨h.x.move hT.bel ox.1, hT, h.p.move hT.bel op.1, h.q.move hT.bel oq.1, fun k hf hk => ox.2 k hf hk, h.xp, h.xq, fun k hf hk => op.2 k hk hf, fun k hf hk => oq.2 k hk hf, h.pq, h.lx, fun k hk => (hK.new k hk).elim (h.ly k) (fun e => Nat.le_trans h.y.bel.size e), h.lp, h.lq⟩
theorem Four.stepP (h : Four w0 W tx Mx Ix ty My Iy tp Mp Ip tq Mq Iq) (hT : Tn w0 W' tp M' I') (hK : Kf W W' (TF Mp Ip tp) (TF M' I' tp)) : Four w0 W' tx Mx Ix ty My Iy tp M' I' tq Mq Iq := by
 have ox := hK.other (fun k hk => h.x.lt hk) (fun k hk hf => h.xp k hk hf)
 have oy := hK.other (fun k hk => h.y.lt hk) (fun k hk hf => h.yp k hk hf)
 have oq := hK.other (fun k hk => h.q.lt hk) (fun k hk hf => h.pq k hf hk)
 exact ⟨h.x.move hT.bel ox.1, h.y.move hT.bel oy.1, hT, h.q.move hT.bel oq.1, h.xy, fun k hf hk => ox.2 k hf hk, h.xq, fun k hf hk => oy.2 k hf hk, h.yq, fun k hf hk => oq.2 k hk hf, h.lx, h.ly, fun k hk => (hK.new k hk).elim (h.lp k) (fun e => Nat.le_trans h.p.bel.size e), h.lq⟩
theorem Four.stepQ (h : Four w0 W tx Mx Ix ty My Iy tp Mp Ip tq Mq Iq) (hT : Tn w0 W' tq M' I') (hK : Kf W W' (TF Mq Iq tq) (TF M' I' tq)) : Four w0 W' tx Mx Ix ty My Iy tp Mp Ip tq M' I' := by
 have ox := hK.other (fun k hk => h.x.lt hk) (fun k hk hf => h.xq k hk hf)
 have oy := hK.other (fun k hk => h.y.lt hk) (fun k hk hf => h.yq k hk hf)
 have op := hK.other (fun k hk => h.p.lt hk) (fun k hk hf => h.pq k hk hf)
 exact ⟨h.x.move hT.bel ox.1, h.y.move hT.bel oy.1, h.p.move hT.bel op.1, hT, h.xy, h.xp, fun k hf hk => ox.2 k hf hk, h.yp, fun k hf hk => oy.2 k hf hk, fun k hf hk => op.2 k hf hk, h.lx, h.ly, h.lp, fun k hk => (hK.new k hk).elim (h.lq k) (fun e => Nat.le_trans h.q.bel.size e)⟩
def F4 (tx : Nat) (Mx : TM) (Ix : TI) (ty : Nat) (My : TM) (Iy : TI) (tp : Nat) (Mp : TM) (Ip : TI) (tq : Nat) (Mq : TM) (Iq : TI) (k : Nat) : Prop := TF Mx Ix tx k ∨ TF My Iy ty k ∨ TF Mp Ip tp k ∨ TF Mq Iq tq k
theorem F4.kfY (hK : Kf W W' (TF My Iy ty) (TF M' I' ty)) : Kf W W' (F4 tx Mx Ix ty My Iy tp Mp Ip tq Mq Iq) (F4 tx Mx Ix ty M' I' tp Mp Ip tq Mq Iq) := ⟨hK.size, fun k hk hn => hK.keep k hk (fun e => hn (.inr (.inl e))), fun k hk => by
 rcases hk with hk | hk | hk | hk
 ·exact .inl (.inl hk)
 ·exact (hK.new k hk).imp_left (fun e => (.inr (.inl e)))
 ·exact .inl (.inr (.inr (.inl hk)))
 ·exact .inl (.inr (.inr (.inr hk)))⟩
theorem F4.kfQ (hK : Kf W W' (TF Mq Iq tq) (TF M' I' tq)) : Kf W W' (F4 tx Mx Ix ty My Iy tp Mp Ip tq Mq Iq) (F4 tx Mx Ix ty My Iy tp Mp Ip tq M' I') := ⟨hK.size, fun k hk hn => hK.keep k hk (fun e => hn (.inr (.inr (.inr e)))), fun k hk => by
 rcases hk with hk | hk | hk | hk
 ·exact .inl (.inl hk)
 ·exact .inl (.inr (.inl hk))
 ·exact .inl (.inr (.inr (.inl hk)))
 ·exact (hK.new k hk).imp_left (fun e => (.inr (.inr (.inr e))))⟩
theorem rows4X {e base : Nat} {α : Type} {kd : Kd α} {v : Value} {xs : List α} (h : Four w0 W tx Mx Ix ty My Iy tp Mp Ip tq Mq Iq) (hK : Kf W W' (TF Mx Ix tx) (TF M' I' tx)) (hr : kd.R e W' base (fun k => ¬ TF M' I' tx k ∧ (TF Mx Ix tx k ∨ W.heap.size ≤ k)) v xs) : kd.R e W' base (fun k => ¬ F4 tx M' I' ty My Iy tp Mp Ip tq Mq Iq k) v xs := Kd.R_mono hr (fun k hk h4 => by
 rcases h4 with h4 | h4 | h4 | h4
 ·exact hk.1 h4
 ·exact hk.2.elim (fun e => h.xy k e h4) (fun e => by have := h.y.lt h4; omega)
 ·exact hk.2.elim (fun e => h.xp k e h4) (fun e => by have := h.p.lt h4; omega)
 ·exact hk.2.elim (fun e => h.xq k e h4) (fun e => by have := h.q.lt h4; omega))
theorem rows4P {e base : Nat} {α : Type} {kd : Kd α} {v : Value} {xs : List α} (h : Four w0 W tx Mx Ix ty My Iy tp Mp Ip tq Mq Iq) (hK : Kf W W' (TF Mp Ip tp) (TF M' I' tp)) (hr : kd.R e W' base (fun k => ¬ TF M' I' tp k ∧ (TF Mp Ip tp k ∨ W.heap.size ≤ k)) v xs) : kd.R e W' base (fun k => ¬ F4 tx Mx Ix ty My Iy tp M' I' tq Mq Iq k) v xs := Kd.R_mono hr (fun k hk h4 => by
 rcases h4 with h4 | h4 | h4 | h4
 ·exact hk.2.elim (fun e => h.xp k h4 e) (fun e => by have := h.x.lt h4; omega)
 ·exact hk.2.elim (fun e => h.yp k h4 e) (fun e => by have := h.y.lt h4; omega)
 ·exact hk.1 h4
 ·exact hk.2.elim (fun e => h.pq k e h4) (fun e => by have := h.q.lt h4; omega))
end
end Go.Proofs.YtpmeapdcjmaeiaaGreatDoor
namespace Go.Proofs.YtpmeapdcjmaeiaaGreatDoor
open Go.RowKit Go.Wa Go.Wb Go.Wc PAll U
theorem wpList_of_step {P : Program} {ops : Array Oper} {Q : Exit → Act → World → Prop} {a : Act} {w : World} {rest : List Oper} {o : Oper} (h : if Region.wanted o (yielded ops a.tmps) = true then Oper.wp P o a w (wpList P ops Q rest) Q else (wpList P ops Q rest) (a.put o.dst undef) w) : wpList P ops Q (o :: rest) a w := by
 show (if _ then _ ∨ _ else _)
 by_cases hw : Region.wanted o (yielded ops a.tmps) = true
 ·rw [if_pos hw] at h ⊢
  exact .inl h
 ·rw [if_neg hw] at h ⊢
  exact h
theorem tb_kf {W W' : World} {F F' TB : Nat → Prop} (h : ∀ k, TB k → ¬ F k ∧ k < W.heap.size) (hK : Kf W W' F F') : ∀ k, TB k → ¬ F' k ∧ k < W'.heap.size := fun k hk => ⟨fun e => (hK.new k e).elim (h k hk).1 (fun e2 => by have := (h k hk).2; omega), Nat.lt_of_lt_of_le (h k hk).2 hK.size⟩
theorem row_tb {α : Type} {kd : Kd α} {e base : Nat} {W W' : World} {F F' TB : Nat → Prop} {v : Value} {xs : List α} (hr : kd.R e W base TB v xs) (h : ∀ k, TB k → ¬ F k ∧ k < W.heap.size) (hK : Kf W W' F F') : kd.R e W' base TB v xs := Kd.R_step hr (fun k hk hlt => hK.keep k hlt (h k hk).1)
theorem row_part {α : Type} {kd : Kd α} {e base : Nat} {W : World} {ok : Nat → Prop} {A : Option Addr} {n c : Nat} {xs : List α} (h : kd.R e W base ok (.slice A n c) xs) : ReadsRow (kd.M W base ok) kd.sz W A n xs := by
 obtain ⟨A', c', he, _, hr⟩ := OwnRow.reads h.2
 injection he with e1 e2 e3
 subst e1
 subst e2
 exact hr.imp_ (Below.refl _ _) (fun _ _ hp => kd.M_mono (fun k hk => hk.1) hp)
theorem note_at {w : World} {base : Nat} {ok : Nat → Prop} {A : Option Addr} {n c : Nat} {ns : List Nt} (h : Kd.R k37 37 w base ok (.slice A n c) ns) (i : Nat) (hi : i < ns.length) :
  ∃ g A2 c2, A = some ⟨g, 0, none⟩ ∧ w.cell? ⟨g, i * 4, none⟩ = some (.int .u8 ns[i].f0) ∧ w.cell? ⟨g, i * 4 + 1, none⟩ = some (.bool ns[i].f1) ∧ w.cell? ⟨g, i * 4 + 2, none⟩ = some (.slice A2 ns[i].f2.length c2) ∧ w.cell? ⟨g, i * 4 + 3, none⟩ = some (.int .u32 ns[i].f3) ∧
   Kd.R (Kd.int .u8) 5 w base ok (.slice A2 ns[i].f2.length c2) ns[i].f2 := by
 obtain ⟨g, cap, e, hb, hl, cells, hc⟩ := Kd.R_form h (by omega)
 injection e with e1 e2 e3
 subst e1; subst e2; subst e3
 obtain ⟨cs, hlen, hM, hcell, _⟩ := Kd.R_elem h z37 (i : Int) (by omega) (by omega)
 rw [Int.toNat_natCast] at hM hcell
 rw [List.getD_eq_getElem?_getD, List.getElem?_eq_getElem hi, Option.getD_some] at hM
 obtain ⟨v4, rfl, hR⟩ := k37_openM hM
 obtain ⟨A2, c2, rfl⟩ := Kd.R_slice hR
 exact ⟨g, A2, c2, rfl, hcell 0 _ rfl, hcell 1 _ rfl, hcell 2 _ rfl, hcell 3 _ rfl, Kd.R_mono hR (fun k hk => hk.1)⟩
theorem take_len (M : TM) (p : Pc) : (takeM M p).2.length ≤ 1 := by
 unfold takeM
 split <;> simp
theorem run_len (M : TM) (ps : List Pc) : (runM M ps 0).2.length ≤ ps.length := by
 induction ps generalizing M with
 | nil =>
  by_cases h : M.cause = 0
  ·rw [runM_stop M h]; exact Nat.le_refl _
  ·rw [runM_end M [] 0 h]; exact Nat.le_refl _
 | cons p ps ih =>
  by_cases h : M.cause = 0
  ·rw [runM_cons M p ps 0 h]
   have h1 := ih (takeM M p).1
   have h2 := take_len M p
   simp only [List.length_append, List.length_cons]
   omega
  ·rw [runM_end M _ 0 h]; simp
section
variable {w0 W W' : World} {tx ty tp tq : Nat} {Mx My Mp Mq M' : TM} {Ix Iy Ip Iq I' : TI}
theorem Four.lt (h : Four w0 W tx Mx Ix ty My Iy tp Mp Ip tq Mq Iq) {k : Nat} (hk : F4 tx Mx Ix ty My Iy tp Mp Ip tq Mq Iq k) : k < W.heap.size := by
 rcases hk with hk | hk | hk | hk
 ·exact h.x.lt hk
 ·exact h.y.lt hk
 ·exact h.p.lt hk
 ·exact h.q.lt hk
theorem Four.move (h : Four w0 W tx Mx Ix ty My Iy tp Mp Ip tq Mq Iq) (hB : Below w0.heap.size w0 W') (hk : ∀ k, F4 tx Mx Ix ty My Iy tp Mp Ip tq Mq Iq k → W'.heap[k]? = W.heap[k]?) : Four w0 W' tx Mx Ix ty My Iy tp Mp Ip tq Mq Iq :=
 ⟨h.x.move hB (fun k e => hk k (.inl e)), h.y.move hB (fun k e => hk k (.inr (.inl e))), h.p.move hB (fun k e => hk k (.inr (.inr (.inl e)))), h.q.move hB (fun k e => hk k (.inr (.inr (.inr e)))), h.xy, h.xp, h.xq, h.yp, h.yq, h.pq, h.lx, h.ly, h.lp, h.lq⟩
theorem ok4Q (h : Four w0 W tx Mx Ix ty My Iy tp Mp Ip tq Mq Iq) {TB : Nat → Prop} (hT : ∀ k, TB k → ¬ F4 tx Mx Ix ty My Iy tp Mp Ip tq Mq Iq k ∧ k < W.heap.size) {k : Nat} (hk : ¬ TF M' I' tq k ∧ (TF Mq Iq tq k ∨ W.heap.size ≤ k)) : ¬ F4 tx Mx Ix ty My Iy tp Mp Ip tq M' I' k ∧ ¬ TB k := ⟨fun h4 => by
 rcases h4 with h4 | h4 | h4 | h4
 ·exact hk.2.elim (fun e => h.xq k h4 e) (fun e => by have := h.x.lt h4; omega)
 ·exact hk.2.elim (fun e => h.yq k h4 e) (fun e => by have := h.y.lt h4; omega)
 ·exact hk.2.elim (fun e => h.pq k h4 e) (fun e => by have := h.p.lt h4; omega)
 ·exact hk.1 h4, fun ht => hk.2.elim (fun e => (hT k ht).1 (.inr (.inr (.inr e)))) (fun e => by have := (hT k ht).2; omega)⟩
theorem own4Q {α : Type} {kd : Kd α} {e base : Nat} {TB : Nat → Prop} {v : Value} {xs : List α} (hr : kd.R e W base (fun k => ¬ F4 tx Mx Ix ty My Iy tp Mp Ip tq Mq Iq k ∧ ¬ TB k) v xs) {k : Nat} (hk : ¬ TF M' I' tq k ∧ (TF Mq Iq tq k ∨ W.heap.size ≤ k)) : some k ≠ v.ownBlock := fun e => hk.2.elim (fun e2 => (hr.1 k e.symm).1 (.inr (.inr (.inr e2)))) (fun e2 => by have := Kd.R_lt hr k e.symm; omega)
end
end Go.Proofs.YtpmeapdcjmaeiaaGreatDoor
namespace Go.Proofs.YtpmeapdcjmaeiaaGreatDoor
open Go.RowKit Go.Wa Go.Wb Go.Wc PAll U
def p9 (x : List Int) : Pc := ⟨true, 9, true, 0, x⟩
def n2 (x : List Int) : Nt := ⟨2, false, x, 0⟩
def aS (xs : List (List Int)) : TM := { newT true [] with out := putAll (xs.map p9) }
theorem g9 (b : List Int) (busy te : Bool) (x : List Int) : gF b busy te false true 9 x = (b, busy, te, false, n2 x, true) := by
 unfold gF
 rw [if_neg (by decide), if_neg (by decide), if_neg (by decide), if_pos rfl]
 rfl
theorem out_all (M : TM) (h : M.ended = false) (hc : M.cause = 0) (hl : M.out.length ≤ 100000) : outM M 100000 = (M.out, false, { M with out := [], pongs := 0, ended := false }) := by
 have hn : min (max (100000 : Int) 1).toNat M.out.length = M.out.length := by
  rw [show (max (100000 : Int) 1).toNat = 100000 from rfl]
  omega
 have hcb : (M.cause != 0) = false := by rw [hc]; rfl
 unfold outM
 rw [if_neg (by rw [h]; decide), hn, List.drop_length, List.take_length, if_neg (by simp), hcb]
section
variable {w0 W W' : World} {ta tb : Nat} {Ma Mb M' : TM} {Ia Ib I' : TI}
end
end Go.Proofs.YtpmeapdcjmaeiaaGreatDoor
namespace Go.Proofs.YtpmeapdcjmaeiaaGreatDoor
open Go.RowKit Go.Wa Go.Wb Go.Wc PAll
def reqL : List S114 := [(⟨(⟨#[58, 109, 101, 116, 104, 111, 100]⟩ : ByteArray), (⟨#[67, 79, 78, 78, 69, 67, 84]⟩ : ByteArray), false⟩ : S114), (⟨(⟨#[58, 112, 114, 111, 116, 111, 99, 111, 108]⟩ : ByteArray), (⟨#[119, 101, 98, 115, 111, 99, 107, 101, 116]⟩ : ByteArray), false⟩ : S114), (⟨(⟨#[58, 115, 99, 104, 101, 109, 101]⟩ : ByteArray), (⟨#[104, 116, 116, 112, 115]⟩ : ByteArray), false⟩ : S114), (⟨(⟨#[58, 112, 97, 116, 104]⟩ : ByteArray), ⟨#[47]⟩, false⟩ : S114), (⟨(⟨#[58, 97, 117, 116, 104, 111, 114, 105, 116, 121]⟩ : ByteArray), ⟨#[97]⟩, false⟩ : S114), (⟨(⟨#[115, 101, 99, 45, 119, 101, 98, 115, 111, 99, 107, 101, 116, 45, 118, 101, 114, 115, 105, 111, 110]⟩ : ByteArray), (⟨#[49, 51]⟩ : ByteArray), false⟩ : S114)]
theorem req_f : tunnel_Request.f (⟨#[47]⟩ : ByteArray) (⟨#[97]⟩ : ByteArray) = some reqL := rfl
theorem right_f : tunnel_right.f reqL = some true := by decide +kernel
theorem val_f (n : ByteArray) : tunnel_value.f reqL n = some (valC n reqL) := rfl
theorem bool_toList (a b : ByteArray) : (a.toList == b.toList) = (a.data.toList == b.data.toList) := by rw [ByteArray.toList_eq, ByteArray.toList_eq]
theorem v_method : valC (⟨#[58, 109, 101, 116, 104, 111, 100]⟩ : ByteArray) reqL = (⟨#[67, 79, 78, 78, 69, 67, 84]⟩, true) := by
 simp [valC, isNm, bool_toList, reqL, List.find?]
theorem v_scheme : valC (⟨#[58, 115, 99, 104, 101, 109, 101]⟩ : ByteArray) reqL = (⟨#[104, 116, 116, 112, 115]⟩, true) := by
 simp [valC, isNm, bool_toList, reqL, List.find?]
theorem v_path : valC (⟨#[58, 112, 97, 116, 104]⟩ : ByteArray) reqL = (⟨#[47]⟩, true) := by
 simp [valC, isNm, bool_toList, reqL, List.find?]
theorem v_auth : valC (⟨#[58, 97, 117, 116, 104, 111, 114, 105, 116, 121]⟩ : ByteArray) reqL = (⟨#[97]⟩, true) := by
 simp [valC, isNm, bool_toList, reqL, List.find?]
theorem v_prot : valC (⟨#[58, 112, 114, 111, 116, 111, 99, 111, 108]⟩ : ByteArray) reqL = (⟨#[119, 101, 98, 115, 111, 99, 107, 101, 116]⟩, true) := by
 simp [valC, isNm, bool_toList, reqL, List.find?]
theorem check_f : tunnel_Check.f 12 reqL = some 200 := by
 unfold tunnel_Check.f
 rw [val_f, val_f, val_f, val_f, v_method, v_scheme, v_path, v_auth, right_f]
 simp only [Option.bind_some]
 have hl : tunnel_Check.l0 11 0 reqL (reqL.length : Int) 0 = some 200 := by simp [tunnel_Check.l0, rd_T114, reqL, wrap64, ByteArray.toList_eq]
 simp [tunnel_Check.j0, val_f, v_prot, ByteArray.toList_eq, hl]
theorem fixed_yes (w : World) : Calls Tryz.prog 7 #[] w fun e w' => e = .returned (.bool true) ∧ Below w.heap.size w w' := by
 refine louverlaw20_fixed.calls 12 true w ?_
 unfold louverlaw20_fixed.f
 rw [req_f, Option.bind_some, check_f, Option.bind_some]
 rfl
end Go.Proofs.YtpmeapdcjmaeiaaGreatDoor
namespace Go.Proofs.YtpmeapdcjmaeiaaGreatDoor
open Go.RowKit Go.Wa Go.Wb Go.Wc PAll U
theorem wfq8 {x : Int} (h : (Lit.int .u8 x).wf = true) : 0 ≤ x ∧ x ≤ 255 := by simpa [Lit.wf, IntKind.min, IntKind.max, IntKind.signed, IntKind.bits] using h
theorem wfq32 {x : Int} (h : (Lit.int .u32 x).wf = true) : 0 ≤ x ∧ x ≤ 4294967295 := by simpa [Lit.wf, IntKind.min, IntKind.max, IntKind.signed, IntKind.bits] using h
theorem C_nil32 (w : World) : Kd.C (Kd.int .u32) w none 0 [] := (Kd.R_reads' (Kd.R_nil (Kd.int .u32) 35 w 0 (fun _ => True))).2.2
def KgC (W : World) (n : Nat) (mu : Nat) (iv : Value) (wr : World) : Prop := ∃ (i : Nat), iv = .int .i64 (i : Nat) ∧ i + mu = n ∧ Below W.heap.size W wr
theorem same20_one (n : Nt) : louverref18_Same.f n.f0 n.f1 n.f2 n.f3 n.f0 n.f1 n.f2 n.f3 = some true := by
 unfold louverref18_Same.f
 rw [if_pos rfl, if_pos (by simp), if_pos rfl]
 simp
theorem same20_loop (ps : List Nt) (hl : ps.length ≤ 1000000) : ∀ d i k : Nat, i + d = ps.length → d + 1 ≤ k → louverref20_Same.l0 k ps ps (ps.length : Int) (i : Int) = some true := by
 intro d
 induction d with
 | zero =>
  intro i k hi hk
  obtain ⟨k, rfl⟩ : ∃ j, k = j + 1 := ⟨k - 1, by omega⟩
  show (if (i : Int) < (ps.length : Int) then _ else _) = _
  rw [if_neg (by omega)]
 | succ d ih =>
  intro i k hi hk
  obtain ⟨k, rfl⟩ : ∃ j, k = j + 1 := ⟨k - 1, by omega⟩
  show (if (i : Int) < (ps.length : Int) then _ else _) = _
  rw [if_pos (by omega), if_pos (by omega), if_pos (by omega), if_pos (by omega), same20_one, Option.bind_some, if_pos rfl, show wrap64 ((i : Int) + 1) = ((i + 1 : Nat) : Int) by unfold wrap64; omega]
  exact ih (i + 1) k (by omega) (by omega)
theorem same20 (ps : List Nt) (hl : ps.length ≤ 1000000) : louverref20_Same.f (ps.length + 1) ps ps = some true := by
 unfold louverref20_Same.f
 rw [if_pos rfl]
 exact same20_loop ps hl ps.length 0 _ (by omega) (Nat.le_refl _)
theorem mostC_30 {m : Int} (h : 30 ≤ m) : 30 ≤ mostC m := by unfold mostC; split <;> (try split) <;> omega
def KpR (w0 : World) (tx ty tp tq : Nat) (x0 x1 : List Int) (kx ky : Int) (oy : List Int) (Ix Ip : TI) (At : Option Addr) (ct : Nat) (told : List Nt) (nt : Nat) (TB : Nat → Prop) (mu : Nat) (hv iv : Value) (wr : World) : Prop := ∃ (i : Nat) (F R left : List Int) (got : List Pc) (N : TM) (ns : List Nt) (Iy Iq : TI) (Ah : Option Addr) (ch : Nat), iv = .int .i64 (i : Nat) ∧ hv = .slice Ah ns.length ch ∧ oy = F ++ R ∧ mu = R.length ∧ i + R.length ≤ 7760 ∧ Four w0 wr tx (clM x0 kx []) Ix ty (clM x1 ky R) Iy tp (srv false []) Ip tq (N.wl left false) Iq ∧ Pt F left got N ns ∧ Kd.R k37 37 wr w0.heap.size TB (.slice At nt ct) told ∧ (∀ k, TB k → ¬ F4 tx (clM x0 kx []) Ix ty (clM x1 ky R) Iy tp (srv false []) Ip tq (N.wl left false) Iq k ∧ k < wr.heap.size) ∧ Kd.R k37 37 wr w0.heap.size (fun k => ¬ F4 tx (clM x0 kx []) Ix ty (clM x1 ky R) Iy tp (srv false []) Ip tq (N.wl left false) Iq k ∧ ¬ TB k) (.slice Ah ns.length ch) ns
def KyR (w0 : World) (tx ty tp tq : Nat) (x0 x1 : List Int) (xs : List (List Int)) (mu : Nat) (iv : Value) (wr : World) : Prop := ∃ (i : Nat) (Ix Iy Ip Iq : TI) (kx : Int) (ox : List Int) (px : List Pc) (ky : Int) (oy : List Int) (py : List Pc), iv = .int .i64 (i : Nat) ∧ i + mu = xs.length ∧ Four w0 wr tx (clM x0 kx ox) Ix ty (clM x1 ky oy) Iy tp (srv false []) Ip tq (srv false []) Iq ∧ Snd (xs.take i) kx ox px ∧ Snd (xs.take i) ky oy py ∧ (∀ x ∈ xs.take i, x.length ≤ 300)
theorem Pure.TunnelKeys : Says.TunnelKeys := by
 intro A0 c0 x0 A1 c1 x1 A2 c2 x2 x3 x4 x5 w l0 r0 o0 l1 r1 o1 l2 r2 o2 o3 o4 o5 hg
 have hinfo : (Tryz.prog.info? 37).map (fun i => (i.zero, i.size, i.bytes)) = some (some (.agg #[.int .u8 0, .bool false, .slice none 0 0, .int .u32 0]), 4, 40) := by kernel_rfl
 have HI0 := a_ hinfo
 clear hinfo
 have HR := a_ r2
 have HR0 := a_ r0
 have HR1 := a_ r1
 have HB8 : Aside0 (∀ b ∈ x2, ∀ x ∈ b, 0 ≤ x ∧ x ≤ 255) := ⟨fun b hb x hx => wfq8 ((o2.1 b hb).1 x hx)⟩
 have HK0 : Aside0 (∀ x ∈ x0, 0 ≤ x ∧ x ≤ 4294967295) := ⟨fun x hx => wfq32 (o0.1 x hx)⟩
 have HK1 : Aside0 (∀ x ∈ x1, 0 ≤ x ∧ x ≤ 4294967295) := ⟨fun x hx => wfq32 (o1.1 x hx)⟩
 have HP3 := a_ (wfq8 o3)
 have HP4 := a_ (wfq8 o4)
 have HP5 := a_ (wfq8 o5)
 have HL0 := a_ l0
 have HL1 := a_ l1
 have HL2 := a_ l2
 have HCO := a_ hg
 clear r0 o0 l0 r1 o1 l1 r2 o2 l2 o3 o4 o5 hg
 go_enter Tryz.func3, Tryz.ntmps3
 by_cases hb0 : (100 : Int) < (x0.length : Int)
 ·go_wp2_with fail
  refine (fixed_yes _).mono ?_
  rintro e w1 ⟨rfl, hb⟩
  go_wp2_with fail
  go_ret
  exact ⟨rfl, hb⟩
 ·by_cases hb1 : (100 : Int) < (x1.length : Int)
  ·go_wp2_with fail
   refine (fixed_yes _).mono ?_
   rintro e w1 ⟨rfl, hb⟩
   go_wp2_with fail
   go_ret
   exact ⟨rfl, hb⟩
  ·by_cases hb2 : (20 : Int) < (x2.length : Int)
   ·go_wp2_with fail
    refine (fixed_yes _).mono ?_
    rintro e w1 ⟨rfl, hb⟩
    go_wp2_with fail
    go_ret
    exact ⟨rfl, hb⟩
   ·have HN : Aside0 (x0.length ≤ 100 ∧ x1.length ≤ 100 ∧ x2.length ≤ 20) := ⟨by omega⟩
    go_wp2_with fail
    refine (tnew (Below.refl w.heap.size w) true (keys := x0) (A := A0) (c := c0) (HR0.out) HL0.out HK0.out (by have := HN.out; omega)).mono ?_
    rintro e w1 ⟨tx, Ix, rfl, hT, hb, hl⟩
    have HTx := a_ hT
    have HB1 := a_ hb
    have HLx := a_ hl
    clear hT hb hl
    go_wp2_with fail
    refine (tnew HB1.out true (keys := x1) (A := A1) (c := c1) (Kd.C_below HR1.out HB1.out) HL1.out HK1.out (by have := HN.out; omega)).mono ?_
    rintro e w2 ⟨ty, Iy, rfl, hT, hb, hl⟩
    have HTy := a_ hT
    have HB2 := a_ hb
    have HLy := a_ hl
    clear hT hb hl
    go_wp2_with fail
    refine (tnew (below_step HB1.out HB2.out) false (keys := []) (A := none) (c := 0) (C_nil32 w2) (Nat.le_refl _) (fun x hx => by cases hx) (Nat.zero_le _)).mono ?_
    rintro e w3 ⟨tp, Ip, rfl, hT, hb, hl⟩
    have HTp := a_ hT
    have HB3 := a_ hb
    have HLp := a_ hl
    clear hT hb hl
    go_wp2_with fail
    refine (tnew (below_step (below_step HB1.out HB2.out) HB3.out) false (keys := []) (A := none) (c := 0) (C_nil32 w3) (Nat.le_refl _) (fun x hx => by cases hx) (Nat.zero_le _)).mono ?_
    rintro e w4 ⟨tq, Iq, rfl, hT, hb, hl⟩
    have HTq := a_ hT
    have HB4 := a_ hb
    have HLq := a_ hl
    clear hT hb hl
    have HT4 : Aside0 (Four w w4 tx (clM x0 0 []) Ix ty (clM x1 0 []) Iy tp (srv false []) Ip tq (srv false []) Iq) := ⟨by
     have s2 := HB2.out.size
     have s3 := HB3.out.size
     have s1 := HB1.out.size
     exact ⟨HTx.out.below (below_step (below_step HB2.out HB3.out) HB4.out), HTy.out.below (below_step HB3.out HB4.out), HTp.out.below HB4.out, HTq.out,
      fun k h1 h2 => by have := HTx.out.lt h1; have := HLy.out k h2; omega, fun k h1 h2 => by have := HTx.out.lt h1; have := HLp.out k h2; omega, fun k h1 h2 => by have := HTx.out.lt h1; have := HLq.out k h2; omega,
      fun k h1 h2 => by have := HTy.out.lt h1; have := HLp.out k h2; omega, fun k h1 h2 => by have := HTy.out.lt h1; have := HLq.out k h2; omega, fun k h1 h2 => by have := HTp.out.lt h1; have := HLq.out k h2; omega,
      fun k h1 => HLx.out k h1, fun k h1 => by have := HLy.out k h1; omega, fun k h1 => by have := HLp.out k h1; omega, fun k h1 => by have := HLq.out k h1; omega⟩⟩
    clear HTx HTy HTp HTq HLx HLy HLp HLq HB1 HB2 HB3 HB4 hb0 hb1 hb2
    go_wp2_with fail
    go_loopg [49] x2.length (fun mu iv wr => KyR w tx ty tp tq x0 x1 x2 mu iv wr)
    case atStart => exact ⟨0, Ix, Iy, Ip, Iq, 0, [], [], 0, [], [], rfl, by omega, HT4.out, Snd.nil, Snd.nil, fun x hx => (by cases hx)⟩
    case round =>
     clear HT4
     obtain ⟨i, Ix, Iy, Ip, Iq, kx, ox, px, ky, oy, py, rfl, hi, hT, hsx, hsy, hsm⟩ := hrel
     have HT := a_ hT
     have HI := a_ hi
     have HSX := a_ hsx
     have HSY := a_ hsy
     have HSM := a_ hsm
     clear hT hi hsx hsy hsm
     by_cases hlt : i < x2.length
     ·have hwi : wrap64 ((i : Int) + 1) = (i : Int) + 1 := by have := HN.out; unfold wrap64; omega
      obtain ⟨b, hbe⟩ : ∃ b, b = x2.getD i [] := ⟨_, rfl⟩
      have hb0 : x2[i] = b := by rw [hbe, List.getD_eq_getElem?_getD, List.getElem?_eq_getElem hlt]; rfl
      have hbm : b ∈ x2 := hb0 ▸ List.getElem_mem hlt
      have htk : x2.take (i + 1) = x2.take i ++ [b] := by rw [← hb0]; exact (List.take_append_getElem hlt).symm
      have htl : (x2.take i).length ≤ 20 := by have := HN.out; rw [List.length_take]; omega
      obtain ⟨ad, cs, ead, hcl, hK, hcell⟩ := Kd.C_get HR.out [] (i : Int) (by omega) (by omega)
      subst ead
      rw [Int.toNat_natCast, ← hbe] at hK
      obtain ⟨Ab, cb, rfl, hcb, hCb⟩ := hK
      have hce0 := hcell 0 _ rfl
      rw [Int.toNat_natCast, show i * (Kd.slice 5 (Kd.int .u8)).sz + 0 = i from Nat.mul_one i] at hce0
      have hce := (HT.out.x.bel.cell (World.block_lt_of_cell? _ _ hce0)).trans hce0
      have HTK := a_ htk
      have HTL := a_ htl
      have HBB := a_ (HB8.out b hbm)
      have HCb := a_ hCb
      have HC1 := a_ hcb
      clear hce0 hcell hcl hbe hb0 hbm htk hCb hcb htl
      by_cases hbig : (300 : Int) < (b.length : Int)
      ·go_wp2_with fail
       refine (fixed_yes _).mono ?_
       rintro e w5 ⟨rfl, hb⟩
       have HB9 := a_ (below_step HT.out.x.bel hb)
       clear hb
       go_wp2_with fail
       go_ret
       exact ⟨rfl, HB9.out⟩
      ·have HBL : Aside0 (b.length ≤ 300) := ⟨by omega⟩
       have hc3 : wrap64 x3 = x3 := by have := HP3.out; unfold wrap64; omega
       have hc4 : wrap64 x4 = x4 := by have := HP4.out; unfold wrap64; omega
       have hd3 : wrap64 (30 + x3) = 30 + x3 := by have := HP3.out; unfold wrap64; omega
       have hd4 : wrap64 (30 + x4) = 30 + x4 := by have := HP4.out; unfold wrap64; omega
       go_wp2_with fail
       refine (tsend HT.out.x (b := b) (most := 30 + x3) rfl rfl (Ap.of_low HCb.out HT.out.x.bel HT.out.lx) HC1.out HBB.out (by have := HBL.out; omega) (fun ps hp => by
        have h1 := (cut_sum true hp (mostC_30 (by have := HP3.out; omega)) (fun fin op d _ => putL_8 fin op d) (by have := HBL.out; omega)).1
        have h2 := HSX.out.len
        have h3 := HTL.out
        have h4 := HBL.out
        show ox.length + sumLen true ps ≤ 16384
        omega) (by have := HSX.out.key.2; have := HTL.out; show kx < _; omega) (by have := HSX.out.len; have := HTL.out; show ox.length ≤ _; omega)).mono ?_
       rintro e w5 ⟨rfl, cs5, vo5, hcp, hT5, hK5⟩
       obtain ⟨k5, o5, p5, e5, hs5⟩ := HSX.out.send (ks := x0) HK0.out hcp (mostC_30 (by have := HP3.out; omega)) (mostC_pos _).2 HBL.out HBB.out
       rw [e5] at hT5 hK5
       rw [← HTK.out] at hs5
       have HT5 := a_ (HT.out.stepX hT5 hK5)
       have HS5 := a_ hs5
       clear hcp hT5 hK5 e5 hs5
       go_wp2_with fail
       refine (tsend HT5.out.y (b := b) (most := 30 + x4) rfl rfl (Ap.of_low HCb.out HT5.out.y.bel HT5.out.ly) HC1.out HBB.out (by have := HBL.out; omega) (fun ps hp => by
        have h1 := (cut_sum true hp (mostC_30 (by have := HP4.out; omega)) (fun fin op d _ => putL_8 fin op d) (by have := HBL.out; omega)).1
        have h2 := HSY.out.len
        have h3 := HTL.out
        have h4 := HBL.out
        show oy.length + sumLen true ps ≤ 16384
        omega) (by have := HSY.out.key.2; have := HTL.out; show ky < _; omega) (by have := HSY.out.len; have := HTL.out; show oy.length ≤ _; omega)).mono ?_
       rintro e w6 ⟨rfl, cs6, vo6, hcp, hT5, hK5⟩
       obtain ⟨k6, o6, p6, e5, hs5⟩ := HSY.out.send (ks := x1) HK1.out hcp (mostC_30 (by have := HP4.out; omega)) (mostC_pos _).2 HBL.out HBB.out
       rw [e5] at hT5 hK5
       rw [← HTK.out] at hs5
       have HT6 := a_ (HT5.out.stepY hT5 hK5)
       have HS6 := a_ hs5
       clear hcp hT5 hK5 e5 hs5
       go_wp2_with fail
       go_roundg (x2.length - (i + 1))
       case measure => have := HI.out; omega
       case rel => exact ⟨i + 1, _, _, _, _, _, _, _, _, _, _, by rw [hwi, show ((i + 1 : Nat) : Int) = (i : Int) + 1 by omega], by have := HI.out; omega, HT6.out, HS5.out, HS6.out, fun x hx => by
        rw [HTK.out] at hx
        rcases List.mem_append.1 hx with h | h
        ·exact HSM.out x h
        ·rw [List.mem_singleton.1 h]; exact HBL.out⟩
     ·have hie : i = x2.length := by have := HI.out; omega
      subst hie
      have HSX0 : Aside0 (Snd x2 kx ox px) := ⟨by have h := HSX.out; rwa [List.take_length] at h⟩
      have HSY0 : Aside0 (Snd x2 ky oy py) := ⟨by have h := HSY.out; rwa [List.take_length] at h⟩
      have HSA : Aside0 (∀ x ∈ x2, x.length ≤ 300) := ⟨by have h := HSM.out; rwa [List.take_length] at h⟩
      clear HSX HSY HSM HI hlt
      have HOL : Aside0 (ox.length ≤ 7760 ∧ oy.length ≤ 7760 ∧ px.length ≤ 220 ∧ py.length ≤ 220) := ⟨by have h1 := HSX0.out.len; have h2 := HSY0.out.len; have h3 := HN.out; have h4 := HSX0.out.cnt; have h5 := HSY0.out.cnt; omega⟩
      go_wp2_with fail
      refine (tout HT.out.x (most := 100000) (by decide) (by have := HOL.out.1; show ox.length ≤ _; omega)).mono ?_
      rintro e w5 ho
      unfold OutP at ho
      rw [out_all (clM x0 kx ox) rfl rfl (by have := HOL.out.1; show ox.length ≤ _; omega)] at ho
      obtain ⟨Au, cu, vou, rfl, hTx, hKx, hru, hnu⟩ := ho
      obtain ⟨Ix5, hI5⟩ : ∃ I3 : TI, I3 = { Ix with vo := vou } := ⟨_, rfl⟩
      replace hTx : Tn w w5 tx (clM x0 kx []) Ix5 := hI5 ▸ hTx
      replace hKx : Kf wr w5 (TF (clM x0 kx ox) Ix tx) (TF (clM x0 kx []) Ix5 tx) := hI5 ▸ hKx
      have HT5 := a_ (HT.out.stepX hTx hKx)
      replace hru : Kd.R (Kd.int .u8) 5 w5 w.heap.size (fun k => ¬ TF (clM x0 kx []) Ix5 tx k) (.slice Au ox.length cu) ox := hI5 ▸ hru
      replace hnu : ∀ k, (Value.slice Au ox.length cu).ownBlock = some k → wr.heap.size ≤ k := hnu
      have HUB := a_ (Ap.of_row (F := TF (srv false []) Ip tp) hru (fun k e hk => by have := hnu k e; have := HT.out.p.lt hk; omega))
      have HUC := a_ (Kd.R_reads' hru).2.1
      rw [show (clM x0 kx ox).out.length = ox.length from rfl]
      clear hTx hKx hru hnu hI5 HT
      go_wp2_with fail
      refine (tfeed HT5.out.p HUB.out HUC.out (by rw [HSX0.out.out]; exact putAll_bytes _ HSX0.out.ok) (ps := px) (cd := 0) (left := []) (fun _ => rfl) (by rw [HSX0.out.out]; exact AllP.puts _ HSX0.out.ok) (by have := HOL.out; show (0 : Int) + _ + 2 < _; omega) (by have := HOL.out; show 0 + _ + 500 ≤ _; omega) HCO.out).mono ?_
      rintro e w6 hf
      unfold FeedP at hf
      rw [(HSX0.out.runs.run px (fun _ => rfl) rfl).1] at hf
      obtain ⟨l6, s6, Ip6, At, ct, rfl, hTp, hKp, hrt, hlf⟩ := hf
      obtain ⟨e1, e2⟩ := hlf rfl
      subst e1
      subst e2
      replace hTp : Tn w w6 tp (srv false []) Ip6 := hTp
      replace hKp : Kf w5 w6 (TF (srv false []) Ip tp) (TF (srv false []) Ip6 tp) := hKp
      have HT6 := a_ (HT5.out.stepP hTp hKp)
      have HRT := a_ (rows4P HT5.out hKp hrt)
      clear hTp hKp hrt hlf HT5 HUB HUC
      go_wp2_with fail
      obtain ⟨told, htold⟩ : ∃ l, l = x2.map n1 := ⟨_, rfl⟩
      rw [← htold] at HRT
      have htl : told.length = x2.length := by rw [htold, List.length_map]
      rw [htl] at HRT
      try simp only [List.length_map]
      have HTO := a_ htold
      clear htold
      obtain ⟨TB, hTB⟩ : ∃ P : Nat → Prop, P = (fun k => ¬ F4 tx (clM x0 kx []) Ix5 ty (clM x1 ky oy) Iy tp (srv false []) Ip6 tq (srv false []) Iq k ∧ k < w6.heap.size) := ⟨_, rfl⟩
      have HTB : Aside0 (∀ k, TB k → ¬ F4 tx (clM x0 kx []) Ix5 ty (clM x1 ky oy) Iy tp (srv false []) Ip6 tq (srv false []) Iq k ∧ k < w6.heap.size) := ⟨fun k hk => by rw [hTB] at hk; exact hk⟩
      have HRT6 : Aside0 (Kd.R k37 37 w6 w.heap.size TB (.slice At x2.length ct) told) := ⟨Kd.R_mono (Kd.R_bound HRT.out) (fun k hk => by rw [hTB]; exact ⟨hk.1, hk.2.2.1⟩)⟩
      clear hTB HRT
      go_loopg [22, 82] oy.length (fun mu hv iv wr => KpR w tx ty tp tq x0 x1 kx ky oy Ix5 Ip6 At ct told x2.length TB mu hv iv wr)
      case atStart => exact ⟨0, [], oy, [], [], srv false [], [], Iy, Iq, none, 0, rfl, rfl, rfl, rfl, (by have := HOL.out; omega), HT6.out, Pt.nil, HRT6.out, HTB.out, Kd.R_nil _ _ _ _ _⟩
      case round =>
       clear HT6 HRT6 HTB
       obtain ⟨i, F, R, left, got, N, ns, Iy, Iq, Ah, ch, rfl, rfl, hoy, hmu, hir, hT, hpt, hrt, htb, hrh⟩ := hrel
       have HT := a_ hT
       have HPT := a_ hpt
       have HRT := a_ hrt
       have HTB := a_ htb
       have HRH := a_ hrh
       have HOY := a_ hoy
       have HMU := a_ hmu
       have HIR := a_ hir
       clear hT hpt hrt htb hrh hoy hmu
       have hi2 : (i : Int) < 20000 := by omega
       have hwi : wrap64 ((i : Int) + 1) = (i : Int) + 1 := by unfold wrap64; omega
       have hc5 : wrap64 x5 = x5 := by have := HP5.out; unfold wrap64; omega
       have hd5 : wrap64 (1 + x5) = 1 + x5 := by have := HP5.out; unfold wrap64; omega
       clear hir
       go_wp2_with fail
       refine (tout HT.out.y (most := 1 + x5) (by have := HP5.out; omega) (by have := HIR.out; show R.length ≤ _; omega)).mono ?_
       rintro e w7 ho
       unfold OutP at ho
       rw [out_part x1 ky R (1 + x5) (by have := HP5.out; omega)] at ho
       obtain ⟨n, hn⟩ : ∃ n, n = min (1 + x5).toNat R.length := ⟨_, rfl⟩
       rw [← hn] at ho
       obtain ⟨pa, hpa⟩ : ∃ l, l = R.take n := ⟨_, rfl⟩
       obtain ⟨R2, hR2⟩ : ∃ l, l = R.drop n := ⟨_, rfl⟩
       have hRx : R = pa ++ R2 := by rw [hpa, hR2, List.take_append_drop]
       rw [← hpa, ← hR2] at ho
       obtain ⟨Ab, cb, vo7, rfl, hTy, hKy, hrb, hnb⟩ := ho
       obtain ⟨Iy7, hI7⟩ : ∃ I3 : TI, I3 = { Iy with vo := vo7 } := ⟨_, rfl⟩
       replace hTy : Tn w w7 ty (clM x1 ky R2) Iy7 := hI7 ▸ hTy
       replace hKy : Kf wr w7 (TF (clM x1 ky R) Iy ty) (TF (clM x1 ky R2) Iy7 ty) := hI7 ▸ hKy
       replace hrb : Kd.R (Kd.int .u8) 5 w7 w.heap.size (fun k => ¬ TF (clM x1 ky R2) Iy7 ty k) (.slice Ab pa.length cb) pa := hI7 ▸ hrb
       replace hnb : ∀ k, (Value.slice Ab pa.length cb).ownBlock = some k → wr.heap.size ≤ k := hnb
       have HT7 := a_ (HT.out.stepY hTy hKy)
       have HK7 := a_ (F4.kfY (tx := tx) (Mx := clM x0 kx []) (Ix := Ix5) (tp := tp) (Mp := srv false []) (Ip := Ip6) (tq := tq) (Mq := N.wl left false) (Iq := Iq) hKy)
       have HRT7 := a_ (row_tb HRT.out HTB.out HK7.out)
       have HTB7 := a_ (tb_kf HTB.out HK7.out)
       have HRH7 := a_ (row_kf HRH.out HK7.out)
       have HPB := a_ (Ap.of_row (F := TF (N.wl left false) Iq tq) hrb (fun k e hk => by have := hnb k e; have := HT.out.q.lt hk; omega))
       have HPC := a_ (Kd.R_reads' hrb).2.1
       have HRX := a_ hRx
       have HNN := a_ hn
       have HPA := a_ hpa
       clear hTy hKy hrb hnb hI7 HK7 HRT HTB HRH HT hRx hn hpa hR2
       by_cases hpe : (pa.length : Int) = 0
       ·have hn0 : R = [] := by
         have h1 := HNN.out
         have h2 := HPA.out
         have h3 : pa.length = min n R.length := by rw [h2, List.length_take]
         have h4 := HP5.out
         exact List.length_eq_zero_iff.1 (by omega)
        have hF : oy = F := by rw [HOY.out, hn0, List.append_nil]
        have hR2 : R2 = [] := by
         have h1 := HRX.out
         rw [hn0] at h1
         exact (List.append_eq_nil_iff.1 h1.symm).2
        have hpt := HPT.out
        rw [← hF, HSY0.out.out] at hpt
        obtain ⟨eg, el, eN, en⟩ := Pt.end HSY0.out.ok HSY0.out.runs hpt
        have ent : told = ns := HTO.out.trans en.symm
        subst hR2
        subst el
        subst eN
        subst ent
        have HTL : Aside0 (told.length = x2.length) := ⟨by rw [HTO.out, List.length_map]⟩
        have HSM : Aside0 (Calls Tryz.prog 12 #[.slice At x2.length ct, .slice Ah x2.length ch] w7 fun e w' => e = .returned (.bool true) ∧ Below w7.heap.size w7 w') := ⟨by
         have h1 := Kd.R_reads' HRT7.out
         have h2 := Kd.R_reads' HRH7.out
         have h3 := louverref20_Same.calls (told.length + 1) At ct told Ah ch told true w7 h1.2.2 (by rw [HTL.out]; exact h1.2.1) h2.2.2 h2.2.1 (same20 told (by rw [HTL.out]; have := HN.out; omega))
         rw [HTL.out] at h3
         exact h3⟩
        simp only [HTL.out]
        clear HPT hpt eg en hn0 hF HRH7 HPB HPC HOY HMU HIR HNN HPA HRX
        go_wp2_with fail
        refine HSM.out.mono ?_
        rintro e w8 ⟨rfl, hb⟩
        have HB8 := a_ hb
        have HT8 := a_ (HT7.out.below hb)
        have HRT8 := a_ (Kd.R_below HRT7.out hb)
        clear hb HSM HT7 HRT7 HTB7
        go_wp2_with fail
        go_loopg [114] x2.length (fun mu iv wz => KgC w8 x2.length mu iv wz)
        case atStart => exact ⟨0, rfl, by omega, Below.refl _ _⟩
        case round =>
         obtain ⟨j, rfl, hj, hbr⟩ := hrel
         have HJ := a_ hj
         have HBR := a_ hbr
         clear hj hbr
         by_cases hlt : j < x2.length
         ·have hwj : wrap64 ((j : Int) + 1) = (j : Int) + 1 := by have := HN.out; unfold wrap64; omega
          obtain ⟨b, hbe⟩ : ∃ b, b = x2.getD j [] := ⟨_, rfl⟩
          have hb0 : x2[j] = b := by rw [hbe, List.getD_eq_getElem?_getD, List.getElem?_eq_getElem hlt]; rfl
          have hlt2 : j < told.length := by rw [HTL.out]; exact hlt
          have e2 : told[j] = n1 b := by
           have h : ∀ (l : List Nt) (h : j < l.length), l = x2.map n1 → l[j] = n1 b := by intro l h e; subst e; rw [List.getElem_map, hb0]
           exact h told hlt2 HTO.out
          obtain ⟨g, A2, c2, eat, ht0, ht1, ht2, ht3, hRb⟩ := note_at (Kd.R_below HRT8.out HBR.out) j hlt2
          rw [e2] at ht0 ht1 ht2 ht3 hRb
          subst eat
          replace ht0 : wr.cell? ⟨g, j * 4, none⟩ = some (.int .u8 1) := ht0
          replace ht1 : wr.cell? ⟨g, j * 4 + 1, none⟩ = some (.bool false) := ht1
          replace ht2 : wr.cell? ⟨g, j * 4 + 2, none⟩ = some (.slice A2 b.length c2) := ht2
          replace ht3 : wr.cell? ⟨g, j * 4 + 3, none⟩ = some (.int .u32 0) := ht3
          replace hRb : Kd.R (Kd.int .u8) 5 wr w.heap.size TB (.slice A2 b.length c2) b := hRb
          have HRb := a_ hRb
          obtain ⟨ad, cs, ead, hcl, hK, hcell⟩ := Kd.C_get (Kd.C_below (Kd.C_below HR.out HT8.out.x.bel) HBR.out) [] (j : Int) (by omega) (by omega)
          subst ead
          rw [Int.toNat_natCast, ← hbe] at hK
          obtain ⟨A1, c1, rfl, hc1, hCb⟩ := hK
          have hce := hcell 0 _ rfl
          rw [Int.toNat_natCast, show j * (Kd.slice 5 (Kd.int .u8)).sz + 0 = j from Nat.mul_one j] at hce
          have HCb := a_ hCb
          clear hcl hcell hbe hb0 hlt2 e2 hRb hCb hc1
          have hst : ((strOfNums b).toList == (strOfNums b).toList) = true := beq_self_eq_true _
          have hsn : ((strOfNums b).toList != (strOfNums b).toList) = false := by rw [bne, hst]; rfl
          have hjp : (0 : Int) ≤ (j : Int) := by omega
          have hjl : (j : Int) < (x2.length : Int) := by omega
          go_upto_region 27 with fail
          have hb3 : Below wr.heap.size wr (wr.alloc (.cells #[.int .u8 1, .bool false, .slice A2 b.length c2, .int .u32 0] 37)) := below_alloc (Below.refl _ _) _
          have hx3 : (wr.alloc (.cells #[.int .u8 1, .bool false, .slice A2 b.length c2, .int .u32 0] 37)).heap[wr.heap.size]? = some (.cells #[.int .u8 1, .bool false, .slice A2 b.length c2, .int .u32 0] 37 (0, 0)) := last_at _ _ _ rfl
          have hce := (hb3.cell (World.block_lt_of_cell? _ _ hce)).trans hce
          generalize wr.alloc (.cells #[.int .u8 1, .bool false, .slice A2 b.length c2, .int .u32 0] 37) = w9 at hb3 hx3 hce ⊢
          have HB9 := a_ hb3
          generalize wr.heap.size = gb at hx3 ⊢
          obtain ⟨d0, d1, d2⟩ := xl3_ hx3
          have HC2 := a_ (Kd.R_reads' (Kd.R_below HRb.out HB9.out)).2.2
          have HC1 := a_ (Kd.C_below HCb.out HB9.out)
          clear hb3 hx3 ht0 ht1 ht2 ht3 HRb HCb
          refine wp_region_noPanic ?_
          refine wp_region_held_drew (S := fun w' => Aside0 (w9.drew = w') ∧ w'.cell? ⟨gb, 0, none⟩ = some (.int .u8 1) ∧ w'.cell? ⟨gb, 1, none⟩ = some (.bool false) ∧ w'.cell? ⟨gb, 2, none⟩ = some (.slice A2 b.length c2) ∧ w'.cell? (ad.add j) = some (.slice A1 b.length c1) ∧ (convert 27 9 (.slice A2 b.length c2)).run Tryz.prog w' = .ok (.string (strOfNums b)) w' ∧ (convert 27 9 (.slice A1 b.length c1)).run Tryz.prog w' = .ok (.string (strOfNums b)) w') (by kernel_rfl) (⟨⟨rfl⟩, d0, d1, d2, hce, Kd.C_string Tryz.underlying27 Tryz.underlying5 Tryz.underlying9 (Kd.C_drew HC2.out), Kd.C_string Tryz.underlying27 Tryz.underlying5 Tryz.underlying9 (Kd.C_drew HC1.out)⟩) (fun hHeld => ?_)
          refine takeP 0 119 ?_
          refine takeP 1 120 ?_
          refine takeP 2 121 ?_
          refine takeP 3 122 ?_
          refine takeP 4 123 ?_
          refine takeP 5 124 ?_
          refine takeP 6 125 ?_
          refine takeP 7 126 ?_
          refine takeP 8 127 ?_
          refine takeP 9 128 ?_
          refine takeP 10 129 ?_
          refine takeP 11 130 ?_
          refine takeP 12 131 ?_
          refine takeP 13 132 ?_
          refine takeP 14 133 ?_
          refine takeP 15 134 ?_
          refine takeP 16 135 ?_
          refine takeP 17 136 ?_
          refine wpAnyH_done (by kernel_rfl) ?_ _
          refine NoPanic.normal ?_
          clear hHeld
          go_wp2_with fail
          go_roundg (x2.length - (j + 1))
          case measure => have := HJ.out; omega
          case rel => exact ⟨j + 1, by rw [hwj, show ((j + 1 : Nat) : Int) = (j : Int) + 1 by omega], by omega, below_drew (below_step HBR.out HB9.out)⟩
         ·have hje : j = x2.length := by have := HJ.out; omega
          subst hje
          go_wp2_with fail
          refine (fixed_yes _).mono ?_
          rintro e w10 ⟨rfl, hb⟩
          have HT10 := a_ (HT8.out.below (below_step HBR.out hb))
          clear hb HT8
          go_wp2_with fail
          refine (twaits HT10.out.x).mono ?_
          rintro e w11 ⟨rfl, hTx, hKx⟩
          have HT11 := a_ (HT10.out.stepX hTx hKx)
          clear hTx hKx HT10
          rw [show (clM x0 kx []).out.length = 0 from rfl]
          go_wp2_with fail
          refine (twaits HT11.out.y).mono ?_
          rintro e w12 ⟨rfl, hTx, hKx⟩
          have HT12 := a_ (HT11.out.stepY hTx hKx)
          clear hTx hKx HT11
          rw [show (clM x1 ky []).out.length = 0 from rfl]
          go_wp2_with fail
          go_ret
          exact ⟨rfl, HT12.out.x.bel⟩
       ·have hoy2 : putAll py = F ++ (pa ++ R2) := by rw [← HSY0.out.out, HOY.out, HRX.out]
        have hby := putAll_bytes py HSY0.out.ok
        rw [hoy2, List.all_append, Bool.and_eq_true, List.all_append, Bool.and_eq_true] at hby
        obtain ⟨p2, l2, ha2, hp2, hpt2⟩ := HPT.out.step HSY0.out.ok HSY0.out.runs hoy2
        obtain ⟨⟨bu, b1, nn, hNe, hnse⟩, hgl, hlb⟩ := HPT.out.is HSY0.out.ok HSY0.out.runs hoy2
        obtain ⟨⟨bu2, b2, nn2, hNe2, hnse2⟩, hgl2, hlb2⟩ := hpt2.is HSY0.out.ok HSY0.out.runs (R := R2) (by rw [hoy2, List.append_assoc])
        have HNE := a_ hNe
        have HBY := a_ hby.2.1
        have HA2 := a_ ha2
        have HP2 := a_ hp2
        have HPT2 := a_ hpt2
        have HNS2 := a_ hnse2
        have HNE2 := a_ hNe2
        have HGL := a_ hgl2
        clear hoy2 hby ha2 hp2 hpt2 hNe hnse hgl hlb hNe2 hnse2 hgl2 hlb2
        go_wp2_with fail
        refine (tfeed HT7.out.q HPB.out HPC.out HBY.out (ps := p2) (cd := 0) (left := l2) (fun _ => rfl) (by rw [HNE.out]; exact HA2.out) (by rw [HNE.out]; have := HP2.out; have := HOL.out; show (0 : Int) + _ + 2 < _; omega) (by rw [HNE.out]; have := HP2.out; have := HOL.out; show 0 + _ + 500 ≤ _; omega) HCO.out).mono ?_
        rintro e w8 hf
        unfold FeedP at hf
        rw [run_wl] at hf
        obtain ⟨N2, hN2⟩ : ∃ N2, N2 = (runM N p2 0).1 := ⟨_, rfl⟩
        obtain ⟨ns2, hns2⟩ : ∃ l, l = (runM N p2 0).2 := ⟨_, rfl⟩
        dsimp only at hf
        rw [← hN2, ← hns2] at hf
        rw [← hN2] at HNE2
        rw [← hN2, ← hns2] at HPT2
        rw [← hns2] at HNS2
        obtain ⟨l8, s8, Iq8, An, cn, rfl, hTq, hKq, hrn, hlf⟩ := hf
        obtain ⟨e1, e2⟩ := hlf (by rw [HNE2.out]; rfl)
        subst e1
        subst e2
        replace hTq : Tn w w8 tq (N2.wl l8 false) Iq8 := hTq
        replace hKq : Kf w7 w8 (TF (N.wl left false) Iq tq) (TF (N2.wl l8 false) Iq8 tq) := hKq
        replace hrn : Kd.R k37 37 w8 w.heap.size (fun k => ¬ TF (N2.wl l8 false) Iq8 tq k ∧ (TF (N.wl left false) Iq tq k ∨ w7.heap.size ≤ k)) (.slice An ns2.length cn) ns2 := hrn
        have HT8 := a_ (HT7.out.stepQ hTq hKq)
        have HK8 := a_ (F4.kfQ (tx := tx) (Mx := clM x0 kx []) (Ix := Ix5) (ty := ty) (My := clM x1 ky R2) (Iy := Iy7) (tp := tp) (Mp := srv false []) (Ip := Ip6) hKq)
        have HRT8 := a_ (row_tb HRT7.out HTB7.out HK8.out)
        have HTB8 := a_ (tb_kf HTB7.out HK8.out)
        have HRH8 := a_ (row_kf HRH7.out HK8.out)
        have HRN := a_ (row_part hrn)
        have HNC := a_ (Kd.R_reads' hrn).2.1
        have HOK : Aside0 (∀ k, (¬ TF (N2.wl l8 false) Iq8 tq k ∧ (TF (N.wl left false) Iq tq k ∨ w7.heap.size ≤ k)) → (¬ F4 tx (clM x0 kx []) Ix5 ty (clM x1 ky R2) Iy7 tp (srv false []) Ip6 tq (N2.wl l8 false) Iq8 k ∧ ¬ TB k) ∧ some k ≠ (Value.slice Ah ns.length ch).ownBlock) := ⟨fun k hk => ⟨ok4Q HT7.out HTB7.out hk, own4Q HRH7.out hk⟩⟩
        have HFR : Aside0 (∀ k, w8.heap.size ≤ k → (¬ F4 tx (clM x0 kx []) Ix5 ty (clM x1 ky R2) Iy7 tp (srv false []) Ip6 tq (N2.wl l8 false) Iq8 k ∧ ¬ TB k)) := ⟨fun k hk => ⟨fun e => by have := HT8.out.lt e; omega, fun e => by have := (HTB8.out k e).2; omega⟩⟩
        clear hTq hKq hlf hN2 hns2 hrn HRT7 HTB7 HRH7 HT7 HPB HPC HK8
        obtain ⟨nz, hnz⟩ : ∃ l, l = ns ++ ns2 := ⟨_, rfl⟩
        rw [← hnz] at HPT2 HNS2
        have HNZ := a_ hnz
        have HLL : Aside0 ((ns.length + ns2.length) * 40 ≤ 140737488355328 ∧ nz.length ≤ 220) := ⟨by
         have h1 := run_len (srv false []) (got ++ p2)
         rw [HPT2.out.run] at h1
         have h2 := HGL.out
         have h3 := HOL.out.2.2.2
         have h4 : nz.length ≤ (got ++ p2).length := h1
         have h5 := congrArg List.length hnz
         rw [List.length_append] at h5
         omega⟩
        clear hnz
        go_wp2_with (at_builtin; refine wpList_of_step (Kd.R_append_rows_step k37 (Rr := k37.M w8 w.heap.size (fun k => ¬ TF (N2.wl l8 false) Iq8 tq k ∧ (TF (N.wl left false) Iq tq k ∨ w7.heap.size ≤ k))) (w0 := w) w.heap.size (by rfl) (.tmp 95) (.tmp 98) 32 37 (.agg #[.int .u8 0, .bool false, .slice none 0 0, .int .u32 0]) 40 rfl Tryz.underlying32 HI0.out rfl (by decide) (by decide) (.slice Ah ns.length ch) ns ns2 An ns2.length cn (fun k => ¬ F4 tx (clM x0 kx []) Ix5 ty (clM x1 ky R2) Iy7 tp (srv false []) Ip6 tq (N2.wl l8 false) Iq8 k ∧ ¬ TB k) (fun k => ¬ TF (N2.wl l8 false) Iq8 tq k ∧ (TF (N.wl left false) Iq tq k ∨ w7.heap.size ≤ k)) rfl rfl HRH8.out HRN.out (fun _ _ h => h) HOK.out HFR.out HT8.out.q.bel HT8.out.q.bel.size HLL.out.1 ?_); intro v9 w9 hR9 hB9 hg9 hat9; rw [← HNZ.out] at hR9; (obtain ⟨A9, c9, e9⟩ := Kd.R_slice hR9); subst e9; have HR9 := a_ hR9; have HB9 := a_ hB9; have HG9 := a_ hg9; clear hR9 hB9 hg9 hat9)
        go_roundg R2.length
        case measure =>
         have h1 := congrArg List.length HRX.out
         rw [List.length_append] at h1
         have h2 := HMU.out
         omega
        case rel => exact ⟨i + 1, F ++ pa, R2, l8, got ++ p2, N2, nz, Iy7, Iq8, A9, c9, by rw [show ((i + 1 : Nat) : Int) = (i : Int) + 1 by omega], rfl, by rw [HOY.out, HRX.out, List.append_assoc], rfl, (by
         have h1 := congrArg List.length HRX.out
         rw [List.length_append] at h1
         have h2 := HIR.out
         omega), HT8.out.move HB9.out (fun k hk => HG9.out.block k (HT8.out.lt hk) (fun e => (HRH8.out.1 k e.symm).1 hk)), HPT2.out, Kd.R_step HRT8.out (fun k hk hl => HG9.out.block k hl (fun e => (HRH8.out.1 k e.symm).2 hk)), fun k hk => ⟨(HTB8.out k hk).1, Nat.lt_of_lt_of_le (HTB8.out k hk).2 HG9.out.size⟩, HR9.out⟩
end Go.Proofs.YtpmeapdcjmaeiaaGreatDoor
