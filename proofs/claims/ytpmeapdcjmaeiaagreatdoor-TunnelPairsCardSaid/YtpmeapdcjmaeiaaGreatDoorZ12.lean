/- What the law's row rests on, part 12. -/
import Derived.Test.YtpmeapdcjmaeiaaGreatDoorZ11
import Derived.Deep.RegionHeld3
import Derived.Deep.LoopGhost
import Derived.Deep.CutBlock
import Derived.Deep.DeepCutAuto
import Derived.Outline
set_option linter.unusedVariables false
set_option linter.unusedSimpArgs false
set_option maxRecDepth 100000
set_option maxHeartbeats 16000000
namespace Go.Proofs.YtpmeapdcjmaeiaaGreatDoor
open Go.RowKit Go.Wa Go.Wb Go.Wc PAll U
theorem eqlNil_sclone8 (w : World) (A : Option Addr) (n c : Nat) : (binOp .eql 27 (.slice A n c) (.slice none 0 0)).run Tryz.prog w = .ok (.bool A.isNone) w := by
 have h : ∀ d : Nat, (Op.equalIn (d + 1) 27 (.slice A n c) (.slice none 0 0)).run Tryz.prog w = .ok A.isNone w := fun d => by
  cases A <;> simp [Op.equalIn, run_underlying Tryz.underlying27]
 simp only [binOp]
 simp [Op.equal, Op.maxDepth, h 9999]
theorem info_sclone8 : (Tryz.prog.info? 5).map (fun i => (i.zero, i.size, i.bytes)) = some (some (.int .u8 0), 1, 1) := by kernel_rfl
theorem sclone8 (A0 : Option Addr) (c0 : Nat) (l0 : List Int) (w : World) (hr0 : Kd.C (Kd.int .u8) w A0 l0.length l0) (hc0 : l0.length ≤ c0) (hlen : l0.length ≤ 1000000000) :
  Calls Tryz.prog 39 #[.slice A0 l0.length c0] w fun e w' => ∃ v0_ : Value, e = .returned (v0_) ∧ Kd.R (Kd.int .u8) 5 w' w.heap.size (fun _ => True) v0_ l0 ∧ Below w.heap.size w w' := by
 have huS := Tryz.underlying27
 have huB := Tryz.underlying5
 have HR := a_ hr0
 rcases A0 with _ | ad
 ·have h0 : l0 = [] := by
   cases l0 with
   | nil => rfl
   | cons a t => obtain ⟨_, h, _⟩ := HR.out.2.2 (by simp); cases h
  subst h0
  clear hr0 HR
  have hnil : ∀ W, (binOp .eql 27 (.slice none 0 c0) (.slice none 0 0)).run Tryz.prog W = .ok (.bool true) W := fun W => eqlNil_sclone8 W none 0 c0
  go_enter Tryz.func39, Tryz.ntmps39
  go_wp2_with fail
  go_ret
  exact ⟨_, rfl, Kd.R_nil _ _ _ _ _, Below.refl _ _⟩
 ·have HL := a_ hlen
  clear hr0 hlen
  have hnil : ∀ W, (binOp .eql 27 (.slice (some ad) l0.length c0) (.slice none 0 0)).run Tryz.prog W = .ok (.bool false) W := fun W => eqlNil_sclone8 W (some ad) l0.length c0
  go_enter Tryz.func39, Tryz.ntmps39
  have HO : Aside0 ((w.alloc (.cells #[] 5)).ownsRow w.heap.size 5 1 (.slice (some ⟨w.heap.size, 0, none⟩) 0 0) 0 []) := ⟨⟨rfl, .inr ⟨w.heap.size, 0, #[], rfl, Nat.le_refl _, blk_new w _, Nat.le_refl _, by decide, rfl, rfl⟩⟩⟩
  have HS : Aside0 (ReadsInt (w.alloc (.cells #[] 5)) .u8 (some ad) l0.length l0) := ⟨Kd.reads_of_C (Kd.C_alloc HR.out _)⟩
  go_wp2_with (at_builtin; refine print_append_row (w0 := w) w.heap.size rfl (.tmp 5) (.tmp 6) 27 5 .u8 1 rfl Tryz.underlying27 info_sclone8 (by decide) (.slice (some ⟨w.heap.size, 0, none⟩) 0 0) [] l0 (some ad) l0.length c0 rfl rfl HO.out HS.out ((Below.refl _ _).alloc (Nat.le_refl _) _) (by simp) (by have := HL.out; simp; omega) ?_; intro v1 w1 ho hb hg hat)
  go_ret
  exact ⟨_, rfl, Kd.R_of_own (show w1.ownsRow w.heap.size 5 1 v1 l0.length (nums .u8 l0) by simpa using ho) (fun _ _ => trivial), hb⟩
theorem eqlNil_sclone32 (w : World) (A : Option Addr) (n c : Nat) : (binOp .eql 22 (.slice A n c) (.slice none 0 0)).run Tryz.prog w = .ok (.bool A.isNone) w := by
 have h : ∀ d : Nat, (Op.equalIn (d + 1) 22 (.slice A n c) (.slice none 0 0)).run Tryz.prog w = .ok A.isNone w := fun d => by
  cases A <;> simp [Op.equalIn, run_underlying Tryz.underlying22]
 simp only [binOp]
 simp [Op.equal, Op.maxDepth, h 9999]
theorem info_sclone32 : (Tryz.prog.info? 35).map (fun i => (i.zero, i.size, i.bytes)) = some (some (.int .u32 0), 1, 4) := by kernel_rfl
theorem sclone32 (A0 : Option Addr) (c0 : Nat) (l0 : List Int) (w : World) (hr0 : Kd.C (Kd.int .u32) w A0 l0.length l0) (hc0 : l0.length ≤ c0) (hlen : l0.length ≤ 1000000000) :
  Calls Tryz.prog 30 #[.slice A0 l0.length c0] w fun e w' => ∃ v0_ : Value, e = .returned (v0_) ∧ Kd.R (Kd.int .u32) 35 w' w.heap.size (fun _ => True) v0_ l0 ∧ Below w.heap.size w w' := by
 have huS := Tryz.underlying22
 have huB := Tryz.underlying35
 have HR := a_ hr0
 rcases A0 with _ | ad
 ·have h0 : l0 = [] := by
   cases l0 with
   | nil => rfl
   | cons a t => obtain ⟨_, h, _⟩ := HR.out.2.2 (by simp); cases h
  subst h0
  clear hr0 HR
  have hnil : ∀ W, (binOp .eql 22 (.slice none 0 c0) (.slice none 0 0)).run Tryz.prog W = .ok (.bool true) W := fun W => eqlNil_sclone32 W none 0 c0
  go_enter Tryz.func30, Tryz.ntmps30
  go_wp2_with fail
  go_ret
  exact ⟨_, rfl, Kd.R_nil _ _ _ _ _, Below.refl _ _⟩
 ·have HL := a_ hlen
  clear hr0 hlen
  have hnil : ∀ W, (binOp .eql 22 (.slice (some ad) l0.length c0) (.slice none 0 0)).run Tryz.prog W = .ok (.bool false) W := fun W => eqlNil_sclone32 W (some ad) l0.length c0
  go_enter Tryz.func30, Tryz.ntmps30
  have HO : Aside0 ((w.alloc (.cells #[] 35)).ownsRow w.heap.size 35 1 (.slice (some ⟨w.heap.size, 0, none⟩) 0 0) 0 []) := ⟨⟨rfl, .inr ⟨w.heap.size, 0, #[], rfl, Nat.le_refl _, blk_new w _, Nat.le_refl _, by decide, rfl, rfl⟩⟩⟩
  have HS : Aside0 (ReadsInt (w.alloc (.cells #[] 35)) .u32 (some ad) l0.length l0) := ⟨Kd.reads_of_C (Kd.C_alloc HR.out _)⟩
  go_wp2_with (at_builtin; refine print_append_row (w0 := w) w.heap.size rfl (.tmp 5) (.tmp 6) 22 35 .u32 4 rfl Tryz.underlying22 info_sclone32 (by decide) (.slice (some ⟨w.heap.size, 0, none⟩) 0 0) [] l0 (some ad) l0.length c0 rfl rfl HO.out HS.out ((Below.refl _ _).alloc (Nat.le_refl _) _) (by simp) (by have := HL.out; simp; omega) ?_; intro v1 w1 ho hb hg hat)
  go_ret
  exact ⟨_, rfl, Kd.R_of_own (show w1.ownsRow w.heap.size 35 1 v1 l0.length (nums .u32 l0) by simpa using ho) (fun _ _ => trivial), hb⟩
def newT (cl : Bool) (keys : List Int) : TM := ⟨cl, keys, 0, [], false, [], false, false, false, false, false, 0, 0, 0, [], 0, false⟩
theorem newT_ok {cl : Bool} {keys : List Int} (hk : ∀ x ∈ keys, 0 ≤ x ∧ x ≤ 4294967295) (hl : keys.length ≤ 1000) : (newT cl keys).Ok := ⟨fun _ => rfl, Nat.zero_le _, fun x hx => (by cases hx), Nat.zero_le _, rfl, Int.le_refl _, hk, hl, fun x hx => (by cases hx), ⟨Int.le_refl _, by show (0 : Int) ≤ 16; decide⟩⟩
theorem tnew {w0 W : World} (hB : Below w0.heap.size w0 W) (cl : Bool) {keys : List Int} {A : Option Addr} {c : Nat} (hA : Kd.C (Kd.int .u32) W A keys.length keys) (hc : keys.length ≤ c) (hk : ∀ x ∈ keys, 0 ≤ x ∧ x ≤ 4294967295) (hl : keys.length ≤ 1000) : Calls Tryz.prog 8 #[.bool cl, .slice A keys.length c] W fun e w' => ∃ t I, e = .returned (.pointer (some ⟨t, 0, none⟩)) ∧ Tn w0 w' t (newT cl keys) I ∧ Below W.heap.size W w' ∧ ∀ k, TF (newT cl keys) I t k → W.heap.size ≤ k := by
 have hu76 := Tryz.underlying76
 have HK0 := a_ (And.intro hk hl)
 have HA := a_ hA
 have HC := a_ hc
 have HB := a_ hB
 clear hk hl hA hc hB
 go_enter Tryz.func8, Tryz.ntmps8
 go_wp2_with fail
 refine (sclone32 A c keys _ HA.out HC.out (by have := HK0.out.2; omega)).mono ?_
 rintro e w1 ⟨vk, rfl, hrk, hb1⟩
 obtain ⟨Ak, ck, rfl⟩ := Kd.R_slice hrk
 have HRB := a_ (Kd.R_base hrk)
 have HR1 := a_ (Kd.R_lower hrk HB.out.size)
 have HB1 := a_ (below_step HB.out hb1)
 have HW1 := a_ hb1
 clear hrk hb1
 go_wp2_with fail
 refine (split_new (!cl) w0 _ HB1.out).mono ?_
 rintro e w2 ⟨rfl, hs2, hb2⟩
 have HR2 := a_ (Kd.R_below HR1.out hb2)
 have HB2 := a_ (below_step HB1.out hb2)
 have HW2 := a_ (below_step HW1.out hb2)
 have HS2 := a_ hs2
 have HL2 := a_ (And.intro (show w0.heap.size ≤ w1.heap.size from HB1.out.size) (show W.heap.size ≤ w1.heap.size from HW1.out.size))
 generalize w1.heap.size = sg at HS2 HL2 ⊢
 clear hs2 hb2 HR1 HB1 HW1
 go_wp2_with fail
 refine (gnew_any _).mono ?_
 rintro e w3 ⟨rfl, hG3, hb3⟩
 have HR3 := a_ (Kd.R_below HR2.out hb3)
 have HB3 := a_ (below_step HB2.out hb3)
 have HW3 := a_ (below_step HW2.out hb3)
 have HS3 := a_ (HS2.out.below hb3)
 have HG3 := a_ hG3
 have HL3 := a_ (And.intro (show w0.heap.size ≤ w2.heap.size from HB2.out.size) (show W.heap.size ≤ w2.heap.size from HW2.out.size))
 generalize w2.heap.size = gg at HG3 HL3 ⊢
 clear hG3 hb3 HR2 HB2 HW2 HS2
 go_wp2_with fail
 refine (closing_New.calls false false 0 0 0 w3 _ (Below.refl _ _) rfl).mono ?_
 rintro e w4 ⟨dg, rfl, hD4, _, hb4⟩
 have hB4 := below_step HB3.out hb4
 have HLD := a_ (show W.heap.size ≤ dg from Nat.le_trans HW3.out.size hD4.2)
 replace hD4 : IsS121 w0 w4 dg false false 0 0 0 := ⟨hD4.1, Nat.le_trans HB3.out.size hD4.2⟩
 have HR4 := a_ (Kd.R_below HR3.out hb4)
 have HW4 := a_ (below_step HW3.out hb4)
 have HS4 := a_ (HS3.out.below hb4)
 have HG4 := a_ (blk_below HG3.out hb4)
 have HD4 := a_ hD4
 have HB4 := a_ hB4
 clear hD4 hB4 hb4 HR3 HW3 HS3 HG3 HB3
 go_wp2_with fail
 have hba := below_alloc (Below.refl w4.heap.size w4) (.cells #[.bool cl, .slice Ak keys.length ck, .int .i64 0, .pointer (some ⟨sg, 0, none⟩), .pointer (some ⟨gg, 0, none⟩), .pointer (some ⟨dg, 0, none⟩), .slice none 0 0, .int .i64 0, .bool false] 76)
 go_ret
 refine ⟨w4.heap.size, ⟨.slice Ak keys.length ck, sg, gg, dg, .slice none 0 0, .slice none 0 0, .pointer none, .slice none 0 0, 0, []⟩, rfl, ⟨below_step HB4.out hba, last_at _ _ _ rfl, HB4.out.size, Kd.R_below HR4.out hba, HS4.out.below hba, HL2.out.1, ⟨below_step HB4.out hba, HL3.out.1, .inl ⟨rfl, ⟨⟨blk_below HG4.out hba, Kd.R_nil _ _ _ _ _, below_step HB4.out hba, HL3.out.1, rfl, fun k e => by cases e⟩, fun e => by cases e⟩, fun e => by cases e⟩⟩, HD4.out.below hba, Kd.R_nil _ _ _ _ _, fun k e => (by cases e), fun _ k e => (by cases e), newT_ok HK0.out.1 HK0.out.2⟩, below_step HW4.out hba, fun k hk => ?_⟩
 rcases hk with hk | hk | hk | (hk | ⟨_, hk | hk⟩) | hk | hk | hk
 ·rw [hk]; exact HW4.out.size
 ·rw [hk]; exact HL2.out.2
 ·rw [hk]; exact HLD.out
 ·rw [hk]; exact HL3.out.2
 ·cases hk
 ·cases hk
 ·cases hk
 ·cases hk
 ·exact HRB.out k hk
theorem cut_take (A : Option Addr) (c k : Nat) (lx : List Int) (hk : k ≤ lx.length) (hc : lx.length ≤ c) : (∀ W : World, (Instr.slice 27 (.slice A lx.length c) none (some (.int .i64 (k : Int))) none).run Tryz.prog W = .ok (.slice A (lx.take k).length c) W) := by
 have hd : (Tryz.prog.info? 5).map (fun i => i.size) = some 1 := by kernel_rfl
 obtain ⟨i_, hi_⟩ : ∃ i, Tryz.prog.info? 5 = some i := by
  have h : (Tryz.prog.info? 5).isSome = true := by kernel_rfl
  exact Option.isSome_iff_exists.1 h
 have hsz_ : i_.size = 1 := by
  rw [hi_] at hd
  exact Option.some.inj hd
 have h := (print_take_int (P := Tryz.prog) (k := .u8) 27 5 Tryz.underlying27 hi_ hsz_ A c lx (k : Int) (by omega) (by omega) hc).1
 rw [Int.toNat_natCast] at h
 exact h
theorem row_kf0 {α : Type} {kd : Kd α} {e base : Nat} {W W' : World} {F F' : Nat → Prop} {v : Value} {xs : List α} (h : kd.R e W base (fun k => ¬ F k) v xs) (hK : Kf W W' F F') : kd.R e W' base (fun k => ¬ F' k) v xs :=
 Kd.R_mono (Kd.R_step (Kd.R_bound h) (fun k hk hlt => hK.keep k hlt hk.1)) (fun k hk hf => (hK.new k hf).elim hk.1 (fun e => by have := hk.2.2.1; omega))
theorem Tn.newOut {w0 W : World} {t : Nat} {M : TM} {I : TI} (h : Tn w0 W t M I) {v1 : Value} {l1 : List Int} (hr : Kd.R (Kd.int .u8) 5 W w0.heap.size (fun _ => True) v1 l1) (hf : ∀ k, v1.ownBlock = some k → ¬ TF M I t k) (hby : ∀ x ∈ l1, 0 ≤ x ∧ x ≤ 255) : Tn w0 (W.setCell ⟨t, 6, none⟩ v1) t { M with out := l1 } { I with vo := v1 } ∧ (∀ W0, Kf W0 W (TF M I t) (TF M I t) → (∀ k, v1.ownBlock = some k → W0.heap.size ≤ k) → Kf W0 (W.setCell ⟨t, 6, none⟩ v1) (TF M I t) (TF { M with out := l1 } { I with vo := v1 } t)) := by
 refine ⟨h.setOut hr (fun k e => ⟨fun e2 => hf k e (.inr (.inr (.inr (.inr (.inl e2))))), fun ho e2 => hf k e (.inr (.inr (.inr (.inl (.inr ⟨ho, .inl e2⟩)))))⟩) hby, fun W0 hK hn => ⟨Nat.le_trans hK.size (by simp [World.setCell]), fun k hlt hnk => (Below.heap_setCell W ⟨t, 6, none⟩ v1 k (fun e => hnk (.inl e))).trans (hK.keep k hlt hnk), fun k hk => ?_⟩⟩
 rcases hk with hk | hk | hk | hk | hk | hk | hk
 ·exact hK.new k (.inl hk)
 ·exact hK.new k (.inr (.inl hk))
 ·exact hK.new k (.inr (.inr (.inl hk)))
 ·exact hK.new k (.inr (.inr (.inr (.inl hk))))
 ·exact hK.new k (.inr (.inr (.inr (.inr (.inl hk)))))
 ·exact .inr (hn k hk)
 ·exact hK.new k (.inr (.inr (.inr (.inr (.inr (.inr hk))))))
theorem tmay_ok {w0 W : World} {t : Nat} {M : TM} {I : TI} (h : Tn w0 W t M I) (hs : M.sent = false) (hca : M.cause = 0) : Calls Tryz.prog 34 #[.pointer (some ⟨t, 0, none⟩)] W (fun e w' => e = .returned (.int .i64 0) ∧ Tn w0 w' t M I ∧ Kf W w' (TF M I t) (TF M I t)) := by
 have hcb : (M.cause != 0) = false := by simp [hca]
 have H1 := a_ h
 have t5 : W.cell? ⟨t, 5, none⟩ = some (.pointer (some ⟨I.dg, 0, none⟩)) := (blk_cell h.blk 5).trans rfl
 clear h
 go_enter Tryz.func34, Tryz.ntmps34
 go_wp2_with fail
 refine (closing_Door_Sent.calls I.dg M.sent M.got M.code M.cause M.ecode M.sent M.sent M.got M.code M.cause M.ecode w0 _ H1.out.dr H1.out.bel rfl).mono ?_
 rintro e w2 ⟨rfl, hI2, hB2, hK2⟩
 obtain ⟨hT2, hK12⟩ := H1.out.setDoor hI2 hB2 hK2
 have HT2 : Aside0 (Tn w0 w2 t M I) := ⟨hT2⟩
 have HK12 : Aside0 (Kf W w2 (TF M I t) (TF M I t)) := ⟨hK12⟩
 clear hI2 hB2 hK2 hT2 hK12
 simp only [hs]
 have t5' : w2.cell? ⟨t, 5, none⟩ = some (.pointer (some ⟨I.dg, 0, none⟩)) := (blk_cell HT2.out.blk 5).trans rfl
 clear H1 t5
 have H1 := HT2
 go_wp2_with fail
 refine (closing_Door_Through.calls I.dg M.sent M.got M.code M.cause M.ecode (M.cause != 0) M.sent M.got M.code M.cause M.ecode w0 _ H1.out.dr H1.out.bel rfl).mono ?_
 rintro e w3 ⟨rfl, hI2, hB2, hK2⟩
 obtain ⟨hT3, hK23⟩ := H1.out.setDoor hI2 hB2 hK2
 have HT3 : Aside0 (Tn w0 w3 t M I) := ⟨hT3⟩
 have HK23 : Aside0 (Kf w2 w3 (TF M I t) (TF M I t)) := ⟨hK23⟩
 clear hI2 hB2 hK2 hT3 hK23
 simp only [hcb]
 go_wp2_with fail
 go_ret
 exact ⟨rfl, HT3.out, HK12.out.trans HK23.out⟩
theorem may9 {M : TM} {x : List Int} (hl : x.length ≤ 125) : mayB true 9 M.cl 0 x = true := (mayB_iff ..).2 ⟨.inr ⟨by decide, by decide⟩, .inr rfl, by omega, .inr ⟨rfl, by omega⟩⟩
theorem tping {w0 W : World} {t : Nat} {M : TM} {I : TI} (h : Tn w0 W t M I) {x : List Int} {A : Option Addr} {c : Nat} (hs : M.sent = false) (hca : M.cause = 0) (hA : Ap W (TF M I t) A x) (hc : x.length ≤ c) (hby : ∀ y ∈ x, Byte y) (hkb : M.key < 9223372036854775807) (hol : M.out.length ≤ 1000000) (hl : x.length ≤ 125 ∧ M.out.length + (putL true 9 M.cl 0 x).length ≤ 16384) : Calls Tryz.prog 18 #[.pointer (some ⟨t, 0, none⟩), .slice A x.length c] W (fun e w' => e = .returned (.int .i64 0) ∧ ∃ vo', Tn w0 w' t (putM M true 9 x) { I with vo := vo' } ∧ Kf W w' (TF M I t) (TF (putM M true 9 x) { I with vo := vo' } t)) := by
 have hu81 := Tryz.underlying81
 have HA := a_ hA
 have HC := a_ hc
 have HBY := a_ hby
 have HB := a_ (And.intro hkb hol)
 have HL := a_ hl
 have H0 := a_ h
 clear hA hc hby hkb hol hl h
 go_enter Tryz.func18, Tryz.ntmps18
 go_wp2_with fail
 refine (tmay_ok H0.out hs hca).mono ?_
 rintro e w1 ⟨rfl, hT1, hK1⟩
 have H1 := a_ hT1
 have K1 := a_ hK1
 have t0 : w1.cell? ⟨t, 0, none⟩ = some (.bool M.cl) := (blk_cell hT1.blk 0).trans rfl
 clear hT1 hK1 hs hca
 go_upto_region 5 with fail
 have hb2 : Below w1.heap.size w1 (w1.alloc (.cells #[.bool true, .int .u8 9, .bool M.cl, .int .u32 0, .slice A x.length c] 81)) := below_alloc (Below.refl _ _) _
 have hx2 : (w1.alloc (.cells #[.bool true, .int .u8 9, .bool M.cl, .int .u32 0, .slice A x.length c] 81)).heap[w1.heap.size]? = some (.cells #[.bool true, .int .u8 9, .bool M.cl, .int .u32 0, .slice A x.length c] 81 (0, 0)) := last_at _ _ _ rfl
 have H2 := a_ (H1.out.below hb2)
 have K2 := a_ (K1.out.below hb2)
 have HNP : Aside0 (¬ TF M I t w1.heap.size) := ⟨fun hh => Nat.lt_irrefl _ (H1.out.lt hh)⟩
 generalize w1.alloc (.cells #[.bool true, .int .u8 9, .bool M.cl, .int .u32 0, .slice A x.length c] 81) = w2 at hb2 hx2 H2 K2 ⊢
 generalize w1.heap.size = gp at hx2 HNP ⊢
 clear hb2 t0 H1 K1
 have HX2 := a_ hx2
 clear hx2
 obtain ⟨Ao, co, eo⟩ := Kd.R_slice H2.out.out
 obtain ⟨no, hno⟩ : ∃ n, n = M.out.length := ⟨_, rfl⟩
 rw [← hno] at eo
 have HNO := a_ hno
 have hb6 := H2.out.blk
 unfold tcells at hb6
 rw [eo] at hb6
 have c6 : w2.cell? ⟨t, 6, none⟩ = some (.slice Ao no co) := (blk_cell hb6 6).trans rfl
 have HEO := a_ eo
 clear eo hno hb6
 obtain ⟨d0, d1, d2, d3, d4⟩ := xl5_ HX2.out
 have hl2 : ¬ (125 : Int) < (x.length : Int) := by have := HL.out.1; omega
 go_upto_region 7 with fail
 refine wp_region_noPanic ?_
 refine wp_region_held_drew (S := fun w' => Aside0 (Below w2.heap.size w2 w') ∧ w'.cell? ⟨t, 6, none⟩ = some (.slice Ao no co) ∧ w'.cell? ⟨gp, 0, none⟩ = some (.bool true) ∧ w'.cell? ⟨gp, 1, none⟩ = some (.int .u8 9) ∧ w'.cell? ⟨gp, 2, none⟩ = some (.bool M.cl) ∧ w'.cell? ⟨gp, 3, none⟩ = some (.int .u32 0) ∧ w'.cell? ⟨gp, 4, none⟩ = some (.slice A x.length c)) (by kernel_rfl) (⟨⟨below_drew (Below.refl w2.heap.size w2)⟩, ((below_drew (Below.refl w2.heap.size w2)).cell (World.block_lt_of_cell? _ _ c6)).trans c6, ((below_drew (Below.refl w2.heap.size w2)).cell (World.block_lt_of_cell? _ _ d0)).trans d0, ((below_drew (Below.refl w2.heap.size w2)).cell (World.block_lt_of_cell? _ _ d1)).trans d1, ((below_drew (Below.refl w2.heap.size w2)).cell (World.block_lt_of_cell? _ _ d2)).trans d2, ((below_drew (Below.refl w2.heap.size w2)).cell (World.block_lt_of_cell? _ _ d3)).trans d3, ((below_drew (Below.refl w2.heap.size w2)).cell (World.block_lt_of_cell? _ _ d4)).trans d4⟩) (fun hHeld => ?_)
 refine takeP 0 23 ?_
 refine takeP 1 24 ?_
 refine takeP 2 25 ?_
 refine takeP 3 26 ?_
 refine takeP 4 27 ?_
 refine takeP 5 28 ?_
 refine rd1_ 6 fun K hK => ?_
 go_simp
 go_at_call 37
 with_reducible refine (wsframe_Put.calls (x.length + 10) true 9 M.cl 0 A c x (putL true 9 M.cl 0 x) _ (Ap.C (HA.out.kf (K2.out.below hHeld.1.out))) HC.out (put_f true 9 M.cl 0 x (by decide) (may9 HL.out.1) _ (Nat.le_refl _))).mono ?_
 rintro e w' ⟨v7, rfl, hr7, hb7⟩
 obtain ⟨A7, c7, rfl⟩ := Kd.R_slice hr7
 obtain ⟨nr, hnr⟩ : ∃ n, n = (putL true 9 M.cl 0 x).length := ⟨_, rfl⟩
 have HNR := a_ hnr
 rw [← hnr]
 clear hnr hr7
 have hsum : wrap64 ((no : Int) + (nr : Int)) = ((no + nr : Nat) : Int) := by have h1 := HL.out.2; have h2 := HNO.out; have h3 := HNR.out; unfold wrap64; omega
 have hsum2 : IntKind.i64.wrap ((no : Int) + (nr : Int)) = ((no + nr : Nat) : Int) := by rw [i64_w]; exact hsum
 have hle_ : ¬ (16384 : Int) < ((no + nr : Nat) : Int) := by have h1 := HL.out.2; have h2 := HNO.out; have h3 := HNR.out; omega
 refine hK.out _ _ (⟨⟨below_step hHeld.1.out hb7⟩, ((below_step hHeld.1.out hb7).cell (World.block_lt_of_cell? _ _ c6)).trans c6, ((below_step hHeld.1.out hb7).cell (World.block_lt_of_cell? _ _ d0)).trans d0, ((below_step hHeld.1.out hb7).cell (World.block_lt_of_cell? _ _ d1)).trans d1, ((below_step hHeld.1.out hb7).cell (World.block_lt_of_cell? _ _ d2)).trans d2, ((below_step hHeld.1.out hb7).cell (World.block_lt_of_cell? _ _ d3)).trans d3, ((below_step hHeld.1.out hb7).cell (World.block_lt_of_cell? _ _ d4)).trans d4⟩) (fun hHeld => ?_)
 clear hK K
 try simp only [Act.put, z1_, z2_, z3_]
 refine takeP 7 30 ?_
 refine takeP 8 31 ?_
 refine takeP 9 32 ?_
 refine takeP 10 22 ?_
 refine wpAnyH_done (by kernel_rfl) ?_ _
 refine NoPanic.normal ?_
 have HB3 := a_ hHeld.1.out
 clear hHeld c6 d0 d1 d2 d3 d4
 have H3 := a_ (H2.out.below HB3.out)
 have K3 := a_ (K2.out.below HB3.out)
 have HX3 := a_ (blk_below HX2.out HB3.out)
 clear H2 K2 HX2
 obtain ⟨d0, d1, d2, d3, d4⟩ := xl5_ HX3.out
 go_wp2_with fail
 refine (tput (fin := true) (op := 9) H3.out (HA.out.kf K3.out) HC.out HBY.out (by decide) (may8 ⟨by decide, by decide⟩ HL.out.1) (.inr rfl) HB.out.1 HB.out.2).mono ?_
 rintro e w4 ⟨rfl, vo4, hT4, hK4⟩
 have H4 := a_ hT4
 have K4 := a_ (K3.out.trans hK4)
 clear hT4 hK4 d0 d1 d2 d3 d4
 go_wp2_with fail
 go_ret
 exact ⟨rfl, _, H4.out, K4.out⟩
def outM (M : TM) (most : Int) : List Int × Bool × TM :=
 if M.ended = true then ([], false, M)
 else if M.out.drop (min (max most 1).toNat M.out.length) ≠ [] then (M.out.take (min (max most 1).toNat M.out.length), false, { M with out := M.out.drop (min (max most 1).toNat M.out.length) })
 else (M.out.take (min (max most 1).toNat M.out.length), M.cause != 0, { M with out := M.out.drop (min (max most 1).toNat M.out.length), pongs := 0, ended := M.cause != 0 })
def OutP (w0 W : World) (t : Nat) (M : TM) (I : TI) (most : Int) (e : Ending) (w' : World) : Prop := ∃ Ab cb vo', e = .returned (.tuple #[.slice Ab (outM M most).1.length cb, .bool (outM M most).2.1]) ∧ Tn w0 w' t (outM M most).2.2 { I with vo := vo' } ∧ Kf W w' (TF M I t) (TF (outM M most).2.2 { I with vo := vo' } t) ∧ Kd.R (Kd.int .u8) 5 w' w0.heap.size (fun k => ¬ TF (outM M most).2.2 { I with vo := vo' } t k) (.slice Ab (outM M most).1.length cb) (outM M most).1 ∧ ∀ k, (Value.slice Ab (outM M most).1.length cb).ownBlock = some k → W.heap.size ≤ k
theorem tout {w0 W : World} {t : Nat} {M : TM} {I : TI} (h : Tn w0 W t M I) {most : Int} (hm : -9223372036854775808 ≤ most ∧ most ≤ 9223372036854775807) (hol : M.out.length ≤ 1000000) : Calls Tryz.prog 10 #[.pointer (some ⟨t, 0, none⟩), .int .i64 most] W (OutP w0 W t M I most) := by
 have HM := a_ hm
 have HOL := a_ hol
 have H0 := a_ h
 have t8 : W.cell? ⟨t, 8, none⟩ = some (.bool M.ended) := (blk_cell h.blk 8).trans rfl
 clear hm hol h
 go_enter Tryz.func10, Tryz.ntmps10
 by_cases he : M.ended = true
 ·rw [he] at t8
  go_wp2_with fail
  have HO : outM M most = ([], false, M) := by unfold outM; rw [if_pos he]
  unfold OutP
  rw [HO]
  exact bodyPost_ret (v := .tuple #[.slice none 0 0, .bool false]) (by simp [results, Tryz.results10, go_sem]) rfl ⟨none, 0, I.vo, rfl, H0.out, Kf.refl _ _, Kd.R_nil _ _ _ _ _, fun k e => by cases e⟩
 ·have he' : M.ended = false := by simpa using he
  rw [he'] at t8
  obtain ⟨Ao, co, eo⟩ := Kd.R_slice H0.out.out
  obtain ⟨no, hno⟩ : ∃ n, n = M.out.length := ⟨_, rfl⟩
  rw [← hno] at eo
  have HNO := a_ hno
  have hb6 := H0.out.blk
  unfold tcells at hb6
  rw [eo] at hb6
  have c6 : W.cell? ⟨t, 6, none⟩ = some (.slice Ao no co) := (blk_cell hb6 6).trans rfl
  have HEO := a_ eo
  clear eo hno hb6
  obtain ⟨n, hn⟩ : ∃ n, n = min (max most 1).toNat M.out.length := ⟨_, rfl⟩
  have hnle : n ≤ M.out.length := by omega
  have hco : M.out.length ≤ co := by have h1 := H0.out.out; rw [HEO.out] at h1; have := (Kd.R_reads' h1); omega
  have hC0 : Kd.C (Kd.int .u8) W Ao M.out.length M.out := by have h1 := H0.out.out; rw [HEO.out] at h1; exact (Kd.R_reads' h1).2.2
  have hnn : (if (no : Int) < (if most < 1 then 1 else most) then (no : Int) else (if most < 1 then 1 else most)) = ((n : Nat) : Int) := by
   have h1 := HNO.out
   split <;> split <;> omega
  obtain ⟨tk, htk⟩ : ∃ tk, tk = M.out.take n := ⟨_, rfl⟩
  obtain ⟨rs, hrs⟩ : ∃ rs, rs = M.out.drop n := ⟨_, rfl⟩
  have hcT := cut_take Ao co n M.out hnle hco
  obtain ⟨A2, c2, hcD, hC2, hc2⟩ := cut_left Ao co n M.out hnle hco
  have hCt := Kd.C_take (m := n) hC0 hnle
  rw [← htk] at hcT hCt
  rw [← hrs] at hcD hC2 hc2
  have hCd := hC2 _ hC0
  rw [← HNO.out] at hcT hcD
  have HTK := a_ (And.intro (show tk.length ≤ co by rw [htk, List.length_take]; omega) (show tk.length ≤ 1000000000 by rw [htk, List.length_take]; have := HOL.out; omega))
  have HRS := a_ (And.intro (show rs.length ≤ c2 from hc2) (show rs.length ≤ 1000000000 by rw [hrs, List.length_drop]; have := HOL.out; omega))
  have HBT : Aside0 (∀ x ∈ rs, 0 ≤ x ∧ x ≤ 255) := ⟨fun x hx => H0.out.ok.obyt x (by rw [hrs] at hx; exact List.mem_of_mem_drop hx)⟩
  have HOM : Aside0 (outM M most = if rs ≠ [] then (tk, false, { M with out := rs }) else (tk, M.cause != 0, { M with out := rs, pongs := 0, ended := M.cause != 0 })) := ⟨by unfold outM; rw [if_neg he, ← hn, ← htk, ← hrs]⟩
  have HCT := a_ hCt
  have HCD := a_ hCd
  clear hnle hco hC0 htk hrs hC2 hc2 hCt hCd he hn
  go_upto_region 4 with fail
  clear hnn
  generalize (if most < 1 then (1 : Int) else most) = mx_
  go_wp2_with fail
  refine (sclone8 Ao co tk _ HCT.out HTK.out.1 HTK.out.2).mono ?_
  rintro e w1 ⟨vb, rfl, hrb, hb1⟩
  obtain ⟨Ab, cb, rfl⟩ := Kd.R_slice hrb
  have H1 := a_ (H0.out.below hb1)
  have K1 := a_ ((Kf.refl W (TF M I t)).below hb1)
  have HLB := a_ (And.intro (Kd.R_base hrb) (Kd.R_lt hrb))
  have HRB := a_ (Kd.R_lower hrb H0.out.bel.size)
  have HCD1 := a_ (Kd.C_below HCD.out hb1)
  have HFL : Aside0 (∀ k, TF M I t k → k < W.heap.size) := ⟨fun k hk => H0.out.lt hk⟩
  have HS1 := a_ hb1.size
  have c6' : w1.cell? ⟨t, 6, none⟩ = some (.slice Ao no co) := (hb1.cell (World.block_lt_of_cell? _ _ c6)).trans c6
  clear hrb hb1 HCT HCD c6 t8
  go_wp2_with fail
  refine (sclone8 A2 c2 rs _ HCD1.out HRS.out.1 HRS.out.2).mono ?_
  rintro e w2 ⟨vr, rfl, hrr, hb2⟩
  obtain ⟨Ar, cr, rfl⟩ := Kd.R_slice hrr
  have H2 := a_ (H1.out.below hb2)
  have K2 := a_ (K1.out.below hb2)
  have HLR := a_ (Kd.R_base hrr)
  have HRB2 := a_ (Kd.R_below HRB.out hb2)
  obtain ⟨hT3, hK3⟩ := H2.out.newOut (Kd.R_lower hrr H1.out.bel.size) (fun k e hk => by have h1 := HFL.out k hk; have h2 := HLR.out k e; have := HS1.out; omega) HBT.out
  have H3 := a_ hT3
  have K3 := a_ (hK3 W K2.out (fun k e => by have h2 := HLR.out k e; have := HS1.out; omega))
  have HRB3 : Aside0 (Kd.R (Kd.int .u8) 5 (w2.setCell ⟨t, 6, none⟩ (.slice Ar rs.length cr)) w0.heap.size (fun k => ¬ TF { M with out := rs } { I with vo := .slice Ar rs.length cr } t k) (.slice Ab tk.length cb) tk) := ⟨(row_ok (row_keep (W' := w2.setCell ⟨t, 6, none⟩ (.slice Ar rs.length cr)) HRB2.out (fun k e => Below.heap_setCell w2 ⟨t, 6, none⟩ _ k (row_at_ne (d := 0) HRB2.out H2.out.blk (by decide) e))) (fun k e (hk : TF { M with out := rs } { I with vo := .slice Ar rs.length cr } t k) => by
   have h1 := HLB.out.1 k e
   have h2 := HLB.out.2 k e
   rcases hk with hk | hk | hk | hk | hk | hk | hk
   ·have := HFL.out k (.inl hk); omega
   ·have := HFL.out k (.inr (.inl hk)); omega
   ·have := HFL.out k (.inr (.inr (.inl hk))); omega
   ·have := HFL.out k (.inr (.inr (.inr (.inl hk)))); omega
   ·have := HFL.out k (.inr (.inr (.inr (.inr (.inl hk))))); omega
   ·have := HLR.out k hk; omega
   ·have := HFL.out k (.inr (.inr (.inr (.inr (.inr (.inr hk)))))); omega))⟩
  have c6 : w2.cell? ⟨t, 6, none⟩ = some (.slice Ao no co) := (hb2.cell (World.block_lt_of_cell? _ _ c6')).trans c6'
  have cf6 := blk_frozen H2.out.blk 6
  have cl6 := blk_lt H2.out.blk
  clear hT3 hK3 hrr hb2 c6' H1 K1
  go_upto_region 6 with fail
  generalize w2.setCell ⟨t, 6, none⟩ (.slice Ar rs.length cr) = w3 at H3 K3 HRB3 ⊢
  clear c6 cf6 cl6 hcT hcD
  have c6 : w3.cell? ⟨t, 6, none⟩ = some (.slice Ar rs.length cr) := (blk_cell H3.out.blk 6).trans rfl
  by_cases hre : rs = []
  ·have hrl : ¬ (0 : Int) < (rs.length : Int) := by rw [hre]; decide
   have HRE := a_ hre
   clear hre
   obtain ⟨-, -, -, -, -, -, -, -, -, -, -, -, -, -, c7, cf7⟩ := xf8_ H3.out.blk
   have cl7 := blk_lt H3.out.blk
   have hS4 := H3.out.set (M' := { M with out := rs, pongs := 0 }) 7 (.int .i64 0) rfl rfl rfl { H3.out.ok with pong := ⟨Int.le_refl _, by show (0 : Int) ≤ 16; decide⟩ }
   have hne : ∀ k, k ≠ t → (w3.setCell ⟨t, 7, none⟩ (.int .i64 0)).heap[k]? = w3.heap[k]? := fun k e => Below.heap_setCell w3 ⟨t, 7, none⟩ _ k e
   have H4 := a_ hS4
   have K4 : Aside0 (Kf W (w3.setCell ⟨t, 7, none⟩ (.int .i64 0)) (TF M I t) (TF { M with out := rs, pongs := 0 } { I with vo := .slice Ar rs.length cr } t)) := ⟨⟨Nat.le_trans K3.out.size (by simp [World.setCell]), fun k hlt hn => (hne k (fun e => hn (.inl e))).trans (K3.out.keep k hlt hn), K3.out.new⟩⟩
   have HRB4 := a_ (row_ok (row_keep (W' := w3.setCell ⟨t, 7, none⟩ (.int .i64 0)) HRB3.out (fun k e => hne k (row_at_ne (d := 0) HRB3.out H3.out.blk (by decide) e))) (fun k e => HRB3.out.1 k e))
   clear hS4 hne
   go_upto_region 9 with fail
   generalize w3.setCell ⟨t, 7, none⟩ (.int .i64 0) = w4 at H4 K4 HRB4 ⊢
   clear c6 c7 cf7 cl7 hrl
   have t5 : w4.cell? ⟨t, 5, none⟩ = some (.pointer (some ⟨I.dg, 0, none⟩)) := (blk_cell H4.out.blk 5).trans rfl
   go_wp2_with fail
   refine (closing_Door_Through.calls I.dg M.sent M.got M.code M.cause M.ecode (M.cause != 0) M.sent M.got M.code M.cause M.ecode w0 _ H4.out.dr H4.out.bel rfl).mono ?_
   rintro e w5 ⟨rfl, hI2, hB2, hK2⟩
   obtain ⟨hT5, hK45⟩ := H4.out.setDoor hI2 hB2 hK2
   have H5 : Aside0 (Tn w0 w5 t { M with out := rs, pongs := 0 } { I with vo := .slice Ar rs.length cr }) := ⟨hT5⟩
   have K5 : Aside0 (Kf W w5 (TF M I t) (TF { M with out := rs, pongs := 0 } { I with vo := .slice Ar rs.length cr } t)) := ⟨K4.out.trans hK45⟩
   have HRB5 : Aside0 (Kd.R (Kd.int .u8) 5 w5 w0.heap.size (fun k => ¬ TF { M with out := rs, pongs := 0 } { I with vo := .slice Ar rs.length cr } t k) (.slice Ab tk.length cb) tk) := ⟨row_kf0 HRB4.out hK45⟩
   obtain ⟨en, hen⟩ : ∃ en, en = (M.cause != 0) := ⟨_, rfl⟩
   rw [← hen] at HOM ⊢
   clear hT5 hI2 hB2 hK2 hK45 t5 hen
   obtain ⟨-, -, -, -, -, -, -, -, -, -, -, -, -, -, -, -, c8, cf8⟩ := xf9_ H5.out.blk
   have cl8 := blk_lt H5.out.blk
   have hS6 := H5.out.set (M' := { M with out := rs, pongs := 0, ended := en }) 8 (.bool en) rfl rfl rfl { H5.out.ok with }
   have hne : ∀ k, k ≠ t → (w5.setCell ⟨t, 8, none⟩ (.bool en)).heap[k]? = w5.heap[k]? := fun k e => Below.heap_setCell w5 ⟨t, 8, none⟩ _ k e
   have H6 := a_ hS6
   have K6 : Aside0 (Kf W (w5.setCell ⟨t, 8, none⟩ (.bool en)) (TF M I t) (TF { M with out := rs, pongs := 0, ended := en } { I with vo := .slice Ar rs.length cr } t)) := ⟨⟨Nat.le_trans K5.out.size (by simp [World.setCell]), fun k hlt hn => (hne k (fun e => hn (.inl e))).trans (K5.out.keep k hlt hn), K5.out.new⟩⟩
   have HRB6 := a_ (row_ok (row_keep (W' := w5.setCell ⟨t, 8, none⟩ (.bool en)) HRB5.out (fun k e => hne k (row_at_ne (d := 0) HRB5.out H5.out.blk (by decide) e))) (fun k e => HRB5.out.1 k e))
   clear hS6 hne
   go_upto_region 10 with fail
   generalize w5.setCell ⟨t, 8, none⟩ (.bool en) = w6 at H6 K6 HRB6 ⊢
   clear c8 cf8 cl8
   have c8 : w6.cell? ⟨t, 8, none⟩ = some (.bool en) := (blk_cell H6.out.blk 8).trans rfl
   refine wp_region_noPanic ?_
   refine wp_region_held_drew (S := fun w' => Aside0 (w6.drew = w') ∧ w'.cell? ⟨t, 8, none⟩ = some (.bool en)) (by kernel_rfl) (⟨⟨rfl⟩, c8⟩) (fun hHeld => ?_)
   refine takeP 0 59 ?_
   refine takeP 1 60 ?_
   refine takeP 2 61 ?_
   refine takeP 3 62 ?_
   refine takeP 4 63 ?_
   refine takeP 5 4 ?_
   refine takeP 6 5 ?_
   refine wpAnyH_done (by kernel_rfl) ?_ _
   refine NoPanic.normal ?_
   clear hHeld c8
   go_wp2_with fail
   have HO : outM M most = (tk, en, { M with out := rs, pongs := 0, ended := en }) := by rw [HOM.out, if_neg (by rw [HRE.out]; simp)]
   unfold OutP
   rw [HO]
   exact bodyPost_ret (v := .tuple #[.slice Ab tk.length cb, .bool en]) (by simp [results, Tryz.results10, go_sem]) rfl ⟨Ab, cb, _, rfl, H6.out.below (below_drew (Below.refl _ _)), K6.out.below (below_drew (Below.refl _ _)), Kd.R_drew HRB6.out, HLB.out.1⟩
  ·have hrl : (0 : Int) < (rs.length : Int) := by
    rcases Nat.eq_zero_or_pos rs.length with h | h
    ·exact absurd (List.length_eq_zero_iff.1 h) hre
    ·omega
   have HRE := a_ hre
   clear hre
   go_wp2_with fail
   have HO : outM M most = (tk, false, { M with out := rs }) := by rw [HOM.out, if_pos HRE.out]
   unfold OutP
   rw [HO]
   exact bodyPost_ret (v := .tuple #[.slice Ab tk.length cb, .bool false]) (by simp [results, Tryz.results10, go_sem]) rfl ⟨Ab, cb, _, rfl, H3.out, K3.out, HRB3.out, HLB.out.1⟩
def sendAll (M : TM) (ps : List Pc) : TM := ps.foldl (fun M p => putM M p.f0 p.f1 p.f4) M
theorem sendAll_snoc (M : TM) (ps : List Pc) (p : Pc) : sendAll M (ps ++ [p]) = putM (sendAll M ps) p.f0 p.f1 p.f4 := by unfold sendAll; rw [List.foldl_append]; rfl
def sumLen (cl : Bool) (ps : List Pc) : Nat := (ps.map fun p => (putL p.f0 p.f1 cl 0 p.f4).length).sum
theorem sumLen_snoc (cl : Bool) (ps : List Pc) (p : Pc) : sumLen cl (ps ++ [p]) = sumLen cl ps + (putL p.f0 p.f1 cl 0 p.f4).length := by unfold sumLen; rw [List.map_append, List.sum_append]; simp
theorem sumLen_take (cl : Bool) : ∀ (ps : List Pc) (k : Nat), sumLen cl (ps.take k) ≤ sumLen cl ps
 | [], k => by rw [List.take_nil]; exact Nat.le_refl _
 | p :: ps, 0 => Nat.zero_le _
 | p :: ps, k + 1 => by
  have := sumLen_take cl ps k
  show (putL p.f0 p.f1 cl 0 p.f4).length + sumLen cl (ps.take k) ≤ (putL p.f0 p.f1 cl 0 p.f4).length + sumLen cl ps
  omega
theorem putL_keyless (fin : Bool) (op : Int) (mk : Bool) (k1 k2 : Int) (d : List Int) : (putL fin op mk k1 d).length = (putL fin op mk k2 d).length := by
 unfold putL
 cases mk with
 | true =>
  have h : ∀ k, (PAll.keyOf k ++ turned d k).length = 4 + d.length := fun k => by rw [List.length_append, turned_len]; rfl
  simp only [if_true, List.length_cons, List.length_append, turned_len]
  rfl
 | false => rfl
theorem sendAll_fix (M : TM) : ∀ ps : List Pc, (sendAll M ps).cl = M.cl ∧ (sendAll M ps).keys = M.keys ∧ (sendAll M ps).sent = M.sent ∧ (sendAll M ps).cause = M.cause ∧ (sendAll M ps).key ≤ M.key + ps.length ∧ (sendAll M ps).out.length = M.out.length + sumLen M.cl ps := by
 intro ps
 induction ps generalizing M with
 | nil => exact ⟨rfl, rfl, rfl, rfl, by show M.key ≤ M.key + 0; omega, rfl⟩
 | cons p ps ih =>
  obtain ⟨h1, h2, h3, h4, h5, h6⟩ := ih (putM M p.f0 p.f1 p.f4)
  have hk : (putM M p.f0 p.f1 p.f4).key ≤ M.key + 1 := by
   show TM.key' _ ≤ _
   unfold TM.key'
   split
   ·split <;> omega
   ·omega
  have ho : (putM M p.f0 p.f1 p.f4).out.length = M.out.length + (putL p.f0 p.f1 M.cl 0 p.f4).length := by
   show (M.out ++ putL p.f0 p.f1 M.cl M.nkey p.f4).length = _
   rw [List.length_append, putL_keyless p.f0 p.f1 M.cl M.nkey 0 p.f4]
  refine ⟨h1, h2, h3, h4, ?_, ?_⟩
  ·show (sendAll (putM M p.f0 p.f1 p.f4) ps).key ≤ M.key + ((ps.length + 1 : Nat) : Int)
   omega
  ·show (sendAll (putM M p.f0 p.f1 p.f4) ps).out.length = M.out.length + ((putL p.f0 p.f1 M.cl 0 p.f4).length + sumLen M.cl ps)
   rw [h6, ho]
   show _ + sumLen M.cl ps = _
   omega
theorem putL_le8 (fin : Bool) (op : Int) (cl : Bool) (d : List Int) : (putL fin op cl 0 d).length ≤ d.length + 8 := by
 have hk : (PAll.keyOf 0).length = 4 := rfl
 have h2 : (if d.length < 126 then ([] : List Int) else [(d.length : Int) / 256 % 256, (d.length : Int) % 256]).length ≤ 2 := by split <;> simp
 unfold putL
 cases cl with
 | true =>
  simp only [List.length_cons, if_true, List.length_append, turned_len]
  omega
 | false =>
  simp only [List.length_cons, Bool.false_eq_true, if_false, List.length_append]
  omega
theorem sumLen_le (cl : Bool) : ∀ ps : List Pc, (∀ p ∈ ps, p.f4.length ≤ 4096) → sumLen cl ps ≤ 4104 * ps.length
 | [], _ => Nat.le_refl _
 | p :: ps, h => by
  have h1 := sumLen_le cl ps (fun q hq => h q (List.mem_cons_of_mem _ hq))
  have h2 := putL_le8 p.f0 p.f1 cl p.f4
  have h3 := h p List.mem_cons_self
  show (putL p.f0 p.f1 cl 0 p.f4).length + sumLen cl ps ≤ 4104 * (ps.length + 1)
  omega
structure SnP (ps : List Pc) : Prop where
 op : ∀ p ∈ ps, 0 ≤ p.f1 ∧ p.f1 ≤ 2
 msk : ∀ p ∈ ps, p.f2 = false
 key : ∀ p ∈ ps, p.f3 = 0
 len : ∀ p ∈ ps, p.f4.length ≤ 4096
theorem CutP.snp {M : Nat} {op : Int} {b : List Int} {ps : List Pm} (h : CutP M op b ps) (hM : M ≤ 4096) (ho : 0 ≤ op ∧ op ≤ 2) : SnP ps := by
 induction h with
 | last hl => exact ⟨fun p hp => by rw [List.mem_singleton.1 hp]; exact ho, fun p hp => by rw [List.mem_singleton.1 hp], fun p hp => by rw [List.mem_singleton.1 hp], fun p hp => by rw [List.mem_singleton.1 hp]; exact Nat.le_trans hl hM⟩
 | more hl hc ih =>
  have ih := ih ⟨by decide, by decide⟩
  refine ⟨fun p hp => ?_, fun p hp => ?_, fun p hp => ?_, fun p hp => ?_⟩
  ·rcases List.mem_cons.1 hp with rfl | hp
   ·exact ho
   ·exact ih.op p hp
  ·rcases List.mem_cons.1 hp with rfl | hp
   ·rfl
   ·exact ih.msk p hp
  ·rcases List.mem_cons.1 hp with rfl | hp
   ·rfl
   ·exact ih.key p hp
  ·rcases List.mem_cons.1 hp with rfl | hp
   ·show (List.take M _).length ≤ 4096
    rw [List.length_take]; omega
   ·exact ih.len p hp
theorem CutP.data {M : Nat} {op : Int} {b : List Int} {ps : List Pm} (h : CutP M op b ps) (hb : ∀ x ∈ b, Byte x) : ∀ p ∈ ps, ∀ x ∈ p.f4, Byte x := by
 induction h with
 | last hl => exact fun p hp => by rw [List.mem_singleton.1 hp]; exact hb
 | more hl hc ih =>
  intro p hp
  rcases List.mem_cons.1 hp with rfl | hp
  ·exact fun x hx => hb x (List.mem_of_mem_take hx)
  ·exact ih (fun x hx => hb x (List.mem_of_mem_drop hx)) p hp
theorem mayS {p : Pc} (ho : 0 ≤ p.f1 ∧ p.f1 ≤ 2) (hl : p.f4.length ≤ 4096) (cl : Bool) (k : Int) (hk : cl = true ∨ k = 0) : mayB p.f0 p.f1 cl k p.f4 = true := (mayB_iff ..).2 ⟨.inl ho.2, hk, by omega, .inl (by omega)⟩
theorem nkey_zero (M : TM) : M.cl = true ∨ M.nkey = 0 := by
 unfold TM.nkey
 cases M.cl with
 | true => exact .inl rfl
 | false => exact .inr rfl
def SzR (w0 W : World) (cl : Bool) (ps : List Pc) (Ap_ : Option Addr) (cp : Nat) (t : Nat) (M : TM) (I : TI) (mu : Nat) (sv iv : Value) (wr : World) : Prop := ∃ i : Nat, iv = .int .i64 (i : Nat) ∧ sv = .int .i64 ((sumLen cl (ps.take i) : Nat) : Int) ∧ i + mu = ps.length ∧ Below W.heap.size W wr
def SdR (w0 W : World) (ps : List Pc) (Ap_ : Option Addr) (cp : Nat) (t : Nat) (M : TM) (I : TI) (mu : Nat) (iv : Value) (wr : World) : Prop := ∃ (i : Nat) (vo : Value), iv = .int .i64 (i : Nat) ∧ i + mu = ps.length ∧ Tn w0 wr t (sendAll M (ps.take i)) { I with vo := vo } ∧ Kf W wr (TF M I t) (TF (sendAll M (ps.take i)) { I with vo := vo } t) ∧ Kd.R k81 81 wr w0.heap.size (fun k => ¬ TF (sendAll M (ps.take i)) { I with vo := vo } t k) (.slice Ap_ ps.length cp) ps
theorem tsendG {w0 W : World} {t : Nat} {M : TM} {I : TI} (h : Tn w0 W t M I) {b : List Int} {A : Option Addr} {c : Nat} {most : Int} (hs : M.sent = false) (hca : M.cause = 0) (hA : Ap W (TF M I t) A b) (hc : b.length ≤ c) (hbb : ∀ x ∈ b, Byte x) (hlb : b.length ≤ 4096) (hkb : M.key < 9223372036854000000) (hol : M.out.length ≤ 100000) : Calls Tryz.prog 9 #[.pointer (some ⟨t, 0, none⟩), .bool false, .slice A b.length c, .int .i64 most] W (fun e w' => ∃ ps, CutP (mostC most) 2 b ps ∧ ((M.out.length + sumLen M.cl ps ≤ 16384 ∧ e = .returned (.int .i64 0) ∧ ∃ vo', Tn w0 w' t (sendAll M ps) { I with vo := vo' } ∧ Kf W w' (TF M I t) (TF (sendAll M ps) { I with vo := vo' } t)) ∨ (16384 < M.out.length + sumLen M.cl ps ∧ e = .returned (.int .i64 8) ∧ Tn w0 w' t M I ∧ Kf W w' (TF M I t) (TF M I t)))) := by
 have hu81 := Tryz.underlying81
 have HBB := a_ hbb
 have HA := a_ hA
 have HC := a_ hc
 have HLB := a_ hlb
 have HKB := a_ (And.intro hkb hol)
 have H0 := a_ h
 clear hbb hA hc hlb hkb hol h
 go_enter Tryz.func9, Tryz.ntmps9
 go_wp2_with fail
 refine (tmay_ok H0.out hs hca).mono ?_
 rintro e w1 ⟨rfl, hT1, hK1⟩
 have H1 := a_ hT1
 have K1 := a_ hK1
 clear hT1 hK1 hs hca
 have hlb2 : ¬ (4096 : Int) < (b.length : Int) := by have := HLB.out; omega
 go_wp2_with fail
 refine (cut_any false A c b most _ (Ap.C (HA.out.kf K1.out)) HC.out (by have := HLB.out; omega)).mono ?_
 rintro e w2 ⟨pv, ps, rfl, hcp, hpl, hR, hb2⟩
 obtain ⟨Ap_, cp, rfl⟩ := Kd.R_slice hR
 have HCP := a_ hcp
 have HPL := a_ hpl
 have H2 := a_ (H1.out.below hb2)
 have K2 := a_ (K1.out.below hb2)
 have HLO := a_ (fun k (hk : TF M I t k) => H1.out.lt hk)
 have HR2 : Aside0 (Kd.R k81 81 w2 w0.heap.size (fun k => ¬ TF M I t k) (.slice Ap_ ps.length cp) ps) := ⟨Kd.R_mono (Kd.R_bound (Kd.R_lower hR (Nat.le_refl _))) (fun k hk hf => by have := HLO.out k hf; have := hk.2.1; omega) |> fun h => Kd.R_lower h H1.out.bel.size⟩
 have HSN := a_ (hcp.snp (mostC_pos most).2 (by decide))
 have HDB := a_ (hcp.data HBB.out)
 have HSL : Aside0 (sumLen M.cl ps ≤ 20000000) := ⟨by
  have h1 := sumLen_le M.cl ps HSN.out.len
  have h2 := hpl
  have h3 := HLB.out
  omega⟩
 clear hcp hpl hR hb2 hlb2 H1 K1
 go_wp2_with fail
 go_loopg [11, 38] ps.length (fun mu sv iv wr => SzR w0 w2 M.cl ps Ap_ cp t M I mu sv iv wr)
 case atStart => exact ⟨0, rfl, rfl, by omega, Below.refl _ _⟩
 case round =>
  obtain ⟨i, rfl, rfl, hi, hbr⟩ := hrel
  have HI := a_ hi
  have HBR := a_ hbr
  clear hi hbr
  by_cases hlt : i < ps.length
  ·have hRr := Kd.R_below HR2.out HBR.out
   obtain ⟨gp, A4, c4, rfl, e0, e1, e2, e3, e4, hR4⟩ := row_at hRr i hlt
   obtain ⟨p, hp⟩ : ∃ p, p = ps[i] := ⟨_, rfl⟩
   have hpm : p ∈ ps := hp ▸ List.getElem_mem hlt
   have hsn : sumLen M.cl (ps.take (i + 1)) = sumLen M.cl (ps.take i) + (putL p.f0 p.f1 M.cl 0 p.f4).length := by rw [List.take_add_one, List.getElem?_eq_getElem hlt, ← hp]; exact sumLen_snoc ..
   have htot := sumLen_take M.cl ps (i + 1)
   have hbd := HSL.out
   rw [← hp] at e0 e1 e2 e3 e4 hR4
   rw [HSN.out.msk p hpm] at e2
   rw [HSN.out.key p hpm] at e3
   have HOP := a_ (HSN.out.op p hpm)
   have HLN := a_ (HSN.out.len p hpm)
   have hR4 := a_ hR4
   obtain ⟨s, hs⟩ : ∃ s, s = sumLen M.cl (ps.take i) := ⟨_, rfl⟩
   obtain ⟨nr, hnr⟩ : ∃ n, n = (putL p.f0 p.f1 M.cl 0 p.f4).length := ⟨_, rfl⟩
   rw [← hs, ← hnr] at hsn
   rw [← hs]
   have hsum : wrap64 ((s : Int) + (nr : Int)) = ((s + nr : Nat) : Int) := by unfold wrap64; omega
   have hsum2 : IntKind.i64.wrap ((s : Int) + (nr : Int)) = ((s + nr : Nat) : Int) := by rw [i64_w]; exact hsum
   have HSM := a_ hsn
   have HNR := a_ hnr
   have hip : (0 : Int) ≤ (i : Int) := by omega
   have hlti : (i : Int) < (ps.length : Int) := by omega
   have HII := a_ (show ((i + 1 : Nat) : Int) = (i : Int) + 1 by omega)
   have hi9 : ps.length ≤ 100000 := by have := HPL.out; omega
   have t0 : wr.cell? ⟨t, 0, none⟩ = some (.bool M.cl) := (blk_cell (H2.out.below HBR.out).blk 0).trans rfl
   clear hRr hp hpm hsn htot hbd hs hnr
   go_upto_region 13 with fail
   have hb3 : Below wr.heap.size wr (wr.alloc (.cells #[.bool p.f0, .int .u8 p.f1, .bool false, .int .u32 0, .slice A4 p.f4.length c4] 81)) := below_alloc (Below.refl _ _) _
   have hx3 : (wr.alloc (.cells #[.bool p.f0, .int .u8 p.f1, .bool false, .int .u32 0, .slice A4 p.f4.length c4] 81)).heap[wr.heap.size]? = some (.cells #[.bool p.f0, .int .u8 p.f1, .bool false, .int .u32 0, .slice A4 p.f4.length c4] 81 (0, 0)) := last_at _ _ _ rfl
   have hgb : t < wr.heap.size := blk_lt (H2.out.below HBR.out).blk
   have t0 := (hb3.cell (World.block_lt_of_cell? _ _ t0)).trans t0
   have tf0 := blk_frozen (H2.out.below (below_step HBR.out hb3)).blk 0
   have tl_ := blk_lt (H2.out.below (below_step HBR.out hb3)).blk
   generalize wr.alloc (.cells #[.bool p.f0, .int .u8 p.f1, .bool false, .int .u32 0, .slice A4 p.f4.length c4] 81) = w3 at hb3 hx3 t0 tf0 tl_ ⊢
   obtain ⟨gb, hge⟩ : ∃ g, g = wr.heap.size := ⟨_, rfl⟩
   rw [← hge] at hx3 ⊢
   have HGE := a_ hge
   clear hge
   have HB3 := a_ hb3
   have HX3 := a_ hx3
   obtain ⟨-, -, -, -, d2, df2⟩ := xf3_ hx3
   have dl_ := blk_lt hx3
   clear hb3 hx3 e0 e1 e2 e3 e4
   go_upto_region 14 with fail
   have hb4 : Below wr.heap.size wr (w3.setCell ⟨gb, 2, none⟩ (.bool M.cl)) := Below.setCell HB3.out (by rw [HGE.out]; exact Nat.le_refl _) _
   have hx4 : (w3.setCell ⟨gb, 2, none⟩ (.bool M.cl)).heap[gb]? = some (.cells #[.bool p.f0, .int .u8 p.f1, .bool M.cl, .int .u32 0, .slice A4 p.f4.length c4] 81 (0, 0)) := blk_put HX3.out 2 _ rfl
   generalize w3.setCell ⟨gb, 2, none⟩ (.bool M.cl) = w4 at hb4 hx4 ⊢
   clear HB3 HX3 d2 df2 dl_ t0 tf0 tl_ HGE hgb
   have HB4 := a_ hb4
   have HX4 := a_ hx4
   obtain ⟨d0, d1, d2, d3, d4⟩ := xl5_ HX4.out
   clear hb4 hx4
   go_wp2_with fail
   refine (wsframe_Put.calls (p.f4.length + 10) p.f0 p.f1 M.cl 0 A4 c4 p.f4 (putL p.f0 p.f1 M.cl 0 p.f4) _ (Kd.R_reads' (Kd.R_below hR4.out HB4.out)).2.2 (Kd.R_reads' hR4.out).2.1 (put_f p.f0 p.f1 M.cl 0 p.f4 HOP.out.1 (mayS HOP.out HLN.out M.cl 0 (.inr rfl)) _ (Nat.le_refl _))).mono ?_
   rintro e w5 ⟨v7, rfl, hr7, hb5⟩
   obtain ⟨A7, c7, rfl⟩ := Kd.R_slice hr7
   rw [← HNR.out]
   have HB5 := a_ hb5
   clear hr7 hb5 d0 d1 d2 d3 d4
   go_wp2_with fail
   go_roundg (ps.length - (i + 1))
   case measure => have := HI.out; omega
   case rel => exact ⟨i + 1, by rw [HII.out], by rw [HSM.out, Int.natCast_add], (by have := HI.out; omega), below_step HBR.out (below_step HB4.out HB5.out)⟩
  ·have hlti : ¬ (i : Int) < (ps.length : Int) := by omega
   have hie : ps.take i = ps := List.take_of_length_le (by omega)
   rw [hie]
   have hbd := HSL.out
   obtain ⟨s, hs⟩ : ∃ s, s = sumLen M.cl ps := ⟨_, rfl⟩
   rw [← hs] at hbd ⊢
   have H3 := a_ (H2.out.below HBR.out)
   have K3 := a_ (K2.out.below HBR.out)
   have HR3 := a_ (Kd.R_below HR2.out HBR.out)
   obtain ⟨Ao, co, eo⟩ := Kd.R_slice H3.out.out
   obtain ⟨no, hno⟩ : ∃ n, n = M.out.length := ⟨_, rfl⟩
   rw [← hno] at eo
   have HNO := a_ hno
   have hb6 := H3.out.blk
   unfold tcells at hb6
   rw [eo] at hb6
   have c6 : wr.cell? ⟨t, 6, none⟩ = some (.slice Ao no co) := (blk_cell hb6 6).trans rfl
   have hnb : no ≤ 100000 := by have := HKB.out.2; omega
   have hsum : wrap64 ((no : Int) + (s : Int)) = ((no + s : Nat) : Int) := by unfold wrap64; omega
   have hsum2 : IntKind.i64.wrap ((no : Int) + (s : Int)) = ((no + s : Nat) : Int) := by rw [i64_w]; exact hsum
   have HBD := a_ hbd
   have HSS := a_ hs
   clear H2 K2 HR2 HBR HI hie hs eo hno hb6 hbd hnb
   by_cases hfull : 16384 < no + s
   ·have hle_ : (16384 : Int) < ((no + s : Nat) : Int) := by omega
    have HFU := a_ hfull
    clear hfull
    go_wp2_with fail
    go_ret
    refine ⟨ps, HCP.out, .inr ⟨?_, rfl, H3.out, K3.out⟩⟩
    rw [← HNO.out, ← HSS.out]
    exact HFU.out
   ·have hle_ : ¬ (16384 : Int) < ((no + s : Nat) : Int) := by omega
    have HFU := a_ hfull
    clear hfull
    go_wp2_with fail
    have HR3 : Aside0 (Kd.R k81 81 wr w0.heap.size (fun k => ¬ TF (sendAll M (ps.take 0)) { I with vo := I.vo } t k) (.slice Ap_ ps.length cp) ps) := HR3
    go_loopg [63] ps.length (fun mu iv wz => SdR w0 wr ps Ap_ cp t M I mu iv wz)
    case atStart => exact ⟨0, I.vo, rfl, by omega, H3.out, Kf.refl _ _, HR3.out⟩
    case round =>
     obtain ⟨i, vo, rfl, hi, hT, hK, hR⟩ := hrel
     obtain ⟨N, hN⟩ : ∃ N, N = sendAll M (ps.take i) := ⟨_, rfl⟩
     have hfx := sendAll_fix M (ps.take i)
     have htk := sumLen_take M.cl ps i
     have hbd := HBD.out
     rw [← hN] at hT hK hR hfx
     obtain ⟨f1, f2, f3, f4, f5, f6⟩ := hfx
     have hkl : (ps.take i).length ≤ ps.length := by rw [List.length_take]; omega
     have hkey : N.key < 9223372036854775807 := by have := HKB.out.1; have := HPL.out; have := HLB.out; omega
     have hol : N.out.length ≤ 1000000 := by have := HNO.out; have := HSS.out; have := HFU.out; omega
     have HI := a_ hi
     have HN := a_ hN
     have HT := a_ hT
     have HK := a_ hK
     have HR := a_ hR
     have HKO := a_ (And.intro hkey hol)
     clear hi hN hT hK hR f1 f2 f3 f4 f5 f6 hkl hkey hol htk hbd
     by_cases hlt : i < ps.length
     ·obtain ⟨gp, A4, c4, rfl, e0, e1, e2, e3, e4, hR4⟩ := row_at HR.out i hlt
      obtain ⟨p, hp⟩ : ∃ p, p = ps[i] := ⟨_, rfl⟩
      have hpm : p ∈ ps := hp ▸ List.getElem_mem hlt
      have hsn : sendAll M (ps.take (i + 1)) = putM N p.f0 p.f1 p.f4 := by rw [List.take_add_one, List.getElem?_eq_getElem hlt, ← hp, HN.out]; exact sendAll_snoc ..
      rw [← hp] at e0 e1 e2 e3 e4 hR4
      rw [HSN.out.msk p hpm] at e2
      rw [HSN.out.key p hpm] at e3
      have HOP := a_ (HSN.out.op p hpm)
      have HLN := a_ (HSN.out.len p hpm)
      have HDT := a_ (HDB.out p hpm)
      have HR4 := a_ hR4
      have HSM := a_ hsn
      have hip : (0 : Int) ≤ (i : Int) := by omega
      have hlti : (i : Int) < (ps.length : Int) := by omega
      have HII := a_ (show ((i + 1 : Nat) : Int) = (i : Int) + 1 by omega)
      have hi9 : ps.length ≤ 100000 := by have := HPL.out; have := HLB.out; omega
      clear hp hpm hsn hR4
      go_upto_region 21 with fail
      have hb3 : Below wr.heap.size wr (wr.alloc (.cells #[.bool p.f0, .int .u8 p.f1, .bool false, .int .u32 0, .slice A4 p.f4.length c4] 81)) := below_alloc (Below.refl _ _) _
      have hx3 : (wr.alloc (.cells #[.bool p.f0, .int .u8 p.f1, .bool false, .int .u32 0, .slice A4 p.f4.length c4] 81)).heap[wr.heap.size]? = some (.cells #[.bool p.f0, .int .u8 p.f1, .bool false, .int .u32 0, .slice A4 p.f4.length c4] 81 (0, 0)) := last_at _ _ _ rfl
      generalize wr.alloc (.cells #[.bool p.f0, .int .u8 p.f1, .bool false, .int .u32 0, .slice A4 p.f4.length c4] 81) = w3 at hb3 hx3 ⊢
      generalize wr.heap.size = gb at hx3 ⊢
      have HB3 := a_ hb3
      obtain ⟨d0, d1, d2, d3, d4⟩ := xl5_ hx3
      clear hb3 hx3 e0 e1 e2 e3 e4
      go_wp2_with fail
      refine (tput (fin := p.f0) (op := p.f1) (HT.out.below HB3.out) (Ap.of_row (Kd.R_below HR4.out HB3.out) (fun k e => HR4.out.1 k e)) (Kd.R_reads' HR4.out).2.1 HDT.out HOP.out.1 (mayS HOP.out HLN.out N.cl N.nkey (nkey_zero N)) (.inl rfl) HKO.out.1 HKO.out.2).mono ?_
      rintro e w4 ⟨rfl, vo4, hT4, hK4⟩
      have HT4 := a_ hT4
      have HK4 := a_ hK4
      clear hT4 hK4 d0 d1 d2 d3 d4
      go_wp2_with fail
      go_roundg (ps.length - (i + 1))
      case measure => have := HI.out; omega
      case rel => exact ⟨i + 1, vo4, by rw [HII.out], (by have := HI.out; omega), HSM.out ▸ HT4.out, HSM.out ▸ (HK.out.below HB3.out).trans HK4.out, HSM.out ▸ row_kf0 (Kd.R_below HR.out HB3.out) HK4.out⟩
     ·have hlti : ¬ (i : Int) < (ps.length : Int) := by omega
      have hie : ps.take i = ps := List.take_of_length_le (by omega)
      have HN : Aside0 (N = sendAll M ps) := ⟨by rw [HN.out, hie]⟩
      clear hie
      go_wp2_with fail
      go_ret
      refine ⟨ps, HCP.out, .inl ⟨?_, rfl, vo, HN.out ▸ HT.out, K3.out.trans (HN.out ▸ HK.out)⟩⟩
      rw [← HNO.out, ← HSS.out]
      exact Nat.not_lt.mp HFU.out
end Go.Proofs.YtpmeapdcjmaeiaaGreatDoor
namespace Go.Proofs.YtpmeapdcjmaeiaaGreatDoor
open Go.RowKit Go.Wa Go.Wb Go.Wc PAll U
theorem all_on {m : Bool} {a b : List Int} {x y : List Pc} {c ca : Int} {r ra : List Int} (ha : AllP m a x ca ra) : ca = 0 → AllP m (ra ++ b) y c r → AllP m (a ++ b) (x ++ y) c r := by
 induction ha with
 | bad h => intro h0 _; exact absurd h0 h
 | stop h1 h2 => intro _ h3; exact h3
 | @frame l ps c' r' h1 h2 ih =>
  intro h3 h4
  obtain ⟨h5, h6⟩ := h1.app b
  have e := AllP.frame h5 (ps := ps ++ y) (c := c) (r := r)
  rw [h6, List.drop_append_of_le_length h1.room, List.take_append_of_le_length h1.room] at e
  exact e (ih h3 h4)
theorem all_badon {m : Bool} {a : List Int} {x : List Pc} {ca : Int} {ra : List Int} (ha : AllP m a x ca ra) (b : List Int) : ca ≠ 0 → AllP m (a ++ b) x ca [] := by
 induction ha with
 | @bad l h =>
  intro _
  have e := headF_app l b m (code1_told h)
  have h1 : code1 (l ++ b) m = code1 l m := by unfold code1; rw [e]
  rw [← h1]
  exact .bad (by rw [h1]; exact h)
 | stop h1 h2 => intro h; exact absurd rfl h
 | @frame l ps c' r' h1 h2 ih =>
  intro h3
  obtain ⟨h5, h6⟩ := h1.app b
  have e := AllP.frame h5 (ps := ps) (c := c') (r := [])
  rw [h6, List.drop_append_of_le_length h1.room, List.take_append_of_le_length h1.room] at e
  exact e (ih h3)
theorem all_good {m : Bool} {a b : List Int} {x y : List Pc} {ca : Int} {ra r : List Int} (ha : AllP m a x ca ra) (hw : AllP m (a ++ b) y 0 r) : ca = 0 := by
 by_cases h : ca = 0
 ·exact h
 ·exact ((all_badon ha b h).uniq hw).2.1
def pf (p : Pc) : Bool × Int × List Int := (p.f0, p.f1, p.f4)
def n1 (x : List Int) : Nt := ⟨1, false, x, 0⟩
inductive Rn : Bool → List Int → List (Bool × Int × List Int) → Bool → List Int → List (List Int) → Prop
 | nil {busy : Bool} {b : List Int} : Rn busy b [] busy b []
 | last {busy bu2 : Bool} {b d b2 : List Int} {op : Int} {fs : List (Bool × Int × List Int)} {ns : List (List Int)} : op = (if busy = true then 0 else 2) → b.length + d.length ≤ 4096 → Rn false [] fs bu2 b2 ns → Rn busy b ((true, op, d) :: fs) bu2 b2 ((b ++ d) :: ns)
 | more {busy bu2 : Bool} {b d b2 : List Int} {op : Int} {fs : List (Bool × Int × List Int)} {ns : List (List Int)} : op = (if busy = true then 0 else 2) → b.length + d.length ≤ 4096 → Rn true (b ++ d) fs bu2 b2 ns → Rn busy b ((false, op, d) :: fs) bu2 b2 ns
theorem Rn.app {busy bu2 bu3 : Bool} {b b2 b3 : List Int} {fs gs : List (Bool × Int × List Int)} {ns ms : List (List Int)} (h : Rn busy b fs bu2 b2 ns) (h2 : Rn bu2 b2 gs bu3 b3 ms) : Rn busy b (fs ++ gs) bu3 b3 (ns ++ ms) := by
 induction h with
 | nil => exact h2
 | last h1 h3 _ ih => exact .last h1 h3 (ih h2)
 | more h1 h3 _ ih => exact .more h1 h3 (ih h2)
theorem Rn.split : ∀ (fs : List (Bool × Int × List Int)) {busy bu2 : Bool} {b b2 : List Int} {gs : List (Bool × Int × List Int)} {ns : List (List Int)}, Rn busy b (fs ++ gs) bu2 b2 ns → ∃ bu b1 n1 n2, Rn busy b fs bu b1 n1 ∧ Rn bu b1 gs bu2 b2 n2 ∧ ns = n1 ++ n2
 | [], _, _, _, _, _, ns, h => ⟨_, _, [], ns, .nil, h, rfl⟩
 | f :: fs, _, _, _, _, gs, _, h => by
  cases h with
  | last h1 h3 h4 =>
   obtain ⟨bu, b1, n1, n2, h5, h6, rfl⟩ := Rn.split fs h4
   exact ⟨bu, b1, _ :: n1, n2, .last h1 h3 h5, h6, rfl⟩
  | more h1 h3 h4 =>
   obtain ⟨bu, b1, n1, n2, h5, h6, rfl⟩ := Rn.split fs h4
   exact ⟨bu, b1, n1, n2, .more h1 h3 h5, h6, rfl⟩
theorem cut_rn {mo : Nat} {op : Int} {d : List Int} {ps : List Pm} (h : CutP mo op d ps) : ∀ (busy : Bool) (b : List Int), op = (if busy = true then 0 else 2) → b.length + d.length ≤ 4096 → Rn busy b (ps.map pf) false [] [b ++ d] := by
 induction h with
 | @last op d hl =>
  intro busy b hop hbl
  exact .last hop hbl .nil
 | @more op d ps hl hc ih =>
  intro busy b hop hbl
  have htl : (d.take mo).length + (d.drop mo).length = d.length := by rw [← List.length_append, List.take_append_drop]
  have := ih true (b ++ d.take mo) rfl (by rw [List.length_append]; omega)
  rw [List.append_assoc, List.take_append_drop] at this
  exact Rn.more (d := d.take mo) hop (by omega) this
theorem nkey_ok {M : TM} (h : M.Ok) : 0 ≤ M.nkey ∧ M.nkey ≤ 4294967295 := by
 unfold TM.nkey
 split
 ·split
  ·rename_i h1 h2
   have h3 : 0 ≤ Int.tmod M.key (M.keys.length : Int) := Int.tmod_nonneg _ h.key0
   have h4 : Int.tmod M.key (M.keys.length : Int) < (M.keys.length : Int) := Int.tmod_lt_of_pos _ (by omega)
   unfold rd
   rw [List.getD_eq_getElem?_getD, List.getElem?_eq_getElem (by omega)]
   exact h.keys _ (List.getElem_mem _)
  ·exact ⟨by decide, by decide⟩
 ·exact ⟨by decide, by decide⟩
theorem send_wire {cl : Bool} : ∀ (ps : List Pm) (M : TM) (qs : List Pc), M.cl = cl → M.out = putAll qs → (∀ p ∈ qs, OkP cl p) → (∀ k : TM, k.keys = M.keys → 0 ≤ k.key → 0 ≤ k.nkey ∧ k.nkey ≤ 4294967295) → 0 ≤ M.key → SnP ps → (∀ p ∈ ps, ∀ x ∈ p.f4, Byte x) →
  ∃ rs : List Pc, (sendAll M ps).out = putAll (qs ++ rs) ∧ (∀ p ∈ qs ++ rs, OkP cl p) ∧ rs.map pf = ps.map pf
 | [], M, qs, _, ho, hq, _, _, _, _ => ⟨[], by rw [List.append_nil]; exact ho, by rw [List.append_nil]; exact hq, rfl⟩
 | p :: ps, M, qs, hcl, ho, hq, hk, hk0, hs, hb => by
  have hnk := hk M rfl hk0
  have hok : OkP cl ⟨p.f0, p.f1, cl, M.nkey, p.f4⟩ := ⟨by have := mayS (hs.op p List.mem_cons_self) (hs.len p List.mem_cons_self) cl M.nkey (hcl ▸ nkey_zero M); exact this, rfl, (hs.op p List.mem_cons_self).1, hnk.1, hnk.2, hb p List.mem_cons_self⟩
  have hput : (putM M p.f0 p.f1 p.f4).out = putAll (qs ++ [⟨p.f0, p.f1, cl, M.nkey, p.f4⟩]) := by
   rw [putAll_snoc]
   show M.out ++ putL p.f0 p.f1 M.cl M.nkey p.f4 = _
   rw [ho, hcl]
   rfl
  have hkey : 0 ≤ (putM M p.f0 p.f1 p.f4).key := by
   show 0 ≤ TM.key' M
   unfold TM.key'
   split <;> (try split) <;> omega
  obtain ⟨rs, h1, h2, h3⟩ := send_wire ps (putM M p.f0 p.f1 p.f4) (qs ++ [⟨p.f0, p.f1, cl, M.nkey, p.f4⟩]) hcl hput (fun q hm => by
   rcases List.mem_append.1 hm with hm | hm
   ·exact hq q hm
   ·rw [List.mem_singleton.1 hm]; exact hok) hk hkey ⟨fun q hm => hs.op q (List.mem_cons_of_mem _ hm), fun q hm => hs.msk q (List.mem_cons_of_mem _ hm), fun q hm => hs.key q (List.mem_cons_of_mem _ hm), fun q hm => hs.len q (List.mem_cons_of_mem _ hm)⟩ (fun q hm => hb q (List.mem_cons_of_mem _ hm))
  refine ⟨⟨p.f0, p.f1, cl, M.nkey, p.f4⟩ :: rs, ?_, ?_, ?_⟩
  ·show (sendAll (putM M p.f0 p.f1 p.f4) ps).out = _
   rw [h1, List.append_assoc]
   rfl
  ·rw [List.append_assoc] at h2
   exact h2
  ·rw [List.map_cons, List.map_cons, h3]
   rfl
theorem nkey_le {ks : List Int} (hk : ∀ x ∈ ks, 0 ≤ x ∧ x ≤ 4294967295) {M : TM} (e : M.keys = ks) (h0 : 0 ≤ M.key) : 0 ≤ M.nkey ∧ M.nkey ≤ 4294967295 := by
 unfold TM.nkey
 split
 ·split
  ·rename_i h1 h2
   have h3 : 0 ≤ Int.tmod M.key (M.keys.length : Int) := Int.tmod_nonneg _ h0
   have h4 : Int.tmod M.key (M.keys.length : Int) < (M.keys.length : Int) := Int.tmod_lt_of_pos _ (by omega)
   unfold rd
   rw [List.getD_eq_getElem?_getD, List.getElem?_eq_getElem (by omega)]
   exact hk _ (e ▸ List.getElem_mem _)
  ·exact ⟨by decide, by decide⟩
 ·exact ⟨by decide, by decide⟩
theorem left_byte {m : Bool} {a r : List Int} {x : List Pc} {c : Int} (h : AllP m a x c r) : a.all isByte = true → r.all isByte = true := by
 induction h with
 | bad _ => exact fun _ => rfl
 | stop _ _ => exact id
 | frame h1 _ ih => exact fun ha => ih (drop_byte ha _)
section
variable {ps : List Pc} {ms : List (List Int)} (hok : ∀ p ∈ ps, OkP true p) (hr : Rn false [] (ps.map pf) false [] ms)
include hok hr
end
end Go.Proofs.YtpmeapdcjmaeiaaGreatDoor
namespace Go.Proofs.YtpmeapdcjmaeiaaGreatDoor
open Go.RowKit Go.Wa Go.Wb Go.Wc PAll U
def p9 (x : List Int) : Pc := ⟨true, 9, true, 0, x⟩
def n2 (x : List Int) : Nt := ⟨2, false, x, 0⟩
def n3 (x : List Int) : Nt := ⟨3, false, x, 0⟩
def aS (xs : List (List Int)) : TM := { newT true [] with out := putAll (xs.map p9) }
theorem g9 (b : List Int) (busy te : Bool) (x : List Int) : gF b busy te false true 9 x = (b, busy, te, false, n2 x, true) := by
 unfold gF
 rw [if_neg (by decide), if_neg (by decide), if_neg (by decide), if_pos rfl]
 rfl
structure Two (w0 W : World) (ta : Nat) (Ma : TM) (Ia : TI) (tb : Nat) (Mb : TM) (Ib : TI) : Prop where
 a : Tn w0 W ta Ma Ia
 b : Tn w0 W tb Mb Ib
 dis : ∀ k, TF Ma Ia ta k → ¬ TF Mb Ib tb k
 la : ∀ k, TF Ma Ia ta k → w0.heap.size ≤ k
 lb : ∀ k, TF Mb Ib tb k → w0.heap.size ≤ k
section
variable {w0 W W' : World} {ta tb : Nat} {Ma Mb M' : TM} {Ia Ib I' : TI}
theorem Two.stepA (h : Two w0 W ta Ma Ia tb Mb Ib) (hT : Tn w0 W' ta M' I') (hK : Kf W W' (TF Ma Ia ta) (TF M' I' ta)) : Two w0 W' ta M' I' tb Mb Ib := by
 have ho := hK.other (fun k hk => h.b.lt hk) (fun k hk hf => h.dis k hf hk)
 exact ⟨hT, h.b.move hT.bel ho.1, fun k hf hk => ho.2 k hk hf, fun k hk => (hK.new k hk).elim (h.la k) (fun e => Nat.le_trans h.a.bel.size e), h.lb⟩
theorem Two.stepB (h : Two w0 W ta Ma Ia tb Mb Ib) (hT : Tn w0 W' tb M' I') (hK : Kf W W' (TF Mb Ib tb) (TF M' I' tb)) : Two w0 W' ta Ma Ia tb M' I' := by
 have ho := hK.other (fun k hk => h.a.lt hk) (fun k hk hf => h.dis k hk hf)
 exact ⟨h.a.move hT.bel ho.1, hT, fun k hf hk => ho.2 k hf hk, h.la, fun k hk => (hK.new k hk).elim (h.lb k) (fun e => Nat.le_trans h.a.bel.size e)⟩
theorem Two.below (h : Two w0 W ta Ma Ia tb Mb Ib) (hb : Below W.heap.size W W') : Two w0 W' ta Ma Ia tb Mb Ib := ⟨h.a.below hb, h.b.below hb, h.dis, h.la, h.lb⟩
end
end Go.Proofs.YtpmeapdcjmaeiaaGreatDoor
namespace Go.Proofs.YtpmeapdcjmaeiaaGreatDoor
open Go.RowKit Go.Wa Go.Wb Go.Wc PAll U
def TM.gat (M : TM) (bu : Bool) (b : List Int) : TM := { M with b := b, busy := bu }
structure Lv (M : TM) : Prop where
 te : M.te = false
 over : M.over = false
 cause : M.cause = 0
 nob : M.busy = false → M.b = []
theorem takes_n1 (N : TM) (y : List Int) : takesM N (n1 y) = (N, n1 y) := by
 unfold takesM
 rw [if_neg (show ¬ (n1 y).f0 = 5 by show ¬ (1 : Int) = 5; decide), if_neg (show ¬ (n1 y).f0 = 4 by show ¬ (1 : Int) = 4; decide), if_neg (show ¬ (n1 y).f0 = 2 by show ¬ (1 : Int) = 2; decide)]
theorem gat_last (M : TM) (h : Lv M) {d : List Int} {op : Int} (hop : op = if M.busy = true then 0 else 2) (hl : M.b.length + d.length ≤ 4096) (p : Pc) (hp : pf p = (true, op, d)) : takeM M p = (M.gat false [], [n1 (M.b ++ d)]) := by
 obtain ⟨busy, hbu⟩ : ∃ bu, bu = M.busy := ⟨_, rfl⟩
 rw [← hbu] at hop
 have hpc : partC busy false true op M.b d = 0 := by
  unfold partC textN
  subst hop
  cases busy <;> simp <;> omega
 have htn : textN busy false op = false := by
  unfold textN
  subst hop
  cases busy <;> rfl
 have hg : gF M.b busy false false true op d = ([], false, false, false, n1 (M.b ++ d), true) := by
  unfold gF
  rw [if_neg (by decide), if_pos (by subst hop; cases busy <;> simp), if_neg (by rw [hpc]; decide), if_pos rfl, htn]
  rfl
 unfold pf at hp
 injection hp with h0 h1
 injection h1 with h1 h2
 have hg2 : gF M.b M.busy M.te M.over p.f0 p.f1 p.f4 = ([], false, false, false, n1 (M.b ++ d), true) := by rw [h0, h1, h2, h.te, h.over, ← hbu]; exact hg
 have e1 : M.tells p = true := by unfold TM.tells; rw [hg2]
 have e2 : M.note p = n1 (M.b ++ d) := by unfold TM.note; rw [hg2]
 have e3 : M.wg p = M.gat false [] := by
  unfold TM.wg
  rw [hg2]
  show TM.mk _ _ _ _ _ _ _ _ _ _ _ _ _ _ _ _ _ = TM.mk _ _ _ _ _ _ _ M.te M.over _ _ _ _ _ _ _ _
  rw [h.te, h.over]
 unfold takeM
 rw [if_pos e1, e2, e3, takes_n1]
theorem gat_more (M : TM) (h : Lv M) {d : List Int} {op : Int} (hop : op = if M.busy = true then 0 else 2) (hl : M.b.length + d.length ≤ 4096) (p : Pc) (hp : pf p = (false, op, d)) : takeM M p = (M.gat true (M.b ++ d), []) := by
 obtain ⟨busy, hbu⟩ : ∃ bu, bu = M.busy := ⟨_, rfl⟩
 rw [← hbu] at hop
 have hpc : partC busy false false op M.b d = 0 := by
  unfold partC textN
  subst hop
  cases busy <;> simp <;> omega
 have htn : textN busy false op = false := by
  unfold textN
  subst hop
  cases busy <;> rfl
 have hg : gF M.b busy false false false op d = (M.b ++ d, true, false, false, ⟨0, false, [], 0⟩, false) := by
  unfold gF
  rw [if_neg (by decide), if_pos (by subst hop; cases busy <;> simp), if_neg (by rw [hpc]; decide), if_neg (by decide), htn]
 unfold pf at hp
 injection hp with h0 h1
 injection h1 with h1 h2
 have hg2 : gF M.b M.busy M.te M.over p.f0 p.f1 p.f4 = (M.b ++ d, true, false, false, ⟨0, false, [], 0⟩, false) := by rw [h0, h1, h2, h.te, h.over, ← hbu]; exact hg
 have e1 : M.tells p = false := by unfold TM.tells; rw [hg2]
 have e3 : M.wg p = M.gat true (M.b ++ d) := by
  unfold TM.wg
  rw [hg2]
  show TM.mk _ _ _ _ _ _ _ _ _ _ _ _ _ _ _ _ _ = TM.mk _ _ _ _ _ _ _ M.te M.over _ _ _ _ _ _ _ _
  rw [h.te, h.over]
 unfold takeM
 rw [if_neg (by rw [e1]; decide), e3]
def TM.fin (M : TM) (k : Int) : TM := gotM { M with b := [], busy := false, over := true } k
theorem gat_close (M : TM) (h : Lv M) {d x : List Int} {k : Int} (hc : closeM d = (4, x, k)) (p : Pc) (hp : pf p = (true, 8, d)) : takeM M p = (M.fin k, [⟨4, false, x, k⟩]) := by
 have hg : gF M.b M.busy M.te false true 8 d = ([], false, M.te, true, ⟨4, false, x, k⟩, true) := by
  unfold gF
  rw [if_neg (by decide), if_neg (by decide), if_pos rfl, hc]
 unfold pf at hp
 injection hp with h0 h1
 injection h1 with h1 h2
 have hg2 : gF M.b M.busy M.te M.over p.f0 p.f1 p.f4 = ([], false, M.te, true, ⟨4, false, x, k⟩, true) := by rw [h0, h1, h2, h.over]; exact hg
 have e1 : M.tells p = true := by unfold TM.tells; rw [hg2]
 have e2 : M.note p = ⟨4, false, x, k⟩ := by unfold TM.note; rw [hg2]
 have e3 : M.wg p = { M with b := [], busy := false, over := true } := by
  unfold TM.wg
  rw [hg2]
 unfold takeM
 rw [if_pos e1, e2, e3]
 unfold takesM
 rw [if_neg (show ¬ (4 : Int) = 5 by decide), if_pos rfl]
 rfl
theorem Rn.uniq {busy : Bool} {b : List Int} {fs : List (Bool × Int × List Int)} {bu2 : Bool} {b2 : List Int} {ns : List (List Int)} (h : Rn busy b fs bu2 b2 ns) : ∀ {bu3 : Bool} {b3 : List Int} {ms : List (List Int)}, Rn busy b fs bu3 b3 ms → bu2 = bu3 ∧ b2 = b3 ∧ ns = ms := by
 induction h with
 | nil => intro _ _ _ h; cases h; exact ⟨rfl, rfl, rfl⟩
 | last h1 h3 _ ih =>
  intro _ _ _ h
  cases h with
  | last _ _ h4 =>
   obtain ⟨e1, e2, e3⟩ := ih h4
   exact ⟨e1, e2, by rw [e3]⟩
 | more h1 h3 _ ih =>
  intro _ _ _ h
  cases h with
  | more _ _ h4 => exact ih h4
theorem Rn.runG {busy bu2 : Bool} {b b2 : List Int} {fs : List (Bool × Int × List Int)} {ns : List (List Int)} (h : Rn busy b fs bu2 b2 ns) : ∀ (M : TM) (qs rs : List Pc), Lv M → M.busy = busy → M.b = b → qs.map pf = fs → Lv (M.gat bu2 b2) ∧ runM M (qs ++ rs) 0 = ((runM (M.gat bu2 b2) rs 0).1, ns.map n1 ++ (runM (M.gat bu2 b2) rs 0).2) := by
 induction h with
 | @nil busy b =>
  intro M qs rs hL e1 e2 hq
  rw [List.map_eq_nil_iff.1 hq]
  have e : M.gat busy b = M := by rw [← e1, ← e2]; rfl
  rw [e]
  exact ⟨hL, rfl⟩
 | last h1 h3 _ ih =>
  intro M qs rs hL e1 e2 hq
  cases qs with
  | nil => cases hq
  | cons q qs =>
   injection hq with e3 e4
   subst e1
   subst e2
   have hT := gat_last M hL h1 h3 q e3
   obtain ⟨h5, h6⟩ := ih (M.gat false []) qs rs ⟨hL.te, hL.over, hL.cause, fun _ => rfl⟩ rfl rfl e4
   refine ⟨h5, ?_⟩
   rw [List.cons_append, runM_cons _ _ _ _ hL.cause, hT]
   show ((runM (M.gat false []) (qs ++ rs) 0).1, [n1 _] ++ (runM (M.gat false []) (qs ++ rs) 0).2) = _
   rw [h6]
   rfl
 | @more busy bu2 b d b2 op fs ns h1 h3 _ ih =>
  intro M qs rs hL e1 e2 hq
  cases qs with
  | nil => cases hq
  | cons q qs =>
   injection hq with e3 e4
   subst e1
   subst e2
   have hT := gat_more M hL h1 h3 q e3
   obtain ⟨h5, h6⟩ := ih (M.gat true (M.b ++ d)) qs rs ⟨hL.te, hL.over, hL.cause, fun h => by cases h⟩ rfl rfl e4
   refine ⟨h5, ?_⟩
   rw [List.cons_append, runM_cons _ _ _ _ hL.cause, hT]
   show ((runM (M.gat true (M.b ++ d)) (qs ++ rs) 0).1, [] ++ (runM (M.gat true (M.b ++ d)) (qs ++ rs) 0).2) = _
   rw [h6]
   rfl
def Cls (k : Int) (cs : List Pc) : Prop := cs = [] ∨ ∃ c d x, cs = [c] ∧ pf c = (true, 8, d) ∧ closeM d = (4, x, k)
structure Sn (M : TM) (ms : List (List Int)) (k : Int) (qs cs : List Pc) (F : List Int) : Prop where
 wire : putAll (qs ++ cs) = F ++ M.out
 ok : ∀ p ∈ qs ++ cs, OkP M.cl p
 runs : Rn false [] (qs.map pf) false [] ms
 cls : Cls k cs
 sent : M.sent = true ↔ cs ≠ []
 key : 0 ≤ M.key ∧ M.key ≤ ((qs ++ cs).length : Int)
 keys : ∀ x ∈ M.keys, 0 ≤ x ∧ x ≤ 4294967295
 len : F.length + M.out.length ≤ 16384 + 200 * cs.length
 ended : M.ended = true → M.out = [] ∧ M.cause ≠ 0
theorem putP_two (p : Pc) : 2 ≤ (putP p).length := by
 unfold putP putL
 simp only [List.length_cons]
 omega
theorem putAll_two : ∀ ps : List Pc, 2 * ps.length ≤ (putAll ps).length
 | [] => Nat.le_refl _
 | p :: ps => by
  have h1 := putP_two p
  have h2 := putAll_two ps
  show 2 * (ps.length + 1) ≤ (putP p ++ putAll ps).length
  rw [List.length_append]
  omega
theorem Cls.len {k : Int} {cs : List Pc} (h : Cls k cs) : cs.length ≤ 1 := by
 rcases h with rfl | ⟨c, d, x, rfl, _, _⟩
 ·exact Nat.zero_le _
 ·exact Nat.le_refl _
theorem Sn.bound {M : TM} {ms : List (List Int)} {k : Int} {qs cs : List Pc} {F : List Int} (h : Sn M ms k qs cs F) : (qs ++ cs).length ≤ 8300 ∧ M.key ≤ 8300 ∧ M.out.length ≤ 16584 ∧ F.length ≤ 16584 := by
 have h1 := putAll_two (qs ++ cs)
 have h2 := congrArg List.length h.wire
 have h3 := h.len
 have h4 := h.cls.len
 have h5 := h.key.2
 rw [List.length_append] at h2
 omega
theorem Sn.new (cl : Bool) (ks : List Int) (k : Int) (hk : ∀ x ∈ ks, 0 ≤ x ∧ x ≤ 4294967295) : Sn (newT cl ks) [] k [] [] [] := ⟨rfl, fun p hp => (by cases hp), .nil, .inl rfl, ⟨fun h => (by cases h), fun h => absurd rfl h⟩, ⟨Int.le_refl _, Int.le_refl _⟩, hk, Nat.zero_le _, fun h => (by cases h)⟩
theorem sendAll_with (M : TM) (cs : List Pm) : ∃ ky o, sendAll M cs = { M with key := ky, out := o } := by
 induction cs generalizing M with
 | nil => exact ⟨M.key, M.out, rfl⟩
 | cons p cs ih =>
  obtain ⟨ky, o, e⟩ := ih (putM M p.f0 p.f1 p.f4)
  exact ⟨ky, o, e⟩
theorem Sn.send {M : TM} {ms : List (List Int)} {k : Int} {qs : List Pc} (h : Sn M ms k qs [] []) {mo : Nat} {m : List Int} {cs : List Pm} (hc : CutP mo 2 m cs) (hM : mo ≤ 4096) (hm : m.length ≤ 4096) (hb : ∀ x ∈ m, Byte x) (hf : M.out.length + sumLen M.cl cs ≤ 16384) (hca : M.cause = 0) :
  ∃ rs, Sn (sendAll M cs) (ms ++ [m]) k (qs ++ rs) [] [] := by
 obtain ⟨f1, f2, f3, f4, f5, f6⟩ := sendAll_fix M cs
 have ho : M.out = putAll qs := by have := h.wire; rw [List.append_nil] at this; exact this.symm
 have hq : ∀ p ∈ qs, OkP M.cl p := fun p hp => h.ok p (by rw [List.append_nil]; exact hp)
 obtain ⟨rs, w1, w2, w3⟩ := send_wire cs M qs rfl ho hq (fun N e h0 => nkey_le (M := N) h.keys e h0) h.key.1 (hc.snp hM ⟨by decide, by decide⟩) (hc.data hb)
 have hrl : rs.length = cs.length := by have := congrArg List.length w3; simpa using this
 obtain ⟨ky, o, e⟩ := sendAll_with M cs
 have hk0 : ∀ (ps : List Pm) (N : TM), 0 ≤ N.key → 0 ≤ (sendAll N ps).key := by
  intro ps
  induction ps with
  | nil => exact fun N hN => hN
  | cons p ps ih =>
   intro N hN
   refine ih (putM N p.f0 p.f1 p.f4) ?_
   show 0 ≤ TM.key' N
   unfold TM.key'
   split <;> (try split) <;> omega
 refine ⟨rs, ?_, ?_, ?_, .inl rfl, ?_, ⟨hk0 cs M h.key.1, ?_⟩, ?_, ?_, ?_⟩
 ·rw [List.append_nil]; exact w1.symm
 ·rw [List.append_nil, f1]; exact w2
 ·rw [List.map_append, w3]; exact h.runs.app (cut_rn hc false [] rfl (by simp; omega))
 ·rw [f3]; exact h.sent
 ·have h1 := h.key.2
  rw [List.append_nil] at h1 ⊢
  rw [List.length_append, hrl]
  omega
 ·rw [f2]; exact h.keys
 ·rw [f6]; simp only [List.length_nil]; omega
 ·rw [e]
  intro he
  exact absurd hca (h.ended he).2
theorem Sn.close {M M' : TM} {ms : List (List Int)} {k : Int} {qs : List Pc} {F d x : List Int} (h : Sn M ms k qs [] F) (hd : d.length ≤ 125) (hb : ∀ x ∈ d, Byte x) (hc : closeM d = (4, x, k)) (hca : M.cause = 0) (e1 : M'.cl = M.cl) (e2 : M'.keys = M.keys) (e3 : M'.key = M.key') (e4 : M'.sent = true) (e5 : M'.out = M.out ++ putL true 8 M.cl M.nkey d) (e6 : M'.ended = M.ended) : ∃ c, Sn M' ms k qs [c] F ∧ M'.out.length ≤ M.out.length + 131 := by
 have hnk := nkey_le h.keys rfl h.key.1
 have hl : (putL true 8 M.cl M.nkey d).length ≤ 131 := putL_small hd
 have hk' : M.key' ≤ M.key + 1 ∧ 0 ≤ M.key' := by
  have := h.key.1
  unfold TM.key'
  split <;> (try split) <;> omega
 refine ⟨⟨true, 8, M.cl, M.nkey, d⟩, ⟨?_, ?_, h.runs, .inr ⟨_, d, x, rfl, rfl, hc⟩, ⟨fun _ => by simp, fun _ => e4⟩, ?_, by rw [e2]; exact h.keys, ?_, ?_⟩, ?_⟩
 ·rw [putAll_snoc, e5, ← List.append_assoc, ← h.wire, List.append_nil]
  rfl
 ·rw [e1]
  intro p hp
  rcases List.mem_append.1 hp with hp | hp
  ·exact h.ok p (List.mem_append_left _ hp)
  ·rw [List.mem_singleton.1 hp]
   exact ⟨(mayB_iff ..).2 ⟨.inr (by show (8 : Int) ≤ 8 ∧ (8 : Int) ≤ 10; decide), nkey_zero M, by show (d.length : Int) ≤ 4096; omega, .inr ⟨rfl, by show (d.length : Int) ≤ 125; omega⟩⟩, rfl, (by show (0 : Int) ≤ 8; decide), hnk.1, hnk.2, hb⟩
 ·rw [e3]
  have h1 := h.key.2
  rw [List.append_nil] at h1
  rw [List.length_append]
  simp only [List.length_cons, List.length_nil]
  omega
 ·have h1 := h.len
  rw [e5, List.length_append]
  simp only [List.length_cons, List.length_nil] at h1 ⊢
  omega
 ·rw [e6]
  intro he
  exact absurd hca (h.ended he).2
 ·rw [e5, List.length_append]
  omega
theorem Sn.same {M M' : TM} {ms : List (List Int)} {k : Int} {qs cs : List Pc} {F : List Int} (h : Sn M ms k qs cs F) (e1 : M'.cl = M.cl) (e2 : M'.keys = M.keys) (e3 : M'.key = M.key) (e4 : M'.sent = M.sent) (e5 : M'.out = M.out) (e6 : M'.ended = M.ended) (e7 : M.cause ≠ 0 → M'.cause ≠ 0) : Sn M' ms k qs cs F :=
 ⟨by rw [e5]; exact h.wire, by rw [e1]; exact h.ok, h.runs, h.cls, by rw [e4]; exact h.sent, by rw [e3]; exact h.key, by rw [e2]; exact h.keys, by rw [e5]; exact h.len, by rw [e6, e5]; exact fun he => ⟨(h.ended he).1, e7 (h.ended he).2⟩⟩
inductive Rc (M : TM) (m : Bool) (ms : List (List Int)) (k : Int) (qs : List Pc) (F : List Int) (got : List (List Int)) : Prop
 | live (hL : Lv M) (hb : M.sbad = false) (gf rest : List Pc) (ha : AllP m F gf 0 M.l) (hq : qs = gf ++ rest) (hn : Rn false [] (gf.map pf) M.busy M.b got)
 | done (hc : M.cause = 1) (he : M.ecode = k) (hs : M.sent = true) (hg : got = ms)
theorem Rc.same {M M' : TM} {m : Bool} {ms : List (List Int)} {k : Int} {qs : List Pc} {F : List Int} {got : List (List Int)} (h : Rc M m ms k qs F got) (e1 : M'.l = M.l) (e2 : M'.sbad = M.sbad) (e3 : M'.b = M.b) (e4 : M'.busy = M.busy) (e5 : M'.te = M.te) (e6 : M'.over = M.over) (e7 : M'.cause = M.cause) (e8 : M'.ecode = M.ecode) (e9 : M.cause ≠ 0 → M'.sent = M.sent) : Rc M' m ms k qs F got := by
 cases h with
 | live hL hb gf rest ha hq hn => exact .live ⟨e5.trans hL.te, e6.trans hL.over, e7.trans hL.cause, by rw [e4, e3]; exact hL.nob⟩ (e2.trans hb) gf rest (by rw [e1]; exact ha) hq (by rw [e4, e3]; exact hn)
 | done hc he hs hg => exact .done (e7.trans hc) (e8.trans he) ((e9 (by rw [hc]; decide)).trans hs) hg
theorem Rc.alive {M : TM} {m : Bool} {ms : List (List Int)} {k : Int} {qs : List Pc} {F : List Int} {got : List (List Int)} (h : Rc M m ms k qs F got) (hc : M.cause = 0) : M.sbad = false := by
 cases h with
 | live hL hb _ _ _ _ _ => exact hb
 | done h1 _ _ _ => rw [hc] at h1; cases h1
theorem Rc.new (cl m : Bool) (ks : List Int) (ms : List (List Int)) (k : Int) (qs : List Pc) : Rc (newT cl ks) m ms k qs [] [] := .live ⟨rfl, rfl, rfl, fun _ => rfl⟩ rfl [] qs (AllP.puts [] (fun p hp => by cases hp)) rfl .nil
theorem Rc.begins {M : TM} {m : Bool} {ms : List (List Int)} {k : Int} {qs : List Pc} {F : List Int} {got : List (List Int)} (h : Rc M m ms k qs F got) (hr : Rn false [] (qs.map pf) false [] ms) : ∃ l, ms = got ++ l := by
 cases h with
 | live _ _ gf rest _ hq hn =>
  rw [hq, List.map_append] at hr
  obtain ⟨bu1, b1, na, nb, hra, _, hmm⟩ := Rn.split _ hr
  exact ⟨nb, by rw [hmm, (hra.uniq hn).2.2]⟩
 | done _ _ _ hg => exact ⟨[], by rw [hg, List.append_nil]⟩
theorem fin_sent (M : TM) (k : Int) (hc : M.cause = 0) (hs : M.sent = true) : M.fin k = { M with b := [], busy := false, over := true, got := true, code := k, cause := 1, ecode := k } := by
 unfold TM.fin gotM sendM
 rw [if_neg (by show ¬ M.cause ≠ 0; omega), if_pos hs]
theorem fin_new (M : TM) (k : Int) (hc : M.cause = 0) (hs : M.sent = false) : M.fin k = { M with b := [], busy := false, over := true, got := true, code := k, cause := 1, ecode := k, sent := true, key := M.key', out := M.out ++ putL true 8 M.cl M.nkey (dataC k (⟨#[]⟩ : ByteArray)) } := by
 unfold TM.fin gotM sendM
 rw [if_neg (by show ¬ M.cause ≠ 0; omega), if_neg (show ¬ M.sent = true by rw [hs]; decide)]
 rfl
theorem fin_is (M : TM) (k : Int) (hc : M.cause = 0) : (M.fin k).cause = 1 ∧ (M.fin k).ecode = k ∧ (M.fin k).sent = true ∧ (M.fin k).cl = M.cl ∧ (M.fin k).ended = M.ended := by
 by_cases hs : M.sent = true
 ·rw [fin_sent M k hc hs]; exact ⟨rfl, rfl, hs, rfl, rfl⟩
 ·rw [fin_new M k hc (by simpa using hs)]; exact ⟨rfl, rfl, rfl, rfl, rfl⟩
theorem feed_step {M : TM} {m : Bool} {ms : List (List Int)} {k : Int} {qs cs : List Pc} {F x R : List Int} {got : List (List Int)} (hok : ∀ p ∈ qs ++ cs, OkP m p) (hr : Rn false [] (qs.map pf) false [] ms) (hcl : Cls k cs) (hw : putAll (qs ++ cs) = F ++ (x ++ R)) (h : Rc M m ms k qs F got) {ps : List Pc} {cd : Int} {left : List Int} (ha : AllP m (M.l ++ x) ps cd left) :
  ∃ (M2 : TM) (n2 : List (List Int)) (tl : List Nt), runM M ps cd = (M2, n2.map n1 ++ tl) ∧ (tl = [] ∨ ∃ y, tl = [⟨4, false, y, k⟩]) ∧ ((∃ bu b, M2 = M.gat bu b) ∨ (M.cause = 0 ∧ M2 = M.fin k ∧ cs ≠ [])) ∧ ∀ l1 s1, (M2.cause = 0 → l1 = left ∧ s1 = false) → Rc (M2.wl l1 s1) m ms k qs (F ++ x) (got ++ n2) := by
 cases h with
 | done hc he hs hg =>
  refine ⟨M, [], [], ?_, .inl rfl, .inl ⟨M.busy, M.b, rfl⟩, fun l1 s1 _ => .done hc he hs (by rw [List.append_nil]; exact hg)⟩
  rw [runM_end M ps cd (by rw [hc]; decide)]
  rfl
 | live hL hb gf rest hA hq hn =>
  have hby := putAll_bytes _ hok
  rw [hw, List.all_append, Bool.and_eq_true, List.all_append, Bool.and_eq_true] at hby
  have hall := all_on hA rfl ha
  have hw2 : putAll (qs ++ cs) = (F ++ x) ++ R := by rw [hw, List.append_assoc]
  have hp := AllP.puts _ hok
  have hcd : cd = 0 := all_good (b := R) hall (hw2 ▸ hp)
  subst hcd
  have hl := left_byte hall (app_byte hby.1 hby.2.1)
  obtain ⟨p3, c3, r3, h3⟩ := AllP.total m _ (left ++ R) (app_byte hl hby.2.2) (Nat.le_refl _)
  have h4 := all_on hall rfl h3
  rw [← hw2] at h4
  have e := (hp.uniq h4).1
  rw [hq, List.append_assoc, List.append_assoc] at e
  replace e := List.append_cancel_left e
  rw [hq, List.map_append] at hr
  obtain ⟨bu1, b1, na, nb, hra, hrb, hmm⟩ := Rn.split _ hr
  obtain ⟨e1, e2, e3⟩ := hra.uniq hn
  subst e1
  subst e2
  subst e3
  have data : ∀ z : List Pc, rest = ps ++ z → ∃ (M2 : TM) (n2 : List (List Int)) (tl : List Nt), runM M ps 0 = (M2, n2.map n1 ++ tl) ∧ (tl = [] ∨ ∃ y, tl = [⟨4, false, y, k⟩]) ∧ ((∃ bu b, M2 = M.gat bu b) ∨ (M.cause = 0 ∧ M2 = M.fin k ∧ cs ≠ [])) ∧ ∀ l1 s1, (M2.cause = 0 → l1 = left ∧ s1 = false) → Rc (M2.wl l1 s1) m ms k qs (F ++ x) (na ++ n2) := by
   intro z hz
   rw [hz, List.map_append] at hrb
   obtain ⟨bu2, b2, n2, n3, hr2, _, _⟩ := Rn.split _ hrb
   obtain ⟨hL2, hrun⟩ := hr2.runG M ps [] hL rfl rfl rfl
   rw [List.append_nil, runM_stop _ hL2.cause] at hrun
   refine ⟨M.gat bu2 b2, n2, [], hrun, .inl rfl, .inl ⟨_, _, rfl⟩, fun l1 s1 hl1 => ?_⟩
   obtain ⟨rfl, rfl⟩ := hl1 hL2.cause
   exact .live ⟨hL2.te, hL2.over, hL2.cause, hL2.nob⟩ rfl (gf ++ ps) z hall (by rw [hq, hz, List.append_assoc]) (by rw [List.map_append]; exact hn.app hr2)
  rcases List.append_eq_append_iff.1 e with ⟨a, h5, h6⟩ | ⟨a, h5, h6⟩
  ·rcases hcl with hce | ⟨c, d, y, hce, hpf, hcm⟩
   ·rw [hce] at h6
    have ha0 : a = [] := (List.append_eq_nil_iff.1 h6.symm).1
    exact data [] (by rw [h5, ha0, List.append_nil, List.append_nil])
   ·cases a with
    | nil => exact data [] (by rw [h5, List.append_nil, List.append_nil])
    | cons c2 a2 =>
     rw [hce, List.cons_append] at h6
     injection h6 with h7 h8
     subst h7
     have ha0 : a2 = [] := (List.append_eq_nil_iff.1 h8.symm).1
     subst ha0
     obtain ⟨hL2, hrun⟩ := hrb.runG M rest [c] hL rfl rfl rfl
     have hc2 := gat_close (M.gat false []) hL2 hcm c hpf
     have hfc := fin_is M k hL.cause
     have hfe : (M.gat false []).fin k = M.fin k := rfl
     rw [runM_cons _ _ _ _ hL2.cause, hc2, hfe, runM_end (M.fin k) [] 0 (by rw [hfc.1]; decide), ← h5] at hrun
     refine ⟨M.fin k, nb, [⟨4, false, y, k⟩], hrun, .inr ⟨y, rfl⟩, .inr ⟨hL.cause, rfl, by rw [hce]; simp⟩, fun l1 s1 _ => .done hfc.1 hfc.2.1 hfc.2.2.1 hmm.symm⟩
  ·exact data a h5
theorem Rc.all_heard {M X : TM} {m : Bool} {ms : List (List Int)} {k : Int} {qs cs : List Pc} {F : List Int} {got : List (List Int)} (hS : Sn X ms k qs cs F) (hm : m = X.cl) (ho : X.out = []) (hs : X.sent = true) (h : Rc M m ms k qs F got) : M.cause = 1 ∧ M.ecode = k ∧ got = ms ∧ M.sent = true := by
 cases h with
 | done hc he hs2 hg => exact ⟨hc, he, hg, hs2⟩
 | live hL hb gf rest ha hq hn =>
  have hw := hS.wire
  rw [ho, List.append_nil] at hw
  have hp := AllP.puts (m := m) (qs ++ cs) (by rw [hm]; exact hS.ok)
  rw [hw] at hp
  have e := (ha.uniq hp).1
  rw [hq] at e
  have hl := congrArg List.length e
  simp only [List.length_append] at hl
  have hc0 := hS.sent.1 hs
  have : cs.length = 0 := by omega
  exact absurd (List.length_eq_zero_iff.1 this) hc0
theorem Sn.heard {M M2 : TM} {ms : List (List Int)} {k : Int} {qs cs : List Pc} {F : List Int} (h : Sn M ms k qs cs F) (hk : ∃ x, closeM (dataC k (⟨#[]⟩ : ByteArray)) = (4, x, k)) (hkd : (dataC k (⟨#[]⟩ : ByteArray)).length ≤ 125 ∧ ∀ x ∈ dataC k (⟨#[]⟩ : ByteArray), Byte x) (h2 : (∃ bu b, M2 = M.gat bu b) ∨ (M.cause = 0 ∧ M2 = M.fin k)) (l1 : List Int) (s1 : Bool) :
  ∃ cs', Sn (M2.wl l1 s1) ms k qs cs' F ∧ (M2.wl l1 s1).cl = M.cl ∧ (M2.wl l1 s1).ended = M.ended ∧ (M2.wl l1 s1).out.length ≤ M.out.length + 131 ∧ (M.sent = true → (M2.wl l1 s1).sent = true ∧ (M2.wl l1 s1).out = M.out) ∧ ((M2.wl l1 s1).sent = false → (M2.wl l1 s1).out = M.out ∧ M.sent = false) ∧ (M.cause ≠ 0 → (M2.wl l1 s1).cause ≠ 0) := by
 rcases h2 with ⟨bu, b, rfl⟩ | ⟨hc, rfl⟩
 ·exact ⟨cs, h.same rfl rfl rfl rfl rfl rfl (fun h => h), rfl, rfl, Nat.le_add_right _ _, fun hs => ⟨hs, rfl⟩, fun hs => ⟨rfl, hs⟩, fun h => h⟩
 ·by_cases hs : M.sent = true
  ·rw [fin_sent M k hc hs]
   exact ⟨cs, h.same rfl rfl rfl rfl rfl rfl (fun _ => by show (1 : Int) ≠ 0; decide), rfl, rfl, Nat.le_add_right _ _, fun hs => ⟨hs, rfl⟩, fun h3 => absurd (hs.symm.trans h3) (by decide), fun _ => by show (1 : Int) ≠ 0; decide⟩
  ·have hs0 : M.sent = false := by simpa using hs
   have hcs : cs = [] := by
    by_cases h0 : cs = []
    ·exact h0
    ·exact absurd (h.sent.2 h0) hs
   subst hcs
   obtain ⟨x, hx⟩ := hk
   rw [fin_new M k hc hs0]
   obtain ⟨c, h3, h4⟩ := h.close (M' := ({ M with b := [], busy := false, over := true, got := true, code := k, cause := 1, ecode := k, sent := true, key := M.key', out := M.out ++ putL true 8 M.cl M.nkey (dataC k (⟨#[]⟩ : ByteArray)) } : TM).wl l1 s1) hkd.1 hkd.2 hx hc rfl rfl rfl rfl rfl rfl
   exact ⟨[c], h3, rfl, rfl, h4, fun h5 => absurd h5 hs, fun h5 => (by cases h5), fun _ => by show (1 : Int) ≠ 0; decide⟩
theorem out_step {M : TM} {ms : List (List Int)} {k : Int} {qs cs : List Pc} {F : List Int} (h : Sn M ms k qs cs F) {most : Int} (hm : 1 ≤ most) :
  ∃ (M' : TM) (e : Bool), outM M most = (M.out.take (min most.toNat M.out.length), e, M') ∧ M'.out = M.out.drop (min most.toNat M.out.length) ∧ Sn M' ms k qs cs (F ++ M.out.take (min most.toNat M.out.length)) ∧ M'.cl = M.cl ∧ M'.sent = M.sent ∧ M'.cause = M.cause ∧
   (∀ {m : Bool} {ms2 : List (List Int)} {qs2 : List Pc} {F2 : List Int} {got : List (List Int)}, Rc M m ms2 k qs2 F2 got → Rc M' m ms2 k qs2 F2 got) ∧ (M'.ended = true → M.ended = true ∨ e = true) ∧ (M.cause ≠ 0 → M.out = [] → M'.ended = true) := by
 obtain ⟨n, hn⟩ : ∃ n, n = min most.toNat M.out.length := ⟨_, rfl⟩
 have hn2 : (max most 1).toNat = most.toNat := by rw [show max most 1 = most by omega]
 have hw : putAll (qs ++ cs) = (F ++ M.out.take n) ++ M.out.drop n := by rw [List.append_assoc, List.take_append_drop]; exact h.wire
 have hl : (F ++ M.out.take n).length + (M.out.drop n).length ≤ 16384 + 200 * cs.length := by
  have := h.len
  rw [List.length_append, List.length_take, List.length_drop]
  omega
 unfold outM
 rw [hn2, ← hn]
 by_cases he : M.ended = true
 ·obtain ⟨h1, h2⟩ := h.ended he
  rw [if_pos he]
  rw [h1] at hw hl ⊢
  rw [List.take_nil, List.drop_nil] at *
  exact ⟨M, false, rfl, h1, by rw [List.append_nil]; exact h, rfl, rfl, rfl, fun h => h, .inl, fun _ _ => he⟩
 ·rw [if_neg he]
  by_cases hd : M.out.drop n ≠ []
  ·rw [if_pos hd]
   exact ⟨_, _, rfl, rfl, ⟨hw, h.ok, h.runs, h.cls, h.sent, h.key, h.keys, hl, fun h3 => absurd h3 he⟩, rfl, rfl, rfl, fun h3 => h3.same rfl rfl rfl rfl rfl rfl rfl rfl (fun _ => rfl), fun h3 => absurd h3 he, fun _ h3 => absurd (by rw [h3, List.drop_nil]) hd⟩
  ·rw [if_neg hd]
   have hd0 : M.out.drop n = [] := by simpa using hd
   refine ⟨_, _, rfl, rfl, ⟨hw, h.ok, h.runs, h.cls, h.sent, h.key, h.keys, hl, fun h3 => ⟨hd0, ?_⟩⟩, rfl, rfl, rfl, fun h3 => h3.same rfl rfl rfl rfl rfl rfl rfl rfl (fun _ => rfl), .inr, fun h3 _ => ?_⟩
   ·exact bne_iff_ne.mp h3
   ·exact bne_iff_ne.mpr h3
theorem all_len {m : Bool} {l : List Int} {ps : List Pc} {c : Int} {r : List Int} (h : AllP m l ps c r) : l.all isByte = true → ps.length ≤ l.length := by
 induction h with
 | bad _ => intro _; exact Nat.zero_le _
 | stop _ _ => intro _; exact Nat.zero_le _
 | @frame l ps c r h1 _ ih =>
  intro hl
  have h2 := ih (drop_byte hl _)
  have h3 := (frame_piece h1 hl).2.2.2
  have h4 := h1.room
  rw [List.length_drop] at h2
  simp only [List.length_cons]
  omega
def codK (c : Int) : Int := if toldB c = true then c else 1005
theorem bs_nil : bs (wholeC (⟨#[]⟩ : ByteArray)) = [] := by rfl
theorem codK_close (c : Int) : closeM (dataC c (⟨#[]⟩ : ByteArray)) = (4, [], codK c) ∧ (dataC c (⟨#[]⟩ : ByteArray)).length ≤ 125 ∧ ∀ x ∈ dataC c (⟨#[]⟩ : ByteArray), Byte x := by
 unfold dataC codK
 by_cases h : toldB c = true
 ·have hr : 1000 ≤ c ∧ c ≤ 4999 := by
   simp [toldB] at h
   omega
  rw [if_pos h, if_pos h, bs_nil, List.append_nil]
  have e : 256 * (c / 256 % 256) + c % 256 = c := by omega
  refine ⟨?_, by show 2 ≤ 125; omega, fun x hx => ?_⟩
  ·show (if toldB (256 * (c / 256 % 256) + c % 256) = true then (if validC [] = true then (4, [], 256 * (c / 256 % 256) + c % 256) else (5, [], 1007)) else (5, [], 1002)) = _
   rw [e, if_pos h]
   rfl
  ·simp only [List.mem_cons, List.not_mem_nil, or_false] at hx
   unfold Byte
   rcases hx with rfl | rfl <;> omega
 ·rw [if_neg h, if_neg h]
  exact ⟨rfl, by show 0 ≤ 125; omega, fun x hx => by cases hx⟩
theorem codK_twice (c : Int) : codK (codK c) = codK c := by
 unfold codK
 by_cases h : toldB c = true
 ·rw [if_pos h, if_pos h]
 ·rw [if_neg h]
  rfl
end Go.Proofs.YtpmeapdcjmaeiaaGreatDoor
namespace Go.Proofs.YtpmeapdcjmaeiaaGreatDoor
open Go.RowKit Go.Wa Go.Wb Go.Wc PAll U
section
variable {w0 W W' : World} {tx ty tp tq : Nat} {Mx My Mp Mq M' : TM} {Ix Iy Ip Iq I' : TI}
end
end Go.Proofs.YtpmeapdcjmaeiaaGreatDoor
namespace Go.Proofs.YtpmeapdcjmaeiaaGreatDoor
open Go.RowKit Go.Wa Go.Wb Go.Wc PAll U
theorem tb_kf {W W' : World} {F F' TB : Nat → Prop} (h : ∀ k, TB k → ¬ F k ∧ k < W.heap.size) (hK : Kf W W' F F') : ∀ k, TB k → ¬ F' k ∧ k < W'.heap.size := fun k hk => ⟨fun e => (hK.new k e).elim (h k hk).1 (fun e2 => by have := (h k hk).2; omega), Nat.lt_of_lt_of_le (h k hk).2 hK.size⟩
theorem row_tb {α : Type} {kd : Kd α} {e base : Nat} {W W' : World} {F F' TB : Nat → Prop} {v : Value} {xs : List α} (hr : kd.R e W base TB v xs) (h : ∀ k, TB k → ¬ F k ∧ k < W.heap.size) (hK : Kf W W' F F') : kd.R e W' base TB v xs := Kd.R_step hr (fun k hk hlt => hK.keep k hlt (h k hk).1)
theorem note_at {w : World} {base : Nat} {ok : Nat → Prop} {A : Option Addr} {n c : Nat} {ns : List Nt} (h : Kd.R k37 37 w base ok (.slice A n c) ns) (i : Nat) (hi : i < ns.length) :
  ∃ g A2 c2, A = some ⟨g, 0, none⟩ ∧ w.cell? ⟨g, i * 4, none⟩ = some (.int .u8 ns[i].f0) ∧ w.cell? ⟨g, i * 4 + 1, none⟩ = some (.bool ns[i].f1) ∧ w.cell? ⟨g, i * 4 + 2, none⟩ = some (.slice A2 ns[i].f2.length c2) ∧ w.cell? ⟨g, i * 4 + 3, none⟩ = some (.int .u32 ns[i].f3) ∧
   Kd.R (Kd.int .u8) 5 w base ok (.slice A2 ns[i].f2.length c2) ns[i].f2 := by
 obtain ⟨g, cap, e, hb, hl, cells, hc⟩ := Kd.R_form h (by omega)
 injection e with e1 e2 e3
 subst e1; subst e2; subst e3
 obtain ⟨cs, hlen, hM, hcell, _⟩ := Kd.R_elem h z37 (i : Int) (by omega) (by omega)
 rw [Int.toNat_natCast] at hM hcell
 rw [List.getD_eq_getElem?_getD, List.getElem?_eq_getElem hi, Option.getD_some] at hM
 obtain ⟨v4, rfl, hR⟩ := k37_openM hM
 obtain ⟨A2, c2, rfl⟩ := Kd.R_slice hR
 exact ⟨g, A2, c2, rfl, hcell 0 _ rfl, hcell 1 _ rfl, hcell 2 _ rfl, hcell 3 _ rfl, Kd.R_mono hR (fun k hk => hk.1)⟩
section
variable {w0 W W' : World} {tx ty tp tq : Nat} {Mx My Mp Mq M' : TM} {Ix Iy Ip Iq I' : TI}
end
end Go.Proofs.YtpmeapdcjmaeiaaGreatDoor
namespace Go.Proofs.YtpmeapdcjmaeiaaGreatDoor
open Go.RowKit Go.Wa Go.Wb Go.Wc PAll U
def mM (cl : Bool) (ks : List Int) (k : Int) (o : List Int) : TM := { newT cl ks with key := k, out := o }
theorem sendAll_mM (cl : Bool) (ks : List Int) (k : Int) (o : List Int) (cs : List Pm) : ∃ k' o', sendAll (mM cl ks k o) cs = mM cl ks k' o' := sendAll_with (mM cl ks k o) cs
def F2 (ta : Nat) (Ma : TM) (Ia : TI) (tb : Nat) (Mb : TM) (Ib : TI) (k : Nat) : Prop := TF Ma Ia ta k ∨ TF Mb Ib tb k
section
variable {w0 W W' : World} {ta tb : Nat} {Ma Mb M' : TM} {Ia Ib I' : TI}
theorem F2.kfA (hK : Kf W W' (TF Ma Ia ta) (TF M' I' ta)) : Kf W W' (F2 ta Ma Ia tb Mb Ib) (F2 ta M' I' tb Mb Ib) := ⟨hK.size, fun k hk hn => hK.keep k hk (fun e => hn (.inl e)), fun k hk => hk.elim (fun e => (hK.new k e).imp_left .inl) (fun e => .inl (.inr e))⟩
theorem F2.kfB (hK : Kf W W' (TF Mb Ib tb) (TF M' I' tb)) : Kf W W' (F2 ta Ma Ia tb Mb Ib) (F2 ta Ma Ia tb M' I') := ⟨hK.size, fun k hk hn => hK.keep k hk (fun e => hn (.inr e)), fun k hk => hk.elim (fun e => .inl (.inl e)) (fun e => (hK.new k e).imp_left .inr)⟩
theorem Two.lt (h : Two w0 W ta Ma Ia tb Mb Ib) {k : Nat} (hk : F2 ta Ma Ia tb Mb Ib k) : k < W.heap.size := hk.elim h.a.lt h.b.lt
theorem Two.move (h : Two w0 W ta Ma Ia tb Mb Ib) (hB : Below w0.heap.size w0 W') (hk : ∀ k, F2 ta Ma Ia tb Mb Ib k → W'.heap[k]? = W.heap[k]?) : Two w0 W' ta Ma Ia tb Mb Ib := ⟨h.a.move hB (fun k e => hk k (.inl e)), h.b.move hB (fun k e => hk k (.inr e)), h.dis, h.la, h.lb⟩
theorem okA (h : Two w0 W ta Ma Ia tb Mb Ib) {k : Nat} (hk : ¬ TF M' I' ta k ∧ (TF Ma Ia ta k ∨ W.heap.size ≤ k)) : ¬ F2 ta M' I' tb Mb Ib k := fun e => e.elim hk.1 (fun e => hk.2.elim (fun e2 => h.dis k e2 e) (fun e2 => by have := h.b.lt e; omega))
theorem okB (h : Two w0 W ta Ma Ia tb Mb Ib) {k : Nat} (hk : ¬ TF M' I' tb k ∧ (TF Mb Ib tb k ∨ W.heap.size ≤ k)) : ¬ F2 ta Ma Ia tb M' I' k := fun e => e.elim (fun e => hk.2.elim (fun e2 => h.dis k e e2) (fun e2 => by have := h.a.lt e; omega)) hk.1
theorem okZA {Z : Nat → Prop} (hZ : ∀ k, Z k → ¬ F2 ta Ma Ia tb Mb Ib k ∧ k < W.heap.size) {k : Nat} (hk : ¬ TF M' I' ta k ∧ (TF Ma Ia ta k ∨ W.heap.size ≤ k)) : ¬ Z k := fun e => hk.2.elim (fun e2 => (hZ k e).1 (.inl e2)) (fun e2 => by have := (hZ k e).2; omega)
theorem okZB {Z : Nat → Prop} (hZ : ∀ k, Z k → ¬ F2 ta Ma Ia tb Mb Ib k ∧ k < W.heap.size) {k : Nat} (hk : ¬ TF M' I' tb k ∧ (TF Mb Ib tb k ∨ W.heap.size ≤ k)) : ¬ Z k := fun e => hk.2.elim (fun e2 => (hZ k e).1 (.inr e2)) (fun e2 => by have := (hZ k e).2; omega)
end
def Prog (far : Bool) (i : Nat) (A B : TM) : Prop := if far = true then B.out.length ≤ 16600 - 61 * i ∧ A.out.length ≤ 17000 - 61 * (i - 280) else A.out.length ≤ 16600 - 61 * i ∧ B.out.length ≤ 17000 - 61 * (i - 280)
theorem prog_step {far : Bool} {i : Nat} {A A1 A2 B B1 B2 : TM} {p : Int} (hp : 30 ≤ p) (h : Prog far i A B) (hf : if far = true then B.sent = true else A.sent = true)
  (hi : (far = true → A.sent = false → i ≤ 279) ∧ (far = false → B.sent = false → i ≤ 279)) (bA : A.out.length ≤ 16584) (bB : B.out.length ≤ 16584)
  (h1 : A1.out.length = A.out.length - min (1 + p * 3).toNat A.out.length) (s1 : A1.sent = A.sent)
  (h2 : B1.out.length ≤ B.out.length + 131) (h2' : B.sent = true → B1.out.length = B.out.length)
  (h3 : B2.out.length = B1.out.length - min (1 + p * 2).toNat B1.out.length)
  (h4 : A2.out.length ≤ A1.out.length + 131) (h4' : A1.sent = true → A2.out.length = A1.out.length) : Prog far (i + 1) A2 B2 := by
 have p3 : 91 ≤ (1 + p * 3).toNat := by omega
 have p2 : 61 ≤ (1 + p * 2).toNat := by omega
 unfold Prog at h ⊢
 cases far with
 | true =>
  rw [if_pos rfl] at h hf ⊢
  have h2' := h2' hf
  refine ⟨by omega, ?_⟩
  by_cases hs : A.sent = true
  ·have := h4' (s1.trans hs)
   omega
  ·have := hi.1 rfl (by simpa using hs)
   omega
 | false =>
  rw [if_neg (by decide)] at h hf ⊢
  have h4' := h4' (s1.trans hf)
  refine ⟨by omega, ?_⟩
  by_cases hs : B.sent = true
  ·have := h2' hs
   omega
  ·have := hi.2 rfl (by simpa using hs)
   omega
structure Pl (k : Int) (far : Bool) (p : Int) (msA msB : List (List Int)) (i : Nat) (A B : TM) (qa ca : List Pc) (FA : List Int) (qb cb : List Pc) (FB : List Int) (got had : List (List Int)) (ae be : Bool) : Prop where
 acl : A.cl = true
 bcl : B.cl = false
 sa : Sn A msA k qa ca FA
 sb : Sn B msB k qb cb FB
 ra : Rc B true msA k qa FA got
 rb : Rc A false msB k qb FB had
 first : if far = true then B.sent = true else A.sent = true
 ea : A.ended = true → ae = true
 eb : B.ended = true → be = true
 prog : 30 ≤ p → Prog far i A B
 late : 30 ≤ p → 700 < i → ae = true ∧ be = true
section
variable {k : Int} {far : Bool} {p : Int} {msA msB : List (List Int)} {i : Nat} {A B : TM} {qa ca : List Pc} {FA : List Int} {qb cb : List Pc} {FB : List Int} {got had : List (List Int)} {ae be : Bool}
theorem Pl.soon (h : Pl k far p msA msB i A B qa ca FA qb cb FB got had ae be) (hp : 30 ≤ p) : (far = true → A.sent = false → i ≤ 279) ∧ (far = false → B.sent = false → i ≤ 279) := by
 have hg := h.prog hp
 have hf := h.first
 unfold Prog at hg
 constructor
 ·intro e hs
  rw [if_pos e] at hg hf
  have hn : B.out ≠ [] := fun e2 => by
   have := (h.rb.all_heard h.sb h.bcl.symm e2 hf).2.2.2
   rw [hs] at this
   cases this
  have := List.length_pos_iff.2 hn
  omega
 ·intro e hs
  rw [if_neg (by rw [e]; decide)] at hg hf
  have hn : A.out ≠ [] := fun e2 => by
   have := (h.ra.all_heard h.sa h.acl.symm e2 hf).2.2.2
   rw [hs] at this
   cases this
  have := List.length_pos_iff.2 hn
  omega
theorem Pl.all (h : Pl k far p msA msB i A B qa ca FA qb cb FB got had ae be) (hp : 30 ≤ p) (hi : 700 ≤ i) : (A.cause = 1 ∧ A.ecode = k ∧ had = msB ∧ A.out = []) ∧ (B.cause = 1 ∧ B.ecode = k ∧ got = msA ∧ B.out = []) := by
 have hg := h.prog hp
 have hf := h.first
 unfold Prog at hg
 cases far with
 | true =>
  rw [if_pos rfl] at hg hf
  have hb : B.out = [] := List.length_eq_zero_iff.1 (by omega)
  have ha : A.out = [] := List.length_eq_zero_iff.1 (by omega)
  have h1 := h.rb.all_heard h.sb h.bcl.symm hb hf
  have h2 := h.ra.all_heard h.sa h.acl.symm ha h1.2.2.2
  exact ⟨⟨h1.1, h1.2.1, h1.2.2.1, ha⟩, ⟨h2.1, h2.2.1, h2.2.2.1, hb⟩⟩
 | false =>
  rw [if_neg (by decide)] at hg hf
  have ha : A.out = [] := List.length_eq_zero_iff.1 (by omega)
  have hb : B.out = [] := List.length_eq_zero_iff.1 (by omega)
  have h2 := h.ra.all_heard h.sa h.acl.symm ha hf
  have h1 := h.rb.all_heard h.sb h.bcl.symm hb h2.2.2.2
  exact ⟨⟨h1.1, h1.2.1, h1.2.2.1, ha⟩, ⟨h2.1, h2.2.1, h2.2.2.1, hb⟩⟩
theorem Pl.start (hA : Sn A msA k qa ca []) (hB : Sn B msB k qb cb []) (a1 : A.cl = true) (b1 : B.cl = false) (ra : Rc B true msA k qa [] []) (rb : Rc A false msB k qb [] []) (hf : if far = true then B.sent = true else A.sent = true) (ea : A.ended = false) (eb : B.ended = false) : Pl k far p msA msB 0 A B qa ca [] qb cb [] [] [] false false :=
 ⟨a1, b1, hA, hB, ra, rb, hf, fun e => (by rw [ea] at e; cases e), fun e => (by rw [eb] at e; cases e), fun _ => by
  have h1 := hA.bound.2.2.1
  have h2 := hB.bound.2.2.1
  unfold Prog
  split <;> omega, fun _ e => absurd e (by omega)⟩
theorem Pl.round (h : Pl k far p msA msB i A B qa ca FA qb cb FB got had ae be) {A1 A2 B1 B2 : TM} {e1 e2 : Bool} {ca' cb' : List Pc} {FA' FB' : List Int} {n1 n2 : List (List Int)} (hp0 : 0 ≤ p)
  (sa2 : Sn A2 msA k qa ca' FA') (sb2 : Sn B2 msB k qb cb' FB') (ra2 : Rc B2 true msA k qa FA' (got ++ n1)) (rb2 : Rc A2 false msB k qb FB' (had ++ n2))
  (a1 : A1.out = A.out.drop (min (1 + p * 3).toNat A.out.length)) (a2 : A1.cl = A.cl) (a3 : A1.sent = A.sent) (a4 : A1.ended = true → A.ended = true ∨ e1 = true) (a5 : A.cause ≠ 0 → A.out = [] → A1.ended = true)
  (b1 : B1.cl = B.cl ∧ B1.ended = B.ended ∧ B1.out.length ≤ B.out.length + 131 ∧ (B.sent = true → B1.sent = true ∧ B1.out = B.out) ∧ (B1.sent = false → B1.out = B.out ∧ B.sent = false) ∧ (B.cause ≠ 0 → B1.cause ≠ 0))
  (b2 : B2.out = B1.out.drop (min (1 + p * 2).toNat B1.out.length)) (b3 : B2.cl = B1.cl) (b4 : B2.sent = B1.sent) (b5 : B2.ended = true → B1.ended = true ∨ e2 = true) (b6 : B1.cause ≠ 0 → B1.out = [] → B2.ended = true)
  (c1 : A2.cl = A1.cl ∧ A2.ended = A1.ended ∧ A2.out.length ≤ A1.out.length + 131 ∧ (A1.sent = true → A2.sent = true ∧ A2.out = A1.out) ∧ (A2.sent = false → A2.out = A1.out ∧ A1.sent = false) ∧ (A1.cause ≠ 0 → A2.cause ≠ 0)) :
  Pl k far p msA msB (i + 1) A2 B2 qa ca' FA' qb cb' FB' (got ++ n1) (had ++ n2) (ae || e1) (be || e2) := by
 obtain ⟨b11, b12, b13, b14, b15, b16⟩ := b1
 obtain ⟨c11, c12, c13, c14, c15, c16⟩ := c1
 have ha : A2.ended = true → (ae || e1) = true := fun e => by
  rcases a4 (c12 ▸ e) with e | e
  ·rw [h.ea e]; rfl
  ·rw [e, Bool.or_true]
 have hb : B2.ended = true → (be || e2) = true := fun e => by
  rcases b5 e with e | e
  ·rw [h.eb (b12 ▸ e)]; rfl
  ·rw [e, Bool.or_true]
 refine ⟨c11.trans (a2.trans h.acl), b3.trans (b11.trans h.bcl), sa2, sb2, ra2, rb2, ?_, ha, hb, fun hp => ?_, fun hp hi => ?_⟩
 ·have hf := h.first
  split
  ·rename_i e
   rw [if_pos e] at hf
   rw [b4]
   exact (b14 hf).1
  ·rename_i e
   rw [if_neg e] at hf
   exact (c14 (a3.trans hf)).1
 ·refine prog_step hp (h.prog hp) h.first (h.soon hp) h.sa.bound.2.2.1 h.sb.bound.2.2.1 (by rw [a1, List.length_drop]) a3 b13 (fun e => by rw [(b14 e).2]) (by rw [b2, List.length_drop]) c13 (fun e => by rw [(c14 e).2])
 ·by_cases h7 : 700 ≤ i
  ·obtain ⟨⟨h1, _, _, h2⟩, ⟨h3, _, _, h4⟩⟩ := h.all hp h7
   have hbs : B.sent = true := by
    have := h.ra
    cases this with
    | live hL _ _ _ _ _ _ => exact absurd hL.cause (by rw [h3]; decide)
    | done _ _ hs _ => exact hs
   refine ⟨ha (c12.trans (a5 (by rw [h1]; decide) h2)), hb (b6 (b16 (by rw [h3]; decide)) ?_)⟩
   rw [(b14 hbs).2, h4]
  ·omega
end
theorem note_of {n2 : List (List Int)} {tl ns : List Nt} {k : Int} (hn : ns = n2.map n1 ++ tl) (ht : tl = [] ∨ ∃ y, tl = [⟨4, false, y, k⟩]) {j : Nat} (hj : j < ns.length) : (∃ (h2 : j < n2.length), ns[j] = n1 n2[j]) ∨ (n2.length ≤ j ∧ ∃ y, ns[j] = ⟨4, false, y, k⟩) := by
 subst hn
 by_cases h2 : j < n2.length
 ·exact .inl ⟨h2, by rw [List.getElem_append_left (by rw [List.length_map]; exact h2), List.getElem_map]⟩
 ·refine .inr ⟨by omega, ?_⟩
  rcases ht with rfl | ⟨y, rfl⟩
  ·rw [List.append_nil, List.length_map] at hj
   omega
  ·rw [List.length_append, List.length_map] at hj
   simp only [List.length_cons, List.length_nil] at hj
   have : j = n2.length := by omega
   subst this
   refine ⟨y, ?_⟩
   rw [List.getElem_append_right (by rw [List.length_map]; omega)]
   simp
end Go.Proofs.YtpmeapdcjmaeiaaGreatDoor
namespace Go.Proofs.YtpmeapdcjmaeiaaGreatDoor
open Go.RowKit Go.Wa Go.Wb Go.Wc PAll U
theorem closeT_no {M : TM} (h : M.cause ≠ 0) (c : Int) (r : ByteArray) : closeT M c r = M := by unfold closeT; rw [if_pos h]
theorem closeT_eq {M : TM} (h : M.cause = 0) (c : Int) (r : ByteArray) : closeT M c r = if (sendM M (dataC c r)).got = true then { sendM M (dataC c r) with cause := 1, ecode := (sendM M (dataC c r)).code } else sendM M (dataC c r) := by unfold closeT; rw [if_neg (by simpa using h)]
theorem tclose {w0 W : World} {t : Nat} {M : TM} {I : TI} (h : Tn w0 W t M I) {code : Int} {reason : ByteArray} {kc : Nat} (hbr : message_Close.f kc code reason = some (true, 8, false, 0, dataC code reason)) (hdl : (dataC code reason).length ≤ 125 ∧ ∀ x ∈ dataC code reason, Byte x) (hkb : M.key < 9223372036854775807) (hol : M.out.length ≤ 1000000) : Calls Tryz.prog 14 #[.pointer (some ⟨t, 0, none⟩), .int .u32 code, .string reason] W (fun e w' => e = .returned (.tuple #[]) ∧ ∃ vo', Tn w0 w' t (closeT M code reason) { I with vo := vo' } ∧ Kf W w' (TF M I t) (TF (closeT M code reason) { I with vo := vo' } t)) := by
 have hu81 := Tryz.underlying81
 have HKB := a_ (And.intro hkb hol)
 have HDL0 := a_ hdl
 have t5 : W.cell? ⟨t, 5, none⟩ = some (.pointer (some ⟨I.dg, 0, none⟩)) := (blk_cell h.blk 5).trans rfl
 have H1 := a_ h
 have HBR := a_ hbr
 clear h hkb hol hdl hbr
 go_enter Tryz.func14, Tryz.ntmps14
 go_wp2_with fail
 by_cases hca : M.cause = 0
 ·by_cases hs : M.sent = true
  ·by_cases hg : M.got = true
   ·have HB : Aside0 ({ M with sent := M.sent, got := M.got, code := M.code, cause := 1, ecode := M.code } = closeT M code reason) := ⟨by rw [closeT_eq hca, show sendM M (dataC code reason) = M from if_pos hs, if_pos hg]⟩
    refine (closing_Door_Close.calls kc I.dg M.sent M.got M.code M.cause M.ecode code reason false 0 false 0 [] false M.sent M.got M.code 1 M.code w0 _ H1.out.dr H1.out.bel (by unfold closing_Door_Close.f closing_Door_Through.f closing_Door_End.f; simp only [Option.bind_some]; rw [hca, hs, hg]; rfl)).mono ?_
    rintro e w2 ⟨v4, rfl, hr4, hI2, hB2, hK2⟩
    obtain ⟨A4, c4, rfl⟩ := Kd.R_slice hr4
    obtain ⟨hT2, hK12⟩ := H1.out.setDoor hI2 hB2 hK2
    have HT2 := a_ hT2
    have HK12 := a_ hK12
    clear hr4 hI2 hB2 hK2 hT2 hK12 t5
    go_wp2_with fail
    refine (tshut_no rfl).mono ?_
    rintro e w3 ⟨rfl, hb3⟩
    have HT3 := a_ (HT2.out.below hb3)
    have K13 := a_ (HK12.out.below hb3)
    clear hb3 HT2 HK12
    go_wp2_with fail
    exact bodyPost_end (v := .tuple #[]) (by simp [results, Tryz.results14, go_sem]) rfl ⟨rfl, I.vo, HB.out ▸ HT3.out, HB.out ▸ K13.out⟩
   ·have hg : M.got = false := by simpa using hg
    have HB : Aside0 (M = closeT M code reason) := ⟨by rw [closeT_eq hca, show sendM M (dataC code reason) = M from if_pos hs, if_neg (by simp [hg])]⟩
    refine (closing_Door_Close.calls kc I.dg M.sent M.got M.code M.cause M.ecode code reason false 0 false 0 [] false M.sent M.got M.code M.cause M.ecode w0 _ H1.out.dr H1.out.bel (by unfold closing_Door_Close.f closing_Door_Through.f closing_Door_End.f; simp only [Option.bind_some]; rw [hca, hs, hg]; rfl)).mono ?_
    rintro e w2 ⟨v4, rfl, hr4, hI2, hB2, hK2⟩
    obtain ⟨A4, c4, rfl⟩ := Kd.R_slice hr4
    obtain ⟨hT2, hK12⟩ := H1.out.setDoor hI2 hB2 hK2
    have HT2 := a_ hT2
    have HK12 := a_ hK12
    clear hr4 hI2 hB2 hK2 hT2 hK12 t5
    go_wp2_with fail
    refine (tshut_no rfl).mono ?_
    rintro e w3 ⟨rfl, hb3⟩
    have HT3 := a_ (HT2.out.below hb3)
    have K13 := a_ (HK12.out.below hb3)
    clear hb3 HT2 HK12
    go_wp2_with fail
    exact bodyPost_end (v := .tuple #[]) (by simp [results, Tryz.results14, go_sem]) rfl ⟨rfl, I.vo, HB.out ▸ HT3.out, HB.out ▸ K13.out⟩
  ·by_cases hg : M.got = true
   ·have hs : M.sent = false := by simpa using hs
    have hsd : sendM M (dataC code reason) = putM { M with sent := true } true 8 (dataC code reason) := if_neg (by simp [hs])
    have HB : Aside0 (putM { M with sent := true, got := M.got, code := M.code, cause := 1, ecode := M.code } true 8 (dataC code reason) = closeT M code reason) := ⟨by rw [closeT_eq hca, hsd, if_pos (show (putM { M with sent := true } true 8 (dataC code reason)).got = true from hg)] <;> rfl⟩
    refine (closing_Door_Close.calls kc I.dg M.sent M.got M.code M.cause M.ecode code reason true 8 false 0 (dataC code reason) true true M.got M.code 1 M.code w0 _ H1.out.dr H1.out.bel (by unfold closing_Door_Close.f closing_Door_Through.f closing_Door_End.f; simp only [Option.bind_some]; rw [hca, hs, hg]; unfold closing_Door_send.f; rw [HBR.out]; rfl)).mono ?_
    rintro e w2 ⟨v4, rfl, hr4, hI2, hB2, hK2⟩
    obtain ⟨A4, c4, rfl⟩ := Kd.R_slice hr4
    obtain ⟨hT2, hK12⟩ := H1.out.setDoor hI2 hB2 hK2
    have HA2 := a_ (Ap.of_row (F := TF { M with sent := true, got := M.got, code := M.code, cause := 1, ecode := M.code } I t) hr4 (fun k e hk => (hK12.new k hk).elim (fun e2 => by have := H1.out.lt e2; have := Kd.R_base hr4 k e; omega) (fun e2 => by
     have := hT2.lt hk
     have h3 := Kd.R_base hr4 k e
     exact absurd (H1.out.lt (show TF M I t k from hk)) (by omega))))
    have HC2 := a_ (Kd.R_reads' hr4).2.1
    have HT2 := a_ hT2
    have HK12 := a_ hK12
    clear hr4 hI2 hB2 hK2 hT2 hK12 t5 hsd
    obtain ⟨dd, hdd⟩ : ∃ dd, dd = dataC code reason := ⟨_, rfl⟩
    have HDL : Aside0 (dd.length ≤ 125 ∧ ∀ x ∈ dd, Byte x) := ⟨by rw [hdd]; exact HDL0.out⟩
    rw [← hdd] at HA2 HC2 HB ⊢
    clear hdd
    go_wp2_with fail
    refine (tshut_yes HT2.out HA2.out HC2.out HDL.out.2 (by decide) (may8 ⟨by decide, by decide⟩ HDL.out.1) HKB.out.1 HKB.out.2).mono ?_
    rintro e w3 ⟨rfl, vo', hT3, hK23⟩
    have HT3 := a_ hT3
    have K13 := a_ (HK12.out.trans hK23)
    clear hT3 hK23 HT2 HK12
    go_wp2_with fail
    exact bodyPost_end (v := .tuple #[]) (by simp [results, Tryz.results14, go_sem]) rfl ⟨rfl, vo', HB.out ▸ HT3.out, HB.out ▸ K13.out⟩
   ·have hs : M.sent = false := by simpa using hs
    have hsd : sendM M (dataC code reason) = putM { M with sent := true } true 8 (dataC code reason) := if_neg (by simp [hs])
    have hg : M.got = false := by simpa using hg
    have HB : Aside0 (putM { M with sent := true, got := M.got, code := M.code, cause := M.cause, ecode := M.ecode } true 8 (dataC code reason) = closeT M code reason) := ⟨by rw [closeT_eq hca, hsd, if_neg (show ¬ (putM { M with sent := true } true 8 (dataC code reason)).got = true from fun e => by rw [show (putM { M with sent := true } true 8 (dataC code reason)).got = M.got from rfl, hg] at e; cases e)] <;> rfl⟩
    refine (closing_Door_Close.calls kc I.dg M.sent M.got M.code M.cause M.ecode code reason true 8 false 0 (dataC code reason) true true M.got M.code M.cause M.ecode w0 _ H1.out.dr H1.out.bel (by unfold closing_Door_Close.f closing_Door_Through.f closing_Door_End.f; simp only [Option.bind_some]; rw [hca, hs, hg]; unfold closing_Door_send.f; rw [HBR.out]; rfl)).mono ?_
    rintro e w2 ⟨v4, rfl, hr4, hI2, hB2, hK2⟩
    obtain ⟨A4, c4, rfl⟩ := Kd.R_slice hr4
    obtain ⟨hT2, hK12⟩ := H1.out.setDoor hI2 hB2 hK2
    have HA2 := a_ (Ap.of_row (F := TF { M with sent := true, got := M.got, code := M.code, cause := M.cause, ecode := M.ecode } I t) hr4 (fun k e hk => (hK12.new k hk).elim (fun e2 => by have := H1.out.lt e2; have := Kd.R_base hr4 k e; omega) (fun e2 => by
     have := hT2.lt hk
     have h3 := Kd.R_base hr4 k e
     exact absurd (H1.out.lt (show TF M I t k from hk)) (by omega))))
    have HC2 := a_ (Kd.R_reads' hr4).2.1
    have HT2 := a_ hT2
    have HK12 := a_ hK12
    clear hr4 hI2 hB2 hK2 hT2 hK12 t5 hsd
    obtain ⟨dd, hdd⟩ : ∃ dd, dd = dataC code reason := ⟨_, rfl⟩
    have HDL : Aside0 (dd.length ≤ 125 ∧ ∀ x ∈ dd, Byte x) := ⟨by rw [hdd]; exact HDL0.out⟩
    rw [← hdd] at HA2 HC2 HB ⊢
    clear hdd
    go_wp2_with fail
    refine (tshut_yes HT2.out HA2.out HC2.out HDL.out.2 (by decide) (may8 ⟨by decide, by decide⟩ HDL.out.1) HKB.out.1 HKB.out.2).mono ?_
    rintro e w3 ⟨rfl, vo', hT3, hK23⟩
    have HT3 := a_ hT3
    have K13 := a_ (HK12.out.trans hK23)
    clear hT3 hK23 HT2 HK12
    go_wp2_with fail
    exact bodyPost_end (v := .tuple #[]) (by simp [results, Tryz.results14, go_sem]) rfl ⟨rfl, vo', HB.out ▸ HT3.out, HB.out ▸ K13.out⟩
 ·have hcb : (M.cause != 0) = true := by simpa using hca
  have HB : Aside0 (M = closeT M code reason) := ⟨by rw [closeT_no hca]⟩
  refine (closing_Door_Close.calls kc I.dg M.sent M.got M.code M.cause M.ecode code reason false 0 false 0 [] false M.sent M.got M.code M.cause M.ecode w0 _ H1.out.dr H1.out.bel (by unfold closing_Door_Close.f closing_Door_Through.f closing_Door_End.f; simp only [Option.bind_some]; rw [hcb]; rfl)).mono ?_
  rintro e w2 ⟨v4, rfl, hr4, hI2, hB2, hK2⟩
  obtain ⟨A4, c4, rfl⟩ := Kd.R_slice hr4
  obtain ⟨hT2, hK12⟩ := H1.out.setDoor hI2 hB2 hK2
  have HT2 := a_ hT2
  have HK12 := a_ hK12
  clear hr4 hI2 hB2 hK2 hT2 hK12 t5
  go_wp2_with fail
  refine (tshut_no rfl).mono ?_
  rintro e w3 ⟨rfl, hb3⟩
  have HT3 := a_ (HT2.out.below hb3)
  have K13 := a_ (HK12.out.below hb3)
  clear hb3 HT2 HK12
  go_wp2_with fail
  exact bodyPost_end (v := .tuple #[]) (by simp [results, Tryz.results14, go_sem]) rfl ⟨rfl, I.vo, HB.out ▸ HT3.out, HB.out ▸ K13.out⟩
theorem tend {w0 W : World} {t : Nat} {M : TM} {I : TI} (h : Tn w0 W t M I) : Calls Tryz.prog 16 #[.pointer (some ⟨t, 0, none⟩)] W (fun e w' => e = .returned (.agg #[.int .u8 M.cause, .int .u32 M.ecode]) ∧ Tn w0 w' t M I ∧ Kf W w' (TF M I t) (TF M I t)) := by
 have hu43 := Tryz.underlying43
 have h1 := h.below (below_alloc (Below.refl W.heap.size W) (.cells #[.int .u8 0, .int .u32 0] 43))
 have hn1 : (W.alloc (.cells #[.int .u8 0, .int .u32 0] 43)).heap[W.heap.size]? = some (.cells #[.int .u8 0, .int .u32 0] 43 (0, 0)) := last_at _ _ _ rfl
 have HNT := a_ (fun e : TF M I t W.heap.size => Nat.lt_irrefl _ (h.lt e))
 have HLO := a_ h.bel.size
 have HK1 := a_ ((Kf.refl W (TF M I t)).below (below_alloc (Below.refl W.heap.size W) (.cells #[.int .u8 0, .int .u32 0] 43)))
 clear h
 go_enter Tryz.func16, Tryz.ntmps16
 go_upto_region 1 with fail
 generalize W.alloc (.cells #[.int .u8 0, .int .u32 0] 43) = w1 at h1 hn1 HK1 ⊢
 have H1 := a_ h1
 have HN1 := a_ hn1
 have t5 : w1.cell? ⟨t, 5, none⟩ = some (.pointer (some ⟨I.dg, 0, none⟩)) := (blk_cell h1.blk 5).trans rfl
 clear h1 hn1
 go_wp2_with fail
 refine (closing_Door_End.calls I.dg M.sent M.got M.code M.cause M.ecode M.cause M.ecode M.sent M.got M.code M.cause M.ecode w0 _ H1.out.dr H1.out.bel rfl).mono ?_
 rintro e w2 ⟨rfl, hI2, hB2, hK2⟩
 obtain ⟨hT2, hK12⟩ := H1.out.setDoor hI2 hB2 hK2
 have HT2 : Aside0 (Tn w0 w2 t M I) := ⟨hT2⟩
 have HK12 : Aside0 (Kf w1 w2 (TF M I t) (TF M I t)) := ⟨hK12⟩
 clear hI2 hB2 hK2 hT2 hK12 t5
 have HN2 : Aside0 (w2.heap[W.heap.size]? = some (.cells #[.int .u8 0, .int .u32 0] 43 (0, 0))) := ⟨(HK12.out.keep _ (blk_lt HN1.out) HNT.out).trans HN1.out⟩
 have hne : ∀ k, k ≠ W.heap.size → ((w2.setCell ⟨W.heap.size, 0, none⟩ (.int .u8 M.cause)).setCell ⟨W.heap.size, 1, none⟩ (.int .u32 M.ecode)).heap[k]? = w2.heap[k]? := fun k e => (Below.heap_setCell _ _ _ k e).trans (Below.heap_setCell _ _ _ k e)
 have HT4 := a_ (HT2.out.move (Below.setCell (Below.setCell HT2.out.bel (p := ⟨W.heap.size, 0, none⟩) HLO.out _) (p := ⟨W.heap.size, 1, none⟩) HLO.out _) (fun k hk => hne k (fun e => HNT.out (e ▸ hk))))
 have HK3 := a_ (HK1.out.trans HK12.out)
 have HK4 : Aside0 (Kf W ((w2.setCell ⟨W.heap.size, 0, none⟩ (.int .u8 M.cause)).setCell ⟨W.heap.size, 1, none⟩ (.int .u32 M.ecode)) (TF M I t) (TF M I t)) := ⟨⟨Nat.le_trans HK3.out.size (by simp [World.setCell]), fun k hlt hn => (hne k (by omega)).trans (HK3.out.keep k hlt hn), HK3.out.new⟩⟩
 clear hne
 obtain ⟨n_0, n_f0, n_1, n_f1⟩ := xf2_ HN2.out
 have n_l := blk_lt HN2.out
 go_wp2_with fail
 exact bodyPost_ret (v := .agg #[.int .u8 M.cause, .int .u32 M.ecode]) (by simp [results, Tryz.results16, go_sem, n_0, n_1]) rfl ⟨rfl, HT4.out, HK4.out⟩
def BgR (W : World) (n : Nat) (mu : Nat) (iv : Value) (wr : World) : Prop := ∃ (i : Nat), iv = .int .i64 (i : Nat) ∧ i + mu = n ∧ Below W.heap.size W wr
theorem begins_yes {W : World} {A B : Option Addr} {c d : Nat} {xs ys : List (List Int)} (hx : Kd.C (Kd.slice 5 (Kd.int .u8)) W A xs.length xs) (hy : Kd.C (Kd.slice 5 (Kd.int .u8)) W B ys.length ys) (hp : ∃ l, ys = xs ++ l) (hle : xs.length ≤ 100000) : Calls Tryz.prog 15 #[.slice A xs.length c, .slice B ys.length d] W fun e w' => e = .returned (.bool true) ∧ Below W.heap.size W w' := by
 obtain ⟨l, hl⟩ := hp
 have HYL : Aside0 (xs.length ≤ ys.length) := ⟨by rw [hl, List.length_append]; omega⟩
 have HYE := a_ hl
 have HX := a_ hx
 have HY := a_ hy
 have HLE := a_ hle
 clear hx hy hl hle
 have hgt : ¬ (ys.length : Int) < (xs.length : Int) := by have := HYL.out; omega
 go_enter Tryz.func15, Tryz.ntmps15
 go_wp2_with fail
 go_loopg [13] xs.length (fun mu iv wr => BgR W xs.length mu iv wr)
 case atStart => exact ⟨0, rfl, by omega, Below.refl _ _⟩
 case round =>
  obtain ⟨i, rfl, hi, hbr⟩ := hrel
  have HI := a_ hi
  have HBR := a_ hbr
  clear hi hbr
  by_cases hlt : i < xs.length
  ·have hwi : wrap64 ((i : Int) + 1) = (i : Int) + 1 := by have := HLE.out; unfold wrap64; omega
   obtain ⟨b, hbe⟩ : ∃ b, b = xs.getD i [] := ⟨_, rfl⟩
   have hbe2 : b = ys.getD i [] := by
    rw [hbe, HYE.out, List.getD_eq_getElem?_getD, List.getD_eq_getElem?_getD, List.getElem?_append_left hlt]
   have hlty : (i : Int) < (ys.length : Int) := by have := HYL.out; omega
   obtain ⟨ad, cs, ead, hcl, hK, hcell⟩ := Kd.C_get (Kd.C_below HX.out HBR.out) [] (i : Int) (by omega) (by omega)
   subst ead
   rw [Int.toNat_natCast, ← hbe] at hK
   obtain ⟨A1, c1, rfl, hc1, hCb⟩ := hK
   have hce := hcell 0 _ rfl
   rw [Int.toNat_natCast, show i * (Kd.slice 5 (Kd.int .u8)).sz + 0 = i from Nat.mul_one i] at hce
   obtain ⟨ae, cs2, eae, hcl2, hK2, hcell2⟩ := Kd.C_get (Kd.C_below HY.out HBR.out) [] (i : Int) (by omega) (by omega)
   subst eae
   rw [Int.toNat_natCast, ← hbe2] at hK2
   obtain ⟨A2, c2, rfl, hc2, hCb2⟩ := hK2
   have hce2 := hcell2 0 _ rfl
   rw [Int.toNat_natCast, show i * (Kd.slice 5 (Kd.int .u8)).sz + 0 = i from Nat.mul_one i] at hce2
   have HC1 := a_ hCb
   have HC2 := a_ hCb2
   clear hcl hcell hcl2 hcell2 hbe hbe2 hCb hCb2 hc1 hc2
   have hst : ((strOfNums b).toList == (strOfNums b).toList) = true := beq_self_eq_true _
   have hsn : ((strOfNums b).toList != (strOfNums b).toList) = false := by rw [bne, hst]; rfl
   have hip : (0 : Int) ≤ (i : Int) := by omega
   have hlti : (i : Int) < (xs.length : Int) := by omega
   go_upto_region 6 with fail
   refine wp_region_noPanic ?_
   refine wp_region_held_drew (S := fun w' => Aside0 (wr.drew = w') ∧ w'.cell? (ad.add i) = some (.slice A1 b.length c1) ∧ w'.cell? (ae.add i) = some (.slice A2 b.length c2) ∧ (convert 27 9 (.slice A1 b.length c1)).run Tryz.prog w' = .ok (.string (strOfNums b)) w' ∧ (convert 27 9 (.slice A2 b.length c2)).run Tryz.prog w' = .ok (.string (strOfNums b)) w') (by kernel_rfl) (⟨⟨rfl⟩, hce, hce2, Kd.C_string Tryz.underlying27 Tryz.underlying5 Tryz.underlying9 (Kd.C_drew HC1.out), Kd.C_string Tryz.underlying27 Tryz.underlying5 Tryz.underlying9 (Kd.C_drew HC2.out)⟩) (fun hHeld => ?_)
   refine takeP 0 16 ?_
   refine takeP 1 17 ?_
   refine takeP 2 18 ?_
   refine takeP 3 19 ?_
   refine takeP 4 20 ?_
   refine takeP 5 21 ?_
   refine takeP 6 22 ?_
   refine takeP 7 23 ?_
   refine takeP 8 24 ?_
   refine takeP 9 25 ?_
   refine takeP 10 26 ?_
   refine wpAnyH_done (by kernel_rfl) ?_ _
   refine NoPanic.normal ?_
   clear hHeld
   go_wp2_with fail
   go_roundg (xs.length - (i + 1))
   case measure => have := HI.out; omega
   case rel => exact ⟨i + 1, by rw [hwi, show ((i + 1 : Nat) : Int) = (i : Int) + 1 by omega], (by have := HI.out; omega), below_drew HBR.out⟩
  ·have hlti : ¬ (i : Int) < (xs.length : Int) := by omega
   go_wp2_with fail
   go_ret
   exact ⟨rfl, HBR.out⟩
end Go.Proofs.YtpmeapdcjmaeiaaGreatDoor
namespace Go.Proofs.YtpmeapdcjmaeiaaGreatDoor
open Go.RowKit Go.Wa Go.Wb Go.Wc PAll
def reqL : List S114 := [(⟨(⟨#[58, 109, 101, 116, 104, 111, 100]⟩ : ByteArray), (⟨#[67, 79, 78, 78, 69, 67, 84]⟩ : ByteArray), false⟩ : S114), (⟨(⟨#[58, 112, 114, 111, 116, 111, 99, 111, 108]⟩ : ByteArray), (⟨#[119, 101, 98, 115, 111, 99, 107, 101, 116]⟩ : ByteArray), false⟩ : S114), (⟨(⟨#[58, 115, 99, 104, 101, 109, 101]⟩ : ByteArray), (⟨#[104, 116, 116, 112, 115]⟩ : ByteArray), false⟩ : S114), (⟨(⟨#[58, 112, 97, 116, 104]⟩ : ByteArray), ⟨#[47]⟩, false⟩ : S114), (⟨(⟨#[58, 97, 117, 116, 104, 111, 114, 105, 116, 121]⟩ : ByteArray), ⟨#[97]⟩, false⟩ : S114), (⟨(⟨#[115, 101, 99, 45, 119, 101, 98, 115, 111, 99, 107, 101, 116, 45, 118, 101, 114, 115, 105, 111, 110]⟩ : ByteArray), (⟨#[49, 51]⟩ : ByteArray), false⟩ : S114)]
theorem req_f : tunnel_Request.f (⟨#[47]⟩ : ByteArray) (⟨#[97]⟩ : ByteArray) = some reqL := rfl
theorem right_f : tunnel_right.f reqL = some true := by decide +kernel
theorem val_f (n : ByteArray) : tunnel_value.f reqL n = some (valC n reqL) := rfl
theorem bool_toList (a b : ByteArray) : (a.toList == b.toList) = (a.data.toList == b.data.toList) := by rw [ByteArray.toList_eq, ByteArray.toList_eq]
theorem v_method : valC (⟨#[58, 109, 101, 116, 104, 111, 100]⟩ : ByteArray) reqL = (⟨#[67, 79, 78, 78, 69, 67, 84]⟩, true) := by
 simp [valC, isNm, bool_toList, reqL, List.find?]
theorem v_scheme : valC (⟨#[58, 115, 99, 104, 101, 109, 101]⟩ : ByteArray) reqL = (⟨#[104, 116, 116, 112, 115]⟩, true) := by
 simp [valC, isNm, bool_toList, reqL, List.find?]
theorem v_path : valC (⟨#[58, 112, 97, 116, 104]⟩ : ByteArray) reqL = (⟨#[47]⟩, true) := by
 simp [valC, isNm, bool_toList, reqL, List.find?]
theorem v_auth : valC (⟨#[58, 97, 117, 116, 104, 111, 114, 105, 116, 121]⟩ : ByteArray) reqL = (⟨#[97]⟩, true) := by
 simp [valC, isNm, bool_toList, reqL, List.find?]
theorem v_prot : valC (⟨#[58, 112, 114, 111, 116, 111, 99, 111, 108]⟩ : ByteArray) reqL = (⟨#[119, 101, 98, 115, 111, 99, 107, 101, 116]⟩, true) := by
 simp [valC, isNm, bool_toList, reqL, List.find?]
theorem check_f : tunnel_Check.f 12 reqL = some 200 := by
 unfold tunnel_Check.f
 rw [val_f, val_f, val_f, val_f, v_method, v_scheme, v_path, v_auth, right_f]
 simp only [Option.bind_some]
 have hl : tunnel_Check.l0 11 0 reqL (reqL.length : Int) 0 = some 200 := by simp [tunnel_Check.l0, rd_T114, reqL, wrap64, ByteArray.toList_eq]
 simp [tunnel_Check.j0, val_f, v_prot, ByteArray.toList_eq, hl]
theorem fixed_yes (w : World) : Calls Tryz.prog 7 #[] w fun e w' => e = .returned (.bool true) ∧ Below w.heap.size w w' := by
 refine louverlaw20_fixed.calls 12 true w ?_
 unfold louverlaw20_fixed.f
 rw [req_f, Option.bind_some, check_f, Option.bind_some]
 rfl
end Go.Proofs.YtpmeapdcjmaeiaaGreatDoor
