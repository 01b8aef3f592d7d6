/- What a frame's head tells: one contract for each way through wsframe.head. -/
import Derived.Test.YtkhlldhcmgkioaaDoorHead0
namespace Go.Proofs.YtkhlldhcmgkioaaDoor
open Go.RowKit Go.Proofs.YtkhlldhcmgkioaaDoorW.PrintWords Go.Proofs.YtkhlldhcmgkioaaDoorW.PrintLast Go.Proofs.YtkhlldhcmgkioaaDoorW.PrintMore
set_option linter.unusedVariables false
def knownB (a : Int) : Bool := decide (a ≤ 2) || (decide (8 ≤ a) && decide (a ≤ 10))
theorem known_any (a : Int) (r : Bool) (hr : knownB a = r) (w : World) : Calls Tryd.prog 33 #[.int .u8 a] w fun e w' => e = .returned (.bool r) ∧ w' = w := by
  subst hr
  unfold knownB
  cases h1 : decide (a ≤ 2)
  · cases h2 : decide (8 ≤ a)
    · go_enter Tryd.func33, Tryd.ntmps33
      go_wp2
      go_ret
      exact ⟨rfl, rfl⟩
    · cases h3 : decide (a ≤ 10)
      all_goals
        go_enter Tryd.func33, Tryd.ntmps33
        go_wp2
        go_ret
        exact ⟨rfl, rfl⟩
  · go_enter Tryd.func33, Tryd.ntmps33
    go_wp2
    go_ret
    exact ⟨rfl, rfl⟩
theorem control_any (a : Int) (r : Bool) (hr : decide (8 ≤ a) = r) (w : World) : Calls Tryd.prog 34 #[.int .u8 a] w fun e w' => e = .returned (.bool r) ∧ w' = w := by
  go_enter Tryd.func34, Tryd.ntmps34
  go_wp2
  go_ret
  exact ⟨rfl, rfl⟩
/-- What wsframe.head answers. -/
def HeadPost (f d : Int) (more : Bool) (code : Int) (w : World) (e : Ending) (w' : World) : Prop := ∃ v, e = .returned (.tuple #[.int .i64 f, .int .i64 d, .bool more, v]) ∧ ((code = 0 ∧ v = .nilIface) ∨ (code ≠ 0 ∧ IsBad w' v code)) ∧ Below w.heap.size w w'
theorem HeadPost.nil (f d : Int) (more : Bool) (w : World) : HeadPost f d more 0 w (.returned (.tuple #[.int .i64 f, .int .i64 d, .bool more, .nilIface])) w := ⟨_, rfl, .inl ⟨rfl, rfl⟩, Below.refl _ _⟩
theorem HeadPost.bad {code : Int} (hc : code ≠ 0) {v : Value} {w w' : World} (hv : IsBad w' v code) (hb : Below w.heap.size w w') : HeadPost 0 0 false code w (.returned (.tuple #[.int .i64 0, .int .i64 0, .bool false, v])) w' := ⟨_, rfl, .inr ⟨hc, hv⟩, hb⟩
def HeadTo (A : Option Addr) (len c : Nat) (m : Bool) (w : World) (f d : Int) (more : Bool) (code : Int) : Prop :=
  Calls Tryd.prog 26 #[.slice A len c, .bool m] w (HeadPost f d more code w)

set_option maxHeartbeats 2000000 in
theorem head_none (c : Nat) (m : Bool) (w : World) (A : Option Addr)  : HeadTo A 0 c m w 0 0 true 0 := by
  unfold HeadTo
  go_enter Tryd.func26, Tryd.ntmps26
  go_wp2
  exact bodyPost_ret (v := .tuple #[.int .i64 0, .int .i64 0, .bool true, .nilIface]) (by simp [results, Tryd.results26, go_sem]) rfl (HeadPost.nil _ _ _ _)
set_option maxHeartbeats 2000000 in
theorem head_first_bits (b0 op z : Int) (m : Bool) (ad : Addr) (len c : Nat) (w : World) (hl : 1 ≤ len) (x0 : w.cell? ad = some (.int .u8 b0)) (ho : Go.bits .and .u8 b0 15 = op) (hz : Go.bits .and .u8 b0 112 = z) (hzz : (z != 0) = true) : HeadTo (some ad) len c m w 0 0 false 1002 := by
  unfold HeadTo
  have p0 : (0 : Int) < (len : Int) := by omega
  have p0n : 0 < len := by omega
  have q0 : ((len : Int) == 0) = false := beq_eq_false_iff_ne.mpr (by omega)
  have q0n : (len == 0) = false := beq_eq_false_iff_ne.mpr (by omega)
  go_enter Tryd.func26, Tryd.ntmps26
  go_wp2_with fail
  refine (protocol_any _).mono ?_
  rintro e w1 ⟨v, rfl, hv, hb⟩
  go_wp2_with fail
  exact bodyPost_ret (v := .tuple #[.int .i64 0, .int .i64 0, .bool false, v]) (by simp [results, Tryd.results26, go_sem]) rfl (HeadPost.bad (by decide) hv hb)
set_option maxHeartbeats 2000000 in
theorem head_first_unknown (b0 op z : Int) (m : Bool) (ad : Addr) (len c : Nat) (w : World) (hl : 1 ≤ len) (x0 : w.cell? ad = some (.int .u8 b0)) (ho : Go.bits .and .u8 b0 15 = op) (hz : Go.bits .and .u8 b0 112 = z) (hzz : (z != 0) = false) (hk : knownB op = false) : HeadTo (some ad) len c m w 0 0 false 1002 := by
  unfold HeadTo
  have p0 : (0 : Int) < (len : Int) := by omega
  have p0n : 0 < len := by omega
  have q0 : ((len : Int) == 0) = false := beq_eq_false_iff_ne.mpr (by omega)
  have q0n : (len == 0) = false := beq_eq_false_iff_ne.mpr (by omega)
  go_enter Tryd.func26, Tryd.ntmps26
  go_wp2_with (first | (go_at_call 33; ((with_reducible refine (known_any _ _ hk _).mono ?_); rintro e w' ⟨rfl, rfl⟩)) | fail)
  refine (protocol_any _).mono ?_
  rintro e w1 ⟨v, rfl, hv, hb⟩
  go_wp2_with fail
  exact bodyPost_ret (v := .tuple #[.int .i64 0, .int .i64 0, .bool false, v]) (by simp [results, Tryd.results26, go_sem]) rfl (HeadPost.bad (by decide) hv hb)
set_option maxHeartbeats 2000000 in
theorem head_first_unfin (b0 op z : Int) (m : Bool) (ad : Addr) (len c : Nat) (w : World) (hl : 1 ≤ len) (x0 : w.cell? ad = some (.int .u8 b0)) (ho : Go.bits .and .u8 b0 15 = op) (hz : Go.bits .and .u8 b0 112 = z) (hzz : (z != 0) = false) (hk : knownB op = true) (hc : decide (8 ≤ op) = true) (hf : decide (b0 < 128) = true) : HeadTo (some ad) len c m w 0 0 false 1002 := by
  unfold HeadTo
  have p0 : (0 : Int) < (len : Int) := by omega
  have p0n : 0 < len := by omega
  have q0 : ((len : Int) == 0) = false := beq_eq_false_iff_ne.mpr (by omega)
  have q0n : (len == 0) = false := beq_eq_false_iff_ne.mpr (by omega)
  go_enter Tryd.func26, Tryd.ntmps26
  go_wp2_with (first | (go_at_call 33; ((with_reducible refine (known_any _ _ hk _).mono ?_); rintro e w' ⟨rfl, rfl⟩)) | (go_at_call 34; ((with_reducible refine (control_any _ _ hc _).mono ?_); rintro e w' ⟨rfl, rfl⟩)) | fail)
  refine (protocol_any _).mono ?_
  rintro e w1 ⟨v, rfl, hv, hb⟩
  go_wp2_with fail
  exact bodyPost_ret (v := .tuple #[.int .i64 0, .int .i64 0, .bool false, v]) (by simp [results, Tryd.results26, go_sem]) rfl (HeadPost.bad (by decide) hv hb)
set_option maxHeartbeats 2000000 in
theorem head_one_d (b0 op z : Int) (m : Bool) (ad : Addr) (c : Nat) (w : World) (x0 : w.cell? ad = some (.int .u8 b0)) (ho : Go.bits .and .u8 b0 15 = op) (hz : Go.bits .and .u8 b0 112 = z) (hzz : (z != 0) = false) (hk : knownB op = true) (hc : decide (8 ≤ op) = false) : HeadTo (some ad) 1 c m w 0 0 true 0 := by
  unfold HeadTo
  go_enter Tryd.func26, Tryd.ntmps26
  go_wp2_with (first | (go_at_call 33; ((with_reducible refine (known_any _ _ hk _).mono ?_); rintro e w' ⟨rfl, rfl⟩)) | (go_at_call 34; ((with_reducible refine (control_any _ _ hc _).mono ?_); rintro e w' ⟨rfl, rfl⟩)) | fail)
  exact bodyPost_ret (v := .tuple #[.int .i64 0, .int .i64 0, .bool true, .nilIface]) (by simp [results, Tryd.results26, go_sem]) rfl (HeadPost.nil _ _ _ _)
set_option maxHeartbeats 2000000 in
theorem head_mask_d_false (b0 b1 op z : Int) (ad : Addr) (len c : Nat) (w : World) (hl : 2 ≤ len) (x0 : w.cell? ad = some (.int .u8 b0)) (ho : Go.bits .and .u8 b0 15 = op) (hz : Go.bits .and .u8 b0 112 = z) (x1 : w.cell? ⟨ad.block, ad.off + 1, none⟩ = some (.int .u8 b1)) (hzz : (z != 0) = false) (hk : knownB op = true) (hc : decide (8 ≤ op) = false) (hm : decide (128 ≤ b1) = true) : HeadTo (some ad) len c false w 0 0 false 1002 := by
  unfold HeadTo
  have p0 : (0 : Int) < (len : Int) := by omega
  have p0n : 0 < len := by omega
  have q0 : ((len : Int) == 0) = false := beq_eq_false_iff_ne.mpr (by omega)
  have q0n : (len == 0) = false := beq_eq_false_iff_ne.mpr (by omega)
  have p1 : (1 : Int) < (len : Int) := by omega
  have p1n : 1 < len := by omega
  have q1 : ((len : Int) == 1) = false := beq_eq_false_iff_ne.mpr (by omega)
  have q1n : (len == 1) = false := beq_eq_false_iff_ne.mpr (by omega)
  go_enter Tryd.func26, Tryd.ntmps26
  go_wp2_with (first | (go_at_call 33; ((with_reducible refine (known_any _ _ hk _).mono ?_); rintro e w' ⟨rfl, rfl⟩)) | (go_at_call 34; ((with_reducible refine (control_any _ _ hc _).mono ?_); rintro e w' ⟨rfl, rfl⟩)) | fail)
  refine (protocol_any _).mono ?_
  rintro e w1 ⟨v, rfl, hv, hb⟩
  go_wp2_with fail
  exact bodyPost_ret (v := .tuple #[.int .i64 0, .int .i64 0, .bool false, v]) (by simp [results, Tryd.results26, go_sem]) rfl (HeadPost.bad (by decide) hv hb)
set_option maxHeartbeats 2000000 in
theorem head_more_d_false (b0 b1 op z : Int) (ad : Addr) (len c : Nat) (w : World) (hl : 2 ≤ len) (x0 : w.cell? ad = some (.int .u8 b0)) (ho : Go.bits .and .u8 b0 15 = op) (hz : Go.bits .and .u8 b0 112 = z) (x1 : w.cell? ⟨ad.block, ad.off + 1, none⟩ = some (.int .u8 b1)) (hzz : (z != 0) = false) (hk : knownB op = true) (hc : decide (8 ≤ op) = false) (hm : decide (128 ≤ b1) = false) (HL : Aside0 (Calls Tryd.prog 35 #[.slice (some ad) len c] w fun e w' => e = .returned (.tuple #[.int .u64 0, .int .i64 0, .bool true, .nilIface]) ∧ w' = w)) : HeadTo (some ad) len c false w 0 0 true 0 := by
  unfold HeadTo
  have p0 : (0 : Int) < (len : Int) := by omega
  have p0n : 0 < len := by omega
  have q0 : ((len : Int) == 0) = false := beq_eq_false_iff_ne.mpr (by omega)
  have q0n : (len == 0) = false := beq_eq_false_iff_ne.mpr (by omega)
  have p1 : (1 : Int) < (len : Int) := by omega
  have p1n : 1 < len := by omega
  have q1 : ((len : Int) == 1) = false := beq_eq_false_iff_ne.mpr (by omega)
  have q1n : (len == 1) = false := beq_eq_false_iff_ne.mpr (by omega)
  go_enter Tryd.func26, Tryd.ntmps26
  go_wp2_with (first | (go_at_call 33; ((with_reducible refine (known_any _ _ hk _).mono ?_); rintro e w' ⟨rfl, rfl⟩)) | (go_at_call 34; ((with_reducible refine (control_any _ _ hc _).mono ?_); rintro e w' ⟨rfl, rfl⟩)) | fail)
  with_reducible refine HL.out.mono ?_
  rintro e w1 ⟨rfl, rfl⟩
  go_wp2_with fail
  exact bodyPost_ret (v := .tuple #[.int .i64 0, .int .i64 0, .bool true, .nilIface]) (by simp [results, Tryd.results26, go_sem]) rfl (HeadPost.nil _ _ _ _)
set_option maxHeartbeats 2000000 in
theorem head_bad_d_false (b0 b1 op z : Int) (ad : Addr) (len c : Nat) (w : World) (hl : 2 ≤ len) (x0 : w.cell? ad = some (.int .u8 b0)) (ho : Go.bits .and .u8 b0 15 = op) (hz : Go.bits .and .u8 b0 112 = z) (x1 : w.cell? ⟨ad.block, ad.off + 1, none⟩ = some (.int .u8 b1)) (hzz : (z != 0) = false) (hk : knownB op = true) (hc : decide (8 ≤ op) = false) (hm : decide (128 ≤ b1) = false) (HL : Aside0 (Calls Tryd.prog 35 #[.slice (some ad) len c] w fun e w' => ∃ v, e = .returned (.tuple #[.int .u64 0, .int .i64 0, .bool false, v]) ∧ IsBad w' v 1002 ∧ Below w.heap.size w w')) : HeadTo (some ad) len c false w 0 0 false 1002 := by
  unfold HeadTo
  have p0 : (0 : Int) < (len : Int) := by omega
  have p0n : 0 < len := by omega
  have q0 : ((len : Int) == 0) = false := beq_eq_false_iff_ne.mpr (by omega)
  have q0n : (len == 0) = false := beq_eq_false_iff_ne.mpr (by omega)
  have p1 : (1 : Int) < (len : Int) := by omega
  have p1n : 1 < len := by omega
  have q1 : ((len : Int) == 1) = false := beq_eq_false_iff_ne.mpr (by omega)
  have q1n : (len == 1) = false := beq_eq_false_iff_ne.mpr (by omega)
  go_enter Tryd.func26, Tryd.ntmps26
  go_wp2_with (first | (go_at_call 33; ((with_reducible refine (known_any _ _ hk _).mono ?_); rintro e w' ⟨rfl, rfl⟩)) | (go_at_call 34; ((with_reducible refine (control_any _ _ hc _).mono ?_); rintro e w' ⟨rfl, rfl⟩)) | fail)
  with_reducible refine HL.out.mono ?_
  rintro e w1 ⟨v, rfl, hv, hb⟩
  obtain ⟨gv, rfl, hgv⟩ := hv
  have HV := Aside0.mk hgv
  clear hgv
  go_wp2_with fail
  exact bodyPost_ret (v := .tuple #[.int .i64 0, .int .i64 0, .bool false, .iface 77 (.pointer (some ⟨gv, 0, none⟩))]) (by simp [results, Tryd.results26, go_sem]) rfl (HeadPost.bad (by decide) ⟨gv, rfl, HV.out⟩ hb)
set_option maxHeartbeats 2000000 in
theorem head_great_d_false (b0 b1 op z nn us : Int) (ad : Addr) (len c : Nat) (w : World) (hl : 2 ≤ len) (x0 : w.cell? ad = some (.int .u8 b0)) (ho : Go.bits .and .u8 b0 15 = op) (hz : Go.bits .and .u8 b0 112 = z) (x1 : w.cell? ⟨ad.block, ad.off + 1, none⟩ = some (.int .u8 b1)) (hzz : (z != 0) = false) (hk : knownB op = true) (hc : decide (8 ≤ op) = false) (hm : decide (128 ≤ b1) = false) (HL : Aside0 (Calls Tryd.prog 35 #[.slice (some ad) len c] w fun e w' => e = .returned (.tuple #[.int .u64 nn, .int .i64 us, .bool false, .nilIface]) ∧ w' = w)) (hg : decide (4096 < nn) = true) : HeadTo (some ad) len c false w 0 0 false 1009 := by
  unfold HeadTo
  have p0 : (0 : Int) < (len : Int) := by omega
  have p0n : 0 < len := by omega
  have q0 : ((len : Int) == 0) = false := beq_eq_false_iff_ne.mpr (by omega)
  have q0n : (len == 0) = false := beq_eq_false_iff_ne.mpr (by omega)
  have p1 : (1 : Int) < (len : Int) := by omega
  have p1n : 1 < len := by omega
  have q1 : ((len : Int) == 1) = false := beq_eq_false_iff_ne.mpr (by omega)
  have q1n : (len == 1) = false := beq_eq_false_iff_ne.mpr (by omega)
  go_enter Tryd.func26, Tryd.ntmps26
  go_wp2_with (first | (go_at_call 33; ((with_reducible refine (known_any _ _ hk _).mono ?_); rintro e w' ⟨rfl, rfl⟩)) | (go_at_call 34; ((with_reducible refine (control_any _ _ hc _).mono ?_); rintro e w' ⟨rfl, rfl⟩)) | fail)
  with_reducible refine HL.out.mono ?_
  rintro e w1 ⟨rfl, rfl⟩
  go_wp2_with fail
  refine (socket_any 1009 _).mono ?_
  rintro e w1 ⟨v, rfl, hv, hb⟩
  go_wp2_with fail
  exact bodyPost_ret (v := .tuple #[.int .i64 0, .int .i64 0, .bool false, v]) (by simp [results, Tryd.results26, go_sem]) rfl (HeadPost.bad (by decide) hv hb)
set_option maxHeartbeats 2000000 in
theorem head_ok_d_false (b0 b1 op z nn us : Int) (ad : Addr) (len c : Nat) (w : World) (hl : 2 ≤ len) (x0 : w.cell? ad = some (.int .u8 b0)) (ho : Go.bits .and .u8 b0 15 = op) (hz : Go.bits .and .u8 b0 112 = z) (x1 : w.cell? ⟨ad.block, ad.off + 1, none⟩ = some (.int .u8 b1)) (hzz : (z != 0) = false) (hk : knownB op = true) (hc : decide (8 ≤ op) = false) (hm : decide (128 ≤ b1) = false) (HL : Aside0 (Calls Tryd.prog 35 #[.slice (some ad) len c] w fun e w' => e = .returned (.tuple #[.int .u64 nn, .int .i64 us, .bool false, .nilIface]) ∧ w' = w)) (hg : decide (4096 < nn) = false) (hw : IntKind.i64.wrap nn = nn) : HeadTo (some ad) len c false w us nn false 0 := by
  unfold HeadTo
  have p0 : (0 : Int) < (len : Int) := by omega
  have p0n : 0 < len := by omega
  have q0 : ((len : Int) == 0) = false := beq_eq_false_iff_ne.mpr (by omega)
  have q0n : (len == 0) = false := beq_eq_false_iff_ne.mpr (by omega)
  have p1 : (1 : Int) < (len : Int) := by omega
  have p1n : 1 < len := by omega
  have q1 : ((len : Int) == 1) = false := beq_eq_false_iff_ne.mpr (by omega)
  have q1n : (len == 1) = false := beq_eq_false_iff_ne.mpr (by omega)
  go_enter Tryd.func26, Tryd.ntmps26
  go_wp2_with (first | (go_at_call 33; ((with_reducible refine (known_any _ _ hk _).mono ?_); rintro e w' ⟨rfl, rfl⟩)) | (go_at_call 34; ((with_reducible refine (control_any _ _ hc _).mono ?_); rintro e w' ⟨rfl, rfl⟩)) | fail)
  with_reducible refine HL.out.mono ?_
  rintro e w1 ⟨rfl, rfl⟩
  go_wp2_with fail
  exact bodyPost_ret (v := .tuple #[.int .i64 us, .int .i64 nn, .bool false, .nilIface]) (by simp [results, Tryd.results26, go_sem]) rfl (HeadPost.nil _ _ _ _)
set_option maxHeartbeats 2000000 in
theorem head_mask_d_true (b0 b1 op z : Int) (ad : Addr) (len c : Nat) (w : World) (hl : 2 ≤ len) (x0 : w.cell? ad = some (.int .u8 b0)) (ho : Go.bits .and .u8 b0 15 = op) (hz : Go.bits .and .u8 b0 112 = z) (x1 : w.cell? ⟨ad.block, ad.off + 1, none⟩ = some (.int .u8 b1)) (hzz : (z != 0) = false) (hk : knownB op = true) (hc : decide (8 ≤ op) = false) (hm : decide (128 ≤ b1) = false) : HeadTo (some ad) len c true w 0 0 false 1002 := by
  unfold HeadTo
  have p0 : (0 : Int) < (len : Int) := by omega
  have p0n : 0 < len := by omega
  have q0 : ((len : Int) == 0) = false := beq_eq_false_iff_ne.mpr (by omega)
  have q0n : (len == 0) = false := beq_eq_false_iff_ne.mpr (by omega)
  have p1 : (1 : Int) < (len : Int) := by omega
  have p1n : 1 < len := by omega
  have q1 : ((len : Int) == 1) = false := beq_eq_false_iff_ne.mpr (by omega)
  have q1n : (len == 1) = false := beq_eq_false_iff_ne.mpr (by omega)
  go_enter Tryd.func26, Tryd.ntmps26
  go_wp2_with (first | (go_at_call 33; ((with_reducible refine (known_any _ _ hk _).mono ?_); rintro e w' ⟨rfl, rfl⟩)) | (go_at_call 34; ((with_reducible refine (control_any _ _ hc _).mono ?_); rintro e w' ⟨rfl, rfl⟩)) | fail)
  refine (protocol_any _).mono ?_
  rintro e w1 ⟨v, rfl, hv, hb⟩
  go_wp2_with fail
  exact bodyPost_ret (v := .tuple #[.int .i64 0, .int .i64 0, .bool false, v]) (by simp [results, Tryd.results26, go_sem]) rfl (HeadPost.bad (by decide) hv hb)
set_option maxHeartbeats 2000000 in
theorem head_more_d_true (b0 b1 op z : Int) (ad : Addr) (len c : Nat) (w : World) (hl : 2 ≤ len) (x0 : w.cell? ad = some (.int .u8 b0)) (ho : Go.bits .and .u8 b0 15 = op) (hz : Go.bits .and .u8 b0 112 = z) (x1 : w.cell? ⟨ad.block, ad.off + 1, none⟩ = some (.int .u8 b1)) (hzz : (z != 0) = false) (hk : knownB op = true) (hc : decide (8 ≤ op) = false) (hm : decide (128 ≤ b1) = true) (HL : Aside0 (Calls Tryd.prog 35 #[.slice (some ad) len c] w fun e w' => e = .returned (.tuple #[.int .u64 0, .int .i64 0, .bool true, .nilIface]) ∧ w' = w)) : HeadTo (some ad) len c true w 0 0 true 0 := by
  unfold HeadTo
  have p0 : (0 : Int) < (len : Int) := by omega
  have p0n : 0 < len := by omega
  have q0 : ((len : Int) == 0) = false := beq_eq_false_iff_ne.mpr (by omega)
  have q0n : (len == 0) = false := beq_eq_false_iff_ne.mpr (by omega)
  have p1 : (1 : Int) < (len : Int) := by omega
  have p1n : 1 < len := by omega
  have q1 : ((len : Int) == 1) = false := beq_eq_false_iff_ne.mpr (by omega)
  have q1n : (len == 1) = false := beq_eq_false_iff_ne.mpr (by omega)
  go_enter Tryd.func26, Tryd.ntmps26
  go_wp2_with (first | (go_at_call 33; ((with_reducible refine (known_any _ _ hk _).mono ?_); rintro e w' ⟨rfl, rfl⟩)) | (go_at_call 34; ((with_reducible refine (control_any _ _ hc _).mono ?_); rintro e w' ⟨rfl, rfl⟩)) | fail)
  with_reducible refine HL.out.mono ?_
  rintro e w1 ⟨rfl, rfl⟩
  go_wp2_with fail
  exact bodyPost_ret (v := .tuple #[.int .i64 0, .int .i64 0, .bool true, .nilIface]) (by simp [results, Tryd.results26, go_sem]) rfl (HeadPost.nil _ _ _ _)
set_option maxHeartbeats 2000000 in
theorem head_bad_d_true (b0 b1 op z : Int) (ad : Addr) (len c : Nat) (w : World) (hl : 2 ≤ len) (x0 : w.cell? ad = some (.int .u8 b0)) (ho : Go.bits .and .u8 b0 15 = op) (hz : Go.bits .and .u8 b0 112 = z) (x1 : w.cell? ⟨ad.block, ad.off + 1, none⟩ = some (.int .u8 b1)) (hzz : (z != 0) = false) (hk : knownB op = true) (hc : decide (8 ≤ op) = false) (hm : decide (128 ≤ b1) = true) (HL : Aside0 (Calls Tryd.prog 35 #[.slice (some ad) len c] w fun e w' => ∃ v, e = .returned (.tuple #[.int .u64 0, .int .i64 0, .bool false, v]) ∧ IsBad w' v 1002 ∧ Below w.heap.size w w')) : HeadTo (some ad) len c true w 0 0 false 1002 := by
  unfold HeadTo
  have p0 : (0 : Int) < (len : Int) := by omega
  have p0n : 0 < len := by omega
  have q0 : ((len : Int) == 0) = false := beq_eq_false_iff_ne.mpr (by omega)
  have q0n : (len == 0) = false := beq_eq_false_iff_ne.mpr (by omega)
  have p1 : (1 : Int) < (len : Int) := by omega
  have p1n : 1 < len := by omega
  have q1 : ((len : Int) == 1) = false := beq_eq_false_iff_ne.mpr (by omega)
  have q1n : (len == 1) = false := beq_eq_false_iff_ne.mpr (by omega)
  go_enter Tryd.func26, Tryd.ntmps26
  go_wp2_with (first | (go_at_call 33; ((with_reducible refine (known_any _ _ hk _).mono ?_); rintro e w' ⟨rfl, rfl⟩)) | (go_at_call 34; ((with_reducible refine (control_any _ _ hc _).mono ?_); rintro e w' ⟨rfl, rfl⟩)) | fail)
  with_reducible refine HL.out.mono ?_
  rintro e w1 ⟨v, rfl, hv, hb⟩
  obtain ⟨gv, rfl, hgv⟩ := hv
  have HV := Aside0.mk hgv
  clear hgv
  go_wp2_with fail
  exact bodyPost_ret (v := .tuple #[.int .i64 0, .int .i64 0, .bool false, .iface 77 (.pointer (some ⟨gv, 0, none⟩))]) (by simp [results, Tryd.results26, go_sem]) rfl (HeadPost.bad (by decide) ⟨gv, rfl, HV.out⟩ hb)
set_option maxHeartbeats 2000000 in
theorem head_great_d_true (b0 b1 op z nn us : Int) (ad : Addr) (len c : Nat) (w : World) (hl : 2 ≤ len) (x0 : w.cell? ad = some (.int .u8 b0)) (ho : Go.bits .and .u8 b0 15 = op) (hz : Go.bits .and .u8 b0 112 = z) (x1 : w.cell? ⟨ad.block, ad.off + 1, none⟩ = some (.int .u8 b1)) (hzz : (z != 0) = false) (hk : knownB op = true) (hc : decide (8 ≤ op) = false) (hm : decide (128 ≤ b1) = true) (HL : Aside0 (Calls Tryd.prog 35 #[.slice (some ad) len c] w fun e w' => e = .returned (.tuple #[.int .u64 nn, .int .i64 us, .bool false, .nilIface]) ∧ w' = w)) (hg : decide (4096 < nn) = true) : HeadTo (some ad) len c true w 0 0 false 1009 := by
  unfold HeadTo
  have p0 : (0 : Int) < (len : Int) := by omega
  have p0n : 0 < len := by omega
  have q0 : ((len : Int) == 0) = false := beq_eq_false_iff_ne.mpr (by omega)
  have q0n : (len == 0) = false := beq_eq_false_iff_ne.mpr (by omega)
  have p1 : (1 : Int) < (len : Int) := by omega
  have p1n : 1 < len := by omega
  have q1 : ((len : Int) == 1) = false := beq_eq_false_iff_ne.mpr (by omega)
  have q1n : (len == 1) = false := beq_eq_false_iff_ne.mpr (by omega)
  go_enter Tryd.func26, Tryd.ntmps26
  go_wp2_with (first | (go_at_call 33; ((with_reducible refine (known_any _ _ hk _).mono ?_); rintro e w' ⟨rfl, rfl⟩)) | (go_at_call 34; ((with_reducible refine (control_any _ _ hc _).mono ?_); rintro e w' ⟨rfl, rfl⟩)) | fail)
  with_reducible refine HL.out.mono ?_
  rintro e w1 ⟨rfl, rfl⟩
  go_wp2_with fail
  refine (socket_any 1009 _).mono ?_
  rintro e w1 ⟨v, rfl, hv, hb⟩
  go_wp2_with fail
  exact bodyPost_ret (v := .tuple #[.int .i64 0, .int .i64 0, .bool false, v]) (by simp [results, Tryd.results26, go_sem]) rfl (HeadPost.bad (by decide) hv hb)
set_option maxHeartbeats 2000000 in
theorem head_ok_d_true (b0 b1 op z nn us : Int) (ad : Addr) (len c : Nat) (w : World) (hl : 2 ≤ len) (x0 : w.cell? ad = some (.int .u8 b0)) (ho : Go.bits .and .u8 b0 15 = op) (hz : Go.bits .and .u8 b0 112 = z) (x1 : w.cell? ⟨ad.block, ad.off + 1, none⟩ = some (.int .u8 b1)) (hzz : (z != 0) = false) (hk : knownB op = true) (hc : decide (8 ≤ op) = false) (hm : decide (128 ≤ b1) = true) (HL : Aside0 (Calls Tryd.prog 35 #[.slice (some ad) len c] w fun e w' => e = .returned (.tuple #[.int .u64 nn, .int .i64 us, .bool false, .nilIface]) ∧ w' = w)) (hg : decide (4096 < nn) = false) (hw : IntKind.i64.wrap nn = nn) (hu : IntKind.i64.wrap (us + 4) = us + 4) : HeadTo (some ad) len c true w (us + 4) nn false 0 := by
  unfold HeadTo
  have p0 : (0 : Int) < (len : Int) := by omega
  have p0n : 0 < len := by omega
  have q0 : ((len : Int) == 0) = false := beq_eq_false_iff_ne.mpr (by omega)
  have q0n : (len == 0) = false := beq_eq_false_iff_ne.mpr (by omega)
  have p1 : (1 : Int) < (len : Int) := by omega
  have p1n : 1 < len := by omega
  have q1 : ((len : Int) == 1) = false := beq_eq_false_iff_ne.mpr (by omega)
  have q1n : (len == 1) = false := beq_eq_false_iff_ne.mpr (by omega)
  go_enter Tryd.func26, Tryd.ntmps26
  go_wp2_with (first | (go_at_call 33; ((with_reducible refine (known_any _ _ hk _).mono ?_); rintro e w' ⟨rfl, rfl⟩)) | (go_at_call 34; ((with_reducible refine (control_any _ _ hc _).mono ?_); rintro e w' ⟨rfl, rfl⟩)) | fail)
  with_reducible refine HL.out.mono ?_
  rintro e w1 ⟨rfl, rfl⟩
  go_wp2_with fail
  exact bodyPost_ret (v := .tuple #[.int .i64 (us + 4), .int .i64 nn, .bool false, .nilIface]) (by simp [results, Tryd.results26, go_sem]) rfl (HeadPost.nil _ _ _ _)
set_option maxHeartbeats 2000000 in
theorem head_one_c (b0 op z : Int) (m : Bool) (ad : Addr) (c : Nat) (w : World) (x0 : w.cell? ad = some (.int .u8 b0)) (ho : Go.bits .and .u8 b0 15 = op) (hz : Go.bits .and .u8 b0 112 = z) (hzz : (z != 0) = false) (hk : knownB op = true) (hc : decide (8 ≤ op) = true) (hf : decide (b0 < 128) = false) : HeadTo (some ad) 1 c m w 0 0 true 0 := by
  unfold HeadTo
  go_enter Tryd.func26, Tryd.ntmps26
  go_wp2_with (first | (go_at_call 33; ((with_reducible refine (known_any _ _ hk _).mono ?_); rintro e w' ⟨rfl, rfl⟩)) | (go_at_call 34; ((with_reducible refine (control_any _ _ hc _).mono ?_); rintro e w' ⟨rfl, rfl⟩)) | fail)
  exact bodyPost_ret (v := .tuple #[.int .i64 0, .int .i64 0, .bool true, .nilIface]) (by simp [results, Tryd.results26, go_sem]) rfl (HeadPost.nil _ _ _ _)
set_option maxHeartbeats 2000000 in
theorem head_mask_c_false (b0 b1 op z : Int) (ad : Addr) (len c : Nat) (w : World) (hl : 2 ≤ len) (x0 : w.cell? ad = some (.int .u8 b0)) (ho : Go.bits .and .u8 b0 15 = op) (hz : Go.bits .and .u8 b0 112 = z) (x1 : w.cell? ⟨ad.block, ad.off + 1, none⟩ = some (.int .u8 b1)) (hzz : (z != 0) = false) (hk : knownB op = true) (hc : decide (8 ≤ op) = true) (hf : decide (b0 < 128) = false) (hm : decide (128 ≤ b1) = true) : HeadTo (some ad) len c false w 0 0 false 1002 := by
  unfold HeadTo
  have p0 : (0 : Int) < (len : Int) := by omega
  have p0n : 0 < len := by omega
  have q0 : ((len : Int) == 0) = false := beq_eq_false_iff_ne.mpr (by omega)
  have q0n : (len == 0) = false := beq_eq_false_iff_ne.mpr (by omega)
  have p1 : (1 : Int) < (len : Int) := by omega
  have p1n : 1 < len := by omega
  have q1 : ((len : Int) == 1) = false := beq_eq_false_iff_ne.mpr (by omega)
  have q1n : (len == 1) = false := beq_eq_false_iff_ne.mpr (by omega)
  go_enter Tryd.func26, Tryd.ntmps26
  go_wp2_with (first | (go_at_call 33; ((with_reducible refine (known_any _ _ hk _).mono ?_); rintro e w' ⟨rfl, rfl⟩)) | (go_at_call 34; ((with_reducible refine (control_any _ _ hc _).mono ?_); rintro e w' ⟨rfl, rfl⟩)) | fail)
  refine (protocol_any _).mono ?_
  rintro e w1 ⟨v, rfl, hv, hb⟩
  go_wp2_with fail
  exact bodyPost_ret (v := .tuple #[.int .i64 0, .int .i64 0, .bool false, v]) (by simp [results, Tryd.results26, go_sem]) rfl (HeadPost.bad (by decide) hv hb)
set_option maxHeartbeats 2000000 in
theorem head_long_c_false (b0 b1 n op z : Int) (ad : Addr) (len c : Nat) (w : World) (hl : 2 ≤ len) (x0 : w.cell? ad = some (.int .u8 b0)) (ho : Go.bits .and .u8 b0 15 = op) (hz : Go.bits .and .u8 b0 112 = z) (x1 : w.cell? ⟨ad.block, ad.off + 1, none⟩ = some (.int .u8 b1)) (hzz : (z != 0) = false) (hk : knownB op = true) (hc : decide (8 ≤ op) = true) (hf : decide (b0 < 128) = false) (hm : decide (128 ≤ b1) = false) (hn : Go.bits .andNot .u8 b1 128 = n) (hlong : decide (126 ≤ n) = true) : HeadTo (some ad) len c false w 0 0 false 1002 := by
  unfold HeadTo
  have p0 : (0 : Int) < (len : Int) := by omega
  have p0n : 0 < len := by omega
  have q0 : ((len : Int) == 0) = false := beq_eq_false_iff_ne.mpr (by omega)
  have q0n : (len == 0) = false := beq_eq_false_iff_ne.mpr (by omega)
  have p1 : (1 : Int) < (len : Int) := by omega
  have p1n : 1 < len := by omega
  have q1 : ((len : Int) == 1) = false := beq_eq_false_iff_ne.mpr (by omega)
  have q1n : (len == 1) = false := beq_eq_false_iff_ne.mpr (by omega)
  go_enter Tryd.func26, Tryd.ntmps26
  go_wp2_with (first | (go_at_call 33; ((with_reducible refine (known_any _ _ hk _).mono ?_); rintro e w' ⟨rfl, rfl⟩)) | (go_at_call 34; ((with_reducible refine (control_any _ _ hc _).mono ?_); rintro e w' ⟨rfl, rfl⟩)) | fail)
  refine (protocol_any _).mono ?_
  rintro e w1 ⟨v, rfl, hv, hb⟩
  go_wp2_with fail
  exact bodyPost_ret (v := .tuple #[.int .i64 0, .int .i64 0, .bool false, v]) (by simp [results, Tryd.results26, go_sem]) rfl (HeadPost.bad (by decide) hv hb)
set_option maxHeartbeats 2000000 in
theorem head_more_c_false (b0 b1 n op z : Int) (ad : Addr) (len c : Nat) (w : World) (hl : 2 ≤ len) (x0 : w.cell? ad = some (.int .u8 b0)) (ho : Go.bits .and .u8 b0 15 = op) (hz : Go.bits .and .u8 b0 112 = z) (x1 : w.cell? ⟨ad.block, ad.off + 1, none⟩ = some (.int .u8 b1)) (hzz : (z != 0) = false) (hk : knownB op = true) (hc : decide (8 ≤ op) = true) (hf : decide (b0 < 128) = false) (hm : decide (128 ≤ b1) = false) (hn : Go.bits .andNot .u8 b1 128 = n) (hlong : decide (126 ≤ n) = false) (HL : Aside0 (Calls Tryd.prog 35 #[.slice (some ad) len c] w fun e w' => e = .returned (.tuple #[.int .u64 0, .int .i64 0, .bool true, .nilIface]) ∧ w' = w)) : HeadTo (some ad) len c false w 0 0 true 0 := by
  unfold HeadTo
  have p0 : (0 : Int) < (len : Int) := by omega
  have p0n : 0 < len := by omega
  have q0 : ((len : Int) == 0) = false := beq_eq_false_iff_ne.mpr (by omega)
  have q0n : (len == 0) = false := beq_eq_false_iff_ne.mpr (by omega)
  have p1 : (1 : Int) < (len : Int) := by omega
  have p1n : 1 < len := by omega
  have q1 : ((len : Int) == 1) = false := beq_eq_false_iff_ne.mpr (by omega)
  have q1n : (len == 1) = false := beq_eq_false_iff_ne.mpr (by omega)
  go_enter Tryd.func26, Tryd.ntmps26
  go_wp2_with (first | (go_at_call 33; ((with_reducible refine (known_any _ _ hk _).mono ?_); rintro e w' ⟨rfl, rfl⟩)) | (go_at_call 34; ((with_reducible refine (control_any _ _ hc _).mono ?_); rintro e w' ⟨rfl, rfl⟩)) | fail)
  with_reducible refine HL.out.mono ?_
  rintro e w1 ⟨rfl, rfl⟩
  go_wp2_with fail
  exact bodyPost_ret (v := .tuple #[.int .i64 0, .int .i64 0, .bool true, .nilIface]) (by simp [results, Tryd.results26, go_sem]) rfl (HeadPost.nil _ _ _ _)
set_option maxHeartbeats 2000000 in
theorem head_bad_c_false (b0 b1 n op z : Int) (ad : Addr) (len c : Nat) (w : World) (hl : 2 ≤ len) (x0 : w.cell? ad = some (.int .u8 b0)) (ho : Go.bits .and .u8 b0 15 = op) (hz : Go.bits .and .u8 b0 112 = z) (x1 : w.cell? ⟨ad.block, ad.off + 1, none⟩ = some (.int .u8 b1)) (hzz : (z != 0) = false) (hk : knownB op = true) (hc : decide (8 ≤ op) = true) (hf : decide (b0 < 128) = false) (hm : decide (128 ≤ b1) = false) (hn : Go.bits .andNot .u8 b1 128 = n) (hlong : decide (126 ≤ n) = false) (HL : Aside0 (Calls Tryd.prog 35 #[.slice (some ad) len c] w fun e w' => ∃ v, e = .returned (.tuple #[.int .u64 0, .int .i64 0, .bool false, v]) ∧ IsBad w' v 1002 ∧ Below w.heap.size w w')) : HeadTo (some ad) len c false w 0 0 false 1002 := by
  unfold HeadTo
  have p0 : (0 : Int) < (len : Int) := by omega
  have p0n : 0 < len := by omega
  have q0 : ((len : Int) == 0) = false := beq_eq_false_iff_ne.mpr (by omega)
  have q0n : (len == 0) = false := beq_eq_false_iff_ne.mpr (by omega)
  have p1 : (1 : Int) < (len : Int) := by omega
  have p1n : 1 < len := by omega
  have q1 : ((len : Int) == 1) = false := beq_eq_false_iff_ne.mpr (by omega)
  have q1n : (len == 1) = false := beq_eq_false_iff_ne.mpr (by omega)
  go_enter Tryd.func26, Tryd.ntmps26
  go_wp2_with (first | (go_at_call 33; ((with_reducible refine (known_any _ _ hk _).mono ?_); rintro e w' ⟨rfl, rfl⟩)) | (go_at_call 34; ((with_reducible refine (control_any _ _ hc _).mono ?_); rintro e w' ⟨rfl, rfl⟩)) | fail)
  with_reducible refine HL.out.mono ?_
  rintro e w1 ⟨v, rfl, hv, hb⟩
  obtain ⟨gv, rfl, hgv⟩ := hv
  have HV := Aside0.mk hgv
  clear hgv
  go_wp2_with fail
  exact bodyPost_ret (v := .tuple #[.int .i64 0, .int .i64 0, .bool false, .iface 77 (.pointer (some ⟨gv, 0, none⟩))]) (by simp [results, Tryd.results26, go_sem]) rfl (HeadPost.bad (by decide) ⟨gv, rfl, HV.out⟩ hb)
set_option maxHeartbeats 2000000 in
theorem head_great_c_false (b0 b1 n op z nn us : Int) (ad : Addr) (len c : Nat) (w : World) (hl : 2 ≤ len) (x0 : w.cell? ad = some (.int .u8 b0)) (ho : Go.bits .and .u8 b0 15 = op) (hz : Go.bits .and .u8 b0 112 = z) (x1 : w.cell? ⟨ad.block, ad.off + 1, none⟩ = some (.int .u8 b1)) (hzz : (z != 0) = false) (hk : knownB op = true) (hc : decide (8 ≤ op) = true) (hf : decide (b0 < 128) = false) (hm : decide (128 ≤ b1) = false) (hn : Go.bits .andNot .u8 b1 128 = n) (hlong : decide (126 ≤ n) = false) (HL : Aside0 (Calls Tryd.prog 35 #[.slice (some ad) len c] w fun e w' => e = .returned (.tuple #[.int .u64 nn, .int .i64 us, .bool false, .nilIface]) ∧ w' = w)) (hg : decide (4096 < nn) = true) : HeadTo (some ad) len c false w 0 0 false 1009 := by
  unfold HeadTo
  have p0 : (0 : Int) < (len : Int) := by omega
  have p0n : 0 < len := by omega
  have q0 : ((len : Int) == 0) = false := beq_eq_false_iff_ne.mpr (by omega)
  have q0n : (len == 0) = false := beq_eq_false_iff_ne.mpr (by omega)
  have p1 : (1 : Int) < (len : Int) := by omega
  have p1n : 1 < len := by omega
  have q1 : ((len : Int) == 1) = false := beq_eq_false_iff_ne.mpr (by omega)
  have q1n : (len == 1) = false := beq_eq_false_iff_ne.mpr (by omega)
  go_enter Tryd.func26, Tryd.ntmps26
  go_wp2_with (first | (go_at_call 33; ((with_reducible refine (known_any _ _ hk _).mono ?_); rintro e w' ⟨rfl, rfl⟩)) | (go_at_call 34; ((with_reducible refine (control_any _ _ hc _).mono ?_); rintro e w' ⟨rfl, rfl⟩)) | fail)
  with_reducible refine HL.out.mono ?_
  rintro e w1 ⟨rfl, rfl⟩
  go_wp2_with fail
  refine (socket_any 1009 _).mono ?_
  rintro e w1 ⟨v, rfl, hv, hb⟩
  go_wp2_with fail
  exact bodyPost_ret (v := .tuple #[.int .i64 0, .int .i64 0, .bool false, v]) (by simp [results, Tryd.results26, go_sem]) rfl (HeadPost.bad (by decide) hv hb)
set_option maxHeartbeats 2000000 in
theorem head_ok_c_false (b0 b1 n op z nn us : Int) (ad : Addr) (len c : Nat) (w : World) (hl : 2 ≤ len) (x0 : w.cell? ad = some (.int .u8 b0)) (ho : Go.bits .and .u8 b0 15 = op) (hz : Go.bits .and .u8 b0 112 = z) (x1 : w.cell? ⟨ad.block, ad.off + 1, none⟩ = some (.int .u8 b1)) (hzz : (z != 0) = false) (hk : knownB op = true) (hc : decide (8 ≤ op) = true) (hf : decide (b0 < 128) = false) (hm : decide (128 ≤ b1) = false) (hn : Go.bits .andNot .u8 b1 128 = n) (hlong : decide (126 ≤ n) = false) (HL : Aside0 (Calls Tryd.prog 35 #[.slice (some ad) len c] w fun e w' => e = .returned (.tuple #[.int .u64 nn, .int .i64 us, .bool false, .nilIface]) ∧ w' = w)) (hg : decide (4096 < nn) = false) (hw : IntKind.i64.wrap nn = nn) : HeadTo (some ad) len c false w us nn false 0 := by
  unfold HeadTo
  have p0 : (0 : Int) < (len : Int) := by omega
  have p0n : 0 < len := by omega
  have q0 : ((len : Int) == 0) = false := beq_eq_false_iff_ne.mpr (by omega)
  have q0n : (len == 0) = false := beq_eq_false_iff_ne.mpr (by omega)
  have p1 : (1 : Int) < (len : Int) := by omega
  have p1n : 1 < len := by omega
  have q1 : ((len : Int) == 1) = false := beq_eq_false_iff_ne.mpr (by omega)
  have q1n : (len == 1) = false := beq_eq_false_iff_ne.mpr (by omega)
  go_enter Tryd.func26, Tryd.ntmps26
  go_wp2_with (first | (go_at_call 33; ((with_reducible refine (known_any _ _ hk _).mono ?_); rintro e w' ⟨rfl, rfl⟩)) | (go_at_call 34; ((with_reducible refine (control_any _ _ hc _).mono ?_); rintro e w' ⟨rfl, rfl⟩)) | fail)
  with_reducible refine HL.out.mono ?_
  rintro e w1 ⟨rfl, rfl⟩
  go_wp2_with fail
  exact bodyPost_ret (v := .tuple #[.int .i64 us, .int .i64 nn, .bool false, .nilIface]) (by simp [results, Tryd.results26, go_sem]) rfl (HeadPost.nil _ _ _ _)
set_option maxHeartbeats 2000000 in
theorem head_mask_c_true (b0 b1 op z : Int) (ad : Addr) (len c : Nat) (w : World) (hl : 2 ≤ len) (x0 : w.cell? ad = some (.int .u8 b0)) (ho : Go.bits .and .u8 b0 15 = op) (hz : Go.bits .and .u8 b0 112 = z) (x1 : w.cell? ⟨ad.block, ad.off + 1, none⟩ = some (.int .u8 b1)) (hzz : (z != 0) = false) (hk : knownB op = true) (hc : decide (8 ≤ op) = true) (hf : decide (b0 < 128) = false) (hm : decide (128 ≤ b1) = false) : HeadTo (some ad) len c true w 0 0 false 1002 := by
  unfold HeadTo
  have p0 : (0 : Int) < (len : Int) := by omega
  have p0n : 0 < len := by omega
  have q0 : ((len : Int) == 0) = false := beq_eq_false_iff_ne.mpr (by omega)
  have q0n : (len == 0) = false := beq_eq_false_iff_ne.mpr (by omega)
  have p1 : (1 : Int) < (len : Int) := by omega
  have p1n : 1 < len := by omega
  have q1 : ((len : Int) == 1) = false := beq_eq_false_iff_ne.mpr (by omega)
  have q1n : (len == 1) = false := beq_eq_false_iff_ne.mpr (by omega)
  go_enter Tryd.func26, Tryd.ntmps26
  go_wp2_with (first | (go_at_call 33; ((with_reducible refine (known_any _ _ hk _).mono ?_); rintro e w' ⟨rfl, rfl⟩)) | (go_at_call 34; ((with_reducible refine (control_any _ _ hc _).mono ?_); rintro e w' ⟨rfl, rfl⟩)) | fail)
  refine (protocol_any _).mono ?_
  rintro e w1 ⟨v, rfl, hv, hb⟩
  go_wp2_with fail
  exact bodyPost_ret (v := .tuple #[.int .i64 0, .int .i64 0, .bool false, v]) (by simp [results, Tryd.results26, go_sem]) rfl (HeadPost.bad (by decide) hv hb)
set_option maxHeartbeats 2000000 in
theorem head_long_c_true (b0 b1 n op z : Int) (ad : Addr) (len c : Nat) (w : World) (hl : 2 ≤ len) (x0 : w.cell? ad = some (.int .u8 b0)) (ho : Go.bits .and .u8 b0 15 = op) (hz : Go.bits .and .u8 b0 112 = z) (x1 : w.cell? ⟨ad.block, ad.off + 1, none⟩ = some (.int .u8 b1)) (hzz : (z != 0) = false) (hk : knownB op = true) (hc : decide (8 ≤ op) = true) (hf : decide (b0 < 128) = false) (hm : decide (128 ≤ b1) = true) (hn : Go.bits .andNot .u8 b1 128 = n) (hlong : decide (126 ≤ n) = true) : HeadTo (some ad) len c true w 0 0 false 1002 := by
  unfold HeadTo
  have p0 : (0 : Int) < (len : Int) := by omega
  have p0n : 0 < len := by omega
  have q0 : ((len : Int) == 0) = false := beq_eq_false_iff_ne.mpr (by omega)
  have q0n : (len == 0) = false := beq_eq_false_iff_ne.mpr (by omega)
  have p1 : (1 : Int) < (len : Int) := by omega
  have p1n : 1 < len := by omega
  have q1 : ((len : Int) == 1) = false := beq_eq_false_iff_ne.mpr (by omega)
  have q1n : (len == 1) = false := beq_eq_false_iff_ne.mpr (by omega)
  go_enter Tryd.func26, Tryd.ntmps26
  go_wp2_with (first | (go_at_call 33; ((with_reducible refine (known_any _ _ hk _).mono ?_); rintro e w' ⟨rfl, rfl⟩)) | (go_at_call 34; ((with_reducible refine (control_any _ _ hc _).mono ?_); rintro e w' ⟨rfl, rfl⟩)) | fail)
  refine (protocol_any _).mono ?_
  rintro e w1 ⟨v, rfl, hv, hb⟩
  go_wp2_with fail
  exact bodyPost_ret (v := .tuple #[.int .i64 0, .int .i64 0, .bool false, v]) (by simp [results, Tryd.results26, go_sem]) rfl (HeadPost.bad (by decide) hv hb)
set_option maxHeartbeats 2000000 in
theorem head_more_c_true (b0 b1 n op z : Int) (ad : Addr) (len c : Nat) (w : World) (hl : 2 ≤ len) (x0 : w.cell? ad = some (.int .u8 b0)) (ho : Go.bits .and .u8 b0 15 = op) (hz : Go.bits .and .u8 b0 112 = z) (x1 : w.cell? ⟨ad.block, ad.off + 1, none⟩ = some (.int .u8 b1)) (hzz : (z != 0) = false) (hk : knownB op = true) (hc : decide (8 ≤ op) = true) (hf : decide (b0 < 128) = false) (hm : decide (128 ≤ b1) = true) (hn : Go.bits .andNot .u8 b1 128 = n) (hlong : decide (126 ≤ n) = false) (HL : Aside0 (Calls Tryd.prog 35 #[.slice (some ad) len c] w fun e w' => e = .returned (.tuple #[.int .u64 0, .int .i64 0, .bool true, .nilIface]) ∧ w' = w)) : HeadTo (some ad) len c true w 0 0 true 0 := by
  unfold HeadTo
  have p0 : (0 : Int) < (len : Int) := by omega
  have p0n : 0 < len := by omega
  have q0 : ((len : Int) == 0) = false := beq_eq_false_iff_ne.mpr (by omega)
  have q0n : (len == 0) = false := beq_eq_false_iff_ne.mpr (by omega)
  have p1 : (1 : Int) < (len : Int) := by omega
  have p1n : 1 < len := by omega
  have q1 : ((len : Int) == 1) = false := beq_eq_false_iff_ne.mpr (by omega)
  have q1n : (len == 1) = false := beq_eq_false_iff_ne.mpr (by omega)
  go_enter Tryd.func26, Tryd.ntmps26
  go_wp2_with (first | (go_at_call 33; ((with_reducible refine (known_any _ _ hk _).mono ?_); rintro e w' ⟨rfl, rfl⟩)) | (go_at_call 34; ((with_reducible refine (control_any _ _ hc _).mono ?_); rintro e w' ⟨rfl, rfl⟩)) | fail)
  with_reducible refine HL.out.mono ?_
  rintro e w1 ⟨rfl, rfl⟩
  go_wp2_with fail
  exact bodyPost_ret (v := .tuple #[.int .i64 0, .int .i64 0, .bool true, .nilIface]) (by simp [results, Tryd.results26, go_sem]) rfl (HeadPost.nil _ _ _ _)
set_option maxHeartbeats 2000000 in
theorem head_bad_c_true (b0 b1 n op z : Int) (ad : Addr) (len c : Nat) (w : World) (hl : 2 ≤ len) (x0 : w.cell? ad = some (.int .u8 b0)) (ho : Go.bits .and .u8 b0 15 = op) (hz : Go.bits .and .u8 b0 112 = z) (x1 : w.cell? ⟨ad.block, ad.off + 1, none⟩ = some (.int .u8 b1)) (hzz : (z != 0) = false) (hk : knownB op = true) (hc : decide (8 ≤ op) = true) (hf : decide (b0 < 128) = false) (hm : decide (128 ≤ b1) = true) (hn : Go.bits .andNot .u8 b1 128 = n) (hlong : decide (126 ≤ n) = false) (HL : Aside0 (Calls Tryd.prog 35 #[.slice (some ad) len c] w fun e w' => ∃ v, e = .returned (.tuple #[.int .u64 0, .int .i64 0, .bool false, v]) ∧ IsBad w' v 1002 ∧ Below w.heap.size w w')) : HeadTo (some ad) len c true w 0 0 false 1002 := by
  unfold HeadTo
  have p0 : (0 : Int) < (len : Int) := by omega
  have p0n : 0 < len := by omega
  have q0 : ((len : Int) == 0) = false := beq_eq_false_iff_ne.mpr (by omega)
  have q0n : (len == 0) = false := beq_eq_false_iff_ne.mpr (by omega)
  have p1 : (1 : Int) < (len : Int) := by omega
  have p1n : 1 < len := by omega
  have q1 : ((len : Int) == 1) = false := beq_eq_false_iff_ne.mpr (by omega)
  have q1n : (len == 1) = false := beq_eq_false_iff_ne.mpr (by omega)
  go_enter Tryd.func26, Tryd.ntmps26
  go_wp2_with (first | (go_at_call 33; ((with_reducible refine (known_any _ _ hk _).mono ?_); rintro e w' ⟨rfl, rfl⟩)) | (go_at_call 34; ((with_reducible refine (control_any _ _ hc _).mono ?_); rintro e w' ⟨rfl, rfl⟩)) | fail)
  with_reducible refine HL.out.mono ?_
  rintro e w1 ⟨v, rfl, hv, hb⟩
  obtain ⟨gv, rfl, hgv⟩ := hv
  have HV := Aside0.mk hgv
  clear hgv
  go_wp2_with fail
  exact bodyPost_ret (v := .tuple #[.int .i64 0, .int .i64 0, .bool false, .iface 77 (.pointer (some ⟨gv, 0, none⟩))]) (by simp [results, Tryd.results26, go_sem]) rfl (HeadPost.bad (by decide) ⟨gv, rfl, HV.out⟩ hb)
set_option maxHeartbeats 2000000 in
theorem head_great_c_true (b0 b1 n op z nn us : Int) (ad : Addr) (len c : Nat) (w : World) (hl : 2 ≤ len) (x0 : w.cell? ad = some (.int .u8 b0)) (ho : Go.bits .and .u8 b0 15 = op) (hz : Go.bits .and .u8 b0 112 = z) (x1 : w.cell? ⟨ad.block, ad.off + 1, none⟩ = some (.int .u8 b1)) (hzz : (z != 0) = false) (hk : knownB op = true) (hc : decide (8 ≤ op) = true) (hf : decide (b0 < 128) = false) (hm : decide (128 ≤ b1) = true) (hn : Go.bits .andNot .u8 b1 128 = n) (hlong : decide (126 ≤ n) = false) (HL : Aside0 (Calls Tryd.prog 35 #[.slice (some ad) len c] w fun e w' => e = .returned (.tuple #[.int .u64 nn, .int .i64 us, .bool false, .nilIface]) ∧ w' = w)) (hg : decide (4096 < nn) = true) : HeadTo (some ad) len c true w 0 0 false 1009 := by
  unfold HeadTo
  have p0 : (0 : Int) < (len : Int) := by omega
  have p0n : 0 < len := by omega
  have q0 : ((len : Int) == 0) = false := beq_eq_false_iff_ne.mpr (by omega)
  have q0n : (len == 0) = false := beq_eq_false_iff_ne.mpr (by omega)
  have p1 : (1 : Int) < (len : Int) := by omega
  have p1n : 1 < len := by omega
  have q1 : ((len : Int) == 1) = false := beq_eq_false_iff_ne.mpr (by omega)
  have q1n : (len == 1) = false := beq_eq_false_iff_ne.mpr (by omega)
  go_enter Tryd.func26, Tryd.ntmps26
  go_wp2_with (first | (go_at_call 33; ((with_reducible refine (known_any _ _ hk _).mono ?_); rintro e w' ⟨rfl, rfl⟩)) | (go_at_call 34; ((with_reducible refine (control_any _ _ hc _).mono ?_); rintro e w' ⟨rfl, rfl⟩)) | fail)
  with_reducible refine HL.out.mono ?_
  rintro e w1 ⟨rfl, rfl⟩
  go_wp2_with fail
  refine (socket_any 1009 _).mono ?_
  rintro e w1 ⟨v, rfl, hv, hb⟩
  go_wp2_with fail
  exact bodyPost_ret (v := .tuple #[.int .i64 0, .int .i64 0, .bool false, v]) (by simp [results, Tryd.results26, go_sem]) rfl (HeadPost.bad (by decide) hv hb)
set_option maxHeartbeats 2000000 in
theorem head_ok_c_true (b0 b1 n op z nn us : Int) (ad : Addr) (len c : Nat) (w : World) (hl : 2 ≤ len) (x0 : w.cell? ad = some (.int .u8 b0)) (ho : Go.bits .and .u8 b0 15 = op) (hz : Go.bits .and .u8 b0 112 = z) (x1 : w.cell? ⟨ad.block, ad.off + 1, none⟩ = some (.int .u8 b1)) (hzz : (z != 0) = false) (hk : knownB op = true) (hc : decide (8 ≤ op) = true) (hf : decide (b0 < 128) = false) (hm : decide (128 ≤ b1) = true) (hn : Go.bits .andNot .u8 b1 128 = n) (hlong : decide (126 ≤ n) = false) (HL : Aside0 (Calls Tryd.prog 35 #[.slice (some ad) len c] w fun e w' => e = .returned (.tuple #[.int .u64 nn, .int .i64 us, .bool false, .nilIface]) ∧ w' = w)) (hg : decide (4096 < nn) = false) (hw : IntKind.i64.wrap nn = nn) (hu : IntKind.i64.wrap (us + 4) = us + 4) : HeadTo (some ad) len c true w (us + 4) nn false 0 := by
  unfold HeadTo
  have p0 : (0 : Int) < (len : Int) := by omega
  have p0n : 0 < len := by omega
  have q0 : ((len : Int) == 0) = false := beq_eq_false_iff_ne.mpr (by omega)
  have q0n : (len == 0) = false := beq_eq_false_iff_ne.mpr (by omega)
  have p1 : (1 : Int) < (len : Int) := by omega
  have p1n : 1 < len := by omega
  have q1 : ((len : Int) == 1) = false := beq_eq_false_iff_ne.mpr (by omega)
  have q1n : (len == 1) = false := beq_eq_false_iff_ne.mpr (by omega)
  go_enter Tryd.func26, Tryd.ntmps26
  go_wp2_with (first | (go_at_call 33; ((with_reducible refine (known_any _ _ hk _).mono ?_); rintro e w' ⟨rfl, rfl⟩)) | (go_at_call 34; ((with_reducible refine (control_any _ _ hc _).mono ?_); rintro e w' ⟨rfl, rfl⟩)) | fail)
  with_reducible refine HL.out.mono ?_
  rintro e w1 ⟨rfl, rfl⟩
  go_wp2_with fail
  exact bodyPost_ret (v := .tuple #[.int .i64 (us + 4), .int .i64 nn, .bool false, .nilIface]) (by simp [results, Tryd.results26, go_sem]) rfl (HeadPost.nil _ _ _ _)
end Go.Proofs.YtkhlldhcmgkioaaDoor
