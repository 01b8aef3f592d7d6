/- The length behind a head's two bytes, by its contracts. -/
import Derived.Test.YtkhlldhcmgkioaaDoorFault
namespace Go.Proofs.YtkhlldhcmgkioaaDoor
open Go.RowKit Go.Proofs.YtkhlldhcmgkioaaDoorW.PrintWords Go.Proofs.YtkhlldhcmgkioaaDoorW.PrintLast Go.Proofs.YtkhlldhcmgkioaaDoorW.PrintMore
set_option linter.unusedVariables false
theorem protocol_any (w : World) : Calls Tryd.prog 29 #[] w fun e w' => ∃ v, e = .returned v ∧ IsBad w' v 1002 ∧ Below w.heap.size w w' := by
  go_enter Tryd.func29, Tryd.ntmps29
  go_wp2_with fail
  refine (socket_any 1002 _).mono ?_
  rintro e w1 ⟨v, rfl, hv, hb⟩
  go_wp2_with fail
  go_ret
  exact ⟨_, rfl, hv, hb⟩
theorem length_small (b n : Int) (ad : Addr) (len c : Nat) (w : World) (hx : w.cell? ⟨ad.block, ad.off + 1, none⟩ = some (.int .u8 b)) (hn : Go.bits .andNot .u8 b 128 = n) (hl : 2 ≤ len) (h6 : (n == 126) = false) (h7 : (n == 127) = false) (hw : IntKind.u64.wrap n = n) :
    Calls Tryd.prog 35 #[.slice (some ad) len c] w fun e w' => e = .returned (.tuple #[.int .u64 n, .int .i64 2, .bool false, .nilIface]) ∧ w' = w := by
  have p1 : (1 : Int) < (len : Int) := by omega
  go_enter Tryd.func35, Tryd.ntmps35
  go_wp2
  exact bodyPost_ret (v := .tuple #[.int .u64 n, .int .i64 2, .bool false, .nilIface]) (by simp [results, Tryd.results35, go_sem]) rfl ⟨rfl, rfl⟩
theorem length_two_more (b : Int) (ad : Addr) (len c : Nat) (w : World) (hx : w.cell? ⟨ad.block, ad.off + 1, none⟩ = some (.int .u8 b)) (hn : Go.bits .andNot .u8 b 128 = 126) (hl : 2 ≤ len) (hs : len < 4) :
    Calls Tryd.prog 35 #[.slice (some ad) len c] w fun e w' => e = .returned (.tuple #[.int .u64 0, .int .i64 0, .bool true, .nilIface]) ∧ w' = w := by
  have p1 : (1 : Int) < (len : Int) := by omega
  have p2 : (len : Int) < 4 := by omega
  go_enter Tryd.func35, Tryd.ntmps35
  go_wp2
  exact bodyPost_ret (v := .tuple #[.int .u64 0, .int .i64 0, .bool true, .nilIface]) (by simp [results, Tryd.results35, go_sem]) rfl ⟨rfl, rfl⟩
set_option maxHeartbeats 2000000 in
theorem length_two_ok (b b2 b3 s2 s3 : Int) (ad : Addr) (len c : Nat) (w : World) (hx : w.cell? ⟨ad.block, ad.off + 1, none⟩ = some (.int .u8 b)) (hn : Go.bits .andNot .u8 b 128 = 126) (x2 : w.cell? ⟨ad.block, ad.off + 2, none⟩ = some (.int .u8 b2)) (x3 : w.cell? ⟨ad.block, ad.off + 3, none⟩ = some (.int .u8 b3)) (e2 : IntKind.u64.wrap b2 = b2) (e3 : IntKind.u64.wrap b3 = b3) (q2 : Go.bits .or .u64 0 b2 = s2) (q3 : Go.bits .or .u64 (s2 * 256) b3 = s3) (r3 : IntKind.u64.wrap (s2 * 256) = s2 * 256) (t1 : decide (s3 < 126) = false) (hl : 4 ≤ len) (hc : len ≤ c) :
    Calls Tryd.prog 35 #[.slice (some ad) len c] w fun e w' => e = .returned (.tuple #[.int .u64 s3, .int .i64 4, .bool false, .nilIface]) ∧ w' = w := by
  have p1 : (1 : Int) < (len : Int) := by omega
  have p2 : ¬ (len : Int) < 4 := by omega
  have p3 : (4 : Int) ≤ (len : Int) := by omega
  have p4 : (4 : Int) ≤ (c : Int) := by omega
  go_enter Tryd.func35, Tryd.ntmps35
  go_wp2
  refine wp_loop_rounds 3 ?_
  rw [rounds_succ]
  go_wp2
  rw [rounds_succ]
  go_wp2
  rw [rounds_succ]
  go_wp2
  exact bodyPost_ret (v := .tuple #[.int .u64 s3, .int .i64 4, .bool false, .nilIface]) (by simp [results, Tryd.results35, go_sem]) rfl ⟨rfl, rfl⟩
set_option maxHeartbeats 2000000 in
theorem length_two_bad (b b2 b3 s2 s3 : Int) (ad : Addr) (len c : Nat) (w : World) (hx : w.cell? ⟨ad.block, ad.off + 1, none⟩ = some (.int .u8 b)) (hn : Go.bits .andNot .u8 b 128 = 126) (x2 : w.cell? ⟨ad.block, ad.off + 2, none⟩ = some (.int .u8 b2)) (x3 : w.cell? ⟨ad.block, ad.off + 3, none⟩ = some (.int .u8 b3)) (e2 : IntKind.u64.wrap b2 = b2) (e3 : IntKind.u64.wrap b3 = b3) (q2 : Go.bits .or .u64 0 b2 = s2) (q3 : Go.bits .or .u64 (s2 * 256) b3 = s3) (r3 : IntKind.u64.wrap (s2 * 256) = s2 * 256) (t1 : decide (s3 < 126) = true) (hl : 4 ≤ len) (hc : len ≤ c) :
    Calls Tryd.prog 35 #[.slice (some ad) len c] w fun e w' => ∃ v, e = .returned (.tuple #[.int .u64 0, .int .i64 0, .bool false, v]) ∧ IsBad w' v 1002 ∧ Below w.heap.size w w' := by
  have p1 : (1 : Int) < (len : Int) := by omega
  have p2 : ¬ (len : Int) < 4 := by omega
  have p3 : (4 : Int) ≤ (len : Int) := by omega
  have p4 : (4 : Int) ≤ (c : Int) := by omega
  go_enter Tryd.func35, Tryd.ntmps35
  go_wp2
  refine wp_loop_rounds 3 ?_
  rw [rounds_succ]
  go_wp2
  rw [rounds_succ]
  go_wp2
  rw [rounds_succ]
  go_wp2_with fail
  refine (protocol_any _).mono ?_
  rintro e w1 ⟨v, rfl, hv, hb⟩
  go_wp2_with fail
  exact bodyPost_ret (v := .tuple #[.int .u64 0, .int .i64 0, .bool false, v]) (by simp [results, Tryd.results35, go_sem]) rfl ⟨_, rfl, hv, hb⟩
theorem length_eight_more (b : Int) (ad : Addr) (len c : Nat) (w : World) (hx : w.cell? ⟨ad.block, ad.off + 1, none⟩ = some (.int .u8 b)) (hn : Go.bits .andNot .u8 b 128 = 127) (hl : 2 ≤ len) (hs : len < 10) :
    Calls Tryd.prog 35 #[.slice (some ad) len c] w fun e w' => e = .returned (.tuple #[.int .u64 0, .int .i64 0, .bool true, .nilIface]) ∧ w' = w := by
  have p1 : (1 : Int) < (len : Int) := by omega
  have p2 : (len : Int) < 10 := by omega
  go_enter Tryd.func35, Tryd.ntmps35
  go_wp2
  exact bodyPost_ret (v := .tuple #[.int .u64 0, .int .i64 0, .bool true, .nilIface]) (by simp [results, Tryd.results35, go_sem]) rfl ⟨rfl, rfl⟩
set_option maxHeartbeats 2000000 in
theorem length_eight_ok (b b2 b3 b4 b5 b6 b7 b8 b9 s2 s3 s4 s5 s6 s7 s8 s9 : Int) (ad : Addr) (len c : Nat) (w : World) (hx : w.cell? ⟨ad.block, ad.off + 1, none⟩ = some (.int .u8 b)) (hn : Go.bits .andNot .u8 b 128 = 127) (x2 : w.cell? ⟨ad.block, ad.off + 2, none⟩ = some (.int .u8 b2)) (x3 : w.cell? ⟨ad.block, ad.off + 3, none⟩ = some (.int .u8 b3)) (x4 : w.cell? ⟨ad.block, ad.off + 4, none⟩ = some (.int .u8 b4)) (x5 : w.cell? ⟨ad.block, ad.off + 5, none⟩ = some (.int .u8 b5)) (x6 : w.cell? ⟨ad.block, ad.off + 6, none⟩ = some (.int .u8 b6)) (x7 : w.cell? ⟨ad.block, ad.off + 7, none⟩ = some (.int .u8 b7)) (x8 : w.cell? ⟨ad.block, ad.off + 8, none⟩ = some (.int .u8 b8)) (x9 : w.cell? ⟨ad.block, ad.off + 9, none⟩ = some (.int .u8 b9)) (e2 : IntKind.u64.wrap b2 = b2) (e3 : IntKind.u64.wrap b3 = b3) (e4 : IntKind.u64.wrap b4 = b4) (e5 : IntKind.u64.wrap b5 = b5) (e6 : IntKind.u64.wrap b6 = b6) (e7 : IntKind.u64.wrap b7 = b7) (e8 : IntKind.u64.wrap b8 = b8) (e9 : IntKind.u64.wrap b9 = b9) (q2 : Go.bits .or .u64 0 b2 = s2) (q3 : Go.bits .or .u64 (s2 * 256) b3 = s3) (q4 : Go.bits .or .u64 (s3 * 256) b4 = s4) (q5 : Go.bits .or .u64 (s4 * 256) b5 = s5) (q6 : Go.bits .or .u64 (s5 * 256) b6 = s6) (q7 : Go.bits .or .u64 (s6 * 256) b7 = s7) (q8 : Go.bits .or .u64 (s7 * 256) b8 = s8) (q9 : Go.bits .or .u64 (s8 * 256) b9 = s9) (r3 : IntKind.u64.wrap (s2 * 256) = s2 * 256) (r4 : IntKind.u64.wrap (s3 * 256) = s3 * 256) (r5 : IntKind.u64.wrap (s4 * 256) = s4 * 256) (r6 : IntKind.u64.wrap (s5 * 256) = s5 * 256) (r7 : IntKind.u64.wrap (s6 * 256) = s6 * 256) (r8 : IntKind.u64.wrap (s7 * 256) = s7 * 256) (r9 : IntKind.u64.wrap (s8 * 256) = s8 * 256) (t1 : decide (s9 < 126) = false) (t2 : decide (s9 < 65536) = false) (t3 : decide (9223372036854775808 ≤ s9) = false) (hl : 10 ≤ len) (hc : len ≤ c) :
    Calls Tryd.prog 35 #[.slice (some ad) len c] w fun e w' => e = .returned (.tuple #[.int .u64 s9, .int .i64 10, .bool false, .nilIface]) ∧ w' = w := by
  have p1 : (1 : Int) < (len : Int) := by omega
  have p2 : ¬ (len : Int) < 10 := by omega
  have p3 : (10 : Int) ≤ (len : Int) := by omega
  have p4 : (10 : Int) ≤ (c : Int) := by omega
  go_enter Tryd.func35, Tryd.ntmps35
  go_wp2
  refine wp_loop_rounds 9 ?_
  rw [rounds_succ]
  go_wp2
  rw [rounds_succ]
  go_wp2
  rw [rounds_succ]
  go_wp2
  rw [rounds_succ]
  go_wp2
  rw [rounds_succ]
  go_wp2
  rw [rounds_succ]
  go_wp2
  rw [rounds_succ]
  go_wp2
  rw [rounds_succ]
  go_wp2
  rw [rounds_succ]
  go_wp2
  exact bodyPost_ret (v := .tuple #[.int .u64 s9, .int .i64 10, .bool false, .nilIface]) (by simp [results, Tryd.results35, go_sem]) rfl ⟨rfl, rfl⟩
set_option maxHeartbeats 2000000 in
theorem length_eight_bad1 (b b2 b3 b4 b5 b6 b7 b8 b9 s2 s3 s4 s5 s6 s7 s8 s9 : Int) (ad : Addr) (len c : Nat) (w : World) (hx : w.cell? ⟨ad.block, ad.off + 1, none⟩ = some (.int .u8 b)) (hn : Go.bits .andNot .u8 b 128 = 127) (x2 : w.cell? ⟨ad.block, ad.off + 2, none⟩ = some (.int .u8 b2)) (x3 : w.cell? ⟨ad.block, ad.off + 3, none⟩ = some (.int .u8 b3)) (x4 : w.cell? ⟨ad.block, ad.off + 4, none⟩ = some (.int .u8 b4)) (x5 : w.cell? ⟨ad.block, ad.off + 5, none⟩ = some (.int .u8 b5)) (x6 : w.cell? ⟨ad.block, ad.off + 6, none⟩ = some (.int .u8 b6)) (x7 : w.cell? ⟨ad.block, ad.off + 7, none⟩ = some (.int .u8 b7)) (x8 : w.cell? ⟨ad.block, ad.off + 8, none⟩ = some (.int .u8 b8)) (x9 : w.cell? ⟨ad.block, ad.off + 9, none⟩ = some (.int .u8 b9)) (e2 : IntKind.u64.wrap b2 = b2) (e3 : IntKind.u64.wrap b3 = b3) (e4 : IntKind.u64.wrap b4 = b4) (e5 : IntKind.u64.wrap b5 = b5) (e6 : IntKind.u64.wrap b6 = b6) (e7 : IntKind.u64.wrap b7 = b7) (e8 : IntKind.u64.wrap b8 = b8) (e9 : IntKind.u64.wrap b9 = b9) (q2 : Go.bits .or .u64 0 b2 = s2) (q3 : Go.bits .or .u64 (s2 * 256) b3 = s3) (q4 : Go.bits .or .u64 (s3 * 256) b4 = s4) (q5 : Go.bits .or .u64 (s4 * 256) b5 = s5) (q6 : Go.bits .or .u64 (s5 * 256) b6 = s6) (q7 : Go.bits .or .u64 (s6 * 256) b7 = s7) (q8 : Go.bits .or .u64 (s7 * 256) b8 = s8) (q9 : Go.bits .or .u64 (s8 * 256) b9 = s9) (r3 : IntKind.u64.wrap (s2 * 256) = s2 * 256) (r4 : IntKind.u64.wrap (s3 * 256) = s3 * 256) (r5 : IntKind.u64.wrap (s4 * 256) = s4 * 256) (r6 : IntKind.u64.wrap (s5 * 256) = s5 * 256) (r7 : IntKind.u64.wrap (s6 * 256) = s6 * 256) (r8 : IntKind.u64.wrap (s7 * 256) = s7 * 256) (r9 : IntKind.u64.wrap (s8 * 256) = s8 * 256) (t1 : decide (s9 < 126) = true) (hl : 10 ≤ len) (hc : len ≤ c) :
    Calls Tryd.prog 35 #[.slice (some ad) len c] w fun e w' => ∃ v, e = .returned (.tuple #[.int .u64 0, .int .i64 0, .bool false, v]) ∧ IsBad w' v 1002 ∧ Below w.heap.size w w' := by
  have p1 : (1 : Int) < (len : Int) := by omega
  have p2 : ¬ (len : Int) < 10 := by omega
  have p3 : (10 : Int) ≤ (len : Int) := by omega
  have p4 : (10 : Int) ≤ (c : Int) := by omega
  go_enter Tryd.func35, Tryd.ntmps35
  go_wp2
  refine wp_loop_rounds 9 ?_
  rw [rounds_succ]
  go_wp2
  rw [rounds_succ]
  go_wp2
  rw [rounds_succ]
  go_wp2
  rw [rounds_succ]
  go_wp2
  rw [rounds_succ]
  go_wp2
  rw [rounds_succ]
  go_wp2
  rw [rounds_succ]
  go_wp2
  rw [rounds_succ]
  go_wp2
  rw [rounds_succ]
  go_wp2_with fail
  refine (protocol_any _).mono ?_
  rintro e w1 ⟨v, rfl, hv, hb⟩
  go_wp2_with fail
  exact bodyPost_ret (v := .tuple #[.int .u64 0, .int .i64 0, .bool false, v]) (by simp [results, Tryd.results35, go_sem]) rfl ⟨_, rfl, hv, hb⟩
set_option maxHeartbeats 2000000 in
theorem length_eight_bad2 (b b2 b3 b4 b5 b6 b7 b8 b9 s2 s3 s4 s5 s6 s7 s8 s9 : Int) (ad : Addr) (len c : Nat) (w : World) (hx : w.cell? ⟨ad.block, ad.off + 1, none⟩ = some (.int .u8 b)) (hn : Go.bits .andNot .u8 b 128 = 127) (x2 : w.cell? ⟨ad.block, ad.off + 2, none⟩ = some (.int .u8 b2)) (x3 : w.cell? ⟨ad.block, ad.off + 3, none⟩ = some (.int .u8 b3)) (x4 : w.cell? ⟨ad.block, ad.off + 4, none⟩ = some (.int .u8 b4)) (x5 : w.cell? ⟨ad.block, ad.off + 5, none⟩ = some (.int .u8 b5)) (x6 : w.cell? ⟨ad.block, ad.off + 6, none⟩ = some (.int .u8 b6)) (x7 : w.cell? ⟨ad.block, ad.off + 7, none⟩ = some (.int .u8 b7)) (x8 : w.cell? ⟨ad.block, ad.off + 8, none⟩ = some (.int .u8 b8)) (x9 : w.cell? ⟨ad.block, ad.off + 9, none⟩ = some (.int .u8 b9)) (e2 : IntKind.u64.wrap b2 = b2) (e3 : IntKind.u64.wrap b3 = b3) (e4 : IntKind.u64.wrap b4 = b4) (e5 : IntKind.u64.wrap b5 = b5) (e6 : IntKind.u64.wrap b6 = b6) (e7 : IntKind.u64.wrap b7 = b7) (e8 : IntKind.u64.wrap b8 = b8) (e9 : IntKind.u64.wrap b9 = b9) (q2 : Go.bits .or .u64 0 b2 = s2) (q3 : Go.bits .or .u64 (s2 * 256) b3 = s3) (q4 : Go.bits .or .u64 (s3 * 256) b4 = s4) (q5 : Go.bits .or .u64 (s4 * 256) b5 = s5) (q6 : Go.bits .or .u64 (s5 * 256) b6 = s6) (q7 : Go.bits .or .u64 (s6 * 256) b7 = s7) (q8 : Go.bits .or .u64 (s7 * 256) b8 = s8) (q9 : Go.bits .or .u64 (s8 * 256) b9 = s9) (r3 : IntKind.u64.wrap (s2 * 256) = s2 * 256) (r4 : IntKind.u64.wrap (s3 * 256) = s3 * 256) (r5 : IntKind.u64.wrap (s4 * 256) = s4 * 256) (r6 : IntKind.u64.wrap (s5 * 256) = s5 * 256) (r7 : IntKind.u64.wrap (s6 * 256) = s6 * 256) (r8 : IntKind.u64.wrap (s7 * 256) = s7 * 256) (r9 : IntKind.u64.wrap (s8 * 256) = s8 * 256) (t1 : decide (s9 < 126) = false) (t2 : decide (s9 < 65536) = true) (hl : 10 ≤ len) (hc : len ≤ c) :
    Calls Tryd.prog 35 #[.slice (some ad) len c] w fun e w' => ∃ v, e = .returned (.tuple #[.int .u64 0, .int .i64 0, .bool false, v]) ∧ IsBad w' v 1002 ∧ Below w.heap.size w w' := by
  have p1 : (1 : Int) < (len : Int) := by omega
  have p2 : ¬ (len : Int) < 10 := by omega
  have p3 : (10 : Int) ≤ (len : Int) := by omega
  have p4 : (10 : Int) ≤ (c : Int) := by omega
  go_enter Tryd.func35, Tryd.ntmps35
  go_wp2
  refine wp_loop_rounds 9 ?_
  rw [rounds_succ]
  go_wp2
  rw [rounds_succ]
  go_wp2
  rw [rounds_succ]
  go_wp2
  rw [rounds_succ]
  go_wp2
  rw [rounds_succ]
  go_wp2
  rw [rounds_succ]
  go_wp2
  rw [rounds_succ]
  go_wp2
  rw [rounds_succ]
  go_wp2
  rw [rounds_succ]
  go_wp2_with fail
  refine (protocol_any _).mono ?_
  rintro e w1 ⟨v, rfl, hv, hb⟩
  go_wp2_with fail
  exact bodyPost_ret (v := .tuple #[.int .u64 0, .int .i64 0, .bool false, v]) (by simp [results, Tryd.results35, go_sem]) rfl ⟨_, rfl, hv, hb⟩
set_option maxHeartbeats 2000000 in
theorem length_eight_bad3 (b b2 b3 b4 b5 b6 b7 b8 b9 s2 s3 s4 s5 s6 s7 s8 s9 : Int) (ad : Addr) (len c : Nat) (w : World) (hx : w.cell? ⟨ad.block, ad.off + 1, none⟩ = some (.int .u8 b)) (hn : Go.bits .andNot .u8 b 128 = 127) (x2 : w.cell? ⟨ad.block, ad.off + 2, none⟩ = some (.int .u8 b2)) (x3 : w.cell? ⟨ad.block, ad.off + 3, none⟩ = some (.int .u8 b3)) (x4 : w.cell? ⟨ad.block, ad.off + 4, none⟩ = some (.int .u8 b4)) (x5 : w.cell? ⟨ad.block, ad.off + 5, none⟩ = some (.int .u8 b5)) (x6 : w.cell? ⟨ad.block, ad.off + 6, none⟩ = some (.int .u8 b6)) (x7 : w.cell? ⟨ad.block, ad.off + 7, none⟩ = some (.int .u8 b7)) (x8 : w.cell? ⟨ad.block, ad.off + 8, none⟩ = some (.int .u8 b8)) (x9 : w.cell? ⟨ad.block, ad.off + 9, none⟩ = some (.int .u8 b9)) (e2 : IntKind.u64.wrap b2 = b2) (e3 : IntKind.u64.wrap b3 = b3) (e4 : IntKind.u64.wrap b4 = b4) (e5 : IntKind.u64.wrap b5 = b5) (e6 : IntKind.u64.wrap b6 = b6) (e7 : IntKind.u64.wrap b7 = b7) (e8 : IntKind.u64.wrap b8 = b8) (e9 : IntKind.u64.wrap b9 = b9) (q2 : Go.bits .or .u64 0 b2 = s2) (q3 : Go.bits .or .u64 (s2 * 256) b3 = s3) (q4 : Go.bits .or .u64 (s3 * 256) b4 = s4) (q5 : Go.bits .or .u64 (s4 * 256) b5 = s5) (q6 : Go.bits .or .u64 (s5 * 256) b6 = s6) (q7 : Go.bits .or .u64 (s6 * 256) b7 = s7) (q8 : Go.bits .or .u64 (s7 * 256) b8 = s8) (q9 : Go.bits .or .u64 (s8 * 256) b9 = s9) (r3 : IntKind.u64.wrap (s2 * 256) = s2 * 256) (r4 : IntKind.u64.wrap (s3 * 256) = s3 * 256) (r5 : IntKind.u64.wrap (s4 * 256) = s4 * 256) (r6 : IntKind.u64.wrap (s5 * 256) = s5 * 256) (r7 : IntKind.u64.wrap (s6 * 256) = s6 * 256) (r8 : IntKind.u64.wrap (s7 * 256) = s7 * 256) (r9 : IntKind.u64.wrap (s8 * 256) = s8 * 256) (t1 : decide (s9 < 126) = false) (t2 : decide (s9 < 65536) = false) (t3 : decide (9223372036854775808 ≤ s9) = true) (hl : 10 ≤ len) (hc : len ≤ c) :
    Calls Tryd.prog 35 #[.slice (some ad) len c] w fun e w' => ∃ v, e = .returned (.tuple #[.int .u64 0, .int .i64 0, .bool false, v]) ∧ IsBad w' v 1002 ∧ Below w.heap.size w w' := by
  have p1 : (1 : Int) < (len : Int) := by omega
  have p2 : ¬ (len : Int) < 10 := by omega
  have p3 : (10 : Int) ≤ (len : Int) := by omega
  have p4 : (10 : Int) ≤ (c : Int) := by omega
  go_enter Tryd.func35, Tryd.ntmps35
  go_wp2
  refine wp_loop_rounds 9 ?_
  rw [rounds_succ]
  go_wp2
  rw [rounds_succ]
  go_wp2
  rw [rounds_succ]
  go_wp2
  rw [rounds_succ]
  go_wp2
  rw [rounds_succ]
  go_wp2
  rw [rounds_succ]
  go_wp2
  rw [rounds_succ]
  go_wp2
  rw [rounds_succ]
  go_wp2
  rw [rounds_succ]
  go_wp2_with fail
  refine (protocol_any _).mono ?_
  rintro e w1 ⟨v, rfl, hv, hb⟩
  go_wp2_with fail
  exact bodyPost_ret (v := .tuple #[.int .u64 0, .int .i64 0, .bool false, v]) (by simp [results, Tryd.results35, go_sem]) rfl ⟨_, rfl, hv, hb⟩
end Go.Proofs.YtkhlldhcmgkioaaDoor
