/- What the law's row rests on, part 8. -/
import Derived.Test.YtpmeapdcjmaeiaaGreatDoorZ7
import Derived.Deep.RegionHeld3
import Derived.Lib.ConvBytes
import Derived.Laws.AppendOwn
import Derived.Deep.LoopGhost
import Derived.Deep.DeepCutAuto
set_option linter.unusedVariables false
set_option linter.unusedSimpArgs false
set_option maxRecDepth 100000
set_option maxHeartbeats 16000000
namespace Go.Proofs.YtpmeapdcjmaeiaaGreatDoor
open Go.RowKit Go.Wa Go.Wb Go.Wc PAll U
def closeM (d : List Int) : Int × List Int × Int :=
 match d with
 | [] => (4, [], 1005)
 | [_] => (5, [], 1002)
 | a :: b :: r => if toldB (256 * a + b) = true then (if validC r = true then (4, r, 256 * a + b) else (5, [], 1007)) else (5, [], 1002)
theorem C_zero (A : Option Addr) (w : World) : Kd.C (Kd.int .u8) w A 0 [] := Kd.C_of_reads (d := (0 : Int)) ⟨rfl, Nat.zero_le _, fun hp => absurd hp (by decide)⟩
theorem heap_sets4 {W : World} {q k : Nat} {x0 x1 x2 x3 : Value} (h : q ≠ k) : ((((W.setCell ⟨k, 0, none⟩ x0).setCell ⟨k, 1, none⟩ x1).setCell ⟨k, 2, none⟩ x2).setCell ⟨k, 3, none⟩ x3).heap[q]? = W.heap[q]? := by
 rw [Below.heap_setCell _ ⟨k, 3, none⟩ _ q h, Below.heap_setCell _ ⟨k, 2, none⟩ _ q h, Below.heap_setCell _ ⟨k, 1, none⟩ _ q h, Below.heap_setCell _ ⟨k, 0, none⟩ _ q h]
theorem sets4 {w W : World} {B k : Nat} {x0 x1 x2 x3 : Value} (h : Below B w W) (hk : B ≤ k) : Below B w ((((W.setCell ⟨k, 0, none⟩ x0).setCell ⟨k, 1, none⟩ x1).setCell ⟨k, 2, none⟩ x2).setCell ⟨k, 3, none⟩ x3) := Below.setCell (Below.setCell (Below.setCell (Below.setCell h hk _) hk _) hk _) hk _
theorem C_nil (w : World) : Kd.C (Kd.int .u8) w none 0 [] := (Kd.R_reads' (Kd.R_nil (Kd.int .u8) 5 w 0 (fun _ => True))).2.2
end Go.Proofs.YtpmeapdcjmaeiaaGreatDoor
namespace Go.Proofs.YtpmeapdcjmaeiaaGreatDoor
open Go.RowKit Go.Wa Go.Wb Go.Wc PAll
theorem take_close_any {fin mk : Bool} {key : Int} (l d : List Int) (code : Int) (hcl : ClosesTo l d code) (g : Nat) (v u : Value) (busy text : Bool) (A : Option Addr) (c : Nat) (w : World) (hG : IsG w g v busy text u false) (hC : Kd.C (Kd.int .u8) w A l.length l) (hc : l.length ≤ c) : Calls Tryz.prog 76 #[.pointer (some ⟨g, 0, none⟩), .agg #[.bool fin, .int .u8 8, .bool mk, .int .u32 key, .slice A l.length c]] w fun e w' => ∃ vn, e = .returned (.tuple #[.agg #[.int .u8 4, .bool false, vn, .int .u32 code], .bool true, .nilIface]) ∧ Kd.R (Kd.int .u8) 5 w' w.heap.size (fun _ => True) vn d ∧ IsG w' g v busy text u true ∧ KeepBut w w' g none ∧ (∀ w0 : World, w0.heap.size ≤ g → Below w0.heap.size w0 w → Below w0.heap.size w0 w') := by
 have hu30 := Tryz.underlying37
 have hu26 := Tryz.underlying81
 have hgl : g < w.heap.size := blk_lt hG
 have HG := a_ hG
 have HC := a_ hC
 clear hG hC
 go_enter Tryz.func76, Tryz.ntmps76
 go_wp2_with fail
 refine (hcl A c _ (Kd.C_below HC.out (below_alloc (below_alloc (Below.refl _ _) _) _)) hc).mono ?_
 rintro e w1 ⟨vn, rfl, ho, hb⟩
 have hr : w1.heap[w.heap.size + 1]? = some (.cells #[.int .u8 0, .bool false, .slice none 0 0, .int .u32 0] 37 (0, 0)) := blk_below (last_at _ _ _ (by simp)) hb
 have hB := below_step (below_alloc (below_alloc (Below.refl w.heap.size w) _) _) hb
 have hG1 : IsG w1 g v busy text u false := blk_below HG.out hB
 obtain ⟨-, -, -, -, -, -, -, -, gc4, gf4⟩ := xf5_ hG1
 have gl := blk_lt hG1
 obtain ⟨Av, cv, rfl⟩ := Kd.R_slice ho
 have ho2 := Kd.R_types (Kd.R_types (Kd.R_lower ho (show w.heap.size ≤ _ by simp; omega)) hG1 (by intro q hq; simp [Kd.int, Kd.scalar] at hq; omega)) hr (by intro q hq; simp [Kd.int, Kd.scalar] at hq; omega)
 have HO := a_ ho2
 have HB := a_ hB
 have HR := a_ hr
 have HG1 := a_ hG1
 have hl1 : w.heap.size + 1 < w1.heap.size := blk_lt hr
 clear ho ho2 hb hB hG1 hr
 go_wp2_with fail
 clear gc4 gf4 gl
 have hbox : (((w1.setCell ⟨g, 4, none⟩ (.bool true)).alloc (.cells #[.int .u8 4, .bool false, .slice Av d.length cv, .int .u32 code] 37))).heap[w1.heap.size]? = some (.cells #[.int .u8 4, .bool false, .slice Av d.length cv, .int .u32 code] 37 (0, 0)) := last_at _ _ _ (by simp)
 have hres : (((w1.setCell ⟨g, 4, none⟩ (.bool true)).alloc (.cells #[.int .u8 4, .bool false, .slice Av d.length cv, .int .u32 code] 37))).heap[w.heap.size + 1]? = some (.cells #[.int .u8 0, .bool false, .slice none 0 0, .int .u32 0] 37 (0, 0)) := blk_alloc ((Below.heap_setCell _ _ _ _ (by show w.heap.size + 1 ≠ g; omega)).trans HR.out) _
 have hG2 : IsG (((w1.setCell ⟨g, 4, none⟩ (.bool true)).alloc (.cells #[.int .u8 4, .bool false, .slice Av d.length cv, .int .u32 code] 37))) g v busy text u true := blk_alloc (blk_put HG1.out 4 (.bool true) rfl) _
 have hO2 : Kd.R (Kd.int .u8) 5 (((w1.setCell ⟨g, 4, none⟩ (.bool true)).alloc (.cells #[.int .u8 4, .bool false, .slice Av d.length cv, .int .u32 code] 37))) w.heap.size _ (.slice Av d.length cv) d := Kd.R_alloc (Kd.R_far HO.out (fun k hk => hk.1.2) _) _
 have hK2 : KeepBut w (((w1.setCell ⟨g, 4, none⟩ (.bool true)).alloc (.cells #[.int .u8 4, .bool false, .slice Av d.length cv, .int .u32 code] 37))) g none := keep_alloc ((KeepBut.of_below HB.out g none).set_ 4 _) _
 have hW2 : ∀ w0 : World, w0.heap.size ≤ g → Below w0.heap.size w0 w → Below w0.heap.size w0 (((w1.setCell ⟨g, 4, none⟩ (.bool true)).alloc (.cells #[.int .u8 4, .bool false, .slice Av d.length cv, .int .u32 code] 37))) := fun w0 h0 hw => below_alloc (Below.setCell (below_step hw HB.out) h0 _) _
 generalize ((w1.setCell ⟨g, 4, none⟩ (.bool true)).alloc (.cells #[.int .u8 4, .bool false, .slice Av d.length cv, .int .u32 code] 37)) = W2 at hbox hres hG2 hO2 hK2 hW2 ⊢
 have HG2 := a_ hG2
 have HO2 := a_ hO2
 have HK2 := a_ hK2
 have HW2 := a_ hW2
 clear hG2 hO2 hK2 hW2 HO HB HR HG1 HG
 obtain ⟨bc0, bc1, bc2, bc3⟩ := xl4_ hbox
 obtain ⟨rc0, rf0, rc1, rf1, rc2, rf2, rc3, rf3⟩ := xf4_ hres
 have rl := blk_lt hres
 have bl := blk_lt hbox
 go_region_with (go_at_call 101; with_reducible refine (wrap_nil _ _).mono ?_; rintro e w' ⟨rfl, rfl⟩)
 all_goals (simp only [Act.put, List.getElem_toArray, List.getElem_cons_zero, List.getElem_cons_succ, z1_, z2_, z3_]; go_wp2_with fail)
 all_goals
  have hne : g ≠ w.heap.size + 1 := by omega
  have hle : w.heap.size ≤ w.heap.size + 1 := by omega
  have hR := Kd.R_drew (Kd.R_far (Kd.R_far (Kd.R_far (Kd.R_far HO2.out (p := ⟨w.heap.size + 1, 0, none⟩) (fun k hk => hk.2) (.int .u8 4)) (p := ⟨w.heap.size + 1, 1, none⟩) (fun k hk => hk.2) (.bool false)) (p := ⟨w.heap.size + 1, 2, none⟩) (fun k hk => hk.2) (.slice Av d.length cv)) (p := ⟨w.heap.size + 1, 3, none⟩) (fun k hk => hk.2) (.int .u32 code))
  have hR2 := Kd.R_mono hR (ok' := fun _ => True) (fun _ _ => trivial)
  have hG3 := IsG.far (IsG.far (IsG.far (IsG.far HG2.out (p := ⟨w.heap.size + 1, 0, none⟩) (x := .int .u8 4) hne) (p := ⟨w.heap.size + 1, 1, none⟩) (x := .bool false) hne) (p := ⟨w.heap.size + 1, 2, none⟩) (x := .slice Av d.length cv) hne) (p := ⟨w.heap.size + 1, 3, none⟩) (x := .int .u32 code) hne
  have hK3 := keep_drew (keep_far (keep_far (keep_far (keep_far HK2.out (p := ⟨w.heap.size + 1, 0, none⟩) hle (.int .u8 4)) (p := ⟨w.heap.size + 1, 1, none⟩) hle (.bool false)) (p := ⟨w.heap.size + 1, 2, none⟩) hle (.slice Av d.length cv)) (p := ⟨w.heap.size + 1, 3, none⟩) hle (.int .u32 code))
  refine bodyPost_ret (v := .tuple #[.agg #[.int .u8 4, .bool false, .slice Av d.length cv, .int .u32 code], .bool true, .nilIface]) (by simp [results, Tryz.results76, go_sem, rc0, rc1, rc2, rc3]) rfl ⟨_, rfl, hR2, hG3, hK3, fun w0 h0 hw => ?_⟩
  have hl0 : w0.heap.size ≤ w.heap.size + 1 := by have := hw.size; omega
  exact below_drew (Below.setCell (Below.setCell (Below.setCell (Below.setCell (HW2.out w0 h0 hw) hl0 _) hl0 _) hl0 _) hl0 _)
theorem Take_close_any {fin mk : Bool} {key : Int} (l d : List Int) (code : Int) (hcl : ClosesTo l d code) (g : Nat) (v u : Value) (busy text : Bool) (A : Option Addr) (c : Nat) (w : World) (hv : v.oneCell' = true) (hG : IsG w g v busy text u false) (hC : Kd.C (Kd.int .u8) w A l.length l) (hc : l.length ≤ c) : Calls Tryz.prog 44 #[.pointer (some ⟨g, 0, none⟩), .agg #[.bool fin, .int .u8 8, .bool mk, .int .u32 key, .slice A l.length c]] w fun e w' => ∃ vn, e = .returned (.tuple #[.agg #[.int .u8 4, .bool false, vn, .int .u32 code], .bool true]) ∧ Kd.R (Kd.int .u8) 5 w' w.heap.size (fun _ => True) vn d ∧ IsG w' g (.slice none 0 0) busy text u true ∧ KeepBut w w' g none ∧ (∀ w0 : World, w0.heap.size ≤ g → Below w0.heap.size w0 w → Below w0.heap.size w0 w') := by
 have hu30 := Tryz.underlying37
 have hu26 := Tryz.underlying81
 have hgl : g < w.heap.size := blk_lt hG
 have HG := a_ hG
 have HC := a_ hC
 clear hG hC
 go_enter Tryz.func44, Tryz.ntmps44
 go_wp2_with fail
 refine (over_any g v u busy text false _ (show IsG _ g v busy text u false from blk_alloc (blk_alloc HG.out _) _)).mono ?_
 rintro e w1 ⟨rfl, hw1⟩
 have hres : w1.heap[w.heap.size + 1]? = some (.cells #[.int .u8 0, .bool false, .slice none 0 0, .int .u32 0] 37 (0, 0)) := by rw [hw1]; exact last_at _ _ _ (by simp)
 have hbox : w1.heap[w.heap.size]? = some (.cells #[.bool fin, .int .u8 8, .bool mk, .int .u32 key, .slice A l.length c] 81 (0, 0)) := by rw [hw1]; exact blk_alloc (last_at _ _ _ rfl) _
 have hB1 : Below w.heap.size w w1 := by rw [hw1]; exact below_alloc (below_alloc (Below.refl _ _) _) _
 have hG1 : IsG w1 g v busy text u false := by rw [hw1]; exact blk_alloc (blk_alloc HG.out _) _
 clear hw1
 obtain ⟨bc0, bf0, bc1, bf1, bc2, bf2, bc3, bf3, bc4, bf4⟩ := xf5_ hbox
 have bl : w.heap.size < w1.heap.size := blk_lt hbox
 have HB1 := a_ hB1
 have HR1 := a_ hres
 have HG1 := a_ hG1
 have hl1 : w.heap.size + 1 < w1.heap.size := blk_lt hres
 clear hB1 hres hG1 hbox
 go_wp2_with fail
 refine (take_close_any l d code hcl g v u busy text A c _ HG1.out (Kd.C_below HC.out HB1.out) hc).mono ?_
 rintro e w2 ⟨vn, rfl, ho, hG2, hk, hB0⟩
 have hr2 : w2.heap[w.heap.size + 1]? = some (.cells #[.int .u8 0, .bool false, .slice none 0 0, .int .u32 0] 37 (0, 0)) := hk.blk HR1.out (by omega) (by simp)
 have hl2 : w1.heap.size ≤ w2.heap.size := hk.1
 have ho2 := Kd.R_types (Kd.R_types (Kd.R_lower ho HB1.out.size) hG2 (by intro q hq; simp [Kd.int, Kd.scalar] at hq; omega)) hr2 (by intro q hq; simp [Kd.int, Kd.scalar] at hq; omega)
 obtain ⟨Av, cv, rfl⟩ := Kd.R_slice ho2
 have HO := a_ ho2
 have HG2 := a_ hG2
 have HR2 := a_ hr2
 have HKB := a_ ((KeepBut.of_below HB1.out g none).trans hk (.inl rfl))
 have HB0 := a_ (fun (w0 : World) (h0 : w0.heap.size ≤ g) (hw : Below w0.heap.size w0 w) => hB0 w0 h0 (below_step hw HB1.out))
 have gc0 : w2.cell? ⟨g, 0, none⟩ = some v := (blk_cell hG2 0).trans rfl
 obtain ⟨-, gf0, -, -, -, -, -, -, gc4, -⟩ := xf5_ hG2
 have gl := blk_lt hG2
 obtain ⟨rc0, rf0, rc1, rf1, rc2, rf2, rc3, rf3⟩ := xf4_ hr2
 have rl : w.heap.size + 1 < w2.heap.size := blk_lt hr2
 clear ho ho2 hG2 hr2 hk hB0 bc0 bc1 bc2 bc3 bc4 bf0 bf1 bf2 bf3 bf4 bl
 go_wp2_with fail
 have hne : g ≠ w.heap.size + 1 := by omega
 have hR := Kd.R_alloc (Kd.R_far (Kd.R_far (Kd.R_far (Kd.R_far (Kd.R_far HO.out (p := ⟨g, 0, none⟩) (fun k hk => hk.1.2) (.slice none 0 0)) (p := ⟨w.heap.size + 1, 0, none⟩) (fun k hk => hk.2) (.int .u8 4)) (p := ⟨w.heap.size + 1, 1, none⟩) (fun k hk => hk.2) (.bool false)) (p := ⟨w.heap.size + 1, 2, none⟩) (fun k hk => hk.2) (.slice Av d.length cv)) (p := ⟨w.heap.size + 1, 3, none⟩) (fun k hk => hk.2) (.int .u32 code)) (.cells #[.int .u8 4, .bool false, .slice Av d.length cv, .int .u32 code] 37)
 have hR2 := Kd.R_mono hR (ok' := fun _ => True) (fun _ _ => trivial)
 have hGa : IsG (w2.setCell ⟨g, 0, none⟩ (.slice none 0 0)) g (.slice none 0 0) busy text u true := blk_put HG2.out 0 (.slice none 0 0) rfl
 have hG3 := IsG.far (IsG.far (IsG.far (IsG.far hGa (p := ⟨w.heap.size + 1, 0, none⟩) (x := .int .u8 4) hne) (p := ⟨w.heap.size + 1, 1, none⟩) (x := .bool false) hne) (p := ⟨w.heap.size + 1, 2, none⟩) (x := .slice Av d.length cv) hne) (p := ⟨w.heap.size + 1, 3, none⟩) (x := .int .u32 code) hne
 refine bodyPost_ret (v := .tuple #[.agg #[.int .u8 4, .bool false, .slice Av d.length cv, .int .u32 code], .bool true]) (by simp [results, Tryz.results44, go_sem, rc0, rc1, rc2, rc3, rl]) rfl ⟨_, rfl, hR2, blk_alloc hG3 _, keep_alloc (keep_far (keep_far (keep_far (keep_far (HKB.out.set_ 0 (.slice none 0 0)) (p := ⟨w.heap.size + 1, 0, none⟩) (Nat.le_succ _) _) (p := ⟨w.heap.size + 1, 1, none⟩) (Nat.le_succ _) _) (p := ⟨w.heap.size + 1, 2, none⟩) (Nat.le_succ _) _) (p := ⟨w.heap.size + 1, 3, none⟩) (Nat.le_succ _) _) _, fun w0 h0 hw => ?_⟩
 have hl0 : w0.heap.size ≤ w.heap.size + 1 := by have := hw.size; omega
 exact below_alloc (Below.setCell (Below.setCell (Below.setCell (Below.setCell (Below.setCell (HB0.out w0 h0 hw) h0 _) hl0 _) hl0 _) hl0 _) hl0 _) _
end Go.Proofs.YtpmeapdcjmaeiaaGreatDoor
namespace Go.Proofs.YtpmeapdcjmaeiaaGreatDoor
open Go.RowKit Go.Wa Go.Wb Go.Wc PAll U
theorem wrap_u32p {x : Int} (h0 : 0 ≤ x) (h1 : x ≤ 4294967295) : IntKind.u32.wrap x = x := by
 have : IntKind.u32.wrap x = x % 4294967296 := by simp [IntKind.wrap, IntKind.bits, IntKind.signed]
 rw [this]; omega
theorem nat_orp (s b : Nat) (hb : b < 256) : s * 256 ||| b = s * 256 + b := by
 have := Nat.two_pow_add_eq_or_of_lt (show b < 2 ^ 8 from hb) s
 rw [show (2 : Nat) ^ 8 = 256 from rfl, Nat.mul_comm] at this
 exact this.symm
theorem or_byte32p {s b : Int} (h0 : 0 ≤ s) (h1 : s < 16777216) (hb : 0 ≤ b ∧ b ≤ 255) : Go.bits .or .u32 (s * 256) b = s * 256 + b := by
 obtain ⟨n, rfl⟩ : ∃ n : Nat, s = (n : Int) := ⟨s.toNat, by omega⟩
 obtain ⟨m, rfl⟩ : ∃ m : Nat, b = (m : Int) := ⟨b.toNat, by omega⟩
 have e1 : (BitVec.ofInt 32 ((n : Int) * 256)).toNat = n * 256 := by
  rw [show ((n : Int) * 256) = ((n * 256 : Nat) : Int) by omega, BitVec.ofInt_natCast, BitVec.toNat_ofNat]; exact Nat.mod_eq_of_lt (by omega)
 have e2 : (BitVec.ofInt 32 (m : Int)).toNat = m := by
  rw [BitVec.ofInt_natCast, BitVec.toNat_ofNat]; exact Nat.mod_eq_of_lt (by omega)
 show IntKind.u32.wrap ((BitVec.ofInt 32 ((n : Int) * 256) ||| BitVec.ofInt 32 (m : Int)).toNat : Int) = _
 rw [BitVec.toNat_or, e1, e2, nat_orp n m (by omega), wrap_u32p (by omega) (by omega)]
 omega
theorem close_to (d : List Int) (hd : ∀ x ∈ d, 0 ≤ x ∧ x ≤ 255) (hl : d.length ≤ 1000000000) : ((closeM d).1 = 4 ∧ ClosesTo d (closeM d).2.1 (closeM d).2.2) ∨ ((closeM d).1 = 5 ∧ (closeM d).2.1 = [] ∧ ClosesBad d (closeM d).2.2) := by
 match d, hd, hl with
 | [], _, _ => exact .inl ⟨rfl, closes_none⟩
 | [x], _, _ => exact .inr ⟨rfl, rfl, closes_bad_one x⟩
 | a :: b :: r, hd, hl =>
  have ha := hd a (by simp)
  have hb := hd b (by simp)
  have hrl : r.length ≤ 999999998 := by simp at hl; omega
  have hcode : Go.bits .or .u32 (a * 256) b = 256 * a + b := by rw [or_byte32p ha.1 (by omega) hb]; omega
  have hv := valid_f r (by omega) (r.length + 5) (by omega)
  cases ht : toldB (256 * a + b) with
  | false =>
   have hc : closeM (a :: b :: r) = (5, [], 1002) := by show (if toldB (256 * a + b) = true then _ else _) = _; rw [ht]; rfl
   rw [hc]
   exact .inr ⟨rfl, rfl, closes_bad_code a b r _ ha.1 ha.2 hb.1 hb.2 hcode ht (by omega)⟩
  | true =>
   cases hw : validC r with
   | false =>
    have hc : closeM (a :: b :: r) = (5, [], 1007) := by show (if toldB (256 * a + b) = true then (if validC r = true then _ else _) else _) = _; rw [ht, hw]; rfl
    rw [hc]
    exact .inr ⟨rfl, rfl, closes_bad_text a b r _ _ ha.1 ha.2 hb.1 hb.2 hcode ht (hw ▸ hv) (by omega)⟩
   | true =>
    have hc : closeM (a :: b :: r) = (4, r, 256 * a + b) := by show (if toldB (256 * a + b) = true then (if validC r = true then _ else _) else _) = _; rw [ht, hw]; rfl
    rw [hc]
    exact .inl ⟨rfl, closes_ok a b r _ _ ha.1 ha.2 hb.1 hb.2 hcode ht (hw ▸ hv) (by omega)⟩
end Go.Proofs.YtpmeapdcjmaeiaaGreatDoor

namespace Go.Proofs.YtpmeapdcjmaeiaaGreatDoor
open Go.RowKit Go.Wa Go.Wb Go.Wc PAll U
def TkNote (w0 : World) (g : Nat) (v u : Value) (b : List Int) (busy text : Bool) (gu : Nat) (f : List Int) (k : Int) (d : List Int) (w : World) (e : Ending) (w' : World) : Prop := ∃ vn, e = .returned (.tuple #[.agg #[.int .u8 k, .bool false, vn, .int .u32 0], .bool true, .nilIface]) ∧ Gs w0 w' g v u b busy text false gu f ∧ Kd.R (Kd.int .u8) 5 w' w.heap.size (fun _ => True) vn d ∧ Fr w w' g v u
def TMore (w0 : World) (g : Nat) (v u : Value) (b : List Int) (tn : Bool) (w : World) (e : Ending) (w' : World) : Prop := e = .returned (.tuple #[.agg #[.int .u8 0, .bool false, .slice none 0 0, .int .u32 0], .bool false]) ∧ ∃ v' u' gu', Gs w0 w' g v' u' b true tn false gu' (if tn = true then b else []) ∧ Fr w w' g v u ∧ Nw w v v' u u'
def TTold (w0 : World) (g : Nat) (v u : Value) (b : List Int) (tn : Bool) (w : World) (e : Ending) (w' : World) : Prop := ∃ vn u', e = .returned (.tuple #[.agg #[.int .u8 1, .bool tn, vn, .int .u32 0], .bool true]) ∧ Gw w0 w' g (.slice none 0 0) u' [] false tn false ∧ Kd.R (Kd.int .u8) 5 w' w0.heap.size (fun _ => True) vn b ∧ Fr w w' g v u ∧ Nw w v vn u u'
def TNote (w0 : World) (g : Nat) (v u : Value) (b : List Int) (busy text : Bool) (gu : Nat) (f : List Int) (k : Int) (d : List Int) (w : World) (e : Ending) (w' : World) : Prop := ∃ vn, e = .returned (.tuple #[.agg #[.int .u8 k, .bool false, vn, .int .u32 0], .bool true]) ∧ Gs w0 w' g v u b busy text false gu f ∧ Kd.R (Kd.int .u8) 5 w' w.heap.size (fun _ => True) vn d ∧ Fr w w' g v u
def TBad (w0 : World) (g : Nat) (v u : Value) (code : Int) (w : World) (e : Ending) (w' : World) : Prop := e = .returned (.tuple #[.agg #[.int .u8 5, .bool false, .slice none 0 0, .int .u32 code], .bool true]) ∧ ∃ u' te, Gw w0 w' g (.slice none 0 0) u' [] false te true ∧ Fr w w' g v u
theorem take_ping {w0 w : World} {g : Nat} {v u : Value} {b : List Int} {busy text : Bool} {gu : Nat} {f : List Int} {fin : Bool} {mk : Bool} {key : Int} {A : Option Addr} {c : Nat} {d : List Int} (h : Gs w0 w g v u b busy text false gu f) (hd : Dat w (.slice A d.length c) d) (hdl : d.length ≤ 1000000000) : Calls Tryz.prog 76 #[.pointer (some ⟨g, 0, none⟩), .agg #[.bool fin, .int .u8 9, .bool mk, .int .u32 key, .slice A d.length c]] w (TkNote w0 g v u b busy text gu f 2 d w) := by
 have HDL := a_ hdl
 clear hdl
 have HU0 := a_ h.gw.ulow
 have HLO := a_ h.gw.bel.size
 have hgl := blk_lt h.gw.blk
 have hw1 : Below w.heap.size w ((w.alloc (.cells #[.bool fin, .int .u8 9, .bool mk, .int .u32 key, .slice A d.length c] 81)).alloc (.cells #[.int .u8 0, .bool false, .slice none 0 0, .int .u32 0] 37)) := below_alloc (below_alloc (Below.refl _ _) _) _
 have hg1 := h.below hw1
 have hd1 := hd.below hw1
 have hr1 : ((w.alloc (.cells #[.bool fin, .int .u8 9, .bool mk, .int .u32 key, .slice A d.length c] 81)).alloc (.cells #[.int .u8 0, .bool false, .slice none 0 0, .int .u32 0] 37)).heap[w.heap.size + 1]? = some (.cells #[.int .u8 0, .bool false, .slice none 0 0, .int .u32 0] 37 (0, 0)) := last_at _ _ _ (by simp)
 have hp1 : ((w.alloc (.cells #[.bool fin, .int .u8 9, .bool mk, .int .u32 key, .slice A d.length c] 81)).alloc (.cells #[.int .u8 0, .bool false, .slice none 0 0, .int .u32 0] 37)).heap[w.heap.size]? = some (.cells #[.bool fin, .int .u8 9, .bool mk, .int .u32 key, .slice A d.length c] 81 (0, 0)) := blk_alloc (last_at _ _ _ rfl) _
 have hf1 := (Fr.refl w g v u).below hw1
 have hu30 := Tryz.underlying37
 have hu26 := Tryz.underlying81
 have HW1 := a_ hw1
 clear h hd hw1
 go_enter Tryz.func76, Tryz.ntmps76
 go_upto_region 1 with fail
 generalize (w.alloc (.cells #[.bool fin, .int .u8 9, .bool mk, .int .u32 key, .slice A d.length c] 81)).alloc (.cells #[.int .u8 0, .bool false, .slice none 0 0, .int .u32 0] 37) = w1 at hg1 hd1 hr1 hp1 hf1 HW1 ⊢
 have HG1 := a_ hg1
 have HD1 := a_ hd1
 have HR1 := a_ hr1
 have HF1 := a_ hf1
 obtain ⟨pc0, pc1, pc2, pc3, pc4⟩ := xl5_ hp1
 have pl_ := blk_lt hp1
 clear hg1 hd1 hr1 hp1 hf1
 go_wp2_with fail
 refine (bytes_Clone.calls A c d d _ (Dat.C HD1.out) (Dat.le HD1.out) (by unfold bytes_Clone.f; rw [if_pos (by have := HDL.out; omega)])).mono ?_
 rintro e w2 ⟨vn, rfl, ho, hb⟩
 obtain ⟨Av, cv, rfl⟩ := Kd.R_slice ho
 have hr2 := blk_below HR1.out hb
 have HG2 := a_ (HG1.out.below hb)
 have HF2 := a_ (HF1.out.below hb)
 have HR2 := a_ hr2
 have HO2 := a_ (Kd.R_lower ho HW1.out.size)
 obtain ⟨rc0, rf0, rc1, rf1, rc2, rf2, rc3, rf3⟩ := xf4_ hr2
 have rl := blk_lt hr2
 clear ho hb hr2 HG1 HF1 HR1 HD1 pc0 pc1 pc2 pc3 pc4 pl_
 have hle : w0.heap.size ≤ w.heap.size + 1 := Nat.le_succ_of_le HLO.out
 go_wp2_with fail
 exact bodyPost_ret (v := .tuple #[.agg #[.int .u8 2, .bool false, .slice Av d.length cv, .int .u32 0], .bool true, .nilIface]) (by simp [results, Tryz.results76, go_sem, rc0, rc1, rc2, rc3]) rfl ⟨_, rfl, HG2.out.off4 HR2.out hle _ _ _ _, row_off4 HO2.out HR2.out _ _ _ _, HF2.out.off4 (Nat.le_succ _) _ _ _ _⟩
theorem take_pong {w0 w : World} {g : Nat} {v u : Value} {b : List Int} {busy text : Bool} {gu : Nat} {f : List Int} {fin : Bool} {mk : Bool} {key : Int} {A : Option Addr} {c : Nat} {d : List Int} (h : Gs w0 w g v u b busy text false gu f) (hd : Dat w (.slice A d.length c) d) (hdl : d.length ≤ 1000000000) : Calls Tryz.prog 76 #[.pointer (some ⟨g, 0, none⟩), .agg #[.bool fin, .int .u8 10, .bool mk, .int .u32 key, .slice A d.length c]] w (TkNote w0 g v u b busy text gu f 3 d w) := by
 have HDL := a_ hdl
 clear hdl
 have HU0 := a_ h.gw.ulow
 have HLO := a_ h.gw.bel.size
 have hgl := blk_lt h.gw.blk
 have hw1 : Below w.heap.size w ((w.alloc (.cells #[.bool fin, .int .u8 10, .bool mk, .int .u32 key, .slice A d.length c] 81)).alloc (.cells #[.int .u8 0, .bool false, .slice none 0 0, .int .u32 0] 37)) := below_alloc (below_alloc (Below.refl _ _) _) _
 have hg1 := h.below hw1
 have hd1 := hd.below hw1
 have hr1 : ((w.alloc (.cells #[.bool fin, .int .u8 10, .bool mk, .int .u32 key, .slice A d.length c] 81)).alloc (.cells #[.int .u8 0, .bool false, .slice none 0 0, .int .u32 0] 37)).heap[w.heap.size + 1]? = some (.cells #[.int .u8 0, .bool false, .slice none 0 0, .int .u32 0] 37 (0, 0)) := last_at _ _ _ (by simp)
 have hp1 : ((w.alloc (.cells #[.bool fin, .int .u8 10, .bool mk, .int .u32 key, .slice A d.length c] 81)).alloc (.cells #[.int .u8 0, .bool false, .slice none 0 0, .int .u32 0] 37)).heap[w.heap.size]? = some (.cells #[.bool fin, .int .u8 10, .bool mk, .int .u32 key, .slice A d.length c] 81 (0, 0)) := blk_alloc (last_at _ _ _ rfl) _
 have hf1 := (Fr.refl w g v u).below hw1
 have hu30 := Tryz.underlying37
 have hu26 := Tryz.underlying81
 have HW1 := a_ hw1
 clear h hd hw1
 go_enter Tryz.func76, Tryz.ntmps76
 go_upto_region 1 with fail
 generalize (w.alloc (.cells #[.bool fin, .int .u8 10, .bool mk, .int .u32 key, .slice A d.length c] 81)).alloc (.cells #[.int .u8 0, .bool false, .slice none 0 0, .int .u32 0] 37) = w1 at hg1 hd1 hr1 hp1 hf1 HW1 ⊢
 have HG1 := a_ hg1
 have HD1 := a_ hd1
 have HR1 := a_ hr1
 have HF1 := a_ hf1
 obtain ⟨pc0, pc1, pc2, pc3, pc4⟩ := xl5_ hp1
 have pl_ := blk_lt hp1
 clear hg1 hd1 hr1 hp1 hf1
 go_wp2_with fail
 refine (bytes_Clone.calls A c d d _ (Dat.C HD1.out) (Dat.le HD1.out) (by unfold bytes_Clone.f; rw [if_pos (by have := HDL.out; omega)])).mono ?_
 rintro e w2 ⟨vn, rfl, ho, hb⟩
 obtain ⟨Av, cv, rfl⟩ := Kd.R_slice ho
 have hr2 := blk_below HR1.out hb
 have HG2 := a_ (HG1.out.below hb)
 have HF2 := a_ (HF1.out.below hb)
 have HR2 := a_ hr2
 have HO2 := a_ (Kd.R_lower ho HW1.out.size)
 obtain ⟨rc0, rf0, rc1, rf1, rc2, rf2, rc3, rf3⟩ := xf4_ hr2
 have rl := blk_lt hr2
 clear ho hb hr2 HG1 HF1 HR1 HD1 pc0 pc1 pc2 pc3 pc4 pl_
 have hle : w0.heap.size ≤ w.heap.size + 1 := Nat.le_succ_of_le HLO.out
 go_wp2_with fail
 exact bodyPost_ret (v := .tuple #[.agg #[.int .u8 3, .bool false, .slice Av d.length cv, .int .u32 0], .bool true, .nilIface]) (by simp [results, Tryz.results76, go_sem, rc0, rc1, rc2, rc3]) rfl ⟨_, rfl, HG2.out.off4 HR2.out hle _ _ _ _, row_off4 HO2.out HR2.out _ _ _ _, HF2.out.off4 (Nat.le_succ _) _ _ _ _⟩
theorem take_other {w0 w : World} {g : Nat} {v u : Value} {b : List Int} {busy text : Bool} {gu : Nat} {f : List Int} {fin : Bool} {op : Int} {mk : Bool} {key : Int} {A : Option Addr} {c : Nat} {d : List Int} (h : Gs w0 w g v u b busy text false gu f) (hd : Dat w (.slice A d.length c) d) (hop : op ≠ 0 ∧ op ≠ 1 ∧ op ≠ 2 ∧ op ≠ 8 ∧ op ≠ 9 ∧ op ≠ 10) : Calls Tryz.prog 76 #[.pointer (some ⟨g, 0, none⟩), .agg #[.bool fin, .int .u8 op, .bool mk, .int .u32 key, .slice A d.length c]] w (TkBad w0 g v u 1002 w) := by
 have k0 : (op == 0) = false := nb_ (by omega)
 have k1 : (op == 1) = false := nb_ (by omega)
 have k2 : (op == 2) = false := nb_ (by omega)
 have k8 : (op == 8) = false := nb_ (by omega)
 have k9 : (op == 9) = false := nb_ (by omega)
 have k10 : (op == 10) = false := nb_ (by omega)
 clear hop
 have HU0 := a_ h.gw.ulow
 have HLO := a_ h.gw.bel.size
 have hgl := blk_lt h.gw.blk
 have hw1 : Below w.heap.size w ((w.alloc (.cells #[.bool fin, .int .u8 op, .bool mk, .int .u32 key, .slice A d.length c] 81)).alloc (.cells #[.int .u8 0, .bool false, .slice none 0 0, .int .u32 0] 37)) := below_alloc (below_alloc (Below.refl _ _) _) _
 have hg1 := h.below hw1
 have hd1 := hd.below hw1
 have hr1 : ((w.alloc (.cells #[.bool fin, .int .u8 op, .bool mk, .int .u32 key, .slice A d.length c] 81)).alloc (.cells #[.int .u8 0, .bool false, .slice none 0 0, .int .u32 0] 37)).heap[w.heap.size + 1]? = some (.cells #[.int .u8 0, .bool false, .slice none 0 0, .int .u32 0] 37 (0, 0)) := last_at _ _ _ (by simp)
 have hp1 : ((w.alloc (.cells #[.bool fin, .int .u8 op, .bool mk, .int .u32 key, .slice A d.length c] 81)).alloc (.cells #[.int .u8 0, .bool false, .slice none 0 0, .int .u32 0] 37)).heap[w.heap.size]? = some (.cells #[.bool fin, .int .u8 op, .bool mk, .int .u32 key, .slice A d.length c] 81 (0, 0)) := blk_alloc (last_at _ _ _ rfl) _
 have hf1 := (Fr.refl w g v u).below hw1
 have hu30 := Tryz.underlying37
 have hu26 := Tryz.underlying81
 have HW1 := a_ hw1
 clear h hd hw1
 go_enter Tryz.func76, Tryz.ntmps76
 go_upto_region 1 with fail
 generalize (w.alloc (.cells #[.bool fin, .int .u8 op, .bool mk, .int .u32 key, .slice A d.length c] 81)).alloc (.cells #[.int .u8 0, .bool false, .slice none 0 0, .int .u32 0] 37) = w1 at hg1 hd1 hr1 hp1 hf1 HW1 ⊢
 have HG1 := a_ hg1
 have HD1 := a_ hd1
 have HR1 := a_ hr1
 have HF1 := a_ hf1
 obtain ⟨pc0, pc1, pc2, pc3, pc4⟩ := xl5_ hp1
 have pl_ := blk_lt hp1
 clear hg1 hd1 hr1 hp1 hf1
 go_wp2_with fail
 refine (socket_any 1002 _).mono ?_
 rintro e w3 ⟨v3, rfl, hbad, hb3⟩
 obtain ⟨q3, rfl, hq3⟩ := hbad
 have hbad : IsBad w3 _ 1002 := ⟨q3, rfl, hq3⟩
 have hr3 := blk_below HR1.out hb3
 have HG3 := a_ (HG1.out.below hb3)
 have HF3 := a_ (HF1.out.below hb3)
 have HW3 := a_ hbad
 have HR3 := a_ hr3
 clear hbad hq3 hb3 HG1 HF1 HR1 HD1 pc0 pc1 pc2 pc3 pc4 pl_
 obtain ⟨rc0, rf0, rc1, rf1, rc2, rf2, rc3, rf3⟩ := xf4_ HR3.out
 have rl := blk_lt HR3.out
 clear hr3
 have hle : w0.heap.size ≤ w.heap.size + 1 := Nat.le_succ_of_le HLO.out
 go_wp2_with fail
 exact bodyPost_ret (v := .tuple #[.agg #[.int .u8 0, .bool false, .slice none 0 0, .int .u32 0], .bool false, .iface _ _]) (by simp [results, Tryz.results76, go_sem, rc0, rc1, rc2, rc3]) rfl ⟨_, _, _, _, _, _, _, _, rfl, .inr (bad_off4 HW3.out HR3.out _ _ _ _), (HG3.out.off4 HR3.out hle _ _ _ _).gw, HF3.out.off4 (Nat.le_succ _) _ _ _ _⟩
theorem Take_more {w0 w : World} {g : Nat} {v u : Value} {b : List Int} {busy text : Bool} {gu : Nat} {f : List Int} {fin : Bool} {op : Int} {mk : Bool} {key : Int} {A : Option Addr} {c : Nat} {d : List Int} (h : Gs w0 w g v u b busy text false gu f) (hd : Dat w (.slice A d.length c) d) {b2 : List Int} {tn : Bool} (hT : ∀ W, Below w.heap.size w W → Gs w0 W g v u b busy text false gu f → Dat W (.slice A d.length c) d → Calls Tryz.prog 76 #[.pointer (some ⟨g, 0, none⟩), .agg #[.bool fin, .int .u8 op, .bool mk, .int .u32 key, .slice A d.length c]] W (TkMore w0 g v u b2 tn W)) : Calls Tryz.prog 44 #[.pointer (some ⟨g, 0, none⟩), .agg #[.bool fin, .int .u8 op, .bool mk, .int .u32 key, .slice A d.length c]] w (TMore w0 g v u b2 tn w) := by
 have HT := a_ hT
 clear hT
 have HU0 := a_ h.gw.ulow
 have HLO := a_ h.gw.bel.size
 have hgl := blk_lt h.gw.blk
 have hw1 : Below w.heap.size w ((w.alloc (.cells #[.bool fin, .int .u8 op, .bool mk, .int .u32 key, .slice A d.length c] 81)).alloc (.cells #[.int .u8 0, .bool false, .slice none 0 0, .int .u32 0] 37)) := below_alloc (below_alloc (Below.refl _ _) _) _
 have hg1 := h.below hw1
 have hd1 := hd.below hw1
 have hr1 : ((w.alloc (.cells #[.bool fin, .int .u8 op, .bool mk, .int .u32 key, .slice A d.length c] 81)).alloc (.cells #[.int .u8 0, .bool false, .slice none 0 0, .int .u32 0] 37)).heap[w.heap.size + 1]? = some (.cells #[.int .u8 0, .bool false, .slice none 0 0, .int .u32 0] 37 (0, 0)) := last_at _ _ _ (by simp)
 have hp1 : ((w.alloc (.cells #[.bool fin, .int .u8 op, .bool mk, .int .u32 key, .slice A d.length c] 81)).alloc (.cells #[.int .u8 0, .bool false, .slice none 0 0, .int .u32 0] 37)).heap[w.heap.size]? = some (.cells #[.bool fin, .int .u8 op, .bool mk, .int .u32 key, .slice A d.length c] 81 (0, 0)) := blk_alloc (last_at _ _ _ rfl) _
 have hf1 := (Fr.refl w g v u).below hw1
 have hu30 := Tryz.underlying37
 have hu26 := Tryz.underlying81
 have HW1 := a_ hw1
 clear h hd hw1
 go_enter Tryz.func44, Tryz.ntmps44
 go_upto_region 1 with fail
 generalize (w.alloc (.cells #[.bool fin, .int .u8 op, .bool mk, .int .u32 key, .slice A d.length c] 81)).alloc (.cells #[.int .u8 0, .bool false, .slice none 0 0, .int .u32 0] 37) = w1 at hg1 hd1 hr1 hp1 hf1 HW1 ⊢
 have HG1 := a_ hg1
 have HD1 := a_ hd1
 have HR1 := a_ hr1
 have HF1 := a_ hf1
 obtain ⟨pc0, pc1, pc2, pc3, pc4⟩ := xl5_ hp1
 have pl_ := blk_lt hp1
 clear hg1 hd1 hr1 hp1 hf1
 go_wp2_with fail
 refine (over_any g v u busy text false _ HG1.out.gw.blk).mono ?_
 rintro e w1' ⟨rfl, hw1'⟩
 subst hw1'
 go_wp2_with fail
 refine (HT.out w1' HW1.out HG1.out HD1.out).mono ?_
 rintro e w2 hp
 obtain ⟨rfl, v', u', gu', hG, hF, hN⟩ := hp
 have HN2 := a_ (hN.mono HF1.out.size)
 have HG2 := a_ hG
 have hr2 : w2.heap[w.heap.size + 1]? = some (.cells #[.int .u8 0, .bool false, .slice none 0 0, .int .u32 0] 37 (0, 0)) := (hF.same _ (blk_lt HR1.out) (fun e => by have := hgl; omega) (fun e => by have := Kd.R_ne HG1.out.gw.row HR1.out (by decide); exact this e) (fun e => by have := HU0.out _ e; omega)).trans HR1.out
 have hF2 : Fr w w2 g v u := ⟨Nat.le_trans HF1.out.size hF.size, fun k hk h1 h2 h3 => (hF.same k (Nat.lt_of_lt_of_le hk HF1.out.size) h1 h2 h3).trans (HF1.out.same k hk h1 h2 h3)⟩
 have HR2 := a_ hr2
 have HF2 := a_ hF2
 have hle : w0.heap.size ≤ w.heap.size + 1 := Nat.le_succ_of_le HLO.out
 clear hr2 hF2 HG1 HF1 HR1 HD1 pc0 pc1 pc2 pc3 pc4 pl_
 clear hG hF hN
 go_upto_region 4 with fail
 have hb3 : Below w2.heap.size w2 (w2.alloc (.cells #[.int .u8 0, .bool false, .slice none 0 0, .int .u32 0] 37)) := below_alloc (Below.refl _ _) _
 have hn3 : (w2.alloc (.cells #[.int .u8 0, .bool false, .slice none 0 0, .int .u32 0] 37)).heap[w2.heap.size]? = some (.cells #[.int .u8 0, .bool false, .slice none 0 0, .int .u32 0] 37 (0, 0)) := last_at _ _ _ rfl
 generalize w2.alloc (.cells #[.int .u8 0, .bool false, .slice none 0 0, .int .u32 0] 37) = w3 at hb3 hn3 ⊢
 generalize w2.heap.size = gn at hn3 ⊢
 have HR3 := a_ (blk_below HR2.out hb3)
 have HF3 := a_ (HF2.out.below hb3)
 obtain ⟨nc0, nc1, nc2, nc3⟩ := xl4_ hn3
 have nl := blk_lt hn3
 obtain ⟨rc0, rf0, rc1, rf1, rc2, rf2, rc3, rf3⟩ := xf4_ HR3.out
 have rl := blk_lt HR3.out
 have HG3 := a_ (HG2.out.below hb3)
 have go4 : w3.cell? ⟨g, 4, none⟩ = some (.bool false) := (blk_cell HG3.out.gw.blk 4).trans rfl
 clear hb3 hn3 HG2
 go_wp2_with fail
 exact bodyPost_ret (v := .tuple #[.agg #[.int .u8 0, .bool false, .slice none 0 0, .int .u32 0], .bool false]) (by simp [results, Tryz.results44, go_sem, rc0, rc1, rc2, rc3]) rfl ⟨rfl, _, _, _, HG3.out.off4 HR3.out hle _ _ _ _, HF3.out.off4 (Nat.le_succ _) _ _ _ _, HN2.out⟩
theorem Take_told {w0 w : World} {g : Nat} {v u : Value} {b : List Int} {busy text : Bool} {gu : Nat} {f : List Int} {fin : Bool} {op : Int} {mk : Bool} {key : Int} {A : Option Addr} {c : Nat} {d : List Int} (h : Gs w0 w g v u b busy text false gu f) (hd : Dat w (.slice A d.length c) d) {b2 : List Int} {tn : Bool} (hT : ∀ W, Below w.heap.size w W → Gs w0 W g v u b busy text false gu f → Dat W (.slice A d.length c) d → Calls Tryz.prog 76 #[.pointer (some ⟨g, 0, none⟩), .agg #[.bool fin, .int .u8 op, .bool mk, .int .u32 key, .slice A d.length c]] W (TkTold w0 g v u b2 tn W)) : Calls Tryz.prog 44 #[.pointer (some ⟨g, 0, none⟩), .agg #[.bool fin, .int .u8 op, .bool mk, .int .u32 key, .slice A d.length c]] w (TTold w0 g v u b2 tn w) := by
 have HT := a_ hT
 clear hT
 have HU0 := a_ h.gw.ulow
 have HLO := a_ h.gw.bel.size
 have hgl := blk_lt h.gw.blk
 have hw1 : Below w.heap.size w ((w.alloc (.cells #[.bool fin, .int .u8 op, .bool mk, .int .u32 key, .slice A d.length c] 81)).alloc (.cells #[.int .u8 0, .bool false, .slice none 0 0, .int .u32 0] 37)) := below_alloc (below_alloc (Below.refl _ _) _) _
 have hg1 := h.below hw1
 have hd1 := hd.below hw1
 have hr1 : ((w.alloc (.cells #[.bool fin, .int .u8 op, .bool mk, .int .u32 key, .slice A d.length c] 81)).alloc (.cells #[.int .u8 0, .bool false, .slice none 0 0, .int .u32 0] 37)).heap[w.heap.size + 1]? = some (.cells #[.int .u8 0, .bool false, .slice none 0 0, .int .u32 0] 37 (0, 0)) := last_at _ _ _ (by simp)
 have hp1 : ((w.alloc (.cells #[.bool fin, .int .u8 op, .bool mk, .int .u32 key, .slice A d.length c] 81)).alloc (.cells #[.int .u8 0, .bool false, .slice none 0 0, .int .u32 0] 37)).heap[w.heap.size]? = some (.cells #[.bool fin, .int .u8 op, .bool mk, .int .u32 key, .slice A d.length c] 81 (0, 0)) := blk_alloc (last_at _ _ _ rfl) _
 have hf1 := (Fr.refl w g v u).below hw1
 have hu30 := Tryz.underlying37
 have hu26 := Tryz.underlying81
 have HW1 := a_ hw1
 clear h hd hw1
 go_enter Tryz.func44, Tryz.ntmps44
 go_upto_region 1 with fail
 generalize (w.alloc (.cells #[.bool fin, .int .u8 op, .bool mk, .int .u32 key, .slice A d.length c] 81)).alloc (.cells #[.int .u8 0, .bool false, .slice none 0 0, .int .u32 0] 37) = w1 at hg1 hd1 hr1 hp1 hf1 HW1 ⊢
 have HG1 := a_ hg1
 have HD1 := a_ hd1
 have HR1 := a_ hr1
 have HF1 := a_ hf1
 obtain ⟨pc0, pc1, pc2, pc3, pc4⟩ := xl5_ hp1
 have pl_ := blk_lt hp1
 clear hg1 hd1 hr1 hp1 hf1
 go_wp2_with fail
 refine (over_any g v u busy text false _ HG1.out.gw.blk).mono ?_
 rintro e w1' ⟨rfl, hw1'⟩
 subst hw1'
 go_wp2_with fail
 refine (HT.out w1' HW1.out HG1.out HD1.out).mono ?_
 rintro e w2 hp
 obtain ⟨vn, u', rfl, hG, hR, hF, hN⟩ := hp
 obtain ⟨An, cn, rfl⟩ := Kd.R_slice hR
 have HN2 := a_ (hN.mono HF1.out.size)
 have HG2 := a_ hG
 have HRW2 := a_ hR
 have hr2 : w2.heap[w.heap.size + 1]? = some (.cells #[.int .u8 0, .bool false, .slice none 0 0, .int .u32 0] 37 (0, 0)) := (hF.same _ (blk_lt HR1.out) (fun e => by have := hgl; omega) (fun e => by have := Kd.R_ne HG1.out.gw.row HR1.out (by decide); exact this e) (fun e => by have := HU0.out _ e; omega)).trans HR1.out
 have hF2 : Fr w w2 g v u := ⟨Nat.le_trans HF1.out.size hF.size, fun k hk h1 h2 h3 => (hF.same k (Nat.lt_of_lt_of_le hk HF1.out.size) h1 h2 h3).trans (HF1.out.same k hk h1 h2 h3)⟩
 have HR2 := a_ hr2
 have HF2 := a_ hF2
 have hle : w0.heap.size ≤ w.heap.size + 1 := Nat.le_succ_of_le HLO.out
 clear hr2 hF2 HG1 HF1 HR1 HD1 pc0 pc1 pc2 pc3 pc4 pl_
 clear hG hF hN hR
 go_upto_region 4 with fail
 have hb3 : Below w2.heap.size w2 (w2.alloc (.cells #[.int .u8 1, .bool tn, .slice An b2.length cn, .int .u32 0] 37)) := below_alloc (Below.refl _ _) _
 have hn3 : (w2.alloc (.cells #[.int .u8 1, .bool tn, .slice An b2.length cn, .int .u32 0] 37)).heap[w2.heap.size]? = some (.cells #[.int .u8 1, .bool tn, .slice An b2.length cn, .int .u32 0] 37 (0, 0)) := last_at _ _ _ rfl
 generalize w2.alloc (.cells #[.int .u8 1, .bool tn, .slice An b2.length cn, .int .u32 0] 37) = w3 at hb3 hn3 ⊢
 generalize w2.heap.size = gn at hn3 ⊢
 have HR3 := a_ (blk_below HR2.out hb3)
 have HF3 := a_ (HF2.out.below hb3)
 obtain ⟨nc0, nc1, nc2, nc3⟩ := xl4_ hn3
 have nl := blk_lt hn3
 obtain ⟨rc0, rf0, rc1, rf1, rc2, rf2, rc3, rf3⟩ := xf4_ HR3.out
 have rl := blk_lt HR3.out
 have HG3 := a_ (HG2.out.below hb3)
 have HRW3 := a_ (Kd.R_below HRW2.out hb3)
 have go4 : w3.cell? ⟨g, 4, none⟩ = some (.bool false) := (blk_cell HG3.out.blk 4).trans rfl
 clear hb3 hn3 HG2 HRW2
 go_wp2_with fail
 exact bodyPost_ret (v := .tuple #[.agg #[.int .u8 1, .bool tn, .slice An b2.length cn, .int .u32 0], .bool true]) (by simp [results, Tryz.results44, go_sem, rc0, rc1, rc2, rc3]) rfl ⟨_, _, rfl, HG3.out.off4 HR3.out hle _ _ _ _, row_off4 HRW3.out HR3.out _ _ _ _, HF3.out.off4 (Nat.le_succ _) _ _ _ _, HN2.out⟩
theorem Take_note {w0 w : World} {g : Nat} {v u : Value} {b : List Int} {busy text : Bool} {gu : Nat} {f : List Int} {fin : Bool} {op : Int} {mk : Bool} {key : Int} {A : Option Addr} {c : Nat} {d : List Int} (h : Gs w0 w g v u b busy text false gu f) (hd : Dat w (.slice A d.length c) d) {kk : Int} (hT : ∀ W, Below w.heap.size w W → Gs w0 W g v u b busy text false gu f → Dat W (.slice A d.length c) d → Calls Tryz.prog 76 #[.pointer (some ⟨g, 0, none⟩), .agg #[.bool fin, .int .u8 op, .bool mk, .int .u32 key, .slice A d.length c]] W (TkNote w0 g v u b busy text gu f kk d W)) : Calls Tryz.prog 44 #[.pointer (some ⟨g, 0, none⟩), .agg #[.bool fin, .int .u8 op, .bool mk, .int .u32 key, .slice A d.length c]] w (TNote w0 g v u b busy text gu f kk d w) := by
 have HT := a_ hT
 clear hT
 have HU0 := a_ h.gw.ulow
 have HLO := a_ h.gw.bel.size
 have hgl := blk_lt h.gw.blk
 have hw1 : Below w.heap.size w ((w.alloc (.cells #[.bool fin, .int .u8 op, .bool mk, .int .u32 key, .slice A d.length c] 81)).alloc (.cells #[.int .u8 0, .bool false, .slice none 0 0, .int .u32 0] 37)) := below_alloc (below_alloc (Below.refl _ _) _) _
 have hg1 := h.below hw1
 have hd1 := hd.below hw1
 have hr1 : ((w.alloc (.cells #[.bool fin, .int .u8 op, .bool mk, .int .u32 key, .slice A d.length c] 81)).alloc (.cells #[.int .u8 0, .bool false, .slice none 0 0, .int .u32 0] 37)).heap[w.heap.size + 1]? = some (.cells #[.int .u8 0, .bool false, .slice none 0 0, .int .u32 0] 37 (0, 0)) := last_at _ _ _ (by simp)
 have hp1 : ((w.alloc (.cells #[.bool fin, .int .u8 op, .bool mk, .int .u32 key, .slice A d.length c] 81)).alloc (.cells #[.int .u8 0, .bool false, .slice none 0 0, .int .u32 0] 37)).heap[w.heap.size]? = some (.cells #[.bool fin, .int .u8 op, .bool mk, .int .u32 key, .slice A d.length c] 81 (0, 0)) := blk_alloc (last_at _ _ _ rfl) _
 have hf1 := (Fr.refl w g v u).below hw1
 have hu30 := Tryz.underlying37
 have hu26 := Tryz.underlying81
 have HW1 := a_ hw1
 clear h hd hw1
 go_enter Tryz.func44, Tryz.ntmps44
 go_upto_region 1 with fail
 generalize (w.alloc (.cells #[.bool fin, .int .u8 op, .bool mk, .int .u32 key, .slice A d.length c] 81)).alloc (.cells #[.int .u8 0, .bool false, .slice none 0 0, .int .u32 0] 37) = w1 at hg1 hd1 hr1 hp1 hf1 HW1 ⊢
 have HG1 := a_ hg1
 have HD1 := a_ hd1
 have HR1 := a_ hr1
 have HF1 := a_ hf1
 obtain ⟨pc0, pc1, pc2, pc3, pc4⟩ := xl5_ hp1
 have pl_ := blk_lt hp1
 clear hg1 hd1 hr1 hp1 hf1
 go_wp2_with fail
 refine (over_any g v u busy text false _ HG1.out.gw.blk).mono ?_
 rintro e w1' ⟨rfl, hw1'⟩
 subst hw1'
 go_wp2_with fail
 refine (HT.out w1' HW1.out HG1.out HD1.out).mono ?_
 rintro e w2 hp
 obtain ⟨vn, rfl, hG, hR, hF⟩ := hp
 obtain ⟨An, cn, rfl⟩ := Kd.R_slice hR
 have HG2 := a_ hG
 have HRW2 := a_ (Kd.R_lower hR HW1.out.size)
 have hr2 : w2.heap[w.heap.size + 1]? = some (.cells #[.int .u8 0, .bool false, .slice none 0 0, .int .u32 0] 37 (0, 0)) := (hF.same _ (blk_lt HR1.out) (fun e => by have := hgl; omega) (fun e => by have := Kd.R_ne HG1.out.gw.row HR1.out (by decide); exact this e) (fun e => by have := HU0.out _ e; omega)).trans HR1.out
 have hF2 : Fr w w2 g v u := ⟨Nat.le_trans HF1.out.size hF.size, fun k hk h1 h2 h3 => (hF.same k (Nat.lt_of_lt_of_le hk HF1.out.size) h1 h2 h3).trans (HF1.out.same k hk h1 h2 h3)⟩
 have HR2 := a_ hr2
 have HF2 := a_ hF2
 have hle : w0.heap.size ≤ w.heap.size + 1 := Nat.le_succ_of_le HLO.out
 clear hr2 hF2 HG1 HF1 HR1 HD1 pc0 pc1 pc2 pc3 pc4 pl_
 clear hG hF hR
 go_upto_region 4 with fail
 have hb3 : Below w2.heap.size w2 (w2.alloc (.cells #[.int .u8 kk, .bool false, .slice An d.length cn, .int .u32 0] 37)) := below_alloc (Below.refl _ _) _
 have hn3 : (w2.alloc (.cells #[.int .u8 kk, .bool false, .slice An d.length cn, .int .u32 0] 37)).heap[w2.heap.size]? = some (.cells #[.int .u8 kk, .bool false, .slice An d.length cn, .int .u32 0] 37 (0, 0)) := last_at _ _ _ rfl
 generalize w2.alloc (.cells #[.int .u8 kk, .bool false, .slice An d.length cn, .int .u32 0] 37) = w3 at hb3 hn3 ⊢
 generalize w2.heap.size = gn at hn3 ⊢
 have HR3 := a_ (blk_below HR2.out hb3)
 have HF3 := a_ (HF2.out.below hb3)
 obtain ⟨nc0, nc1, nc2, nc3⟩ := xl4_ hn3
 have nl := blk_lt hn3
 obtain ⟨rc0, rf0, rc1, rf1, rc2, rf2, rc3, rf3⟩ := xf4_ HR3.out
 have rl := blk_lt HR3.out
 have HG3 := a_ (HG2.out.below hb3)
 have HRW3 := a_ (Kd.R_below HRW2.out hb3)
 have go4 : w3.cell? ⟨g, 4, none⟩ = some (.bool false) := (blk_cell HG3.out.gw.blk 4).trans rfl
 clear hb3 hn3 HG2 HRW2
 go_wp2_with fail
 exact bodyPost_ret (v := .tuple #[.agg #[.int .u8 kk, .bool false, .slice An d.length cn, .int .u32 0], .bool true]) (by simp [results, Tryz.results44, go_sem, rc0, rc1, rc2, rc3]) rfl ⟨_, rfl, HG3.out.off4 HR3.out hle _ _ _ _, row_off4 HRW3.out HR3.out _ _ _ _, HF3.out.off4 (Nat.le_succ _) _ _ _ _⟩
theorem Take_bad {w0 w : World} {g : Nat} {v u : Value} {b : List Int} {busy text : Bool} {gu : Nat} {f : List Int} {fin : Bool} {op : Int} {mk : Bool} {key : Int} {A : Option Addr} {c : Nat} {d : List Int} (h : Gs w0 w g v u b busy text false gu f) (hd : Dat w (.slice A d.length c) d) {code : Int} (hg : Cond w0) (hT : ∀ W, Below w.heap.size w W → Gs w0 W g v u b busy text false gu f → Dat W (.slice A d.length c) d → Calls Tryz.prog 76 #[.pointer (some ⟨g, 0, none⟩), .agg #[.bool fin, .int .u8 op, .bool mk, .int .u32 key, .slice A d.length c]] W (TkBad w0 g v u code W)) : Calls Tryz.prog 44 #[.pointer (some ⟨g, 0, none⟩), .agg #[.bool fin, .int .u8 op, .bool mk, .int .u32 key, .slice A d.length c]] w (TBad w0 g v u code w) := by
 have HT := a_ hT
 clear hT
 have HCN := a_ hg
 clear hg
 have HU0 := a_ h.gw.ulow
 have HLO := a_ h.gw.bel.size
 have hgl := blk_lt h.gw.blk
 have hw1 : Below w.heap.size w ((w.alloc (.cells #[.bool fin, .int .u8 op, .bool mk, .int .u32 key, .slice A d.length c] 81)).alloc (.cells #[.int .u8 0, .bool false, .slice none 0 0, .int .u32 0] 37)) := below_alloc (below_alloc (Below.refl _ _) _) _
 have hg1 := h.below hw1
 have hd1 := hd.below hw1
 have hr1 : ((w.alloc (.cells #[.bool fin, .int .u8 op, .bool mk, .int .u32 key, .slice A d.length c] 81)).alloc (.cells #[.int .u8 0, .bool false, .slice none 0 0, .int .u32 0] 37)).heap[w.heap.size + 1]? = some (.cells #[.int .u8 0, .bool false, .slice none 0 0, .int .u32 0] 37 (0, 0)) := last_at _ _ _ (by simp)
 have hp1 : ((w.alloc (.cells #[.bool fin, .int .u8 op, .bool mk, .int .u32 key, .slice A d.length c] 81)).alloc (.cells #[.int .u8 0, .bool false, .slice none 0 0, .int .u32 0] 37)).heap[w.heap.size]? = some (.cells #[.bool fin, .int .u8 op, .bool mk, .int .u32 key, .slice A d.length c] 81 (0, 0)) := blk_alloc (last_at _ _ _ rfl) _
 have hf1 := (Fr.refl w g v u).below hw1
 have hu30 := Tryz.underlying37
 have hu26 := Tryz.underlying81
 have HW1 := a_ hw1
 clear h hd hw1
 go_enter Tryz.func44, Tryz.ntmps44
 go_upto_region 1 with fail
 generalize (w.alloc (.cells #[.bool fin, .int .u8 op, .bool mk, .int .u32 key, .slice A d.length c] 81)).alloc (.cells #[.int .u8 0, .bool false, .slice none 0 0, .int .u32 0] 37) = w1 at hg1 hd1 hr1 hp1 hf1 HW1 ⊢
 have HG1 := a_ hg1
 have HD1 := a_ hd1
 have HR1 := a_ hr1
 have HF1 := a_ hf1
 obtain ⟨pc0, pc1, pc2, pc3, pc4⟩ := xl5_ hp1
 have pl_ := blk_lt hp1
 clear hg1 hd1 hr1 hp1 hf1
 go_wp2_with fail
 refine (over_any g v u busy text false _ HG1.out.gw.blk).mono ?_
 rintro e w1' ⟨rfl, hw1'⟩
 subst hw1'
 go_wp2_with fail
 refine (HT.out w1' HW1.out HG1.out HD1.out).mono ?_
 rintro e w2 hp
 obtain ⟨ok, ve, v', u', b', bu, te, ov, rfl, hve, hG, hF⟩ := hp
 obtain ⟨Av', cv', rfl⟩ := Kd.R_slice hG.row
 have HG2 := a_ hG
 have HVE := a_ hve
 have hvi : ∃ t q, ve = .iface t q := by
  rcases hve with ⟨q, s, v2, e, _, _⟩ | ⟨q, e, _⟩
  ·exact ⟨_, _, e⟩
  ·exact ⟨_, _, e⟩
 obtain ⟨tve, qve, rfl⟩ := hvi
 have hr2 : w2.heap[w.heap.size + 1]? = some (.cells #[.int .u8 0, .bool false, .slice none 0 0, .int .u32 0] 37 (0, 0)) := (hF.same _ (blk_lt HR1.out) (fun e => by have := hgl; omega) (fun e => by have := Kd.R_ne HG1.out.gw.row HR1.out (by decide); exact this e) (fun e => by have := HU0.out _ e; omega)).trans HR1.out
 have hF2 : Fr w w2 g v u := ⟨Nat.le_trans HF1.out.size hF.size, fun k hk h1 h2 h3 => (hF.same k (Nat.lt_of_lt_of_le hk HF1.out.size) h1 h2 h3).trans (HF1.out.same k hk h1 h2 h3)⟩
 have HR2 := a_ hr2
 have HF2 := a_ hF2
 have hle : w0.heap.size ≤ w.heap.size + 1 := Nat.le_succ_of_le HLO.out
 clear hr2 hF2 HG1 HF1 HR1 HD1 pc0 pc1 pc2 pc3 pc4 pl_
 clear hG hF hve
 go_upto_region 4 with fail
 have hb3 : Below w2.heap.size w2 (w2.alloc (.cells #[.int .u8 0, .bool false, .slice none 0 0, .int .u32 0] 37)) := below_alloc (Below.refl _ _) _
 generalize w2.alloc (.cells #[.int .u8 0, .bool false, .slice none 0 0, .int .u32 0] 37) = w3 at hb3 ⊢
 generalize w2.heap.size = gn
 have HR3 := a_ (blk_below HR2.out hb3)
 have HF3 := a_ (HF2.out.below hb3)
 have HG3 := a_ (HG2.out.below hb3)
 have HV3 : Aside0 (IsWr w3 (.iface tve qve) code ∨ IsBad w3 (.iface tve qve) code) := ⟨HVE.out.imp (fun h => h.below hb3) (fun h => h.below hb3)⟩
 clear hb3 HG2 HF2 HR2 HVE
 obtain ⟨gc0, gf0, gc1, gf1, -, -, -, -, gc4, gf4⟩ := xf5_ HG3.out.blk
 have gl := blk_lt HG3.out.blk
 go_upto_region 6 with fail
 have hgr : w.heap.size + 1 ≠ g := blk_ne HR3.out HG3.out.blk (by decide)
 have hst : ∀ (W : World) (j : Nat) (x : Value) (q : Nat), q ≠ g → (W.setCell ⟨g, j, none⟩ x).heap[q]? = W.heap[q]? := fun W j x q hq => Below.heap_setCell W ⟨g, j, none⟩ x q hq
 have hG5 : Gw w0 (((w3.setCell ⟨g, 4, none⟩ (.bool true)).setCell ⟨g, 0, none⟩ (.slice none 0 0)).setCell ⟨g, 1, none⟩ (.bool false)) g (.slice none 0 0) u' [] false te true := ((HG3.out.setOver true).setNil).setBusy false
 have hF5 : Fr w (((w3.setCell ⟨g, 4, none⟩ (.bool true)).setCell ⟨g, 0, none⟩ (.slice none 0 0)).setCell ⟨g, 1, none⟩ (.bool false)) g v u := ((HF3.out.set 4 _).set 0 _).set 1 _
 have hr5 : (((w3.setCell ⟨g, 4, none⟩ (.bool true)).setCell ⟨g, 0, none⟩ (.slice none 0 0)).setCell ⟨g, 1, none⟩ (.bool false)).heap[w.heap.size + 1]? = some (.cells #[.int .u8 0, .bool false, .slice none 0 0, .int .u32 0] 37 (0, 0)) := (hst _ _ _ _ hgr).trans ((hst _ _ _ _ hgr).trans ((hst _ _ _ _ hgr).trans HR3.out))
 have hst3 : ∀ (q : Nat) (o : Obj), w3.heap[q]? = some o → (∀ cs, o ≠ .cells cs 119 (0, 0)) → (((w3.setCell ⟨g, 4, none⟩ (.bool true)).setCell ⟨g, 0, none⟩ (.slice none 0 0)).setCell ⟨g, 1, none⟩ (.bool false)).heap[q]? = some o := fun q o hq ho => by
  have hqg : q ≠ g := fun e => by
   rw [e, show w3.heap[g]? = _ from HG3.out.blk] at hq
   injection hq with hq
   exact ho _ hq.symm
  exact (hst _ _ _ _ hqg).trans ((hst _ _ _ _ hqg).trans ((hst _ _ _ _ hqg).trans hq))
 have hv5 : IsWr (((w3.setCell ⟨g, 4, none⟩ (.bool true)).setCell ⟨g, 0, none⟩ (.slice none 0 0)).setCell ⟨g, 1, none⟩ (.bool false)) (.iface tve qve) code ∨ IsBad (((w3.setCell ⟨g, 4, none⟩ (.bool true)).setCell ⟨g, 0, none⟩ (.slice none 0 0)).setCell ⟨g, 1, none⟩ (.bool false)) (.iface tve qve) code := by
  have hbb : ∀ (z : Value), IsBad w3 z code → IsBad (((w3.setCell ⟨g, 4, none⟩ (.bool true)).setCell ⟨g, 0, none⟩ (.slice none 0 0)).setCell ⟨g, 1, none⟩ (.bool false)) z code := fun z hz => by
   obtain ⟨q, e, hq⟩ := hz
   exact ⟨q, e, hst3 _ _ hq (fun cs e => by injection e with _ e _; exact absurd e (by decide))⟩
  rcases HV3.out with ⟨q, s, v2, e, hq, hb⟩ | hb
  ·exact .inl ⟨q, s, v2, e, hst3 _ _ hq (fun cs e => by injection e with _ e _; exact absurd e (by decide)), hbb _ hb⟩
  ·exact .inr (hbb _ hb)
 have hc5 : Cond (((w3.setCell ⟨g, 4, none⟩ (.bool true)).setCell ⟨g, 0, none⟩ (.slice none 0 0)).setCell ⟨g, 1, none⟩ (.bool false)) := HCN.out.below hG5.bel
 generalize (((w3.setCell ⟨g, 4, none⟩ (.bool true)).setCell ⟨g, 0, none⟩ (.slice none 0 0)).setCell ⟨g, 1, none⟩ (.bool false)) = w5 at hG5 hF5 hr5 hv5 hc5 ⊢
 clear gc0 gc1 gc4 gf0 gf1 gf4 gl HG3 HF3 HR3 HV3 hst hst3
 have HG5 := a_ hG5
 have HF5 := a_ hF5
 have HR5 := a_ hr5
 have HC5 := a_ hc5
 clear hG5 hF5 hr5 hc5
 have hof : Calls Tryz.prog 77 #[.iface tve qve] w5 fun e w' => e = .returned (.agg #[.int .u8 3, .int .u32 code]) ∧ Below w5.heap.size w5 w' := by
  rcases hv5 with h | h
  ·exact of_wr _ _ _ h HC5.out
  ·exact of_bad _ _ _ h HC5.out
 clear hv5
 go_wp2_with fail
 refine hof.mono ?_
 rintro e w6 ⟨rfl, hb6⟩
 have HG6 := a_ (HG5.out.below hb6)
 have HF6 := a_ (HF5.out.below hb6)
 have HR6 := a_ (blk_below HR5.out hb6)
 obtain ⟨rc0, rf0, rc1, rf1, rc2, rf2, rc3, rf3⟩ := xf4_ HR6.out
 have rl := blk_lt HR6.out
 clear hb6 HG5 HF5 HR5 HC5 hof
 have hff_ := field87_1
 go_wp2_with fail
 exact bodyPost_ret (v := .tuple #[.agg #[.int .u8 5, .bool false, .slice none 0 0, .int .u32 code], .bool true]) (by simp [results, Tryz.results44, go_sem, rc0, rc1, rc2, rc3]) rfl ⟨rfl, _, _, HG6.out.off4 HR6.out hle _ _ _ _, HF6.out.off4 (Nat.le_succ _) _ _ _ _⟩
end Go.Proofs.YtpmeapdcjmaeiaaGreatDoor
namespace Go.Proofs.YtpmeapdcjmaeiaaGreatDoor
open Go.RowKit Go.Wa Go.Wb Go.Wc PAll
attribute [local go_sem] max2_int min2_int max_two min_two
abbrev Pm := PAll.S81
inductive CutP (most : Nat) : Int → List Int → List Pm → Prop
 | last {op : Int} {b : List Int} : b.length ≤ most → CutP most op b [⟨true, op, false, 0, b⟩]
 | more {op : Int} {b : List Int} {ps : List Pm} : most < b.length → CutP most 0 (b.drop most) ps → CutP most op b (⟨false, op, false, 0, b.take most⟩ :: ps)
def mostC (m : Int) : Nat := if m < 1 then 1 else if 4096 < m then 4096 else m.toNat
theorem mostC_pos (m : Int) : 1 ≤ mostC m ∧ mostC m ≤ 4096 := by
 unfold mostC
 split
 ·omega
 ·split <;> omega
def CutPost (most : Nat) (op : Int) (b : List Int) (w : World) (e : Ending) (w' : World) : Prop := ∃ v ps, e = .returned v ∧ CutP most op b ps ∧ ps.length ≤ b.length + 1 ∧ Kd.R k81 81 w' w.heap.size (fun _ => True) v ps ∧ Below w.heap.size w w'
def CutR (w : World) (most : Nat) (op0 : Int) (b : List Int) (mu : Nat) (bv ov rv : Value) (wr : World) : Prop :=
 ∃ (l : List Int) (done : List Pm) (A : Option Addr) (c : Nat) (op : Int), bv = .slice A l.length c ∧ ov = .int .u8 op ∧ l.length ≤ c ∧ Kd.C (Kd.int .u8) w A l.length l ∧ (∀ ps, CutP most op l ps → CutP most op0 b (done ++ ps)) ∧ Kd.R k81 81 wr w.heap.size (fun _ => True) rv done ∧ done.length + l.length ≤ b.length ∧ Below w.heap.size w wr ∧ mu = l.length
theorem cut_any (text : Bool) (A0 : Option Addr) (c0 : Nat) (b : List Int) (m : Int) (w : World) (hC : Kd.C (Kd.int .u8) w A0 b.length b) (hc : b.length ≤ c0) (hn : b.length ≤ 100000000) : Calls Tryz.prog 36 #[.bool text, .slice A0 b.length c0, .int .i64 m] w (CutPost (mostC m) (if text = true then 1 else 2) b w) := by
 have hu26 := Tryz.underlying81
 have hinfo : (Tryz.prog.info? 81).map (fun i => (i.zero, i.size, i.bytes)) = some (some (.agg #[.bool false, .int .u8 0, .bool false, .int .u32 0, .slice none 0 0]), 5, 32) := by kernel_rfl
 have HI := a_ hinfo
 have HC := a_ hC
 have HN := a_ hn
 clear hinfo hC hn
 obtain ⟨M, hM⟩ : ∃ M, M = mostC m := ⟨_, rfl⟩
 have hMp := mostC_pos m
 rw [← hM] at hMp ⊢
 obtain ⟨op0, hop0⟩ : ∃ op0 : Int, op0 = if text = true then 1 else 2 := ⟨_, rfl⟩
 have HOP := a_ hop0
 rw [← hop0]
 clear hop0
 go_enter Tryz.func36, Tryz.ntmps36
 go_upto_region 1 with fail
 go_cut [2] (fun v wc => v = .int .i64 (M : Int) ∧ wc = w)
 case first =>
  unfold mostC at hM
  by_cases h1 : m < 1
  ·rw [if_pos h1] at hM
   have h2 : ¬ (m > 1) := by omega
   subst hM
   go_wp2_with fail
   go_meet
   case rel => exact ⟨rfl, rfl⟩
  ·rw [if_neg h1] at hM
   by_cases h2 : 4096 < m
   ·rw [if_pos h2] at hM
    subst hM
    have h3 : m > 1 := by omega
    go_wp2_with fail
    go_meet
    case rel => exact ⟨rfl, rfl⟩
   ·rw [if_neg h2] at hM
    have hm : m = (M : Int) := by omega
    clear h1 h2
    subst hm
    by_cases h3 : M = 1
    ·subst h3
     clear hM
     go_wp2_with fail
     go_meet
     case rel => exact ⟨rfl, rfl⟩
    ·have h4 : 1 < M := by omega
     have h5 : ¬ (4096 < M) := by omega
     clear hM h3
     go_wp2_with fail
     go_meet
     case rel => exact ⟨rfl, rfl⟩
 case rest =>
  obtain ⟨rfl, rfl⟩ := hcut
  clear hM
  go_upto_if 13 with fail
  go_cut [7] (fun v wc2 => v = .int .u8 op0 ∧ wc2 = wc)
  case first =>
   cases text with
   | true =>
    go_wp2_with fail
    go_meet
    case rel => exact ⟨by rw [HOP.out]; rfl, rfl⟩
   | false =>
    go_wp2_with fail
    go_meet
    case rel => exact ⟨by rw [HOP.out]; rfl, rfl⟩
  case rest =>
   obtain ⟨rfl, rfl⟩ := hcut
   clear HOP
   go_wp2_with fail
   go_loopg [1, 7, 8] b.length (fun mu bv ov rv wr => CutR wc M op0 b mu bv ov rv wr)
   case atStart => exact ⟨b, [], A0, c0, op0, rfl, rfl, hc, HC.out, fun _ h => h, Kd.R_nil _ _ _ _ _, by simp, Below.refl _ _, rfl⟩
   case round =>
    obtain ⟨l, done, A, c, op, rfl, rfl, hlc, hCl, hst, hR, hlen, hB, hmu⟩ := hrel
    have HCl := a_ hCl
    have HST := a_ hst
    have HR := a_ hR
    have HB := a_ hB
    clear hCl hst hR hB
    by_cases hle : l.length ≤ M
    ·have hlt : ¬ M < l.length := by omega
     go_wp2_with fail
     refine (bytes_Clone.calls A c l l _ (Kd.C_below HCl.out HB.out) hlc (by unfold bytes_Clone.f; rw [if_pos (by have := HN.out; omega)])).mono ?_
     rintro e w2 ⟨v0, rfl, ho, hb⟩
     obtain ⟨Av, cv, rfl⟩ := Kd.R_slice ho
     have hul : ∀ k, u8.ownBlock = some k → k < wr.heap.size := fun k e => Kd.R_lt HR.out k e
     have ho2 : Kd.R (Kd.int .u8) 5 w2 wc.heap.size (fun k => some k ≠ u8.ownBlock) (.slice Av (l).length cv) (l) := Kd.R_mono (Kd.R_lower (Kd.R_bound ho) HB.out.size) (fun k hk e => by have := hul k e.symm; have := hk.2.1; omega)
     have HO2 := a_ ho2
     have HR2 := a_ (Kd.R_below HR.out hb)
     have HB2 := a_ (below_step HB.out hb)
     have HGL := a_ (show (done.length + 1) * 32 ≤ 140737488355328 by have := HN.out; omega)
     clear ho ho2 hb hul HR HB
     go_wp2_with (at_builtin; refine Kd.R_append k81 (w0 := wc) wc.heap.size rfl (.tmp 18) (.tmp 29) 78 81 (.agg #[.bool false, .int .u8 0, .bool false, .int .u32 0, .slice none 0 0]) 32 rfl Tryz.underlying78 HI.out rfl (by decide) (by decide) u8 done (⟨true, op, false, 0, l⟩ : Pm) [.bool true, .int .u8 op, .bool false, .int .u32 0, .slice Av (l).length cv] (fun _ => True) (fun k => some k ≠ u8.ownBlock) rfl rfl ?aP (fun _ h => ⟨trivial, h⟩) (fun _ _ => trivial) HR2.out HB2.out HB2.out.size HGL.out ?_; (case aP => exact k81_mkM _ _ _ (⟨true, op, false, 0, l⟩ : Pm) HO2.out); intro v1 w3 hR1 hB1 hg1 hat1; have HR3 := a_ hR1; have HB3 := a_ hB1; clear hR1 hB1 hg1 hat1)
     go_ret
     exact ⟨_, _, rfl, HST.out _ (.last hle), by simp; omega, HR3.out, HB3.out⟩
    ·have hlt : M < l.length := by omega
     have hne : ((M : Int) == (l.length : Int)) = false := nb_ (by omega)
     have p0 : (0 : Int) ≤ (M : Int) := by omega
     have p1 : (M : Int) ≤ (l.length : Int) := by omega
     have p2 : (M : Int) ≤ (c : Int) := by omega
     have hne2 : ¬ (M = l.length) := by omega
     have htk : (l.take M).length = M := by rw [List.length_take]; omega
     obtain ⟨A3, c3, hcut3, hC3, hc3⟩ := cut_left A c M l (by omega) hlc
     have HC3 := a_ (hC3 _ HCl.out)
     obtain ⟨lt, hlt2⟩ : ∃ lt, lt = l.take M := ⟨_, rfl⟩
     obtain ⟨ld, hld⟩ : ∃ ld, ld = l.drop M := ⟨_, rfl⟩
     have HLD := a_ (show ld.length + M = l.length by rw [hld, List.length_drop]; omega)
     have hCt : Kd.C (Kd.int .u8) wr A M lt := by
      have h := Kd.C_take (m := M) (Kd.C_below HCl.out HB.out) (by omega)
      rw [htk, ← hlt2] at h
      exact h
     have HCt := a_ hCt
     rw [← hlt2] at htk
     rw [← hld] at hcut3 hc3 HC3
     have HTK := a_ htk
     have HST2 : Aside0 (∀ ps, CutP M 0 ld ps → CutP M op0 b ((done ++ [⟨false, op, false, 0, lt⟩]) ++ ps)) := ⟨fun ps h => by
      rw [List.append_assoc]
      refine HST.out _ ?_
      rw [hlt2]
      exact .more hlt (hld ▸ h)⟩
     clear hC3 hCt hlt2 hld htk HST HCl
     go_wp2_with fail
     refine (calls_of_args (by rw [HTK.out]) (bytes_Clone.calls A c lt lt _ (HTK.out ▸ HCt.out) (by rw [HTK.out]; omega) (by unfold bytes_Clone.f; rw [if_pos (by have := HN.out; have := HTK.out; omega)]))).mono ?_
     rintro e w2 ⟨v0, rfl, ho, hb⟩
     obtain ⟨Av, cv, rfl⟩ := Kd.R_slice ho
     have hul : ∀ k, u8.ownBlock = some k → k < wr.heap.size := fun k e => Kd.R_lt HR.out k e
     have ho2 : Kd.R (Kd.int .u8) 5 w2 wc.heap.size (fun k => some k ≠ u8.ownBlock) (.slice Av (lt).length cv) (lt) := Kd.R_mono (Kd.R_lower (Kd.R_bound ho) HB.out.size) (fun k hk e => by have := hul k e.symm; have := hk.2.1; omega)
     have HO2 := a_ ho2
     have HR2 := a_ (Kd.R_below HR.out hb)
     have HB2 := a_ (below_step HB.out hb)
     have HGL := a_ (show (done.length + 1) * 32 ≤ 140737488355328 by have := HN.out; omega)
     clear ho ho2 hb hul HR HB
     go_wp2_with (at_builtin; refine Kd.R_append k81 (w0 := wc) wc.heap.size rfl (.tmp 18) (.tmp 29) 78 81 (.agg #[.bool false, .int .u8 0, .bool false, .int .u32 0, .slice none 0 0]) 32 rfl Tryz.underlying78 HI.out rfl (by decide) (by decide) u8 done (⟨false, op, false, 0, lt⟩ : Pm) [.bool false, .int .u8 op, .bool false, .int .u32 0, .slice Av (lt).length cv] (fun _ => True) (fun k => some k ≠ u8.ownBlock) rfl rfl ?aP (fun _ h => ⟨trivial, h⟩) (fun _ _ => trivial) HR2.out HB2.out HB2.out.size HGL.out ?_; (case aP => exact k81_mkM _ _ _ (⟨false, op, false, 0, lt⟩ : Pm) HO2.out); intro v1 w3 hR1 hB1 hg1 hat1; have HR3 := a_ hR1; have HB3 := a_ hB1; clear hR1 hB1 hg1 hat1)
     go_roundg ld.length
     case measure => have := HLD.out; omega
     case rel => exact ⟨ld, done ++ [⟨false, op, false, 0, lt⟩], A3, c3, 0, rfl, rfl, hc3, HC3.out, HST2.out, HR3.out, by have := HLD.out; simp; omega, HB3.out, rfl⟩
end Go.Proofs.YtpmeapdcjmaeiaaGreatDoor
namespace Go.Proofs.YtpmeapdcjmaeiaaGreatDoor
open Go.RowKit Go.Wa Go.Wb Go.Wc PAll U
theorem Take_over {w0 w : World} {g : Nat} {v u : Value} {b : List Int} {busy text : Bool} {fin : Bool} {op : Int} {mk : Bool} {key : Int} {A : Option Addr} {c : Nat} {n : Nat} (h : Gw w0 w g v u b busy text true) : Calls Tryz.prog 44 #[.pointer (some ⟨g, 0, none⟩), .agg #[.bool fin, .int .u8 op, .bool mk, .int .u32 key, .slice A n c]] w fun e w' => e = .returned (.tuple #[.agg #[.int .u8 0, .bool false, .slice none 0 0, .int .u32 0], .bool false]) ∧ Below w.heap.size w w' := by
 have hu30 := Tryz.underlying37
 have hu26 := Tryz.underlying81
 have HG := a_ h
 clear h
 go_enter Tryz.func44, Tryz.ntmps44
 go_wp2_with fail
 refine (over_any g v u busy text true _ (HG.out.below (below_alloc (below_alloc (Below.refl _ _) _) _)).blk).mono ?_
 rintro e w1 ⟨rfl, hw1⟩
 subst hw1
 have hle : w.heap.size ≤ w.heap.size + 1 := by omega
 go_wp2_with fail
 exact bodyPost_ret (v := .tuple #[.agg #[.int .u8 0, .bool false, .slice none 0 0, .int .u32 0], .bool false]) (by simp [results, Tryz.results44, go_sem]) rfl ⟨rfl, by repeat (first | exact Below.refl _ _ | apply below_alloc | refine Below.setCell ?_ hle _)⟩
theorem Take_overI {w : World} {g : Nat} {v u : Value} {busy text : Bool} {fin : Bool} {op : Int} {mk : Bool} {key : Int} {A : Option Addr} {c : Nat} {n : Nat} (h : IsG w g v busy text u true) : Calls Tryz.prog 44 #[.pointer (some ⟨g, 0, none⟩), .agg #[.bool fin, .int .u8 op, .bool mk, .int .u32 key, .slice A n c]] w fun e w' => e = .returned (.tuple #[.agg #[.int .u8 0, .bool false, .slice none 0 0, .int .u32 0], .bool false]) ∧ Below w.heap.size w w' := by
 have hu30 := Tryz.underlying37
 have hu26 := Tryz.underlying81
 have HG := a_ h
 clear h
 go_enter Tryz.func44, Tryz.ntmps44
 go_wp2_with fail
 refine (over_any g v u busy text true _ (blk_below HG.out (below_alloc (below_alloc (Below.refl _ _) _) _))).mono ?_
 rintro e w1 ⟨rfl, hw1⟩
 subst hw1
 have hle : w.heap.size ≤ w.heap.size + 1 := by omega
 go_wp2_with fail
 exact bodyPost_ret (v := .tuple #[.agg #[.int .u8 0, .bool false, .slice none 0 0, .int .u32 0], .bool false]) (by simp [results, Tryz.results44, go_sem]) rfl ⟨rfl, by repeat (first | exact Below.refl _ _ | apply below_alloc | refine Below.setCell ?_ hle _)⟩
theorem row_at {w : World} {base : Nat} {ok : Nat → Prop} {A : Option Addr} {n c : Nat} {ps : List Pm} (h : Kd.R k81 81 w base ok (.slice A n c) ps) (i : Nat) (hi : i < ps.length) :
  ∃ g A4 c4, A = some ⟨g, 0, none⟩ ∧ w.cell? ⟨g, i * 5, none⟩ = some (.bool ps[i].f0) ∧ w.cell? ⟨g, i * 5 + 1, none⟩ = some (.int .u8 ps[i].f1) ∧ w.cell? ⟨g, i * 5 + 2, none⟩ = some (.bool ps[i].f2) ∧ w.cell? ⟨g, i * 5 + 3, none⟩ = some (.int .u32 ps[i].f3) ∧ w.cell? ⟨g, i * 5 + 4, none⟩ = some (.slice A4 ps[i].f4.length c4) ∧
   Kd.R (Kd.int .u8) 5 w base ok (.slice A4 ps[i].f4.length c4) ps[i].f4 := by
 obtain ⟨g, cap, e, hb, hl, cells, hc⟩ := Kd.R_form h (by omega)
 injection e with e1 e2 e3
 subst e1; subst e2; subst e3
 obtain ⟨cs, hlen, hM, hcell, _⟩ := Kd.R_elem h z81 (i : Int) (by omega) (by omega)
 rw [Int.toNat_natCast] at hM hcell
 rw [List.getD_eq_getElem?_getD, List.getElem?_eq_getElem hi, Option.getD_some] at hM
 obtain ⟨v4, rfl, hR⟩ := k81_openM hM
 obtain ⟨A4, c4, rfl⟩ := Kd.R_slice hR
 exact ⟨g, A4, c4, rfl, hcell 0 _ rfl, hcell 1 _ rfl, hcell 2 _ rfl, hcell 3 _ rfl, hcell 4 _ rfl, Kd.R_mono hR (fun k hk => hk.1)⟩
theorem TakeMore {w0 w : World} {g : Nat} {v u : Value} {b : List Int} {busy text : Bool} {gu : Nat} {f : List Int} {fin : Bool} {op : Int} {mk : Bool} {key : Int} {A : Option Addr} {c : Nat} {d : List Int} (h : Gs w0 w g v u b busy text false gu f) (hff : (busy = true → f = if text = true then b else []) ∧ (busy = false → b = [])) (hd : Dat w (.slice A d.length c) d) (hdn : ∀ k, (Value.slice A d.length c).ownBlock = some k → v.ownBlock ≠ some k) (hbl : b.length ≤ 4096) (hdl : d.length ≤ 1000000000) (hop : op = 0 ∨ op = 1 ∨ op = 2) (hc : partC busy text fin op b d = 0) (hfin : fin = false) : Calls Tryz.prog 44 #[.pointer (some ⟨g, 0, none⟩), .agg #[.bool fin, .int .u8 op, .bool mk, .int .u32 key, .slice A d.length c]] w (TMore w0 g v u (b ++ d) (textN busy text op) w) := by
 refine Take_more h hd (fun W hb hG hD => ?_)
 rcases hop with rfl | rfl | rfl
 ·exact take_more_0 hG hff hD hdn hbl hdl hc hfin
 ·exact take_more_1 hG hff hD hdn hbl hdl hc hfin
 ·exact take_more_2 hG hff hD hdn hbl hdl hc hfin
theorem TakeTold {w0 w : World} {g : Nat} {v u : Value} {b : List Int} {busy text : Bool} {gu : Nat} {f : List Int} {fin : Bool} {op : Int} {mk : Bool} {key : Int} {A : Option Addr} {c : Nat} {d : List Int} (h : Gs w0 w g v u b busy text false gu f) (hff : (busy = true → f = if text = true then b else []) ∧ (busy = false → b = [])) (hd : Dat w (.slice A d.length c) d) (hdn : ∀ k, (Value.slice A d.length c).ownBlock = some k → v.ownBlock ≠ some k) (hbl : b.length ≤ 4096) (hdl : d.length ≤ 1000000000) (hop : op = 0 ∨ op = 1 ∨ op = 2) (hc : partC busy text fin op b d = 0) (hfin : fin = true) : Calls Tryz.prog 44 #[.pointer (some ⟨g, 0, none⟩), .agg #[.bool fin, .int .u8 op, .bool mk, .int .u32 key, .slice A d.length c]] w (TTold w0 g v u (b ++ d) (textN busy text op) w) := by
 refine Take_told h hd (fun W hb hG hD => ?_)
 rcases hop with rfl | rfl | rfl
 ·exact take_told_0 hG hff hD hdn hbl hdl hc hfin
 ·exact take_told_1 hG hff hD hdn hbl hdl hc hfin
 ·exact take_told_2 hG hff hD hdn hbl hdl hc hfin
theorem TakeBadPart {w0 w : World} {g : Nat} {v u : Value} {b : List Int} {busy text : Bool} {gu : Nat} {f : List Int} {fin : Bool} {op : Int} {mk : Bool} {key : Int} {A : Option Addr} {c : Nat} {d : List Int} (h : Gs w0 w g v u b busy text false gu f) (hff : (busy = true → f = if text = true then b else []) ∧ (busy = false → b = [])) (hd : Dat w (.slice A d.length c) d) (hdn : ∀ k, (Value.slice A d.length c).ownBlock = some k → v.ownBlock ≠ some k) (hbl : b.length ≤ 4096) (hdl : d.length ≤ 1000000000) (hop : op = 0 ∨ op = 1 ∨ op = 2) (hg : Cond w0) (hc : partC busy text fin op b d ≠ 0) : Calls Tryz.prog 44 #[.pointer (some ⟨g, 0, none⟩), .agg #[.bool fin, .int .u8 op, .bool mk, .int .u32 key, .slice A d.length c]] w (TBad w0 g v u (partC busy text fin op b d) w) := by
 refine Take_bad h hd hg (fun W hb hG hD => ?_)
 rcases hop with rfl | rfl | rfl
 ·exact take_bad_0 hG hff hD hdn hbl hdl hc
 ·exact take_bad_1 hG hff hD hdn hbl hdl hc
 ·exact take_bad_2 hG hff hD hdn hbl hdl hc
end Go.Proofs.YtpmeapdcjmaeiaaGreatDoor
