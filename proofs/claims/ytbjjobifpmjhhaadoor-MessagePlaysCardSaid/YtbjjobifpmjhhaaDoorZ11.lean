/- What the law's row rests on, part 11. -/
import Derived.Test.YtbjjobifpmjhhaaDoorZ10
import Derived.Deep.RegionHeld3
import Derived.Lib.ConvBytes
import Derived.Laws.AppendOwn
/- The document's gatherer: what its closes and Take answer. -/
namespace Go.Proofs.YtbjjobifpmjhhaaDoor
open Go.RowKit Go.Proofs.YtbjjobifpmjhhaaDoorW.PrintWords Go.Proofs.YtbjjobifpmjhhaaDoorW.PrintLast Go.Proofs.YtbjjobifpmjhhaaDoorW.PrintMore Go.Proofs.YtbjjobifpmjhhaaDoor.PAll Go.Proofs.YtbjjobifpmjhhaaDoor.U
set_option linter.unusedVariables false
set_option linter.unusedSimpArgs false
/-- A gatherer of the document: what it holds, busy, text, over. -/
abbrev gmV (b : List Int) (busy text over : Bool) : Value := .agg #[.string (strOfNums b), .bool busy, .bool text, .bool over]
/-- What a close's bytes tell: kind, bytes, code. -/
def closeM (d : List Int) : Int × List Int × Int :=
  match d with
  | [] => (4, [], 1005)
  | [_] => (5, [], 1002)
  | a :: b :: r => if toldB (256 * a + b) = true then (if validC r = true then (4, r, 256 * a + b) else (5, [], 1007)) else (5, [], 1002)
/-- These bytes may be read, whatever changes but what was there below B, and blocks of bytes. -/
def Rd (B : Nat) (w : World) (A : Option Addr) (d : List Int) : Prop := ∀ W', (∀ k, (k < B ∨ ∃ cs fr, w.heap[k]? = some (.cells cs 5 fr)) → W'.heap[k]? = w.heap[k]?) → Kd.C (Kd.int .u8) W' A d.length d
theorem Rd.C {B : Nat} {w : World} {A : Option Addr} {d : List Int} (h : Rd B w A d) : Kd.C (Kd.int .u8) w A d.length d := h w (fun _ _ => rfl)
theorem Rd.move {B : Nat} {w W : World} {A : Option Addr} {d : List Int} (h : Rd B w A d) (hm : ∀ k, (k < B ∨ ∃ cs fr, w.heap[k]? = some (.cells cs 5 fr)) → W.heap[k]? = w.heap[k]?) : Rd B W A d := fun W' hW => h W' (fun k hk => by
  have e := hm k hk
  rw [← e]
  refine hW k ?_
  rcases hk with hk | ⟨cs, fr, hk⟩
  · exact .inl hk
  · exact .inr ⟨cs, fr, e.trans hk⟩)
theorem Rd.below {B : Nat} {w W : World} {A : Option Addr} {d : List Int} (h : Rd B w A d) (hb : Below w.heap.size w W) (hB : B ≤ w.heap.size) : Rd B W A d := h.move (fun k hk => hb.block k (by
  rcases hk with hk | ⟨cs, fr, hk⟩
  · omega
  · exact (Array.getElem?_eq_some_iff.1 hk).1))
theorem C_zero (A : Option Addr) (w : World) : Kd.C (Kd.int .u8) w A 0 [] := Kd.C_of_reads (d := (0 : Int)) ⟨rfl, Nat.zero_le _, fun hp => absurd hp (by decide)⟩
theorem Rd.zero (B : Nat) (w : World) (A : Option Addr) : Rd B w A [] := fun W' _ => C_zero A W'
theorem Rd.of_new {B : Nat} {w : World} {q : Nat} {d : List Int} {cs : Array Value} {fr : Nat × Nat} (h : Kd.C (Kd.int .u8) w (some ⟨q, 0, none⟩) d.length d) (ht : w.heap[q]? = some (.cells cs 5 fr)) : Rd B w (some ⟨q, 0, none⟩) d := fun W' hW => C_at h (hW q (.inr ⟨cs, fr, ht⟩))
theorem heap_sets4 {W : World} {q k : Nat} {x0 x1 x2 x3 : Value} (h : q ≠ k) : ((((W.setCell ⟨k, 0, none⟩ x0).setCell ⟨k, 1, none⟩ x1).setCell ⟨k, 2, none⟩ x2).setCell ⟨k, 3, none⟩ x3).heap[q]? = W.heap[q]? := by
  rw [Below.heap_setCell _ ⟨k, 3, none⟩ _ q h, Below.heap_setCell _ ⟨k, 2, none⟩ _ q h, Below.heap_setCell _ ⟨k, 1, none⟩ _ q h, Below.heap_setCell _ ⟨k, 0, none⟩ _ q h]
theorem Rd.off4 {B k t : Nat} {W : World} {A : Option Addr} {d : List Int} {cs : Array Value} {x0 x1 x2 x3 : Value} (h : Rd B W A d) (hk : W.heap[k]? = some (.cells cs t (0, 0))) (ht : t ≠ 5) (hB : B ≤ k) : Rd B ((((W.setCell ⟨k, 0, none⟩ x0).setCell ⟨k, 1, none⟩ x1).setCell ⟨k, 2, none⟩ x2).setCell ⟨k, 3, none⟩ x3) A d := h.move (fun q hq => heap_sets4 (fun e => by
  subst e
  rcases hq with hq | ⟨c2, fr, hq⟩
  · omega
  · rw [hk] at hq
    injection hq with hq
    injection hq with _ hq _
    exact ht hq))
/-- What is answered: the gatherer behind it, a note (its bytes may be read), and whether it is told. -/
def RefPost (B : Nat) (b : List Int) (busy text over : Bool) (k : Int) (tx : Bool) (dd : List Int) (cd : Int) (ok : Bool) (w : World) (e : Ending) (w' : World) : Prop := ∃ An cn, e = .returned (.tuple #[gmV b busy text over, .agg #[.int .u8 k, .bool tx, .slice An dd.length cn, .int .u32 cd], .bool ok]) ∧ dd.length ≤ cn ∧ Rd B w' An dd ∧ Below w.heap.size w w'
theorem sets4 {w W : World} {B k : Nat} {x0 x1 x2 x3 : Value} (h : Below B w W) (hk : B ≤ k) : Below B w ((((W.setCell ⟨k, 0, none⟩ x0).setCell ⟨k, 1, none⟩ x1).setCell ⟨k, 2, none⟩ x2).setCell ⟨k, 3, none⟩ x3) := Below.setCell (Below.setCell (Below.setCell (Below.setCell h hk _) hk _) hk _) hk _
theorem bytes_conv (X : ByteArray) (hx : X.size ≤ 9223372036854775807) (nn : Nat) (hn : nn = (bs X).length) : ∃ (capf : World → Nat) (bw : World → World), (∀ W, (convert 9 24 (.string X)).run Tryd.prog W = .ok (.slice (some ⟨W.heap.size, 0, none⟩) nn (capf W)) (bw W)) ∧ (∀ W, Below W.heap.size W (bw W)) ∧ (∀ W, Kd.C (Kd.int .u8) (bw W) (some ⟨W.heap.size, 0, none⟩) nn (bs X)) ∧ (∀ W, nn ≤ capf W) ∧ (∀ W, ∃ cs fr, (bw W).heap[W.heap.size]? = some (.cells cs 5 fr)) := by
  have hnx : nn = X.size := hn.trans (bs_length X)
  subst hnx
  exact ⟨fun W => grownCap W X.size 0 5, fun W => Lib.bytesWorld W 5 X, fun W => print_bytes (P := Tryd.prog) 9 24 5 Tryd.underlying9 Tryd.underlying24 Tryd.underlying5 X W, fun W => bytes_below (Below.refl _ _) (Nat.le_refl _) _ _, fun W => Kd.C_of_reads (d := (0 : Int)) (h1 := fun _ => rfl) (bytes_reads W _ X hx), fun W => grownCap_ge _ _ _ _, fun W => ⟨_, _, Lib.bytesWorld_at_new W _ X⟩⟩
theorem ref_bad (code : Int) (B : Nat) (w : World) : Calls Tryd.prog 28 #[.int .u32 code] w (RefPost B [] false false true 5 false [] code true w) := by
  refine (louverref18_bad.calls code ⟨#[]⟩ false false true 5 false [] code true w rfl).mono ?_
  rintro e w' ⟨v, rfl, hR, hb⟩
  obtain ⟨A, c, rfl⟩ := Kd.R_slice hR
  exact ⟨A, c, rfl, (Kd.R_reads' hR).2.1, Rd.zero _ _ _, hb⟩
theorem C_nil (w : World) : Kd.C (Kd.int .u8) w none 0 [] := (Kd.R_reads' (Kd.R_nil (Kd.int .u8) 5 w 0 (fun _ => True))).2.2
theorem no_toList {s : ByteArray} (hs : bs s = []) : s.toList = [] := by
  have h : s.toList = (⟨#[]⟩ : ByteArray).toList := bs_inj (by rw [hs]; rfl)
  rw [h, ByteArray.toList_eq]
theorem some_toList {s : ByteArray} (hs : bs s ≠ []) : (s.toList == ([] : List UInt8)) = false := by
  rw [beq_eq_false_iff_ne]
  intro h
  exact hs (by rw [bs_of_toList (show s.toList = (⟨#[]⟩ : ByteArray).toList by rw [h, ByteArray.toList_eq])]; rfl)
set_option maxHeartbeats 8000000 in
set_option maxRecDepth 100000 in
theorem ref_closes_nil (B : Nat) (s : ByteArray) (w : World) (hs : bs s = []) : Calls Tryd.prog 27 #[.string s] w (RefPost B [] false false true 4 false [] 1005 true w) := by
  have hug := Tryd.underlying40
  have hu30 := Tryd.underlying30
  have hu26 := Tryd.underlying26
  have hle : w.heap.size ≤ w.heap.size := Nat.le_refl _
  have hle1 : w.heap.size ≤ w.heap.size + 1 := Nat.le_succ _
  have hz : (s.toList == ([] : List UInt8)) = true := by rw [no_toList hs]; rfl
  clear hs
  have hb1 : Below w.heap.size w ((w.alloc (.cells #[.string (⟨#[]⟩ : ByteArray), .bool false, .bool false, .bool false] 40)).alloc (.cells #[.int .u8 0, .bool false, .slice none 0 0, .int .u32 0] 30)) := below_alloc (below_alloc (Below.refl _ _) _) _
  have hg1 : ((w.alloc (.cells #[.string (⟨#[]⟩ : ByteArray), .bool false, .bool false, .bool false] 40)).alloc (.cells #[.int .u8 0, .bool false, .slice none 0 0, .int .u32 0] 30)).heap[w.heap.size]? = some (.cells #[.string (⟨#[]⟩ : ByteArray), .bool false, .bool false, .bool false] 40 (0, 0)) := blk_alloc (last_at _ _ _ rfl) _
  have hn1 : ((w.alloc (.cells #[.string (⟨#[]⟩ : ByteArray), .bool false, .bool false, .bool false] 40)).alloc (.cells #[.int .u8 0, .bool false, .slice none 0 0, .int .u32 0] 30)).heap[w.heap.size + 1]? = some (.cells #[.int .u8 0, .bool false, .slice none 0 0, .int .u32 0] 30 (0, 0)) := last_at _ _ _ (by simp)
  go_enter Tryd.func27, Tryd.ntmps27
  go_upto_region 1 with fail
  generalize ((w.alloc (.cells #[.string (⟨#[]⟩ : ByteArray), .bool false, .bool false, .bool false] 40)).alloc (.cells #[.int .u8 0, .bool false, .slice none 0 0, .int .u32 0] 30)) = W1 at hb1 hg1 hn1 ⊢
  have HB1 := Aside0.mk hb1
  have HG1 := Aside0.mk hg1
  have HN1 := Aside0.mk hn1
  clear hb1 hg1 hn1
  have g0 : W1.cell? ⟨w.heap.size, 0, none⟩ = some (.string (⟨#[]⟩ : ByteArray)) := (blk_cell HG1.out 0).trans rfl
  have gf0 := blk_frozen HG1.out 0
  have g1 : W1.cell? ⟨w.heap.size, 1, none⟩ = some (.bool false) := (blk_cell HG1.out 1).trans rfl
  have gf1 := blk_frozen HG1.out 1
  have g2 : W1.cell? ⟨w.heap.size, 2, none⟩ = some (.bool false) := (blk_cell HG1.out 2).trans rfl
  have gf2 := blk_frozen HG1.out 2
  have g3 : W1.cell? ⟨w.heap.size, 3, none⟩ = some (.bool false) := (blk_cell HG1.out 3).trans rfl
  have gf3 := blk_frozen HG1.out 3
  have gl := blk_lt HG1.out
  have n0 : W1.cell? ⟨(w.heap.size + 1), 0, none⟩ = some (.int .u8 0) := (blk_cell HN1.out 0).trans rfl
  have nf0 := blk_frozen HN1.out 0
  have n1 : W1.cell? ⟨(w.heap.size + 1), 1, none⟩ = some (.bool false) := (blk_cell HN1.out 1).trans rfl
  have nf1 := blk_frozen HN1.out 1
  have n2 : W1.cell? ⟨(w.heap.size + 1), 2, none⟩ = some (.slice none 0 0) := (blk_cell HN1.out 2).trans rfl
  have nf2 := blk_frozen HN1.out 2
  have n3 : W1.cell? ⟨(w.heap.size + 1), 3, none⟩ = some (.int .u32 0) := (blk_cell HN1.out 3).trans rfl
  have nf3 := blk_frozen HN1.out 3
  have nl := blk_lt HN1.out
  go_wp2_with fail
  exact bodyPost_ret (v := .tuple #[.agg #[.string (⟨#[]⟩ : ByteArray), .bool false, .bool false, .bool true], .agg #[.int .u8 4, .bool false, .slice none 0 0, .int .u32 1005], .bool true]) (by simp [results, Tryd.results27, go_sem, show strOfNums [] = (⟨#[]⟩ : ByteArray) from rfl, g0, g1, g2, g3, n0, n1, n2, n3]) rfl ⟨none, 0, rfl, Nat.le_refl _, Rd.zero _ _ _, sets4 (sets4 HB1.out hle) hle1⟩
set_option maxHeartbeats 8000000 in
set_option maxRecDepth 100000 in
theorem ref_closes_one (B : Nat) (s : ByteArray) (w : World) (hs : s.size = 1) : Calls Tryd.prog 27 #[.string s] w (RefPost B [] false false true 5 false [] 1002 true w) := by
  have hug := Tryd.underlying40
  have hu30 := Tryd.underlying30
  have hu26 := Tryd.underlying26
  have hle : w.heap.size ≤ w.heap.size := Nat.le_refl _
  have hle1 : w.heap.size ≤ w.heap.size + 1 := Nat.le_succ _
  have hz : (s.toList == ([] : List UInt8)) = false := some_toList (fun h => by have := bs_length s; rw [h, hs] at this; cases this)
  have hs1 : ((s.size : Int) == 1) = true := by rw [hs]; rfl
  have hb1 : Below w.heap.size w ((w.alloc (.cells #[.string (⟨#[]⟩ : ByteArray), .bool false, .bool false, .bool false] 40)).alloc (.cells #[.int .u8 0, .bool false, .slice none 0 0, .int .u32 0] 30)) := below_alloc (below_alloc (Below.refl _ _) _) _
  have hg1 : ((w.alloc (.cells #[.string (⟨#[]⟩ : ByteArray), .bool false, .bool false, .bool false] 40)).alloc (.cells #[.int .u8 0, .bool false, .slice none 0 0, .int .u32 0] 30)).heap[w.heap.size]? = some (.cells #[.string (⟨#[]⟩ : ByteArray), .bool false, .bool false, .bool false] 40 (0, 0)) := blk_alloc (last_at _ _ _ rfl) _
  have hn1 : ((w.alloc (.cells #[.string (⟨#[]⟩ : ByteArray), .bool false, .bool false, .bool false] 40)).alloc (.cells #[.int .u8 0, .bool false, .slice none 0 0, .int .u32 0] 30)).heap[w.heap.size + 1]? = some (.cells #[.int .u8 0, .bool false, .slice none 0 0, .int .u32 0] 30 (0, 0)) := last_at _ _ _ (by simp)
  go_enter Tryd.func27, Tryd.ntmps27
  go_upto_region 1 with fail
  generalize ((w.alloc (.cells #[.string (⟨#[]⟩ : ByteArray), .bool false, .bool false, .bool false] 40)).alloc (.cells #[.int .u8 0, .bool false, .slice none 0 0, .int .u32 0] 30)) = W1 at hb1 hg1 hn1 ⊢
  have HB1 := Aside0.mk hb1
  have HG1 := Aside0.mk hg1
  have HN1 := Aside0.mk hn1
  clear hb1 hg1 hn1
  go_wp2_with fail
  refine (ref_bad 1002 0 _).mono ?_
  rintro e w7 ⟨An, cn, rfl, _, _, hb⟩
  have HB7 := Aside0.mk (below_step HB1.out hb)
  have HG7 := Aside0.mk (blk_below HG1.out hb)
  have HN7 := Aside0.mk (blk_below HN1.out hb)
  clear hb
  have g0 : w7.cell? ⟨w.heap.size, 0, none⟩ = some (.string (⟨#[]⟩ : ByteArray)) := (blk_cell HG7.out 0).trans rfl
  have gf0 := blk_frozen HG7.out 0
  have g1 : w7.cell? ⟨w.heap.size, 1, none⟩ = some (.bool false) := (blk_cell HG7.out 1).trans rfl
  have gf1 := blk_frozen HG7.out 1
  have g2 : w7.cell? ⟨w.heap.size, 2, none⟩ = some (.bool false) := (blk_cell HG7.out 2).trans rfl
  have gf2 := blk_frozen HG7.out 2
  have g3 : w7.cell? ⟨w.heap.size, 3, none⟩ = some (.bool false) := (blk_cell HG7.out 3).trans rfl
  have gf3 := blk_frozen HG7.out 3
  have gl := blk_lt HG7.out
  have n0 : w7.cell? ⟨(w.heap.size + 1), 0, none⟩ = some (.int .u8 0) := (blk_cell HN7.out 0).trans rfl
  have nf0 := blk_frozen HN7.out 0
  have n1 : w7.cell? ⟨(w.heap.size + 1), 1, none⟩ = some (.bool false) := (blk_cell HN7.out 1).trans rfl
  have nf1 := blk_frozen HN7.out 1
  have n2 : w7.cell? ⟨(w.heap.size + 1), 2, none⟩ = some (.slice none 0 0) := (blk_cell HN7.out 2).trans rfl
  have nf2 := blk_frozen HN7.out 2
  have n3 : w7.cell? ⟨(w.heap.size + 1), 3, none⟩ = some (.int .u32 0) := (blk_cell HN7.out 3).trans rfl
  have nf3 := blk_frozen HN7.out 3
  have nl := blk_lt HN7.out
  go_wp2_with fail
  exact bodyPost_ret (v := .tuple #[.agg #[.string (⟨#[]⟩ : ByteArray), .bool false, .bool false, .bool true], .agg #[.int .u8 5, .bool false, .slice An 0 cn, .int .u32 1002], .bool true]) (by simp [results, Tryd.results27, go_sem, show strOfNums [] = (⟨#[]⟩ : ByteArray) from rfl, g0, g1, g2, g3, n0, n1, n2, n3]) rfl ⟨An, cn, rfl, Nat.zero_le _, Rd.zero _ _ _, sets4 (sets4 HB7.out hle) hle1⟩
set_option maxHeartbeats 8000000 in
set_option maxRecDepth 100000 in
theorem ref_closes_code (B : Nat) (s : ByteArray) (w : World) (b0 b1 : Int) (h0 : bt s 0 = b0) (h1 : bt s 1 = b1) (hs : 2 ≤ s.size) (ht : toldB (256 * b0 + b1) = false) : Calls Tryd.prog 27 #[.string s] w (RefPost B [] false false true 5 false [] 1002 true w) := by
  have hug := Tryd.underlying40
  have hu30 := Tryd.underlying30
  have hu26 := Tryd.underlying26
  have hle : w.heap.size ≤ w.heap.size := Nat.le_refl _
  have hle1 : w.heap.size ≤ w.heap.size + 1 := Nat.le_succ _
  have hz : (s.toList == ([] : List UInt8)) = false := some_toList (fun h => by have := bs_length s; rw [h] at this; simp at this; omega)
  have hs1 : ((s.size : Int) == 1) = false := beq_eq_false_iff_ne.mpr (by omega)
  have hs2 : 0 < s.size := by omega
  have hs3 : 1 < s.size := by omega
  have hs4 : (0 : Int) < (s.size : Int) := by omega
  have hs5 : (1 : Int) < (s.size : Int) := by omega
  have ha0 : ((s[0]'hs2).toNat : Int) = b0 := (bt_at s 0 hs2).trans h0
  have ha1 : ((s[1]'hs3).toNat : Int) = b1 := (bt_at s 1 hs3).trans h1
  have hr0 := bt_range s 0
  have hr1 := bt_range s 1
  rw [h0] at hr0
  rw [h1] at hr1
  have e0 : IntKind.u32.wrap b0 = b0 := by simp [IntKind.wrap, IntKind.bits, IntKind.signed]; omega
  have e1 : IntKind.u32.wrap b1 = b1 := by simp [IntKind.wrap, IntKind.bits, IntKind.signed]; omega
  have e2 : IntKind.u32.wrap (256 * b0) = 256 * b0 := by simp [IntKind.wrap, IntKind.bits, IntKind.signed]; omega
  have e3 : IntKind.u32.wrap (256 * b0 + b1) = 256 * b0 + b1 := by simp [IntKind.wrap, IntKind.bits, IntKind.signed]; omega
  have hb1 : Below w.heap.size w ((w.alloc (.cells #[.string (⟨#[]⟩ : ByteArray), .bool false, .bool false, .bool false] 40)).alloc (.cells #[.int .u8 0, .bool false, .slice none 0 0, .int .u32 0] 30)) := below_alloc (below_alloc (Below.refl _ _) _) _
  have hg1 : ((w.alloc (.cells #[.string (⟨#[]⟩ : ByteArray), .bool false, .bool false, .bool false] 40)).alloc (.cells #[.int .u8 0, .bool false, .slice none 0 0, .int .u32 0] 30)).heap[w.heap.size]? = some (.cells #[.string (⟨#[]⟩ : ByteArray), .bool false, .bool false, .bool false] 40 (0, 0)) := blk_alloc (last_at _ _ _ rfl) _
  have hn1 : ((w.alloc (.cells #[.string (⟨#[]⟩ : ByteArray), .bool false, .bool false, .bool false] 40)).alloc (.cells #[.int .u8 0, .bool false, .slice none 0 0, .int .u32 0] 30)).heap[w.heap.size + 1]? = some (.cells #[.int .u8 0, .bool false, .slice none 0 0, .int .u32 0] 30 (0, 0)) := last_at _ _ _ (by simp)
  go_enter Tryd.func27, Tryd.ntmps27
  go_upto_region 1 with fail
  generalize ((w.alloc (.cells #[.string (⟨#[]⟩ : ByteArray), .bool false, .bool false, .bool false] 40)).alloc (.cells #[.int .u8 0, .bool false, .slice none 0 0, .int .u32 0] 30)) = W1 at hb1 hg1 hn1 ⊢
  have HB1 := Aside0.mk hb1
  have HG1 := Aside0.mk hg1
  have HN1 := Aside0.mk hn1
  clear hb1 hg1 hn1
  go_upto_region 5 with fail
  refine wp_region_noPanic ?_
  refine wp_region_held_drew (S := fun w' => Aside0 (Below W1.heap.size W1 w')) (by kernel_rfl) (⟨below_drew (Below.refl _ _)⟩) (fun hHeld => ?_)
  refine takeN (i := 0) (N := (some 19)) (v := ?v1) (a' := ?a1) rfl rfl (by kernel_rfl) (by kernel_rfl) (by kernel_rfl) (fun _ _ _ h => h) (Or.inl ⟨by rfl, ?hy1⟩) ?ha1 (by assumption) ?rest1
  case hy1 =>
    intro w_ hSw_
    go_simp
    first | done | (with_reducible rfl)
  case ha1 =>
    simp only [Act.put, List.setIfInBounds_toArray, List.set_cons_zero, List.set_cons_succ]
    rfl
  refine takeN (i := 1) (N := (some 20)) (v := ?v2) (a' := ?a2) rfl rfl (by kernel_rfl) (by kernel_rfl) (by kernel_rfl) (fun _ _ _ h => h) (Or.inl ⟨by rfl, ?hy2⟩) ?ha2 (by assumption) ?rest2
  case hy2 =>
    intro w_ hSw_
    go_simp
    first | done | (with_reducible rfl)
  case ha2 =>
    simp only [Act.put, List.setIfInBounds_toArray, List.set_cons_zero, List.set_cons_succ]
    rfl
  refine takeN (i := 2) (N := (some 21)) (v := ?v3) (a' := ?a3) rfl rfl (by kernel_rfl) (by kernel_rfl) (by kernel_rfl) (fun _ _ _ h => h) (Or.inl ⟨by rfl, ?hy3⟩) ?ha3 (by assumption) ?rest3
  case hy3 =>
    intro w_ hSw_
    go_simp
    first | done | (with_reducible rfl)
  case ha3 =>
    simp only [Act.put, List.setIfInBounds_toArray, List.set_cons_zero, List.set_cons_succ]
    rfl
  refine takeN (i := 3) (N := (some 22)) (v := ?v4) (a' := ?a4) rfl rfl (by kernel_rfl) (by kernel_rfl) (by kernel_rfl) (fun _ _ _ h => h) (Or.inl ⟨by rfl, ?hy4⟩) ?ha4 (by assumption) ?rest4
  case hy4 =>
    intro w_ hSw_
    go_simp
    first | done | (with_reducible rfl)
  case ha4 =>
    simp only [Act.put, List.setIfInBounds_toArray, List.set_cons_zero, List.set_cons_succ]
    rfl
  refine takeN (i := 4) (N := (some 23)) (v := ?v5) (a' := ?a5) rfl rfl (by kernel_rfl) (by kernel_rfl) (by kernel_rfl) (fun _ _ _ h => h) (Or.inl ⟨by rfl, ?hy5⟩) ?ha5 (by assumption) ?rest5
  case hy5 =>
    intro w_ hSw_
    go_simp
    first | done | (with_reducible rfl)
  case ha5 =>
    simp only [Act.put, List.setIfInBounds_toArray, List.set_cons_zero, List.set_cons_succ]
    rfl
  refine takeN (i := 5) (N := (some 24)) (v := ?v6) (a' := ?a6) rfl rfl (by kernel_rfl) (by kernel_rfl) (by kernel_rfl) (fun _ _ _ h => h) (Or.inl ⟨by rfl, ?hy6⟩) ?ha6 (by assumption) ?rest6
  case hy6 =>
    intro w_ hSw_
    go_simp
    first | done | (with_reducible rfl)
  case ha6 =>
    simp only [Act.put, List.setIfInBounds_toArray, List.set_cons_zero, List.set_cons_succ]
    rfl
  refine takeN (i := 6) (N := (some 25)) (v := ?v7) (a' := ?a7) rfl rfl (by kernel_rfl) (by kernel_rfl) (by kernel_rfl) (fun _ _ _ h => h) (Or.inl ⟨by rfl, ?hy7⟩) ?ha7 (by assumption) ?rest7
  case hy7 =>
    intro w_ hSw_
    go_simp
    first | done | (with_reducible rfl)
  case ha7 =>
    simp only [Act.put, List.setIfInBounds_toArray, List.set_cons_zero, List.set_cons_succ]
    rfl
  refine takeN (i := 7) (N := (some 26)) (v := ?v8) (a' := ?a8) rfl rfl (by kernel_rfl) (by kernel_rfl) (by kernel_rfl) (fun _ _ _ h => h) (Or.inl ⟨by rfl, ?hy8⟩) ?ha8 (by assumption) ?rest8
  case hy8 =>
    intro w_ hSw_
    go_simp
    first | done | (with_reducible rfl)
  case ha8 =>
    simp only [Act.put, List.setIfInBounds_toArray, List.set_cons_zero, List.set_cons_succ]
    rfl
  refine takeN (i := 8) (N := (some 5)) (v := ?v9) (a' := ?a9) rfl rfl (by kernel_rfl) (by kernel_rfl) (by kernel_rfl) (fun _ _ _ h => h) (Or.inl ⟨by rfl, ?hy9⟩) ?ha9 (by assumption) ?rest9
  case hy9 =>
    intro w_ hSw_
    go_simp
    first | done | (with_reducible rfl)
  case ha9 =>
    simp only [Act.put, List.setIfInBounds_toArray, List.set_cons_zero, List.set_cons_succ]
    rfl
  refine wpAnyH_done (by kernel_rfl) ?_ _
  refine NoPanic.normal ?_
  have HB2 := Aside0.mk (below_step HB1.out (below_drew (Below.refl _ _)))
  have HG2 := Aside0.mk (blk_drew HG1.out)
  have HN2 := Aside0.mk (blk_drew HN1.out)
  generalize W1.drew = w2 at hHeld HB2 HG2 HN2 ⊢
  clear hHeld HB1 HG1 HN1
  go_wp2_with fail
  refine (louverref18_Told.calls (256 * b0 + b1) false _ (by rw [told_f, ht])).mono ?_
  rintro e w3 ⟨rfl, hdr⟩
  have HB3 := Aside0.mk (below_step HB2.out hdr.below)
  have HG3 := Aside0.mk (blk_below HG2.out hdr.below)
  have HN3 := Aside0.mk (blk_below HN2.out hdr.below)
  clear hdr HB2 HG2 HN2
  go_wp2_with fail
  refine (ref_bad 1002 0 _).mono ?_
  rintro e w7 ⟨An, cn, rfl, _, _, hb⟩
  have HB7 := Aside0.mk (below_step HB3.out hb)
  have HG7 := Aside0.mk (blk_below HG3.out hb)
  have HN7 := Aside0.mk (blk_below HN3.out hb)
  clear hb
  have g0 : w7.cell? ⟨w.heap.size, 0, none⟩ = some (.string (⟨#[]⟩ : ByteArray)) := (blk_cell HG7.out 0).trans rfl
  have gf0 := blk_frozen HG7.out 0
  have g1 : w7.cell? ⟨w.heap.size, 1, none⟩ = some (.bool false) := (blk_cell HG7.out 1).trans rfl
  have gf1 := blk_frozen HG7.out 1
  have g2 : w7.cell? ⟨w.heap.size, 2, none⟩ = some (.bool false) := (blk_cell HG7.out 2).trans rfl
  have gf2 := blk_frozen HG7.out 2
  have g3 : w7.cell? ⟨w.heap.size, 3, none⟩ = some (.bool false) := (blk_cell HG7.out 3).trans rfl
  have gf3 := blk_frozen HG7.out 3
  have gl := blk_lt HG7.out
  have n0 : w7.cell? ⟨(w.heap.size + 1), 0, none⟩ = some (.int .u8 0) := (blk_cell HN7.out 0).trans rfl
  have nf0 := blk_frozen HN7.out 0
  have n1 : w7.cell? ⟨(w.heap.size + 1), 1, none⟩ = some (.bool false) := (blk_cell HN7.out 1).trans rfl
  have nf1 := blk_frozen HN7.out 1
  have n2 : w7.cell? ⟨(w.heap.size + 1), 2, none⟩ = some (.slice none 0 0) := (blk_cell HN7.out 2).trans rfl
  have nf2 := blk_frozen HN7.out 2
  have n3 : w7.cell? ⟨(w.heap.size + 1), 3, none⟩ = some (.int .u32 0) := (blk_cell HN7.out 3).trans rfl
  have nf3 := blk_frozen HN7.out 3
  have nl := blk_lt HN7.out
  go_wp2_with fail
  exact bodyPost_ret (v := .tuple #[.agg #[.string (⟨#[]⟩ : ByteArray), .bool false, .bool false, .bool true], .agg #[.int .u8 5, .bool false, .slice An 0 cn, .int .u32 1002], .bool true]) (by simp [results, Tryd.results27, go_sem, show strOfNums [] = (⟨#[]⟩ : ByteArray) from rfl, g0, g1, g2, g3, n0, n1, n2, n3]) rfl ⟨An, cn, rfl, Nat.zero_le _, Rd.zero _ _ _, sets4 (sets4 HB7.out hle) hle1⟩
set_option maxHeartbeats 8000000 in
set_option maxRecDepth 100000 in
theorem ref_closes_text (B : Nat) (s : ByteArray) (w : World) (b0 b1 : Int) (h0 : bt s 0 = b0) (h1 : bt s 1 = b1) (hs : 2 ≤ s.size) (hsz : s.size ≤ 140737488351232) (ht : toldB (256 * b0 + b1) = true) (hv : validC (bs (s.extract 2 s.size)) = false) : Calls Tryd.prog 27 #[.string s] w (RefPost B [] false false true 5 false [] 1007 true w) := by
  have hug := Tryd.underlying40
  have hu30 := Tryd.underlying30
  have hu26 := Tryd.underlying26
  have hle : w.heap.size ≤ w.heap.size := Nat.le_refl _
  have hle1 : w.heap.size ≤ w.heap.size + 1 := Nat.le_succ _
  have hz : (s.toList == ([] : List UInt8)) = false := some_toList (fun h => by have := bs_length s; rw [h] at this; simp at this; omega)
  have hs1 : ((s.size : Int) == 1) = false := beq_eq_false_iff_ne.mpr (by omega)
  have hs2 : 0 < s.size := by omega
  have hs3 : 1 < s.size := by omega
  have hs4 : (0 : Int) < (s.size : Int) := by omega
  have hs5 : (1 : Int) < (s.size : Int) := by omega
  have ha0 : ((s[0]'hs2).toNat : Int) = b0 := (bt_at s 0 hs2).trans h0
  have ha1 : ((s[1]'hs3).toNat : Int) = b1 := (bt_at s 1 hs3).trans h1
  have hr0 := bt_range s 0
  have hr1 := bt_range s 1
  rw [h0] at hr0
  rw [h1] at hr1
  have e0 : IntKind.u32.wrap b0 = b0 := by simp [IntKind.wrap, IntKind.bits, IntKind.signed]; omega
  have e1 : IntKind.u32.wrap b1 = b1 := by simp [IntKind.wrap, IntKind.bits, IntKind.signed]; omega
  have e2 : IntKind.u32.wrap (256 * b0) = 256 * b0 := by simp [IntKind.wrap, IntKind.bits, IntKind.signed]; omega
  have e3 : IntKind.u32.wrap (256 * b0 + b1) = 256 * b0 + b1 := by simp [IntKind.wrap, IntKind.bits, IntKind.signed]; omega
  have hs6 : (2 : Int) ≤ (s.size : Int) := by omega
  have hb1 : Below w.heap.size w ((w.alloc (.cells #[.string (⟨#[]⟩ : ByteArray), .bool false, .bool false, .bool false] 40)).alloc (.cells #[.int .u8 0, .bool false, .slice none 0 0, .int .u32 0] 30)) := below_alloc (below_alloc (Below.refl _ _) _) _
  have hg1 : ((w.alloc (.cells #[.string (⟨#[]⟩ : ByteArray), .bool false, .bool false, .bool false] 40)).alloc (.cells #[.int .u8 0, .bool false, .slice none 0 0, .int .u32 0] 30)).heap[w.heap.size]? = some (.cells #[.string (⟨#[]⟩ : ByteArray), .bool false, .bool false, .bool false] 40 (0, 0)) := blk_alloc (last_at _ _ _ rfl) _
  have hn1 : ((w.alloc (.cells #[.string (⟨#[]⟩ : ByteArray), .bool false, .bool false, .bool false] 40)).alloc (.cells #[.int .u8 0, .bool false, .slice none 0 0, .int .u32 0] 30)).heap[w.heap.size + 1]? = some (.cells #[.int .u8 0, .bool false, .slice none 0 0, .int .u32 0] 30 (0, 0)) := last_at _ _ _ (by simp)
  go_enter Tryd.func27, Tryd.ntmps27
  go_upto_region 1 with fail
  generalize ((w.alloc (.cells #[.string (⟨#[]⟩ : ByteArray), .bool false, .bool false, .bool false] 40)).alloc (.cells #[.int .u8 0, .bool false, .slice none 0 0, .int .u32 0] 30)) = W1 at hb1 hg1 hn1 ⊢
  have HB1 := Aside0.mk hb1
  have HG1 := Aside0.mk hg1
  have HN1 := Aside0.mk hn1
  clear hb1 hg1 hn1
  go_upto_region 5 with fail
  refine wp_region_noPanic ?_
  refine wp_region_held_drew (S := fun w' => Aside0 (Below W1.heap.size W1 w')) (by kernel_rfl) (⟨below_drew (Below.refl _ _)⟩) (fun hHeld => ?_)
  refine takeN (i := 0) (N := (some 19)) (v := ?v1) (a' := ?a1) rfl rfl (by kernel_rfl) (by kernel_rfl) (by kernel_rfl) (fun _ _ _ h => h) (Or.inl ⟨by rfl, ?hy1⟩) ?ha1 (by assumption) ?rest1
  case hy1 =>
    intro w_ hSw_
    go_simp
    first | done | (with_reducible rfl)
  case ha1 =>
    simp only [Act.put, List.setIfInBounds_toArray, List.set_cons_zero, List.set_cons_succ]
    rfl
  refine takeN (i := 1) (N := (some 20)) (v := ?v2) (a' := ?a2) rfl rfl (by kernel_rfl) (by kernel_rfl) (by kernel_rfl) (fun _ _ _ h => h) (Or.inl ⟨by rfl, ?hy2⟩) ?ha2 (by assumption) ?rest2
  case hy2 =>
    intro w_ hSw_
    go_simp
    first | done | (with_reducible rfl)
  case ha2 =>
    simp only [Act.put, List.setIfInBounds_toArray, List.set_cons_zero, List.set_cons_succ]
    rfl
  refine takeN (i := 2) (N := (some 21)) (v := ?v3) (a' := ?a3) rfl rfl (by kernel_rfl) (by kernel_rfl) (by kernel_rfl) (fun _ _ _ h => h) (Or.inl ⟨by rfl, ?hy3⟩) ?ha3 (by assumption) ?rest3
  case hy3 =>
    intro w_ hSw_
    go_simp
    first | done | (with_reducible rfl)
  case ha3 =>
    simp only [Act.put, List.setIfInBounds_toArray, List.set_cons_zero, List.set_cons_succ]
    rfl
  refine takeN (i := 3) (N := (some 22)) (v := ?v4) (a' := ?a4) rfl rfl (by kernel_rfl) (by kernel_rfl) (by kernel_rfl) (fun _ _ _ h => h) (Or.inl ⟨by rfl, ?hy4⟩) ?ha4 (by assumption) ?rest4
  case hy4 =>
    intro w_ hSw_
    go_simp
    first | done | (with_reducible rfl)
  case ha4 =>
    simp only [Act.put, List.setIfInBounds_toArray, List.set_cons_zero, List.set_cons_succ]
    rfl
  refine takeN (i := 4) (N := (some 23)) (v := ?v5) (a' := ?a5) rfl rfl (by kernel_rfl) (by kernel_rfl) (by kernel_rfl) (fun _ _ _ h => h) (Or.inl ⟨by rfl, ?hy5⟩) ?ha5 (by assumption) ?rest5
  case hy5 =>
    intro w_ hSw_
    go_simp
    first | done | (with_reducible rfl)
  case ha5 =>
    simp only [Act.put, List.setIfInBounds_toArray, List.set_cons_zero, List.set_cons_succ]
    rfl
  refine takeN (i := 5) (N := (some 24)) (v := ?v6) (a' := ?a6) rfl rfl (by kernel_rfl) (by kernel_rfl) (by kernel_rfl) (fun _ _ _ h => h) (Or.inl ⟨by rfl, ?hy6⟩) ?ha6 (by assumption) ?rest6
  case hy6 =>
    intro w_ hSw_
    go_simp
    first | done | (with_reducible rfl)
  case ha6 =>
    simp only [Act.put, List.setIfInBounds_toArray, List.set_cons_zero, List.set_cons_succ]
    rfl
  refine takeN (i := 6) (N := (some 25)) (v := ?v7) (a' := ?a7) rfl rfl (by kernel_rfl) (by kernel_rfl) (by kernel_rfl) (fun _ _ _ h => h) (Or.inl ⟨by rfl, ?hy7⟩) ?ha7 (by assumption) ?rest7
  case hy7 =>
    intro w_ hSw_
    go_simp
    first | done | (with_reducible rfl)
  case ha7 =>
    simp only [Act.put, List.setIfInBounds_toArray, List.set_cons_zero, List.set_cons_succ]
    rfl
  refine takeN (i := 7) (N := (some 26)) (v := ?v8) (a' := ?a8) rfl rfl (by kernel_rfl) (by kernel_rfl) (by kernel_rfl) (fun _ _ _ h => h) (Or.inl ⟨by rfl, ?hy8⟩) ?ha8 (by assumption) ?rest8
  case hy8 =>
    intro w_ hSw_
    go_simp
    first | done | (with_reducible rfl)
  case ha8 =>
    simp only [Act.put, List.setIfInBounds_toArray, List.set_cons_zero, List.set_cons_succ]
    rfl
  refine takeN (i := 8) (N := (some 5)) (v := ?v9) (a' := ?a9) rfl rfl (by kernel_rfl) (by kernel_rfl) (by kernel_rfl) (fun _ _ _ h => h) (Or.inl ⟨by rfl, ?hy9⟩) ?ha9 (by assumption) ?rest9
  case hy9 =>
    intro w_ hSw_
    go_simp
    first | done | (with_reducible rfl)
  case ha9 =>
    simp only [Act.put, List.setIfInBounds_toArray, List.set_cons_zero, List.set_cons_succ]
    rfl
  refine wpAnyH_done (by kernel_rfl) ?_ _
  refine NoPanic.normal ?_
  have HB2 := Aside0.mk (below_step HB1.out (below_drew (Below.refl _ _)))
  have HG2 := Aside0.mk (blk_drew HG1.out)
  have HN2 := Aside0.mk (blk_drew HN1.out)
  generalize W1.drew = w2 at hHeld HB2 HG2 HN2 ⊢
  clear hHeld HB1 HG1 HN1
  go_wp2_with fail
  refine (louverref18_Told.calls (256 * b0 + b1) true _ (by rw [told_f, ht])).mono ?_
  rintro e w3 ⟨rfl, hdr⟩
  have HB3 := Aside0.mk (below_step HB2.out hdr.below)
  have HG3 := Aside0.mk (blk_below HG2.out hdr.below)
  have HN3 := Aside0.mk (blk_below HN2.out hdr.below)
  clear hdr HB2 HG2 HN2
  go_wp2_with fail
  refine (louverref15_Good.calls (2 * (s.extract 2 s.size).size + 41) (s.extract 2 s.size) _ _ _ (good_f (s.extract 2 s.size) (by rw [ByteArray.size_extract]; omega) _ (Nat.le_refl _))).mono ?_
  rintro e w4 ⟨rfl, hb⟩
  have HB4 := Aside0.mk (below_step HB3.out hb)
  have HG4 := Aside0.mk (blk_below HG3.out hb)
  have HN4 := Aside0.mk (blk_below HN3.out hb)
  rw [hv]
  clear hb HB3 HG3 HN3
  go_wp2_with fail
  refine (ref_bad 1007 0 _).mono ?_
  rintro e w7 ⟨An, cn, rfl, _, _, hb⟩
  have HB7 := Aside0.mk (below_step HB4.out hb)
  have HG7 := Aside0.mk (blk_below HG4.out hb)
  have HN7 := Aside0.mk (blk_below HN4.out hb)
  clear hb
  have g0 : w7.cell? ⟨w.heap.size, 0, none⟩ = some (.string (⟨#[]⟩ : ByteArray)) := (blk_cell HG7.out 0).trans rfl
  have gf0 := blk_frozen HG7.out 0
  have g1 : w7.cell? ⟨w.heap.size, 1, none⟩ = some (.bool false) := (blk_cell HG7.out 1).trans rfl
  have gf1 := blk_frozen HG7.out 1
  have g2 : w7.cell? ⟨w.heap.size, 2, none⟩ = some (.bool false) := (blk_cell HG7.out 2).trans rfl
  have gf2 := blk_frozen HG7.out 2
  have g3 : w7.cell? ⟨w.heap.size, 3, none⟩ = some (.bool false) := (blk_cell HG7.out 3).trans rfl
  have gf3 := blk_frozen HG7.out 3
  have gl := blk_lt HG7.out
  have n0 : w7.cell? ⟨(w.heap.size + 1), 0, none⟩ = some (.int .u8 0) := (blk_cell HN7.out 0).trans rfl
  have nf0 := blk_frozen HN7.out 0
  have n1 : w7.cell? ⟨(w.heap.size + 1), 1, none⟩ = some (.bool false) := (blk_cell HN7.out 1).trans rfl
  have nf1 := blk_frozen HN7.out 1
  have n2 : w7.cell? ⟨(w.heap.size + 1), 2, none⟩ = some (.slice none 0 0) := (blk_cell HN7.out 2).trans rfl
  have nf2 := blk_frozen HN7.out 2
  have n3 : w7.cell? ⟨(w.heap.size + 1), 3, none⟩ = some (.int .u32 0) := (blk_cell HN7.out 3).trans rfl
  have nf3 := blk_frozen HN7.out 3
  have nl := blk_lt HN7.out
  go_wp2_with fail
  exact bodyPost_ret (v := .tuple #[.agg #[.string (⟨#[]⟩ : ByteArray), .bool false, .bool false, .bool true], .agg #[.int .u8 5, .bool false, .slice An 0 cn, .int .u32 1007], .bool true]) (by simp [results, Tryd.results27, go_sem, show strOfNums [] = (⟨#[]⟩ : ByteArray) from rfl, g0, g1, g2, g3, n0, n1, n2, n3]) rfl ⟨An, cn, rfl, Nat.zero_le _, Rd.zero _ _ _, sets4 (sets4 HB7.out hle) hle1⟩
set_option maxHeartbeats 8000000 in
set_option maxRecDepth 100000 in
theorem ref_closes_ok (B : Nat) (s : ByteArray) (w : World) (b0 b1 : Int) (h0 : bt s 0 = b0) (h1 : bt s 1 = b1) (hs : 2 ≤ s.size) (hBw : B ≤ w.heap.size) (hsz : s.size ≤ 140737488351232) (ht : toldB (256 * b0 + b1) = true) (hv : validC (bs (s.extract 2 s.size)) = true) : Calls Tryd.prog 27 #[.string s] w (RefPost B [] false false true 4 false (bs (s.extract 2 s.size)) (256 * b0 + b1) true w) := by
  have hug := Tryd.underlying40
  have hu30 := Tryd.underlying30
  have hu26 := Tryd.underlying26
  have hle : w.heap.size ≤ w.heap.size := Nat.le_refl _
  have hle1 : w.heap.size ≤ w.heap.size + 1 := Nat.le_succ _
  have hz : (s.toList == ([] : List UInt8)) = false := some_toList (fun h => by have := bs_length s; rw [h] at this; simp at this; omega)
  have hs1 : ((s.size : Int) == 1) = false := beq_eq_false_iff_ne.mpr (by omega)
  have hs2 : 0 < s.size := by omega
  have hs3 : 1 < s.size := by omega
  have hs4 : (0 : Int) < (s.size : Int) := by omega
  have hs5 : (1 : Int) < (s.size : Int) := by omega
  have ha0 : ((s[0]'hs2).toNat : Int) = b0 := (bt_at s 0 hs2).trans h0
  have ha1 : ((s[1]'hs3).toNat : Int) = b1 := (bt_at s 1 hs3).trans h1
  have hr0 := bt_range s 0
  have hr1 := bt_range s 1
  rw [h0] at hr0
  rw [h1] at hr1
  have e0 : IntKind.u32.wrap b0 = b0 := by simp [IntKind.wrap, IntKind.bits, IntKind.signed]; omega
  have e1 : IntKind.u32.wrap b1 = b1 := by simp [IntKind.wrap, IntKind.bits, IntKind.signed]; omega
  have e2 : IntKind.u32.wrap (256 * b0) = 256 * b0 := by simp [IntKind.wrap, IntKind.bits, IntKind.signed]; omega
  have e3 : IntKind.u32.wrap (256 * b0 + b1) = 256 * b0 + b1 := by simp [IntKind.wrap, IntKind.bits, IntKind.signed]; omega
  have hs6 : (2 : Int) ≤ (s.size : Int) := by omega
  have HSX := Aside0.mk (show (s.extract 2 s.size).size ≤ 9223372036854775807 by rw [ByteArray.size_extract]; omega)
  obtain ⟨nn, hnn⟩ : ∃ nn, nn = (bs (s.extract 2 s.size)).length := ⟨_, rfl⟩
  obtain ⟨capf, bw, kb, hcv⟩ := bytes_conv (s.extract 2 s.size) HSX.out nn hnn
  have HNN := Aside0.mk hnn
  have HCV := Aside0.mk hcv
  clear hcv hnn
  have hb1 : Below w.heap.size w ((w.alloc (.cells #[.string (⟨#[]⟩ : ByteArray), .bool false, .bool false, .bool false] 40)).alloc (.cells #[.int .u8 0, .bool false, .slice none 0 0, .int .u32 0] 30)) := below_alloc (below_alloc (Below.refl _ _) _) _
  have hg1 : ((w.alloc (.cells #[.string (⟨#[]⟩ : ByteArray), .bool false, .bool false, .bool false] 40)).alloc (.cells #[.int .u8 0, .bool false, .slice none 0 0, .int .u32 0] 30)).heap[w.heap.size]? = some (.cells #[.string (⟨#[]⟩ : ByteArray), .bool false, .bool false, .bool false] 40 (0, 0)) := blk_alloc (last_at _ _ _ rfl) _
  have hn1 : ((w.alloc (.cells #[.string (⟨#[]⟩ : ByteArray), .bool false, .bool false, .bool false] 40)).alloc (.cells #[.int .u8 0, .bool false, .slice none 0 0, .int .u32 0] 30)).heap[w.heap.size + 1]? = some (.cells #[.int .u8 0, .bool false, .slice none 0 0, .int .u32 0] 30 (0, 0)) := last_at _ _ _ (by simp)
  go_enter Tryd.func27, Tryd.ntmps27
  go_upto_region 1 with fail
  generalize ((w.alloc (.cells #[.string (⟨#[]⟩ : ByteArray), .bool false, .bool false, .bool false] 40)).alloc (.cells #[.int .u8 0, .bool false, .slice none 0 0, .int .u32 0] 30)) = W1 at hb1 hg1 hn1 ⊢
  have HB1 := Aside0.mk hb1
  have HG1 := Aside0.mk hg1
  have HN1 := Aside0.mk hn1
  clear hb1 hg1 hn1
  go_upto_region 5 with fail
  refine wp_region_noPanic ?_
  refine wp_region_held_drew (S := fun w' => Aside0 (Below W1.heap.size W1 w')) (by kernel_rfl) (⟨below_drew (Below.refl _ _)⟩) (fun hHeld => ?_)
  refine takeN (i := 0) (N := (some 19)) (v := ?v1) (a' := ?a1) rfl rfl (by kernel_rfl) (by kernel_rfl) (by kernel_rfl) (fun _ _ _ h => h) (Or.inl ⟨by rfl, ?hy1⟩) ?ha1 (by assumption) ?rest1
  case hy1 =>
    intro w_ hSw_
    go_simp
    first | done | (with_reducible rfl)
  case ha1 =>
    simp only [Act.put, List.setIfInBounds_toArray, List.set_cons_zero, List.set_cons_succ]
    rfl
  refine takeN (i := 1) (N := (some 20)) (v := ?v2) (a' := ?a2) rfl rfl (by kernel_rfl) (by kernel_rfl) (by kernel_rfl) (fun _ _ _ h => h) (Or.inl ⟨by rfl, ?hy2⟩) ?ha2 (by assumption) ?rest2
  case hy2 =>
    intro w_ hSw_
    go_simp
    first | done | (with_reducible rfl)
  case ha2 =>
    simp only [Act.put, List.setIfInBounds_toArray, List.set_cons_zero, List.set_cons_succ]
    rfl
  refine takeN (i := 2) (N := (some 21)) (v := ?v3) (a' := ?a3) rfl rfl (by kernel_rfl) (by kernel_rfl) (by kernel_rfl) (fun _ _ _ h => h) (Or.inl ⟨by rfl, ?hy3⟩) ?ha3 (by assumption) ?rest3
  case hy3 =>
    intro w_ hSw_
    go_simp
    first | done | (with_reducible rfl)
  case ha3 =>
    simp only [Act.put, List.setIfInBounds_toArray, List.set_cons_zero, List.set_cons_succ]
    rfl
  refine takeN (i := 3) (N := (some 22)) (v := ?v4) (a' := ?a4) rfl rfl (by kernel_rfl) (by kernel_rfl) (by kernel_rfl) (fun _ _ _ h => h) (Or.inl ⟨by rfl, ?hy4⟩) ?ha4 (by assumption) ?rest4
  case hy4 =>
    intro w_ hSw_
    go_simp
    first | done | (with_reducible rfl)
  case ha4 =>
    simp only [Act.put, List.setIfInBounds_toArray, List.set_cons_zero, List.set_cons_succ]
    rfl
  refine takeN (i := 4) (N := (some 23)) (v := ?v5) (a' := ?a5) rfl rfl (by kernel_rfl) (by kernel_rfl) (by kernel_rfl) (fun _ _ _ h => h) (Or.inl ⟨by rfl, ?hy5⟩) ?ha5 (by assumption) ?rest5
  case hy5 =>
    intro w_ hSw_
    go_simp
    first | done | (with_reducible rfl)
  case ha5 =>
    simp only [Act.put, List.setIfInBounds_toArray, List.set_cons_zero, List.set_cons_succ]
    rfl
  refine takeN (i := 5) (N := (some 24)) (v := ?v6) (a' := ?a6) rfl rfl (by kernel_rfl) (by kernel_rfl) (by kernel_rfl) (fun _ _ _ h => h) (Or.inl ⟨by rfl, ?hy6⟩) ?ha6 (by assumption) ?rest6
  case hy6 =>
    intro w_ hSw_
    go_simp
    first | done | (with_reducible rfl)
  case ha6 =>
    simp only [Act.put, List.setIfInBounds_toArray, List.set_cons_zero, List.set_cons_succ]
    rfl
  refine takeN (i := 6) (N := (some 25)) (v := ?v7) (a' := ?a7) rfl rfl (by kernel_rfl) (by kernel_rfl) (by kernel_rfl) (fun _ _ _ h => h) (Or.inl ⟨by rfl, ?hy7⟩) ?ha7 (by assumption) ?rest7
  case hy7 =>
    intro w_ hSw_
    go_simp
    first | done | (with_reducible rfl)
  case ha7 =>
    simp only [Act.put, List.setIfInBounds_toArray, List.set_cons_zero, List.set_cons_succ]
    rfl
  refine takeN (i := 7) (N := (some 26)) (v := ?v8) (a' := ?a8) rfl rfl (by kernel_rfl) (by kernel_rfl) (by kernel_rfl) (fun _ _ _ h => h) (Or.inl ⟨by rfl, ?hy8⟩) ?ha8 (by assumption) ?rest8
  case hy8 =>
    intro w_ hSw_
    go_simp
    first | done | (with_reducible rfl)
  case ha8 =>
    simp only [Act.put, List.setIfInBounds_toArray, List.set_cons_zero, List.set_cons_succ]
    rfl
  refine takeN (i := 8) (N := (some 5)) (v := ?v9) (a' := ?a9) rfl rfl (by kernel_rfl) (by kernel_rfl) (by kernel_rfl) (fun _ _ _ h => h) (Or.inl ⟨by rfl, ?hy9⟩) ?ha9 (by assumption) ?rest9
  case hy9 =>
    intro w_ hSw_
    go_simp
    first | done | (with_reducible rfl)
  case ha9 =>
    simp only [Act.put, List.setIfInBounds_toArray, List.set_cons_zero, List.set_cons_succ]
    rfl
  refine wpAnyH_done (by kernel_rfl) ?_ _
  refine NoPanic.normal ?_
  have HB2 := Aside0.mk (below_step HB1.out (below_drew (Below.refl _ _)))
  have HG2 := Aside0.mk (blk_drew HG1.out)
  have HN2 := Aside0.mk (blk_drew HN1.out)
  generalize W1.drew = w2 at hHeld HB2 HG2 HN2 ⊢
  clear hHeld HB1 HG1 HN1
  go_wp2_with fail
  refine (louverref18_Told.calls (256 * b0 + b1) true _ (by rw [told_f, ht])).mono ?_
  rintro e w3 ⟨rfl, hdr⟩
  have HB3 := Aside0.mk (below_step HB2.out hdr.below)
  have HG3 := Aside0.mk (blk_below HG2.out hdr.below)
  have HN3 := Aside0.mk (blk_below HN2.out hdr.below)
  clear hdr HB2 HG2 HN2
  go_wp2_with fail
  refine (louverref15_Good.calls (2 * (s.extract 2 s.size).size + 41) (s.extract 2 s.size) _ _ _ (good_f (s.extract 2 s.size) (by rw [ByteArray.size_extract]; omega) _ (Nat.le_refl _))).mono ?_
  rintro e w4 ⟨rfl, hb⟩
  have HB4 := Aside0.mk (below_step HB3.out hb)
  have HG4 := Aside0.mk (blk_below HG3.out hb)
  have HN4 := Aside0.mk (blk_below HN3.out hb)
  rw [hv]
  clear hb HB3 HG3 HN3
  go_wp2_with fail
  have HB4d := Aside0.mk (below_step HB4.out (below_drew (Below.refl _ _)))
  have HG4d := Aside0.mk (blk_drew HG4.out)
  have HN4d := Aside0.mk (blk_drew HN4.out)
  refine wp_region_noPanic ?_
  refine wp_region_held_drew (S := fun w' => Aside0 True) (by kernel_rfl) ⟨trivial⟩ (fun hHeld => ?_)
  refine takeN (i := 0) (N := (some 46)) (v := ?v10) (a' := ?a10) rfl rfl (by kernel_rfl) (by kernel_rfl) (by kernel_rfl) (fun _ _ _ h => h) (Or.inl ⟨by rfl, ?hy10⟩) ?ha10 (by assumption) ?rest10
  case hy10 =>
    intro w_ hSw_
    go_simp
    first | done | (with_reducible rfl)
  case ha10 =>
    simp only [Act.put, List.setIfInBounds_toArray, List.set_cons_zero, List.set_cons_succ]
    rfl
  refine takeN (i := 1) (N := (some 47)) (v := ?v11) (a' := ?a11) rfl rfl (by kernel_rfl) (by kernel_rfl) (by kernel_rfl) (fun _ _ _ h => h) (Or.inl ⟨by rfl, ?hy11⟩) ?ha11 (by assumption) ?rest11
  case hy11 =>
    intro w_ hSw_
    go_simp
    first | done | (with_reducible rfl)
  case ha11 =>
    simp only [Act.put, List.setIfInBounds_toArray, List.set_cons_zero, List.set_cons_succ]
    rfl
  refine takeN (i := 2) (N := (some 48)) (v := ?v12) (a' := ?a12) rfl rfl (by kernel_rfl) (by kernel_rfl) (by kernel_rfl) (fun _ _ _ h => h) (Or.inl ⟨by rfl, ?hy12⟩) ?ha12 (by assumption) ?rest12
  case hy12 =>
    intro w_ hSw_
    go_simp
    first | done | (with_reducible rfl)
  case ha12 =>
    simp only [Act.put, List.setIfInBounds_toArray, List.set_cons_zero, List.set_cons_succ]
    rfl
  refine takeN (i := 3) (N := (some 49)) (v := ?v13) (a' := ?a13) rfl rfl (by kernel_rfl) (by kernel_rfl) (by kernel_rfl) (fun _ _ _ h => h) (Or.inl ⟨by rfl, ?hy13⟩) ?ha13 (by assumption) ?rest13
  case hy13 =>
    intro w_ hSw_
    go_simp
    first | done | (with_reducible rfl)
  case ha13 =>
    simp only [Act.put, List.setIfInBounds_toArray, List.set_cons_zero, List.set_cons_succ]
    rfl
  generalize w4.drew = w4d at HB4d HG4d HN4d ⊢
  clear HB4 HG4 HN4
  refine wpAnyH_ready (rs := [4, 6]) (by kernel_rfl) (by simp) ?_
  refine AllReadyH.cons rfl (fun K hK => ?_) (AllReadyH.cons rfl (fun K hK => ?_) AllReadyH.nil)
  · go_simp
    refine hK.out _ _ ⟨trivial⟩ (fun hHeld => ?_)
    clear hK K
    try simp only [Act.put, List.setIfInBounds_toArray, List.set_cons_zero, List.set_cons_succ]
    have hbb := HCV.out.1 w4d
    have HC5 := Aside0.mk (HCV.out.2.1 w4d)
    have HB5 := Aside0.mk (below_step HB4d.out hbb)
    have HG5 := Aside0.mk (blk_below HG4d.out hbb)
    have HN5 := Aside0.mk (blk_below HN4d.out hbb)
    have HCQ := Aside0.mk (HCV.out.2.2.1 w4d)
    obtain ⟨csq, frq, htq⟩ := HCV.out.2.2.2 w4d
    have HRD5 : Aside0 (Rd B (bw w4d) (some ⟨w4d.heap.size, 0, none⟩) (bs (s.extract 2 s.size))) := ⟨Rd.of_new (HNN.out ▸ HC5.out) htq⟩
    have HQ5 := Aside0.mk (blk_lt HN4d.out)
    generalize bw w4d = w5 at hbb HC5 HRD5 htq HB5 HG5 HN5 ⊢
    generalize capf w4d = cq at HCQ ⊢
    generalize w4d.heap.size = q at HC5 HQ5 HRD5 htq ⊢
    clear hbb htq
    refine takeN (i := 5) (N := (some 51)) (v := ?v14) (a' := ?a14) rfl rfl (by kernel_rfl) (by kernel_rfl) (by kernel_rfl) (fun _ _ _ h => h) (Or.inl ⟨by rfl, ?hy14⟩) ?ha14 (by assumption) ?rest14
    case hy14 =>
      intro w_ hSw_
      go_simp
      first | done | (with_reducible rfl)
    case ha14 =>
      simp only [Act.put, List.setIfInBounds_toArray, List.set_cons_zero, List.set_cons_succ]
      rfl
    have g0 : w5.cell? ⟨w.heap.size, 0, none⟩ = some (.string (⟨#[]⟩ : ByteArray)) := (blk_cell HG5.out 0).trans rfl
    have gf0 := blk_frozen HG5.out 0
    have g1 : w5.cell? ⟨w.heap.size, 1, none⟩ = some (.bool false) := (blk_cell HG5.out 1).trans rfl
    have gf1 := blk_frozen HG5.out 1
    have g2 : w5.cell? ⟨w.heap.size, 2, none⟩ = some (.bool false) := (blk_cell HG5.out 2).trans rfl
    have gf2 := blk_frozen HG5.out 2
    have g3 : w5.cell? ⟨w.heap.size, 3, none⟩ = some (.bool false) := (blk_cell HG5.out 3).trans rfl
    have gf3 := blk_frozen HG5.out 3
    have gl := blk_lt HG5.out
    have n0 : w5.cell? ⟨(w.heap.size + 1), 0, none⟩ = some (.int .u8 0) := (blk_cell HN5.out 0).trans rfl
    have nf0 := blk_frozen HN5.out 0
    have n1 : w5.cell? ⟨(w.heap.size + 1), 1, none⟩ = some (.bool false) := (blk_cell HN5.out 1).trans rfl
    have nf1 := blk_frozen HN5.out 1
    have n2 : w5.cell? ⟨(w.heap.size + 1), 2, none⟩ = some (.slice none 0 0) := (blk_cell HN5.out 2).trans rfl
    have nf2 := blk_frozen HN5.out 2
    have n3 : w5.cell? ⟨(w.heap.size + 1), 3, none⟩ = some (.int .u32 0) := (blk_cell HN5.out 3).trans rfl
    have nf3 := blk_frozen HN5.out 3
    have nl := blk_lt HN5.out
    refine wpAnyH_ready (rs := [6]) (by kernel_rfl) (by simp) ?_
    refine AllReadyH.cons rfl (fun K hK => ?_) AllReadyH.nil
    go_simp
    refine hK.out _ _ ⟨trivial⟩ (fun hHeld => ?_)
    clear hK K
    try simp only [Act.put, List.setIfInBounds_toArray, List.set_cons_zero, List.set_cons_succ]
    refine wpAnyH_ready (rs := [7]) (by kernel_rfl) (by simp) ?_
    refine AllReadyH.cons rfl (fun K hK => ?_) AllReadyH.nil
    go_simp
    refine hK.out _ _ ⟨trivial⟩ (fun hHeld => ?_)
    clear hK K
    try simp only [Act.put, List.setIfInBounds_toArray, List.set_cons_zero, List.set_cons_succ]
    refine takeN (i := 8) (N := (some 4)) (v := ?v15) (a' := ?a15) rfl rfl (by kernel_rfl) (by kernel_rfl) (by kernel_rfl) (fun _ _ _ h => h) (Or.inl ⟨by rfl, ?hy15⟩) ?ha15 (by assumption) ?rest15
    case hy15 =>
      intro w_ hSw_
      go_simp
      first | done | (with_reducible rfl)
    case ha15 =>
      simp only [Act.put, List.setIfInBounds_toArray, List.set_cons_zero, List.set_cons_succ]
      rfl
    refine wpAnyH_done (by kernel_rfl) ?_ _
    refine NoPanic.normal ?_
    go_wp2_with fail
    exact bodyPost_ret (v := .tuple #[.agg #[.string (⟨#[]⟩ : ByteArray), .bool false, .bool false, .bool true], .agg #[.int .u8 4, .bool false, .slice (some ⟨q, 0, none⟩) nn cq, .int .u32 (256 * b0 + b1)], .bool true]) (by simp [results, Tryd.results27, go_sem, show strOfNums [] = (⟨#[]⟩ : ByteArray) from rfl, g0, g1, g2, g3, n0, n1, n2, n3]) rfl ⟨some ⟨q, 0, none⟩, cq, by rw [← HNN.out]; rfl, by rw [← HNN.out]; exact HCQ.out, Rd.off4 (Rd.off4 HRD5.out HG5.out (by decide) hBw) ((heap_sets4 (show w.heap.size + 1 ≠ w.heap.size by omega)).trans HN5.out) (by decide) (Nat.le_succ_of_le hBw), sets4 (sets4 HB5.out hle) hle1⟩
  · have g0 : w4d.cell? ⟨w.heap.size, 0, none⟩ = some (.string (⟨#[]⟩ : ByteArray)) := (blk_cell HG4d.out 0).trans rfl
    have gf0 := blk_frozen HG4d.out 0
    have g1 : w4d.cell? ⟨w.heap.size, 1, none⟩ = some (.bool false) := (blk_cell HG4d.out 1).trans rfl
    have gf1 := blk_frozen HG4d.out 1
    have g2 : w4d.cell? ⟨w.heap.size, 2, none⟩ = some (.bool false) := (blk_cell HG4d.out 2).trans rfl
    have gf2 := blk_frozen HG4d.out 2
    have g3 : w4d.cell? ⟨w.heap.size, 3, none⟩ = some (.bool false) := (blk_cell HG4d.out 3).trans rfl
    have gf3 := blk_frozen HG4d.out 3
    have gl := blk_lt HG4d.out
    go_simp
    refine hK.out _ _ ⟨trivial⟩ (fun hHeld => ?_)
    clear hK K
    try simp only [Act.put, List.setIfInBounds_toArray, List.set_cons_zero, List.set_cons_succ]
    have HB4e := Aside0.mk (show Below w.heap.size w ((((w4d.setCell ⟨w.heap.size, 0, none⟩ (.string (⟨#[]⟩ : ByteArray))).setCell ⟨w.heap.size, 1, none⟩ (.bool false)).setCell ⟨w.heap.size, 2, none⟩ (.bool false)).setCell ⟨w.heap.size, 3, none⟩ (.bool true)) from sets4 HB4d.out hle)
    have HG4e := Aside0.mk (show ((((w4d.setCell ⟨w.heap.size, 0, none⟩ (.string (⟨#[]⟩ : ByteArray))).setCell ⟨w.heap.size, 1, none⟩ (.bool false)).setCell ⟨w.heap.size, 2, none⟩ (.bool false)).setCell ⟨w.heap.size, 3, none⟩ (.bool true)).heap[w.heap.size]? = some (.cells #[.string (⟨#[]⟩ : ByteArray), .bool false, .bool false, .bool true] 40 (0, 0)) from (blk_put (blk_put (blk_put (blk_put HG4d.out 0 (.string (⟨#[]⟩ : ByteArray)) rfl) 1 (.bool false) rfl) 2 (.bool false) rfl) 3 (.bool true) rfl))
    have HN4e := Aside0.mk (show ((((w4d.setCell ⟨w.heap.size, 0, none⟩ (.string (⟨#[]⟩ : ByteArray))).setCell ⟨w.heap.size, 1, none⟩ (.bool false)).setCell ⟨w.heap.size, 2, none⟩ (.bool false)).setCell ⟨w.heap.size, 3, none⟩ (.bool true)).heap[w.heap.size + 1]? = some (.cells #[.int .u8 0, .bool false, .slice none 0 0, .int .u32 0] 30 (0, 0)) from (heap_sets4 (by omega)).trans HN4d.out)
    generalize ((((w4d.setCell ⟨w.heap.size, 0, none⟩ (.string (⟨#[]⟩ : ByteArray))).setCell ⟨w.heap.size, 1, none⟩ (.bool false)).setCell ⟨w.heap.size, 2, none⟩ (.bool false)).setCell ⟨w.heap.size, 3, none⟩ (.bool true)) = w4e at HB4e HG4e HN4e ⊢
    clear g0 gf0 g1 gf1 g2 gf2 g3 gf3 gl
    refine wpAnyH_ready (rs := [4]) (by kernel_rfl) (by simp) ?_
    refine AllReadyH.cons rfl (fun K hK => ?_) AllReadyH.nil
    go_simp
    refine hK.out _ _ ⟨trivial⟩ (fun hHeld => ?_)
    clear hK K
    try simp only [Act.put, List.setIfInBounds_toArray, List.set_cons_zero, List.set_cons_succ]
    have hbb := HCV.out.1 w4e
    have HC5 := Aside0.mk (HCV.out.2.1 w4e)
    have HB5 := Aside0.mk (below_step HB4e.out hbb)
    have HG5 := Aside0.mk (blk_below HG4e.out hbb)
    have HN5 := Aside0.mk (blk_below HN4e.out hbb)
    have HCQ := Aside0.mk (HCV.out.2.2.1 w4e)
    obtain ⟨csq, frq, htq⟩ := HCV.out.2.2.2 w4e
    have HRD5 : Aside0 (Rd B (bw w4e) (some ⟨w4e.heap.size, 0, none⟩) (bs (s.extract 2 s.size))) := ⟨Rd.of_new (HNN.out ▸ HC5.out) htq⟩
    have HQ5 := Aside0.mk (blk_lt HN4e.out)
    generalize bw w4e = w5 at hbb HC5 HRD5 htq HB5 HG5 HN5 ⊢
    generalize capf w4e = cq at HCQ ⊢
    generalize w4e.heap.size = q at HC5 HQ5 HRD5 htq ⊢
    clear hbb htq
    refine takeN (i := 5) (N := (some 51)) (v := ?v16) (a' := ?a16) rfl rfl (by kernel_rfl) (by kernel_rfl) (by kernel_rfl) (fun _ _ _ h => h) (Or.inl ⟨by rfl, ?hy16⟩) ?ha16 (by assumption) ?rest16
    case hy16 =>
      intro w_ hSw_
      go_simp
      first | done | (with_reducible rfl)
    case ha16 =>
      simp only [Act.put, List.setIfInBounds_toArray, List.set_cons_zero, List.set_cons_succ]
      rfl
    have g0 : w5.cell? ⟨w.heap.size, 0, none⟩ = some (.string (⟨#[]⟩ : ByteArray)) := (blk_cell HG5.out 0).trans rfl
    have gf0 := blk_frozen HG5.out 0
    have g1 : w5.cell? ⟨w.heap.size, 1, none⟩ = some (.bool false) := (blk_cell HG5.out 1).trans rfl
    have gf1 := blk_frozen HG5.out 1
    have g2 : w5.cell? ⟨w.heap.size, 2, none⟩ = some (.bool false) := (blk_cell HG5.out 2).trans rfl
    have gf2 := blk_frozen HG5.out 2
    have g3 : w5.cell? ⟨w.heap.size, 3, none⟩ = some (.bool true) := (blk_cell HG5.out 3).trans rfl
    have gf3 := blk_frozen HG5.out 3
    have gl := blk_lt HG5.out
    have n0 : w5.cell? ⟨(w.heap.size + 1), 0, none⟩ = some (.int .u8 0) := (blk_cell HN5.out 0).trans rfl
    have nf0 := blk_frozen HN5.out 0
    have n1 : w5.cell? ⟨(w.heap.size + 1), 1, none⟩ = some (.bool false) := (blk_cell HN5.out 1).trans rfl
    have nf1 := blk_frozen HN5.out 1
    have n2 : w5.cell? ⟨(w.heap.size + 1), 2, none⟩ = some (.slice none 0 0) := (blk_cell HN5.out 2).trans rfl
    have nf2 := blk_frozen HN5.out 2
    have n3 : w5.cell? ⟨(w.heap.size + 1), 3, none⟩ = some (.int .u32 0) := (blk_cell HN5.out 3).trans rfl
    have nf3 := blk_frozen HN5.out 3
    have nl := blk_lt HN5.out
    refine wpAnyH_ready (rs := [7]) (by kernel_rfl) (by simp) ?_
    refine AllReadyH.cons rfl (fun K hK => ?_) AllReadyH.nil
    go_simp
    refine hK.out _ _ ⟨trivial⟩ (fun hHeld => ?_)
    clear hK K
    try simp only [Act.put, List.setIfInBounds_toArray, List.set_cons_zero, List.set_cons_succ]
    refine takeN (i := 8) (N := (some 4)) (v := ?v17) (a' := ?a17) rfl rfl (by kernel_rfl) (by kernel_rfl) (by kernel_rfl) (fun _ _ _ h => h) (Or.inl ⟨by rfl, ?hy17⟩) ?ha17 (by assumption) ?rest17
    case hy17 =>
      intro w_ hSw_
      go_simp
      first | done | (with_reducible rfl)
    case ha17 =>
      simp only [Act.put, List.setIfInBounds_toArray, List.set_cons_zero, List.set_cons_succ]
      rfl
    refine wpAnyH_done (by kernel_rfl) ?_ _
    refine NoPanic.normal ?_
    go_wp2_with fail
    exact bodyPost_ret (v := .tuple #[.agg #[.string (⟨#[]⟩ : ByteArray), .bool false, .bool false, .bool true], .agg #[.int .u8 4, .bool false, .slice (some ⟨q, 0, none⟩) nn cq, .int .u32 (256 * b0 + b1)], .bool true]) (by simp [results, Tryd.results27, go_sem, show strOfNums [] = (⟨#[]⟩ : ByteArray) from rfl, g0, g1, g2, g3, n0, n1, n2, n3]) rfl ⟨some ⟨q, 0, none⟩, cq, by rw [← HNN.out]; rfl, by rw [← HNN.out]; exact HCQ.out, Rd.off4 (HRD5.out) HN5.out (by decide) (Nat.le_succ_of_le hBw), sets4 HB5.out hle1⟩
theorem ref_closes (B : Nat) (d : List Int) (hd : ∀ x ∈ d, 0 ≤ x ∧ x ≤ 255) (hl : d.length ≤ 140737488351232) (w : World) (hBw : B ≤ w.heap.size) : Calls Tryd.prog 27 #[.string (strOfNums d)] w (RefPost B [] false false true (closeM d).1 false (closeM d).2.1 (closeM d).2.2 true w) := by
  have hb := bs_str d hd
  have hz : (strOfNums d).size = d.length := by rw [← bs_length, hb]
  match d, hd, hl, hb, hz with
  | [], _, _, hb, _ => exact ref_closes_nil B _ w hb
  | [x], _, _, _, hz => exact ref_closes_one B _ w hz
  | a :: b :: r, hd, hl, hb, hz =>
    have h0 : bt (strOfNums (a :: b :: r)) 0 = a := by rw [← rd_bytesOf, show bytesOf (strOfNums (a :: b :: r)) = a :: b :: r from hb]; rfl
    have h1 : bt (strOfNums (a :: b :: r)) 1 = b := by rw [← rd_bytesOf, show bytesOf (strOfNums (a :: b :: r)) = a :: b :: r from hb]; rfl
    have h2 : 2 ≤ (strOfNums (a :: b :: r)).size := by rw [hz]; simp
    have hx : bs ((strOfNums (a :: b :: r)).extract 2 (strOfNums (a :: b :: r)).size) = r := by
      rw [bs_extract, hb, hz]
      simp
    cases ht : toldB (256 * a + b) with
    | false =>
      have hc : closeM (a :: b :: r) = (5, [], 1002) := by show (if toldB (256 * a + b) = true then _ else _) = _; rw [ht]; rfl
      rw [hc]
      exact ref_closes_code B _ w a b h0 h1 h2 ht
    | true =>
      cases hv : validC r with
      | false =>
        have hc : closeM (a :: b :: r) = (5, [], 1007) := by show (if toldB (256 * a + b) = true then (if validC r = true then _ else _) else _) = _; rw [ht, hv]; rfl
        rw [hc]
        exact ref_closes_text B _ w a b h0 h1 h2 (by rw [hz]; exact hl) ht (by rw [hx]; exact hv)
      | true =>
        have hc : closeM (a :: b :: r) = (4, r, 256 * a + b) := by show (if toldB (256 * a + b) = true then (if validC r = true then _ else _) else _) = _; rw [ht, hv]; rfl
        rw [hc]
        have h := ref_closes_ok B _ w a b h0 h1 h2 hBw (by rw [hz]; exact hl) ht (by rw [hx]; exact hv)
        rw [hx] at h
        exact h
end Go.Proofs.YtbjjobifpmjhhaaDoor

