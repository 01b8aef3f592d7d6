/- The document's answer for texts (printed) is the machine's: the walk over letters. -/
import Derived.Test.YtbjjobifpmjhhaaDoorGood2
namespace Go.Proofs.YtbjjobifpmjhhaaDoor.U
open Go.RowKit Go.Proofs.YtbjjobifpmjhhaaDoorW.PrintWords Go.Proofs.YtbjjobifpmjhhaaDoorW.PrintLast Go.Proofs.YtbjjobifpmjhhaaDoor.PAll
set_option linter.unusedVariables false

theorem oneC_s0 (x : Int) : oneC s0 x = firstC x := if_pos rfl
theorem sizeC_le (b : Int) : sizeC b ≤ 4 := by unfold sizeC; repeat' split
                                               all_goals omega
theorem feed_one (s : St) (b : Int) (h : (feedC s [b]).2.2 = false) : (oneC s b).1 = true ∧ (feedC s [b]).2.1 = (oneC s b).2 := by
  by_cases c : (oneC s b).1 = true
  · rw [feedC_pos c]; exact ⟨c, rfl⟩
  · rw [feedC_neg c] at h; simp at h
theorem feed_cons (s : St) (b : Int) (r : List Int) (h : (feedC s (b :: r)).2.2 = false) : (oneC s b).1 = true ∧ (feedC (oneC s b).2 r).2.2 = false ∧ (feedC s (b :: r)).2.1 = (feedC (oneC s b).2 r).2.1 := by
  by_cases c : (oneC s b).1 = true
  · rw [feedC_pos c] at h ⊢; exact ⟨c, h, rfl⟩
  · rw [feedC_neg c] at h; simp at h
theorem first_more {b : Int} (h : (firstC b).1 = true) (hm : (firstC b).2.1 ≠ 0) (h0 : 0 ≤ b) : 194 ≤ b ∧ b < 245 := by
  by_cases c : b < 128
  · rw [first_1 c] at hm; exact absurd rfl hm
  · by_cases d : (128 ≤ b ∧ b < 194) ∨ 245 ≤ b
    · rw [first_0 d] at h; simp at h
    · omega
theorem begins_step (p : List Int) (x : Int) (hp : (feedC s0 p).2.2 = false) (hb : ∀ y ∈ p ++ [x], 0 ≤ y ∧ y ≤ 255)
    (hm : ∀ b r, p = b :: r → (feedC s0 p).2.1.1 ≠ 0 ∧ (feedC s0 p).2.1.1 + p.length = (sizeC b : Int)) : ∀ b r, p ++ [x] = b :: r → Same (p ++ [x]) b (feedC s0 p).2.1 x := by
  have hx := hb x (by simp)
  match p, hp, hb, hm with
  | [], _, _, _ =>
    intro b r e
    obtain ⟨rfl, rfl⟩ : x = b ∧ [] = r := by simpa using e
    have := begins1 x hx.1 hx.2
    unfold Same
    rw [show (feedC s0 []).2.1 = s0 from rfl, oneC_s0]
    exact ⟨this.1, fun q => by simpa using this.2 q⟩
  | [b0], hp, hb, hm =>
    intro b r e
    obtain ⟨rfl, _⟩ : b0 = b ∧ [x] = r := by simpa using e
    obtain ⟨o1, e1⟩ := feed_one s0 b0 hp
    rw [oneC_s0] at o1 e1
    have m1 := hm b0 [] rfl
    rw [e1] at m1 ⊢
    exact begins2 b0 x (first_more o1 m1.1 (hb b0 (by simp)).1) hx.1 hx.2
  | [b0, b1], hp, hb, hm =>
    intro b r e
    obtain ⟨rfl, _⟩ : b0 = b ∧ [b1, x] = r := by simpa using e
    obtain ⟨o1, h1, e1⟩ := feed_cons s0 b0 [b1] hp
    obtain ⟨o2, e2⟩ := feed_one _ b1 h1
    rw [oneC_s0] at o1 o2 e1 e2
    have m1 := hm b0 [b1] rfl
    rw [e1, e2] at m1 ⊢
    have b0b := (hb b0 (by simp)).1
    have hmore : (firstC b0).2.1 ≠ 0 := by
      intro z
      by_cases c : b0 < 128
      · rw [sizeC_1 c] at m1
        have := oneC_ok (firstC_ok b0) b1
        unfold okS at this
        simp only [List.length_cons, List.length_nil] at m1
        omega
      · by_cases d : (128 ≤ b0 ∧ b0 < 194) ∨ 245 ≤ b0
        · rw [first_0 d] at o1; simp at o1
        · by_cases f : b0 < 224
          · rw [first_2 ⟨by omega, by omega⟩] at z; exact absurd z (by decide)
          · by_cases g : b0 < 240
            · rw [first_3 ⟨by omega, g⟩] at z; exact absurd z (show ¬ (2 : Int) = 0 by decide)
            · rw [first_4 ⟨by omega, by omega⟩] at z; exact absurd z (show ¬ (3 : Int) = 0 by decide)
    have hr := first_more o1 hmore b0b
    have h224 : 224 ≤ b0 := by
      by_cases f : b0 < 224
      · rw [first_2 ⟨by omega, by omega⟩] at m1 o2
        by_cases c : 128 ≤ b1 ∧ b1 ≤ 191
        · rw [one_in (by decide) c] at m1; exact absurd rfl m1.1
        · rw [one_out (by decide) (by omega)] at o2; simp at o2
      · omega
    exact begins3 b0 b1 x ⟨h224, hr.2⟩ o2 hx.1 hx.2
  | [b0, b1, b2], hp, hb, hm =>
    intro b r e
    obtain ⟨rfl, _⟩ : b0 = b ∧ [b1, b2, x] = r := by simpa using e
    obtain ⟨o1, h1, e1⟩ := feed_cons s0 b0 [b1, b2] hp
    obtain ⟨o2, h2, e2⟩ := feed_cons _ b1 [b2] h1
    obtain ⟨o3, e3⟩ := feed_one _ b2 h2
    rw [oneC_s0] at o1 o2 o3 e1 e2 e3
    have m1 := hm b0 [b1, b2] rfl
    rw [e1, e2, e3] at m1 ⊢
    have hok := oneC_ok (oneC_ok (firstC_ok b0) b1) b2
    have hs4 : sizeC b0 = 4 := by
      have := sizeC_le b0
      unfold okS at hok
      simp only [List.length_cons, List.length_nil] at m1
      omega
    have h240 : 240 ≤ b0 ∧ b0 < 248 := by
      unfold sizeC at hs4
      split at hs4
      · omega
      · split at hs4
        · omega
        · split at hs4
          · omega
          · split at hs4 <;> omega
    have h245 : b0 < 245 := by
      by_cases d : 245 ≤ b0
      · rw [first_0 (.inr d)] at o1; simp at o1
      · omega
    exact begins4 b0 b1 b2 x ⟨h240.1, h245⟩ o2 o3 hx.1 hx.2
  | b0 :: b1 :: b2 :: b3 :: q, hp, hb, hm =>
    have m1 := hm b0 _ rfl
    have hok := feedC_ok (s := s0) (by unfold okS s0; decide) (b0 :: b1 :: b2 :: b3 :: q)
    have := sizeC_le b0
    unfold okS at hok
    simp only [List.length_cons] at m1
    omega

theorem w_add (a b : Nat) (h : a + b ≤ 1000000000000000000) : wrap64 ((a : Int) + (b : Int)) = ((a + b : Nat) : Int) := by unfold wrap64; omega
theorem w_sub1 (a : Nat) (h0 : 1 ≤ a) (h : a ≤ 1000000000000000000) : wrap64 ((a : Int) - 1) = ((a - 1 : Nat) : Int) := by unfold wrap64; omega
/-- What is told from byte 'pos' on, in state st. -/
def resC (pos : Nat) (st : St) (rest : List Int) : Option (Int × Bool) := some (((pos + (feedC st rest).1 : Nat) : Int), !(feedC st rest).2.2 && (feedC st rest).2.1.1 == 0)
theorem good_loops (s : ByteArray) (hs : s.size ≤ 140737488351232) (d : Nat) :
    (∀ pos k : Nat, s.size - pos = d → pos ≤ s.size → 2 * d + 41 ≤ k → louverref15_Good.l0 k s (pos : Int) = resC pos s0 ((bs s).drop pos)) ∧
    (∀ at_ n k : Nat, s.size - (at_ + n - 1) = d → 1 ≤ n → at_ + n ≤ s.size → 2 * d + 40 ≤ k → (feedC s0 (((bs s).drop at_).take (n - 1))).2.2 = false →
      (∀ b r, ((bs s).drop at_).take (n - 1) = b :: r → (feedC s0 (((bs s).drop at_).take (n - 1))).2.1.1 ≠ 0 ∧ (feedC s0 (((bs s).drop at_).take (n - 1))).2.1.1 + (n - 1 : Nat) = (sizeC b : Int)) →
      louverref15_Good.l1 k s (at_ : Int) (n : Int) = resC (at_ + n - 1) (feedC s0 (((bs s).drop at_).take (n - 1))).2.1 ((bs s).drop (at_ + n - 1))) := by
  have hl := bs_length s
  induction d with
  | zero =>
    constructor
    · intro pos k hd hp hk
      obtain ⟨k, rfl⟩ : ∃ m, k = m + 1 := ⟨k - 1, by omega⟩
      obtain rfl : pos = s.size := by omega
      have q : ¬ (s.size : Int) < (s.size : Int) := by omega
      rw [louverref15_Good.l0, if_neg q, List.drop_eq_nil_of_le (by omega)]
      rfl
    · intro at_ n k hd hn hp; omega
  | succ d ih =>
    have B : ∀ at_ n k : Nat, s.size - (at_ + n - 1) = d + 1 → 1 ≤ n → at_ + n ≤ s.size → 2 * (d + 1) + 40 ≤ k → (feedC s0 (((bs s).drop at_).take (n - 1))).2.2 = false →
        (∀ b r, ((bs s).drop at_).take (n - 1) = b :: r → (feedC s0 (((bs s).drop at_).take (n - 1))).2.1.1 ≠ 0 ∧ (feedC s0 (((bs s).drop at_).take (n - 1))).2.1.1 + (n - 1 : Nat) = (sizeC b : Int)) →
        louverref15_Good.l1 k s (at_ : Int) (n : Int) = resC (at_ + n - 1) (feedC s0 (((bs s).drop at_).take (n - 1))).2.1 ((bs s).drop (at_ + n - 1)) := by
      intro at_ n k hd hn hp hk hgood hm
      obtain ⟨k, rfl⟩ : ∃ m, k = m + 1 := ⟨k - 1, by omega⟩
      have hpos : at_ + n - 1 < (bs s).length := by omega
      obtain ⟨pos, epos⟩ : ∃ pos, pos = at_ + n - 1 := ⟨_, rfl⟩
      have hsplit : ((bs s).drop at_).take n = ((bs s).drop at_).take (n - 1) ++ [(bs s)[at_ + n - 1]] := by
        have e : n = (n - 1) + 1 := by omega
        have hlt : n - 1 < ((bs s).drop at_).length := by rw [List.length_drop]; omega
        conv => lhs; rw [e]
        rw [List.take_succ_eq_append_getElem hlt]
        congr 2
        rw [List.getElem_drop]
        congr 1
        omega
      have hdrop : (bs s).drop (at_ + n - 1) = (bs s)[at_ + n - 1] :: (bs s).drop (at_ + n) := by
        rw [(List.getElem_cons_drop hpos).symm, show at_ + n - 1 + 1 = at_ + n by omega]
      have hbytes : ∀ y ∈ ((bs s).drop at_).take (n - 1) ++ [(bs s)[at_ + n - 1]], 0 ≤ y ∧ y ≤ 255 := by
        rw [← hsplit]
        exact fun y hy => bs_byte s y (List.drop_subset _ _ (List.take_subset _ _ hy))
      have hlenp : (((bs s).drop at_).take (n - 1)).length = n - 1 := by rw [List.length_take, List.length_drop]; omega
      have hat : at_ < (bs s).length := by omega
      have hhead : ∃ r, ((bs s).drop at_).take n = (bs s)[at_] :: r := by
        rw [(List.getElem_cons_drop hat).symm]
        obtain ⟨m, rfl⟩ : ∃ m, n = m + 1 := ⟨n - 1, by omega⟩
        exact ⟨_, List.take_succ_cons⟩
      obtain ⟨r, hr⟩ := hhead
      have key := begins_step _ _ hgood hbytes (fun b r e => by rw [hlenp]; exact hm b r e) (bs s)[at_] r (by rw [← hsplit]; exact hr)
      have hsz : (s.extract at_ (at_ + n)).size = n := by rw [← bs_length, bs_extract, List.length_take, List.length_drop]; omega
      have hbe := begins_f (s.extract at_ (at_ + n)) (by omega) k (by omega)
      rw [bs_extract, show at_ + n - at_ = n by omega, hsplit] at hbe
      have hbt := bt_bs s at_ hat
      obtain ⟨IA, IB⟩ := ih
      have IA' := IA (at_ + n) k (by omega) (by omega) (by omega)
      have q0 : 0 ≤ (at_ : Int) := by omega
      have q1 : (at_ : Int) ≤ ((at_ + n : Nat) : Int) := by omega
      have q2 : ((at_ + n : Nat) : Int) ≤ (s.size : Int) := by omega
      have q3 : (at_ : Int) < (s.size : Int) := by omega
      have hcase : at_ + n = s.size ∨ at_ + n < s.size := by omega
      have hsize2 : at_ + n = s.size → (bs s).drop (at_ + n) = [] := fun h => List.drop_eq_nil_of_le (by omega)
      have hne2 : at_ + n < s.size → (bs s).drop (at_ + n) ≠ [] := by
        intro h e
        have := congrArg List.length e
        rw [List.length_drop] at this
        simp at this
        omega
      have b1 : at_ + n ≤ 1000000000000000000 := by omega
      have b2 : 1 ≤ at_ + n := by omega
      have b3 : n ≤ 1000000000000000000 := by omega
      have b4 : 3 ≤ k := by omega
      have IB' := fun h1 h2 => IB at_ (n + 1) k (by omega) (by omega) (show at_ + (n + 1) ≤ s.size from h1) (by omega) h2
      have hn1 : n + 1 - 1 = n := by omega
      have hpn : at_ + (n + 1) - 1 = at_ + n := by omega
      have hcast : ∀ m : Nat, ((n : Int) = (m : Int)) ↔ n = m := fun m => by omega
      have hcast2 : (((at_ + n : Nat) : Int) = (s.size : Int)) ↔ at_ + n = s.size := by omega
      have hpl : ∀ m : Nat, at_ + n - 1 + (m + 1) = at_ + n + m := fun m => by omega
      have hlen1 : (n - 1) + 1 = n := by omega
      clear IA IB hk hd
      rw [louverref15_Good.l1]
      simp only [w_add at_ n b1, Int.toNat_natCast]
      rw [if_pos q0, if_pos q1, if_pos q2, hbe]
      simp only [Option.bind_some]
      rw [key.1, hdrop]
      clear hbe q0 q1 q2
      generalize hst : (feedC s0 (((bs s).drop at_).take (n - 1))).2.1 = st at *
      generalize hx : (bs s)[at_ + n - 1] = x at *
      by_cases c : (oneC st x).1 = true
      · rw [if_pos c, if_pos q3, hbt, size_f k b4]
        simp only [Option.bind_some]
        have hm2 := key.2 c
        have hlen2 : (((bs s).drop at_).take (n - 1) ++ [x]).length = n := by rw [List.length_append, hlenp]; exact hlen1
        rw [hlen2] at hm2
        have hfeed : resC (at_ + n - 1) st (x :: (bs s).drop (at_ + n)) = resC (at_ + n) (oneC st x).2 ((bs s).drop (at_ + n)) := by
          unfold resC
          rw [feedC_pos c, hpl]
        rw [hfeed]
        by_cases z : n = sizeC (bs s)[at_]
        · rw [if_pos ((hcast _).2 z), IA']
          have z0 : (oneC st x).2.1 = 0 := by
            rw [← z] at hm2
            clear hbt
            omega
          rcases hcase with h | h
          · rw [hsize2 h]
            unfold resC
            simp [feedC, z0, s0]
          · unfold resC
            rw [feedC_zero z0 (hne2 h)]
        · have znz : ¬ (oneC st x).2.1 = 0 := by
            intro e
            rw [e] at hm2
            exact z ((hcast _).1 (by rw [← hm2]; exact (Int.zero_add _).symm))
          rw [if_neg (fun e => z ((hcast _).1 e))]
          rcases hcase with h | h
          · rw [if_pos (hcast2.2 h), hsize2 h]
            unfold resC
            simp [feedC, znz, h]
          · rw [if_neg (fun e => Nat.ne_of_lt h (hcast2.1 e)), step_i b3]
            have hst2 : (feedC s0 (((bs s).drop at_).take (n + 1 - 1))).2.1 = (oneC st x).2 ∧ (feedC s0 (((bs s).drop at_).take (n + 1 - 1))).2.2 = false := by
              rw [hn1, hsplit, feedC_append_good hgood, hst, feedC_pos c]
              exact ⟨rfl, rfl⟩
            have L := IB' h hst2.2 (fun b r2 e => by
              rw [hn1, hr] at e
              injection e with e1 _
              rw [hst2.1, ← e1, hn1]
              exact ⟨znz, hm2⟩)
            rw [hst2.1, hpn] at L
            exact L
      · rw [if_neg c, w_sub1 (at_ + n) b2 b1]
        unfold resC
        rw [feedC_neg c]
        simp
    refine ⟨?_, B⟩
    intro pos k hd hp hk
    obtain ⟨k, rfl⟩ : ∃ m, k = m + 1 := ⟨k - 1, by omega⟩
    have q : (pos : Int) < (s.size : Int) := by omega
    have L := B pos 1 k (by omega) (by omega) (by omega) (by omega) rfl (by intro b r e; exact absurd e (by simp))
    rw [louverref15_Good.l0, if_pos q, show (1 : Int) = ((1 : Nat) : Int) from rfl, L]
    rfl
/-- The document's answer. -/
theorem good_f (s : ByteArray) (hs : s.size ≤ 140737488351232) (k : Nat) (hk : 2 * s.size + 41 ≤ k) : louverref15_Good.f k s = some (((feedC s0 (bs s)).1 : Int), validC (bs s)) := by
  unfold louverref15_Good.f
  have := (good_loops s hs s.size).1 0 k (by omega) (by omega) hk
  rw [show ((0 : Nat) : Int) = 0 from rfl] at this
  rw [this]
  unfold resC validC
  simp
end Go.Proofs.YtbjjobifpmjhhaaDoor.U
