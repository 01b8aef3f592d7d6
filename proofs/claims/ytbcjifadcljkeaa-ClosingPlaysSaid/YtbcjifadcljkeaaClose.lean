import Derived.Test.YtbcjifadcljkeaaPAllx4
import Derived.Test.YtbcjifadcljkeaaPAllx2
namespace Go.Proofs.Ytbcjifadcljkeaa.PAll
open Go.RowKit Go.Proofs.YtbcjifadcljkeaaW.PrintWords Go.Proofs.YtbcjifadcljkeaaW.PrintLast Go.Proofs.YtbcjifadcljkeaaW.PrintMore
set_option linter.unusedVariables false
/-! What a door does, in plain words: a door that is not at its end yet is one that has sent a close, or hasn't. -/
def dataE (c : Int) : List Int := if toldB c = true then [(c / 256) % 256, c % 256] else []
theorem bytes_none : bytesOf (⟨#[]⟩ : ByteArray) = [] := by rfl
theorem whole_empty (m : Nat) : message_whole.f (m + 1) (⟨#[]⟩ : ByteArray) 123 = some ByteArray.empty := by rfl
theorem close_empty (m : Nat) (c : Int) : message_Close.f (m + 1) c (⟨#[]⟩ : ByteArray) = some (true, 8, false, 0, dataE c) := by
  unfold message_Close.f
  rw [show message_Told.f c = some (toldB c) from rfl, Option.bind_some, whole_empty]
  unfold dataE
  by_cases h : toldB c = true
  · rw [if_pos h, if_pos h]
    rfl
  · rw [if_neg h, if_neg h]
/-- What a close of a code and a reason bears, by so many rounds. -/
def Bears (k : Nat) (c : Int) (s : ByteArray) (d : List Int) : Prop := message_Close.f k c s = some (true, 8, false, 0, d)
theorem bears_empty (m : Nat) (c : Int) : Bears (m + 1) c (⟨#[]⟩ : ByteArray) (dataE c) := close_empty m c
theorem send_yes {k : Nat} {a : Int} {s : ByteArray} {d : List Int} (h : Bears k a s d) (s1 : Bool) (c e ec : Int) : closing_Door_send.f k false s1 c e ec a s = some (true, 8, false, 0, d, true, true, s1, c, e, ec) := by
  unfold closing_Door_send.f
  rw [show message_Close.f k a s = _ from h]
  rfl
theorem send_no (k : Nat) (a : Int) (s : ByteArray) (s1 : Bool) (c e ec : Int) : closing_Door_send.f k true s1 c e ec a s = some (false, 0, false, 0, [], false, true, s1, c, e, ec) := rfl
theorem through_f (s0 s1 : Bool) (c e ec : Int) : closing_Door_Through.f s0 s1 c e ec = some ((e != 0), s0, s1, c, e, ec) := rfl
section
variable {s0 s1 : Bool} {c e ec : Int} (he : e ≠ 0)
include he
theorem late_close (k : Nat) (a : Int) (s : ByteArray) : closing_Door_Close.f k s0 s1 c e ec a s = some (false, 0, false, 0, [], false, s0, s1, c, e, ec) := by
  unfold closing_Door_Close.f
  simp [through_f, he]
theorem late_got (k : Nat) (a : Int) : closing_Door_Got.f k s0 s1 c e ec a = some (false, 0, false, 0, [], false, s0, s1, c, e, ec) := by
  unfold closing_Door_Got.f
  simp [through_f, he]
theorem late_bad (k : Nat) (a : Int) : closing_Door_Bad.f k s0 s1 c e ec a = some (false, 0, false, 0, [], false, s0, s1, c, e, ec) := by
  unfold closing_Door_Bad.f
  simp [through_f, he]
theorem late_cut : closing_Door_Cut.f s0 s1 c e ec = some (s0, s1, c, e, ec) := by
  unfold closing_Door_Cut.f
  simp [through_f, he]
end
theorem close_first {k : Nat} {a : Int} {s : ByteArray} {d : List Int} (h : Bears k a s d) : closing_Door_Close.f k false false 0 0 0 a s = some (true, 8, false, 0, d, true, true, false, 0, 0, 0) := by
  unfold closing_Door_Close.f
  simp [through_f, send_yes h, closing_Door_ends.f]
theorem close_again (k : Nat) (a : Int) (s : ByteArray) : closing_Door_Close.f k true false 0 0 0 a s = some (false, 0, false, 0, [], false, true, false, 0, 0, 0) := by
  unfold closing_Door_Close.f
  simp [through_f, send_no, closing_Door_ends.f]
theorem got_first {k : Nat} {a : Int} {d : List Int} (h : Bears k a (⟨#[]⟩ : ByteArray) d) : closing_Door_Got.f k false false 0 0 0 a = some (true, 8, false, 0, d, true, true, true, a, 1, a) := by
  unfold closing_Door_Got.f
  simp [through_f, send_yes h, closing_Door_ends.f]
theorem got_again (k : Nat) (a : Int) : closing_Door_Got.f k true false 0 0 0 a = some (false, 0, false, 0, [], false, true, true, a, 1, a) := by
  unfold closing_Door_Got.f
  simp [through_f, send_no, closing_Door_ends.f]
theorem bad_first {k : Nat} {a : Int} {d : List Int} (h : Bears k a (⟨#[]⟩ : ByteArray) d) : closing_Door_Bad.f k false false 0 0 0 a = some (true, 8, false, 0, d, true, true, false, 0, 2, a) := by
  unfold closing_Door_Bad.f
  simp [through_f, send_yes h]
theorem bad_again (k : Nat) (a : Int) : closing_Door_Bad.f k true false 0 0 0 a = some (false, 0, false, 0, [], false, true, false, 0, 2, a) := by
  unfold closing_Door_Bad.f
  simp [through_f, send_no]
theorem cut_first (s : Bool) : closing_Door_Cut.f s false 0 0 0 = some (s, false, 0, 3, 1006) := rfl
end Go.Proofs.Ytbcjifadcljkeaa.PAll
