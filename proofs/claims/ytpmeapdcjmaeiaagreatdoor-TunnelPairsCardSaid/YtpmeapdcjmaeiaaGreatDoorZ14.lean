/- What the law's row rests on, part 14. -/
import Derived.Test.YtpmeapdcjmaeiaaGreatDoorZ13
import Derived.ProofKit
import Derived.SizedLaws
set_option linter.unusedVariables false
set_option linter.unusedSimpArgs false
set_option maxRecDepth 100000
set_option maxHeartbeats 16000000
namespace Go.Proofs.YtpmeapdcjmaeiaaGreatDoor.Op
open Go.RowKit Go.Wa
def Opener (P : Program) (W : World) (t : TypeId) {α : Type} (d : Kd α) (ok : α → Prop) : Prop :=
 ∀ {H : Type} (enc : TypeId × Value → H) (base : Nat) (spare : Nat → Bool) (held : Bool) (fuel : Nat) (cs : List Value) (x : DataW H × List MemPlace),
  DataW.trod enc P W base spare held fuel t cs = some x → (∀ z ∈ DataW.weights P t x.1, z ≤ reachBytes) → ∃ a : α, d.K W a cs ∧ ok a
section
variable {P : Program} {W : World} {t : TypeId}
theorem Opener.int {k : IntKind} (ht : P.underlying t = some (.int k)) : Opener P W t (Kd.int k) (fun n => (Lit.int k n).wf = true) := by
 intro H enc base spare held fuel cs x h _
 obtain ⟨n, rfl, _, hw⟩ := DataW.trod_int ht h
 exact ⟨n, rfl, hw⟩
theorem list_of {α : Type} {Q : Nat → α → Prop} (n : Nat) (h : ∀ i, i < n → ∃ x, Q i x) : ∃ xs : List α, xs.length = n ∧ ∀ i x, xs[i]? = some x → Q i x := by
 induction n with
 | zero => exact ⟨[], rfl, fun i x h => by simp at h⟩
 | succ n ih =>
  obtain ⟨xs, hl, hx⟩ := ih (fun i hi => h i (by omega))
  obtain ⟨y, hy⟩ := h n (by omega)
  refine ⟨xs ++ [y], by simp [hl], fun i x hi => ?_⟩
  rcases Nat.lt_or_ge i n with hlt | hge
  ·rw [List.getElem?_append_left (by omega)] at hi
   exact hx i x hi
  ·have hlt2 := (List.getElem?_eq_some_iff.1 hi).1
   simp [hl] at hlt2
   obtain rfl : i = n := by omega
   rw [List.getElem?_append_right (by omega)] at hi
   simp [hl] at hi
   subst hi
   exact hy
theorem cells_some {base : Nat} {a : Addr} {n : Nat} {cs : List Value} (h : W.cells? base a n = some cs) : cs.length = n ∧ ∀ i u, cs[i]? = some u → W.cell? (a.add i) = some u := by
 unfold World.cells? at h
 split at h
 ·have hl := mapM_some_length h
  refine ⟨by simpa using hl, fun i u hu => ?_⟩
  have hi : i < n := by
   have := (List.getElem?_eq_some_iff.1 hu).1
   simp at hl
   omega
  have := mapM_some_get h i i (by simp [hi])
  rw [this, hu]
 ·cases h
theorem weightsAll_mem {H : Type} {e : TypeId} : ∀ {ds : List (DataW H)} {i : Nat} {d : DataW H}, ds[i]? = some d → ∀ z ∈ DataW.weights P e d, z ∈ DataW.weightsAll P e ds
 | d0 :: ds, 0, d, h, z, hz => by
  simp at h
  subst h
  simp only [DataW.weightsAll, List.mem_append]
  exact .inl hz
 | d0 :: ds, i + 1, d, h, z, hz => by
  simp at h
  simp only [DataW.weightsAll, List.mem_append]
  exact .inr (weightsAll_mem h z hz)
theorem Opener.slice {e : TypeId} {α : Type} {d : Kd α} {ok : α → Prop} (ht : P.underlying t = some (.slice e)) (hsz : P.cellsOf e = d.sz) {B : Nat} (hB : P.bytesOf e = B) (h : Opener P W e d ok) :
  Opener P W t (Kd.slice e d) (fun xs => (∀ x ∈ xs, ok x) ∧ xs.length * B ≤ 140737488351232 ∧ xs.length ≤ 9223372036854775807) := by
 intro H enc base spare held fuel cs x hx hw
 rcases DataW.trod_slice ht hx with ⟨rfl, rfl⟩ | ⟨a, len, cap, elems, rest, n, rfl, rfl, rfl, _, hlc, hcm, hel, hE, _, _⟩
 ·exact ⟨[], ⟨none, 0, rfl, Nat.le_refl _, rfl, by simp, fun h => by simp at h⟩, by simp, by simp, by simp⟩
 ·have hm : len ≤ 9223372036854775807 := by unfold maxLen at hcm; omega
  have hwl : (elems.length + rest.length) * B ≤ 140737488351232 := by
   have := hw ((elems.length + rest.length) * B) (by simp [DataW.weights, ht, hB])
   exact this
  have hbound : len * B ≤ 140737488351232 := Nat.le_trans (Nat.mul_le_mul_right _ (by omega)) hwl
  have each : ∀ i, i < len → ∃ x : α, (∃ c, c.length = d.sz ∧ d.K W x c ∧ ∀ k u, c[k]? = some u → W.cell? (a.add (i * d.sz + k)) = some u) ∧ ok x := by
   intro i hi
   have h1 := hE i hi
   rw [List.getElem?_eq_getElem (show i < elems.length by omega)] at h1
   obtain ⟨c, hc, htr⟩ := Option.bind_eq_some_iff.1 h1
   obtain ⟨hcl, hcell⟩ := cells_some hc
   obtain ⟨y, hy, hok⟩ := h enc base spare held n c _ htr (fun z hz => hw z (by
    simp only [DataW.weights, ht, List.mem_cons, List.mem_append]
    exact .inr (.inl (weightsAll_mem (i := i) (by simp [show i < elems.length by omega]) z hz))))
   refine ⟨y, ⟨c, by rw [hcl, hsz], hy, fun k u hu => ?_⟩, hok⟩
   have := hcell k u hu
   rw [hsz, Addr.add_add] at this
   exact this
  obtain ⟨xs, hl, hxs⟩ := list_of len each
  refine ⟨xs, ⟨some a, cap, by rw [hl], by omega, ⟨rfl, by omega, fun _ => ⟨a, rfl, fun j p hj => (hxs j p hj).1⟩⟩⟩, fun x hx => ?_, by rw [hl]; exact hbound, by omega⟩
  obtain ⟨j, hj, rfl⟩ := List.getElem_of_mem hx
  exact (hxs j _ (List.getElem?_eq_getElem hj)).2
end
end Go.Proofs.YtpmeapdcjmaeiaaGreatDoor.Op
