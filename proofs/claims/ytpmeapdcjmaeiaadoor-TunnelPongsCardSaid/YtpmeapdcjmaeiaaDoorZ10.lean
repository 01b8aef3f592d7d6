/- What the law's row rests on, part 10. -/
import Derived.Test.YtpmeapdcjmaeiaaDoorZ9
import Derived.Lib.SliceRun
import Derived.Deep.RegionHeld3
set_option linter.unusedVariables false
set_option linter.unusedSimpArgs false
namespace Go.Proofs.YtpmeapdcjmaeiaaDoor
open Go.RowKit Go.Proofs.YtpmeapdcjmaeiaaDoorW.PrintWords Go.Proofs.YtpmeapdcjmaeiaaDoorW.PrintLast Go.Proofs.YtpmeapdcjmaeiaaDoorW.PrintMore Go.Proofs.YtpmeapdcjmaeiaaDoor.PAll Go.Proofs.YtpmeapdcjmaeiaaDoor.U
inductive Stp (b : List Int) (busy te over fin : Bool) (op : Int) (d : List Int) : List Int → Bool → Bool → Bool → Int → Bool → Int → List Int → Bool → Prop
 | over (h : over = true) : Stp b busy te over fin op d b busy te true 0 false 0 [] false
 | more (h : over = false) (ho : op = 0 ∨ op = 1 ∨ op = 2) (hc : partC busy te fin op b d = 0) (hf : fin = false) : Stp b busy te over fin op d (b ++ d) true (textN busy te op) false 0 false 0 [] false
 | told (h : over = false) (ho : op = 0 ∨ op = 1 ∨ op = 2) (hc : partC busy te fin op b d = 0) (hf : fin = true) : Stp b busy te over fin op d [] false (textN busy te op) false 1 (textN busy te op) 0 (b ++ d) true
 | part (h : over = false) (ho : op = 0 ∨ op = 1 ∨ op = 2) (hc : partC busy te fin op b d ≠ 0) (tn : Bool) : Stp b busy te over fin op d [] false tn true 5 false (partC busy te fin op b d) [] true
 | ping (h : over = false) (ho : op = 9) : Stp b busy te over fin op d b busy te false 2 false 0 d true
 | pong (h : over = false) (ho : op = 10) : Stp b busy te over fin op d b busy te false 3 false 0 d true
 | other (h : over = false) (ho : op ≠ 0 ∧ op ≠ 1 ∧ op ≠ 2 ∧ op ≠ 8 ∧ op ≠ 9 ∧ op ≠ 10) (tn : Bool) : Stp b busy te over fin op d [] false tn true 5 false 1002 [] true
 | close (h : over = false) (ho : op = 8) (tn : Bool) : Stp b busy te over fin op d [] false tn true (closeM d).1 false (closeM d).2.2 (closeM d).2.1 true
def Imp (w0 W : World) (g : Nat) (v u : Value) (b : List Int) (busy te over : Bool) (gu : Nat) (f : List Int) : Prop := (over = false ∧ Gs w0 W g v u b busy te false gu f ∧ (busy = true → f = if te = true then b else [])) ∨ (over = true ∧ busy = false ∧ ∃ bu, Gw w0 W g (.slice none 0 0) u [] bu te true)
theorem row_own {W : World} {v : Value} {xs : List Int} {base : Nat} {ok : Nat → Prop} (h : Kd.R (Kd.int .u8) 5 W base ok v xs) : Kd.R (Kd.int .u8) 5 W base (fun k => v.ownBlock = some k) v xs := by
 obtain ⟨_, inner, ho, hr⟩ := h
 exact ⟨fun _ hk => hk, inner, ho, hr.imp_ (fun _ _ hp => hp)⟩
theorem row_keep {W W' : World} {v : Value} {xs : List Int} {base : Nat} {ok : Nat → Prop} (h : Kd.R (Kd.int .u8) 5 W base ok v xs) (hk : ∀ k, v.ownBlock = some k → W'.heap[k]? = W.heap[k]?) : Kd.R (Kd.int .u8) 5 W' base (fun k => v.ownBlock = some k) v xs := Kd.R_step (row_own h) (fun k e _ => hk k e)
theorem keep_fr {w W : World} {g : Nat} {v u : Value} (hk : KeepBut w W g none) : Fr w W g v u := ⟨hk.1, fun k hlt h1 _ _ => hk.2 k hlt h1 (by simp)⟩
theorem slice_one {w : World} {base : Nat} {ok : Nat → Prop} {v : Value} {b : List Int} (h : Kd.R (Kd.int .u8) 5 w base ok v b) : v.oneCell' = true := by
 obtain ⟨A, c, rfl⟩ := Kd.R_slice h
 rfl
theorem part_len {busy te fin : Bool} {op : Int} {b d : List Int} (h : partC busy te fin op b d = 0) : b.length + d.length ≤ 4096 := by
 unfold partC at h
 split at h
 ·cases h
 ·split at h
  ·cases h
  ·omega
theorem Imp.below {w0 W W' : World} {g gu : Nat} {v u : Value} {b f : List Int} {busy te over : Bool} (h : Imp w0 W g v u b busy te over gu f) (hb : Below W.heap.size W W') : Imp w0 W' g v u b busy te over gu f := h.elim (fun ⟨h1, h2, h3⟩ => .inl ⟨h1, h2.below hb, h3⟩) (fun ⟨h1, h2, bu, h3⟩ => .inr ⟨h1, h2, bu, h3.below hb⟩)
theorem Gw.moved {w0 W W' : World} {g : Nat} {v u : Value} {b : List Int} {busy te over : Bool} (h : Gw w0 W g v u b busy te over) (hB : Below w0.heap.size w0 W') (hr : ∀ k, v.ownBlock = some k → W'.heap[k]? = W.heap[k]?) (hk : ∀ (k : Nat) (cs : Array Value) (t : TypeId) (fr : Nat × Nat), W.heap[k]? = some (.cells cs t fr) → t = 74 ∨ t = 144 → W'.heap[k]? = W.heap[k]?) : Gw w0 W' g v u b busy te over :=
 ⟨(hk g _ _ _ h.blk (.inl rfl)).trans h.blk, Kd.R_mono (row_keep h.row hr) (fun _ _ => trivial), hB, h.base, h.one, fun k e => by
  obtain ⟨cs, hc⟩ := h.uty k e
  exact ⟨cs, (hk k _ _ _ hc (.inr rfl)).trans hc⟩⟩
theorem Imp.moved {w0 W W' : World} {g gu : Nat} {v u : Value} {b f : List Int} {busy te over : Bool} (h : Imp w0 W g v u b busy te over gu f) (hB : Below w0.heap.size w0 W') (hr : over = false → ∀ k, v.ownBlock = some k → W'.heap[k]? = W.heap[k]?) (hk : ∀ (k : Nat) (cs : Array Value) (t : TypeId) (fr : Nat × Nat), W.heap[k]? = some (.cells cs t fr) → t = 74 ∨ t = 144 → W'.heap[k]? = W.heap[k]?) : Imp w0 W' g v u b busy te over gu f := by
 rcases h with ⟨h1, h2, h3⟩ | ⟨h1, h2, bu, h3⟩
 ·exact .inl ⟨h1, ⟨h2.gw.moved hB (hr h1) hk, fun hy => ⟨(h2.chk hy).1, ⟨(hk gu _ _ _ (h2.chk hy).2.1.1 (.inr rfl)).trans (h2.chk hy).2.1.1, (h2.chk hy).2.1.2⟩, (h2.chk hy).2.2⟩⟩, h3⟩
 ·exact .inr ⟨h1, h2, bu, h3.moved hB (fun k e => by cases e) hk⟩
theorem Imp.bel {w0 W : World} {g gu : Nat} {v u : Value} {b f : List Int} {busy te over : Bool} (h : Imp w0 W g v u b busy te over gu f) : Below w0.heap.size w0 W := h.elim (fun h => h.2.1.gw.bel) (fun ⟨_, _, _, h⟩ => h.bel)
theorem Imp.blk {w0 W : World} {g gu : Nat} {v u : Value} {b f : List Int} {busy te over : Bool} (h : Imp w0 W g v u b busy te over gu f) (hnob : busy = false → b = []) : ∃ bu u1 A c, IsG W g (.slice A b.length c) bu te u1 over := by
 rcases h with ⟨h1, h2, h3⟩ | ⟨h1, h2, bu, h3⟩
 ·subst h1
  obtain ⟨A, c, rfl⟩ := Kd.R_slice h2.gw.row
  exact ⟨busy, u, A, c, h2.gw.blk⟩
 ·subst h1
  rw [hnob h2]
  exact ⟨bu, u, none, 0, h3.blk⟩
theorem Imp.other {w0 W W' : World} {g gu : Nat} {v u : Value} {b f : List Int} {busy te over : Bool} (h : Imp w0 W g v u b busy te over gu f) (hB : Below w0.heap.size w0 W') (hk : ∀ (k : Nat) (cs : Array Value) (t : TypeId) (fr : Nat × Nat), W.heap[k]? = some (.cells cs t fr) → t = 74 ∨ t = 144 ∨ t = 5 → W'.heap[k]? = W.heap[k]?) : Imp w0 W' g v u b busy te over gu f := by
 refine h.moved hB (fun ho k e => ?_) (fun k cs t fr hc ht => hk k cs t fr hc (ht.elim .inl (fun h => .inr (.inl h))))
 rcases h with ⟨h1, h2, h3⟩ | ⟨h1, h2, bu, h3⟩
 ·obtain ⟨cs, hc⟩ := Kd.R_typed h2.gw.row k e
  exact hk k _ _ _ hc (.inr (.inr rfl))
 ·rw [ho] at h1; cases h1
theorem Stp.stays {b b' nd d : List Int} {busy te over fin busy' te' over' tx ok : Bool} {op kind code : Int} (hs : Stp b busy te over fin op d b' busy' te' over' kind tx code nd ok) (hnob : busy = false → b = []) (hb8 : ∀ x ∈ b, 0 ≤ x ∧ x ≤ 255) (hd8 : ∀ x ∈ d, 0 ≤ x ∧ x ≤ 255) (hbl : b.length ≤ 4096) : (busy' = false → b' = []) ∧ (∀ x ∈ b', 0 ≤ x ∧ x ≤ 255) ∧ b'.length ≤ 4096 := by
 cases hs with
 | more h ho hc' hf => exact ⟨fun h => (by cases h), fun x hx => (List.mem_append.1 hx).elim (hb8 x) (hd8 x), by rw [List.length_append]; exact part_len hc'⟩
 | over h => exact ⟨hnob, hb8, hbl⟩
 | ping h ho => exact ⟨hnob, hb8, hbl⟩
 | pong h ho => exact ⟨hnob, hb8, hbl⟩
 | told h ho hc' hf => exact ⟨fun _ => rfl, fun x hx => (by cases hx), by decide⟩
 | part h ho hc' tn => exact ⟨fun _ => rfl, fun x hx => (by cases hx), by decide⟩
 | other h ho tn => exact ⟨fun _ => rfl, fun x hx => (by cases hx), by decide⟩
 | close h ho tn => exact ⟨fun _ => rfl, fun x hx => (by cases hx), by decide⟩
end Go.Proofs.YtpmeapdcjmaeiaaDoor
namespace Go.Proofs.YtpmeapdcjmaeiaaDoor
open Go.RowKit Go.Proofs.YtpmeapdcjmaeiaaDoorW.PrintWords Go.Proofs.YtpmeapdcjmaeiaaDoorW.PrintLast Go.Proofs.YtpmeapdcjmaeiaaDoorW.PrintMore Go.Proofs.YtpmeapdcjmaeiaaDoor.PAll Go.Proofs.YtpmeapdcjmaeiaaDoor.U
def GF (v u : Value) (over : Bool) (g k : Nat) : Prop := k = g ∨ (over = false ∧ (v.ownBlock = some k ∨ u = .pointer (some ⟨k, 0, none⟩)))
structure Imq (w0 W : World) (g : Nat) (v u : Value) (b : List Int) (busy te over : Bool) (gu : Nat) (f : List Int) : Prop where
 bel : Below w0.heap.size w0 W
 base : w0.heap.size ≤ g
 st : (over = false ∧ Gs w0 W g v u b busy te false gu f ∧ (busy = true → f = if te = true then b else [])) ∨ (over = true ∧ busy = false ∧ b = [] ∧ ∃ bu te1 u1, IsG W g (.slice none 0 0) bu te1 u1 true)
theorem Imq.blk {w0 W : World} {g gu : Nat} {v u : Value} {b f : List Int} {busy te over : Bool} (h : Imq w0 W g v u b busy te over gu f) : ∃ bu te1 u1 A c, IsG W g (.slice A b.length c) bu te1 u1 over := by
 rcases h.st with ⟨h1, h2, h3⟩ | ⟨h1, h2, h4, bu, te1, u1, h3⟩
 ·subst h1
  obtain ⟨A, c, rfl⟩ := Kd.R_slice h2.gw.row
  exact ⟨busy, te, u, A, c, h2.gw.blk⟩
 ·subst h1; subst h4
  exact ⟨bu, te1, u1, none, 0, h3⟩
theorem Imq.lt {w0 W : World} {g gu : Nat} {v u : Value} {b f : List Int} {busy te over : Bool} (h : Imq w0 W g v u b busy te over gu f) {k : Nat} (hk : GF v u over g k) : k < W.heap.size := by
 rcases hk with rfl | ⟨ho, hk⟩
 ·obtain ⟨_, _, _, _, _, hb⟩ := h.blk
  exact blk_lt hb
 ·rcases h.st with ⟨h1, h2, h3⟩ | ⟨h1, _⟩
  ·rcases hk with hk | hk
   ·exact Kd.R_lt h2.gw.row k hk
   ·exact h2.gw.ulow k hk
  ·rw [ho] at h1; cases h1
theorem Imq.move {w0 W W' : World} {g gu : Nat} {v u : Value} {b f : List Int} {busy te over : Bool} (h : Imq w0 W g v u b busy te over gu f) (hB : Below w0.heap.size w0 W') (hk : ∀ k, GF v u over g k → W'.heap[k]? = W.heap[k]?) : Imq w0 W' g v u b busy te over gu f := by
 have hg := hk g (.inl rfl)
 refine ⟨hB, h.base, ?_⟩
 rcases h.st with ⟨h1, h2, h3⟩ | ⟨h1, h2, h4, bu, te1, u1, h3⟩
 ·subst h1
  have hv : ∀ k, v.ownBlock = some k → W'.heap[k]? = W.heap[k]? := fun k e => hk k (.inr ⟨rfl, .inl e⟩)
  have hu : ∀ k, u = .pointer (some ⟨k, 0, none⟩) → W'.heap[k]? = W.heap[k]? := fun k e => hk k (.inr ⟨rfl, .inr e⟩)
  exact .inl ⟨rfl, ⟨⟨hg.trans h2.gw.blk, Kd.R_mono (row_keep h2.gw.row hv) (fun _ _ => trivial), hB, h.base, h2.gw.one, fun k e => by
   obtain ⟨cs, hc⟩ := h2.gw.uty k e
   exact ⟨cs, (hu k e).trans hc⟩⟩, fun hy => ⟨(h2.chk hy).1, ⟨(hu gu (h2.chk hy).1).trans (h2.chk hy).2.1.1, (h2.chk hy).2.1.2⟩, (h2.chk hy).2.2⟩⟩, h3⟩
 ·exact .inr ⟨h1, h2, h4, bu, te1, u1, hg.trans h3⟩
theorem Imq.below {w0 W W' : World} {g gu : Nat} {v u : Value} {b f : List Int} {busy te over : Bool} (h : Imq w0 W g v u b busy te over gu f) (hb : Below W.heap.size W W') : Imq w0 W' g v u b busy te over gu f := h.move (below_step h.bel hb) (fun k hk => hb.block k (h.lt hk))
structure TakeQ (w0 W : World) (g : Nat) (v u : Value) (b : List Int) (busy te over fin : Bool) (op : Int) (d : List Int) (w' : World) (b' : List Int) (busy' te' over' : Bool) (kind : Int) (tx : Bool) (code : Int) (nd : List Int) (ok : Bool) (v' u' : Value) (gu' : Nat) (f' : List Int) (vn : Value) : Prop where
 stp : Stp b busy te over fin op d b' busy' te' over' kind tx code nd ok
 imp : Imq w0 w' g v' u' b' busy' te' over' gu' f'
 row : Kd.R (Kd.int .u8) 5 w' w0.heap.size (fun k => ¬ GF v' u' over' g k) vn nd
 size : W.heap.size ≤ w'.heap.size
 keep : ∀ k, k < W.heap.size → ¬ GF v u over g k → w'.heap[k]? = W.heap[k]?
 new : ∀ k, GF v' u' over' g k → GF v u over g k ∨ W.heap.size ≤ k
 note : ∀ k, vn.ownBlock = some k → GF v u over g k ∨ W.heap.size ≤ k
theorem fr_gf {w W : World} {g : Nat} {v u : Value} (h : Fr w W g v u) : ∀ k, k < w.heap.size → ¬ GF v u false g k → W.heap[k]? = w.heap[k]? := fun k hk hn => h.same k hk (fun e => hn (.inl e)) (fun e => hn (.inr ⟨rfl, .inl e.symm⟩)) (fun e => hn (.inr ⟨rfl, .inr e⟩))
theorem newu_gf {w : World} {g k : Nat} {v u u' : Value} (h : NewU w u u') (e : u' = .pointer (some ⟨k, 0, none⟩)) : GF v u false g k ∨ w.heap.size ≤ k := by
 rcases h with h | ⟨j, h, hj⟩
 ·exact .inl (.inr ⟨rfl, .inr (h ▸ e)⟩)
 ·rw [h] at e
  injection e with e
  injection e with e
  injection e with e
  exact .inr (e ▸ hj)
theorem newor_gf {w : World} {g k : Nat} {v u v' : Value} (h : NewOr w v v') (e : v'.ownBlock = some k) : GF v u false g k ∨ w.heap.size ≤ k := by
 rcases h with h | h | ⟨j, h, hj⟩
 ·exact .inl (.inr ⟨rfl, .inl (h ▸ e)⟩)
 ·rw [h] at e; cases e
 ·rw [h] at e; injection e with e; exact .inr (e ▸ hj)
theorem row_ok {W : World} {v : Value} {xs : List Int} {base : Nat} {ok ok' : Nat → Prop} (h : Kd.R (Kd.int .u8) 5 W base ok v xs) (hk : ∀ k, v.ownBlock = some k → ok' k) : Kd.R (Kd.int .u8) 5 W base ok' v xs := Kd.R_mono (row_own h) hk
theorem over_gf {v u : Value} {g k : Nat} (h : GF v u true g k) : k = g := by
 rcases h with h | ⟨h, _⟩
 ·exact h
 ·cases h
theorem byte_gf {w0 W : World} {g gu k : Nat} {v u vn : Value} {b f nd : List Int} {busy te over : Bool} {base : Nat} {ok : Nat → Prop} (h : Imq w0 W g v u b busy te over gu f) (hr : Kd.R (Kd.int .u8) 5 W base ok vn nd) (hk : vn.ownBlock = some k) (hne : over = false → v.ownBlock ≠ some k) : ¬ GF v u over g k := by
 obtain ⟨cs, hc⟩ := Kd.R_typed hr k hk
 rintro (rfl | ⟨ho, e | e⟩)
 ·obtain ⟨_, _, _, _, _, hb⟩ := h.blk
  have hb' : W.heap[k]? = _ := hb
  rw [hb'] at hc
  injection hc with hc
  injection hc with _ hc _
  exact absurd hc (by decide)
 ·exact hne ho e
 ·rcases h.st with ⟨h1, h2, h3⟩ | ⟨h1, _⟩
  ·obtain ⟨cs', hb⟩ := h2.gw.uty k e
   rw [hb] at hc
   injection hc with hc
   injection hc with _ hc _
   exact absurd hc (by decide)
  ·rw [ho] at h1; cases h1
theorem take_stepq {w0 W : World} {g gu : Nat} {v u : Value} {b f d : List Int} {busy te over fin mk : Bool} {op key : Int} {A : Option Addr} {c : Nat} (hst : Imq w0 W g v u b busy te over gu f) (hnob : busy = false → b = []) (hbl : b.length ≤ 4096) (hd : Dat W (.slice A d.length c) d) (hdn : over = false → ∀ k, (Value.slice A d.length c).ownBlock = some k → v.ownBlock ≠ some k) (hd8 : ∀ x ∈ d, 0 ≤ x ∧ x ≤ 255) (hdl : d.length ≤ 1000000000) (hg : Cond w0) :
  Calls Tryd.prog 23 #[.pointer (some ⟨g, 0, none⟩), .agg #[.bool fin, .int .u8 op, .bool mk, .int .u32 key, .slice A d.length c]] W (fun e w' => ∃ b' busy' te' over' kind tx code nd ok v' u' gu' f' vn, e = .returned (.tuple #[.agg #[.int .u8 kind, .bool tx, vn, .int .u32 code], .bool ok]) ∧ TakeQ w0 W g v u b busy te over fin op d w' b' busy' te' over' kind tx code nd ok v' u' gu' f' vn) := by
 have hg0 := hst.base
 rcases hst.st with ⟨ho, hG, hf⟩ | ⟨ho, hbu, hbn, bu, te1, u1, hG⟩
 ·subst ho
  have hff : (busy = true → f = if te = true then b else []) ∧ (busy = false → b = []) := ⟨hf, hnob⟩
  have hdn := hdn rfl
  have hn2 : ∀ k : Nat, (Value.slice none 0 0).ownBlock ≠ some k := fun k e => by cases e
  have hbad : ∀ {w' : World} {u' : Value} {tn : Bool} {code : Int}, Gw w0 w' g (.slice none 0 0) u' [] false tn true → Fr W w' g v u → Stp b busy te false fin op d [] false tn true 5 false code [] true → TakeQ w0 W g v u b busy te false fin op d w' [] false tn true 5 false code [] true (.slice none 0 0) u' 0 [] (.slice none 0 0) := fun hG' hF hs => ⟨hs, ⟨hG'.bel, hg0, .inr ⟨rfl, rfl, rfl, _, _, _, hG'.blk⟩⟩, Kd.R_nil _ _ _ _ _, hF.size, fr_gf hF, fun k hk => .inl (.inl (over_gf hk)), fun k e => (by cases e)⟩
  by_cases hp : op = 0 ∨ op = 1 ∨ op = 2
  ·by_cases hc : partC busy te fin op b d = 0
   ·by_cases hfin : fin = true
    ·refine (TakeTold hG hff hd hdn hbl hdl hp hc hfin).mono ?_
     rintro e w' ⟨vn, u', rfl, hG', hR, hF, hN⟩
     have hI : Imq w0 w' g (.slice none 0 0) u' [] false (textN busy te op) false 0 [] := ⟨hG'.bel, hg0, .inl ⟨rfl, hG'.gs 0 [], fun h => by cases h⟩⟩
     exact ⟨[], false, _, false, 1, _, 0, b ++ d, true, .slice none 0 0, u', 0, [], vn, rfl, .told rfl hp hc hfin, hI, row_ok hR (fun k e => byte_gf hI hR e (fun _ => hn2 k)), hF.size, fr_gf hF, fun k hk => by
      rcases hk with hk | ⟨_, hk | hk⟩
      ·exact .inl (.inl hk)
      ·cases hk
      ·exact newu_gf hN.b hk, fun k e => newor_gf hN.a e⟩
    ·have hfin : fin = false := by simpa using hfin
     refine (TakeMore hG hff hd hdn hbl hdl hp hc hfin).mono ?_
     rintro e w' ⟨rfl, v', u', gu', hG', hF, hN⟩
     exact ⟨b ++ d, true, _, false, 0, false, 0, [], false, v', u', gu', _, .slice none 0 0, rfl, .more rfl hp hc hfin, ⟨hG'.gw.bel, hg0, .inl ⟨rfl, hG', fun _ => rfl⟩⟩, Kd.R_nil _ _ _ _ _, hF.size, fr_gf hF, fun k hk => by
      rcases hk with hk | ⟨_, hk | hk⟩
      ·exact .inl (.inl hk)
      ·exact newor_gf hN.a hk
      ·exact newu_gf hN.b hk, fun k e => (by cases e)⟩
   ·refine (TakeBadPart hG hff hd hdn hbl hdl hp hg hc).mono ?_
    rintro e w' ⟨rfl, u', tn, hG', hF⟩
    exact ⟨_, _, _, _, _, _, _, _, _, _, _, _, _, _, rfl, hbad hG' hF (.part rfl hp hc tn)⟩
  ·by_cases h8 : op = 8
   ·subst h8
    rcases close_to d hd8 hdl with ⟨h1, h2⟩ | ⟨h1, h2, h3⟩
    ·refine (Take_close_any d (closeM d).2.1 (closeM d).2.2 h2 g v u busy te A c W (slice_one hG.gw.row) hG.gw.blk (Dat.C hd) (Dat.le hd)).mono ?_
     rintro e w' ⟨vn, rfl, hR, hI, hK, hB⟩
     have hB := hB w0 hG.gw.base hG.gw.bel
     have hI' : Imq w0 w' g (.slice none 0 0) u [] false te true 0 [] := ⟨hB, hg0, .inr ⟨rfl, rfl, rfl, _, _, _, hI⟩⟩
     exact ⟨[], false, te, true, 4, false, _, _, true, .slice none 0 0, u, 0, [], vn, rfl, by rw [← h1]; exact .close rfl rfl te, hI', row_ok (Kd.R_lower hR hG.gw.bel.size) (fun k e => byte_gf hI' hR e (fun h => by cases h)), hK.1, fr_gf (keep_fr hK), fun k hk => .inl (.inl (over_gf hk)), fun k e => .inr (Kd.R_base hR k e)⟩
    ·refine (Take_bad hG hd hg (fun W' hb hG' hD => take_close_bad hG' hD h3)).mono ?_
     rintro e w' ⟨rfl, u', tn, hG', hF⟩
     exact ⟨_, _, _, _, _, _, _, _, _, _, _, _, _, _, rfl, hbad hG' hF (by
      have := Stp.close (b := b) (busy := busy) (te := te) (over := false) (fin := fin) (op := 8) (d := d) rfl rfl tn
      rw [h1, h2] at this
      exact this)⟩
   ·have hnote : ∀ kk : Int, Stp b busy te false fin op d b busy te false kk false 0 d true → (∀ W', Below W.heap.size W W' → Gs w0 W' g v u b busy te false gu f → Dat W' (.slice A d.length c) d → Calls Tryd.prog 39 #[.pointer (some ⟨g, 0, none⟩), .agg #[.bool fin, .int .u8 op, .bool mk, .int .u32 key, .slice A d.length c]] W' (TkNote w0 g v u b busy te gu f kk d W')) → Calls Tryd.prog 23 #[.pointer (some ⟨g, 0, none⟩), .agg #[.bool fin, .int .u8 op, .bool mk, .int .u32 key, .slice A d.length c]] W (fun e w' => ∃ b' busy' te' over' kind tx code nd ok v' u' gu' f' vn, e = .returned (.tuple #[.agg #[.int .u8 kind, .bool tx, vn, .int .u32 code], .bool ok]) ∧ TakeQ w0 W g v u b busy te false fin op d w' b' busy' te' over' kind tx code nd ok v' u' gu' f' vn) := by
     intro kk hs hT
     refine (Take_note hG hd hT).mono ?_
     rintro e w' ⟨vn, rfl, hG', hR, hF⟩
     have hvl : ∀ k, v.ownBlock = some k → k < W.heap.size := Kd.R_lt hG.gw.row
     have hI : Imq w0 w' g v u b busy te false gu f := ⟨hG'.gw.bel, hg0, .inl ⟨rfl, hG', hf⟩⟩
     exact ⟨b, busy, te, false, kk, false, 0, d, true, v, u, gu, f, vn, rfl, hs, hI, row_ok (Kd.R_lower hR hG.gw.bel.size) (fun k e => byte_gf hI hR e (fun _ ev => by
      have := Kd.R_base hR k e
      have := hvl k ev
      omega)), hF.size, fr_gf hF, fun k hk => .inl hk, fun k e => .inr (Kd.R_base hR k e)⟩
    by_cases h9 : op = 9
    ·subst h9
     exact hnote 2 (.ping rfl rfl) (fun W' hb hG' hD => take_ping hG' hD hdl)
    ·by_cases h10 : op = 10
     ·subst h10
      exact hnote 3 (.pong rfl rfl) (fun W' hb hG' hD => take_pong hG' hD hdl)
     ·have ho : op ≠ 0 ∧ op ≠ 1 ∧ op ≠ 2 ∧ op ≠ 8 ∧ op ≠ 9 ∧ op ≠ 10 := ⟨fun e => hp (.inl e), fun e => hp (.inr (.inl e)), fun e => hp (.inr (.inr e)), h8, h9, h10⟩
      refine (Take_bad hG hd hg (fun W' hb hG' hD => take_other hG' hD ho)).mono ?_
      rintro e w' ⟨rfl, u', tn, hG', hF⟩
      exact ⟨_, _, _, _, _, _, _, _, _, _, _, _, _, _, rfl, hbad hG' hF (.other rfl ho tn)⟩
 ·subst ho
  have hI : ∀ {w' : World}, Below W.heap.size W w' → Imq w0 w' g v u b busy te true gu f := fun hb => hst.below hb
  refine (Take_overI hG).mono ?_
  rintro e w' ⟨rfl, hb⟩
  exact ⟨b, busy, te, true, 0, false, 0, [], false, v, u, gu, f, .slice none 0 0, rfl, .over rfl, hI hb, Kd.R_nil _ _ _ _ _, hb.size, fun k hk _ => hb.block k hk, fun k hk => .inl hk, fun k e => (by cases e)⟩
end Go.Proofs.YtpmeapdcjmaeiaaDoor
namespace Go.Proofs.YtpmeapdcjmaeiaaDoor.PAll
open Go.RowKit Go.Proofs.YtpmeapdcjmaeiaaDoorW.PrintWords Go.Proofs.YtpmeapdcjmaeiaaDoorW.PrintLast Go.Proofs.YtpmeapdcjmaeiaaDoorW.PrintMore
def xb (x y : Int) : Int := Go.bits .xor .u8 x y
theorem xb_nat (a b : Nat) (ha : a < 256) (hb : b < 256) : xb (a : Int) (b : Int) = ((a ^^^ b : Nat) : Int) := by
 have hx : a ^^^ b < 2 ^ 8 := Nat.xor_lt_two_pow (by omega) (by omega)
 have h1 : (BitVec.ofInt 8 (a : Int)).toNat = a := by
  rw [BitVec.ofInt_natCast, BitVec.toNat_ofNat]; exact Nat.mod_eq_of_lt (by omega)
 have h2 : (BitVec.ofInt 8 (b : Int)).toNat = b := by
  rw [BitVec.ofInt_natCast, BitVec.toNat_ofNat]; exact Nat.mod_eq_of_lt (by omega)
 show IntKind.u8.wrap ((BitVec.ofInt 8 (a : Int) ^^^ BitVec.ofInt 8 (b : Int)).toNat : Int) = _
 have hw : ∀ n : Int, IntKind.u8.wrap n = n % 256 := fun n => by simp [IntKind.wrap, IntKind.bits, IntKind.signed]
 rw [BitVec.toNat_xor, h1, h2, hw]
 omega
def Byte (x : Int) : Prop := 0 ≤ x ∧ x ≤ 255
theorem byte_nat {x : Int} (h : Byte x) : ∃ a : Nat, a < 256 ∧ x = (a : Int) := ⟨x.toNat, by have := h.1; have := h.2; omega, by have := h.1; omega⟩
theorem xb_byte {x y : Int} (hx : Byte x) (hy : Byte y) : Byte (xb x y) := by
 obtain ⟨a, ha, rfl⟩ := byte_nat hx
 obtain ⟨b, hb, rfl⟩ := byte_nat hy
 rw [xb_nat a b ha hb]
 have hx : a ^^^ b < 2 ^ 8 := Nat.xor_lt_two_pow (by omega) (by omega)
 exact ⟨by omega, by omega⟩
theorem xb_twice {x y : Int} (hx : Byte x) (hy : Byte y) : xb (xb x y) y = x := by
 obtain ⟨a, ha, rfl⟩ := byte_nat hx
 obtain ⟨b, hb, rfl⟩ := byte_nat hy
 have hx : a ^^^ b < 2 ^ 8 := Nat.xor_lt_two_pow (by omega) (by omega)
 rw [xb_nat a b ha hb, xb_nat _ b (by omega) hb, Nat.xor_assoc, Nat.xor_self, Nat.xor_zero]
def keyOf (k : Int) : List Int := [(k / 16777216) % 256, (k / 65536) % 256, (k / 256) % 256, k % 256]
theorem key_f (k : Int) : wsframe_key.f k = some (keyOf k) := rfl
theorem key_byte (k : Int) (i : Nat) : Byte (rd (keyOf k) ((i % 4 : Nat) : Int)) := by
 have h : i % 4 = 0 ∨ i % 4 = 1 ∨ i % 4 = 2 ∨ i % 4 = 3 := by omega
 rcases h with h | h | h | h <;> rw [h] <;> refine ⟨?_, ?_⟩ <;> simp [rd, keyOf] <;> omega
def turned (l : List Int) (k : Int) : List Int := (List.range l.length).map fun (i : Nat) => xb (rd l (i : Int)) (rd (keyOf k) ((i % 4 : Nat) : Int))
theorem turned_len (l : List Int) (k : Int) : (turned l k).length = l.length := by simp [turned]
theorem rd_nat (l : List Int) (i : Nat) (h : i < l.length) : rd l (i : Int) = l[i] := by simp [rd, h]
theorem turned_at (l : List Int) (k : Int) (i : Nat) (h : i < l.length) : (turned l k)[i]'(by rw [turned_len]; exact h) = xb l[i] (rd (keyOf k) ((i % 4 : Nat) : Int)) := by
 simp [turned, rd_nat l i h]
theorem turned_byte (l : List Int) (k : Int) (hl : ∀ x ∈ l, Byte x) : ∀ x ∈ turned l k, Byte x := by
 intro x hx
 obtain ⟨i, hi, rfl⟩ := List.getElem_of_mem hx
 rw [turned_len] at hi
 rw [turned_at l k i hi]
 exact xb_byte (hl _ (List.getElem_mem hi)) (key_byte k i)
theorem turned_twice (l : List Int) (k : Int) (hl : ∀ x ∈ l, Byte x) : turned (turned l k) k = l := by
 apply List.ext_getElem
 ·rw [turned_len, turned_len]
 ·intro i h1 h2
  rw [turned_at _ k i (by rw [turned_len]; exact h2), turned_at l k i h2]
  exact xb_twice (hl _ (List.getElem_mem h2)) (key_byte k i)
theorem set_mid (A l : List Int) (i : Nat) (h : i < l.length) (hA : A.length = l.length) : (A.take i ++ l.drop i).set i (A[i]'(by omega)) = A.take (i + 1) ++ l.drop (i + 1) := by
 rw [List.set_append_right _ _ (by simp; omega), ← List.getElem_cons_drop h]
 simp only [List.length_take]
 rw [show i - min i A.length = 0 by omega, List.set_cons_zero, List.take_succ_eq_append_getElem (by omega), List.append_assoc]
 rfl
theorem rd_mid (A l : List Int) (i : Nat) (h : i < l.length) (hA : A.length = l.length) : rd (A.take i ++ l.drop i) (i : Int) = l[i] := by
 rw [rd_nat _ i (by simp; omega), List.getElem_append_right (by simp; omega)]
 simp only [List.length_take, List.getElem_drop]
 congr 1
 omega
theorem turn_loop (l : List Int) (k : Int) (hm : l.length ≤ 9223372036854775807) (c : Nat) : ∀ (m i : Nat), i + m = l.length → wsframe_Turn.l0 (m + 1 + c) ((turned l k).take i ++ l.drop i) (keyOf k) (l.length : Int) (i : Int) = some (turned l k) := by
 intro m
 induction m with
 | zero =>
  intro i hi
  obtain rfl : i = l.length := by omega
  rw [show 0 + 1 + c = c + 1 by omega]
  unfold wsframe_Turn.l0
  rw [if_neg (by omega), List.drop_length, List.append_nil, List.take_of_length_le (by rw [turned_len]; omega)]
 | succ m ih =>
  intro i hi
  have hlt : i < l.length := by omega
  have hlen : ((turned l k).take i ++ l.drop i).length = l.length := by simp [turned_len]; omega
  rw [show m + 1 + 1 + c = (m + 1 + c) + 1 by omega]
  unfold wsframe_Turn.l0
  have hw : wrap64 ((i : Int) + 1) = ((i + 1 : Nat) : Int) := by unfold wrap64; omega
  have h4 : ((keyOf k).length : Int) = 4 := rfl
  have ht : Int.tmod (i : Int) 4 = ((i % 4 : Nat) : Int) := by rw [Int.tmod_eq_emod_of_nonneg (by omega)]; omega
  rw [if_pos (by omega), if_pos (by omega), if_pos (by rw [hlen]; omega), h4, if_neg (by omega), ht, if_pos (by omega), if_pos (by omega), rd_mid _ l i hlt (turned_len l k), hw, Int.toNat_natCast]
  have hat := turned_at l k i hlt
  unfold xb at hat
  rw [← hat, set_mid _ l i hlt (turned_len l k)]
  exact ih (i + 1) (by omega)
theorem turn_f (l : List Int) (k : Int) (hm : l.length ≤ 140737488355328) (c : Nat) : wsframe_Turn.f (l.length + 1 + c) l k = some (turned l k) := by
 unfold wsframe_Turn.f bytes_Clone.f
 rw [if_pos (by omega), key_f]
 have := turn_loop l k (by omega) c l.length 0 (by omega)
 simpa using this
end Go.Proofs.YtpmeapdcjmaeiaaDoor.PAll
namespace Go.Proofs.YtpmeapdcjmaeiaaDoor
open Go.RowKit Go.Proofs.YtpmeapdcjmaeiaaDoorW.PrintWords Go.Proofs.YtpmeapdcjmaeiaaDoorW.PrintLast Go.Proofs.YtpmeapdcjmaeiaaDoorW.PrintMore Go.Proofs.YtpmeapdcjmaeiaaDoor.PAll
theorem rd_app (l x : List Int) (i : Int) (h : i.toNat < l.length) : rd (l ++ x) i = rd l i := by
 unfold rd
 rw [List.getD_eq_getElem?_getD, List.getD_eq_getElem?_getD, List.getElem?_append_left h]
theorem val_app (l x : List Int) (i : Nat) : ∀ n, i + n ≤ l.length → val (l ++ x) i n = val l i n
 | 0, _ => rfl
 | n + 1, h => by
  show val (l ++ x) i n * 256 + rd (l ++ x) ((i + n : Nat) : Int) = val l i n * 256 + rd l ((i + n : Nat) : Int)
  rw [val_app l x i n (by omega), rd_app _ _ _ (by omega)]
theorem lenF_app (l x : List Int) (h2 : 2 ≤ l.length) (h : (lenF l).2.2.1 = false) : lenF (l ++ x) = lenF l := by
 unfold lenF at h ⊢
 rw [rd_app l x 1 (by simp; omega), List.length_append]
 by_cases h6 : rd l 1 % 128 = 126
 ·rw [if_pos h6] at h
  rw [if_pos h6, if_pos h6]
  by_cases h4 : l.length < 4
  ·rw [if_pos h4] at h; cases h
  ·rw [if_neg h4, if_neg (by omega), val_app _ _ _ _ (by omega)]
 ·rw [if_neg h6] at h
  rw [if_neg h6, if_neg h6]
  by_cases h7 : rd l 1 % 128 = 127
  ·rw [if_pos h7] at h
   rw [if_pos h7, if_pos h7]
   by_cases h4 : l.length < 10
   ·rw [if_pos h4] at h; cases h
   ·rw [if_neg h4, if_neg (by omega), val_app _ _ _ _ (by omega)]
  ·rw [if_neg h7, if_neg h7]
theorem lenF_need (l x : List Int) (h2 : 2 ≤ l.length) (hm : (lenF (l ++ x)).2.2.1 = false) (hc : (lenF (l ++ x)).2.2.2 = 0) (hu : (lenF (l ++ x)).2.1 ≤ l.length) : (lenF l).2.2.1 = false := by
 unfold lenF at hm hc hu ⊢
 rw [rd_app l x 1 (by simp; omega), List.length_append] at hm hc hu
 by_cases h6 : rd l 1 % 128 = 126
 ·rw [if_pos h6] at hm hc hu ⊢
  by_cases h4 : l.length < 4
  ·exfalso
   by_cases h5 : l.length + x.length < 4
   ·rw [if_pos h5] at hm; cases hm
   ·rw [if_neg h5] at hc hu
    split at hc
    ·cases hc
    ·rename_i h8
     rw [if_neg h8] at hu
     dsimp only at hu
     omega
  ·rw [if_neg h4]; split <;> rfl
 ·rw [if_neg h6] at hm hc hu ⊢
  by_cases h7 : rd l 1 % 128 = 127
  ·rw [if_pos h7] at hm hc hu ⊢
   by_cases h4 : l.length < 10
   ·exfalso
    by_cases h5 : l.length + x.length < 10
    ·rw [if_pos h5] at hm; cases hm
    ·rw [if_neg h5] at hc hu
     split at hc
     ·cases hc
     ·rename_i h8
      rw [if_neg h8] at hu
      dsimp only at hu
      omega
   ·rw [if_neg h4]; split <;> rfl
  ·rw [if_neg h7]
theorem headF_app (l x : List Int) (m : Bool) (h : (headF l m).2.2.1 = false) : headF (l ++ x) m = headF l m := by
 unfold headF at h ⊢
 rw [List.length_append]
 by_cases h0 : l.length = 0
 ·rw [if_pos h0] at h; cases h
 ·rw [if_neg h0] at h
  rw [if_neg h0, if_neg (show ¬ l.length + x.length = 0 by omega), rd_app l x 0 (by simp; omega)]
  by_cases h1 : rd l 0 / 16 % 8 ≠ 0 ∨ knownB (rd l 0 % 16) = false ∨ (8 ≤ rd l 0 % 16 ∧ rd l 0 < 128)
  ·rw [if_pos h1, if_pos h1]
  ·rw [if_neg h1] at h
   rw [if_neg h1, if_neg h1]
   by_cases h2 : l.length = 1
   ·rw [if_pos h2] at h; cases h
   ·rw [if_neg h2] at h
    rw [if_neg h2, if_neg (show ¬ l.length + x.length = 1 by omega), rd_app l x 1 (by simp; omega)]
    by_cases h3 : decide (128 ≤ rd l 1) ≠ m ∨ (8 ≤ rd l 0 % 16 ∧ 126 ≤ rd l 1 % 128)
    ·rw [if_pos h3, if_pos h3]
    ·rw [if_neg h3] at h
     rw [if_neg h3, if_neg h3]
     by_cases h4 : (lenF l).2.2.1 = true
     ·rw [if_pos h4] at h; cases h
     ·rw [lenF_app l x (by omega) (by simpa using h4)]
theorem headF_need (l x : List Int) (m : Bool) (h2 : 2 ≤ l.length) (hm : (headF (l ++ x) m).2.2.1 = false) (hc : (headF (l ++ x) m).2.2.2 = 0) (hf : (headF (l ++ x) m).1 ≤ l.length) : headF (l ++ x) m = headF l m := by
 apply headF_app
 unfold headF at hm hc hf ⊢
 rw [List.length_append, rd_app l x 0 (by simp; omega), rd_app l x 1 (by simp; omega)] at hm hc hf
 rw [if_neg (show ¬ l.length + x.length = 0 by omega)] at hm hc hf
 rw [if_neg (show ¬ l.length = 0 by omega)]
 by_cases h1 : rd l 0 / 16 % 8 ≠ 0 ∨ knownB (rd l 0 % 16) = false ∨ (8 ≤ rd l 0 % 16 ∧ rd l 0 < 128)
 ·rw [if_pos h1]
 ·rw [if_neg h1] at hm hc hf ⊢
  rw [if_neg (show ¬ l.length + x.length = 1 by omega)] at hm hc hf
  rw [if_neg (show ¬ l.length = 1 by omega)]
  by_cases h3 : decide (128 ≤ rd l 1) ≠ m ∨ (8 ≤ rd l 0 % 16 ∧ 126 ≤ rd l 1 % 128)
  ·rw [if_pos h3]
  ·rw [if_neg h3] at hm hc hf ⊢
   by_cases h4 : (lenF (l ++ x)).2.2.1 = true
   ·rw [if_pos h4] at hm; cases hm
   ·rw [if_neg h4] at hc hf
    by_cases h5 : (lenF (l ++ x)).2.2.2 ≠ 0
    ·rw [if_pos h5] at hc; cases hc
    ·rw [if_neg h5] at hc hf
     by_cases h6 : 4096 < (lenF (l ++ x)).1
     ·rw [if_pos h6] at hc; cases hc
     ·rw [if_neg h6] at hf
      have h7 := lenF_need l x h2 (by simpa using h4) (by omega) (by have : 0 ≤ (if m = true then (4 : Int) else 0) := by split <;> decide
                                                                     dsimp only at hf
                                                                     omega)
      rw [if_neg (by rw [h7]; decide)]
      split
      ·rfl
      ·split <;> rfl
abbrev Pc := PAll.S52
def code1 (l : List Int) (m : Bool) : Int := (headF l m).2.2.2
def size1 (l : List Int) (m : Bool) : Nat := ((headF l m).1 + (headF l m).2.1).toNat
structure IsFr (l : List Int) (m : Bool) : Prop where
 code : code1 l m = 0
 told : (headF l m).2.2.1 = false
 room : size1 l m ≤ l.length
def dataOf (l : List Int) (m : Bool) : List Int := if m = true then turned (rawOf l m) (keyIn l m) else rawOf l m
def pieceOf (l : List Int) (m : Bool) : Pc := ⟨decide (128 ≤ rd l 0), rd l 0 % 16, m, keyIn l m, dataOf l m⟩
inductive AllP (m : Bool) : List Int → List Pc → Int → List Int → Prop
 | bad {l : List Int} : code1 l m ≠ 0 → AllP m l [] (code1 l m) []
 | stop {l : List Int} : code1 l m = 0 → ¬ IsFr l m → AllP m l [] 0 l
 | frame {l : List Int} {ps : List Pc} {c : Int} {r : List Int} : IsFr l m → AllP m (l.drop (size1 l m)) ps c r → AllP m l (pieceOf (l.take (size1 l m)) m :: ps) c r
theorem IsFr.min {l : List Int} {m : Bool} (h : IsFr l m) (hl : l.all isByte = true) : 2 ≤ (headF l m).1 ∧ 0 ≤ (headF l m).2.1 ∧ (headF l m).1 ≤ 8 ∧ (headF l m).2.1 ≤ 4096 ∧ ((size1 l m : Nat) : Int) = (headF l m).1 + (headF l m).2.1 := by
 have h1 := headF_front hl m h.code h.told
 have h2 := headF_bounds hl m
 unfold size1
 omega
theorem IsFr.app {l : List Int} {m : Bool} (h : IsFr l m) (x : List Int) : IsFr (l ++ x) m ∧ size1 (l ++ x) m = size1 l m := by
 have e := headF_app l x m h.told
 have h3 := h.room
 unfold size1 at h3
 refine ⟨⟨by unfold code1; rw [e]; exact h.code, by rw [e]; exact h.told, by unfold size1; rw [e, List.length_append]; omega⟩, by unfold size1; rw [e]⟩
theorem IsFr.cut {l : List Int} {m : Bool} (h : IsFr l m) (hl : l.all isByte = true) : headF (l.take (size1 l m)) m = headF l m := by
 have h1 := h.min hl
 have h3 := h.room
 have e : l.take (size1 l m) ++ l.drop (size1 l m) = l := List.take_append_drop _ _
 have hlen : (l.take (size1 l m)).length = size1 l m := by rw [List.length_take]; omega
 have h4 := headF_need (l.take (size1 l m)) (l.drop (size1 l m)) m (by omega)
 rw [e] at h4
 exact (h4 h.told h.code (by omega)).symm
theorem IsFr.bad {l : List Int} {m : Bool} (h : IsFr l m) (hl : l.all isByte = true) : getBad (l.take (size1 l m)) m = 0 := by
 have h1 := h.min hl
 have h3 := h.room
 have hlen : (l.take (size1 l m)).length = size1 l m := by rw [List.length_take]; omega
 have hc := h.code
 unfold code1 at hc
 unfold getBad
 rw [h.cut hl, if_neg (by omega), if_neg (by rw [h.told]; decide), if_neg (by omega)]
theorem code1_told {l : List Int} {m : Bool} (h : code1 l m ≠ 0) : (headF l m).2.2.1 = false := by
 unfold code1 headF at h
 unfold headF
 by_cases h0 : l.length = 0
 ·rw [if_pos h0] at h; exact absurd rfl h
 ·rw [if_neg h0] at h ⊢
  split
  ·rfl
  ·rename_i h1
   rw [if_neg h1] at h
   by_cases h2 : l.length = 1
   ·rw [if_pos h2] at h; exact absurd rfl h
   ·rw [if_neg h2] at h ⊢
    split
    ·rfl
    ·rename_i h3
     rw [if_neg h3] at h
     by_cases h4 : (lenF l).2.2.1 = true
     ·rw [if_pos h4] at h; exact absurd rfl h
     ·rw [if_neg h4]
      split
      ·rfl
      ·split <;> rfl
theorem drop_byte {l : List Int} (hl : l.all isByte = true) (n : Nat) : (l.drop n).all isByte = true := by
 rw [List.all_eq_true] at hl ⊢
 exact fun x hx => hl x (List.mem_of_mem_drop hx)
theorem take_byte {l : List Int} (hl : l.all isByte = true) (n : Nat) : (l.take n).all isByte = true := by
 rw [List.all_eq_true] at hl ⊢
 exact fun x hx => hl x (List.mem_of_mem_take hx)
theorem app_byte {l x : List Int} (hl : l.all isByte = true) (hx : x.all isByte = true) : (l ++ x).all isByte = true := by rw [List.all_append, hl, hx]; rfl
theorem AllP.total (m : Bool) : ∀ (n : Nat) (l : List Int), l.all isByte = true → l.length ≤ n → ∃ ps c r, AllP m l ps c r := by
 intro n
 induction n with
 | zero =>
  intro l hl hn
  by_cases hc : code1 l m = 0
  ·refine ⟨_, _, _, .stop hc (fun h => ?_)⟩
   have := h.min hl
   have := h.room
   omega
  ·exact ⟨_, _, _, .bad hc⟩
 | succ n ih =>
  intro l hl hn
  by_cases hc : code1 l m = 0
  ·by_cases hf : IsFr l m
   ·have h1 := hf.min hl
    have h2 := hf.room
    obtain ⟨ps, c, r, h⟩ := ih (l.drop (size1 l m)) (drop_byte hl _) (by rw [List.length_drop]; omega)
    exact ⟨_, _, _, .frame hf h⟩
   ·exact ⟨_, _, _, .stop hc hf⟩
  ·exact ⟨_, _, _, .bad hc⟩
theorem HeadF_bad {l : List Int} {m : Bool} (h : code1 l m ≠ 0) : HeadF l m = (0, 3, code1 l m, true) := by
 unfold HeadF
 unfold code1 at h ⊢
 rw [if_pos h]
theorem HeadF_fr {l : List Int} {m : Bool} (hl : l.all isByte = true) (h : IsFr l m) : HeadF l m = (((size1 l m : Nat) : Int), 0, 0, true) := by
 have h1 := h.min hl
 have hc := h.code
 unfold code1 at hc
 unfold HeadF
 rw [if_neg (by omega), if_neg (by rw [h.told]; decide), h1.2.2.2.2]
theorem HeadF_not {l : List Int} {m : Bool} (hl : l.all isByte = true) (hc : code1 l m = 0) (h : ¬ IsFr l m) : HeadF l m = (0, 0, 0, false) ∨ ∃ r1 : Int, HeadF l m = (r1, 0, 0, true) ∧ (l.length : Int) < r1 := by
 have hb := headF_bounds hl m
 by_cases ht : (headF l m).2.2.1 = true
 ·left
  unfold code1 at hc
  unfold HeadF
  rw [if_neg (by omega), if_pos ht]
 ·right
  refine ⟨(headF l m).1 + (headF l m).2.1, ?_, ?_⟩
  ·unfold code1 at hc
   unfold HeadF
   rw [if_neg (by omega), if_neg ht]
  ·by_cases hr : size1 l m ≤ l.length
   ·exact absurd ⟨hc, by simpa using ht, hr⟩ h
   ·unfold size1 at hr; omega
theorem full_told {l : List Int} {m : Bool} (hl : l.all isByte = true) (h : 4110 ≤ l.length) : code1 l m ≠ 0 ∨ IsFr l m := by
 by_cases hc : code1 l m = 0
 ·right
  have hb := headF_bounds hl m
  have ht : (headF l m).2.2.1 = false := by
   unfold headF
   rw [if_neg (by omega)]
   split
   ·rfl
   ·rw [if_neg (by omega)]
    split
    ·rfl
    ·have hn : (lenF l).2.2.1 = false := by
      unfold lenF
      split
      ·rw [if_neg (by omega)]; split <;> rfl
      ·split
       ·rw [if_neg (by omega)]; split <;> rfl
       ·rfl
     rw [if_neg (by rw [hn]; decide)]
     split
     ·rfl
     ·split <;> rfl
  exact ⟨hc, ht, by unfold size1; omega⟩
 ·exact .inl hc
end Go.Proofs.YtpmeapdcjmaeiaaDoor
namespace Go.Proofs.YtpmeapdcjmaeiaaDoor
open Go.RowKit Go.Proofs.YtpmeapdcjmaeiaaDoorW.PrintWords Go.Proofs.YtpmeapdcjmaeiaaDoorW.PrintLast Go.Proofs.YtpmeapdcjmaeiaaDoorW.PrintMore Go.Proofs.YtpmeapdcjmaeiaaDoor.PAll
def IsOut (W : World) (base : Nat) (v : Value) (ps : List Pc) : Prop := ∃ cs, W.ownsRow base 52 5 v ps.length cs ∧ Reps (fun (p : Pc) (c : List Value) => ∃ u, c = [.bool p.f0, .int .u8 p.f1, .bool p.f2, .int .u32 p.f3, u] ∧ Dat W u p.f4) 5 ps cs
theorem IsOut.nil (W : World) (base : Nat) : IsOut W base (.slice none 0 0) [] := ⟨[], own_nil _ _ _ _, Reps.none _ _⟩
theorem IsOut.move {W W' : World} {base : Nat} {v : Value} {ps : List Pc} (h : IsOut W base v ps) (hv : ∀ k, v.ownBlock = some k → W'.heap[k]? = W.heap[k]?) (hd : ∀ (u : Value) (xs : List Int), Dat W u xs → Dat W' u xs) : IsOut W' base v ps := by
 obtain ⟨cs, h1, h2⟩ := h
 exact ⟨cs, own_move h1 hv, h2.imp_ (fun p c ⟨u, e, hu⟩ => ⟨u, e, hd _ _ hu⟩)⟩
theorem IsOut.below {W W' : World} {base : Nat} {v : Value} {ps : List Pc} (h : IsOut W base v ps) (hb : Below W.heap.size W W') : IsOut W' base v ps :=
 h.move (fun k hk => by obtain ⟨cs, h1, _⟩ := h; exact hb.block k (own_lt h1 k hk)) (fun u xs hd => hd.below hb)
theorem Dat.grown {W W' : World} {base n size : Nat} {v u : Value} {cs : List Value} {xs : List Int} (h : Dat W u xs) (ho : W.ownsRow base 52 size v n cs) (hg : W.grownBy W' v.ownBlock) : Dat W' u xs := by
 refine h.keep (fun k hk => hg.block k (h.lt hk) (fun e => ?_))
 obtain ⟨c1, h1⟩ := own_typed ho k e.symm
 obtain ⟨c2, fr, h2⟩ := h.typed hk
 rw [h1] at h2
 injection h2 with h2
 injection h2 with _ h2 _
 exact absurd h2 (by decide)
theorem IsOut.snoc {W w1 : World} {base : Nat} {v v1 u : Value} {ps : List Pc} {p : Pc} {cs : List Value} (ho : W.ownsRow base 52 5 v ps.length cs) (hr : Reps (fun (p : Pc) (c : List Value) => ∃ u, c = [.bool p.f0, .int .u8 p.f1, .bool p.f2, .int .u32 p.f3, u] ∧ Dat W u p.f4) 5 ps cs) (hu : Dat W u p.f4)
  (h1 : w1.ownsRow base 52 5 v1 (ps.length + 1) (cs ++ [.bool p.f0, .int .u8 p.f1, .bool p.f2, .int .u32 p.f3, u])) (hg : W.grownBy w1 v.ownBlock) : IsOut w1 base v1 (ps ++ [p]) :=
 ⟨_, by rw [List.length_append]; exact h1, (hr.imp_ (fun p c ⟨u, e, hu⟩ => ⟨u, e, hu.grown ho hg⟩)).snoc ⟨u, rfl, hu.grown ho hg⟩ rfl⟩
end Go.Proofs.YtpmeapdcjmaeiaaDoor
namespace Go.Proofs.YtpmeapdcjmaeiaaDoor
open Go.RowKit Go.Proofs.YtpmeapdcjmaeiaaDoorW.PrintWords Go.Proofs.YtpmeapdcjmaeiaaDoorW.PrintLast Go.Proofs.YtpmeapdcjmaeiaaDoorW.PrintMore
attribute [local go_sem] max2_int min2_int max_two min_two
structure Sp (wb W : World) (g : Nat) (v : Value) (m bad : Bool) (l : List Int) : Prop where
 blk : W.heap[g]? = some (.cells #[v, .bool m, .bool bad] 71 (0, 0))
 row : Kd.R (Kd.int .u8) 5 W wb.heap.size (fun _ => True) v l
theorem Sp.below {wb W W' : World} {g : Nat} {v : Value} {m bad : Bool} {l : List Int} (h : Sp wb W g v m bad l) (hb : Below W.heap.size W W') : Sp wb W' g v m bad l := ⟨blk_below h.blk hb, Kd.R_below h.row hb⟩
theorem Sp.ne {wb W : World} {g : Nat} {v : Value} {m bad : Bool} {l : List Int} (h : Sp wb W g v m bad l) : some g ≠ v.ownBlock := Kd.R_ne h.row h.blk (by decide)
theorem split_new (m : Bool) (wb w : World) (hB : Below wb.heap.size wb w) : Calls Tryd.prog 12 #[.bool m] w fun e w' => e = .returned (.pointer (some ⟨w.heap.size, 0, none⟩)) ∧ Sp wb w' w.heap.size (.slice none 0 0) m false [] ∧ Below w.heap.size w w' := by
 have HB := Aside0.mk hB
 clear hB
 go_enter Tryd.func12, Tryd.ntmps12
 go_wp2
 go_ret
 exact ⟨rfl, ⟨last_at _ _ _ rfl, Kd.R_nil _ _ _ _ _⟩, below_alloc (Below.refl _ _) _⟩
theorem split_bad_any (g : Nat) (bad : Bool) (w : World) (h : w.cell? ⟨g, 2, none⟩ = some (.bool bad)) : Calls Tryd.prog 32 #[.pointer (some ⟨g, 0, none⟩)] w fun e w' => e = .returned (.bool bad) ∧ w = w' := by
 go_enter Tryd.func32, Tryd.ntmps32
 go_wp2
 go_ret
 exact ⟨rfl, rfl⟩
theorem split_bad_nil (w : World) : Calls Tryd.prog 32 #[.pointer none] w fun e w' => e = .returned (.bool true) ∧ w = w' := by
 go_enter Tryd.func32, Tryd.ntmps32
 go_wp2
 go_ret
 exact ⟨rfl, rfl⟩
theorem split_feed_nil (A : Option Addr) (n c : Nat) (w : World) : Calls Tryd.prog 20 #[.pointer none, .slice A n c] w fun e w' => e = .returned (.int .i64 0) ∧ w = w' := by
 go_enter Tryd.func20, Tryd.ntmps20
 go_wp2_with fail
 refine (split_bad_nil _).mono ?_
 rintro e w1 ⟨rfl, rfl⟩
 go_wp2_with fail
 go_ret
 exact ⟨rfl, rfl⟩
end Go.Proofs.YtpmeapdcjmaeiaaDoor
namespace Go.Proofs.YtpmeapdcjmaeiaaDoor
open Go.RowKit Go.Proofs.YtpmeapdcjmaeiaaDoorW.PrintWords Go.Proofs.YtpmeapdcjmaeiaaDoorW.PrintLast Go.Proofs.YtpmeapdcjmaeiaaDoorW.PrintMore
attribute [local go_sem] max2_int min2_int max_two min_two
def FeedPost (wb : World) (g : Nat) (v : Value) (m : Bool) (l : List Int) (n : Int) (w : World) (e : Ending) (w' : World) : Prop := ∃ v', e = .returned (.int .i64 n) ∧ Sp wb w' g v' m false l ∧ Below wb.heap.size wb w' ∧ w.heap.size ≤ w'.heap.size ∧ (∀ k, k < w.heap.size → k ≠ g → some k ≠ v.ownBlock → w'.heap[k]? = w.heap[k]?) ∧ (v'.ownBlock = v.ownBlock ∨ ∃ b, v'.ownBlock = some b ∧ w.heap.size ≤ b)
theorem FeedPost.mk {wb : World} {g : Nat} {v v' : Value} {m : Bool} {l : List Int} {n : Int} {w w' : World} (h1 : Sp wb w' g v' m false l) (h2 : Below wb.heap.size wb w') (h3 : w.heap.size ≤ w'.heap.size) (h4 : ∀ k, k < w.heap.size → k ≠ g → some k ≠ v.ownBlock → w'.heap[k]? = w.heap[k]?) (h5 : v'.ownBlock = v.ownBlock ∨ ∃ b, v'.ownBlock = some b ∧ w.heap.size ≤ b) : FeedPost wb g v m l n w (.returned (.int .i64 n)) w' := ⟨v', rfl, h1, h2, h3, h4, h5⟩
set_option maxHeartbeats 8000000 in
set_option maxRecDepth 100000 in
theorem split_feed_fit (wb w : World) (g : Nat) (v : Value) (m : Bool) (l xs : List Int) (A : Option Addr) (c : Nat) (h : Sp wb w g v m false l) (hB : Below wb.heap.size wb w) (hgb : wb.heap.size ≤ g) (hC : Kd.C (Kd.int .u8) w A xs.length xs) (hc : xs.length ≤ c) (hfit : l.length + xs.length ≤ 4110) : Calls Tryd.prog 20 #[.pointer (some ⟨g, 0, none⟩), .slice A xs.length c] w (FeedPost wb g v m (l ++ xs) xs.length w) := by
 obtain ⟨Av, cv, rfl⟩ := Kd.R_slice h.row
 have hgl := blk_lt h.blk
 have c0 : w.cell? ⟨g, 0, none⟩ = some (.slice Av l.length cv) := (blk_cell h.blk 0).trans rfl
 have c2 : w.cell? ⟨g, 2, none⟩ = some (.bool false) := (blk_cell h.blk 2).trans rfl
 have hinfo : (Tryd.prog.info? 5).map (fun i => (i.zero, i.size, i.bytes)) = some (some (.int .u8 0), 1, 1) := by kernel_rfl
 have HI := Aside0.mk hinfo
 have HS := Aside0.mk h
 have HC := Aside0.mk hC
 have HB := Aside0.mk hB
 clear h hC hB hinfo
 obtain ⟨d, hd⟩ : ∃ d : Int, d = 4110 - (l.length : Int) := ⟨_, rfl⟩
 have hw : IntKind.i64.wrap (4110 - (l.length : Int)) = d := by rw [i64_w]; unfold wrap64; omega
 have hlt : ¬ d < (xs.length : Int) := by omega
 have hlt2 : decide (d < (xs.length : Int)) = false := decide_eq_false hlt
 have p1 : (xs.length : Int) ≤ (c : Int) := by omega
 have p0 : (0 : Int) ≤ (xs.length : Int) := by omega
 have HD := Aside0.mk hd
 clear hd
 go_enter Tryd.func20, Tryd.ntmps20
 go_wp2_with fail
 refine (split_bad_any g false _ c2).mono ?_
 rintro e w1 ⟨rfl, rfl⟩
 go_wp2_with fail
 refine start_ (n := 12) (S := fun w' => w'.cell? ⟨g, 0, none⟩ = some (.slice Av l.length cv)) (ds := [11]) #[false, false, false, false, false, false, false, false, false, false, false, false] (by kernel_rfl) rfl rfl (c0) (fun hHeld => ?_)
 refine pure_ (i := 0) (N := (some 17)) (v := ?_) (a' := ?_) #[true, false, false, false, false, false, false, false, false, false, false, false] rfl rfl (by kernel_rfl) (fun _ _ _ h => h) (Or.inl ⟨by rfl, ?_⟩) ?_ ?_
 rotate_left
 ·intro w'
  go_simp
  first | done | with_reducible rfl
 rotate_left
 ·simp only [Act.put, z1_, z2_, z3_, i64_w, i32_w]
  rfl
 refine pure_ (i := 1) (N := (some 18)) (v := ?_) (a' := ?_) #[true, true, false, false, false, false, false, false, false, false, false, false] rfl rfl (by kernel_rfl) (fun _ _ _ h => h) (Or.inl ⟨by rfl, ?_⟩) ?_ ?_
 rotate_left
 ·intro w'
  go_simp
  first | done | with_reducible rfl
 rotate_left
 ·simp only [Act.put, z1_, z2_, z3_, i64_w, i32_w]
  rfl
 refine pure_ (i := 2) (N := (some 19)) (v := ?_) (a' := ?_) #[true, true, true, false, false, false, false, false, false, false, false, false] rfl rfl (by kernel_rfl) (fun _ _ _ h => h) (Or.inl ⟨by rfl, ?_⟩) ?_ ?_
 rotate_left
 ·intro w'
  go_simp
  first | done | with_reducible rfl
 rotate_left
 ·simp only [Act.put, z1_, z2_, z3_, i64_w, i32_w]
  rfl
 refine pure_ (i := 3) (N := (some 20)) (v := ?_) (a' := ?_) #[true, true, true, true, false, false, false, false, false, false, false, false] rfl rfl (by kernel_rfl) (fun _ _ _ h => h) (Or.inl ⟨by rfl, ?_⟩) ?_ ?_
 rotate_left
 ·intro w'
  go_simp
  first | done | with_reducible rfl
 rotate_left
 ·simp only [Act.put, z1_, z2_, z3_, i64_w, i32_w]
  rfl
 refine take_ (i := 4) (N := (some 21)) (v := ?_) (a' := ?_) #[true, true, true, true, true, false, false, false, false, false, false, false] rfl rfl (by kernel_rfl) (fun _ _ _ h => h) (Or.inl ⟨by rfl, ?_⟩) hHeld ?_ ?_
 rotate_left
 ·rintro w' s0
  go_simp
  first | done | with_reducible rfl
 rotate_left
 ·simp only [Act.put, z1_, z2_, z3_, i64_w, i32_w]
  rfl
 refine pure_ (i := 5) (N := (some 22)) (v := ?_) (a' := ?_) #[true, true, true, true, true, true, false, false, false, false, false, false] rfl rfl (by kernel_rfl) (fun _ _ _ h => h) (Or.inl ⟨by rfl, ?_⟩) ?_ ?_
 rotate_left
 ·intro w'
  go_simp
  first | done | with_reducible rfl
 rotate_left
 ·simp only [Act.put, z1_, z2_, z3_, i64_w, i32_w]
  rfl
 refine pure_ (i := 6) (N := (some 23)) (v := ?_) (a' := ?_) #[true, true, true, true, true, true, true, false, false, false, false, false] rfl rfl (by kernel_rfl) (fun _ _ _ h => h) (Or.inl ⟨by rfl, ?_⟩) ?_ ?_
 rotate_left
 ·intro w'
  go_simp
  first | done | with_reducible rfl
 rotate_left
 ·simp only [Act.put, z1_, z2_, z3_, i64_w, i32_w]
  rfl
 refine pure_ (i := 7) (N := (some 24)) (v := ?_) (a' := ?_) #[true, true, true, true, true, true, true, true, false, false, false, false] rfl rfl (by kernel_rfl) (fun _ _ _ h => h) (Or.inl ⟨by rfl, ?_⟩) ?_ ?_
 rotate_left
 ·intro w'
  go_simp
  first | done | with_reducible rfl
 rotate_left
 ·simp only [Act.put, z1_, z2_, z3_, i64_w, i32_w]
  rfl
 refine one_ (i := 8) (N := (some 25)) #[true, true, true, true, true, true, true, true, true, false, false, false] rfl rfl (by kernel_rfl) (by decide) (fun K hK => ?_)
 refine Kd.R_append_rows_step (Kd.int .u8) (w0 := wb) wb.heap.size (by rfl) (.tmp 21) (.tmp 24) 26 5 (.int .u8 0) 1 rfl Tryd.underlying26 HI.out rfl (by decide) (by omega) (.slice Av l.length cv) l xs _ _ _ (fun _ => True) (fun _ => False) rfl rfl ?aO ?aR (fun _ _ h => h) (fun _ h => h.elim) ?aF ?aB ?aS ?aL ?_
 (case aO => exact Kd.R_drew HS.out.row)
 (case aR => exact Kd.C_drew HC.out)
 (case aF => exact fun _ _ => trivial)
 (case aB => exact below_drew HB.out)
 (case aS => exact HB.out.size)
 (case aL => omega)
 intro v1 w1 ho hb hg1 hat
 obtain ⟨A1, c1, e1⟩ := Kd.R_slice ho
 obtain ⟨mm, hmm⟩ : ∃ mm, mm = (l ++ xs).length := ⟨_, rfl⟩
 rw [← hmm] at e1
 clear hmm
 subst e1
 have hk1 : w1.heap[g]? = some (.cells #[.slice Av l.length cv, .bool m, .bool false] 71 (0, 0)) := blk_grown (blk_drew HS.out.blk) hg1 HS.out.ne
 have g0 : w1.cell? ⟨g, 0, none⟩ = some (.slice Av l.length cv) := (blk_cell hk1 0).trans rfl
 have gf0 := blk_frozen hk1 0
 have gl := blk_lt hk1
 have HK1 := Aside0.mk hk1
 have HO := Aside0.mk ho
 have HB1 := Aside0.mk hb
 have HG1 := Aside0.mk hg1
 have HAT := Aside0.mk hat
 clear hk1 ho hb hg1 hat
 refine hK.out _ _ (g0) (fun hHeld => ?_)
 clear hK K
 refine norm_ (a' := ?_) ?_ ?_
 rotate_left
 ·show Act.put _ (some 25) _ = _
  simp only [Act.put, z1_, z2_, z3_, i64_w, i32_w]
  rfl
 refine pure_ (i := 9) (N := (some 26)) (v := ?_) (a' := ?_) #[true, true, true, true, true, true, true, true, true, true, false, false] rfl rfl (by kernel_rfl) (fun _ _ _ h => h) (Or.inl ⟨by rfl, ?_⟩) ?_ ?_
 rotate_left
 ·intro w'
  go_simp
  first | done | with_reducible rfl
 rotate_left
 ·simp only [Act.put, z1_, z2_, z3_, i64_w, i32_w]
  rfl
 refine pure_ (i := 10) (N := (some 27)) (v := ?_) (a' := ?_) #[true, true, true, true, true, true, true, true, true, true, true, false] rfl rfl (by kernel_rfl) (fun _ _ _ h => h) (Or.inl ⟨by rfl, ?_⟩) ?_ ?_
 rotate_left
 ·intro w'
  go_simp
  first | done | with_reducible rfl
 rotate_left
 ·simp only [Act.put, z1_, z2_, z3_, i64_w, i32_w]
  rfl
 refine last_ (i := 11) (N := none) #[true, true, true, true, true, true, true, true, true, true, true, true] rfl rfl (by kernel_rfl) (by decide) (fun K hK => ?_)
 go_simp
 refine hK.out _ _ ?_
 clear hK K
 refine done_ (by kernel_rfl) ?_
 go_wp2_with fail
 have hne1 : (Value.slice A1 mm c1).ownBlock ≠ some g := fun e => Kd.R_ne HO.out HK1.out (by decide) e.symm
 go_ret
 refine FeedPost.mk (v' := .slice A1 mm c1) ⟨blk_put HK1.out 0 _ rfl, Kd.R_mono (Kd.R_far (Kd.R_types HO.out HK1.out (by intro q hq; simp [Kd.int, Kd.scalar] at hq; omega)) (p := ⟨g, 0, none⟩) (fun k hk => hk.2) _) (fun _ _ => trivial)⟩ (Below.setCell HB1.out hgb _) (by simpa [World.setCell] using HG1.out.size) (fun k hk hkg hkv => (Below.heap_setCell _ _ _ _ hkg).trans (HG1.out.block k hk hkv)) HAT.out
end Go.Proofs.YtpmeapdcjmaeiaaDoor
namespace Go.Proofs.YtpmeapdcjmaeiaaDoor
open Go.RowKit Go.Proofs.YtpmeapdcjmaeiaaDoorW.PrintWords Go.Proofs.YtpmeapdcjmaeiaaDoorW.PrintLast Go.Proofs.YtpmeapdcjmaeiaaDoorW.PrintMore
attribute [local go_sem] max2_int min2_int max_two min_two
set_option maxHeartbeats 8000000 in
set_option maxRecDepth 100000 in
theorem split_feed_less (wb w : World) (g : Nat) (v : Value) (m : Bool) (l xs tk : List Int) (A : Option Addr) (c : Nat) (h : Sp wb w g v m false l) (hB : Below wb.heap.size wb w) (hgb : wb.heap.size ≤ g) (hC : Kd.C (Kd.int .u8) w A xs.length xs) (hc : xs.length ≤ c) (hl : l.length ≤ 4110) (hfit : 4110 < l.length + xs.length) (htk : xs.take (4110 - l.length) = tk) : Calls Tryd.prog 20 #[.pointer (some ⟨g, 0, none⟩), .slice A xs.length c] w (FeedPost wb g v m (l ++ tk) tk.length w) := by
 obtain ⟨Av, cv, rfl⟩ := Kd.R_slice h.row
 have hgl := blk_lt h.blk
 have c0 : w.cell? ⟨g, 0, none⟩ = some (.slice Av l.length cv) := (blk_cell h.blk 0).trans rfl
 have c2 : w.cell? ⟨g, 2, none⟩ = some (.bool false) := (blk_cell h.blk 2).trans rfl
 have hinfo : (Tryd.prog.info? 5).map (fun i => (i.zero, i.size, i.bytes)) = some (some (.int .u8 0), 1, 1) := by kernel_rfl
 have HI := Aside0.mk hinfo
 have HS := Aside0.mk h
 have HB := Aside0.mk hB
 clear h hB hinfo
 obtain ⟨d, hd⟩ : ∃ d : Int, d = 4110 - (l.length : Int) := ⟨_, rfl⟩
 have hw : IntKind.i64.wrap (4110 - (l.length : Int)) = d := by rw [i64_w]; unfold wrap64; omega
 have hlt : d < (xs.length : Int) := by omega
 have hlt2 : decide (d < (xs.length : Int)) = true := decide_eq_true hlt
 have hd0 : (0 : Int) ≤ d := by omega
 have hdm : d ≤ (xs.length : Int) := by omega
 obtain ⟨i_, hi_⟩ : ∃ i, Tryd.prog.info? 5 = some i := by
  have h : (Tryd.prog.info? 5).isSome = true := by kernel_rfl
  exact Option.isSome_iff_exists.1 h
 have hsz_ : i_.size = 1 := by
  have h : (Tryd.prog.info? 5).map (fun i => i.size) = some 1 := by kernel_rfl
  rw [hi_] at h
  exact Option.some.inj h
 obtain ⟨hcT, _, htc⟩ := print_take_int (P := Tryd.prog) (k := .u8) 26 5 Tryd.underlying26 hi_ hsz_ A c xs d hd0 hdm hc
 have hdn : d.toNat = 4110 - l.length := by omega
 have hCT : Aside0 (Kd.C (Kd.int .u8) w A tk.length tk) := ⟨by
  have h := Kd.C_take hC (m := d.toNat) (by omega)
  rw [hdn, htk] at h
  exact h⟩
 rw [hdn, htk] at hcT htc
 have hdl : d = (tk.length : Int) := by rw [← htk, List.length_take]; omega
 have hkl : l.length + tk.length = 4110 := by omega
 clear htk hdn hC hi_ hsz_ i_
 have HD := Aside0.mk hd
 clear hd
 go_enter Tryd.func20, Tryd.ntmps20
 go_wp2_with fail
 refine (split_bad_any g false _ c2).mono ?_
 rintro e w1 ⟨rfl, rfl⟩
 go_wp2_with fail
 refine start_ (n := 12) (S := fun w' => w'.cell? ⟨g, 0, none⟩ = some (.slice Av l.length cv)) (ds := [11]) #[false, false, false, false, false, false, false, false, false, false, false, false] (by kernel_rfl) rfl rfl (c0) (fun hHeld => ?_)
 refine pure_ (i := 0) (N := (some 17)) (v := ?_) (a' := ?_) #[true, false, false, false, false, false, false, false, false, false, false, false] rfl rfl (by kernel_rfl) (fun _ _ _ h => h) (Or.inl ⟨by rfl, ?_⟩) ?_ ?_
 rotate_left
 ·intro w'
  go_simp
  first | done | with_reducible rfl
 rotate_left
 ·simp only [Act.put, z1_, z2_, z3_, i64_w, i32_w]
  rfl
 refine pure_ (i := 1) (N := (some 18)) (v := ?_) (a' := ?_) #[true, true, false, false, false, false, false, false, false, false, false, false] rfl rfl (by kernel_rfl) (fun _ _ _ h => h) (Or.inl ⟨by rfl, ?_⟩) ?_ ?_
 rotate_left
 ·intro w'
  go_simp
  first | done | with_reducible rfl
 rotate_left
 ·simp only [Act.put, z1_, z2_, z3_, i64_w, i32_w]
  rfl
 refine pure_ (i := 2) (N := (some 19)) (v := ?_) (a' := ?_) #[true, true, true, false, false, false, false, false, false, false, false, false] rfl rfl (by kernel_rfl) (fun _ _ _ h => h) (Or.inl ⟨by rfl, ?_⟩) ?_ ?_
 rotate_left
 ·intro w'
  go_simp
  first | done | with_reducible rfl
 rotate_left
 ·simp only [Act.put, z1_, z2_, z3_, i64_w, i32_w]
  rfl
 refine pure_ (i := 3) (N := (some 20)) (v := ?_) (a' := ?_) #[true, true, true, true, false, false, false, false, false, false, false, false] rfl rfl (by kernel_rfl) (fun _ _ _ h => h) (Or.inl ⟨by rfl, ?_⟩) ?_ ?_
 rotate_left
 ·intro w'
  go_simp
  first | done | with_reducible rfl
 rotate_left
 ·simp only [Act.put, z1_, z2_, z3_, i64_w, i32_w]
  rfl
 refine take_ (i := 4) (N := (some 21)) (v := ?_) (a' := ?_) #[true, true, true, true, true, false, false, false, false, false, false, false] rfl rfl (by kernel_rfl) (fun _ _ _ h => h) (Or.inl ⟨by rfl, ?_⟩) hHeld ?_ ?_
 rotate_left
 ·rintro w' s0
  go_simp
  first | done | with_reducible rfl
 rotate_left
 ·simp only [Act.put, z1_, z2_, z3_, i64_w, i32_w]
  rfl
 refine pure_ (i := 5) (N := (some 22)) (v := ?_) (a' := ?_) #[true, true, true, true, true, true, false, false, false, false, false, false] rfl rfl (by kernel_rfl) (fun _ _ _ h => h) (Or.inl ⟨by rfl, ?_⟩) ?_ ?_
 rotate_left
 ·intro w'
  go_simp
  first | done | with_reducible rfl
 rotate_left
 ·simp only [Act.put, z1_, z2_, z3_, i64_w, i32_w]
  rfl
 refine pure_ (i := 6) (N := (some 23)) (v := ?_) (a' := ?_) #[true, true, true, true, true, true, true, false, false, false, false, false] rfl rfl (by kernel_rfl) (fun _ _ _ h => h) (Or.inl ⟨by rfl, ?_⟩) ?_ ?_
 rotate_left
 ·intro w'
  go_simp
  first | done | with_reducible rfl
 rotate_left
 ·simp only [Act.put, z1_, z2_, z3_, i64_w, i32_w]
  rfl
 refine pure_ (i := 7) (N := (some 24)) (v := ?_) (a' := ?_) #[true, true, true, true, true, true, true, true, false, false, false, false] rfl rfl (by kernel_rfl) (fun _ _ _ h => h) (Or.inl ⟨by rfl, ?_⟩) ?_ ?_
 rotate_left
 ·intro w'
  go_simp
  first | done | with_reducible rfl
 rotate_left
 ·simp only [Act.put, z1_, z2_, z3_, i64_w, i32_w]
  rfl
 refine one_ (i := 8) (N := (some 25)) #[true, true, true, true, true, true, true, true, true, false, false, false] rfl rfl (by kernel_rfl) (by decide) (fun K hK => ?_)
 refine Kd.R_append_rows_step (Kd.int .u8) (w0 := wb) wb.heap.size (by rfl) (.tmp 21) (.tmp 24) 26 5 (.int .u8 0) 1 rfl Tryd.underlying26 HI.out rfl (by decide) (by omega) (.slice Av l.length cv) l tk _ _ _ (fun _ => True) (fun _ => False) rfl rfl ?aO ?aR (fun _ _ h => h) (fun _ h => h.elim) ?aF ?aB ?aS ?aL ?_
 (case aO => exact Kd.R_drew HS.out.row)
 (case aR => exact Kd.C_drew hCT.out)
 (case aF => exact fun _ _ => trivial)
 (case aB => exact below_drew HB.out)
 (case aS => exact HB.out.size)
 (case aL => omega)
 intro v1 w1 ho hb hg1 hat
 obtain ⟨A1, c1, e1⟩ := Kd.R_slice ho
 obtain ⟨mm, hmm⟩ : ∃ mm, mm = (l ++ tk).length := ⟨_, rfl⟩
 rw [← hmm] at e1
 clear hmm
 subst e1
 have hk1 : w1.heap[g]? = some (.cells #[.slice Av l.length cv, .bool m, .bool false] 71 (0, 0)) := blk_grown (blk_drew HS.out.blk) hg1 HS.out.ne
 have g0 : w1.cell? ⟨g, 0, none⟩ = some (.slice Av l.length cv) := (blk_cell hk1 0).trans rfl
 have gf0 := blk_frozen hk1 0
 have gl := blk_lt hk1
 have HK1 := Aside0.mk hk1
 have HO := Aside0.mk ho
 have HB1 := Aside0.mk hb
 have HG1 := Aside0.mk hg1
 have HAT := Aside0.mk hat
 clear hk1 ho hb hg1 hat
 refine hK.out _ _ (g0) (fun hHeld => ?_)
 clear hK K
 refine norm_ (a' := ?_) ?_ ?_
 rotate_left
 ·show Act.put _ (some 25) _ = _
  simp only [Act.put, z1_, z2_, z3_, i64_w, i32_w]
  rfl
 refine pure_ (i := 9) (N := (some 26)) (v := ?_) (a' := ?_) #[true, true, true, true, true, true, true, true, true, true, false, false] rfl rfl (by kernel_rfl) (fun _ _ _ h => h) (Or.inl ⟨by rfl, ?_⟩) ?_ ?_
 rotate_left
 ·intro w'
  go_simp
  first | done | with_reducible rfl
 rotate_left
 ·simp only [Act.put, z1_, z2_, z3_, i64_w, i32_w]
  rfl
 refine pure_ (i := 10) (N := (some 27)) (v := ?_) (a' := ?_) #[true, true, true, true, true, true, true, true, true, true, true, false] rfl rfl (by kernel_rfl) (fun _ _ _ h => h) (Or.inl ⟨by rfl, ?_⟩) ?_ ?_
 rotate_left
 ·intro w'
  go_simp
  first | done | with_reducible rfl
 rotate_left
 ·simp only [Act.put, z1_, z2_, z3_, i64_w, i32_w]
  rfl
 refine last_ (i := 11) (N := none) #[true, true, true, true, true, true, true, true, true, true, true, true] rfl rfl (by kernel_rfl) (by decide) (fun K hK => ?_)
 go_simp
 refine hK.out _ _ ?_
 clear hK K
 refine done_ (by kernel_rfl) ?_
 go_wp2_with fail
 have hne1 : (Value.slice A1 mm c1).ownBlock ≠ some g := fun e => Kd.R_ne HO.out HK1.out (by decide) e.symm
 go_ret
 refine FeedPost.mk (v' := .slice A1 mm c1) ⟨blk_put HK1.out 0 _ rfl, Kd.R_mono (Kd.R_far (Kd.R_types HO.out HK1.out (by intro q hq; simp [Kd.int, Kd.scalar] at hq; omega)) (p := ⟨g, 0, none⟩) (fun k hk => hk.2) _) (fun _ _ => trivial)⟩ (Below.setCell HB1.out hgb _) (by simpa [World.setCell] using HG1.out.size) (fun k hk hkg hkv => (Below.heap_setCell _ _ _ _ hkg).trans (HG1.out.block k hk hkv)) HAT.out
end Go.Proofs.YtpmeapdcjmaeiaaDoor
