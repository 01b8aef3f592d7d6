/- What the law's row rests on, part 9. -/
import Derived.Test.YtpmeapdcjmaeiaaGreatDoorZ8
import Derived.Lib.SliceRun
import Derived.Deep.RegionHeld3
set_option linter.unusedVariables false
set_option linter.unusedSimpArgs false
set_option maxRecDepth 100000
set_option maxHeartbeats 16000000
namespace Go.Proofs.YtpmeapdcjmaeiaaGreatDoor
open Go.RowKit Go.Wa Go.Wb Go.Wc PAll U
inductive Stp (b : List Int) (busy te over fin : Bool) (op : Int) (d : List Int) : List Int → Bool → Bool → Bool → Int → Bool → Int → List Int → Bool → Prop
 | over (h : over = true) : Stp b busy te over fin op d b busy te true 0 false 0 [] false
 | more (h : over = false) (ho : op = 0 ∨ op = 1 ∨ op = 2) (hc : partC busy te fin op b d = 0) (hf : fin = false) : Stp b busy te over fin op d (b ++ d) true (textN busy te op) false 0 false 0 [] false
 | told (h : over = false) (ho : op = 0 ∨ op = 1 ∨ op = 2) (hc : partC busy te fin op b d = 0) (hf : fin = true) : Stp b busy te over fin op d [] false (textN busy te op) false 1 (textN busy te op) 0 (b ++ d) true
 | part (h : over = false) (ho : op = 0 ∨ op = 1 ∨ op = 2) (hc : partC busy te fin op b d ≠ 0) (tn : Bool) : Stp b busy te over fin op d [] false tn true 5 false (partC busy te fin op b d) [] true
 | ping (h : over = false) (ho : op = 9) : Stp b busy te over fin op d b busy te false 2 false 0 d true
 | pong (h : over = false) (ho : op = 10) : Stp b busy te over fin op d b busy te false 3 false 0 d true
 | other (h : over = false) (ho : op ≠ 0 ∧ op ≠ 1 ∧ op ≠ 2 ∧ op ≠ 8 ∧ op ≠ 9 ∧ op ≠ 10) (tn : Bool) : Stp b busy te over fin op d [] false tn true 5 false 1002 [] true
 | close (h : over = false) (ho : op = 8) (tn : Bool) : Stp b busy te over fin op d [] false tn true (closeM d).1 false (closeM d).2.2 (closeM d).2.1 true
theorem row_own {W : World} {v : Value} {xs : List Int} {base : Nat} {ok : Nat → Prop} (h : Kd.R (Kd.int .u8) 5 W base ok v xs) : Kd.R (Kd.int .u8) 5 W base (fun k => v.ownBlock = some k) v xs := by
 obtain ⟨_, inner, ho, hr⟩ := h
 exact ⟨fun _ hk => hk, inner, ho, hr.imp_ (fun _ _ hp => hp)⟩
theorem row_keep {W W' : World} {v : Value} {xs : List Int} {base : Nat} {ok : Nat → Prop} (h : Kd.R (Kd.int .u8) 5 W base ok v xs) (hk : ∀ k, v.ownBlock = some k → W'.heap[k]? = W.heap[k]?) : Kd.R (Kd.int .u8) 5 W' base (fun k => v.ownBlock = some k) v xs := Kd.R_step (row_own h) (fun k e _ => hk k e)
theorem keep_fr {w W : World} {g : Nat} {v u : Value} (hk : KeepBut w W g none) : Fr w W g v u := ⟨hk.1, fun k hlt h1 _ _ => hk.2 k hlt h1 (by simp)⟩
theorem slice_one {w : World} {base : Nat} {ok : Nat → Prop} {v : Value} {b : List Int} (h : Kd.R (Kd.int .u8) 5 w base ok v b) : v.oneCell' = true := by
 obtain ⟨A, c, rfl⟩ := Kd.R_slice h
 rfl
theorem part_len {busy te fin : Bool} {op : Int} {b d : List Int} (h : partC busy te fin op b d = 0) : b.length + d.length ≤ 4096 := by
 unfold partC at h
 split at h
 ·cases h
 ·split at h
  ·cases h
  ·omega
theorem Stp.stays {b b' nd d : List Int} {busy te over fin busy' te' over' tx ok : Bool} {op kind code : Int} (hs : Stp b busy te over fin op d b' busy' te' over' kind tx code nd ok) (hnob : busy = false → b = []) (hb8 : ∀ x ∈ b, 0 ≤ x ∧ x ≤ 255) (hd8 : ∀ x ∈ d, 0 ≤ x ∧ x ≤ 255) (hbl : b.length ≤ 4096) : (busy' = false → b' = []) ∧ (∀ x ∈ b', 0 ≤ x ∧ x ≤ 255) ∧ b'.length ≤ 4096 := by
 cases hs with
 | more h ho hc' hf => exact ⟨fun h => (by cases h), fun x hx => (List.mem_append.1 hx).elim (hb8 x) (hd8 x), by rw [List.length_append]; exact part_len hc'⟩
 | over h => exact ⟨hnob, hb8, hbl⟩
 | ping h ho => exact ⟨hnob, hb8, hbl⟩
 | pong h ho => exact ⟨hnob, hb8, hbl⟩
 | told h ho hc' hf => exact ⟨fun _ => rfl, fun x hx => (by cases hx), by decide⟩
 | part h ho hc' tn => exact ⟨fun _ => rfl, fun x hx => (by cases hx), by decide⟩
 | other h ho tn => exact ⟨fun _ => rfl, fun x hx => (by cases hx), by decide⟩
 | close h ho tn => exact ⟨fun _ => rfl, fun x hx => (by cases hx), by decide⟩
def GF (v u : Value) (over : Bool) (g k : Nat) : Prop := k = g ∨ (over = false ∧ (v.ownBlock = some k ∨ u = .pointer (some ⟨k, 0, none⟩)))
structure Imq (w0 W : World) (g : Nat) (v u : Value) (b : List Int) (busy te over : Bool) (gu : Nat) (f : List Int) : Prop where
 bel : Below w0.heap.size w0 W
 base : w0.heap.size ≤ g
 st : (over = false ∧ Gs w0 W g v u b busy te false gu f ∧ (busy = true → f = if te = true then b else [])) ∨ (over = true ∧ busy = false ∧ b = [] ∧ ∃ bu te1 u1, IsG W g (.slice none 0 0) bu te1 u1 true)
theorem Imq.blk {w0 W : World} {g gu : Nat} {v u : Value} {b f : List Int} {busy te over : Bool} (h : Imq w0 W g v u b busy te over gu f) : ∃ bu te1 u1 A c, IsG W g (.slice A b.length c) bu te1 u1 over := by
 rcases h.st with ⟨h1, h2, h3⟩ | ⟨h1, h2, h4, bu, te1, u1, h3⟩
 ·subst h1
  obtain ⟨A, c, rfl⟩ := Kd.R_slice h2.gw.row
  exact ⟨busy, te, u, A, c, h2.gw.blk⟩
 ·subst h1; subst h4
  exact ⟨bu, te1, u1, none, 0, h3⟩
theorem Imq.lt {w0 W : World} {g gu : Nat} {v u : Value} {b f : List Int} {busy te over : Bool} (h : Imq w0 W g v u b busy te over gu f) {k : Nat} (hk : GF v u over g k) : k < W.heap.size := by
 rcases hk with rfl | ⟨ho, hk⟩
 ·obtain ⟨_, _, _, _, _, hb⟩ := h.blk
  exact blk_lt hb
 ·rcases h.st with ⟨h1, h2, h3⟩ | ⟨h1, _⟩
  ·rcases hk with hk | hk
   ·exact Kd.R_lt h2.gw.row k hk
   ·exact h2.gw.ulow k hk
  ·rw [ho] at h1; cases h1
theorem Imq.move {w0 W W' : World} {g gu : Nat} {v u : Value} {b f : List Int} {busy te over : Bool} (h : Imq w0 W g v u b busy te over gu f) (hB : Below w0.heap.size w0 W') (hk : ∀ k, GF v u over g k → W'.heap[k]? = W.heap[k]?) : Imq w0 W' g v u b busy te over gu f := by
 have hg := hk g (.inl rfl)
 refine ⟨hB, h.base, ?_⟩
 rcases h.st with ⟨h1, h2, h3⟩ | ⟨h1, h2, h4, bu, te1, u1, h3⟩
 ·subst h1
  have hv : ∀ k, v.ownBlock = some k → W'.heap[k]? = W.heap[k]? := fun k e => hk k (.inr ⟨rfl, .inl e⟩)
  have hu : ∀ k, u = .pointer (some ⟨k, 0, none⟩) → W'.heap[k]? = W.heap[k]? := fun k e => hk k (.inr ⟨rfl, .inr e⟩)
  exact .inl ⟨rfl, ⟨⟨hg.trans h2.gw.blk, Kd.R_mono (row_keep h2.gw.row hv) (fun _ _ => trivial), hB, h.base, h2.gw.one, fun k e => by
   obtain ⟨cs, hc⟩ := h2.gw.uty k e
   exact ⟨cs, (hu k e).trans hc⟩⟩, fun hy => ⟨(h2.chk hy).1, ⟨(hu gu (h2.chk hy).1).trans (h2.chk hy).2.1.1, (h2.chk hy).2.1.2⟩, (h2.chk hy).2.2⟩⟩, h3⟩
 ·exact .inr ⟨h1, h2, h4, bu, te1, u1, hg.trans h3⟩
theorem Imq.below {w0 W W' : World} {g gu : Nat} {v u : Value} {b f : List Int} {busy te over : Bool} (h : Imq w0 W g v u b busy te over gu f) (hb : Below W.heap.size W W') : Imq w0 W' g v u b busy te over gu f := h.move (below_step h.bel hb) (fun k hk => hb.block k (h.lt hk))
structure TakeQ (w0 W : World) (g : Nat) (v u : Value) (b : List Int) (busy te over fin : Bool) (op : Int) (d : List Int) (w' : World) (b' : List Int) (busy' te' over' : Bool) (kind : Int) (tx : Bool) (code : Int) (nd : List Int) (ok : Bool) (v' u' : Value) (gu' : Nat) (f' : List Int) (vn : Value) : Prop where
 stp : Stp b busy te over fin op d b' busy' te' over' kind tx code nd ok
 imp : Imq w0 w' g v' u' b' busy' te' over' gu' f'
 row : Kd.R (Kd.int .u8) 5 w' w0.heap.size (fun k => ¬ GF v' u' over' g k) vn nd
 size : W.heap.size ≤ w'.heap.size
 keep : ∀ k, k < W.heap.size → ¬ GF v u over g k → w'.heap[k]? = W.heap[k]?
 new : ∀ k, GF v' u' over' g k → GF v u over g k ∨ W.heap.size ≤ k
 note : ∀ k, vn.ownBlock = some k → GF v u over g k ∨ W.heap.size ≤ k
theorem fr_gf {w W : World} {g : Nat} {v u : Value} (h : Fr w W g v u) : ∀ k, k < w.heap.size → ¬ GF v u false g k → W.heap[k]? = w.heap[k]? := fun k hk hn => h.same k hk (fun e => hn (.inl e)) (fun e => hn (.inr ⟨rfl, .inl e.symm⟩)) (fun e => hn (.inr ⟨rfl, .inr e⟩))
theorem newu_gf {w : World} {g k : Nat} {v u u' : Value} (h : NewU w u u') (e : u' = .pointer (some ⟨k, 0, none⟩)) : GF v u false g k ∨ w.heap.size ≤ k := by
 rcases h with h | ⟨j, h, hj⟩
 ·exact .inl (.inr ⟨rfl, .inr (h ▸ e)⟩)
 ·rw [h] at e
  injection e with e
  injection e with e
  injection e with e
  exact .inr (e ▸ hj)
theorem newor_gf {w : World} {g k : Nat} {v u v' : Value} (h : NewOr w v v') (e : v'.ownBlock = some k) : GF v u false g k ∨ w.heap.size ≤ k := by
 rcases h with h | h | ⟨j, h, hj⟩
 ·exact .inl (.inr ⟨rfl, .inl (h ▸ e)⟩)
 ·rw [h] at e; cases e
 ·rw [h] at e; injection e with e; exact .inr (e ▸ hj)
theorem row_ok {W : World} {v : Value} {xs : List Int} {base : Nat} {ok ok' : Nat → Prop} (h : Kd.R (Kd.int .u8) 5 W base ok v xs) (hk : ∀ k, v.ownBlock = some k → ok' k) : Kd.R (Kd.int .u8) 5 W base ok' v xs := Kd.R_mono (row_own h) hk
theorem over_gf {v u : Value} {g k : Nat} (h : GF v u true g k) : k = g := by
 rcases h with h | ⟨h, _⟩
 ·exact h
 ·cases h
theorem byte_gf {w0 W : World} {g gu k : Nat} {v u vn : Value} {b f nd : List Int} {busy te over : Bool} {base : Nat} {ok : Nat → Prop} (h : Imq w0 W g v u b busy te over gu f) (hr : Kd.R (Kd.int .u8) 5 W base ok vn nd) (hk : vn.ownBlock = some k) (hne : over = false → v.ownBlock ≠ some k) : ¬ GF v u over g k := by
 obtain ⟨cs, hc⟩ := Kd.R_typed hr k hk
 rintro (rfl | ⟨ho, e | e⟩)
 ·obtain ⟨_, _, _, _, _, hb⟩ := h.blk
  have hb' : W.heap[k]? = _ := hb
  rw [hb'] at hc
  injection hc with hc
  injection hc with _ hc _
  exact absurd hc (by decide)
 ·exact hne ho e
 ·rcases h.st with ⟨h1, h2, h3⟩ | ⟨h1, _⟩
  ·obtain ⟨cs', hb⟩ := h2.gw.uty k e
   rw [hb] at hc
   injection hc with hc
   injection hc with _ hc _
   exact absurd hc (by decide)
  ·rw [ho] at h1; cases h1
theorem take_stepq {w0 W : World} {g gu : Nat} {v u : Value} {b f d : List Int} {busy te over fin mk : Bool} {op key : Int} {A : Option Addr} {c : Nat} (hst : Imq w0 W g v u b busy te over gu f) (hnob : busy = false → b = []) (hbl : b.length ≤ 4096) (hd : Dat W (.slice A d.length c) d) (hdn : over = false → ∀ k, (Value.slice A d.length c).ownBlock = some k → v.ownBlock ≠ some k) (hd8 : ∀ x ∈ d, 0 ≤ x ∧ x ≤ 255) (hdl : d.length ≤ 1000000000) (hg : Cond w0) :
  Calls Tryz.prog 44 #[.pointer (some ⟨g, 0, none⟩), .agg #[.bool fin, .int .u8 op, .bool mk, .int .u32 key, .slice A d.length c]] W (fun e w' => ∃ b' busy' te' over' kind tx code nd ok v' u' gu' f' vn, e = .returned (.tuple #[.agg #[.int .u8 kind, .bool tx, vn, .int .u32 code], .bool ok]) ∧ TakeQ w0 W g v u b busy te over fin op d w' b' busy' te' over' kind tx code nd ok v' u' gu' f' vn) := by
 have hg0 := hst.base
 rcases hst.st with ⟨ho, hG, hf⟩ | ⟨ho, hbu, hbn, bu, te1, u1, hG⟩
 ·subst ho
  have hff : (busy = true → f = if te = true then b else []) ∧ (busy = false → b = []) := ⟨hf, hnob⟩
  have hdn := hdn rfl
  have hn2 : ∀ k : Nat, (Value.slice none 0 0).ownBlock ≠ some k := fun k e => by cases e
  have hbad : ∀ {w' : World} {u' : Value} {tn : Bool} {code : Int}, Gw w0 w' g (.slice none 0 0) u' [] false tn true → Fr W w' g v u → Stp b busy te false fin op d [] false tn true 5 false code [] true → TakeQ w0 W g v u b busy te false fin op d w' [] false tn true 5 false code [] true (.slice none 0 0) u' 0 [] (.slice none 0 0) := fun hG' hF hs => ⟨hs, ⟨hG'.bel, hg0, .inr ⟨rfl, rfl, rfl, _, _, _, hG'.blk⟩⟩, Kd.R_nil _ _ _ _ _, hF.size, fr_gf hF, fun k hk => .inl (.inl (over_gf hk)), fun k e => (by cases e)⟩
  by_cases hp : op = 0 ∨ op = 1 ∨ op = 2
  ·by_cases hc : partC busy te fin op b d = 0
   ·by_cases hfin : fin = true
    ·refine (TakeTold hG hff hd hdn hbl hdl hp hc hfin).mono ?_
     rintro e w' ⟨vn, u', rfl, hG', hR, hF, hN⟩
     have hI : Imq w0 w' g (.slice none 0 0) u' [] false (textN busy te op) false 0 [] := ⟨hG'.bel, hg0, .inl ⟨rfl, hG'.gs 0 [], fun h => by cases h⟩⟩
     exact ⟨[], false, _, false, 1, _, 0, b ++ d, true, .slice none 0 0, u', 0, [], vn, rfl, .told rfl hp hc hfin, hI, row_ok hR (fun k e => byte_gf hI hR e (fun _ => hn2 k)), hF.size, fr_gf hF, fun k hk => by
      rcases hk with hk | ⟨_, hk | hk⟩
      ·exact .inl (.inl hk)
      ·cases hk
      ·exact newu_gf hN.b hk, fun k e => newor_gf hN.a e⟩
    ·have hfin : fin = false := by simpa using hfin
     refine (TakeMore hG hff hd hdn hbl hdl hp hc hfin).mono ?_
     rintro e w' ⟨rfl, v', u', gu', hG', hF, hN⟩
     exact ⟨b ++ d, true, _, false, 0, false, 0, [], false, v', u', gu', _, .slice none 0 0, rfl, .more rfl hp hc hfin, ⟨hG'.gw.bel, hg0, .inl ⟨rfl, hG', fun _ => rfl⟩⟩, Kd.R_nil _ _ _ _ _, hF.size, fr_gf hF, fun k hk => by
      rcases hk with hk | ⟨_, hk | hk⟩
      ·exact .inl (.inl hk)
      ·exact newor_gf hN.a hk
      ·exact newu_gf hN.b hk, fun k e => (by cases e)⟩
   ·refine (TakeBadPart hG hff hd hdn hbl hdl hp hg hc).mono ?_
    rintro e w' ⟨rfl, u', tn, hG', hF⟩
    exact ⟨_, _, _, _, _, _, _, _, _, _, _, _, _, _, rfl, hbad hG' hF (.part rfl hp hc tn)⟩
  ·by_cases h8 : op = 8
   ·subst h8
    rcases close_to d hd8 hdl with ⟨h1, h2⟩ | ⟨h1, h2, h3⟩
    ·refine (Take_close_any d (closeM d).2.1 (closeM d).2.2 h2 g v u busy te A c W (slice_one hG.gw.row) hG.gw.blk (Dat.C hd) (Dat.le hd)).mono ?_
     rintro e w' ⟨vn, rfl, hR, hI, hK, hB⟩
     have hB := hB w0 hG.gw.base hG.gw.bel
     have hI' : Imq w0 w' g (.slice none 0 0) u [] false te true 0 [] := ⟨hB, hg0, .inr ⟨rfl, rfl, rfl, _, _, _, hI⟩⟩
     exact ⟨[], false, te, true, 4, false, _, _, true, .slice none 0 0, u, 0, [], vn, rfl, by rw [← h1]; exact .close rfl rfl te, hI', row_ok (Kd.R_lower hR hG.gw.bel.size) (fun k e => byte_gf hI' hR e (fun h => by cases h)), hK.1, fr_gf (keep_fr hK), fun k hk => .inl (.inl (over_gf hk)), fun k e => .inr (Kd.R_base hR k e)⟩
    ·refine (Take_bad hG hd hg (fun W' hb hG' hD => take_close_bad hG' hD h3)).mono ?_
     rintro e w' ⟨rfl, u', tn, hG', hF⟩
     exact ⟨_, _, _, _, _, _, _, _, _, _, _, _, _, _, rfl, hbad hG' hF (by
      have := Stp.close (b := b) (busy := busy) (te := te) (over := false) (fin := fin) (op := 8) (d := d) rfl rfl tn
      rw [h1, h2] at this
      exact this)⟩
   ·have hnote : ∀ kk : Int, Stp b busy te false fin op d b busy te false kk false 0 d true → (∀ W', Below W.heap.size W W' → Gs w0 W' g v u b busy te false gu f → Dat W' (.slice A d.length c) d → Calls Tryz.prog 76 #[.pointer (some ⟨g, 0, none⟩), .agg #[.bool fin, .int .u8 op, .bool mk, .int .u32 key, .slice A d.length c]] W' (TkNote w0 g v u b busy te gu f kk d W')) → Calls Tryz.prog 44 #[.pointer (some ⟨g, 0, none⟩), .agg #[.bool fin, .int .u8 op, .bool mk, .int .u32 key, .slice A d.length c]] W (fun e w' => ∃ b' busy' te' over' kind tx code nd ok v' u' gu' f' vn, e = .returned (.tuple #[.agg #[.int .u8 kind, .bool tx, vn, .int .u32 code], .bool ok]) ∧ TakeQ w0 W g v u b busy te false fin op d w' b' busy' te' over' kind tx code nd ok v' u' gu' f' vn) := by
     intro kk hs hT
     refine (Take_note hG hd hT).mono ?_
     rintro e w' ⟨vn, rfl, hG', hR, hF⟩
     have hvl : ∀ k, v.ownBlock = some k → k < W.heap.size := Kd.R_lt hG.gw.row
     have hI : Imq w0 w' g v u b busy te false gu f := ⟨hG'.gw.bel, hg0, .inl ⟨rfl, hG', hf⟩⟩
     exact ⟨b, busy, te, false, kk, false, 0, d, true, v, u, gu, f, vn, rfl, hs, hI, row_ok (Kd.R_lower hR hG.gw.bel.size) (fun k e => byte_gf hI hR e (fun _ ev => by
      have := Kd.R_base hR k e
      have := hvl k ev
      omega)), hF.size, fr_gf hF, fun k hk => .inl hk, fun k e => .inr (Kd.R_base hR k e)⟩
    by_cases h9 : op = 9
    ·subst h9
     exact hnote 2 (.ping rfl rfl) (fun W' hb hG' hD => take_ping hG' hD hdl)
    ·by_cases h10 : op = 10
     ·subst h10
      exact hnote 3 (.pong rfl rfl) (fun W' hb hG' hD => take_pong hG' hD hdl)
     ·have ho : op ≠ 0 ∧ op ≠ 1 ∧ op ≠ 2 ∧ op ≠ 8 ∧ op ≠ 9 ∧ op ≠ 10 := ⟨fun e => hp (.inl e), fun e => hp (.inr (.inl e)), fun e => hp (.inr (.inr e)), h8, h9, h10⟩
      refine (Take_bad hG hd hg (fun W' hb hG' hD => take_other hG' hD ho)).mono ?_
      rintro e w' ⟨rfl, u', tn, hG', hF⟩
      exact ⟨_, _, _, _, _, _, _, _, _, _, _, _, _, _, rfl, hbad hG' hF (.other rfl ho tn)⟩
 ·subst ho
  have hI : ∀ {w' : World}, Below W.heap.size W w' → Imq w0 w' g v u b busy te true gu f := fun hb => hst.below hb
  refine (Take_overI hG).mono ?_
  rintro e w' ⟨rfl, hb⟩
  exact ⟨b, busy, te, true, 0, false, 0, [], false, v, u, gu, f, .slice none 0 0, rfl, .over rfl, hI hb, Kd.R_nil _ _ _ _ _, hb.size, fun k hk _ => hb.block k hk, fun k hk => .inl hk, fun k e => (by cases e)⟩
end Go.Proofs.YtpmeapdcjmaeiaaGreatDoor

namespace Go.Proofs.YtpmeapdcjmaeiaaGreatDoor.PAll
open Go.RowKit Go.Wa Go.Wb Go.Wc
attribute [local go_sem] max2_int min2_int max_two min_two max_three min_three max_four min_four
end Go.Proofs.YtpmeapdcjmaeiaaGreatDoor.PAll
namespace Go.Proofs.YtpmeapdcjmaeiaaGreatDoor.PAll
open Go.RowKit Go.Wa Go.Wb Go.Wc
def xb (x y : Int) : Int := Go.bits .xor .u8 x y
theorem xb_nat (a b : Nat) (ha : a < 256) (hb : b < 256) : xb (a : Int) (b : Int) = ((a ^^^ b : Nat) : Int) := by
 have hx : a ^^^ b < 2 ^ 8 := Nat.xor_lt_two_pow (by omega) (by omega)
 have h1 : (BitVec.ofInt 8 (a : Int)).toNat = a := by
  rw [BitVec.ofInt_natCast, BitVec.toNat_ofNat]; exact Nat.mod_eq_of_lt (by omega)
 have h2 : (BitVec.ofInt 8 (b : Int)).toNat = b := by
  rw [BitVec.ofInt_natCast, BitVec.toNat_ofNat]; exact Nat.mod_eq_of_lt (by omega)
 show IntKind.u8.wrap ((BitVec.ofInt 8 (a : Int) ^^^ BitVec.ofInt 8 (b : Int)).toNat : Int) = _
 have hw : ∀ n : Int, IntKind.u8.wrap n = n % 256 := fun n => by simp [IntKind.wrap, IntKind.bits, IntKind.signed]
 rw [BitVec.toNat_xor, h1, h2, hw]
 omega
def Byte (x : Int) : Prop := 0 ≤ x ∧ x ≤ 255
theorem byte_nat {x : Int} (h : Byte x) : ∃ a : Nat, a < 256 ∧ x = (a : Int) := ⟨x.toNat, by have := h.1; have := h.2; omega, by have := h.1; omega⟩
theorem xb_byte {x y : Int} (hx : Byte x) (hy : Byte y) : Byte (xb x y) := by
 obtain ⟨a, ha, rfl⟩ := byte_nat hx
 obtain ⟨b, hb, rfl⟩ := byte_nat hy
 rw [xb_nat a b ha hb]
 have hx : a ^^^ b < 2 ^ 8 := Nat.xor_lt_two_pow (by omega) (by omega)
 exact ⟨by omega, by omega⟩
theorem xb_twice {x y : Int} (hx : Byte x) (hy : Byte y) : xb (xb x y) y = x := by
 obtain ⟨a, ha, rfl⟩ := byte_nat hx
 obtain ⟨b, hb, rfl⟩ := byte_nat hy
 have hx : a ^^^ b < 2 ^ 8 := Nat.xor_lt_two_pow (by omega) (by omega)
 rw [xb_nat a b ha hb, xb_nat _ b (by omega) hb, Nat.xor_assoc, Nat.xor_self, Nat.xor_zero]
def keyOf (k : Int) : List Int := [(k / 16777216) % 256, (k / 65536) % 256, (k / 256) % 256, k % 256]
theorem key_f (k : Int) : wsframe_key.f k = some (keyOf k) := rfl
theorem key_byte (k : Int) (i : Nat) : Byte (rd (keyOf k) ((i % 4 : Nat) : Int)) := by
 have h : i % 4 = 0 ∨ i % 4 = 1 ∨ i % 4 = 2 ∨ i % 4 = 3 := by omega
 rcases h with h | h | h | h <;> rw [h] <;> refine ⟨?_, ?_⟩ <;> simp [rd, keyOf] <;> omega
def turned (l : List Int) (k : Int) : List Int := (List.range l.length).map fun (i : Nat) => xb (rd l (i : Int)) (rd (keyOf k) ((i % 4 : Nat) : Int))
theorem turned_len (l : List Int) (k : Int) : (turned l k).length = l.length := by simp [turned]
theorem rd_nat (l : List Int) (i : Nat) (h : i < l.length) : rd l (i : Int) = l[i] := by simp [rd, h]
theorem turned_at (l : List Int) (k : Int) (i : Nat) (h : i < l.length) : (turned l k)[i]'(by rw [turned_len]; exact h) = xb l[i] (rd (keyOf k) ((i % 4 : Nat) : Int)) := by
 simp [turned, rd_nat l i h]
theorem turned_byte (l : List Int) (k : Int) (hl : ∀ x ∈ l, Byte x) : ∀ x ∈ turned l k, Byte x := by
 intro x hx
 obtain ⟨i, hi, rfl⟩ := List.getElem_of_mem hx
 rw [turned_len] at hi
 rw [turned_at l k i hi]
 exact xb_byte (hl _ (List.getElem_mem hi)) (key_byte k i)
theorem turned_twice (l : List Int) (k : Int) (hl : ∀ x ∈ l, Byte x) : turned (turned l k) k = l := by
 apply List.ext_getElem
 ·rw [turned_len, turned_len]
 ·intro i h1 h2
  rw [turned_at _ k i (by rw [turned_len]; exact h2), turned_at l k i h2]
  exact xb_twice (hl _ (List.getElem_mem h2)) (key_byte k i)
theorem set_mid (A l : List Int) (i : Nat) (h : i < l.length) (hA : A.length = l.length) : (A.take i ++ l.drop i).set i (A[i]'(by omega)) = A.take (i + 1) ++ l.drop (i + 1) := by
 rw [List.set_append_right _ _ (by simp; omega), ← List.getElem_cons_drop h]
 simp only [List.length_take]
 rw [show i - min i A.length = 0 by omega, List.set_cons_zero, List.take_succ_eq_append_getElem (by omega), List.append_assoc]
 rfl
theorem rd_mid (A l : List Int) (i : Nat) (h : i < l.length) (hA : A.length = l.length) : rd (A.take i ++ l.drop i) (i : Int) = l[i] := by
 rw [rd_nat _ i (by simp; omega), List.getElem_append_right (by simp; omega)]
 simp only [List.length_take, List.getElem_drop]
 congr 1
 omega
theorem turn_loop (l : List Int) (k : Int) (hm : l.length ≤ 9223372036854775807) (c : Nat) : ∀ (m i : Nat), i + m = l.length → wsframe_Turn.l0 (m + 1 + c) ((turned l k).take i ++ l.drop i) (keyOf k) (l.length : Int) (i : Int) = some (turned l k) := by
 intro m
 induction m with
 | zero =>
  intro i hi
  obtain rfl : i = l.length := by omega
  rw [show 0 + 1 + c = c + 1 by omega]
  unfold wsframe_Turn.l0
  rw [if_neg (by omega), List.drop_length, List.append_nil, List.take_of_length_le (by rw [turned_len]; omega)]
 | succ m ih =>
  intro i hi
  have hlt : i < l.length := by omega
  have hlen : ((turned l k).take i ++ l.drop i).length = l.length := by simp [turned_len]; omega
  rw [show m + 1 + 1 + c = (m + 1 + c) + 1 by omega]
  unfold wsframe_Turn.l0
  have hw : wrap64 ((i : Int) + 1) = ((i + 1 : Nat) : Int) := by unfold wrap64; omega
  have h4 : ((keyOf k).length : Int) = 4 := rfl
  have ht : Int.tmod (i : Int) 4 = ((i % 4 : Nat) : Int) := by rw [Int.tmod_eq_emod_of_nonneg (by omega)]; omega
  rw [if_pos (by omega), if_pos (by omega), if_pos (by rw [hlen]; omega), h4, if_neg (by omega), ht, if_pos (by omega), if_pos (by omega), rd_mid _ l i hlt (turned_len l k), hw, Int.toNat_natCast]
  have hat := turned_at l k i hlt
  unfold xb at hat
  rw [← hat, set_mid _ l i hlt (turned_len l k)]
  exact ih (i + 1) (by omega)
theorem turn_f (l : List Int) (k : Int) (hm : l.length ≤ 140737488355328) (c : Nat) : wsframe_Turn.f (l.length + 1 + c) l k = some (turned l k) := by
 unfold wsframe_Turn.f bytes_Clone.f
 rw [if_pos (by omega), key_f]
 have := turn_loop l k (by omega) c l.length 0 (by omega)
 simpa using this
end Go.Proofs.YtpmeapdcjmaeiaaGreatDoor.PAll
namespace Go.Proofs.YtpmeapdcjmaeiaaGreatDoor
open Go.RowKit Go.Wa Go.Wb Go.Wc PAll
theorem rd_app (l x : List Int) (i : Int) (h : i.toNat < l.length) : rd (l ++ x) i = rd l i := by
 unfold rd
 rw [List.getD_eq_getElem?_getD, List.getD_eq_getElem?_getD, List.getElem?_append_left h]
theorem val_app (l x : List Int) (i : Nat) : ∀ n, i + n ≤ l.length → val (l ++ x) i n = val l i n
 | 0, _ => rfl
 | n + 1, h => by
  show val (l ++ x) i n * 256 + rd (l ++ x) ((i + n : Nat) : Int) = val l i n * 256 + rd l ((i + n : Nat) : Int)
  rw [val_app l x i n (by omega), rd_app _ _ _ (by omega)]
theorem lenF_app (l x : List Int) (h2 : 2 ≤ l.length) (h : (lenF l).2.2.1 = false) : lenF (l ++ x) = lenF l := by
 unfold lenF at h ⊢
 rw [rd_app l x 1 (by simp; omega), List.length_append]
 by_cases h6 : rd l 1 % 128 = 126
 ·rw [if_pos h6] at h
  rw [if_pos h6, if_pos h6]
  by_cases h4 : l.length < 4
  ·rw [if_pos h4] at h; cases h
  ·rw [if_neg h4, if_neg (by omega), val_app _ _ _ _ (by omega)]
 ·rw [if_neg h6] at h
  rw [if_neg h6, if_neg h6]
  by_cases h7 : rd l 1 % 128 = 127
  ·rw [if_pos h7] at h
   rw [if_pos h7, if_pos h7]
   by_cases h4 : l.length < 10
   ·rw [if_pos h4] at h; cases h
   ·rw [if_neg h4, if_neg (by omega), val_app _ _ _ _ (by omega)]
  ·rw [if_neg h7, if_neg h7]
theorem lenF_need (l x : List Int) (h2 : 2 ≤ l.length) (hm : (lenF (l ++ x)).2.2.1 = false) (hc : (lenF (l ++ x)).2.2.2 = 0) (hu : (lenF (l ++ x)).2.1 ≤ l.length) : (lenF l).2.2.1 = false := by
 unfold lenF at hm hc hu ⊢
 rw [rd_app l x 1 (by simp; omega), List.length_append] at hm hc hu
 by_cases h6 : rd l 1 % 128 = 126
 ·rw [if_pos h6] at hm hc hu ⊢
  by_cases h4 : l.length < 4
  ·exfalso
   by_cases h5 : l.length + x.length < 4
   ·rw [if_pos h5] at hm; cases hm
   ·rw [if_neg h5] at hc hu
    split at hc
    ·cases hc
    ·rename_i h8
     rw [if_neg h8] at hu
     dsimp only at hu
     omega
  ·rw [if_neg h4]; split <;> rfl
 ·rw [if_neg h6] at hm hc hu ⊢
  by_cases h7 : rd l 1 % 128 = 127
  ·rw [if_pos h7] at hm hc hu ⊢
   by_cases h4 : l.length < 10
   ·exfalso
    by_cases h5 : l.length + x.length < 10
    ·rw [if_pos h5] at hm; cases hm
    ·rw [if_neg h5] at hc hu
     split at hc
     ·cases hc
     ·rename_i h8
      rw [if_neg h8] at hu
      dsimp only at hu
      omega
   ·rw [if_neg h4]; split <;> rfl
  ·rw [if_neg h7]
theorem headF_app (l x : List Int) (m : Bool) (h : (headF l m).2.2.1 = false) : headF (l ++ x) m = headF l m := by
 unfold headF at h ⊢
 rw [List.length_append]
 by_cases h0 : l.length = 0
 ·rw [if_pos h0] at h; cases h
 ·rw [if_neg h0] at h
  rw [if_neg h0, if_neg (show ¬ l.length + x.length = 0 by omega), rd_app l x 0 (by simp; omega)]
  by_cases h1 : rd l 0 / 16 % 8 ≠ 0 ∨ knownB (rd l 0 % 16) = false ∨ (8 ≤ rd l 0 % 16 ∧ rd l 0 < 128)
  ·rw [if_pos h1, if_pos h1]
  ·rw [if_neg h1] at h
   rw [if_neg h1, if_neg h1]
   by_cases h2 : l.length = 1
   ·rw [if_pos h2] at h; cases h
   ·rw [if_neg h2] at h
    rw [if_neg h2, if_neg (show ¬ l.length + x.length = 1 by omega), rd_app l x 1 (by simp; omega)]
    by_cases h3 : decide (128 ≤ rd l 1) ≠ m ∨ (8 ≤ rd l 0 % 16 ∧ 126 ≤ rd l 1 % 128)
    ·rw [if_pos h3, if_pos h3]
    ·rw [if_neg h3] at h
     rw [if_neg h3, if_neg h3]
     by_cases h4 : (lenF l).2.2.1 = true
     ·rw [if_pos h4] at h; cases h
     ·rw [lenF_app l x (by omega) (by simpa using h4)]
theorem headF_need (l x : List Int) (m : Bool) (h2 : 2 ≤ l.length) (hm : (headF (l ++ x) m).2.2.1 = false) (hc : (headF (l ++ x) m).2.2.2 = 0) (hf : (headF (l ++ x) m).1 ≤ l.length) : headF (l ++ x) m = headF l m := by
 apply headF_app
 unfold headF at hm hc hf ⊢
 rw [List.length_append, rd_app l x 0 (by simp; omega), rd_app l x 1 (by simp; omega)] at hm hc hf
 rw [if_neg (show ¬ l.length + x.length = 0 by omega)] at hm hc hf
 rw [if_neg (show ¬ l.length = 0 by omega)]
 by_cases h1 : rd l 0 / 16 % 8 ≠ 0 ∨ knownB (rd l 0 % 16) = false ∨ (8 ≤ rd l 0 % 16 ∧ rd l 0 < 128)
 ·rw [if_pos h1]
 ·rw [if_neg h1] at hm hc hf ⊢
  rw [if_neg (show ¬ l.length + x.length = 1 by omega)] at hm hc hf
  rw [if_neg (show ¬ l.length = 1 by omega)]
  by_cases h3 : decide (128 ≤ rd l 1) ≠ m ∨ (8 ≤ rd l 0 % 16 ∧ 126 ≤ rd l 1 % 128)
  ·rw [if_pos h3]
  ·rw [if_neg h3] at hm hc hf ⊢
   by_cases h4 : (lenF (l ++ x)).2.2.1 = true
   ·rw [if_pos h4] at hm; cases hm
   ·rw [if_neg h4] at hc hf
    by_cases h5 : (lenF (l ++ x)).2.2.2 ≠ 0
    ·rw [if_pos h5] at hc; cases hc
    ·rw [if_neg h5] at hc hf
     by_cases h6 : 4096 < (lenF (l ++ x)).1
     ·rw [if_pos h6] at hc; cases hc
     ·rw [if_neg h6] at hf
      have h7 := lenF_need l x h2 (by simpa using h4) (by omega) (by have : 0 ≤ (if m = true then (4 : Int) else 0) := by split <;> decide
                                                                     dsimp only at hf
                                                                     omega)
      rw [if_neg (by rw [h7]; decide)]
      split
      ·rfl
      ·split <;> rfl
abbrev Pc := PAll.S81
def code1 (l : List Int) (m : Bool) : Int := (headF l m).2.2.2
def size1 (l : List Int) (m : Bool) : Nat := ((headF l m).1 + (headF l m).2.1).toNat
structure IsFr (l : List Int) (m : Bool) : Prop where
 code : code1 l m = 0
 told : (headF l m).2.2.1 = false
 room : size1 l m ≤ l.length
def dataOf (l : List Int) (m : Bool) : List Int := if m = true then turned (rawOf l m) (keyIn l m) else rawOf l m
def pieceOf (l : List Int) (m : Bool) : Pc := ⟨decide (128 ≤ rd l 0), rd l 0 % 16, m, keyIn l m, dataOf l m⟩
inductive AllP (m : Bool) : List Int → List Pc → Int → List Int → Prop
 | bad {l : List Int} : code1 l m ≠ 0 → AllP m l [] (code1 l m) []
 | stop {l : List Int} : code1 l m = 0 → ¬ IsFr l m → AllP m l [] 0 l
 | frame {l : List Int} {ps : List Pc} {c : Int} {r : List Int} : IsFr l m → AllP m (l.drop (size1 l m)) ps c r → AllP m l (pieceOf (l.take (size1 l m)) m :: ps) c r
theorem IsFr.min {l : List Int} {m : Bool} (h : IsFr l m) (hl : l.all isByte = true) : 2 ≤ (headF l m).1 ∧ 0 ≤ (headF l m).2.1 ∧ (headF l m).1 ≤ 8 ∧ (headF l m).2.1 ≤ 4096 ∧ ((size1 l m : Nat) : Int) = (headF l m).1 + (headF l m).2.1 := by
 have h1 := headF_front hl m h.code h.told
 have h2 := headF_bounds hl m
 unfold size1
 omega
theorem IsFr.app {l : List Int} {m : Bool} (h : IsFr l m) (x : List Int) : IsFr (l ++ x) m ∧ size1 (l ++ x) m = size1 l m := by
 have e := headF_app l x m h.told
 have h3 := h.room
 unfold size1 at h3
 refine ⟨⟨by unfold code1; rw [e]; exact h.code, by rw [e]; exact h.told, by unfold size1; rw [e, List.length_append]; omega⟩, by unfold size1; rw [e]⟩
theorem IsFr.cut {l : List Int} {m : Bool} (h : IsFr l m) (hl : l.all isByte = true) : headF (l.take (size1 l m)) m = headF l m := by
 have h1 := h.min hl
 have h3 := h.room
 have e : l.take (size1 l m) ++ l.drop (size1 l m) = l := List.take_append_drop _ _
 have hlen : (l.take (size1 l m)).length = size1 l m := by rw [List.length_take]; omega
 have h4 := headF_need (l.take (size1 l m)) (l.drop (size1 l m)) m (by omega)
 rw [e] at h4
 exact (h4 h.told h.code (by omega)).symm
theorem IsFr.bad {l : List Int} {m : Bool} (h : IsFr l m) (hl : l.all isByte = true) : getBad (l.take (size1 l m)) m = 0 := by
 have h1 := h.min hl
 have h3 := h.room
 have hlen : (l.take (size1 l m)).length = size1 l m := by rw [List.length_take]; omega
 have hc := h.code
 unfold code1 at hc
 unfold getBad
 rw [h.cut hl, if_neg (by omega), if_neg (by rw [h.told]; decide), if_neg (by omega)]
theorem code1_told {l : List Int} {m : Bool} (h : code1 l m ≠ 0) : (headF l m).2.2.1 = false := by
 unfold code1 headF at h
 unfold headF
 by_cases h0 : l.length = 0
 ·rw [if_pos h0] at h; exact absurd rfl h
 ·rw [if_neg h0] at h ⊢
  split
  ·rfl
  ·rename_i h1
   rw [if_neg h1] at h
   by_cases h2 : l.length = 1
   ·rw [if_pos h2] at h; exact absurd rfl h
   ·rw [if_neg h2] at h ⊢
    split
    ·rfl
    ·rename_i h3
     rw [if_neg h3] at h
     by_cases h4 : (lenF l).2.2.1 = true
     ·rw [if_pos h4] at h; exact absurd rfl h
     ·rw [if_neg h4]
      split
      ·rfl
      ·split <;> rfl
theorem AllP.uniq {m : Bool} {l : List Int} {ps : List Pc} {c : Int} {r : List Int} (h : AllP m l ps c r) : ∀ {ps' : List Pc} {c' : Int} {r' : List Int}, AllP m l ps' c' r' → ps = ps' ∧ c = c' ∧ r = r' := by
 induction h with
 | bad hc =>
  intro ps' c' r' h'
  cases h' with
  | bad _ => exact ⟨rfl, rfl, rfl⟩
  | stop h1 _ => exact absurd h1 hc
  | frame h1 _ => exact absurd h1.code hc
 | stop h1 h2 =>
  intro ps' c' r' h'
  cases h' with
  | bad hc => exact absurd h1 hc
  | stop _ _ => exact ⟨rfl, rfl, rfl⟩
  | frame h3 _ => exact absurd h3 h2
 | frame h1 _ ih =>
  intro ps' c' r' h'
  cases h' with
  | bad hc => exact absurd h1.code hc
  | stop _ h2 => exact absurd h1 h2
  | frame _ h3 =>
   obtain ⟨rfl, rfl, rfl⟩ := ih h3
   exact ⟨rfl, rfl, rfl⟩
theorem drop_byte {l : List Int} (hl : l.all isByte = true) (n : Nat) : (l.drop n).all isByte = true := by
 rw [List.all_eq_true] at hl ⊢
 exact fun x hx => hl x (List.mem_of_mem_drop hx)
theorem take_byte {l : List Int} (hl : l.all isByte = true) (n : Nat) : (l.take n).all isByte = true := by
 rw [List.all_eq_true] at hl ⊢
 exact fun x hx => hl x (List.mem_of_mem_take hx)
theorem app_byte {l x : List Int} (hl : l.all isByte = true) (hx : x.all isByte = true) : (l ++ x).all isByte = true := by rw [List.all_append, hl, hx]; rfl
theorem AllP.total (m : Bool) : ∀ (n : Nat) (l : List Int), l.all isByte = true → l.length ≤ n → ∃ ps c r, AllP m l ps c r := by
 intro n
 induction n with
 | zero =>
  intro l hl hn
  by_cases hc : code1 l m = 0
  ·refine ⟨_, _, _, .stop hc (fun h => ?_)⟩
   have := h.min hl
   have := h.room
   omega
  ·exact ⟨_, _, _, .bad hc⟩
 | succ n ih =>
  intro l hl hn
  by_cases hc : code1 l m = 0
  ·by_cases hf : IsFr l m
   ·have h1 := hf.min hl
    have h2 := hf.room
    obtain ⟨ps, c, r, h⟩ := ih (l.drop (size1 l m)) (drop_byte hl _) (by rw [List.length_drop]; omega)
    exact ⟨_, _, _, .frame hf h⟩
   ·exact ⟨_, _, _, .stop hc hf⟩
  ·exact ⟨_, _, _, .bad hc⟩
theorem HeadF_bad {l : List Int} {m : Bool} (h : code1 l m ≠ 0) : HeadF l m = (0, 3, code1 l m, true) := by
 unfold HeadF
 unfold code1 at h ⊢
 rw [if_pos h]
theorem HeadF_fr {l : List Int} {m : Bool} (hl : l.all isByte = true) (h : IsFr l m) : HeadF l m = (((size1 l m : Nat) : Int), 0, 0, true) := by
 have h1 := h.min hl
 have hc := h.code
 unfold code1 at hc
 unfold HeadF
 rw [if_neg (by omega), if_neg (by rw [h.told]; decide), h1.2.2.2.2]
theorem HeadF_not {l : List Int} {m : Bool} (hl : l.all isByte = true) (hc : code1 l m = 0) (h : ¬ IsFr l m) : HeadF l m = (0, 0, 0, false) ∨ ∃ r1 : Int, HeadF l m = (r1, 0, 0, true) ∧ (l.length : Int) < r1 := by
 have hb := headF_bounds hl m
 by_cases ht : (headF l m).2.2.1 = true
 ·left
  unfold code1 at hc
  unfold HeadF
  rw [if_neg (by omega), if_pos ht]
 ·right
  refine ⟨(headF l m).1 + (headF l m).2.1, ?_, ?_⟩
  ·unfold code1 at hc
   unfold HeadF
   rw [if_neg (by omega), if_neg ht]
  ·by_cases hr : size1 l m ≤ l.length
   ·exact absurd ⟨hc, by simpa using ht, hr⟩ h
   ·unfold size1 at hr; omega
theorem full_told {l : List Int} {m : Bool} (hl : l.all isByte = true) (h : 4110 ≤ l.length) : code1 l m ≠ 0 ∨ IsFr l m := by
 by_cases hc : code1 l m = 0
 ·right
  have hb := headF_bounds hl m
  have ht : (headF l m).2.2.1 = false := by
   unfold headF
   rw [if_neg (by omega)]
   split
   ·rfl
   ·rw [if_neg (by omega)]
    split
    ·rfl
    ·have hn : (lenF l).2.2.1 = false := by
      unfold lenF
      split
      ·rw [if_neg (by omega)]; split <;> rfl
      ·split
       ·rw [if_neg (by omega)]; split <;> rfl
       ·rfl
     rw [if_neg (by rw [hn]; decide)]
     split
     ·rfl
     ·split <;> rfl
  exact ⟨hc, ht, by unfold size1; omega⟩
 ·exact .inl hc
end Go.Proofs.YtpmeapdcjmaeiaaGreatDoor
namespace Go.Proofs.YtpmeapdcjmaeiaaGreatDoor
open Go.RowKit Go.Wa Go.Wb Go.Wc
attribute [local go_sem] max2_int min2_int max_two min_two
structure Sp (wb W : World) (g : Nat) (v : Value) (m bad : Bool) (l : List Int) : Prop where
 blk : W.heap[g]? = some (.cells #[v, .bool m, .bool bad] 116 (0, 0))
 row : Kd.R (Kd.int .u8) 5 W wb.heap.size (fun _ => True) v l
theorem Sp.below {wb W W' : World} {g : Nat} {v : Value} {m bad : Bool} {l : List Int} (h : Sp wb W g v m bad l) (hb : Below W.heap.size W W') : Sp wb W' g v m bad l := ⟨blk_below h.blk hb, Kd.R_below h.row hb⟩
theorem Sp.ne {wb W : World} {g : Nat} {v : Value} {m bad : Bool} {l : List Int} (h : Sp wb W g v m bad l) : some g ≠ v.ownBlock := Kd.R_ne h.row h.blk (by decide)
theorem split_new (m : Bool) (wb w : World) (hB : Below wb.heap.size wb w) : Calls Tryz.prog 31 #[.bool m] w fun e w' => e = .returned (.pointer (some ⟨w.heap.size, 0, none⟩)) ∧ Sp wb w' w.heap.size (.slice none 0 0) m false [] ∧ Below w.heap.size w w' := by
 have HB := a_ hB
 clear hB
 go_enter Tryz.func31, Tryz.ntmps31
 go_wp2
 go_ret
 exact ⟨rfl, ⟨last_at _ _ _ rfl, Kd.R_nil _ _ _ _ _⟩, below_alloc (Below.refl _ _) _⟩
theorem split_bad_any (g : Nat) (bad : Bool) (w : World) (h : w.cell? ⟨g, 2, none⟩ = some (.bool bad)) : Calls Tryz.prog 71 #[.pointer (some ⟨g, 0, none⟩)] w fun e w' => e = .returned (.bool bad) ∧ w = w' := by
 go_enter Tryz.func71, Tryz.ntmps71
 go_wp2
 go_ret
 exact ⟨rfl, rfl⟩
theorem split_bad_nil (w : World) : Calls Tryz.prog 71 #[.pointer none] w fun e w' => e = .returned (.bool true) ∧ w = w' := by
 go_enter Tryz.func71, Tryz.ntmps71
 go_wp2
 go_ret
 exact ⟨rfl, rfl⟩
theorem split_feed_nil (A : Option Addr) (n c : Nat) (w : World) : Calls Tryz.prog 41 #[.pointer none, .slice A n c] w fun e w' => e = .returned (.int .i64 0) ∧ w = w' := by
 go_enter Tryz.func41, Tryz.ntmps41
 go_wp2_with fail
 refine (split_bad_nil _).mono ?_
 rintro e w1 ⟨rfl, rfl⟩
 go_wp2_with fail
 go_ret
 exact ⟨rfl, rfl⟩
end Go.Proofs.YtpmeapdcjmaeiaaGreatDoor
namespace Go.Proofs.YtpmeapdcjmaeiaaGreatDoor
open Go.RowKit Go.Wa Go.Wb Go.Wc
attribute [local go_sem] max2_int min2_int max_two min_two
def FeedPost (wb : World) (g : Nat) (v : Value) (m : Bool) (l : List Int) (n : Int) (w : World) (e : Ending) (w' : World) : Prop := ∃ v', e = .returned (.int .i64 n) ∧ Sp wb w' g v' m false l ∧ Below wb.heap.size wb w' ∧ w.heap.size ≤ w'.heap.size ∧ (∀ k, k < w.heap.size → k ≠ g → some k ≠ v.ownBlock → w'.heap[k]? = w.heap[k]?) ∧ (v'.ownBlock = v.ownBlock ∨ ∃ b, v'.ownBlock = some b ∧ w.heap.size ≤ b)
theorem FeedPost.mk {wb : World} {g : Nat} {v v' : Value} {m : Bool} {l : List Int} {n : Int} {w w' : World} (h1 : Sp wb w' g v' m false l) (h2 : Below wb.heap.size wb w') (h3 : w.heap.size ≤ w'.heap.size) (h4 : ∀ k, k < w.heap.size → k ≠ g → some k ≠ v.ownBlock → w'.heap[k]? = w.heap[k]?) (h5 : v'.ownBlock = v.ownBlock ∨ ∃ b, v'.ownBlock = some b ∧ w.heap.size ≤ b) : FeedPost wb g v m l n w (.returned (.int .i64 n)) w' := ⟨v', rfl, h1, h2, h3, h4, h5⟩
theorem split_feed_fit (wb w : World) (g : Nat) (v : Value) (m : Bool) (l xs : List Int) (A : Option Addr) (c : Nat) (h : Sp wb w g v m false l) (hB : Below wb.heap.size wb w) (hgb : wb.heap.size ≤ g) (hC : Kd.C (Kd.int .u8) w A xs.length xs) (hc : xs.length ≤ c) (hfit : l.length + xs.length ≤ 4110) : Calls Tryz.prog 41 #[.pointer (some ⟨g, 0, none⟩), .slice A xs.length c] w (FeedPost wb g v m (l ++ xs) xs.length w) := by
 obtain ⟨Av, cv, rfl⟩ := Kd.R_slice h.row
 have hgl := blk_lt h.blk
 obtain ⟨c0, -, c2⟩ := xl3_ h.blk
 have hinfo : (Tryz.prog.info? 5).map (fun i => (i.zero, i.size, i.bytes)) = some (some (.int .u8 0), 1, 1) := by kernel_rfl
 have HI := a_ hinfo
 have HS := a_ h
 have HC := a_ hC
 have HB := a_ hB
 clear h hC hB hinfo
 obtain ⟨d, hd⟩ : ∃ d : Int, d = 4110 - (l.length : Int) := ⟨_, rfl⟩
 have hw : IntKind.i64.wrap (4110 - (l.length : Int)) = d := by rw [i64_w]; unfold wrap64; omega
 have hlt : ¬ d < (xs.length : Int) := by omega
 have hlt2 : decide (d < (xs.length : Int)) = false := decide_eq_false hlt
 have p1 : (xs.length : Int) ≤ (c : Int) := by omega
 have p0 : (0 : Int) ≤ (xs.length : Int) := by omega
 have HD := a_ hd
 clear hd
 go_enter Tryz.func41, Tryz.ntmps41
 go_wp2_with fail
 refine (split_bad_any g false _ c2).mono ?_
 rintro e w1 ⟨rfl, rfl⟩
 go_wp2_with fail
 refine start_ (n := 12) (S := fun w' => w'.cell? ⟨g, 0, none⟩ = some (.slice Av l.length cv)) (ds := [11]) #[false, false, false, false, false, false, false, false, false, false, false, false] (by kernel_rfl) rfl rfl (c0) (fun hHeld => ?_)
 refine pureP 0 17 ?_
 refine pureP 1 18 ?_
 refine pureP 2 19 ?_
 refine pureP 3 20 ?_
 refine take_ (i := 4) (N := (some 21)) (v := ?_) (a' := ?_) #[true, true, true, true, true, false, false, false, false, false, false, false] rfl rfl (by kernel_rfl) (fun _ _ _ h => h) (Or.inl ⟨by rfl, ?_⟩) hHeld ?_ ?_
 rotate_left
 ·rintro w' s0
  go_simp
  first | done | with_reducible rfl
 rotate_left
 ·simp only [Act.put, z1_, z2_, z3_, i64_w, i32_w]
  rfl
 refine pureP 5 22 ?_
 refine pureP 6 23 ?_
 refine pureP 7 24 ?_
 refine one_ (i := 8) (N := (some 25)) #[true, true, true, true, true, true, true, true, true, false, false, false] rfl rfl (by kernel_rfl) (by decide) (fun K hK => ?_)
 refine Kd.R_append_rows_step (Kd.int .u8) (w0 := wb) wb.heap.size (by rfl) (.tmp 21) (.tmp 24) 27 5 (.int .u8 0) 1 rfl Tryz.underlying27 HI.out rfl (by decide) (by omega) (.slice Av l.length cv) l xs _ _ _ (fun _ => True) (fun _ => False) rfl rfl ?aO ?aR (fun _ _ h => h) (fun _ h => h.elim) ?aF ?aB ?aS ?aL ?_
 (case aO => exact Kd.R_drew HS.out.row)
 (case aR => exact Kd.C_drew HC.out)
 (case aF => exact fun _ _ => trivial)
 (case aB => exact below_drew HB.out)
 (case aS => exact HB.out.size)
 (case aL => omega)
 intro v1 w1 ho hb hg1 hat
 obtain ⟨A1, c1, e1⟩ := Kd.R_slice ho
 obtain ⟨mm, hmm⟩ : ∃ mm, mm = (l ++ xs).length := ⟨_, rfl⟩
 rw [← hmm] at e1
 clear hmm
 subst e1
 have hk1 : w1.heap[g]? = some (.cells #[.slice Av l.length cv, .bool m, .bool false] 116 (0, 0)) := blk_grown (blk_drew HS.out.blk) hg1 HS.out.ne
 obtain ⟨g0, gf0⟩ := xf1_ hk1
 have gl := blk_lt hk1
 have HK1 := a_ hk1
 have HO := a_ ho
 have HB1 := a_ hb
 have HG1 := a_ hg1
 have HAT := a_ hat
 clear hk1 ho hb hg1 hat
 refine hK.out _ _ (g0) (fun hHeld => ?_)
 clear hK K
 refine norm_ (a' := ?_) ?_ ?_
 rotate_left
 ·show Act.put _ (some 25) _ = _
  simp only [Act.put, z1_, z2_, z3_, i64_w, i32_w]
  rfl
 refine pureP 9 26 ?_
 refine pureP 10 27 ?_
 refine last_ (i := 11) (N := none) #[true, true, true, true, true, true, true, true, true, true, true, true] rfl rfl (by kernel_rfl) (by decide) (fun K hK => ?_)
 go_simp
 refine hK.out _ _ ?_
 clear hK K
 refine done_ (by kernel_rfl) ?_
 go_wp2_with fail
 have hne1 : (Value.slice A1 mm c1).ownBlock ≠ some g := fun e => Kd.R_ne HO.out HK1.out (by decide) e.symm
 go_ret
 refine FeedPost.mk (v' := .slice A1 mm c1) ⟨blk_put HK1.out 0 _ rfl, Kd.R_mono (Kd.R_far (Kd.R_types HO.out HK1.out (by intro q hq; simp [Kd.int, Kd.scalar] at hq; omega)) (p := ⟨g, 0, none⟩) (fun k hk => hk.2) _) (fun _ _ => trivial)⟩ (Below.setCell HB1.out hgb _) (by simpa [World.setCell] using HG1.out.size) (fun k hk hkg hkv => (Below.heap_setCell _ _ _ _ hkg).trans (HG1.out.block k hk hkv)) HAT.out
end Go.Proofs.YtpmeapdcjmaeiaaGreatDoor
namespace Go.Proofs.YtpmeapdcjmaeiaaGreatDoor
open Go.RowKit Go.Wa Go.Wb Go.Wc
attribute [local go_sem] max2_int min2_int max_two min_two
theorem split_feed_less (wb w : World) (g : Nat) (v : Value) (m : Bool) (l xs tk : List Int) (A : Option Addr) (c : Nat) (h : Sp wb w g v m false l) (hB : Below wb.heap.size wb w) (hgb : wb.heap.size ≤ g) (hC : Kd.C (Kd.int .u8) w A xs.length xs) (hc : xs.length ≤ c) (hl : l.length ≤ 4110) (hfit : 4110 < l.length + xs.length) (htk : xs.take (4110 - l.length) = tk) : Calls Tryz.prog 41 #[.pointer (some ⟨g, 0, none⟩), .slice A xs.length c] w (FeedPost wb g v m (l ++ tk) tk.length w) := by
 obtain ⟨Av, cv, rfl⟩ := Kd.R_slice h.row
 have hgl := blk_lt h.blk
 obtain ⟨c0, -, c2⟩ := xl3_ h.blk
 have hinfo : (Tryz.prog.info? 5).map (fun i => (i.zero, i.size, i.bytes)) = some (some (.int .u8 0), 1, 1) := by kernel_rfl
 have HI := a_ hinfo
 have HS := a_ h
 have HB := a_ hB
 clear h hB hinfo
 obtain ⟨d, hd⟩ : ∃ d : Int, d = 4110 - (l.length : Int) := ⟨_, rfl⟩
 have hw : IntKind.i64.wrap (4110 - (l.length : Int)) = d := by rw [i64_w]; unfold wrap64; omega
 have hlt : d < (xs.length : Int) := by omega
 have hlt2 : decide (d < (xs.length : Int)) = true := decide_eq_true hlt
 have hd0 : (0 : Int) ≤ d := by omega
 have hdm : d ≤ (xs.length : Int) := by omega
 obtain ⟨i_, hi_⟩ : ∃ i, Tryz.prog.info? 5 = some i := by
  have h : (Tryz.prog.info? 5).isSome = true := by kernel_rfl
  exact Option.isSome_iff_exists.1 h
 have hsz_ : i_.size = 1 := by
  have h : (Tryz.prog.info? 5).map (fun i => i.size) = some 1 := by kernel_rfl
  rw [hi_] at h
  exact Option.some.inj h
 obtain ⟨hcT, _, htc⟩ := print_take_int (P := Tryz.prog) (k := .u8) 27 5 Tryz.underlying27 hi_ hsz_ A c xs d hd0 hdm hc
 have hdn : d.toNat = 4110 - l.length := by omega
 have hCT : Aside0 (Kd.C (Kd.int .u8) w A tk.length tk) := ⟨by
  have h := Kd.C_take hC (m := d.toNat) (by omega)
  rw [hdn, htk] at h
  exact h⟩
 rw [hdn, htk] at hcT htc
 have hdl : d = (tk.length : Int) := by rw [← htk, List.length_take]; omega
 have hkl : l.length + tk.length = 4110 := by omega
 clear htk hdn hC hi_ hsz_ i_
 have HD := a_ hd
 clear hd
 go_enter Tryz.func41, Tryz.ntmps41
 go_wp2_with fail
 refine (split_bad_any g false _ c2).mono ?_
 rintro e w1 ⟨rfl, rfl⟩
 go_wp2_with fail
 refine start_ (n := 12) (S := fun w' => w'.cell? ⟨g, 0, none⟩ = some (.slice Av l.length cv)) (ds := [11]) #[false, false, false, false, false, false, false, false, false, false, false, false] (by kernel_rfl) rfl rfl (c0) (fun hHeld => ?_)
 refine pureP 0 17 ?_
 refine pureP 1 18 ?_
 refine pureP 2 19 ?_
 refine pureP 3 20 ?_
 refine take_ (i := 4) (N := (some 21)) (v := ?_) (a' := ?_) #[true, true, true, true, true, false, false, false, false, false, false, false] rfl rfl (by kernel_rfl) (fun _ _ _ h => h) (Or.inl ⟨by rfl, ?_⟩) hHeld ?_ ?_
 rotate_left
 ·rintro w' s0
  go_simp
  first | done | with_reducible rfl
 rotate_left
 ·simp only [Act.put, z1_, z2_, z3_, i64_w, i32_w]
  rfl
 refine pureP 5 22 ?_
 refine pureP 6 23 ?_
 refine pureP 7 24 ?_
 refine one_ (i := 8) (N := (some 25)) #[true, true, true, true, true, true, true, true, true, false, false, false] rfl rfl (by kernel_rfl) (by decide) (fun K hK => ?_)
 refine Kd.R_append_rows_step (Kd.int .u8) (w0 := wb) wb.heap.size (by rfl) (.tmp 21) (.tmp 24) 27 5 (.int .u8 0) 1 rfl Tryz.underlying27 HI.out rfl (by decide) (by omega) (.slice Av l.length cv) l tk _ _ _ (fun _ => True) (fun _ => False) rfl rfl ?aO ?aR (fun _ _ h => h) (fun _ h => h.elim) ?aF ?aB ?aS ?aL ?_
 (case aO => exact Kd.R_drew HS.out.row)
 (case aR => exact Kd.C_drew hCT.out)
 (case aF => exact fun _ _ => trivial)
 (case aB => exact below_drew HB.out)
 (case aS => exact HB.out.size)
 (case aL => omega)
 intro v1 w1 ho hb hg1 hat
 obtain ⟨A1, c1, e1⟩ := Kd.R_slice ho
 obtain ⟨mm, hmm⟩ : ∃ mm, mm = (l ++ tk).length := ⟨_, rfl⟩
 rw [← hmm] at e1
 clear hmm
 subst e1
 have hk1 : w1.heap[g]? = some (.cells #[.slice Av l.length cv, .bool m, .bool false] 116 (0, 0)) := blk_grown (blk_drew HS.out.blk) hg1 HS.out.ne
 obtain ⟨g0, gf0⟩ := xf1_ hk1
 have gl := blk_lt hk1
 have HK1 := a_ hk1
 have HO := a_ ho
 have HB1 := a_ hb
 have HG1 := a_ hg1
 have HAT := a_ hat
 clear hk1 ho hb hg1 hat
 refine hK.out _ _ (g0) (fun hHeld => ?_)
 clear hK K
 refine norm_ (a' := ?_) ?_ ?_
 rotate_left
 ·show Act.put _ (some 25) _ = _
  simp only [Act.put, z1_, z2_, z3_, i64_w, i32_w]
  rfl
 refine pureP 9 26 ?_
 refine pureP 10 27 ?_
 refine last_ (i := 11) (N := none) #[true, true, true, true, true, true, true, true, true, true, true, true] rfl rfl (by kernel_rfl) (by decide) (fun K hK => ?_)
 go_simp
 refine hK.out _ _ ?_
 clear hK K
 refine done_ (by kernel_rfl) ?_
 go_wp2_with fail
 have hne1 : (Value.slice A1 mm c1).ownBlock ≠ some g := fun e => Kd.R_ne HO.out HK1.out (by decide) e.symm
 go_ret
 refine FeedPost.mk (v' := .slice A1 mm c1) ⟨blk_put HK1.out 0 _ rfl, Kd.R_mono (Kd.R_far (Kd.R_types HO.out HK1.out (by intro q hq; simp [Kd.int, Kd.scalar] at hq; omega)) (p := ⟨g, 0, none⟩) (fun k hk => hk.2) _) (fun _ _ => trivial)⟩ (Below.setCell HB1.out hgb _) (by simpa [World.setCell] using HG1.out.size) (fun k hk hkg hkv => (Below.heap_setCell _ _ _ _ hkg).trans (HG1.out.block k hk hkv)) HAT.out
end Go.Proofs.YtpmeapdcjmaeiaaGreatDoor
namespace Go.Proofs.YtpmeapdcjmaeiaaGreatDoor.PAll
open Go.RowKit Go.Wa Go.Wb Go.Wc
structure Ng (wb w W : World) (g : Nat) (v : Value) (m : Bool) (l : List Int) : Prop where
 bel : Below w.heap.size w W
 sp : Sp wb W g v m false l
 piece : W.heap[w.heap.size]? = some (.cells #[.bool false, .int .u8 0, .bool false, .int .u32 0, .slice none 0 0] 81 (0, 0))
 fault : W.heap[w.heap.size + 1]? = some (.cells #[.int .u8 0, .int .u32 0] 87 (0, 0))
theorem Ng.below {wb w W W' : World} {g : Nat} {v : Value} {m : Bool} {l : List Int} (h : Ng wb w W g v m l) (hb : Below W.heap.size W W') : Ng wb w W' g v m l := ⟨below_step h.bel hb, h.sp.below hb, blk_below h.piece hb, blk_below h.fault hb⟩
theorem Ng.lt {wb w W : World} {g : Nat} {v : Value} {m : Bool} {l : List Int} (h : Ng wb w W g v m l) : w.heap.size + 1 < W.heap.size := blk_lt h.fault
theorem NS.mk {wb w W : World} {g n c : Nat} {A : Option Addr} {m : Bool} {l : List Int} (h : Ng wb w W g (.slice A n c) m l) : Aside0 (Ng wb w W g (.slice A n c) m l) ∧ W.cell? ⟨g, 0, none⟩ = some (.slice A n c) ∧ W.cell? ⟨g, 1, none⟩ = some (.bool m) := ⟨⟨h⟩, (blk_cell h.sp.blk 0).trans rfl, (blk_cell h.sp.blk 1).trans rfl⟩
theorem Ng.put2 {wb w W : World} {g k : Nat} {v : Value} {m : Bool} {l : List Int} {cs : Array Value} (h : Ng wb w W g v m l) (h1 : w.heap.size + 1 < k) (h2 : g < k) (hb : W.heap[k]? = some (.cells cs 87 (0, 0))) (a b : Value) : Ng wb w ((W.setCell ⟨k, 0, none⟩ a).setCell ⟨k, 1, none⟩ b) g v m l := by
 have h0 : ∀ j, j ≠ k → ((W.setCell ⟨k, 0, none⟩ a).setCell ⟨k, 1, none⟩ b).heap[j]? = W.heap[j]? := fun j hj => (Below.heap_setCell _ _ _ _ hj).trans (Below.heap_setCell _ _ _ _ hj)
 exact ⟨Below.setCell (Below.setCell h.bel (by show _ ≤ k; omega) _) (by show _ ≤ k; omega) _, ⟨(h0 g (by omega)).trans h.sp.blk, Kd.R_mono (Kd.R_far (Kd.R_far (Kd.R_types h.sp.row hb (by intro q hq; simp [Kd.int, Kd.scalar] at hq; omega)) (p := ⟨k, 0, none⟩) (fun j hj => hj.2) a) (p := ⟨k, 1, none⟩) (fun j hj => hj.2) b) (fun _ _ => trivial)⟩, (h0 _ (by omega)).trans h.piece, (h0 _ (by omega)).trans h.fault⟩
theorem split_next_none (wb w : World) (g : Nat) (v : Value) (m : Bool) (l : List Int) (r1 r2 r3 : Int) (r4 : Bool) (h : Sp wb w g v m false l) (hg : Cond w) (hh : wsframe_Head.f l m = some (r1, r2, r3, r4)) (h4 : r4 = false) : Calls Tryz.prog 42 #[.pointer (some ⟨g, 0, none⟩)] w fun e w' => e = .returned (.tuple #[.agg #[.bool false, .int .u8 0, .bool false, .int .u32 0, .slice none 0 0], .agg #[.int .u8 0, .int .u32 0], .bool false]) ∧ Below w.heap.size w w' := by
 subst h4
 obtain ⟨Av, cv, rfl⟩ := Kd.R_slice h.row
 have c2 : w.cell? ⟨g, 2, none⟩ = some (.bool false) := (blk_cell h.blk 2).trans rfl
 have hgl := blk_lt h.blk
 have HS := a_ h
 have HC := a_ hg
 have HH := a_ hh
 clear h hg hh
 have hu31 := Tryz.underlying81
 have hu33 := Tryz.underlying87
 go_enter Tryz.func42, Tryz.ntmps42
 go_wp2_with fail
 refine (split_bad_any g false _ ?_).mono ?_
 ·exact (blk_cell (HS.out.below (below_alloc (below_alloc (Below.refl _ _) _) _)).blk 2).trans rfl
 rintro e w1 ⟨rfl, rfl⟩
 have hN0 : Ng wb w ((w.alloc (.cells #[.bool false, .int .u8 0, .bool false, .int .u32 0, .slice none 0 0] 81)).alloc (.cells #[.int .u8 0, .int .u32 0] 87)) g (.slice Av l.length cv) m l := ⟨below_alloc (below_alloc (Below.refl _ _) _) _, HS.out.below (below_alloc (below_alloc (Below.refl _ _) _) _), blk_alloc (last_at _ _ _ rfl) _, last_at _ _ _ (by simp)⟩
 generalize (w.alloc (.cells #[.bool false, .int .u8 0, .bool false, .int .u32 0, .slice none 0 0] 81)).alloc (.cells #[.int .u8 0, .int .u32 0] 87) = w1 at hN0 ⊢
 have HN0 := a_ hN0
 clear hN0 c2 HS
 go_upto_region 3 with fail
 refine wp_region_noPanic ?_
 refine wp_region_held_drew (S := fun w' => Aside0 (Ng wb w w' g (.slice Av l.length cv) m l) ∧ w'.cell? ⟨g, 0, none⟩ = some (.slice Av l.length cv) ∧ w'.cell? ⟨g, 1, none⟩ = some (.bool m)) (by kernel_rfl) (NS.mk (HN0.out.below (below_drew (Below.refl _ _)))) (fun hHeld => ?_)
 refine takeP 0 15 ?_
 refine takeP 1 16 ?_
 refine takeP 2 17 ?_
 refine takeP 3 18 ?_
 refine takeP 4 19 ?_
 refine takeP 5 20 ?_
 refine takeP 6 21 ?_
 refine takeP 7 22 ?_
 refine wpAnyH_ready (rs := [8, 13]) (by kernel_rfl) (by simp) ?_
 refine AllReadyH.cons rfl (fun K hK => ?_) (AllReadyH.cons rfl (fun K hK => ?_) AllReadyH.nil)
 ·go_simp
  go_at_call 72
  with_reducible refine (wsframe_Head.calls Av cv l m r1 r2 r3 false _ (Kd.R_reads' hHeld.1.out.sp.row).2.2 (Kd.R_reads' hHeld.1.out.sp.row).2.1 HH.out (HC.out.below hHeld.1.out.bel)).mono ?_
  rintro e w2 ⟨rfl, hb⟩
  have HG2 := a_ (hHeld.1.out.below hb)
  clear hb
  refine hK.out _ _ (NS.mk HG2.out) (fun hHeld => ?_)
  clear hK K
  try simp only [Act.put, z1_, z2_, z3_]
  refine takeP 9 14 ?_
  refine takeP 10 24 ?_
  refine takeP 11 25 ?_
  refine takeP 12 26 ?_
  refine rd1_ 13 fun K hK => ?_
  go_simp
  refine hK.out _ _ (NS.mk (HG2.out.below (below_alloc (Below.refl _ _) _))) (fun hHeld => ?_)
  clear hK K
  try simp only [Act.put, z1_, z2_, z3_]
  refine takeP 14 5 ?_
  refine rd1_ 15 fun K hK => ?_
  go_simp
  refine hK.out _ _ (NS.mk (HG2.out.below (below_alloc (Below.refl _ _) _))) (fun hHeld => ?_)
  clear hK K
  try simp only [Act.put, z1_, z2_, z3_]
  refine takeP 16 7 ?_
  refine wpAnyH_done (by kernel_rfl) ?_ _
  refine NoPanic.normal ?_
  have hG6 := hHeld.1.out
  clear hHeld
  have hbox : (w2.alloc (.cells #[.int .u8 r2, .int .u32 r3] 87)).heap[w2.heap.size]? = some (.cells #[.int .u8 r2, .int .u32 r3] 87 (0, 0)) := last_at w2 _ _ rfl
  have hgl2 := HG2.out.lt
  generalize w2.alloc (.cells #[.int .u8 r2, .int .u32 r3] 87) = W6 at hG6 hbox ⊢
  generalize w2.heap.size = gb at hbox hgl2 ⊢
  clear HG2 HN0
  have HG := a_ hG6
  have HBX6 := a_ hbox
  obtain ⟨k0, kf0, k1, kf1⟩ := xf2_ hbox
  have kl := blk_lt hbox
  clear hG6 hbox
  obtain ⟨p0, pf0, p1, pf1, p2, pf2, p3, pf3, p4, pf4⟩ := xf5_ HG.out.piece
  obtain ⟨r0_, rf0, r1_, rf1⟩ := xf2_ HG.out.fault
  have pl := blk_lt HG.out.piece
  have rl := blk_lt HG.out.fault
  obtain ⟨q0, q1⟩ := xl2_ HG.out.sp.blk
  have hle0 : w.heap.size ≤ w.heap.size := Nat.le_refl _
  have hle1 : w.heap.size ≤ w.heap.size + 1 := by omega
  go_wp2_with fail
  exact bodyPost_ret (v := .tuple #[.agg #[.bool false, .int .u8 0, .bool false, .int .u32 0, .slice none 0 0], .agg #[.int .u8 0, .int .u32 0], .bool false]) (by simp [results, Tryz.results42, go_sem, p0, p1, p2, p3, p4, r0_, r1_]) rfl ⟨rfl, Below.setCell (Below.setCell (Below.setCell (Below.setCell (Below.setCell (Below.setCell (Below.setCell HG.out.bel hle0 _) hle0 _) hle0 _) hle0 _) hle0 _) hle1 _) hle1 _⟩
 ·have HW1 := a_ hHeld.1.out
  go_simp
  refine hK.out _ _ (NS.mk (HW1.out.below (below_alloc (Below.refl _ _) _))) (fun hHeld => ?_)
  clear hK K
  try simp only [Act.put, z1_, z2_, z3_]
  refine rd1_ 8 fun K hK => ?_
  go_simp
  go_at_call 72
  with_reducible refine (wsframe_Head.calls Av cv l m r1 r2 r3 false _ (Kd.R_reads' hHeld.1.out.sp.row).2.2 (Kd.R_reads' hHeld.1.out.sp.row).2.1 HH.out (HC.out.below hHeld.1.out.bel)).mono ?_
  rintro e w2 ⟨rfl, hb⟩
  have HG2 := a_ (hHeld.1.out.below hb)
  have hbx : w2.heap[w1.heap.size]? = some (.cells #[.int .u8 0, .int .u32 0] 87 (0, 0)) := blk_below (blk_drew (last_at w1 _ _ rfl)) hb
  obtain ⟨bc0, bf0, bc1, bf1⟩ := xf2_ hbx
  have bl := blk_lt hbx
  have hgl2 : w.heap.size + 1 < w1.heap.size := HN0.out.lt
  have hgl3 : g < w1.heap.size := blk_lt HN0.out.sp.blk
  have HBX := a_ hbx
  clear hbx
  clear hb
  refine hK.out _ _ (NS.mk HG2.out) (fun hHeld => ?_)
  clear hK K
  try simp only [Act.put, z1_, z2_, z3_]
  refine takeP 9 14 ?_
  refine takeP 10 24 ?_
  refine takeP 11 25 ?_
  refine takeP 12 26 ?_
  refine takeP 14 5 ?_
  refine rd1_ 15 fun K hK => ?_
  go_simp
  refine hK.out _ _ (NS.mk (Ng.put2 HG2.out hgl2 hgl3 HBX.out _ _)) (fun hHeld => ?_)
  clear hK K
  try simp only [Act.put, z1_, z2_, z3_]
  refine takeP 16 7 ?_
  refine wpAnyH_done (by kernel_rfl) ?_ _
  refine NoPanic.normal ?_
  have hG6 := hHeld.1.out
  clear hHeld bc0 bc1 bf0 bf1 bl
  have hbox := blk_put (blk_put HBX.out 0 (.int .u8 r2) rfl) 1 (.int .u32 r3) rfl
  generalize ((w2.setCell ⟨w1.heap.size, 0, none⟩ (.int .u8 r2)).setCell ⟨w1.heap.size, 1, none⟩ (.int .u32 r3)) = W6 at hG6 hbox ⊢
  generalize w1.heap.size = gb at hbox hgl2 ⊢
  clear HG2 HN0
  have HG := a_ hG6
  have HBX6 := a_ hbox
  obtain ⟨k0, kf0, k1, kf1⟩ := xf2_ hbox
  have kl := blk_lt hbox
  clear hG6 hbox
  obtain ⟨p0, pf0, p1, pf1, p2, pf2, p3, pf3, p4, pf4⟩ := xf5_ HG.out.piece
  obtain ⟨r0_, rf0, r1_, rf1⟩ := xf2_ HG.out.fault
  have pl := blk_lt HG.out.piece
  have rl := blk_lt HG.out.fault
  obtain ⟨q0, q1⟩ := xl2_ HG.out.sp.blk
  have hle0 : w.heap.size ≤ w.heap.size := Nat.le_refl _
  have hle1 : w.heap.size ≤ w.heap.size + 1 := by omega
  go_wp2_with fail
  exact bodyPost_ret (v := .tuple #[.agg #[.bool false, .int .u8 0, .bool false, .int .u32 0, .slice none 0 0], .agg #[.int .u8 0, .int .u32 0], .bool false]) (by simp [results, Tryz.results42, go_sem, p0, p1, p2, p3, p4, r0_, r1_]) rfl ⟨rfl, Below.setCell (Below.setCell (Below.setCell (Below.setCell (Below.setCell (Below.setCell (Below.setCell HG.out.bel hle0 _) hle0 _) hle0 _) hle0 _) hle0 _) hle1 _) hle1 _⟩
theorem split_next_more (wb w : World) (g : Nat) (v : Value) (m : Bool) (l : List Int) (r1 r2 r3 : Int) (r4 : Bool) (h : Sp wb w g v m false l) (hg : Cond w) (hh : wsframe_Head.f l m = some (r1, r2, r3, r4)) (h4 : r4 = true) (h2 : r2 = 0) (h3 : r3 = 0) (h1 : decide ((l.length : Int) < r1) = true) : Calls Tryz.prog 42 #[.pointer (some ⟨g, 0, none⟩)] w fun e w' => e = .returned (.tuple #[.agg #[.bool false, .int .u8 0, .bool false, .int .u32 0, .slice none 0 0], .agg #[.int .u8 0, .int .u32 0], .bool false]) ∧ Below w.heap.size w w' := by
 subst h4 h2 h3
 obtain ⟨Av, cv, rfl⟩ := Kd.R_slice h.row
 have c2 : w.cell? ⟨g, 2, none⟩ = some (.bool false) := (blk_cell h.blk 2).trans rfl
 have hgl := blk_lt h.blk
 have HS := a_ h
 have HC := a_ hg
 have HH := a_ hh
 clear h hg hh
 have hu31 := Tryz.underlying81
 have hu33 := Tryz.underlying87
 go_enter Tryz.func42, Tryz.ntmps42
 go_wp2_with fail
 refine (split_bad_any g false _ ?_).mono ?_
 ·exact (blk_cell (HS.out.below (below_alloc (below_alloc (Below.refl _ _) _) _)).blk 2).trans rfl
 rintro e w1 ⟨rfl, rfl⟩
 have hN0 : Ng wb w ((w.alloc (.cells #[.bool false, .int .u8 0, .bool false, .int .u32 0, .slice none 0 0] 81)).alloc (.cells #[.int .u8 0, .int .u32 0] 87)) g (.slice Av l.length cv) m l := ⟨below_alloc (below_alloc (Below.refl _ _) _) _, HS.out.below (below_alloc (below_alloc (Below.refl _ _) _) _), blk_alloc (last_at _ _ _ rfl) _, last_at _ _ _ (by simp)⟩
 generalize (w.alloc (.cells #[.bool false, .int .u8 0, .bool false, .int .u32 0, .slice none 0 0] 81)).alloc (.cells #[.int .u8 0, .int .u32 0] 87) = w1 at hN0 ⊢
 have HN0 := a_ hN0
 clear hN0 c2 HS
 go_upto_region 3 with fail
 refine wp_region_noPanic ?_
 refine wp_region_held_drew (S := fun w' => Aside0 (Ng wb w w' g (.slice Av l.length cv) m l) ∧ w'.cell? ⟨g, 0, none⟩ = some (.slice Av l.length cv) ∧ w'.cell? ⟨g, 1, none⟩ = some (.bool m)) (by kernel_rfl) (NS.mk (HN0.out.below (below_drew (Below.refl _ _)))) (fun hHeld => ?_)
 refine takeP 0 15 ?_
 refine takeP 1 16 ?_
 refine takeP 2 17 ?_
 refine takeP 3 18 ?_
 refine takeP 4 19 ?_
 refine takeP 5 20 ?_
 refine takeP 6 21 ?_
 refine takeP 7 22 ?_
 refine wpAnyH_ready (rs := [8, 13]) (by kernel_rfl) (by simp) ?_
 refine AllReadyH.cons rfl (fun K hK => ?_) (AllReadyH.cons rfl (fun K hK => ?_) AllReadyH.nil)
 ·go_simp
  go_at_call 72
  with_reducible refine (wsframe_Head.calls Av cv l m r1 0 0 true _ (Kd.R_reads' hHeld.1.out.sp.row).2.2 (Kd.R_reads' hHeld.1.out.sp.row).2.1 HH.out (HC.out.below hHeld.1.out.bel)).mono ?_
  rintro e w2 ⟨rfl, hb⟩
  have HG2 := a_ (hHeld.1.out.below hb)
  clear hb
  refine hK.out _ _ (NS.mk HG2.out) (fun hHeld => ?_)
  clear hK K
  try simp only [Act.put, z1_, z2_, z3_]
  refine takeP 9 14 ?_
  refine takeP 10 24 ?_
  refine takeP 11 25 ?_
  refine takeP 12 26 ?_
  refine rd1_ 13 fun K hK => ?_
  go_simp
  refine hK.out _ _ (NS.mk (HG2.out.below (below_alloc (Below.refl _ _) _))) (fun hHeld => ?_)
  clear hK K
  try simp only [Act.put, z1_, z2_, z3_]
  refine takeP 14 5 ?_
  refine rd1_ 15 fun K hK => ?_
  go_simp
  refine hK.out _ _ (NS.mk (HG2.out.below (below_alloc (Below.refl _ _) _))) (fun hHeld => ?_)
  clear hK K
  try simp only [Act.put, z1_, z2_, z3_]
  refine takeP 16 7 ?_
  refine wpAnyH_done (by kernel_rfl) ?_ _
  refine NoPanic.normal ?_
  have hG6 := hHeld.1.out
  clear hHeld
  have hbox : (w2.alloc (.cells #[.int .u8 0, .int .u32 0] 87)).heap[w2.heap.size]? = some (.cells #[.int .u8 0, .int .u32 0] 87 (0, 0)) := last_at w2 _ _ rfl
  have hgl2 := HG2.out.lt
  generalize w2.alloc (.cells #[.int .u8 0, .int .u32 0] 87) = W6 at hG6 hbox ⊢
  generalize w2.heap.size = gb at hbox hgl2 ⊢
  clear HG2 HN0
  have HG := a_ hG6
  have HBX6 := a_ hbox
  obtain ⟨k0, kf0, k1, kf1⟩ := xf2_ hbox
  have kl := blk_lt hbox
  clear hG6 hbox
  obtain ⟨p0, pf0, p1, pf1, p2, pf2, p3, pf3, p4, pf4⟩ := xf5_ HG.out.piece
  obtain ⟨r0_, rf0, r1_, rf1⟩ := xf2_ HG.out.fault
  have pl := blk_lt HG.out.piece
  have rl := blk_lt HG.out.fault
  obtain ⟨q0, q1⟩ := xl2_ HG.out.sp.blk
  have hle0 : w.heap.size ≤ w.heap.size := Nat.le_refl _
  have hle1 : w.heap.size ≤ w.heap.size + 1 := by omega
  go_wp2_with fail
  exact bodyPost_ret (v := .tuple #[.agg #[.bool false, .int .u8 0, .bool false, .int .u32 0, .slice none 0 0], .agg #[.int .u8 0, .int .u32 0], .bool false]) (by simp [results, Tryz.results42, go_sem, p0, p1, p2, p3, p4, r0_, r1_]) rfl ⟨rfl, Below.setCell (Below.setCell (Below.setCell (Below.setCell (Below.setCell (Below.setCell (Below.setCell HG.out.bel hle0 _) hle0 _) hle0 _) hle0 _) hle0 _) hle1 _) hle1 _⟩
 ·have HW1 := a_ hHeld.1.out
  go_simp
  refine hK.out _ _ (NS.mk (HW1.out.below (below_alloc (Below.refl _ _) _))) (fun hHeld => ?_)
  clear hK K
  try simp only [Act.put, z1_, z2_, z3_]
  refine rd1_ 8 fun K hK => ?_
  go_simp
  go_at_call 72
  with_reducible refine (wsframe_Head.calls Av cv l m r1 0 0 true _ (Kd.R_reads' hHeld.1.out.sp.row).2.2 (Kd.R_reads' hHeld.1.out.sp.row).2.1 HH.out (HC.out.below hHeld.1.out.bel)).mono ?_
  rintro e w2 ⟨rfl, hb⟩
  have HG2 := a_ (hHeld.1.out.below hb)
  have hbx : w2.heap[w1.heap.size]? = some (.cells #[.int .u8 0, .int .u32 0] 87 (0, 0)) := blk_below (blk_drew (last_at w1 _ _ rfl)) hb
  obtain ⟨bc0, bf0, bc1, bf1⟩ := xf2_ hbx
  have bl := blk_lt hbx
  have hgl2 : w.heap.size + 1 < w1.heap.size := HN0.out.lt
  have hgl3 : g < w1.heap.size := blk_lt HN0.out.sp.blk
  have HBX := a_ hbx
  clear hbx
  clear hb
  refine hK.out _ _ (NS.mk HG2.out) (fun hHeld => ?_)
  clear hK K
  try simp only [Act.put, z1_, z2_, z3_]
  refine takeP 9 14 ?_
  refine takeP 10 24 ?_
  refine takeP 11 25 ?_
  refine takeP 12 26 ?_
  refine takeP 14 5 ?_
  refine rd1_ 15 fun K hK => ?_
  go_simp
  refine hK.out _ _ (NS.mk (Ng.put2 HG2.out hgl2 hgl3 HBX.out _ _)) (fun hHeld => ?_)
  clear hK K
  try simp only [Act.put, z1_, z2_, z3_]
  refine takeP 16 7 ?_
  refine wpAnyH_done (by kernel_rfl) ?_ _
  refine NoPanic.normal ?_
  have hG6 := hHeld.1.out
  clear hHeld bc0 bc1 bf0 bf1 bl
  have hbox := blk_put (blk_put HBX.out 0 (.int .u8 0) rfl) 1 (.int .u32 0) rfl
  generalize ((w2.setCell ⟨w1.heap.size, 0, none⟩ (.int .u8 0)).setCell ⟨w1.heap.size, 1, none⟩ (.int .u32 0)) = W6 at hG6 hbox ⊢
  generalize w1.heap.size = gb at hbox hgl2 ⊢
  clear HG2 HN0
  have HG := a_ hG6
  have HBX6 := a_ hbox
  obtain ⟨k0, kf0, k1, kf1⟩ := xf2_ hbox
  have kl := blk_lt hbox
  clear hG6 hbox
  obtain ⟨p0, pf0, p1, pf1, p2, pf2, p3, pf3, p4, pf4⟩ := xf5_ HG.out.piece
  obtain ⟨r0_, rf0, r1_, rf1⟩ := xf2_ HG.out.fault
  have pl := blk_lt HG.out.piece
  have rl := blk_lt HG.out.fault
  obtain ⟨q0, q1⟩ := xl2_ HG.out.sp.blk
  have hle0 : w.heap.size ≤ w.heap.size := Nat.le_refl _
  have hle1 : w.heap.size ≤ w.heap.size + 1 := by omega
  go_wp2_with fail
  exact bodyPost_ret (v := .tuple #[.agg #[.bool false, .int .u8 0, .bool false, .int .u32 0, .slice none 0 0], .agg #[.int .u8 0, .int .u32 0], .bool false]) (by simp [results, Tryz.results42, go_sem, p0, p1, p2, p3, p4, r0_, r1_]) rfl ⟨rfl, Below.setCell (Below.setCell (Below.setCell (Below.setCell (Below.setCell (Below.setCell (Below.setCell HG.out.bel hle0 _) hle0 _) hle0 _) hle0 _) hle0 _) hle1 _) hle1 _⟩
end Go.Proofs.YtpmeapdcjmaeiaaGreatDoor.PAll
namespace Go.Proofs.YtpmeapdcjmaeiaaGreatDoor.PAll
open Go.RowKit Go.Wa Go.Wb Go.Wc
theorem put5s {W : World} {g : Nat} {t : TypeId} {a0 a1 a2 a3 a4 : Value} (h : W.heap[g]? = some (.cells #[a0, a1, a2, a3, a4] t (0, 0))) (v0 v1 v2 v3 v4 : Value) : (((((W.setCell ⟨g, 0, none⟩ v0).setCell ⟨g, 1, none⟩ v1).setCell ⟨g, 2, none⟩ v2).setCell ⟨g, 3, none⟩ v3).setCell ⟨g, 4, none⟩ v4).heap[g]? = some (.cells #[v0, v1, v2, v3, v4] t (0, 0)) :=
 blk_put (blk_put (blk_put (blk_put (blk_put h 0 v0 rfl) 1 v1 rfl) 2 v2 rfl) 3 v3 rfl) 4 v4 rfl
theorem takeS (i : Nat) (n : Tmp) {P : Program} {md : Region.Mode} {ops : Array Oper} {Q : Exit → Act → World → Prop} {S : World → Prop} {oi : Oper} {v : Value} {fuel : Nat} {listed : Array Bool} {a a' : Act} {w : World}
  (h : wpAnyH P md ops Q S fuel (listed.setIfInBounds i true) a' w) (hi : ops[i]? = some oi := by rfl) (hN : oi.dst = some n := by rfl)
  (hs : Region.noSelect ops = true := by kernel_rfl) (hf : Region.free md ops listed i = true := by kernel_rfl) (hr : (Region.ready md ops listed).contains i = true := by kernel_rfl)
  (hQ : ∀ c a w, Q (.panic c) (a.put oi.dst v) w → Q (.panic c) a w := by exact fun _ _ _ h => h)
  (hy : YieldsIf P ops S oi v a := by (refine Or.inl ⟨by rfl, ?_⟩; intro w_ hSw_; go_simp; first | done | (with_reducible rfl)))
  (ha : a.put (some n) v = a' := by (simp only [Act.put, z1_, z2_, z3_]; rfl)) (hS : S w := by assumption) : wpAnyH P md ops Q S (fuel + 1) listed a w :=
 takeN hi hN hs hf hr hQ hy ha hS h
theorem keep5 (W : World) (k : Nat) (a b c d e : Value) (j : Nat) (hj : j ≠ k) : (((((W.setCell ⟨k, 0, none⟩ a).setCell ⟨k, 1, none⟩ b).setCell ⟨k, 2, none⟩ c).setCell ⟨k, 3, none⟩ d).setCell ⟨k, 4, none⟩ e).heap[j]? = W.heap[j]? := (Below.heap_setCell _ _ _ _ hj).trans ((Below.heap_setCell _ _ _ _ hj).trans ((Below.heap_setCell _ _ _ _ hj).trans ((Below.heap_setCell _ _ _ _ hj).trans (Below.heap_setCell _ _ _ _ hj))))
theorem keep2 (W : World) (k : Nat) (a b : Value) (j : Nat) (hj : j ≠ k) : ((W.setCell ⟨k, 0, none⟩ a).setCell ⟨k, 1, none⟩ b).heap[j]? = W.heap[j]? := (Below.heap_setCell _ _ _ _ hj).trans (Below.heap_setCell _ _ _ _ hj)
theorem row5 {W : World} {n k : Nat} {v : Value} {l : List Int} {cs : Array Value} (h : Kd.R (Kd.int .u8) 5 W n (fun _ => True) v l) (hb : W.heap[k]? = some (.cells cs 81 (0, 0))) (a b c d e : Value) : Kd.R (Kd.int .u8) 5 (((((W.setCell ⟨k, 0, none⟩ a).setCell ⟨k, 1, none⟩ b).setCell ⟨k, 2, none⟩ c).setCell ⟨k, 3, none⟩ d).setCell ⟨k, 4, none⟩ e) n (fun _ => True) v l :=
 Kd.R_mono (Kd.R_far (Kd.R_far (Kd.R_far (Kd.R_far (Kd.R_far (Kd.R_types h hb (by intro q hq; simp [Kd.int, Kd.scalar] at hq; omega)) (p := ⟨k, 0, none⟩) (fun j hj => hj.2) a) (p := ⟨k, 1, none⟩) (fun j hj => hj.2) b) (p := ⟨k, 2, none⟩) (fun j hj => hj.2) c) (p := ⟨k, 3, none⟩) (fun j hj => hj.2) d) (p := ⟨k, 4, none⟩) (fun j hj => hj.2) e) (fun _ _ => trivial)
theorem row2 {W : World} {n k : Nat} {v : Value} {l : List Int} {cs : Array Value} (h : Kd.R (Kd.int .u8) 5 W n (fun _ => True) v l) (hb : W.heap[k]? = some (.cells cs 87 (0, 0))) (a b : Value) : Kd.R (Kd.int .u8) 5 ((W.setCell ⟨k, 0, none⟩ a).setCell ⟨k, 1, none⟩ b) n (fun _ => True) v l :=
 Kd.R_mono (Kd.R_far (Kd.R_far (Kd.R_types h hb (by intro q hq; simp [Kd.int, Kd.scalar] at hq; omega)) (p := ⟨k, 0, none⟩) (fun j hj => hj.2) a) (p := ⟨k, 1, none⟩) (fun j hj => hj.2) b) (fun _ _ => trivial)
theorem Ng.put5 {wb w W : World} {g k : Nat} {v : Value} {m : Bool} {l : List Int} {cs : Array Value} (h : Ng wb w W g v m l) (h1 : w.heap.size + 1 < k) (h2 : g < k) (hb : W.heap[k]? = some (.cells cs 81 (0, 0))) (a b c d e : Value) : Ng wb w (((((W.setCell ⟨k, 0, none⟩ a).setCell ⟨k, 1, none⟩ b).setCell ⟨k, 2, none⟩ c).setCell ⟨k, 3, none⟩ d).setCell ⟨k, 4, none⟩ e) g v m l := by
 have h0 := keep5 W k a b c d e
 exact ⟨Below.setCell (Below.setCell (Below.setCell (Below.setCell (Below.setCell h.bel (by show _ ≤ k; omega) _) (by show _ ≤ k; omega) _) (by show _ ≤ k; omega) _) (by show _ ≤ k; omega) _) (by show _ ≤ k; omega) _, ⟨(h0 g (by omega)).trans h.sp.blk, row5 h.sp.row hb a b c d e⟩, (h0 _ (by omega)).trans h.piece, (h0 _ (by omega)).trans h.fault⟩
structure FinS (wb w W : World) (g : Nat) (m : Bool) (v : Value) (d : List Int) (pv : Value) (p : List Int) : Prop where
 bel : Below wb.heap.size wb W
 base : wb.heap.size ≤ w.heap.size
 old : ∀ k, k < w.heap.size → k ≠ g → W.heap[k]? = w.heap[k]?
 low : g < w.heap.size
 blk : W.heap[g]? = some (.cells #[v, .bool m, .bool false] 116 (0, 0))
 row : Kd.R (Kd.int .u8) 5 W w.heap.size (fun _ => True) v d
 prow : Kd.R (Kd.int .u8) 5 W w.heap.size (fun _ => True) pv p
 piece : W.heap[w.heap.size]? = some (.cells #[.bool false, .int .u8 0, .bool false, .int .u32 0, .slice none 0 0] 81 (0, 0))
 fault : W.heap[w.heap.size + 1]? = some (.cells #[.int .u8 0, .int .u32 0] 87 (0, 0))
 ne : ∀ k, pv.ownBlock = some k → v.ownBlock ≠ some k
theorem FinS.of {wb w W : World} {g : Nat} {m : Bool} {v v1 : Value} {l d : List Int} {pv : Value} {p : List Int} (h : Ng wb w W g v1 m l) (hB : Below wb.heap.size wb w) (hgb : wb.heap.size ≤ g) (hgl : g < w.heap.size) (hd : Kd.R (Kd.int .u8) 5 W w.heap.size (fun _ => True) v d) (hp : Kd.R (Kd.int .u8) 5 W w.heap.size (fun _ => True) pv p) (hne : ∀ k, pv.ownBlock = some k → v.ownBlock ≠ some k) : FinS wb w (W.setCell ⟨g, 0, none⟩ v) g m v d pv p := by
 have h0 : ∀ j, j ≠ g → (W.setCell ⟨g, 0, none⟩ v).heap[j]? = W.heap[j]? := fun j hj => Below.heap_setCell _ _ _ _ hj
 have hr : ∀ {v : Value} {d : List Int} (u : Value), Kd.R (Kd.int .u8) 5 W w.heap.size (fun _ => True) v d → Kd.R (Kd.int .u8) 5 (W.setCell ⟨g, 0, none⟩ u) w.heap.size (fun _ => True) v d := fun u hd => Kd.R_mono (Kd.R_far (Kd.R_types hd h.sp.blk (by intro q hq; simp [Kd.int, Kd.scalar] at hq; omega)) (p := ⟨g, 0, none⟩) (fun j hj => hj.2) u) (fun _ _ => trivial)
 exact ⟨Below.setCell (below_step hB h.bel) (by show _ ≤ g; omega) _, hB.size, fun k hk hkg => (h0 k hkg).trans (h.bel.block k hk), hgl, blk_put h.sp.blk 0 v rfl, hr v hd, hr v hp, (h0 _ (by omega)).trans h.piece, (h0 _ (by omega)).trans h.fault, hne⟩
def NextPost (wb : World) (g : Nat) (m : Bool) (d : List Int) (s1 : Bool) (s2 : Int) (s3 : Bool) (s4 : Int) (s5 : List Int) (w : World) (e : Ending) (w' : World) : Prop := ∃ v pv, e = .returned (.tuple #[.agg #[.bool s1, .int .u8 s2, .bool s3, .int .u32 s4, pv], .agg #[.int .u8 0, .int .u32 0], .bool true]) ∧ Sp wb w' g v m false d ∧ Kd.R (Kd.int .u8) 5 w' w.heap.size (fun _ => True) v d ∧ Kd.R (Kd.int .u8) 5 w' w.heap.size (fun _ => True) pv s5 ∧ Below wb.heap.size wb w' ∧ (∀ k, k < w.heap.size → k ≠ g → w'.heap[k]? = w.heap[k]?) ∧ ∀ k, pv.ownBlock = some k → v.ownBlock ≠ some k
theorem NextPost.fin {wb w W : World} {g : Nat} {m : Bool} {v : Value} {d : List Int} {pv : Value} {s1 : Bool} {s2 : Int} {s3 : Bool} {s4 : Int} {s5 : List Int} (h : FinS wb w W g m v d pv s5) {a b c e f x y : Value} : NextPost wb g m d s1 s2 s3 s4 s5 w (.returned (.tuple #[.agg #[.bool s1, .int .u8 s2, .bool s3, .int .u32 s4, pv], .agg #[.int .u8 0, .int .u32 0], .bool true])) (((((((W.setCell ⟨w.heap.size, 0, none⟩ a).setCell ⟨w.heap.size, 1, none⟩ b).setCell ⟨w.heap.size, 2, none⟩ c).setCell ⟨w.heap.size, 3, none⟩ e).setCell ⟨w.heap.size, 4, none⟩ f).setCell ⟨w.heap.size + 1, 0, none⟩ x).setCell ⟨w.heap.size + 1, 1, none⟩ y) := by
 have h5 := keep5 W w.heap.size a b c e f
 have hf := (h5 (w.heap.size + 1) (by omega)).trans h.fault
 have r1 := row2 (row5 h.row h.piece a b c e f) hf x y
 have r2 := row2 (row5 h.prow h.piece a b c e f) hf x y
 have h7 : ∀ j, j ≠ w.heap.size → j ≠ w.heap.size + 1 → _ := fun j hj hj2 => (keep2 (((((W.setCell ⟨w.heap.size, 0, none⟩ a).setCell ⟨w.heap.size, 1, none⟩ b).setCell ⟨w.heap.size, 2, none⟩ c).setCell ⟨w.heap.size, 3, none⟩ e).setCell ⟨w.heap.size, 4, none⟩ f) (w.heap.size + 1) x y j hj2).trans (h5 j hj)
 have hb := h.base
 have hl := h.low
 have hle0 : wb.heap.size ≤ w.heap.size := hb
 have hle1 : wb.heap.size ≤ w.heap.size + 1 := by omega
 exact ⟨v, pv, rfl, ⟨(h7 g (by omega) (by omega)).trans h.blk, Kd.R_lower r1 hb⟩, r1, r2, Below.setCell (Below.setCell (Below.setCell (Below.setCell (Below.setCell (Below.setCell (Below.setCell h.bel hle0 _) hle0 _) hle0 _) hle0 _) hle0 _) hle1 _) hle1 _, fun k hk hkg => (h7 k (by omega) (by omega)).trans (h.old k hk hkg), h.ne⟩
theorem split_next_frame (wb w : World) (g : Nat) (v : Value) (m : Bool) (l tk dk : List Int) (kk : Nat) (r1 : Int) (s1 : Bool) (s2 : Int) (s3 : Bool) (s4 : Int) (s5 : List Int) (s6 s7 : Int) (h : Sp wb w g v m false l) (hB : Below wb.heap.size wb w) (hgb : wb.heap.size ≤ g) (hg : Cond w) (hh : wsframe_Head.f l m = some (r1, 0, 0, true)) (hr0 : 0 ≤ r1) (hr1 : r1 ≤ l.length) (htk : l.take r1.toNat = tk) (hdk : l.drop r1.toNat = dk) (hhg : wsframe_Get.f kk tk m = some (s1, s2, s3, s4, s5, s6, s7)) (hcl : bytes_Clone.f dk = some dk) : Calls Tryz.prog 42 #[.pointer (some ⟨g, 0, none⟩)] w (NextPost wb g m dk s1 s2 s3 s4 s5 w) := by
 have hdk8 : (Tryz.prog.info? 5).map (fun i => i.size) = some 1 := by kernel_rfl
 obtain ⟨i_, hi_⟩ : ∃ i, Tryz.prog.info? 5 = some i := by
  have h : (Tryz.prog.info? 5).isSome = true := by kernel_rfl
  exact Option.isSome_iff_exists.1 h
 have hsz_ : i_.size = 1 := by
  rw [hi_] at hdk8
  exact Option.some.inj hdk8
 obtain ⟨Av, cv, rfl⟩ := Kd.R_slice h.row
 have hlc := (Kd.R_reads' h.row).2.1
 obtain ⟨hcT, _, htc⟩ := print_take_int (P := Tryz.prog) (k := .u8) 27 5 Tryz.underlying27 hi_ hsz_ Av cv l r1 hr0 hr1 hlc
 obtain ⟨Ad, hcD, hrd, hdc⟩ := print_cut_int (P := Tryz.prog) (k := .u8) 27 5 Tryz.underlying27 hi_ hsz_ Av cv l r1 hr0 hr1 hlc
 have HTk : Aside0 (∀ W, Kd.C (Kd.int .u8) W Av l.length l → Kd.C (Kd.int .u8) W Av tk.length tk) := ⟨fun W h => htk ▸ Kd.C_take h (by omega)⟩
 have HDk : Aside0 (∀ W, Kd.C (Kd.int .u8) W Av l.length l → Kd.C (Kd.int .u8) W Ad dk.length dk) := ⟨fun W h => by
  have h1 := hrd W (Kd.reads_of_C h)
  rw [hdk] at h1
  exact Kd.C_of_reads (d := (0 : Int)) (h1 := fun _ => rfl) h1⟩
 rw [htk] at hcT htc
 rw [hdk] at hcD hdc
 have HB := a_ hB
 have HHG := a_ hhg
 obtain ⟨cd, hcd⟩ : ∃ cd, cd = cv - r1.toNat := ⟨_, rfl⟩
 rw [← hcd] at hcD hdc
 clear hhg hB htk hdk hrd hdk8 hsz_ hi_ i_ hlc hcd
 have c2 : w.cell? ⟨g, 2, none⟩ = some (.bool false) := (blk_cell h.blk 2).trans rfl
 have hgl := blk_lt h.blk
 have HS := a_ h
 have HC := a_ hg
 have HH := a_ hh
 clear h hg hh
 have hu31 := Tryz.underlying81
 have hu33 := Tryz.underlying87
 go_enter Tryz.func42, Tryz.ntmps42
 go_wp2_with fail
 refine (split_bad_any g false _ ?_).mono ?_
 ·exact (blk_cell (HS.out.below (below_alloc (below_alloc (Below.refl _ _) _) _)).blk 2).trans rfl
 rintro e w1 ⟨rfl, rfl⟩
 have hN0 : Ng wb w ((w.alloc (.cells #[.bool false, .int .u8 0, .bool false, .int .u32 0, .slice none 0 0] 81)).alloc (.cells #[.int .u8 0, .int .u32 0] 87)) g (.slice Av l.length cv) m l := ⟨below_alloc (below_alloc (Below.refl _ _) _) _, HS.out.below (below_alloc (below_alloc (Below.refl _ _) _) _), blk_alloc (last_at _ _ _ rfl) _, last_at _ _ _ (by simp)⟩
 generalize (w.alloc (.cells #[.bool false, .int .u8 0, .bool false, .int .u32 0, .slice none 0 0] 81)).alloc (.cells #[.int .u8 0, .int .u32 0] 87) = w1 at hN0 ⊢
 have HN0 := a_ hN0
 clear hN0 c2 HS
 go_upto_region 3 with fail
 refine wp_region_noPanic ?_
 refine wp_region_held_drew (S := fun w' => Aside0 (Ng wb w w' g (.slice Av l.length cv) m l) ∧ w'.cell? ⟨g, 0, none⟩ = some (.slice Av l.length cv) ∧ w'.cell? ⟨g, 1, none⟩ = some (.bool m)) (by kernel_rfl) (NS.mk (HN0.out.below (below_drew (Below.refl _ _)))) (fun hHeld => ?_)
 refine takeS 0 15 ?_
 refine takeS 1 16 ?_
 refine takeS 2 17 ?_
 refine takeS 3 18 ?_
 refine takeS 4 19 ?_
 refine takeS 5 20 ?_
 refine takeS 6 21 ?_
 refine takeS 7 22 ?_
 refine wpAnyH_ready (rs := [8, 13]) (by kernel_rfl) (by simp) ?_
 refine AllReadyH.cons rfl (fun K hK => ?_) (AllReadyH.cons rfl (fun K hK => ?_) AllReadyH.nil)
 focus
  go_simp
  go_at_call 72
  with_reducible refine (wsframe_Head.calls Av cv l m r1 0 0 true _ (Kd.R_reads' hHeld.1.out.sp.row).2.2 (Kd.R_reads' hHeld.1.out.sp.row).2.1 HH.out (HC.out.below hHeld.1.out.bel)).mono ?_
  rintro e w2 ⟨rfl, hb⟩
  have HG2 := a_ (hHeld.1.out.below hb)
  clear hb
  refine hK.out _ _ (NS.mk HG2.out) (fun hHeld => ?_)
  clear hK K
  try simp only [Act.put, z1_, z2_, z3_]
  refine takeS 9 14 ?_
  refine takeS 10 24 ?_
  refine takeS 11 25 ?_
  refine takeS 12 26 ?_
  refine rd1_ 13 fun K hK => ?_
  go_simp
  refine hK.out _ _ (NS.mk (HG2.out.below (below_alloc (Below.refl _ _) _))) (fun hHeld => ?_)
  clear hK K
  try simp only [Act.put, z1_, z2_, z3_]
  refine takeS 14 5 ?_
  refine rd1_ 15 fun K hK => ?_
  go_simp
  refine hK.out _ _ (NS.mk (HG2.out.below (below_alloc (Below.refl _ _) _))) (fun hHeld => ?_)
  clear hK K
  try simp only [Act.put, z1_, z2_, z3_]
  refine takeS 16 7 ?_
  refine wpAnyH_done (by kernel_rfl) ?_ _
  refine NoPanic.normal ?_
  have hG6 := hHeld.1.out
  clear hHeld
  have hbox : (w2.alloc (.cells #[.int .u8 0, .int .u32 0] 87)).heap[w2.heap.size]? = some (.cells #[.int .u8 0, .int .u32 0] 87 (0, 0)) := last_at w2 _ _ rfl
  have hgl2 := HG2.out.lt
  generalize w2.alloc (.cells #[.int .u8 0, .int .u32 0] 87) = W6 at hG6 hbox ⊢
  generalize w2.heap.size = gb at hbox hgl2 ⊢
  clear HG2 HN0
 rotate_left
 focus
  have HW1 := a_ hHeld.1.out
  go_simp
  refine hK.out _ _ (NS.mk (HW1.out.below (below_alloc (Below.refl _ _) _))) (fun hHeld => ?_)
  clear hK K
  try simp only [Act.put, z1_, z2_, z3_]
  refine rd1_ 8 fun K hK => ?_
  go_simp
  go_at_call 72
  with_reducible refine (wsframe_Head.calls Av cv l m r1 0 0 true _ (Kd.R_reads' hHeld.1.out.sp.row).2.2 (Kd.R_reads' hHeld.1.out.sp.row).2.1 HH.out (HC.out.below hHeld.1.out.bel)).mono ?_
  rintro e w2 ⟨rfl, hb⟩
  have HG2 := a_ (hHeld.1.out.below hb)
  have hbx : w2.heap[w1.heap.size]? = some (.cells #[.int .u8 0, .int .u32 0] 87 (0, 0)) := blk_below (blk_drew (last_at w1 _ _ rfl)) hb
  obtain ⟨bc0, bf0, bc1, bf1⟩ := xf2_ hbx
  have bl := blk_lt hbx
  have hgl2 : w.heap.size + 1 < w1.heap.size := HN0.out.lt
  have hgl3 : g < w1.heap.size := blk_lt HN0.out.sp.blk
  have HBX := a_ hbx
  clear hbx
  clear hb
  refine hK.out _ _ (NS.mk HG2.out) (fun hHeld => ?_)
  clear hK K
  try simp only [Act.put, z1_, z2_, z3_]
  refine takeS 9 14 ?_
  refine takeS 10 24 ?_
  refine takeS 11 25 ?_
  refine takeS 12 26 ?_
  refine takeS 14 5 ?_
  refine rd1_ 15 fun K hK => ?_
  go_simp
  refine hK.out _ _ (NS.mk (Ng.put2 HG2.out hgl2 hgl3 HBX.out _ _)) (fun hHeld => ?_)
  clear hK K
  try simp only [Act.put, z1_, z2_, z3_]
  refine takeS 16 7 ?_
  refine wpAnyH_done (by kernel_rfl) ?_ _
  refine NoPanic.normal ?_
  have hG6 := hHeld.1.out
  clear hHeld bc0 bc1 bf0 bf1 bl
  have hbox := blk_put (blk_put HBX.out 0 (.int .u8 0) rfl) 1 (.int .u32 0) rfl
  generalize ((w2.setCell ⟨w1.heap.size, 0, none⟩ (.int .u8 0)).setCell ⟨w1.heap.size, 1, none⟩ (.int .u32 0)) = W6 at hG6 hbox ⊢
  generalize w1.heap.size = gb at hbox hgl2 ⊢
  clear HG2 HN0
 all_goals
  have HG := a_ hG6
  have HBX6 := a_ hbox
  obtain ⟨k0, kf0, k1, kf1⟩ := xf2_ hbox
  have kl := blk_lt hbox
  clear hG6 hbox
  obtain ⟨p0, pf0, p1, pf1, p2, pf2, p3, pf3, p4, pf4⟩ := xf5_ HG.out.piece
  obtain ⟨r0_, rf0, r1_, rf1⟩ := xf2_ HG.out.fault
  have pl := blk_lt HG.out.piece
  have rl := blk_lt HG.out.fault
  obtain ⟨q0, q1⟩ := xl2_ HG.out.sp.blk
  have hle0 : w.heap.size ≤ w.heap.size := Nat.le_refl _
  have hle1 : w.heap.size ≤ w.heap.size + 1 := by omega
  have hgt : decide ((l.length : Int) < r1) = false := decide_eq_false (by omega)
  go_upto_region 11 with fail
  clear k0 k1 kf0 kf1 kl p0 p1 p2 p3 p4 pf0 pf1 pf2 pf3 pf4 r0_ r1_ rf0 rf1 pl rl q0 q1 hle0 hle1 HBX6
  have HGc := HG
  clear HG
  refine wp_region_noPanic ?_
  refine wp_region_held_drew (S := fun w' => Aside0 (Ng wb w w' g (.slice Av l.length cv) m l) ∧ w'.cell? ⟨g, 0, none⟩ = some (.slice Av l.length cv) ∧ w'.cell? ⟨g, 1, none⟩ = some (.bool m)) (by kernel_rfl) (NS.mk (HGc.out.below (below_drew (Below.refl _ _)))) (fun hHeld => ?_)
  refine takeS 0 55 ?_
  refine takeS 1 56 ?_
  refine takeS 2 57 ?_
  refine takeS 3 58 ?_
  refine takeS 4 59 ?_
  refine takeS 5 60 ?_
  refine takeS 6 61 ?_
  refine takeS 7 62 ?_
  refine takeS 8 63 ?_
  refine takeS 9 64 ?_
  refine wpAnyH_ready (rs := [10, 14, 15]) (by kernel_rfl) (by simp) ?_
  refine (AllReadyH.cons rfl (fun K hK => ?_) (AllReadyH.cons rfl (fun K hK => ?_) (AllReadyH.cons rfl (fun K hK => ?_) AllReadyH.nil)))
  focus
   go_simp
   go_at_call 73
   with_reducible refine (wsframe_Get.calls kk Av cv tk m s1 s2 s3 s4 s5 s6 s7 _ (HTk.out _ (Kd.R_reads' hHeld.1.out.sp.row).2.2) htc HHG.out (HC.out.below hHeld.1.out.bel)).mono ?_
   rintro e V1 ⟨vp, rfl, ho, hb⟩
   obtain ⟨Ap, cp, rfl⟩ := Kd.R_slice ho
   have HO : Aside0 (Kd.R (Kd.int .u8) 5 V1 w.heap.size (fun _ => True) (.slice Ap s5.length cp) s5) := ⟨Kd.R_lower ho (show w.heap.size ≤ _ from hHeld.1.out.bel.size)⟩
   have HGn : Aside0 (Ng wb w V1 g (.slice Av l.length cv) m l) := ⟨hHeld.1.out.below hb⟩
   clear ho hb HGc
   have HGc := HGn
   clear HGn
   refine hK.out _ _ (NS.mk HGc.out) (fun hHeld => ?_)
   clear hK K
   try simp only [Act.put, z1_, z2_, z3_]
   refine takeS 11 54 ?_
   refine takeS 12 66 ?_
   refine takeS 13 67 ?_
   refine wpAnyH_ready (rs := [14, 15]) (by kernel_rfl) (by simp) ?_
   refine (AllReadyH.cons rfl (fun K hK => ?_) (AllReadyH.cons rfl (fun K hK => ?_) AllReadyH.nil))
   focus
    go_simp
    refine hK.out _ _ (NS.mk (HGc.out.below (below_alloc (Below.refl _ _) _))) (fun hHeld => ?_)
    clear hK K
    try simp only [Act.put, z1_, z2_, z3_]
    have hbx : (V1.alloc (.cells #[.bool false, .int .u8 0, .bool false, .int .u32 0, .slice none 0 0] 81)).heap[V1.heap.size]? = some (.cells #[.bool false, .int .u8 0, .bool false, .int .u32 0, .slice none 0 0] 81 (0, 0)) := last_at V1 _ _ rfl
    have hgn : Ng wb w (V1.alloc (.cells #[.bool false, .int .u8 0, .bool false, .int .u32 0, .slice none 0 0] 81)) g (.slice Av l.length cv) m l := HGc.out.below (below_alloc (Below.refl _ _) _)
    have hlt_gp : w.heap.size + 1 < V1.heap.size := HGc.out.lt
    have hgt_gp : g < V1.heap.size := blk_lt HGc.out.sp.blk
    have hHOn := Kd.R_alloc HO.out (.cells #[.bool false, .int .u8 0, .bool false, .int .u32 0, .slice none 0 0] 81)
    generalize V1.alloc (.cells #[.bool false, .int .u8 0, .bool false, .int .u32 0, .slice none 0 0] 81) = V2 at hHeld hbx hgn hHOn ⊢
    generalize V1.heap.size = gp at hbx hlt_gp hgt_gp ⊢
    clear HGc HO
    have HGc := a_ hgn
    have HPb := a_ hbx
    clear hgn hbx
    have HO := a_ hHOn
    clear hHOn
    refine wpAnyH_ready (rs := [15]) (by kernel_rfl) (by simp) ?_
    refine (AllReadyH.cons rfl (fun K hK => ?_) AllReadyH.nil)
    focus
     go_simp
     refine hK.out _ _ (NS.mk (HGc.out.below (below_alloc (Below.refl _ _) _))) (fun hHeld => ?_)
     clear hK K
     try simp only [Act.put, z1_, z2_, z3_]
     have hbx : (V2.alloc (.cells #[.int .u8 0, .int .u32 0] 87)).heap[V2.heap.size]? = some (.cells #[.int .u8 0, .int .u32 0] 87 (0, 0)) := last_at V2 _ _ rfl
     have hgn : Ng wb w (V2.alloc (.cells #[.int .u8 0, .int .u32 0] 87)) g (.slice Av l.length cv) m l := HGc.out.below (below_alloc (Below.refl _ _) _)
     have hlt_gf : w.heap.size + 1 < V2.heap.size := HGc.out.lt
     have hgt_gf : g < V2.heap.size := blk_lt HGc.out.sp.blk
     have hne_ : gp < V2.heap.size := blk_lt HPb.out
     have hHPbn := blk_alloc HPb.out (.cells #[.int .u8 0, .int .u32 0] 87)
     have hHOn := Kd.R_alloc HO.out (.cells #[.int .u8 0, .int .u32 0] 87)
     generalize V2.alloc (.cells #[.int .u8 0, .int .u32 0] 87) = VZ at hHeld hbx hgn hHPbn hHOn ⊢
     generalize V2.heap.size = gf at hbx hlt_gf hgt_gf hne_ ⊢
     clear HGc HPb HO
     have HGc := a_ hgn
     have HFb := a_ hbx
     clear hgn hbx
     have HPb := a_ hHPbn
     clear hHPbn
     have HO := a_ hHOn
     clear hHOn
    rotate_left 1
   rotate_left 1
   focus
    go_simp
    refine hK.out _ _ (NS.mk (HGc.out.below (below_alloc (Below.refl _ _) _))) (fun hHeld => ?_)
    clear hK K
    try simp only [Act.put, z1_, z2_, z3_]
    have hbx : (V1.alloc (.cells #[.int .u8 0, .int .u32 0] 87)).heap[V1.heap.size]? = some (.cells #[.int .u8 0, .int .u32 0] 87 (0, 0)) := last_at V1 _ _ rfl
    have hgn : Ng wb w (V1.alloc (.cells #[.int .u8 0, .int .u32 0] 87)) g (.slice Av l.length cv) m l := HGc.out.below (below_alloc (Below.refl _ _) _)
    have hlt_gf : w.heap.size + 1 < V1.heap.size := HGc.out.lt
    have hgt_gf : g < V1.heap.size := blk_lt HGc.out.sp.blk
    have hHOn := Kd.R_alloc HO.out (.cells #[.int .u8 0, .int .u32 0] 87)
    generalize V1.alloc (.cells #[.int .u8 0, .int .u32 0] 87) = V4 at hHeld hbx hgn hHOn ⊢
    generalize V1.heap.size = gf at hbx hlt_gf hgt_gf ⊢
    clear HGc HO
    have HGc := a_ hgn
    have HFb := a_ hbx
    clear hgn hbx
    have HO := a_ hHOn
    clear hHOn
    refine wpAnyH_ready (rs := [14]) (by kernel_rfl) (by simp) ?_
    refine (AllReadyH.cons rfl (fun K hK => ?_) AllReadyH.nil)
    focus
     go_simp
     refine hK.out _ _ (NS.mk (HGc.out.below (below_alloc (Below.refl _ _) _))) (fun hHeld => ?_)
     clear hK K
     try simp only [Act.put, z1_, z2_, z3_]
     have hbx : (V4.alloc (.cells #[.bool false, .int .u8 0, .bool false, .int .u32 0, .slice none 0 0] 81)).heap[V4.heap.size]? = some (.cells #[.bool false, .int .u8 0, .bool false, .int .u32 0, .slice none 0 0] 81 (0, 0)) := last_at V4 _ _ rfl
     have hgn : Ng wb w (V4.alloc (.cells #[.bool false, .int .u8 0, .bool false, .int .u32 0, .slice none 0 0] 81)) g (.slice Av l.length cv) m l := HGc.out.below (below_alloc (Below.refl _ _) _)
     have hlt_gp : w.heap.size + 1 < V4.heap.size := HGc.out.lt
     have hgt_gp : g < V4.heap.size := blk_lt HGc.out.sp.blk
     have hne_ : gf < V4.heap.size := blk_lt HFb.out
     have hHFbn := blk_alloc HFb.out (.cells #[.bool false, .int .u8 0, .bool false, .int .u32 0, .slice none 0 0] 81)
     have hHOn := Kd.R_alloc HO.out (.cells #[.bool false, .int .u8 0, .bool false, .int .u32 0, .slice none 0 0] 81)
     generalize V4.alloc (.cells #[.bool false, .int .u8 0, .bool false, .int .u32 0, .slice none 0 0] 81) = VZ at hHeld hbx hgn hHFbn hHOn ⊢
     generalize V4.heap.size = gp at hbx hlt_gp hgt_gp hne_ ⊢
     clear HGc HFb HO
     have HGc := a_ hgn
     have HPb := a_ hbx
     clear hgn hbx
     have HFb := a_ hHFbn
     clear hHFbn
     have HO := a_ hHOn
     clear hHOn
    rotate_left 1
   rotate_left 1
  rotate_left 2
  focus
   go_simp
   refine hK.out _ _ (NS.mk ((HGc.out.below (below_drew (Below.refl _ _))).below (below_alloc (Below.refl _ _) _))) (fun hHeld => ?_)
   clear hK K
   try simp only [Act.put, z1_, z2_, z3_]
   have hbx : (W6.alloc (.cells #[.bool false, .int .u8 0, .bool false, .int .u32 0, .slice none 0 0] 81)).heap[W6.heap.size]? = some (.cells #[.bool false, .int .u8 0, .bool false, .int .u32 0, .slice none 0 0] 81 (0, 0)) := last_at W6 _ _ rfl
   have hgn : Ng wb w (W6.alloc (.cells #[.bool false, .int .u8 0, .bool false, .int .u32 0, .slice none 0 0] 81)) g (.slice Av l.length cv) m l := HGc.out.below (below_alloc (Below.refl _ _) _)
   have hlt_gp : w.heap.size + 1 < W6.heap.size := HGc.out.lt
   have hgt_gp : g < W6.heap.size := blk_lt HGc.out.sp.blk
   generalize W6.alloc (.cells #[.bool false, .int .u8 0, .bool false, .int .u32 0, .slice none 0 0] 81) = V6 at hHeld hbx hgn ⊢
   generalize W6.heap.size = gp at hbx hlt_gp hgt_gp ⊢
   clear HGc
   have HGc := a_ hgn
   have HPb := a_ hbx
   clear hgn hbx
   refine wpAnyH_ready (rs := [10, 15]) (by kernel_rfl) (by simp) ?_
   refine (AllReadyH.cons rfl (fun K hK => ?_) (AllReadyH.cons rfl (fun K hK => ?_) AllReadyH.nil))
   focus
    go_simp
    go_at_call 73
    with_reducible refine (wsframe_Get.calls kk Av cv tk m s1 s2 s3 s4 s5 s6 s7 _ (HTk.out _ (Kd.R_reads' hHeld.1.out.sp.row).2.2) htc HHG.out (HC.out.below hHeld.1.out.bel)).mono ?_
    rintro e V7 ⟨vp, rfl, ho, hb⟩
    obtain ⟨Ap, cp, rfl⟩ := Kd.R_slice ho
    have HO : Aside0 (Kd.R (Kd.int .u8) 5 V7 w.heap.size (fun _ => True) (.slice Ap s5.length cp) s5) := ⟨Kd.R_lower ho (show w.heap.size ≤ _ from hHeld.1.out.bel.size)⟩
    have HGn : Aside0 (Ng wb w V7 g (.slice Av l.length cv) m l) := ⟨hHeld.1.out.below hb⟩
    have HPbn := a_ (blk_below (blk_drew HPb.out) hb)
    clear ho hb HGc HPb
    have HGc := HGn
    clear HGn
    have HPb := HPbn
    clear HPbn
    refine hK.out _ _ (NS.mk HGc.out) (fun hHeld => ?_)
    clear hK K
    try simp only [Act.put, z1_, z2_, z3_]
    refine takeS 11 54 ?_
    refine takeS 12 66 ?_
    refine takeS 13 67 ?_
    refine wpAnyH_ready (rs := [15]) (by kernel_rfl) (by simp) ?_
    refine (AllReadyH.cons rfl (fun K hK => ?_) AllReadyH.nil)
    focus
     go_simp
     refine hK.out _ _ (NS.mk (HGc.out.below (below_alloc (Below.refl _ _) _))) (fun hHeld => ?_)
     clear hK K
     try simp only [Act.put, z1_, z2_, z3_]
     have hbx : (V7.alloc (.cells #[.int .u8 0, .int .u32 0] 87)).heap[V7.heap.size]? = some (.cells #[.int .u8 0, .int .u32 0] 87 (0, 0)) := last_at V7 _ _ rfl
     have hgn : Ng wb w (V7.alloc (.cells #[.int .u8 0, .int .u32 0] 87)) g (.slice Av l.length cv) m l := HGc.out.below (below_alloc (Below.refl _ _) _)
     have hlt_gf : w.heap.size + 1 < V7.heap.size := HGc.out.lt
     have hgt_gf : g < V7.heap.size := blk_lt HGc.out.sp.blk
     have hne_ : gp < V7.heap.size := blk_lt HPb.out
     have hHPbn := blk_alloc HPb.out (.cells #[.int .u8 0, .int .u32 0] 87)
     have hHOn := Kd.R_alloc HO.out (.cells #[.int .u8 0, .int .u32 0] 87)
     generalize V7.alloc (.cells #[.int .u8 0, .int .u32 0] 87) = VZ at hHeld hbx hgn hHPbn hHOn ⊢
     generalize V7.heap.size = gf at hbx hlt_gf hgt_gf hne_ ⊢
     clear HGc HPb HO
     have HGc := a_ hgn
     have HFb := a_ hbx
     clear hgn hbx
     have HPb := a_ hHPbn
     clear hHPbn
     have HO := a_ hHOn
     clear hHOn
    rotate_left 1
   rotate_left 1
   focus
    go_simp
    refine hK.out _ _ (NS.mk ((HGc.out.below (below_drew (Below.refl _ _))).below (below_alloc (Below.refl _ _) _))) (fun hHeld => ?_)
    clear hK K
    try simp only [Act.put, z1_, z2_, z3_]
    have hbx : (V6.alloc (.cells #[.int .u8 0, .int .u32 0] 87)).heap[V6.heap.size]? = some (.cells #[.int .u8 0, .int .u32 0] 87 (0, 0)) := last_at V6 _ _ rfl
    have hgn : Ng wb w (V6.alloc (.cells #[.int .u8 0, .int .u32 0] 87)) g (.slice Av l.length cv) m l := HGc.out.below (below_alloc (Below.refl _ _) _)
    have hlt_gf : w.heap.size + 1 < V6.heap.size := HGc.out.lt
    have hgt_gf : g < V6.heap.size := blk_lt HGc.out.sp.blk
    have hne_ : gp < V6.heap.size := blk_lt HPb.out
    have hHPbn := blk_alloc HPb.out (.cells #[.int .u8 0, .int .u32 0] 87)
    generalize V6.alloc (.cells #[.int .u8 0, .int .u32 0] 87) = V9 at hHeld hbx hgn hHPbn ⊢
    generalize V6.heap.size = gf at hbx hlt_gf hgt_gf hne_ ⊢
    clear HGc HPb
    have HGc := a_ hgn
    have HFb := a_ hbx
    clear hgn hbx
    have HPb := a_ hHPbn
    clear hHPbn
    refine wpAnyH_ready (rs := [10]) (by kernel_rfl) (by simp) ?_
    refine (AllReadyH.cons rfl (fun K hK => ?_) AllReadyH.nil)
    focus
     go_simp
     go_at_call 73
     with_reducible refine (wsframe_Get.calls kk Av cv tk m s1 s2 s3 s4 s5 s6 s7 _ (HTk.out _ (Kd.R_reads' hHeld.1.out.sp.row).2.2) htc HHG.out (HC.out.below hHeld.1.out.bel)).mono ?_
     rintro e VZ ⟨vp, rfl, ho, hb⟩
     obtain ⟨Ap, cp, rfl⟩ := Kd.R_slice ho
     have HO : Aside0 (Kd.R (Kd.int .u8) 5 VZ w.heap.size (fun _ => True) (.slice Ap s5.length cp) s5) := ⟨Kd.R_lower ho (show w.heap.size ≤ _ from hHeld.1.out.bel.size)⟩
     have HGn : Aside0 (Ng wb w VZ g (.slice Av l.length cv) m l) := ⟨hHeld.1.out.below hb⟩
     have HPbn := a_ (blk_below (blk_drew HPb.out) hb)
     have HFbn := a_ (blk_below (blk_drew HFb.out) hb)
     clear ho hb HGc HPb HFb
     have HGc := HGn
     clear HGn
     have HPb := HPbn
     clear HPbn
     have HFb := HFbn
     clear HFbn
     refine hK.out _ _ (NS.mk HGc.out) (fun hHeld => ?_)
     clear hK K
     try simp only [Act.put, z1_, z2_, z3_]
     refine takeS 11 54 ?_
     refine takeS 12 66 ?_
     refine takeS 13 67 ?_
    rotate_left 1
   rotate_left 1
  rotate_left 2
  focus
   go_simp
   refine hK.out _ _ (NS.mk ((HGc.out.below (below_drew (Below.refl _ _))).below (below_alloc (Below.refl _ _) _))) (fun hHeld => ?_)
   clear hK K
   try simp only [Act.put, z1_, z2_, z3_]
   have hbx : (W6.alloc (.cells #[.int .u8 0, .int .u32 0] 87)).heap[W6.heap.size]? = some (.cells #[.int .u8 0, .int .u32 0] 87 (0, 0)) := last_at W6 _ _ rfl
   have hgn : Ng wb w (W6.alloc (.cells #[.int .u8 0, .int .u32 0] 87)) g (.slice Av l.length cv) m l := HGc.out.below (below_alloc (Below.refl _ _) _)
   have hlt_gf : w.heap.size + 1 < W6.heap.size := HGc.out.lt
   have hgt_gf : g < W6.heap.size := blk_lt HGc.out.sp.blk
   generalize W6.alloc (.cells #[.int .u8 0, .int .u32 0] 87) = V11 at hHeld hbx hgn ⊢
   generalize W6.heap.size = gf at hbx hlt_gf hgt_gf ⊢
   clear HGc
   have HGc := a_ hgn
   have HFb := a_ hbx
   clear hgn hbx
   refine wpAnyH_ready (rs := [10, 14]) (by kernel_rfl) (by simp) ?_
   refine (AllReadyH.cons rfl (fun K hK => ?_) (AllReadyH.cons rfl (fun K hK => ?_) AllReadyH.nil))
   focus
    go_simp
    go_at_call 73
    with_reducible refine (wsframe_Get.calls kk Av cv tk m s1 s2 s3 s4 s5 s6 s7 _ (HTk.out _ (Kd.R_reads' hHeld.1.out.sp.row).2.2) htc HHG.out (HC.out.below hHeld.1.out.bel)).mono ?_
    rintro e V12 ⟨vp, rfl, ho, hb⟩
    obtain ⟨Ap, cp, rfl⟩ := Kd.R_slice ho
    have HO : Aside0 (Kd.R (Kd.int .u8) 5 V12 w.heap.size (fun _ => True) (.slice Ap s5.length cp) s5) := ⟨Kd.R_lower ho (show w.heap.size ≤ _ from hHeld.1.out.bel.size)⟩
    have HGn : Aside0 (Ng wb w V12 g (.slice Av l.length cv) m l) := ⟨hHeld.1.out.below hb⟩
    have HFbn := a_ (blk_below (blk_drew HFb.out) hb)
    clear ho hb HGc HFb
    have HGc := HGn
    clear HGn
    have HFb := HFbn
    clear HFbn
    refine hK.out _ _ (NS.mk HGc.out) (fun hHeld => ?_)
    clear hK K
    try simp only [Act.put, z1_, z2_, z3_]
    refine takeS 11 54 ?_
    refine takeS 12 66 ?_
    refine takeS 13 67 ?_
    refine wpAnyH_ready (rs := [14]) (by kernel_rfl) (by simp) ?_
    refine (AllReadyH.cons rfl (fun K hK => ?_) AllReadyH.nil)
    focus
     go_simp
     refine hK.out _ _ (NS.mk (HGc.out.below (below_alloc (Below.refl _ _) _))) (fun hHeld => ?_)
     clear hK K
     try simp only [Act.put, z1_, z2_, z3_]
     have hbx : (V12.alloc (.cells #[.bool false, .int .u8 0, .bool false, .int .u32 0, .slice none 0 0] 81)).heap[V12.heap.size]? = some (.cells #[.bool false, .int .u8 0, .bool false, .int .u32 0, .slice none 0 0] 81 (0, 0)) := last_at V12 _ _ rfl
     have hgn : Ng wb w (V12.alloc (.cells #[.bool false, .int .u8 0, .bool false, .int .u32 0, .slice none 0 0] 81)) g (.slice Av l.length cv) m l := HGc.out.below (below_alloc (Below.refl _ _) _)
     have hlt_gp : w.heap.size + 1 < V12.heap.size := HGc.out.lt
     have hgt_gp : g < V12.heap.size := blk_lt HGc.out.sp.blk
     have hne_ : gf < V12.heap.size := blk_lt HFb.out
     have hHFbn := blk_alloc HFb.out (.cells #[.bool false, .int .u8 0, .bool false, .int .u32 0, .slice none 0 0] 81)
     have hHOn := Kd.R_alloc HO.out (.cells #[.bool false, .int .u8 0, .bool false, .int .u32 0, .slice none 0 0] 81)
     generalize V12.alloc (.cells #[.bool false, .int .u8 0, .bool false, .int .u32 0, .slice none 0 0] 81) = VZ at hHeld hbx hgn hHFbn hHOn ⊢
     generalize V12.heap.size = gp at hbx hlt_gp hgt_gp hne_ ⊢
     clear HGc HFb HO
     have HGc := a_ hgn
     have HPb := a_ hbx
     clear hgn hbx
     have HFb := a_ hHFbn
     clear hHFbn
     have HO := a_ hHOn
     clear hHOn
    rotate_left 1
   rotate_left 1
   focus
    go_simp
    refine hK.out _ _ (NS.mk ((HGc.out.below (below_drew (Below.refl _ _))).below (below_alloc (Below.refl _ _) _))) (fun hHeld => ?_)
    clear hK K
    try simp only [Act.put, z1_, z2_, z3_]
    have hbx : (V11.alloc (.cells #[.bool false, .int .u8 0, .bool false, .int .u32 0, .slice none 0 0] 81)).heap[V11.heap.size]? = some (.cells #[.bool false, .int .u8 0, .bool false, .int .u32 0, .slice none 0 0] 81 (0, 0)) := last_at V11 _ _ rfl
    have hgn : Ng wb w (V11.alloc (.cells #[.bool false, .int .u8 0, .bool false, .int .u32 0, .slice none 0 0] 81)) g (.slice Av l.length cv) m l := HGc.out.below (below_alloc (Below.refl _ _) _)
    have hlt_gp : w.heap.size + 1 < V11.heap.size := HGc.out.lt
    have hgt_gp : g < V11.heap.size := blk_lt HGc.out.sp.blk
    have hne_ : gf < V11.heap.size := blk_lt HFb.out
    have hHFbn := blk_alloc HFb.out (.cells #[.bool false, .int .u8 0, .bool false, .int .u32 0, .slice none 0 0] 81)
    generalize V11.alloc (.cells #[.bool false, .int .u8 0, .bool false, .int .u32 0, .slice none 0 0] 81) = V14 at hHeld hbx hgn hHFbn ⊢
    generalize V11.heap.size = gp at hbx hlt_gp hgt_gp hne_ ⊢
    clear HGc HFb
    have HGc := a_ hgn
    have HPb := a_ hbx
    clear hgn hbx
    have HFb := a_ hHFbn
    clear hHFbn
    refine wpAnyH_ready (rs := [10]) (by kernel_rfl) (by simp) ?_
    refine (AllReadyH.cons rfl (fun K hK => ?_) AllReadyH.nil)
    focus
     go_simp
     go_at_call 73
     with_reducible refine (wsframe_Get.calls kk Av cv tk m s1 s2 s3 s4 s5 s6 s7 _ (HTk.out _ (Kd.R_reads' hHeld.1.out.sp.row).2.2) htc HHG.out (HC.out.below hHeld.1.out.bel)).mono ?_
     rintro e VZ ⟨vp, rfl, ho, hb⟩
     obtain ⟨Ap, cp, rfl⟩ := Kd.R_slice ho
     have HO : Aside0 (Kd.R (Kd.int .u8) 5 VZ w.heap.size (fun _ => True) (.slice Ap s5.length cp) s5) := ⟨Kd.R_lower ho (show w.heap.size ≤ _ from hHeld.1.out.bel.size)⟩
     have HGn : Aside0 (Ng wb w VZ g (.slice Av l.length cv) m l) := ⟨hHeld.1.out.below hb⟩
     have HPbn := a_ (blk_below (blk_drew HPb.out) hb)
     have HFbn := a_ (blk_below (blk_drew HFb.out) hb)
     clear ho hb HGc HPb HFb
     have HGc := HGn
     clear HGn
     have HPb := HPbn
     clear HPbn
     have HFb := HFbn
     clear HFbn
     refine hK.out _ _ (NS.mk HGc.out) (fun hHeld => ?_)
     clear hK K
     try simp only [Act.put, z1_, z2_, z3_]
     refine takeS 11 54 ?_
     refine takeS 12 66 ?_
     refine takeS 13 67 ?_
    rotate_left 1
   rotate_left 1
  rotate_left 2
  all_goals
   have hne : gp ≠ gf := by omega
   obtain ⟨c0_, cf0_, c1_, cf1_, c2_, cf2_, c3_, cf3_, c4_, cf4_⟩ := xf5_ HPb.out
   have cl_ := blk_lt HPb.out
   refine rd1_ 16 fun K hK => ?_
   go_simp
   refine hK.out _ _ (NS.mk (Ng.put5 HGc.out hlt_gp hgt_gp HPb.out _ _ _ _ _)) (fun hHeld => ?_)
   clear hK K
   try simp only [Act.put, z1_, z2_, z3_]
   have hgn := Ng.put5 HGc.out hlt_gp hgt_gp HPb.out (.bool s1) (.int .u8 s2) (.bool s3) (.int .u32 s4) (.slice Ap s5.length cp)
   have hbx := put5s HPb.out (.bool s1) (.int .u8 s2) (.bool s3) (.int .u32 s4) (.slice Ap s5.length cp)
   have hfx := (keep5 VZ gp (.bool s1) (.int .u8 s2) (.bool s3) (.int .u32 s4) (.slice Ap s5.length cp) _ hne.symm).trans HFb.out
   have hrx := row5 HO.out HPb.out (.bool s1) (.int .u8 s2) (.bool s3) (.int .u32 s4) (.slice Ap s5.length cp)
   generalize (((((VZ.setCell ⟨gp, 0, none⟩ (.bool s1)).setCell ⟨gp, 1, none⟩ (.int .u8 s2)).setCell ⟨gp, 2, none⟩ (.bool s3)).setCell ⟨gp, 3, none⟩ (.int .u32 s4)).setCell ⟨gp, 4, none⟩ (.slice Ap s5.length cp)) = V16 at hHeld hgn hbx hfx hrx ⊢
   clear HGc HPb HFb HO c0_ c1_ c2_ c3_ c4_ cf0_ cf1_ cf2_ cf3_ cf4_ cl_
   have HGc := a_ hgn
   have HPb := a_ hbx
   have HFb := a_ hfx
   have HO := a_ hrx
   clear hgn hbx hfx hrx
   obtain ⟨c0_, cf0_, c1_, cf1_⟩ := xf2_ HFb.out
   have cl_ := blk_lt HFb.out
   refine rd1_ 17 fun K hK => ?_
   go_simp
   refine hK.out _ _ (NS.mk (Ng.put2 HGc.out hlt_gf hgt_gf HFb.out _ _)) (fun hHeld => ?_)
   clear hK K
   try simp only [Act.put, z1_, z2_, z3_]
   refine wpAnyH_done (by kernel_rfl) ?_ _
   refine NoPanic.normal ?_
   have hgn := Ng.put2 HGc.out hlt_gf hgt_gf HFb.out (.int .u8 s6) (.int .u32 s7)
   have hbx := (keep2 V16 gf (.int .u8 s6) (.int .u32 s7) _ hne).trans HPb.out
   have hrx := row2 HO.out HFb.out (.int .u8 s6) (.int .u32 s7)
   clear hHeld
   generalize ((V16.setCell ⟨gf, 0, none⟩ (.int .u8 s6)).setCell ⟨gf, 1, none⟩ (.int .u32 s7)) = X16 at hgn hbx hrx ⊢
   clear HGc HPb HFb HO c0_ c1_ cf0_ cf1_ cl_
   have HGc := a_ hgn
   have HPb := a_ hbx
   have HO := a_ hrx
   clear hgn hbx hrx
   obtain ⟨q0, qf0⟩ := xf1_ HGc.out.sp.blk
   have ql := blk_lt HGc.out.sp.blk
   go_wp2_with fail
   refine (bytes_Clone.calls Ad cd dk dk _ (HDk.out _ (Kd.R_reads' HGc.out.sp.row).2.2) hdc hcl).mono ?_
   rintro e w8 ⟨vd, rfl, hod, hb⟩
   obtain ⟨Ae, ce, rfl⟩ := Kd.R_slice hod
   clear q0 qf0 ql
   have HNE : Aside0 (∀ k, (Value.slice Ap s5.length cp).ownBlock = some k → (Value.slice Ae dk.length ce).ownBlock ≠ some k) := ⟨fun k h1 h2 => absurd (Kd.R_lt HO.out k h1) (Nat.not_lt.mpr (Kd.R_base hod k h2))⟩
   have HG8 : Aside0 (Ng wb w w8 g (.slice Av l.length cv) m l) := ⟨HGc.out.below hb⟩
   have HP8 := a_ (blk_below HPb.out hb)
   have HO8 := a_ (Kd.R_below HO.out hb)
   have HD8 := a_ (Kd.R_lower hod (show w.heap.size ≤ _ from HGc.out.bel.size))
   clear hod hb HGc HPb HO
   obtain ⟨q0, qf0⟩ := xf1_ HG8.out.sp.blk
   have ql := blk_lt HG8.out.sp.blk
   go_upto_region 13 with fail
   have hfin : FinS wb w (w8.setCell ⟨g, 0, none⟩ (.slice Ae dk.length ce)) g m (.slice Ae dk.length ce) dk (.slice Ap s5.length cp) s5 := FinS.of HG8.out HB.out hgb hgl HD8.out HO8.out HNE.out
   have hbx : (w8.setCell ⟨g, 0, none⟩ (.slice Ae dk.length ce)).heap[gp]? = some (.cells #[.bool s1, .int .u8 s2, .bool s3, .int .u32 s4, .slice Ap s5.length cp] 81 (0, 0)) := (Below.heap_setCell _ _ _ _ (by show gp ≠ g; omega)).trans HP8.out
   generalize (w8.setCell ⟨g, 0, none⟩ (.slice Ae dk.length ce)) = We at hfin hbx ⊢
   clear HG8 HP8 HO8 HD8 q0 qf0 ql
   have HFN := a_ hfin
   have HPb := a_ hbx
   clear hfin hbx
   obtain ⟨c0_, cf0_, c1_, cf1_, c2_, cf2_, c3_, cf3_, c4_, cf4_⟩ := xf5_ HPb.out
   have cl_ := blk_lt HPb.out
   obtain ⟨p0, pf0, p1, pf1, p2, pf2, p3, pf3, p4, pf4⟩ := xf5_ HFN.out.piece
   obtain ⟨r0_, rf0, r1_, rf1⟩ := xf2_ HFN.out.fault
   have pl := blk_lt HFN.out.piece
   have rl := blk_lt HFN.out.fault
   go_wp2_with fail
   exact bodyPost_ret (v := .tuple #[.agg #[.bool s1, .int .u8 s2, .bool s3, .int .u32 s4, .slice Ap s5.length cp], .agg #[.int .u8 0, .int .u32 0], .bool true]) (by simp [results, Tryz.results42, go_sem, p0, p1, p2, p3, p4, r0_, r1_]) rfl (NextPost.fin HFN.out)
end Go.Proofs.YtpmeapdcjmaeiaaGreatDoor.PAll
namespace Go.Proofs.YtpmeapdcjmaeiaaGreatDoor.PAll
open Go.RowKit Go.Wa Go.Wb Go.Wc
theorem NB.mk {W : World} {gb : Nat} {r3 : Int} (h : W.heap[gb]? = some (.cells #[.int .u8 3, .int .u32 r3] 87 (0, 0))) : Aside0 (W.heap[gb]? = some (.cells #[.int .u8 3, .int .u32 r3] 87 (0, 0))) ∧ W.cell? ⟨gb, 0, none⟩ = some (.int .u8 3) ∧ W.cell? ⟨gb, 1, none⟩ = some (.int .u32 r3) := ⟨⟨h⟩, (blk_cell h 0).trans rfl, (blk_cell h 1).trans rfl⟩
structure FinB (wb w W : World) (g : Nat) (m : Bool) : Prop where
 bel : Below wb.heap.size wb W
 base : wb.heap.size ≤ w.heap.size
 old : ∀ k, k < w.heap.size → k ≠ g → W.heap[k]? = w.heap[k]?
 low : g < w.heap.size
 blk : W.heap[g]? = some (.cells #[.slice none 0 0, .bool m, .bool true] 116 (0, 0))
 piece : W.heap[w.heap.size]? = some (.cells #[.bool false, .int .u8 0, .bool false, .int .u32 0, .slice none 0 0] 81 (0, 0))
 fault : W.heap[w.heap.size + 1]? = some (.cells #[.int .u8 0, .int .u32 0] 87 (0, 0))
theorem FinB.of {wb w W : World} {g : Nat} {m : Bool} {v1 : Value} {l : List Int} (h : Ng wb w W g v1 m l) (hB : Below wb.heap.size wb w) (hgb : wb.heap.size ≤ g) (hgl : g < w.heap.size) : FinB wb w ((W.setCell ⟨g, 2, none⟩ (.bool true)).setCell ⟨g, 0, none⟩ (.slice none 0 0)) g m := by
 have h0 : ∀ j, j ≠ g → ((W.setCell ⟨g, 2, none⟩ (.bool true)).setCell ⟨g, 0, none⟩ (.slice none 0 0)).heap[j]? = W.heap[j]? := fun j hj => (Below.heap_setCell _ _ _ _ hj).trans (Below.heap_setCell _ _ _ _ hj)
 exact ⟨Below.setCell (Below.setCell (below_step hB h.bel) (by show _ ≤ g; omega) _) (by show _ ≤ g; omega) _, hB.size, fun k hk hkg => (h0 k hkg).trans (h.bel.block k hk), hgl, blk_put (blk_put h.sp.blk 2 _ rfl) 0 _ rfl, (h0 _ (by omega)).trans h.piece, (h0 _ (by omega)).trans h.fault⟩
def NextBad (wb : World) (g : Nat) (m : Bool) (r3 : Int) (w : World) (e : Ending) (w' : World) : Prop := e = .returned (.tuple #[.agg #[.bool false, .int .u8 0, .bool false, .int .u32 0, .slice none 0 0], .agg #[.int .u8 3, .int .u32 r3], .bool true]) ∧ Sp wb w' g (.slice none 0 0) m true [] ∧ Below wb.heap.size wb w' ∧ ∀ k, k < w.heap.size → k ≠ g → w'.heap[k]? = w.heap[k]?
theorem NextBad.fin {wb w W U : World} {g : Nat} {m : Bool} {r3 : Int} (h : FinB wb w W g m) (hb : Below w.heap.size W U) : NextBad wb g m r3 w (.returned (.tuple #[.agg #[.bool false, .int .u8 0, .bool false, .int .u32 0, .slice none 0 0], .agg #[.int .u8 3, .int .u32 r3], .bool true])) U := ⟨rfl, ⟨(hb.block g h.low).trans h.blk, Kd.R_nil _ _ _ _ _⟩, h.bel.trans (hb.mono h.base), fun k hk hkg => (hb.block k hk).trans (h.old k hk hkg)⟩
theorem split_next_bad (wb w : World) (g : Nat) (v : Value) (m : Bool) (l : List Int) (r1 r3 : Int) (h : Sp wb w g v m false l) (hB : Below wb.heap.size wb w) (hgb : wb.heap.size ≤ g) (hg : Cond w) (hh : wsframe_Head.f l m = some (r1, 3, r3, true)) : Calls Tryz.prog 42 #[.pointer (some ⟨g, 0, none⟩)] w (NextBad wb g m r3 w) := by
 have HB := a_ hB
 clear hB
 obtain ⟨Av, cv, rfl⟩ := Kd.R_slice h.row
 have c2 : w.cell? ⟨g, 2, none⟩ = some (.bool false) := (blk_cell h.blk 2).trans rfl
 have hgl := blk_lt h.blk
 have HS := a_ h
 have HC := a_ hg
 have HH := a_ hh
 clear h hg hh
 have hu31 := Tryz.underlying81
 have hu33 := Tryz.underlying87
 go_enter Tryz.func42, Tryz.ntmps42
 go_wp2_with fail
 refine (split_bad_any g false _ ?_).mono ?_
 ·exact (blk_cell (HS.out.below (below_alloc (below_alloc (Below.refl _ _) _) _)).blk 2).trans rfl
 rintro e w1 ⟨rfl, rfl⟩
 have hN0 : Ng wb w ((w.alloc (.cells #[.bool false, .int .u8 0, .bool false, .int .u32 0, .slice none 0 0] 81)).alloc (.cells #[.int .u8 0, .int .u32 0] 87)) g (.slice Av l.length cv) m l := ⟨below_alloc (below_alloc (Below.refl _ _) _) _, HS.out.below (below_alloc (below_alloc (Below.refl _ _) _) _), blk_alloc (last_at _ _ _ rfl) _, last_at _ _ _ (by simp)⟩
 generalize (w.alloc (.cells #[.bool false, .int .u8 0, .bool false, .int .u32 0, .slice none 0 0] 81)).alloc (.cells #[.int .u8 0, .int .u32 0] 87) = w1 at hN0 ⊢
 have HN0 := a_ hN0
 clear hN0 c2 HS
 go_upto_region 3 with fail
 refine wp_region_noPanic ?_
 refine wp_region_held_drew (S := fun w' => Aside0 (Ng wb w w' g (.slice Av l.length cv) m l) ∧ w'.cell? ⟨g, 0, none⟩ = some (.slice Av l.length cv) ∧ w'.cell? ⟨g, 1, none⟩ = some (.bool m)) (by kernel_rfl) (NS.mk (HN0.out.below (below_drew (Below.refl _ _)))) (fun hHeld => ?_)
 refine takeP 0 15 ?_
 refine takeP 1 16 ?_
 refine takeP 2 17 ?_
 refine takeP 3 18 ?_
 refine takeP 4 19 ?_
 refine takeP 5 20 ?_
 refine takeP 6 21 ?_
 refine takeP 7 22 ?_
 refine wpAnyH_ready (rs := [8, 13]) (by kernel_rfl) (by simp) ?_
 refine AllReadyH.cons rfl (fun K hK => ?_) (AllReadyH.cons rfl (fun K hK => ?_) AllReadyH.nil)
 ·go_simp
  go_at_call 72
  with_reducible refine (wsframe_Head.calls Av cv l m r1 3 r3 true _ (Kd.R_reads' hHeld.1.out.sp.row).2.2 (Kd.R_reads' hHeld.1.out.sp.row).2.1 HH.out (HC.out.below hHeld.1.out.bel)).mono ?_
  rintro e w2 ⟨rfl, hb⟩
  have HG2 := a_ (hHeld.1.out.below hb)
  clear hb
  refine hK.out _ _ (NS.mk HG2.out) (fun hHeld => ?_)
  clear hK K
  try simp only [Act.put, z1_, z2_, z3_]
  refine takeP 9 14 ?_
  refine takeP 10 24 ?_
  refine takeP 11 25 ?_
  refine takeP 12 26 ?_
  refine rd1_ 13 fun K hK => ?_
  go_simp
  refine hK.out _ _ (NS.mk (HG2.out.below (below_alloc (Below.refl _ _) _))) (fun hHeld => ?_)
  clear hK K
  try simp only [Act.put, z1_, z2_, z3_]
  refine takeP 14 5 ?_
  refine rd1_ 15 fun K hK => ?_
  go_simp
  refine hK.out _ _ (NS.mk (HG2.out.below (below_alloc (Below.refl _ _) _))) (fun hHeld => ?_)
  clear hK K
  try simp only [Act.put, z1_, z2_, z3_]
  refine takeP 16 7 ?_
  refine wpAnyH_done (by kernel_rfl) ?_ _
  refine NoPanic.normal ?_
  have hG6 := hHeld.1.out
  clear hHeld
  have hbox : (w2.alloc (.cells #[.int .u8 3, .int .u32 r3] 87)).heap[w2.heap.size]? = some (.cells #[.int .u8 3, .int .u32 r3] 87 (0, 0)) := last_at w2 _ _ rfl
  have hgl2 := HG2.out.lt
  generalize w2.alloc (.cells #[.int .u8 3, .int .u32 r3] 87) = W6 at hG6 hbox ⊢
  generalize w2.heap.size = gb at hbox hgl2 ⊢
  clear HG2 HN0
  have HG := a_ hG6
  have HBX6 := a_ hbox
  obtain ⟨k0, kf0, k1, kf1⟩ := xf2_ hbox
  have kl := blk_lt hbox
  clear hG6 hbox
  obtain ⟨q0, qf0, -, -, q2, qf2⟩ := xf3_ HG.out.sp.blk
  have ql := blk_lt HG.out.sp.blk
  go_upto_region 8 with fail
  have hge : gb ≠ g := by omega
  have hfin : FinB wb w ((W6.setCell ⟨g, 2, none⟩ (.bool true)).setCell ⟨g, 0, none⟩ (.slice none 0 0)) g m := FinB.of HG.out HB.out hgb hgl
  have hbx : ((W6.setCell ⟨g, 2, none⟩ (.bool true)).setCell ⟨g, 0, none⟩ (.slice none 0 0)).heap[gb]? = some (.cells #[.int .u8 3, .int .u32 r3] 87 (0, 0)) := (Below.heap_setCell _ _ _ _ hge).trans ((Below.heap_setCell _ _ _ _ hge).trans HBX6.out)
  generalize ((W6.setCell ⟨g, 2, none⟩ (.bool true)).setCell ⟨g, 0, none⟩ (.slice none 0 0)) = W7 at hfin hbx ⊢
  clear HG HBX6 k0 k1 kf0 kf1 kl q0 q2 qf0 qf2 ql
  have HFN := a_ hfin
  have HBX7 := a_ hbx
  clear hfin hbx
  refine wp_region_noPanic ?_
  refine wp_region_held_drew (S := fun w' => Aside0 (w'.heap[gb]? = some (.cells #[.int .u8 3, .int .u32 r3] 87 (0, 0))) ∧ w'.cell? ⟨gb, 0, none⟩ = some (.int .u8 3) ∧ w'.cell? ⟨gb, 1, none⟩ = some (.int .u32 r3)) (by kernel_rfl) (NB.mk (blk_drew HBX7.out)) (fun hHeld => ?_)
  refine takeP 0 42 ?_
  refine takeP 1 43 ?_
  have hle0 : w.heap.size ≤ w.heap.size := Nat.le_refl _
  have hle1 : w.heap.size ≤ w.heap.size + 1 := by omega
  have hg0 : gb ≠ w.heap.size := by omega
  have hg1 : gb ≠ w.heap.size + 1 := by omega
  obtain ⟨p0, pf0, p1, pf1, p2, pf2, p3, pf3, p4, pf4⟩ := xf5_ HFN.out.piece
  have pl := blk_lt HFN.out.piece
  refine rd1_ 2 fun K hK => ?_
  go_simp
  have hbx := (keep5 W7 w.heap.size (.bool false) (.int .u8 0) (.bool false) (.int .u32 0) (.slice none 0 0) gb hg0).trans HBX7.out
  have hfl := (keep5 W7 w.heap.size (.bool false) (.int .u8 0) (.bool false) (.int .u32 0) (.slice none 0 0) (w.heap.size + 1) (by omega)).trans HFN.out.fault
  have hpc := put5s HFN.out.piece (.bool false) (.int .u8 0) (.bool false) (.int .u32 0) (.slice none 0 0)
  have hbl : Below w.heap.size W7 (((((W7.setCell ⟨w.heap.size, 0, none⟩ (.bool false)).setCell ⟨w.heap.size, 1, none⟩ (.int .u8 0)).setCell ⟨w.heap.size, 2, none⟩ (.bool false)).setCell ⟨w.heap.size, 3, none⟩ (.int .u32 0)).setCell ⟨w.heap.size, 4, none⟩ (.slice none 0 0)) := Below.setCell (Below.setCell (Below.setCell (Below.setCell (Below.setCell ⟨rfl, rfl, rfl, Nat.le_refl _, fun _ _ => rfl⟩ hle0 _) hle0 _) hle0 _) hle0 _) hle0 _
  generalize (((((W7.setCell ⟨w.heap.size, 0, none⟩ (.bool false)).setCell ⟨w.heap.size, 1, none⟩ (.int .u8 0)).setCell ⟨w.heap.size, 2, none⟩ (.bool false)).setCell ⟨w.heap.size, 3, none⟩ (.int .u32 0)).setCell ⟨w.heap.size, 4, none⟩ (.slice none 0 0)) = W8 at hbx hfl hpc hbl ⊢
  clear p0 p1 p2 p3 p4 pf0 pf1 pf2 pf3 pf4 pl
  have HBX8 := a_ hbx
  have HFL8 := a_ hfl
  have HPC8 := a_ hpc
  have HBL8 := a_ hbl
  clear hbx hfl hpc hbl
  refine hK.out _ _ (NB.mk (blk_drew HBX8.out)) (fun hHeld => ?_)
  clear hK K
  try simp only [Act.put, z1_, z2_, z3_]
  obtain ⟨r0_, rf0, r1_, rf1⟩ := xf2_ HFL8.out
  have rl := blk_lt HFL8.out
  refine rd1_ 3 fun K hK => ?_
  go_simp
  have hbx := (keep2 W8 (w.heap.size + 1) (.int .u8 3) (.int .u32 r3) gb hg1).trans HBX8.out
  have hpc := (keep2 W8 (w.heap.size + 1) (.int .u8 3) (.int .u32 r3) w.heap.size (by omega)).trans HPC8.out
  have hfl : ((W8.setCell ⟨w.heap.size + 1, 0, none⟩ (.int .u8 3)).setCell ⟨w.heap.size + 1, 1, none⟩ (.int .u32 r3)).heap[w.heap.size + 1]? = some (.cells #[.int .u8 3, .int .u32 r3] 87 (0, 0)) := blk_put (blk_put HFL8.out 0 _ rfl) 1 _ rfl
  have hbl : Below w.heap.size W7 ((W8.setCell ⟨w.heap.size + 1, 0, none⟩ (.int .u8 3)).setCell ⟨w.heap.size + 1, 1, none⟩ (.int .u32 r3)) := Below.setCell (Below.setCell HBL8.out hle1 _) hle1 _
  generalize ((W8.setCell ⟨w.heap.size + 1, 0, none⟩ (.int .u8 3)).setCell ⟨w.heap.size + 1, 1, none⟩ (.int .u32 r3)) = W9 at hbx hpc hfl hbl ⊢
  clear r0_ r1_ rf0 rf1 rl
  have HBX9 := a_ hbx
  have HPC9 := a_ hpc
  have HFL9 := a_ hfl
  have HBL9 := a_ hbl
  clear hbx hpc hfl hbl HBX8 HFL8 HPC8 HBL8
  refine hK.out _ _ (NB.mk (blk_drew HBX9.out)) (fun hHeld => ?_)
  clear hK K
  try simp only [Act.put, z1_, z2_, z3_]
  refine takeP 4 4 ?_
  refine wpAnyH_done (by kernel_rfl) ?_ _
  refine NoPanic.normal ?_
  obtain ⟨p0, p1, p2, p3, p4⟩ := xl5_ HPC9.out
  obtain ⟨r0_, r1_⟩ := xl2_ HFL9.out
  clear hHeld
  go_wp2_with fail
  exact bodyPost_ret (v := .tuple #[.agg #[.bool false, .int .u8 0, .bool false, .int .u32 0, .slice none 0 0], .agg #[.int .u8 3, .int .u32 r3], .bool true]) (by simp [results, Tryz.results42, go_sem, p0, p1, p2, p3, p4, r0_, r1_]) rfl (NextBad.fin HFN.out (below_drew HBL9.out))
 ·have HW1 := a_ hHeld.1.out
  go_simp
  refine hK.out _ _ (NS.mk (HW1.out.below (below_alloc (Below.refl _ _) _))) (fun hHeld => ?_)
  clear hK K
  try simp only [Act.put, z1_, z2_, z3_]
  refine rd1_ 8 fun K hK => ?_
  go_simp
  go_at_call 72
  with_reducible refine (wsframe_Head.calls Av cv l m r1 3 r3 true _ (Kd.R_reads' hHeld.1.out.sp.row).2.2 (Kd.R_reads' hHeld.1.out.sp.row).2.1 HH.out (HC.out.below hHeld.1.out.bel)).mono ?_
  rintro e w2 ⟨rfl, hb⟩
  have HG2 := a_ (hHeld.1.out.below hb)
  have hbx : w2.heap[w1.heap.size]? = some (.cells #[.int .u8 0, .int .u32 0] 87 (0, 0)) := blk_below (blk_drew (last_at w1 _ _ rfl)) hb
  obtain ⟨bc0, bf0, bc1, bf1⟩ := xf2_ hbx
  have bl := blk_lt hbx
  have hgl2 : w.heap.size + 1 < w1.heap.size := HN0.out.lt
  have hgl3 : g < w1.heap.size := blk_lt HN0.out.sp.blk
  have HBX := a_ hbx
  clear hbx
  clear hb
  refine hK.out _ _ (NS.mk HG2.out) (fun hHeld => ?_)
  clear hK K
  try simp only [Act.put, z1_, z2_, z3_]
  refine takeP 9 14 ?_
  refine takeP 10 24 ?_
  refine takeP 11 25 ?_
  refine takeP 12 26 ?_
  refine takeP 14 5 ?_
  refine rd1_ 15 fun K hK => ?_
  go_simp
  refine hK.out _ _ (NS.mk (Ng.put2 HG2.out hgl2 hgl3 HBX.out _ _)) (fun hHeld => ?_)
  clear hK K
  try simp only [Act.put, z1_, z2_, z3_]
  refine takeP 16 7 ?_
  refine wpAnyH_done (by kernel_rfl) ?_ _
  refine NoPanic.normal ?_
  have hG6 := hHeld.1.out
  clear hHeld bc0 bc1 bf0 bf1 bl
  have hbox := blk_put (blk_put HBX.out 0 (.int .u8 3) rfl) 1 (.int .u32 r3) rfl
  generalize ((w2.setCell ⟨w1.heap.size, 0, none⟩ (.int .u8 3)).setCell ⟨w1.heap.size, 1, none⟩ (.int .u32 r3)) = W6 at hG6 hbox ⊢
  generalize w1.heap.size = gb at hbox hgl2 ⊢
  clear HG2 HN0
  have HG := a_ hG6
  have HBX6 := a_ hbox
  obtain ⟨k0, kf0, k1, kf1⟩ := xf2_ hbox
  have kl := blk_lt hbox
  clear hG6 hbox
  obtain ⟨q0, qf0, -, -, q2, qf2⟩ := xf3_ HG.out.sp.blk
  have ql := blk_lt HG.out.sp.blk
  go_upto_region 8 with fail
  have hge : gb ≠ g := by omega
  have hfin : FinB wb w ((W6.setCell ⟨g, 2, none⟩ (.bool true)).setCell ⟨g, 0, none⟩ (.slice none 0 0)) g m := FinB.of HG.out HB.out hgb hgl
  have hbx : ((W6.setCell ⟨g, 2, none⟩ (.bool true)).setCell ⟨g, 0, none⟩ (.slice none 0 0)).heap[gb]? = some (.cells #[.int .u8 3, .int .u32 r3] 87 (0, 0)) := (Below.heap_setCell _ _ _ _ hge).trans ((Below.heap_setCell _ _ _ _ hge).trans HBX6.out)
  generalize ((W6.setCell ⟨g, 2, none⟩ (.bool true)).setCell ⟨g, 0, none⟩ (.slice none 0 0)) = W7 at hfin hbx ⊢
  clear HG HBX6 k0 k1 kf0 kf1 kl q0 q2 qf0 qf2 ql
  have HFN := a_ hfin
  have HBX7 := a_ hbx
  clear hfin hbx
  refine wp_region_noPanic ?_
  refine wp_region_held_drew (S := fun w' => Aside0 (w'.heap[gb]? = some (.cells #[.int .u8 3, .int .u32 r3] 87 (0, 0))) ∧ w'.cell? ⟨gb, 0, none⟩ = some (.int .u8 3) ∧ w'.cell? ⟨gb, 1, none⟩ = some (.int .u32 r3)) (by kernel_rfl) (NB.mk (blk_drew HBX7.out)) (fun hHeld => ?_)
  refine takeP 0 42 ?_
  refine takeP 1 43 ?_
  have hle0 : w.heap.size ≤ w.heap.size := Nat.le_refl _
  have hle1 : w.heap.size ≤ w.heap.size + 1 := by omega
  have hg0 : gb ≠ w.heap.size := by omega
  have hg1 : gb ≠ w.heap.size + 1 := by omega
  obtain ⟨p0, pf0, p1, pf1, p2, pf2, p3, pf3, p4, pf4⟩ := xf5_ HFN.out.piece
  have pl := blk_lt HFN.out.piece
  refine rd1_ 2 fun K hK => ?_
  go_simp
  have hbx := (keep5 W7 w.heap.size (.bool false) (.int .u8 0) (.bool false) (.int .u32 0) (.slice none 0 0) gb hg0).trans HBX7.out
  have hfl := (keep5 W7 w.heap.size (.bool false) (.int .u8 0) (.bool false) (.int .u32 0) (.slice none 0 0) (w.heap.size + 1) (by omega)).trans HFN.out.fault
  have hpc := put5s HFN.out.piece (.bool false) (.int .u8 0) (.bool false) (.int .u32 0) (.slice none 0 0)
  have hbl : Below w.heap.size W7 (((((W7.setCell ⟨w.heap.size, 0, none⟩ (.bool false)).setCell ⟨w.heap.size, 1, none⟩ (.int .u8 0)).setCell ⟨w.heap.size, 2, none⟩ (.bool false)).setCell ⟨w.heap.size, 3, none⟩ (.int .u32 0)).setCell ⟨w.heap.size, 4, none⟩ (.slice none 0 0)) := Below.setCell (Below.setCell (Below.setCell (Below.setCell (Below.setCell ⟨rfl, rfl, rfl, Nat.le_refl _, fun _ _ => rfl⟩ hle0 _) hle0 _) hle0 _) hle0 _) hle0 _
  generalize (((((W7.setCell ⟨w.heap.size, 0, none⟩ (.bool false)).setCell ⟨w.heap.size, 1, none⟩ (.int .u8 0)).setCell ⟨w.heap.size, 2, none⟩ (.bool false)).setCell ⟨w.heap.size, 3, none⟩ (.int .u32 0)).setCell ⟨w.heap.size, 4, none⟩ (.slice none 0 0)) = W8 at hbx hfl hpc hbl ⊢
  clear p0 p1 p2 p3 p4 pf0 pf1 pf2 pf3 pf4 pl
  have HBX8 := a_ hbx
  have HFL8 := a_ hfl
  have HPC8 := a_ hpc
  have HBL8 := a_ hbl
  clear hbx hfl hpc hbl
  refine hK.out _ _ (NB.mk (blk_drew HBX8.out)) (fun hHeld => ?_)
  clear hK K
  try simp only [Act.put, z1_, z2_, z3_]
  obtain ⟨r0_, rf0, r1_, rf1⟩ := xf2_ HFL8.out
  have rl := blk_lt HFL8.out
  refine rd1_ 3 fun K hK => ?_
  go_simp
  have hbx := (keep2 W8 (w.heap.size + 1) (.int .u8 3) (.int .u32 r3) gb hg1).trans HBX8.out
  have hpc := (keep2 W8 (w.heap.size + 1) (.int .u8 3) (.int .u32 r3) w.heap.size (by omega)).trans HPC8.out
  have hfl : ((W8.setCell ⟨w.heap.size + 1, 0, none⟩ (.int .u8 3)).setCell ⟨w.heap.size + 1, 1, none⟩ (.int .u32 r3)).heap[w.heap.size + 1]? = some (.cells #[.int .u8 3, .int .u32 r3] 87 (0, 0)) := blk_put (blk_put HFL8.out 0 _ rfl) 1 _ rfl
  have hbl : Below w.heap.size W7 ((W8.setCell ⟨w.heap.size + 1, 0, none⟩ (.int .u8 3)).setCell ⟨w.heap.size + 1, 1, none⟩ (.int .u32 r3)) := Below.setCell (Below.setCell HBL8.out hle1 _) hle1 _
  generalize ((W8.setCell ⟨w.heap.size + 1, 0, none⟩ (.int .u8 3)).setCell ⟨w.heap.size + 1, 1, none⟩ (.int .u32 r3)) = W9 at hbx hpc hfl hbl ⊢
  clear r0_ r1_ rf0 rf1 rl
  have HBX9 := a_ hbx
  have HPC9 := a_ hpc
  have HFL9 := a_ hfl
  have HBL9 := a_ hbl
  clear hbx hpc hfl hbl HBX8 HFL8 HPC8 HBL8
  refine hK.out _ _ (NB.mk (blk_drew HBX9.out)) (fun hHeld => ?_)
  clear hK K
  try simp only [Act.put, z1_, z2_, z3_]
  refine takeP 4 4 ?_
  refine wpAnyH_done (by kernel_rfl) ?_ _
  refine NoPanic.normal ?_
  obtain ⟨p0, p1, p2, p3, p4⟩ := xl5_ HPC9.out
  obtain ⟨r0_, r1_⟩ := xl2_ HFL9.out
  clear hHeld
  go_wp2_with fail
  exact bodyPost_ret (v := .tuple #[.agg #[.bool false, .int .u8 0, .bool false, .int .u32 0, .slice none 0 0], .agg #[.int .u8 3, .int .u32 r3], .bool true]) (by simp [results, Tryz.results42, go_sem, p0, p1, p2, p3, p4, r0_, r1_]) rfl (NextBad.fin HFN.out (below_drew HBL9.out))
end Go.Proofs.YtpmeapdcjmaeiaaGreatDoor.PAll
