/- What the law's row rests on, part 14. -/
import Derived.Test.YtbjjobifpmjhhaaDoorZ13
import Derived.Lib.SliceRun
import Derived.Deep.RegionHeld3
/- MessagePlays: one frame, of the gatherer and of the document's. -/
namespace Go.Proofs.YtbjjobifpmjhhaaDoor
open Go.RowKit Go.Proofs.YtbjjobifpmjhhaaDoorW.PrintWords Go.Proofs.YtbjjobifpmjhhaaDoorW.PrintLast Go.Proofs.YtbjjobifpmjhhaaDoorW.PrintMore Go.Proofs.YtbjjobifpmjhhaaDoor.PAll Go.Proofs.YtbjjobifpmjhhaaDoor.U
set_option linter.unusedVariables false
set_option linter.unusedSimpArgs false
/-- What a frame makes of a gatherer, and what it tells. -/
inductive Stp (b : List Int) (busy te over fin : Bool) (op : Int) (d : List Int) : List Int → Bool → Bool → Bool → Int → Bool → Int → List Int → Bool → Prop
  | over (h : over = true) : Stp b busy te over fin op d b busy te true 0 false 0 [] false
  | more (h : over = false) (ho : op = 0 ∨ op = 1 ∨ op = 2) (hc : partC busy te fin op b d = 0) (hf : fin = false) : Stp b busy te over fin op d (b ++ d) true (textN busy te op) false 0 false 0 [] false
  | told (h : over = false) (ho : op = 0 ∨ op = 1 ∨ op = 2) (hc : partC busy te fin op b d = 0) (hf : fin = true) : Stp b busy te over fin op d [] false (textN busy te op) false 1 (textN busy te op) 0 (b ++ d) true
  | part (h : over = false) (ho : op = 0 ∨ op = 1 ∨ op = 2) (hc : partC busy te fin op b d ≠ 0) (tn : Bool) : Stp b busy te over fin op d [] false tn true 5 false (partC busy te fin op b d) [] true
  | ping (h : over = false) (ho : op = 9) : Stp b busy te over fin op d b busy te false 2 false 0 d true
  | pong (h : over = false) (ho : op = 10) : Stp b busy te over fin op d b busy te false 3 false 0 d true
  | other (h : over = false) (ho : op ≠ 0 ∧ op ≠ 1 ∧ op ≠ 2 ∧ op ≠ 8 ∧ op ≠ 9 ∧ op ≠ 10) (tn : Bool) : Stp b busy te over fin op d [] false tn true 5 false 1002 [] true
  | close (h : over = false) (ho : op = 8) (tn : Bool) : Stp b busy te over fin op d [] false tn true (closeM d).1 false (closeM d).2.2 (closeM d).2.1 true
/-- The program's gatherer. -/
def Imp (w0 W : World) (g : Nat) (v u : Value) (b : List Int) (busy te over : Bool) (gu : Nat) (f : List Int) : Prop := (over = false ∧ Gs w0 W g v u b busy te false gu f ∧ (busy = true → f = if te = true then b else [])) ∨ (over = true ∧ busy = false ∧ ∃ bu, Gw w0 W g (.slice none 0 0) u [] bu te true)
/-- Blocks of other types stay, and blocks of bytes but the gatherer's. -/
def StayT (W w' : World) (over : Bool) (v : Value) : Prop := ∀ k cs t fr, W.heap[k]? = some (.cells cs t fr) → t ≠ 60 → t ≠ 107 → (t = 5 → over = false → v.ownBlock ≠ some k) → w'.heap[k]? = W.heap[k]?
def TakeP (w0 W : World) (g : Nat) (v u : Value) (b : List Int) (busy te over fin : Bool) (op : Int) (d : List Int) (e : Ending) (w' : World) : Prop :=
  ∃ b' busy' te' over' kind tx code nd ok v' u' gu' f' vn, e = .returned (.tuple #[.agg #[.int .u8 kind, .bool tx, vn, .int .u32 code], .bool ok]) ∧ Stp b busy te over fin op d b' busy' te' over' kind tx code nd ok ∧ Imp w0 w' g v' u' b' busy' te' over' gu' f' ∧ Kd.R (Kd.int .u8) 5 w' w0.heap.size (fun _ => True) vn nd ∧ (over' = false → ∀ k, vn.ownBlock = some k → v'.ownBlock ≠ some k) ∧ StayT W w' over v ∧ Below w0.heap.size w0 w' ∧ (∀ k, k < W.heap.size → (over = false → v.ownBlock ≠ some k) → (over' = false → v'.ownBlock ≠ some k) ∧ vn.ownBlock ≠ some k)
theorem fr_stay {w0 w W : World} {g : Nat} {v u : Value} {b : List Int} {busy text over : Bool} (hg : Gw w0 w g v u b busy text over) (hf : Fr w W g v u) : StayT w W false v := fun k cs t fr hk h1 h2 h3 => hf.same k (blk_lt hk) (fun e => by
  subst e
  have h := hg.blk
  unfold IsG at h
  rw [hk] at h
  injection h with h
  injection h with _ h _
  exact h1 h) (fun e => by
  obtain ⟨c, hc⟩ := Kd.R_typed hg.row k e.symm
  rw [hk] at hc
  injection hc with hc
  injection hc with _ hc _
  exact h3 hc rfl e.symm) (fun e => by
  obtain ⟨c, hc⟩ := hg.uty k e
  rw [hk] at hc
  injection hc with hc
  injection hc with _ hc _
  exact h2 hc)
theorem row_own {W : World} {v : Value} {xs : List Int} {base : Nat} {ok : Nat → Prop} (h : Kd.R (Kd.int .u8) 5 W base ok v xs) : Kd.R (Kd.int .u8) 5 W base (fun k => v.ownBlock = some k) v xs := by
  obtain ⟨_, inner, ho, hr⟩ := h
  exact ⟨fun _ hk => hk, inner, ho, hr.imp_ (fun _ _ hp => hp)⟩
theorem row_keep {W W' : World} {v : Value} {xs : List Int} {base : Nat} {ok : Nat → Prop} (h : Kd.R (Kd.int .u8) 5 W base ok v xs) (hk : ∀ k, v.ownBlock = some k → W'.heap[k]? = W.heap[k]?) : Kd.R (Kd.int .u8) 5 W' base (fun k => v.ownBlock = some k) v xs := Kd.R_step (row_own h) (fun k e _ => hk k e)
theorem heap_setCells (b : Nat) : ∀ (vs : List Value) (o : Nat) (W : World) (k : Nat), k ≠ b → (W.setCells b o vs).heap[k]? = W.heap[k]?
  | [], _, _, _, _ => rfl
  | v :: r, o, W, k, h => (heap_setCells b r (o + 1) _ k h).trans (Below.heap_setCell W ⟨b, o, none⟩ v k h)
theorem below_setCells {B b : Nat} (hb : B ≤ b) : ∀ (vs : List Value) (o : Nat) (W : World), Below B W (W.setCells b o vs)
  | [], _, W => Below.refl _ _
  | v :: r, o, W => (Below.setCell (Below.refl B W) (p := ⟨b, o, none⟩) hb v).trans (below_setCells hb r (o + 1) _)
/-- A row is cleared: no other block changes. -/
theorem clear_row {W : World} {v : Value} {xs : List Int} {base : Nat} {ok : Nat → Prop} (h : Kd.R (Kd.int .u8) 5 W base ok v xs) : ∃ W', (∀ ty, (Builtin.clear_ #[24] ty #[v]).run Tryd.prog W = .ok (.tuple #[]) W') ∧ (∀ k, v.ownBlock ≠ some k → W'.heap[k]? = W.heap[k]?) ∧ (∀ B, B ≤ base → Below B W W') := by
  by_cases hn : 0 < xs.length
  · obtain ⟨g, cap, rfl, hb, hl, cells, hc⟩ := Kd.R_form h hn
    obtain ⟨_, _, hC⟩ := Kd.R_reads' h
    have hrr : ReadsInt W .u8 (some ⟨g, 0, none⟩) xs.length xs := Kd.reads_of_C hC
    obtain ⟨_, _, hr⟩ := hrr
    obtain ⟨ad, e, hcell⟩ := hr hn
    injection e with e
    subst e
    have hz : ∀ w, (zeroValue 5).run Tryd.prog w = .ok (.int .u8 0) w := fun w => by kernel_rfl
    refine ⟨W.setCells g 0 (List.replicate xs.length (.int .u8 0)), fun ty => Lib.run_clear_slice W 24 5 ty (.int .u8 0) Tryd.underlying24 hz rfl rfl g 0 xs.length cap hn (fun j hj => ?_) (fun j hj => ?_), fun k hk => heap_setCells g _ 0 W k (fun e => hk (by subst e; rfl)), fun B hB => below_setCells (by omega) _ _ _⟩
    · have := hcell j hj
      rw [add_plain] at this
      rw [Nat.zero_add, this]
      rfl
    · exact blk_frozen hc (0 + j)
  · have hn : xs.length = 0 := by omega
    obtain ⟨A, c, rfl⟩ := Kd.R_slice h
    rw [hn]
    refine ⟨W, fun ty => ?_, fun k _ => rfl, fun B _ => Below.refl _ _⟩
    cases A <;> simp [Builtin.clear_, run_underlying Tryd.underlying24]
theorem newor_ne {w : World} {v v' : Value} (h : NewOr w v v') {k : Nat} (hk : k < w.heap.size) (hne : v.ownBlock ≠ some k) : v'.ownBlock ≠ some k := by
  intro e
  rcases h with h | h | ⟨j, h, hj⟩
  · exact hne (h ▸ e)
  · rw [h] at e; cases e
  · rw [h] at e; injection e with e; omega
theorem keep_fr {w W : World} {g : Nat} {v u : Value} (hk : KeepBut w W g none) : Fr w W g v u := ⟨hk.1, fun k hlt h1 _ _ => hk.2 k hlt h1 (by simp)⟩
theorem slice_one {w : World} {base : Nat} {ok : Nat → Prop} {v : Value} {b : List Int} (h : Kd.R (Kd.int .u8) 5 w base ok v b) : v.oneCell' = true := by
  obtain ⟨A, c, rfl⟩ := Kd.R_slice h
  rfl
theorem take_step {w0 W : World} {g gu : Nat} {v u : Value} {b f d : List Int} {busy te over fin mk : Bool} {op key : Int} {A : Option Addr} {c : Nat} (hst : Imp w0 W g v u b busy te over gu f) (hnob : busy = false → b = []) (hbl : b.length ≤ 4096) (hd : Dat W (.slice A d.length c) d) (hdn : over = false → ∀ k, (Value.slice A d.length c).ownBlock = some k → v.ownBlock ≠ some k) (hd8 : ∀ x ∈ d, 0 ≤ x ∧ x ≤ 255) (hdl : d.length ≤ 1000000000) (hg : Cond w0) :
    Calls Tryd.prog 14 #[.pointer (some ⟨g, 0, none⟩), .agg #[.bool fin, .int .u8 op, .bool mk, .int .u32 key, .slice A d.length c]] W (TakeP w0 W g v u b busy te over fin op d) := by
  rcases hst with ⟨ho, hG, hf⟩ | ⟨ho, hbu, bu, hG⟩
  · subst ho
    have hff : (busy = true → f = if te = true then b else []) ∧ (busy = false → b = []) := ⟨hf, hnob⟩
    have hdn := hdn rfl
    have hnn : ∀ (v' : Value) (k : Nat), (Value.slice none 0 0).ownBlock = some k → v'.ownBlock ≠ some k := fun v' k e => by cases e
    have hn2 : ∀ k : Nat, (Value.slice none 0 0).ownBlock ≠ some k := fun k e => by cases e
    by_cases hp : op = 0 ∨ op = 1 ∨ op = 2
    · by_cases hc : partC busy te fin op b d = 0
      · by_cases hfin : fin = true
        · refine (TakeTold hG hff hd hdn hbl hdl hp hc hfin).mono ?_
          rintro e w' ⟨vn, u', rfl, hG', hR, hF, hN⟩
          exact ⟨[], false, _, false, 1, _, 0, b ++ d, true, .slice none 0 0, u', 0, [], vn, rfl, .told rfl hp hc hfin, .inl ⟨rfl, hG'.gs 0 [], fun h => by cases h⟩, hR, fun _ k _ => hn2 k, fr_stay hG.gw hF, hG'.bel, fun k hk hv => ⟨fun _ => hn2 k, newor_ne hN hk (hv rfl)⟩⟩
        · have hfin : fin = false := by simpa using hfin
          refine (TakeMore hG hff hd hdn hbl hdl hp hc hfin).mono ?_
          rintro e w' ⟨rfl, v', u', gu', hG', hF, hN⟩
          exact ⟨b ++ d, true, _, false, 0, false, 0, [], false, v', u', gu', _, .slice none 0 0, rfl, .more rfl hp hc hfin, .inl ⟨rfl, hG', fun _ => rfl⟩, Kd.R_nil _ _ _ _ _, fun _ => hnn v', fr_stay hG.gw hF, hG'.gw.bel, fun k hk hv => ⟨fun _ => newor_ne hN hk (hv rfl), hn2 k⟩⟩
      · refine (TakeBadPart hG hff hd hdn hbl hdl hp hg hc).mono ?_
        rintro e w' ⟨rfl, u', tn, hG', hF⟩
        exact ⟨[], false, tn, true, 5, false, _, [], true, .slice none 0 0, u', 0, [], .slice none 0 0, rfl, .part rfl hp hc tn, .inr ⟨rfl, rfl, false, hG'⟩, Kd.R_nil _ _ _ _ _, fun h => (by cases h), fr_stay hG.gw hF, hG'.bel, fun k hk hv => ⟨fun _ => hn2 k, hn2 k⟩⟩
    · by_cases h8 : op = 8
      · subst h8
        rcases close_to d hd8 hdl with ⟨h1, h2⟩ | ⟨h1, h2, h3⟩
        · refine (Take_close_any d (closeM d).2.1 (closeM d).2.2 h2 g v u busy te A c W (slice_one hG.gw.row) hG.gw.blk (Dat.C hd) (Dat.le hd)).mono ?_
          rintro e w' ⟨vn, rfl, hR, hI, hK, hB⟩
          have hB := hB w0 hG.gw.base hG.gw.bel
          have hG' : Gw w0 w' g (.slice none 0 0) u [] busy te true := ⟨hI, Kd.R_nil _ _ _ _ _, hB, hG.gw.base, hG.gw.one, fun k e => by
            obtain ⟨cs, hc⟩ := hG.gw.uty k e
            exact ⟨cs, (hK.2 k (blk_lt hc) (blk_ne hc hG.gw.blk (by decide)) (by simp)).trans hc⟩⟩
          exact ⟨[], false, te, true, 4, false, _, _, true, .slice none 0 0, u, 0, [], vn, rfl, by rw [← h1]; exact .close rfl rfl te, .inr ⟨rfl, rfl, busy, hG'⟩, Kd.R_lower hR hG.gw.bel.size, fun h => (by cases h), fr_stay hG.gw (keep_fr hK), hB, fun k hk hv => ⟨fun _ => hn2 k, fun e => by
            have := Kd.R_base hR k e
            omega⟩⟩
        · refine (Take_bad hG hd hg (fun W' hb hG' hD => take_close_bad hG' hD h3)).mono ?_
          rintro e w' ⟨rfl, u', tn, hG', hF⟩
          exact ⟨[], false, tn, true, 5, false, _, [], true, .slice none 0 0, u', 0, [], .slice none 0 0, rfl, by
            have := Stp.close (b := b) (busy := busy) (te := te) (over := false) (fin := fin) (op := 8) (d := d) rfl rfl tn
            rw [h1, h2] at this
            exact this, .inr ⟨rfl, rfl, false, hG'⟩, Kd.R_nil _ _ _ _ _, fun h => (by cases h), fr_stay hG.gw hF, hG'.bel, fun k hk hv => ⟨fun _ => hn2 k, hn2 k⟩⟩
      · have hnote : ∀ kk : Int, Stp b busy te false fin op d b busy te false kk false 0 d true → (∀ W', Below W.heap.size W W' → Gs w0 W' g v u b busy te false gu f → Dat W' (.slice A d.length c) d → Calls Tryd.prog 25 #[.pointer (some ⟨g, 0, none⟩), .agg #[.bool fin, .int .u8 op, .bool mk, .int .u32 key, .slice A d.length c]] W' (TkNote w0 g v u b busy te gu f kk d W')) → Calls Tryd.prog 14 #[.pointer (some ⟨g, 0, none⟩), .agg #[.bool fin, .int .u8 op, .bool mk, .int .u32 key, .slice A d.length c]] W (TakeP w0 W g v u b busy te false fin op d) := by
          intro kk hs hT
          refine (Take_note hG hd hT).mono ?_
          rintro e w' ⟨vn, rfl, hG', hR, hF⟩
          have hvl : ∀ k, v.ownBlock = some k → k < W.heap.size := fun k e => by
            obtain ⟨cs, h⟩ := Kd.R_typed hG.gw.row k e
            exact blk_lt h
          exact ⟨b, busy, te, false, kk, false, 0, d, true, v, u, gu, f, vn, rfl, hs, .inl ⟨rfl, hG', hf⟩, Kd.R_lower hR hG.gw.bel.size, fun _ k e ev => by
            have := Kd.R_base hR k e
            have := hvl k ev
            omega, fr_stay hG.gw hF, hG'.gw.bel, fun k hk hv => ⟨fun _ => hv rfl, fun e => by
            have := Kd.R_base hR k e
            omega⟩⟩
        by_cases h9 : op = 9
        · subst h9
          exact hnote 2 (.ping rfl rfl) (fun W' hb hG' hD => take_ping hG' hD hdl)
        · by_cases h10 : op = 10
          · subst h10
            exact hnote 3 (.pong rfl rfl) (fun W' hb hG' hD => take_pong hG' hD hdl)
          · have ho : op ≠ 0 ∧ op ≠ 1 ∧ op ≠ 2 ∧ op ≠ 8 ∧ op ≠ 9 ∧ op ≠ 10 := ⟨fun e => hp (.inl e), fun e => hp (.inr (.inl e)), fun e => hp (.inr (.inr e)), h8, h9, h10⟩
            refine (Take_bad hG hd hg (fun W' hb hG' hD => take_other hG' hD ho)).mono ?_
            rintro e w' ⟨rfl, u', tn, hG', hF⟩
            exact ⟨[], false, tn, true, 5, false, _, [], true, .slice none 0 0, u', 0, [], .slice none 0 0, rfl, .other rfl ho tn, .inr ⟨rfl, rfl, false, hG'⟩, Kd.R_nil _ _ _ _ _, fun h => (by cases h), fr_stay hG.gw hF, hG'.bel, fun k hk hv => ⟨fun _ => hn2 k, hn2 k⟩⟩
  · subst ho
    refine (Take_over hG).mono ?_
    rintro e w' ⟨rfl, hb⟩
    exact ⟨b, busy, te, true, 0, false, 0, [], false, .slice none 0 0, u, 0, f, .slice none 0 0, rfl, .over rfl, .inr ⟨rfl, hbu, bu, hG.below hb⟩, Kd.R_nil _ _ _ _ _, fun h => (by cases h), fun k cs t fr hk _ _ _ => hb.block k (blk_lt hk), (hG.below hb).bel, fun k hk hv => ⟨fun _ e => (by cases e), fun e => (by cases e)⟩⟩
theorem part_txt {busy te txt fin : Bool} {op : Int} {b d : List Int} (h : busy = true → txt = te) : textN busy txt op = textN busy te op ∧ partC busy txt fin op b d = partC busy te fin op b d := by
  have h1 : textN busy txt op = textN busy te op := by
    unfold textN
    cases busy with
    | true => rw [h rfl]
    | false => rfl
  refine ⟨h1, ?_⟩
  unfold partC
  rw [h1]
def RefP (B : Nat) (b' : List Int) (busy' te' over' : Bool) (kind : Int) (tx : Bool) (code : Int) (nd : List Int) (ok : Bool) (W : World) (e : Ending) (w' : World) : Prop := ∃ txt', (busy' = true → txt' = te') ∧ RefPost B b' busy' txt' over' kind tx nd code ok W e w'
theorem part_step {b d : List Int} {busy fin mk txt : Bool} {op key : Int} {B : Nat} {W : World} {A : Option Addr} {c : Nat} (hp : op = 0 ∨ op = 1 ∨ op = 2) (hnob : busy = false → b = []) (hb8 : ∀ x ∈ b, 0 ≤ x ∧ x ≤ 255) (hd8 : ∀ x ∈ d, 0 ≤ x ∧ x ≤ 255) (hbl : b.length ≤ 4096) (hdl : d.length ≤ 1000000000) (hBw : B ≤ W.heap.size) (hC : Rd B W A d) (hc : d.length ≤ c) :
    Calls Tryd.prog 17 #[gmV b busy txt false, .agg #[.bool fin, .int .u8 op, .bool mk, .int .u32 key, .slice A d.length c]] W (PartR B busy txt fin op b d W) := by
  rcases hp with rfl | rfl | rfl
  · exact reft_part_0 hBw hC hc hnob hb8 hd8 hbl hdl
  · exact reft_part_1 hBw hC hc hnob hb8 hd8 hbl hdl
  · exact reft_part_2 hBw hC hc hnob hb8 hd8 hbl hdl
theorem ref_step {b b' nd d : List Int} {busy te over fin busy' te' over' tx ok mk txt : Bool} {op kind code key : Int} {B : Nat} {W : World} {A : Option Addr} {c : Nat} (hs : Stp b busy te over fin op d b' busy' te' over' kind tx code nd ok) (htx : busy = true → txt = te) (hnob : busy = false → b = []) (hb8 : ∀ x ∈ b, 0 ≤ x ∧ x ≤ 255) (hd8 : ∀ x ∈ d, 0 ≤ x ∧ x ≤ 255) (hbl : b.length ≤ 4096) (hdl : d.length ≤ 1000000000) (hBw : B ≤ W.heap.size) (hC : Rd B W A d) (hc : d.length ≤ c) :
    Calls Tryd.prog 17 #[gmV b busy txt over, .agg #[.bool fin, .int .u8 op, .bool mk, .int .u32 key, .slice A d.length c]] W (RefP B b' busy' te' over' kind tx code nd ok W) := by
  obtain ⟨ht1, ht2⟩ := part_txt (fin := fin) (op := op) (b := b) (d := d) htx
  cases hs with
  | over h =>
    subst h
    exact (reft_over hBw hC hc).mono (fun e w' h => ⟨txt, htx, h⟩)
  | more h ho hc' hf =>
    subst h
    refine (part_step ho hnob hb8 hd8 hbl hdl hBw hC hc).mono ?_
    rintro e w' (⟨h1, _⟩ | ⟨_, _, h1⟩ | ⟨_, h1, _⟩)
    · exact absurd (ht2.trans hc') h1
    · exact ⟨_, fun _ => ht1, h1⟩
    · rw [hf] at h1; cases h1
  | told h ho hc' hf =>
    subst h
    refine (part_step ho hnob hb8 hd8 hbl hdl hBw hC hc).mono ?_
    rintro e w' (⟨h1, _⟩ | ⟨_, h1, _⟩ | ⟨_, _, h1⟩)
    · exact absurd (ht2.trans hc') h1
    · rw [hf] at h1; cases h1
    · rw [ht1] at h1
      exact ⟨_, fun h => (by cases h), h1⟩
  | part h ho hc' tn =>
    subst h
    refine (part_step ho hnob hb8 hd8 hbl hdl hBw hC hc).mono ?_
    rintro e w' (⟨_, h1⟩ | ⟨h1, _⟩ | ⟨h1, _⟩)
    · rw [ht2] at h1
      exact ⟨_, fun h => (by cases h), h1⟩
    · exact absurd (ht2.symm.trans h1) hc'
    · exact absurd (ht2.symm.trans h1) hc'
  | ping h ho =>
    subst h; subst ho
    exact (reft_ping hBw hC hc).mono (fun e w' h => ⟨txt, htx, h⟩)
  | pong h ho =>
    subst h; subst ho
    exact (reft_pong hBw hC hc).mono (fun e w' h => ⟨txt, htx, h⟩)
  | other h ho tn =>
    subst h
    exact (reft_other hBw hC hc ho).mono (fun e w' h => ⟨_, fun h => (by cases h), h⟩)
  | close h ho tn =>
    subst h; subst ho
    exact (reft_close hBw hC hc hd8 (by omega)).mono (fun e w' h => ⟨_, fun h => (by cases h), h⟩)
theorem part_len {busy te fin : Bool} {op : Int} {b d : List Int} (h : partC busy te fin op b d = 0) : b.length + d.length ≤ 4096 := by
  unfold partC at h
  split at h
  · cases h
  · split at h
    · cases h
    · omega
theorem Imp.below {w0 W W' : World} {g gu : Nat} {v u : Value} {b f : List Int} {busy te over : Bool} (h : Imp w0 W g v u b busy te over gu f) (hb : Below W.heap.size W W') : Imp w0 W' g v u b busy te over gu f := h.elim (fun ⟨h1, h2, h3⟩ => .inl ⟨h1, h2.below hb, h3⟩) (fun ⟨h1, h2, bu, h3⟩ => .inr ⟨h1, h2, bu, h3.below hb⟩)
theorem Gw.moved {w0 W W' : World} {g : Nat} {v u : Value} {b : List Int} {busy te over : Bool} (h : Gw w0 W g v u b busy te over) (hB : Below w0.heap.size w0 W') (hr : ∀ k, v.ownBlock = some k → W'.heap[k]? = W.heap[k]?) (hk : ∀ (k : Nat) (cs : Array Value) (t : TypeId) (fr : Nat × Nat), W.heap[k]? = some (.cells cs t fr) → t = 60 ∨ t = 107 → W'.heap[k]? = W.heap[k]?) : Gw w0 W' g v u b busy te over :=
  ⟨(hk g _ _ _ h.blk (.inl rfl)).trans h.blk, Kd.R_mono (row_keep h.row hr) (fun _ _ => trivial), hB, h.base, h.one, fun k e => by
    obtain ⟨cs, hc⟩ := h.uty k e
    exact ⟨cs, (hk k _ _ _ hc (.inr rfl)).trans hc⟩⟩
/-- Blocks of bytes but the gatherer's row have been written. -/
theorem Imp.moved {w0 W W' : World} {g gu : Nat} {v u : Value} {b f : List Int} {busy te over : Bool} (h : Imp w0 W g v u b busy te over gu f) (hB : Below w0.heap.size w0 W') (hr : over = false → ∀ k, v.ownBlock = some k → W'.heap[k]? = W.heap[k]?) (hk : ∀ (k : Nat) (cs : Array Value) (t : TypeId) (fr : Nat × Nat), W.heap[k]? = some (.cells cs t fr) → t = 60 ∨ t = 107 → W'.heap[k]? = W.heap[k]?) : Imp w0 W' g v u b busy te over gu f := by
  rcases h with ⟨h1, h2, h3⟩ | ⟨h1, h2, bu, h3⟩
  · exact .inl ⟨h1, ⟨h2.gw.moved hB (hr h1) hk, fun hy => ⟨(h2.chk hy).1, ⟨(hk gu _ _ _ (h2.chk hy).2.1.1 (.inr rfl)).trans (h2.chk hy).2.1.1, (h2.chk hy).2.1.2⟩, (h2.chk hy).2.2⟩⟩, h3⟩
  · exact .inr ⟨h1, h2, bu, h3.moved hB (fun k e => by cases e) hk⟩
theorem Imp.bel {w0 W : World} {g gu : Nat} {v u : Value} {b f : List Int} {busy te over : Bool} (h : Imp w0 W g v u b busy te over gu f) : Below w0.heap.size w0 W := h.elim (fun h => h.2.1.gw.bel) (fun ⟨_, _, _, h⟩ => h.bel)
theorem Imp.blk {w0 W : World} {g gu : Nat} {v u : Value} {b f : List Int} {busy te over : Bool} (h : Imp w0 W g v u b busy te over gu f) (hnob : busy = false → b = []) : ∃ bu u1 A c, IsG W g (.slice A b.length c) bu te u1 over := by
  rcases h with ⟨h1, h2, h3⟩ | ⟨h1, h2, bu, h3⟩
  · subst h1
    obtain ⟨A, c, rfl⟩ := Kd.R_slice h2.gw.row
    exact ⟨busy, u, A, c, h2.gw.blk⟩
  · subst h1
    rw [hnob h2]
    exact ⟨bu, u, none, 0, h3.blk⟩
theorem Imp.other {w0 W W' : World} {g gu : Nat} {v u : Value} {b f : List Int} {busy te over : Bool} (h : Imp w0 W g v u b busy te over gu f) (hB : Below w0.heap.size w0 W') (hk : ∀ (k : Nat) (cs : Array Value) (t : TypeId) (fr : Nat × Nat), W.heap[k]? = some (.cells cs t fr) → t = 60 ∨ t = 107 ∨ t = 5 → W'.heap[k]? = W.heap[k]?) : Imp w0 W' g v u b busy te over gu f := by
  refine h.moved hB (fun ho k e => ?_) (fun k cs t fr hc ht => hk k cs t fr hc (ht.elim .inl (fun h => .inr (.inl h))))
  rcases h with ⟨h1, h2, h3⟩ | ⟨h1, h2, bu, h3⟩
  · obtain ⟨cs, hc⟩ := Kd.R_typed h2.gw.row k e
    exact hk k _ _ _ hc (.inr (.inr rfl))
  · rw [ho] at h1; cases h1
set_option maxHeartbeats 2000000 in
theorem held_any (g : Nat) (A : Option Addr) (n c : Nat) (u : Value) (busy text over : Bool) (w : World) (h : IsG w g (.slice A n c) busy text u over) : Calls Tryd.prog 19 #[.pointer (some ⟨g, 0, none⟩)] w fun e w' => e = .returned (.int .i64 (n : Int)) ∧ w' = w := by
  have h0 : w.cell? ⟨g, 0, none⟩ = some (.slice A n c) := (blk_cell h 0).trans rfl
  go_enter Tryd.func19, Tryd.ntmps19
  go_wp2
  go_ret
  exact ⟨rfl, rfl⟩
theorem held_imp {w0 w : World} {g gu : Nat} {v u : Value} {b f : List Int} {busy te over : Bool} (h : Imp w0 w g v u b busy te over gu f) (hnob : busy = false → b = []) : Calls Tryd.prog 19 #[.pointer (some ⟨g, 0, none⟩)] w fun e w' => e = .returned (.int .i64 (b.length : Int)) ∧ w' = w := by
  obtain ⟨bu, u1, A, c, hG⟩ := h.blk hnob
  exact held_any g A b.length c u1 bu te over w hG
theorem over_imp {w0 w : World} {g gu : Nat} {v u : Value} {b f : List Int} {busy te over : Bool} (h : Imp w0 w g v u b busy te over gu f) (hnob : busy = false → b = []) : Calls Tryd.prog 20 #[.pointer (some ⟨g, 0, none⟩)] w fun e w' => e = .returned (.bool over) ∧ w' = w := by
  obtain ⟨bu, u1, A, c, hG⟩ := h.blk hnob
  exact over_any g (.slice A b.length c) u1 bu te over w hG
theorem Rd.of_low {w W : World} {A : Option Addr} {d : List Int} (h : Kd.C (Kd.int .u8) w A d.length d) (hb : Below w.heap.size w W) : Rd w.heap.size W A d := fun W' hW => by
  have hr : ReadsInt w .u8 A d.length d := Kd.reads_of_C h
  by_cases hn : 0 < d.length
  · obtain ⟨ad, rfl, hc⟩ := hr.2.2 hn
    have h0 := hc 0 hn
    have hl : ad.block < w.heap.size := by
      have := World.block_lt_of_cell? w _ h0
      rwa [add_block] at this
    exact C_at h ((hW ad.block (.inl hl)).trans (hb.block _ hl))
  · have hd : d = [] := List.length_eq_zero_iff.1 (by omega)
    subst hd
    exact C_zero A W'
/-- What stays true of the bytes that are held. -/
theorem Stp.stays {b b' nd d : List Int} {busy te over fin busy' te' over' tx ok : Bool} {op kind code : Int} (hs : Stp b busy te over fin op d b' busy' te' over' kind tx code nd ok) (hnob : busy = false → b = []) (hb8 : ∀ x ∈ b, 0 ≤ x ∧ x ≤ 255) (hd8 : ∀ x ∈ d, 0 ≤ x ∧ x ≤ 255) (hbl : b.length ≤ 4096) : (busy' = false → b' = []) ∧ (∀ x ∈ b', 0 ≤ x ∧ x ≤ 255) ∧ b'.length ≤ 4096 := by
  cases hs with
  | more h ho hc' hf => exact ⟨fun h => (by cases h), fun x hx => (List.mem_append.1 hx).elim (hb8 x) (hd8 x), by rw [List.length_append]; exact part_len hc'⟩
  | over h => exact ⟨hnob, hb8, hbl⟩
  | ping h ho => exact ⟨hnob, hb8, hbl⟩
  | pong h ho => exact ⟨hnob, hb8, hbl⟩
  | told h ho hc' hf => exact ⟨fun _ => rfl, fun x hx => (by cases hx), by decide⟩
  | part h ho hc' tn => exact ⟨fun _ => rfl, fun x hx => (by cases hx), by decide⟩
  | other h ho tn => exact ⟨fun _ => rfl, fun x hx => (by cases hx), by decide⟩
  | close h ho tn => exact ⟨fun _ => rfl, fun x hx => (by cases hx), by decide⟩
end Go.Proofs.YtbjjobifpmjhhaaDoor

namespace Go.Proofs.YtbjjobifpmjhhaaDoor
open Go.RowKit Go.Proofs.YtbjjobifpmjhhaaDoorW.PrintWords Go.Proofs.YtbjjobifpmjhhaaDoorW.PrintLast Go.Proofs.YtbjjobifpmjhhaaDoorW.PrintMore Go.Proofs.YtbjjobifpmjhhaaDoor.PAll
set_option linter.unusedVariables false
set_option maxHeartbeats 4000000 in
set_option maxRecDepth 100000 in
theorem take_bye (g : Nat) (v u : Value) (busy text : Bool) (A : Option Addr) (c : Nat) (w : World) (hG : IsG w g v busy text u false) (hC : Kd.C (Kd.int .u8) w A 5 [3, 232, 98, 121, 101]) (hc : 5 ≤ c) : Calls Tryd.prog 25 #[.pointer (some ⟨g, 0, none⟩), .agg #[.bool true, .int .u8 8, .bool false, .int .u32 0, .slice A 5 c]] w fun e w' => ∃ vn, e = .returned (.tuple #[.agg #[.int .u8 4, .bool false, vn, .int .u32 1000], .bool true, .nilIface]) ∧ Kd.R (Kd.int .u8) 5 w' w.heap.size (fun _ => True) vn [98, 121, 101] ∧ IsG w' g v busy text u true ∧ KeepBut w w' g none ∧ (∀ w0 : World, w0.heap.size ≤ g → Below w0.heap.size w0 w → Below w0.heap.size w0 w') := by
  have hu30 := Tryd.underlying30
  have hu26 := Tryd.underlying26
  have hgl : g < w.heap.size := blk_lt hG
  have HG := Aside0.mk hG
  have HC := Aside0.mk hC
  clear hG hC
  go_enter Tryd.func25, Tryd.ntmps25
  go_wp2_with fail
  refine (closes_bye A c _ (Kd.C_below HC.out (below_alloc (below_alloc (Below.refl _ _) _) _)) hc).mono ?_
  rintro e w1 ⟨vn, rfl, ho, hb⟩
  have hr : w1.heap[w.heap.size + 1]? = some (.cells #[.int .u8 0, .bool false, .slice none 0 0, .int .u32 0] 30 (0, 0)) := blk_below (last_at _ _ _ (by simp)) hb
  have hB := below_step (below_alloc (below_alloc (Below.refl w.heap.size w) _) _) hb
  have hG1 : IsG w1 g v busy text u false := blk_below HG.out hB
  have gc4 : w1.cell? ⟨g, 4, none⟩ = some (.bool false) := (blk_cell hG1 4).trans rfl
  have gf4 := blk_frozen hG1 4
  have gl := blk_lt hG1
  obtain ⟨Av, cv, rfl⟩ := Kd.R_slice ho
  have ho2 := Kd.R_types (Kd.R_types (Kd.R_lower ho (show w.heap.size ≤ _ by simp; omega)) hG1 (by intro q hq; simp [Kd.int, Kd.scalar] at hq; omega)) hr (by intro q hq; simp [Kd.int, Kd.scalar] at hq; omega)
  have HO := Aside0.mk ho2
  have HB := Aside0.mk hB
  have HR := Aside0.mk hr
  have HG1 := Aside0.mk hG1
  have hl1 : w.heap.size + 1 < w1.heap.size := blk_lt hr
  clear ho ho2 hb hB hG1 hr
  go_wp2_with fail
  clear gc4 gf4 gl
  have hbox : (((w1.setCell ⟨g, 4, none⟩ (.bool true)).alloc (.cells #[.int .u8 4, .bool false, .slice Av 3 cv, .int .u32 1000] 30))).heap[w1.heap.size]? = some (.cells #[.int .u8 4, .bool false, .slice Av 3 cv, .int .u32 1000] 30 (0, 0)) := last_at _ _ _ (by simp)
  have hres : (((w1.setCell ⟨g, 4, none⟩ (.bool true)).alloc (.cells #[.int .u8 4, .bool false, .slice Av 3 cv, .int .u32 1000] 30))).heap[w.heap.size + 1]? = some (.cells #[.int .u8 0, .bool false, .slice none 0 0, .int .u32 0] 30 (0, 0)) := blk_alloc ((Below.heap_setCell _ _ _ _ (by show w.heap.size + 1 ≠ g; omega)).trans HR.out) _
  have hG2 : IsG (((w1.setCell ⟨g, 4, none⟩ (.bool true)).alloc (.cells #[.int .u8 4, .bool false, .slice Av 3 cv, .int .u32 1000] 30))) g v busy text u true := blk_alloc (blk_put HG1.out 4 (.bool true) rfl) _
  have hO2 : Kd.R (Kd.int .u8) 5 (((w1.setCell ⟨g, 4, none⟩ (.bool true)).alloc (.cells #[.int .u8 4, .bool false, .slice Av 3 cv, .int .u32 1000] 30))) w.heap.size _ (.slice Av [98, 121, 101].length cv) [98, 121, 101] := Kd.R_alloc (Kd.R_far HO.out (fun k hk => hk.1.2) _) _
  have hK2 : KeepBut w (((w1.setCell ⟨g, 4, none⟩ (.bool true)).alloc (.cells #[.int .u8 4, .bool false, .slice Av 3 cv, .int .u32 1000] 30))) g none := keep_alloc ((KeepBut.of_below HB.out g none).set_ 4 _) _
  have hW2 : ∀ w0 : World, w0.heap.size ≤ g → Below w0.heap.size w0 w → Below w0.heap.size w0 (((w1.setCell ⟨g, 4, none⟩ (.bool true)).alloc (.cells #[.int .u8 4, .bool false, .slice Av 3 cv, .int .u32 1000] 30))) := fun w0 h0 hw => below_alloc (Below.setCell (below_step hw HB.out) h0 _) _
  generalize ((w1.setCell ⟨g, 4, none⟩ (.bool true)).alloc (.cells #[.int .u8 4, .bool false, .slice Av 3 cv, .int .u32 1000] 30)) = W2 at hbox hres hG2 hO2 hK2 hW2 ⊢
  have HG2 := Aside0.mk hG2
  have HO2 := Aside0.mk hO2
  have HK2 := Aside0.mk hK2
  have HW2 := Aside0.mk hW2
  clear hG2 hO2 hK2 hW2 HO HB HR HG1 HG
  have bc0 : W2.cell? ⟨w1.heap.size, 0, none⟩ = some (.int .u8 4) := (blk_cell hbox 0).trans rfl
  have bc1 : W2.cell? ⟨w1.heap.size, 1, none⟩ = some (.bool false) := (blk_cell hbox 1).trans rfl
  have bc2 : W2.cell? ⟨w1.heap.size, 2, none⟩ = some (.slice Av 3 cv) := (blk_cell hbox 2).trans rfl
  have bc3 : W2.cell? ⟨w1.heap.size, 3, none⟩ = some (.int .u32 1000) := (blk_cell hbox 3).trans rfl
  have rc0 : W2.cell? ⟨w.heap.size + 1, 0, none⟩ = some (.int .u8 0) := (blk_cell hres 0).trans rfl
  have rc1 : W2.cell? ⟨w.heap.size + 1, 1, none⟩ = some (.bool false) := (blk_cell hres 1).trans rfl
  have rc2 : W2.cell? ⟨w.heap.size + 1, 2, none⟩ = some (.slice none 0 0) := (blk_cell hres 2).trans rfl
  have rc3 : W2.cell? ⟨w.heap.size + 1, 3, none⟩ = some (.int .u32 0) := (blk_cell hres 3).trans rfl
  have rf0 := blk_frozen hres 0
  have rf1 := blk_frozen hres 1
  have rf2 := blk_frozen hres 2
  have rf3 := blk_frozen hres 3
  have rl := blk_lt hres
  have bl := blk_lt hbox
  go_region_with (go_at_call 34; with_reducible refine (wrap_nil _ _).mono ?_; rintro e w' ⟨rfl, rfl⟩)
  all_goals (simp only [Act.put, List.getElem_toArray, List.getElem_cons_zero, List.getElem_cons_succ, List.setIfInBounds_toArray, List.set_cons_zero, List.set_cons_succ]; go_wp2_with fail)
  all_goals
    have hne : g ≠ w.heap.size + 1 := by omega
    have hle : w.heap.size ≤ w.heap.size + 1 := by omega
    have hR := Kd.R_drew (Kd.R_far (Kd.R_far (Kd.R_far (Kd.R_far HO2.out (p := ⟨w.heap.size + 1, 0, none⟩) (fun k hk => hk.2) (.int .u8 4)) (p := ⟨w.heap.size + 1, 1, none⟩) (fun k hk => hk.2) (.bool false)) (p := ⟨w.heap.size + 1, 2, none⟩) (fun k hk => hk.2) (.slice Av 3 cv)) (p := ⟨w.heap.size + 1, 3, none⟩) (fun k hk => hk.2) (.int .u32 1000))
    have hR2 := Kd.R_mono hR (ok' := fun _ => True) (fun _ _ => trivial)
    have hG3 := IsG.far (IsG.far (IsG.far (IsG.far HG2.out (p := ⟨w.heap.size + 1, 0, none⟩) (x := .int .u8 4) hne) (p := ⟨w.heap.size + 1, 1, none⟩) (x := .bool false) hne) (p := ⟨w.heap.size + 1, 2, none⟩) (x := .slice Av 3 cv) hne) (p := ⟨w.heap.size + 1, 3, none⟩) (x := .int .u32 1000) hne
    have hK3 := keep_drew (keep_far (keep_far (keep_far (keep_far HK2.out (p := ⟨w.heap.size + 1, 0, none⟩) hle (.int .u8 4)) (p := ⟨w.heap.size + 1, 1, none⟩) hle (.bool false)) (p := ⟨w.heap.size + 1, 2, none⟩) hle (.slice Av 3 cv)) (p := ⟨w.heap.size + 1, 3, none⟩) hle (.int .u32 1000))
    refine bodyPost_ret (v := .tuple #[.agg #[.int .u8 4, .bool false, .slice Av [98, 121, 101].length cv, .int .u32 1000], .bool true, .nilIface]) (by simp [results, Tryd.results25, go_sem, rc0, rc1, rc2, rc3]) rfl ⟨_, rfl, hR2, hG3, hK3, fun w0 h0 hw => ?_⟩
    have hl0 : w0.heap.size ≤ w.heap.size + 1 := by have := hw.size; omega
    exact below_drew (Below.setCell (Below.setCell (Below.setCell (Below.setCell (HW2.out w0 h0 hw) hl0 _) hl0 _) hl0 _) hl0 _)
end Go.Proofs.YtbjjobifpmjhhaaDoor

namespace Go.Proofs.YtbjjobifpmjhhaaDoor
open Go.RowKit Go.Proofs.YtbjjobifpmjhhaaDoorW.PrintWords Go.Proofs.YtbjjobifpmjhhaaDoorW.PrintLast Go.Proofs.YtbjjobifpmjhhaaDoorW.PrintMore Go.Proofs.YtbjjobifpmjhhaaDoor.PAll
set_option linter.unusedVariables false
set_option maxHeartbeats 4000000 in
set_option maxRecDepth 100000 in
theorem Take_bye (g : Nat) (v u : Value) (busy text : Bool) (A : Option Addr) (c : Nat) (w : World) (hv : v.oneCell' = true) (hG : IsG w g v busy text u false) (hC : Kd.C (Kd.int .u8) w A 5 [3, 232, 98, 121, 101]) (hc : 5 ≤ c) : Calls Tryd.prog 14 #[.pointer (some ⟨g, 0, none⟩), .agg #[.bool true, .int .u8 8, .bool false, .int .u32 0, .slice A 5 c]] w fun e w' => ∃ vn, e = .returned (.tuple #[.agg #[.int .u8 4, .bool false, vn, .int .u32 1000], .bool true]) ∧ Kd.R (Kd.int .u8) 5 w' w.heap.size (fun _ => True) vn [98, 121, 101] ∧ IsG w' g (.slice none 0 0) busy text u true ∧ (∀ w0 : World, w0.heap.size ≤ g → Below w0.heap.size w0 w → Below w0.heap.size w0 w') := by
  have hu30 := Tryd.underlying30
  have hu26 := Tryd.underlying26
  have hgl : g < w.heap.size := blk_lt hG
  have HG := Aside0.mk hG
  have HC := Aside0.mk hC
  clear hG hC
  go_enter Tryd.func14, Tryd.ntmps14
  go_wp2_with fail
  refine (over_any g v u busy text false _ (show IsG _ g v busy text u false from blk_alloc (blk_alloc HG.out _) _)).mono ?_
  rintro e w1 ⟨rfl, hw1⟩
  have hres : w1.heap[w.heap.size + 1]? = some (.cells #[.int .u8 0, .bool false, .slice none 0 0, .int .u32 0] 30 (0, 0)) := by rw [hw1]; exact last_at _ _ _ (by simp)
  have hbox : w1.heap[w.heap.size]? = some (.cells #[.bool true, .int .u8 8, .bool false, .int .u32 0, .slice A 5 c] 26 (0, 0)) := by rw [hw1]; exact blk_alloc (last_at _ _ _ rfl) _
  have hB1 : Below w.heap.size w w1 := by rw [hw1]; exact below_alloc (below_alloc (Below.refl _ _) _) _
  have hG1 : IsG w1 g v busy text u false := by rw [hw1]; exact blk_alloc (blk_alloc HG.out _) _
  clear hw1
  have bc0 : w1.cell? ⟨w.heap.size, 0, none⟩ = some (.bool true) := (blk_cell hbox 0).trans rfl
  have bf0 := blk_frozen hbox 0
  have bc1 : w1.cell? ⟨w.heap.size, 1, none⟩ = some (.int .u8 8) := (blk_cell hbox 1).trans rfl
  have bf1 := blk_frozen hbox 1
  have bc2 : w1.cell? ⟨w.heap.size, 2, none⟩ = some (.bool false) := (blk_cell hbox 2).trans rfl
  have bf2 := blk_frozen hbox 2
  have bc3 : w1.cell? ⟨w.heap.size, 3, none⟩ = some (.int .u32 0) := (blk_cell hbox 3).trans rfl
  have bf3 := blk_frozen hbox 3
  have bc4 : w1.cell? ⟨w.heap.size, 4, none⟩ = some (.slice A 5 c) := (blk_cell hbox 4).trans rfl
  have bf4 := blk_frozen hbox 4
  have bl : w.heap.size < w1.heap.size := blk_lt hbox
  have HB1 := Aside0.mk hB1
  have HR1 := Aside0.mk hres
  have HG1 := Aside0.mk hG1
  have hl1 : w.heap.size + 1 < w1.heap.size := blk_lt hres
  clear hB1 hres hG1 hbox
  go_wp2_with fail
  refine (take_bye g v u busy text A c _ HG1.out (Kd.C_below HC.out HB1.out) hc).mono ?_
  rintro e w2 ⟨vn, rfl, ho, hG2, hk, hB0⟩
  have hr2 : w2.heap[w.heap.size + 1]? = some (.cells #[.int .u8 0, .bool false, .slice none 0 0, .int .u32 0] 30 (0, 0)) := hk.blk HR1.out (by omega) (by simp)
  have hl2 : w1.heap.size ≤ w2.heap.size := hk.1
  have ho2 := Kd.R_types (Kd.R_types (Kd.R_lower ho HB1.out.size) hG2 (by intro q hq; simp [Kd.int, Kd.scalar] at hq; omega)) hr2 (by intro q hq; simp [Kd.int, Kd.scalar] at hq; omega)
  obtain ⟨Av, cv, rfl⟩ := Kd.R_slice ho2
  have HO := Aside0.mk ho2
  have HG2 := Aside0.mk hG2
  have HR2 := Aside0.mk hr2
  have HB0 := Aside0.mk (fun (w0 : World) (h0 : w0.heap.size ≤ g) (hw : Below w0.heap.size w0 w) => hB0 w0 h0 (below_step hw HB1.out))
  have gc0 : w2.cell? ⟨g, 0, none⟩ = some v := (blk_cell hG2 0).trans rfl
  have gf0 := blk_frozen hG2 0
  have gc4 : w2.cell? ⟨g, 4, none⟩ = some (.bool true) := (blk_cell hG2 4).trans rfl
  have gl := blk_lt hG2
  have rc0 : w2.cell? ⟨w.heap.size + 1, 0, none⟩ = some (.int .u8 0) := (blk_cell hr2 0).trans rfl
  have rf0 := blk_frozen hr2 0
  have rc1 : w2.cell? ⟨w.heap.size + 1, 1, none⟩ = some (.bool false) := (blk_cell hr2 1).trans rfl
  have rf1 := blk_frozen hr2 1
  have rc2 : w2.cell? ⟨w.heap.size + 1, 2, none⟩ = some (.slice none 0 0) := (blk_cell hr2 2).trans rfl
  have rf2 := blk_frozen hr2 2
  have rc3 : w2.cell? ⟨w.heap.size + 1, 3, none⟩ = some (.int .u32 0) := (blk_cell hr2 3).trans rfl
  have rf3 := blk_frozen hr2 3
  have rl : w.heap.size + 1 < w2.heap.size := blk_lt hr2
  clear ho ho2 hG2 hr2 hk hB0 bc0 bc1 bc2 bc3 bc4 bf0 bf1 bf2 bf3 bf4 bl
  go_wp2_with fail
  have hne : g ≠ w.heap.size + 1 := by omega
  have hR := Kd.R_alloc (Kd.R_far (Kd.R_far (Kd.R_far (Kd.R_far (Kd.R_far HO.out (p := ⟨g, 0, none⟩) (fun k hk => hk.1.2) (.slice none 0 0)) (p := ⟨w.heap.size + 1, 0, none⟩) (fun k hk => hk.2) (.int .u8 4)) (p := ⟨w.heap.size + 1, 1, none⟩) (fun k hk => hk.2) (.bool false)) (p := ⟨w.heap.size + 1, 2, none⟩) (fun k hk => hk.2) (.slice Av 3 cv)) (p := ⟨w.heap.size + 1, 3, none⟩) (fun k hk => hk.2) (.int .u32 1000)) (.cells #[.int .u8 4, .bool false, .slice Av 3 cv, .int .u32 1000] 30)
  have hR2 := Kd.R_mono hR (ok' := fun _ => True) (fun _ _ => trivial)
  have hGa : IsG (w2.setCell ⟨g, 0, none⟩ (.slice none 0 0)) g (.slice none 0 0) busy text u true := blk_put HG2.out 0 (.slice none 0 0) rfl
  have hG3 := IsG.far (IsG.far (IsG.far (IsG.far hGa (p := ⟨w.heap.size + 1, 0, none⟩) (x := .int .u8 4) hne) (p := ⟨w.heap.size + 1, 1, none⟩) (x := .bool false) hne) (p := ⟨w.heap.size + 1, 2, none⟩) (x := .slice Av 3 cv) hne) (p := ⟨w.heap.size + 1, 3, none⟩) (x := .int .u32 1000) hne
  refine bodyPost_ret (v := .tuple #[.agg #[.int .u8 4, .bool false, .slice Av [98, 121, 101].length cv, .int .u32 1000], .bool true]) (by simp [results, Tryd.results14, go_sem, rc0, rc1, rc2, rc3, rl]) rfl ⟨_, rfl, hR2, blk_alloc hG3 _, fun w0 h0 hw => ?_⟩
  have hl0 : w0.heap.size ≤ w.heap.size + 1 := by have := hw.size; omega
  exact below_alloc (Below.setCell (Below.setCell (Below.setCell (Below.setCell (Below.setCell (HB0.out w0 h0 hw) h0 _) hl0 _) hl0 _) hl0 _) hl0 _) _
end Go.Proofs.YtbjjobifpmjhhaaDoor

namespace Go.Proofs.YtbjjobifpmjhhaaDoor
open Go.RowKit Go.Proofs.YtbjjobifpmjhhaaDoorW.PrintWords Go.Proofs.YtbjjobifpmjhhaaDoorW.PrintLast Go.Proofs.YtbjjobifpmjhhaaDoorW.PrintMore Go.Proofs.YtbjjobifpmjhhaaDoor.PAll
set_option linter.unusedVariables false
theorem bye_same : (strOfNums [98, 121, 101]).toList = [98, 121, 101] := by
  have : ∀ b : ByteArray, b.data.toList = [98, 121, 101] → b.toList = [98, 121, 101] := fun b h => by
    rw [ByteArray.toList_eq, h]
  exact this _ (by decide +kernel)
set_option maxHeartbeats 4000000 in
set_option maxRecDepth 100000 in
theorem fixed_yes (w : World) : Calls Tryd.prog 9 #[] w fun e w' => e = .returned (.bool true) ∧ Below w.heap.size w w' := by
  go_enter Tryd.func9, Tryd.ntmps9
  go_wp2_with fail
  refine (gnew_any _).mono ?_
  rintro e w1 ⟨rfl, hG, hb⟩
  have HG := Aside0.mk hG
  have HB := Aside0.mk hb
  clear hG hb
  go_wp2_with fail
  refine (message_Close.calls 400 1000 (⟨#[98, 121, 101]⟩ : ByteArray) true 8 false 0 [3, 232, 98, 121, 101] _ (by kernel_rfl)).mono ?_
  rintro e w2 ⟨vc, rfl, ho, hb⟩
  obtain ⟨A, c, rfl⟩ := Kd.R_slice ho
  have hC := (Kd.R_reads' ho).2.2
  have hc := (Kd.R_reads' ho).2.1
  have hG2 : IsG w2 w.heap.size (.slice none 0 0) false false (.pointer none) false := blk_below HG.out hb
  replace HB := Aside0.mk (below_step HB.out hb)
  clear ho hb
  go_wp2_with fail
  refine (calls_of_args rfl (Take_bye w.heap.size (.slice none 0 0) (.pointer none) false false A c _ rfl hG2 hC hc)).mono ?_
  rintro e w3 ⟨vn, rfl, hR, hG3, hB3⟩
  replace HB := Aside0.mk (hB3 w (Nat.le_refl _) HB.out)
  obtain ⟨Av, cv, rfl⟩ := Kd.R_slice hR
  have HR := Aside0.mk hR
  have HG3 := Aside0.mk hG3
  clear hG2 hC hc hR hG3 hB3 HG
  have hcv : ∀ o : Obj, (convert 24 9 (.slice Av 3 cv)).run Tryd.prog (w3.alloc o) = .ok (.string (strOfNums [98, 121, 101])) (w3.alloc o) := fun o => own_string (P := Tryd.prog) Tryd.underlying24 Tryd.underlying5 Tryd.underlying9 (Kd.own_of_R (Kd.R_alloc HR.out o))
  have hst := bye_same
  go_wp2_with fail
  refine (over_any w.heap.size (.slice none 0 0) (.pointer none) false false true _ (blk_alloc HG3.out _)).mono ?_
  rintro e w4 ⟨rfl, rfl⟩
  clear hcv
  go_wp2_with fail
  go_ret
  exact ⟨rfl, below_alloc HB.out _⟩
end Go.Proofs.YtbjjobifpmjhhaaDoor

