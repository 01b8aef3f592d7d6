/- What the law's row rests on, part 6. -/
import Derived.Test.YtkhlldhcmgkioaaDoorZ5
import Derived.Deep.RegionHeld3
/- Bytes that are read, in a block of bytes. -/
namespace Go.Proofs.YtkhlldhcmgkioaaDoor
open Go.RowKit Go.Proofs.YtkhlldhcmgkioaaDoorW.PrintWords Go.Proofs.YtkhlldhcmgkioaaDoorW.PrintLast Go.Proofs.YtkhlldhcmgkioaaDoorW.PrintMore
set_option linter.unusedVariables false
theorem C_at {k : IntKind} {W W' : World} {ad : Addr} {n : Nat} {xs : List Int} (h : Kd.C (Kd.int k) W (some ad) n xs) (hb : W'.heap[ad.block]? = W.heap[ad.block]?) : Kd.C (Kd.int k) W' (some ad) n xs := by
  have hr : ReadsInt W k (some ad) n xs := Kd.reads_of_C h
  refine Kd.C_of_reads (d := (0 : Int)) (h1 := fun _ => rfl) ⟨hr.1, hr.2.1, fun hp => ?_⟩
  obtain ⟨a, e, hc⟩ := hr.2.2 hp
  injection e with e
  subst e
  refine ⟨_, rfl, fun j hj => ?_⟩
  have hbl : W'.heap[(ad.add j).block]? = W.heap[(ad.add j).block]? := by rw [add_block]; exact hb
  rw [World.cell?_of_block hbl]
  exact hc j hj
theorem C_none {k : IntKind} {W W' : World} {n : Nat} {xs : List Int} (h : Kd.C (Kd.int k) W none n xs) : Kd.C (Kd.int k) W' none n xs := by
  have hr : ReadsInt W k none n xs := Kd.reads_of_C h
  refine Kd.C_of_reads (d := (0 : Int)) (h1 := fun _ => rfl) ⟨hr.1, hr.2.1, fun hp => ?_⟩
  obtain ⟨a, e, hc⟩ := hr.2.2 hp
  cases e
/-- Bytes that are read, in a block of bytes. -/
def Dat (W : World) (v : Value) (xs : List Int) : Prop := ∃ A c, v = .slice A xs.length c ∧ xs.length ≤ c ∧ Kd.C (Kd.int .u8) W A xs.length xs ∧ ∀ ad, A = some ad → ∃ cells fr, W.heap[ad.block]? = some (.cells cells 5 fr)
theorem Dat.keep {W W' : World} {v : Value} {xs : List Int} (h : Dat W v xs) (hk : ∀ k, v.ownBlock = some k → W'.heap[k]? = W.heap[k]?) : Dat W' v xs := by
  obtain ⟨A, c, rfl, hc, hC, hb⟩ := h
  cases A with
  | none => exact ⟨none, c, rfl, hc, C_none hC, fun ad e => by cases e⟩
  | some ad =>
    have e := hk ad.block rfl
    refine ⟨some ad, c, rfl, hc, C_at hC e, fun a ha => ?_⟩
    injection ha with ha
    subst ha
    rw [e]
    exact hb ad rfl
theorem Dat.typed {W : World} {v : Value} {xs : List Int} (h : Dat W v xs) {k : Nat} (hk : v.ownBlock = some k) : ∃ cells fr, W.heap[k]? = some (.cells cells 5 fr) := by
  obtain ⟨A, c, rfl, hc, hC, hb⟩ := h
  cases A with
  | none => cases hk
  | some ad =>
    injection hk with hk
    subst hk
    exact hb ad rfl
theorem Dat.lt {W : World} {v : Value} {xs : List Int} (h : Dat W v xs) {k : Nat} (hk : v.ownBlock = some k) : k < W.heap.size := by
  obtain ⟨_, _, h⟩ := h.typed hk
  exact blk_lt h
theorem Dat.below {W W' : World} {v : Value} {xs : List Int} (h : Dat W v xs) (hb : Below W.heap.size W W') : Dat W' v xs := h.keep (fun k hk => hb.block k (h.lt hk))
theorem Dat.C {W : World} {A : Option Addr} {n c : Nat} {xs : List Int} (h : Dat W (.slice A n c) xs) : Kd.C (Kd.int .u8) W A xs.length xs := by
  obtain ⟨B, c', e, _, hC, _⟩ := h
  injection e with e1 _ _
  rw [e1]
  exact hC
theorem Dat.off {W : World} {A : Option Addr} {n c k t : Nat} {xs : List Int} {cs : Array Value} (h : Dat W (.slice A n c) xs) (hk : W.heap[k]? = some (.cells cs t (0, 0))) (ht : t ≠ 5 := by decide) : ∀ ad, A = some ad → 0 < xs.length → ad.block ≠ k := by
  intro ad e _ e2
  obtain ⟨c1, fr, h1⟩ := h.typed (k := k) (by rw [e, ← e2]; rfl)
  rw [hk] at h1
  injection h1 with h1
  injection h1 with _ h1 _
  exact ht h1
end Go.Proofs.YtkhlldhcmgkioaaDoor

/- Frames of bytes, in plain words: the first one, and all of them. -/
namespace Go.Proofs.YtkhlldhcmgkioaaDoor
open Go.RowKit Go.Proofs.YtkhlldhcmgkioaaDoorW.PrintWords Go.Proofs.YtkhlldhcmgkioaaDoorW.PrintLast Go.Proofs.YtkhlldhcmgkioaaDoorW.PrintMore Go.Proofs.YtkhlldhcmgkioaaDoor.PAll
set_option linter.unusedVariables false
theorem rd_app (l x : List Int) (i : Int) (h : i.toNat < l.length) : rd (l ++ x) i = rd l i := by
  unfold rd
  rw [List.getD_eq_getElem?_getD, List.getD_eq_getElem?_getD, List.getElem?_append_left h]
theorem val_app (l x : List Int) (i : Nat) : ∀ n, i + n ≤ l.length → val (l ++ x) i n = val l i n
  | 0, _ => rfl
  | n + 1, h => by
    show val (l ++ x) i n * 256 + rd (l ++ x) ((i + n : Nat) : Int) = val l i n * 256 + rd l ((i + n : Nat) : Int)
    rw [val_app l x i n (by omega), rd_app _ _ _ (by omega)]
theorem lenF_app (l x : List Int) (h2 : 2 ≤ l.length) (h : (lenF l).2.2.1 = false) : lenF (l ++ x) = lenF l := by
  unfold lenF at h ⊢
  rw [rd_app l x 1 (by simp; omega), List.length_append]
  by_cases h6 : rd l 1 % 128 = 126
  · rw [if_pos h6] at h
    rw [if_pos h6, if_pos h6]
    by_cases h4 : l.length < 4
    · rw [if_pos h4] at h; cases h
    · rw [if_neg h4, if_neg (by omega), val_app _ _ _ _ (by omega)]
  · rw [if_neg h6] at h
    rw [if_neg h6, if_neg h6]
    by_cases h7 : rd l 1 % 128 = 127
    · rw [if_pos h7] at h
      rw [if_pos h7, if_pos h7]
      by_cases h4 : l.length < 10
      · rw [if_pos h4] at h; cases h
      · rw [if_neg h4, if_neg (by omega), val_app _ _ _ _ (by omega)]
    · rw [if_neg h7, if_neg h7]
theorem lenF_need (l x : List Int) (h2 : 2 ≤ l.length) (hm : (lenF (l ++ x)).2.2.1 = false) (hc : (lenF (l ++ x)).2.2.2 = 0) (hu : (lenF (l ++ x)).2.1 ≤ l.length) : (lenF l).2.2.1 = false := by
  unfold lenF at hm hc hu ⊢
  rw [rd_app l x 1 (by simp; omega), List.length_append] at hm hc hu
  by_cases h6 : rd l 1 % 128 = 126
  · rw [if_pos h6] at hm hc hu ⊢
    by_cases h4 : l.length < 4
    · exfalso
      by_cases h5 : l.length + x.length < 4
      · rw [if_pos h5] at hm; cases hm
      · rw [if_neg h5] at hc hu
        split at hc
        · cases hc
        · rename_i h8
          rw [if_neg h8] at hu
          dsimp only at hu
          omega
    · rw [if_neg h4]; split <;> rfl
  · rw [if_neg h6] at hm hc hu ⊢
    by_cases h7 : rd l 1 % 128 = 127
    · rw [if_pos h7] at hm hc hu ⊢
      by_cases h4 : l.length < 10
      · exfalso
        by_cases h5 : l.length + x.length < 10
        · rw [if_pos h5] at hm; cases hm
        · rw [if_neg h5] at hc hu
          split at hc
          · cases hc
          · rename_i h8
            rw [if_neg h8] at hu
            dsimp only at hu
            omega
      · rw [if_neg h4]; split <;> rfl
    · rw [if_neg h7]
/-- More bytes behind change nothing of a head that is told. -/
theorem headF_app (l x : List Int) (m : Bool) (h : (headF l m).2.2.1 = false) : headF (l ++ x) m = headF l m := by
  unfold headF at h ⊢
  rw [List.length_append]
  by_cases h0 : l.length = 0
  · rw [if_pos h0] at h; cases h
  · rw [if_neg h0] at h
    rw [if_neg h0, if_neg (show ¬ l.length + x.length = 0 by omega), rd_app l x 0 (by simp; omega)]
    by_cases h1 : rd l 0 / 16 % 8 ≠ 0 ∨ knownB (rd l 0 % 16) = false ∨ (8 ≤ rd l 0 % 16 ∧ rd l 0 < 128)
    · rw [if_pos h1, if_pos h1]
    · rw [if_neg h1] at h
      rw [if_neg h1, if_neg h1]
      by_cases h2 : l.length = 1
      · rw [if_pos h2] at h; cases h
      · rw [if_neg h2] at h
        rw [if_neg h2, if_neg (show ¬ l.length + x.length = 1 by omega), rd_app l x 1 (by simp; omega)]
        by_cases h3 : decide (128 ≤ rd l 1) ≠ m ∨ (8 ≤ rd l 0 % 16 ∧ 126 ≤ rd l 1 % 128)
        · rw [if_pos h3, if_pos h3]
        · rw [if_neg h3] at h
          rw [if_neg h3, if_neg h3]
          by_cases h4 : (lenF l).2.2.1 = true
          · rw [if_pos h4] at h; cases h
          · rw [lenF_app l x (by omega) (by simpa using h4)]
/-- A head's own bytes are enough for it. -/
theorem headF_need (l x : List Int) (m : Bool) (h2 : 2 ≤ l.length) (hm : (headF (l ++ x) m).2.2.1 = false) (hc : (headF (l ++ x) m).2.2.2 = 0) (hf : (headF (l ++ x) m).1 ≤ l.length) : headF (l ++ x) m = headF l m := by
  apply headF_app
  unfold headF at hm hc hf ⊢
  rw [List.length_append, rd_app l x 0 (by simp; omega), rd_app l x 1 (by simp; omega)] at hm hc hf
  rw [if_neg (show ¬ l.length + x.length = 0 by omega)] at hm hc hf
  rw [if_neg (show ¬ l.length = 0 by omega)]
  by_cases h1 : rd l 0 / 16 % 8 ≠ 0 ∨ knownB (rd l 0 % 16) = false ∨ (8 ≤ rd l 0 % 16 ∧ rd l 0 < 128)
  · rw [if_pos h1]
  · rw [if_neg h1] at hm hc hf ⊢
    rw [if_neg (show ¬ l.length + x.length = 1 by omega)] at hm hc hf
    rw [if_neg (show ¬ l.length = 1 by omega)]
    by_cases h3 : decide (128 ≤ rd l 1) ≠ m ∨ (8 ≤ rd l 0 % 16 ∧ 126 ≤ rd l 1 % 128)
    · rw [if_pos h3]
    · rw [if_neg h3] at hm hc hf ⊢
      by_cases h4 : (lenF (l ++ x)).2.2.1 = true
      · rw [if_pos h4] at hm; cases hm
      · rw [if_neg h4] at hc hf
        by_cases h5 : (lenF (l ++ x)).2.2.2 ≠ 0
        · rw [if_pos h5] at hc; cases hc
        · rw [if_neg h5] at hc hf
          by_cases h6 : 4096 < (lenF (l ++ x)).1
          · rw [if_pos h6] at hc; cases hc
          · rw [if_neg h6] at hf
            have h7 := lenF_need l x h2 (by simpa using h4) (by omega) (by have : 0 ≤ (if m = true then (4 : Int) else 0) := by split <;> decide
                                                                           dsimp only at hf
                                                                           omega)
            rw [if_neg (by rw [h7]; decide)]
            split
            · rfl
            · split <;> rfl
/-- A frame. -/
abbrev Pc := PAll.S31
def code1 (l : List Int) (m : Bool) : Int := (headF l m).2.2.2
def size1 (l : List Int) (m : Bool) : Nat := ((headF l m).1 + (headF l m).2.1).toNat
/-- A whole frame stands at the beginning. -/
structure IsFr (l : List Int) (m : Bool) : Prop where
  code : code1 l m = 0
  told : (headF l m).2.2.1 = false
  room : size1 l m ≤ l.length
def dataOf (l : List Int) (m : Bool) : List Int := if m = true then turned (rawOf l m) (keyIn l m) else rawOf l m
def pieceOf (l : List Int) (m : Bool) : Pc := ⟨decide (128 ≤ rd l 0), rd l 0 % 16, m, keyIn l m, dataOf l m⟩
/-- All frames of bytes: the frames, the code of the fault (0: none), what is left. -/
inductive AllP (m : Bool) : List Int → List Pc → Int → List Int → Prop
  | bad {l : List Int} : code1 l m ≠ 0 → AllP m l [] (code1 l m) []
  | stop {l : List Int} : code1 l m = 0 → ¬ IsFr l m → AllP m l [] 0 l
  | frame {l : List Int} {ps : List Pc} {c : Int} {r : List Int} : IsFr l m → AllP m (l.drop (size1 l m)) ps c r → AllP m l (pieceOf (l.take (size1 l m)) m :: ps) c r
theorem IsFr.min {l : List Int} {m : Bool} (h : IsFr l m) (hl : l.all isByte = true) : 2 ≤ (headF l m).1 ∧ 0 ≤ (headF l m).2.1 ∧ (headF l m).1 ≤ 8 ∧ (headF l m).2.1 ≤ 4096 ∧ ((size1 l m : Nat) : Int) = (headF l m).1 + (headF l m).2.1 := by
  have h1 := headF_front hl m h.code h.told
  have h2 := headF_bounds hl m
  unfold size1
  omega
theorem IsFr.app {l : List Int} {m : Bool} (h : IsFr l m) (x : List Int) : IsFr (l ++ x) m ∧ size1 (l ++ x) m = size1 l m := by
  have e := headF_app l x m h.told
  have h3 := h.room
  unfold size1 at h3
  refine ⟨⟨by unfold code1; rw [e]; exact h.code, by rw [e]; exact h.told, by unfold size1; rw [e, List.length_append]; omega⟩, by unfold size1; rw [e]⟩
theorem IsFr.cut {l : List Int} {m : Bool} (h : IsFr l m) (hl : l.all isByte = true) : headF (l.take (size1 l m)) m = headF l m := by
  have h1 := h.min hl
  have h3 := h.room
  have e : l.take (size1 l m) ++ l.drop (size1 l m) = l := List.take_append_drop _ _
  have hlen : (l.take (size1 l m)).length = size1 l m := by rw [List.length_take]; omega
  have h4 := headF_need (l.take (size1 l m)) (l.drop (size1 l m)) m (by omega)
  rw [e] at h4
  exact (h4 h.told h.code (by omega)).symm
theorem IsFr.bad {l : List Int} {m : Bool} (h : IsFr l m) (hl : l.all isByte = true) : getBad (l.take (size1 l m)) m = 0 := by
  have h1 := h.min hl
  have h3 := h.room
  have hlen : (l.take (size1 l m)).length = size1 l m := by rw [List.length_take]; omega
  have hc := h.code
  unfold code1 at hc
  unfold getBad
  rw [h.cut hl, if_neg (by omega), if_neg (by rw [h.told]; decide), if_neg (by omega)]
theorem AllP.app_step {b l left : List Int} {m : Bool} {got : List Pc} (h : IsFr l m) (hi : ∀ ps c r, AllP m (l ++ left) ps c r → AllP m b (got ++ ps) c r) :
    ∀ ps c r, AllP m (l.drop (size1 l m) ++ left) ps c r → AllP m b ((got ++ [pieceOf (l.take (size1 l m)) m]) ++ ps) c r := by
  intro ps c r hp
  obtain ⟨h1, h2⟩ := h.app left
  rw [List.append_assoc]
  refine hi _ _ _ ?_
  have e := AllP.frame h1 (ps := ps) (c := c) (r := r)
  rw [h2, List.drop_append_of_le_length h.room, List.take_append_of_le_length h.room] at e
  exact e hp
theorem code1_told {l : List Int} {m : Bool} (h : code1 l m ≠ 0) : (headF l m).2.2.1 = false := by
  unfold code1 headF at h
  unfold headF
  by_cases h0 : l.length = 0
  · rw [if_pos h0] at h; exact absurd rfl h
  · rw [if_neg h0] at h ⊢
    split
    · rfl
    · rename_i h1
      rw [if_neg h1] at h
      by_cases h2 : l.length = 1
      · rw [if_pos h2] at h; exact absurd rfl h
      · rw [if_neg h2] at h ⊢
        split
        · rfl
        · rename_i h3
          rw [if_neg h3] at h
          by_cases h4 : (lenF l).2.2.1 = true
          · rw [if_pos h4] at h; exact absurd rfl h
          · rw [if_neg h4]
            split
            · rfl
            · split <;> rfl
theorem AllP.app_bad {b l left : List Int} {m : Bool} {got : List Pc} (h : code1 l m ≠ 0) (hi : ∀ ps c r, AllP m (l ++ left) ps c r → AllP m b (got ++ ps) c r) : AllP m b got (code1 l m) [] := by
  have e := headF_app l left m (code1_told h)
  have h1 : code1 (l ++ left) m = code1 l m := by unfold code1; rw [e]
  have := hi [] (code1 l m) [] (by rw [← h1]; exact .bad (by rw [h1]; exact h))
  rwa [List.append_nil] at this
theorem AllP.uniq {m : Bool} {l : List Int} {ps : List Pc} {c : Int} {r : List Int} (h : AllP m l ps c r) : ∀ {ps' : List Pc} {c' : Int} {r' : List Int}, AllP m l ps' c' r' → ps = ps' ∧ c = c' ∧ r = r' := by
  induction h with
  | bad hc =>
    intro ps' c' r' h'
    cases h' with
    | bad _ => exact ⟨rfl, rfl, rfl⟩
    | stop h1 _ => exact absurd h1 hc
    | frame h1 _ => exact absurd h1.code hc
  | stop h1 h2 =>
    intro ps' c' r' h'
    cases h' with
    | bad hc => exact absurd h1 hc
    | stop _ _ => exact ⟨rfl, rfl, rfl⟩
    | frame h3 _ => exact absurd h3 h2
  | frame h1 _ ih =>
    intro ps' c' r' h'
    cases h' with
    | bad hc => exact absurd h1.code hc
    | stop _ h2 => exact absurd h1 h2
    | frame _ h3 =>
      obtain ⟨rfl, rfl, rfl⟩ := ih h3
      exact ⟨rfl, rfl, rfl⟩
theorem drop_byte {l : List Int} (hl : l.all isByte = true) (n : Nat) : (l.drop n).all isByte = true := by
  rw [List.all_eq_true] at hl ⊢
  exact fun x hx => hl x (List.mem_of_mem_drop hx)
theorem take_byte {l : List Int} (hl : l.all isByte = true) (n : Nat) : (l.take n).all isByte = true := by
  rw [List.all_eq_true] at hl ⊢
  exact fun x hx => hl x (List.mem_of_mem_take hx)
theorem app_byte {l x : List Int} (hl : l.all isByte = true) (hx : x.all isByte = true) : (l ++ x).all isByte = true := by rw [List.all_append, hl, hx]; rfl
theorem AllP.total (m : Bool) : ∀ (n : Nat) (l : List Int), l.all isByte = true → l.length ≤ n → ∃ ps c r, AllP m l ps c r := by
  intro n
  induction n with
  | zero =>
    intro l hl hn
    by_cases hc : code1 l m = 0
    · refine ⟨_, _, _, .stop hc (fun h => ?_)⟩
      have := h.min hl
      have := h.room
      omega
    · exact ⟨_, _, _, .bad hc⟩
  | succ n ih =>
    intro l hl hn
    by_cases hc : code1 l m = 0
    · by_cases hf : IsFr l m
      · have h1 := hf.min hl
        have h2 := hf.room
        obtain ⟨ps, c, r, h⟩ := ih (l.drop (size1 l m)) (drop_byte hl _) (by rw [List.length_drop]; omega)
        exact ⟨_, _, _, .frame hf h⟩
      · exact ⟨_, _, _, .stop hc hf⟩
    · exact ⟨_, _, _, .bad hc⟩
theorem HeadF_fr {l : List Int} {m : Bool} (hl : l.all isByte = true) (h : IsFr l m) : HeadF l m = (((size1 l m : Nat) : Int), 0, 0, true) := by
  have h1 := h.min hl
  have hc := h.code
  unfold code1 at hc
  unfold HeadF
  rw [if_neg (by omega), if_neg (by rw [h.told]; decide), h1.2.2.2.2]
theorem HeadF_not {l : List Int} {m : Bool} (hl : l.all isByte = true) (hc : code1 l m = 0) (h : ¬ IsFr l m) : HeadF l m = (0, 0, 0, false) ∨ ∃ r1 : Int, HeadF l m = (r1, 0, 0, true) ∧ (l.length : Int) < r1 := by
  have hb := headF_bounds hl m
  by_cases ht : (headF l m).2.2.1 = true
  · left
    unfold code1 at hc
    unfold HeadF
    rw [if_neg (by omega), if_pos ht]
  · right
    refine ⟨(headF l m).1 + (headF l m).2.1, ?_, ?_⟩
    · unfold code1 at hc
      unfold HeadF
      rw [if_neg (by omega), if_neg ht]
    · by_cases hr : size1 l m ≤ l.length
      · exact absurd ⟨hc, by simpa using ht, hr⟩ h
      · unfold size1 at hr; omega
/-- So many bytes tell a frame, or a fault. -/
theorem full_told {l : List Int} {m : Bool} (hl : l.all isByte = true) (h : 4110 ≤ l.length) : code1 l m ≠ 0 ∨ IsFr l m := by
  by_cases hc : code1 l m = 0
  · right
    have hb := headF_bounds hl m
    have ht : (headF l m).2.2.1 = false := by
      unfold headF
      rw [if_neg (by omega)]
      split
      · rfl
      · rw [if_neg (by omega)]
        split
        · rfl
        · have hn : (lenF l).2.2.1 = false := by
            unfold lenF
            split
            · rw [if_neg (by omega)]; split <;> rfl
            · split
              · rw [if_neg (by omega)]; split <;> rfl
              · rfl
          rw [if_neg (by rw [hn]; decide)]
          split
          · rfl
          · split <;> rfl
    exact ⟨hc, ht, by unfold size1; omega⟩
  · exact .inl hc
end Go.Proofs.YtkhlldhcmgkioaaDoor
/- Rows of frames, as they stand: each one's data in a block of bytes. -/
namespace Go.Proofs.YtkhlldhcmgkioaaDoor
open Go.RowKit Go.Proofs.YtkhlldhcmgkioaaDoorW.PrintWords Go.Proofs.YtkhlldhcmgkioaaDoorW.PrintLast Go.Proofs.YtkhlldhcmgkioaaDoorW.PrintMore Go.Proofs.YtkhlldhcmgkioaaDoor.PAll
set_option linter.unusedVariables false
/-- A row of frames of the call's own. -/
def IsOut (W : World) (base : Nat) (v : Value) (ps : List Pc) : Prop := ∃ cs, W.ownsRow base 31 5 v ps.length cs ∧ Reps (fun (p : Pc) (c : List Value) => ∃ u, c = [.bool p.f0, .int .u8 p.f1, .bool p.f2, .int .u32 p.f3, u] ∧ Dat W u p.f4) 5 ps cs
theorem IsOut.nil (W : World) (base : Nat) : IsOut W base (.slice none 0 0) [] := ⟨[], own_nil _ _ _ _, Reps.none _ _⟩
theorem IsOut.move {W W' : World} {base : Nat} {v : Value} {ps : List Pc} (h : IsOut W base v ps) (hv : ∀ k, v.ownBlock = some k → W'.heap[k]? = W.heap[k]?) (hd : ∀ (u : Value) (xs : List Int), Dat W u xs → Dat W' u xs) : IsOut W' base v ps := by
  obtain ⟨cs, h1, h2⟩ := h
  exact ⟨cs, own_move h1 hv, h2.imp_ (fun p c ⟨u, e, hu⟩ => ⟨u, e, hd _ _ hu⟩)⟩
theorem IsOut.below {W W' : World} {base : Nat} {v : Value} {ps : List Pc} (h : IsOut W base v ps) (hb : Below W.heap.size W W') : IsOut W' base v ps :=
  h.move (fun k hk => by obtain ⟨cs, h1, _⟩ := h; exact hb.block k (own_lt h1 k hk)) (fun u xs hd => hd.below hb)
theorem Dat.grown {W W' : World} {base n size : Nat} {v u : Value} {cs : List Value} {xs : List Int} (h : Dat W u xs) (ho : W.ownsRow base 31 size v n cs) (hg : W.grownBy W' v.ownBlock) : Dat W' u xs := by
  refine h.keep (fun k hk => hg.block k (h.lt hk) (fun e => ?_))
  obtain ⟨c1, h1⟩ := own_typed ho k e.symm
  obtain ⟨c2, fr, h2⟩ := h.typed hk
  rw [h1] at h2
  injection h2 with h2
  injection h2 with _ h2 _
  exact absurd h2 (by decide)
theorem IsOut.snoc {W w1 : World} {base : Nat} {v v1 u : Value} {ps : List Pc} {p : Pc} {cs : List Value} (ho : W.ownsRow base 31 5 v ps.length cs) (hr : Reps (fun (p : Pc) (c : List Value) => ∃ u, c = [.bool p.f0, .int .u8 p.f1, .bool p.f2, .int .u32 p.f3, u] ∧ Dat W u p.f4) 5 ps cs) (hu : Dat W u p.f4)
    (h1 : w1.ownsRow base 31 5 v1 (ps.length + 1) (cs ++ [.bool p.f0, .int .u8 p.f1, .bool p.f2, .int .u32 p.f3, u])) (hg : W.grownBy w1 v.ownBlock) : IsOut w1 base v1 (ps ++ [p]) :=
  ⟨_, by rw [List.length_append]; exact h1, (hr.imp_ (fun p c ⟨u, e, hu⟩ => ⟨u, e, hu.grown ho hg⟩)).snoc ⟨u, rfl, hu.grown ho hg⟩ rfl⟩
end Go.Proofs.YtkhlldhcmgkioaaDoor

/- The splitter's small methods, by contracts; and what a nil one answers. -/
namespace Go.Proofs.YtkhlldhcmgkioaaDoor
open Go.RowKit Go.Proofs.YtkhlldhcmgkioaaDoorW.PrintWords Go.Proofs.YtkhlldhcmgkioaaDoorW.PrintLast Go.Proofs.YtkhlldhcmgkioaaDoorW.PrintMore
set_option linter.unusedVariables false
set_option linter.unusedSimpArgs false
attribute [local go_sem] max2_int min2_int max_two min_two
/-- A splitter at block g of W: what it holds (v, the bytes l), masked, bad; its row was made since wb. -/
structure Sp (wb W : World) (g : Nat) (v : Value) (m bad : Bool) (l : List Int) : Prop where
  blk : W.heap[g]? = some (.cells #[v, .bool m, .bool bad] 47 (0, 0))
  row : Kd.R (Kd.int .u8) 5 W wb.heap.size (fun _ => True) v l
theorem Sp.below {wb W W' : World} {g : Nat} {v : Value} {m bad : Bool} {l : List Int} (h : Sp wb W g v m bad l) (hb : Below W.heap.size W W') : Sp wb W' g v m bad l := ⟨blk_below h.blk hb, Kd.R_below h.row hb⟩
theorem Sp.ne {wb W : World} {g : Nat} {v : Value} {m bad : Bool} {l : List Int} (h : Sp wb W g v m bad l) : some g ≠ v.ownBlock := Kd.R_ne h.row h.blk (by decide)
theorem split_new (m : Bool) (wb w : World) (hB : Below wb.heap.size wb w) : Calls Tryd.prog 8 #[.bool m] w fun e w' => e = .returned (.pointer (some ⟨w.heap.size, 0, none⟩)) ∧ Sp wb w' w.heap.size (.slice none 0 0) m false [] ∧ Below w.heap.size w w' := by
  have HB := Aside0.mk hB
  clear hB
  go_enter Tryd.func8, Tryd.ntmps8
  go_wp2
  go_ret
  exact ⟨rfl, ⟨last_at _ _ _ rfl, Kd.R_nil _ _ _ _ _⟩, below_alloc (Below.refl _ _) _⟩
theorem split_bad_any (g : Nat) (bad : Bool) (w : World) (h : w.cell? ⟨g, 2, none⟩ = some (.bool bad)) : Calls Tryd.prog 9 #[.pointer (some ⟨g, 0, none⟩)] w fun e w' => e = .returned (.bool bad) ∧ w = w' := by
  go_enter Tryd.func9, Tryd.ntmps9
  go_wp2
  go_ret
  exact ⟨rfl, rfl⟩
theorem split_bad_nil (w : World) : Calls Tryd.prog 9 #[.pointer none] w fun e w' => e = .returned (.bool true) ∧ w = w' := by
  go_enter Tryd.func9, Tryd.ntmps9
  go_wp2
  go_ret
  exact ⟨rfl, rfl⟩
theorem split_held_any (g n c : Nat) (A : Option Addr) (w : World) (h : w.cell? ⟨g, 0, none⟩ = some (.slice A n c)) : Calls Tryd.prog 10 #[.pointer (some ⟨g, 0, none⟩)] w fun e w' => e = .returned (.int .i64 n) ∧ w = w' := by
  go_enter Tryd.func10, Tryd.ntmps10
  go_wp2
  go_ret
  exact ⟨rfl, rfl⟩
theorem split_feed_nil (A : Option Addr) (n c : Nat) (w : World) : Calls Tryd.prog 11 #[.pointer none, .slice A n c] w fun e w' => e = .returned (.int .i64 0) ∧ w = w' := by
  go_enter Tryd.func11, Tryd.ntmps11
  go_wp2_with fail
  refine (split_bad_nil _).mono ?_
  rintro e w1 ⟨rfl, rfl⟩
  go_wp2_with fail
  go_ret
  exact ⟨rfl, rfl⟩
set_option maxHeartbeats 8000000 in
set_option maxRecDepth 100000 in
theorem split_next_nil (w : World) : Calls Tryd.prog 12 #[.pointer none] w fun e w' => e = .returned (.tuple #[.agg #[.bool false, .int .u8 0, .bool false, .int .u32 0, .slice none 0 0], .agg #[.int .u8 0, .int .u32 0], .bool false]) ∧ Below w.heap.size w w' := by
  have hu31 := Tryd.underlying31
  have hu33 := Tryd.underlying33
  go_enter Tryd.func12, Tryd.ntmps12
  go_wp2_with fail
  refine (split_bad_nil _).mono ?_
  rintro e w1 ⟨rfl, rfl⟩
  have hle0 : w.heap.size ≤ w.heap.size := Nat.le_refl _
  have hle1 : w.heap.size ≤ w.heap.size + 1 := by omega
  go_wp2_with fail
  exact bodyPost_ret (v := .tuple #[.agg #[.bool false, .int .u8 0, .bool false, .int .u32 0, .slice none 0 0], .agg #[.int .u8 0, .int .u32 0], .bool false]) (by simp [results, Tryd.results12, go_sem]) rfl ⟨rfl, by repeat (first | exact Below.refl _ _ | apply below_alloc | refine Below.setCell ?_ hle0 _ | refine Below.setCell ?_ hle1 _)⟩
end Go.Proofs.YtkhlldhcmgkioaaDoor
/- Feed, where all bytes have room. -/
namespace Go.Proofs.YtkhlldhcmgkioaaDoor
open Go.RowKit Go.Proofs.YtkhlldhcmgkioaaDoorW.PrintWords Go.Proofs.YtkhlldhcmgkioaaDoorW.PrintLast Go.Proofs.YtkhlldhcmgkioaaDoorW.PrintMore
set_option linter.unusedVariables false
set_option linter.unusedSimpArgs false
attribute [local go_sem] max2_int min2_int max_two min_two
def FeedPost (wb : World) (g : Nat) (v : Value) (m : Bool) (l : List Int) (n : Int) (w : World) (e : Ending) (w' : World) : Prop := ∃ v', e = .returned (.int .i64 n) ∧ Sp wb w' g v' m false l ∧ Below wb.heap.size wb w' ∧ w.heap.size ≤ w'.heap.size ∧ (∀ k, k < w.heap.size → k ≠ g → some k ≠ v.ownBlock → w'.heap[k]? = w.heap[k]?) ∧ (v'.ownBlock = v.ownBlock ∨ ∃ b, v'.ownBlock = some b ∧ w.heap.size ≤ b)
theorem FeedPost.mk {wb : World} {g : Nat} {v v' : Value} {m : Bool} {l : List Int} {n : Int} {w w' : World} (h1 : Sp wb w' g v' m false l) (h2 : Below wb.heap.size wb w') (h3 : w.heap.size ≤ w'.heap.size) (h4 : ∀ k, k < w.heap.size → k ≠ g → some k ≠ v.ownBlock → w'.heap[k]? = w.heap[k]?) (h5 : v'.ownBlock = v.ownBlock ∨ ∃ b, v'.ownBlock = some b ∧ w.heap.size ≤ b) : FeedPost wb g v m l n w (.returned (.int .i64 n)) w' := ⟨v', rfl, h1, h2, h3, h4, h5⟩
set_option maxHeartbeats 8000000 in
set_option maxRecDepth 100000 in
theorem split_feed_fit (wb w : World) (g : Nat) (v : Value) (m : Bool) (l xs : List Int) (A : Option Addr) (c : Nat) (h : Sp wb w g v m false l) (hB : Below wb.heap.size wb w) (hgb : wb.heap.size ≤ g) (hC : Kd.C (Kd.int .u8) w A xs.length xs) (hc : xs.length ≤ c) (hfit : l.length + xs.length ≤ 4110) : Calls Tryd.prog 11 #[.pointer (some ⟨g, 0, none⟩), .slice A xs.length c] w (FeedPost wb g v m (l ++ xs) xs.length w) := by
  obtain ⟨Av, cv, rfl⟩ := Kd.R_slice h.row
  have hgl := blk_lt h.blk
  have c0 : w.cell? ⟨g, 0, none⟩ = some (.slice Av l.length cv) := (blk_cell h.blk 0).trans rfl
  have c2 : w.cell? ⟨g, 2, none⟩ = some (.bool false) := (blk_cell h.blk 2).trans rfl
  have hinfo : (Tryd.prog.info? 5).map (fun i => (i.zero, i.size, i.bytes)) = some (some (.int .u8 0), 1, 1) := by kernel_rfl
  have HI := Aside0.mk hinfo
  have HS := Aside0.mk h
  have HC := Aside0.mk hC
  have HB := Aside0.mk hB
  clear h hC hB hinfo
  obtain ⟨d, hd⟩ : ∃ d : Int, d = 4110 - (l.length : Int) := ⟨_, rfl⟩
  have hw : IntKind.i64.wrap (4110 - (l.length : Int)) = d := by rw [i64_w]; unfold wrap64; omega
  have hlt : ¬ d < (xs.length : Int) := by omega
  have hlt2 : decide (d < (xs.length : Int)) = false := decide_eq_false hlt
  have p1 : (xs.length : Int) ≤ (c : Int) := by omega
  have p0 : (0 : Int) ≤ (xs.length : Int) := by omega
  have HD := Aside0.mk hd
  clear hd
  go_enter Tryd.func11, Tryd.ntmps11
  go_wp2_with fail
  refine (split_bad_any g false _ c2).mono ?_
  rintro e w1 ⟨rfl, rfl⟩
  go_wp2_with fail
  refine start_ (n := 12) (S := fun w' => w'.cell? ⟨g, 0, none⟩ = some (.slice Av l.length cv)) (ds := [11]) #[false, false, false, false, false, false, false, false, false, false, false, false] (by kernel_rfl) rfl rfl (c0) (fun hHeld => ?_)
  refine pure_ (i := 0) (N := (some 17)) (v := ?_) (a' := ?_) #[true, false, false, false, false, false, false, false, false, false, false, false] rfl rfl (by kernel_rfl) (fun _ _ _ h => h) (Or.inl ⟨by rfl, ?_⟩) ?_ ?_
  rotate_left
  · intro w'
    go_simp
    first | done | with_reducible rfl
  rotate_left
  · simp only [Act.put, List.setIfInBounds_toArray, List.set_cons_zero, List.set_cons_succ, i64_w, i32_w]
    rfl
  refine pure_ (i := 1) (N := (some 18)) (v := ?_) (a' := ?_) #[true, true, false, false, false, false, false, false, false, false, false, false] rfl rfl (by kernel_rfl) (fun _ _ _ h => h) (Or.inl ⟨by rfl, ?_⟩) ?_ ?_
  rotate_left
  · intro w'
    go_simp
    first | done | with_reducible rfl
  rotate_left
  · simp only [Act.put, List.setIfInBounds_toArray, List.set_cons_zero, List.set_cons_succ, i64_w, i32_w]
    rfl
  refine pure_ (i := 2) (N := (some 19)) (v := ?_) (a' := ?_) #[true, true, true, false, false, false, false, false, false, false, false, false] rfl rfl (by kernel_rfl) (fun _ _ _ h => h) (Or.inl ⟨by rfl, ?_⟩) ?_ ?_
  rotate_left
  · intro w'
    go_simp
    first | done | with_reducible rfl
  rotate_left
  · simp only [Act.put, List.setIfInBounds_toArray, List.set_cons_zero, List.set_cons_succ, i64_w, i32_w]
    rfl
  refine pure_ (i := 3) (N := (some 20)) (v := ?_) (a' := ?_) #[true, true, true, true, false, false, false, false, false, false, false, false] rfl rfl (by kernel_rfl) (fun _ _ _ h => h) (Or.inl ⟨by rfl, ?_⟩) ?_ ?_
  rotate_left
  · intro w'
    go_simp
    first | done | with_reducible rfl
  rotate_left
  · simp only [Act.put, List.setIfInBounds_toArray, List.set_cons_zero, List.set_cons_succ, i64_w, i32_w]
    rfl
  refine take_ (i := 4) (N := (some 21)) (v := ?_) (a' := ?_) #[true, true, true, true, true, false, false, false, false, false, false, false] rfl rfl (by kernel_rfl) (fun _ _ _ h => h) (Or.inl ⟨by rfl, ?_⟩) hHeld ?_ ?_
  rotate_left
  · rintro w' s0
    go_simp
    first | done | with_reducible rfl
  rotate_left
  · simp only [Act.put, List.setIfInBounds_toArray, List.set_cons_zero, List.set_cons_succ, i64_w, i32_w]
    rfl
  refine pure_ (i := 5) (N := (some 22)) (v := ?_) (a' := ?_) #[true, true, true, true, true, true, false, false, false, false, false, false] rfl rfl (by kernel_rfl) (fun _ _ _ h => h) (Or.inl ⟨by rfl, ?_⟩) ?_ ?_
  rotate_left
  · intro w'
    go_simp
    first | done | with_reducible rfl
  rotate_left
  · simp only [Act.put, List.setIfInBounds_toArray, List.set_cons_zero, List.set_cons_succ, i64_w, i32_w]
    rfl
  refine pure_ (i := 6) (N := (some 23)) (v := ?_) (a' := ?_) #[true, true, true, true, true, true, true, false, false, false, false, false] rfl rfl (by kernel_rfl) (fun _ _ _ h => h) (Or.inl ⟨by rfl, ?_⟩) ?_ ?_
  rotate_left
  · intro w'
    go_simp
    first | done | with_reducible rfl
  rotate_left
  · simp only [Act.put, List.setIfInBounds_toArray, List.set_cons_zero, List.set_cons_succ, i64_w, i32_w]
    rfl
  refine pure_ (i := 7) (N := (some 24)) (v := ?_) (a' := ?_) #[true, true, true, true, true, true, true, true, false, false, false, false] rfl rfl (by kernel_rfl) (fun _ _ _ h => h) (Or.inl ⟨by rfl, ?_⟩) ?_ ?_
  rotate_left
  · intro w'
    go_simp
    first | done | with_reducible rfl
  rotate_left
  · simp only [Act.put, List.setIfInBounds_toArray, List.set_cons_zero, List.set_cons_succ, i64_w, i32_w]
    rfl
  refine one_ (i := 8) (N := (some 25)) #[true, true, true, true, true, true, true, true, true, false, false, false] rfl rfl (by kernel_rfl) (by decide) (fun K hK => ?_)
  refine Kd.R_append_rows_step (Kd.int .u8) (w0 := wb) wb.heap.size (by rfl) (.tmp 21) (.tmp 24) 22 5 (.int .u8 0) 1 rfl Tryd.underlying22 HI.out rfl (by decide) (by omega) (.slice Av l.length cv) l xs _ _ _ (fun _ => True) (fun _ => False) rfl rfl ?aO ?aR (fun _ _ h => h) (fun _ h => h.elim) ?aF ?aB ?aS ?aL ?_
  (case aO => exact Kd.R_drew HS.out.row)
  (case aR => exact Kd.C_drew HC.out)
  (case aF => exact fun _ _ => trivial)
  (case aB => exact below_drew HB.out)
  (case aS => exact HB.out.size)
  (case aL => omega)
  intro v1 w1 ho hb hg1 hat
  obtain ⟨A1, c1, e1⟩ := Kd.R_slice ho
  obtain ⟨mm, hmm⟩ : ∃ mm, mm = (l ++ xs).length := ⟨_, rfl⟩
  rw [← hmm] at e1
  clear hmm
  subst e1
  have hk1 : w1.heap[g]? = some (.cells #[.slice Av l.length cv, .bool m, .bool false] 47 (0, 0)) := blk_grown (blk_drew HS.out.blk) hg1 HS.out.ne
  have g0 : w1.cell? ⟨g, 0, none⟩ = some (.slice Av l.length cv) := (blk_cell hk1 0).trans rfl
  have gf0 := blk_frozen hk1 0
  have gl := blk_lt hk1
  have HK1 := Aside0.mk hk1
  have HO := Aside0.mk ho
  have HB1 := Aside0.mk hb
  have HG1 := Aside0.mk hg1
  have HAT := Aside0.mk hat
  clear hk1 ho hb hg1 hat
  refine hK.out _ _ (g0) (fun hHeld => ?_)
  clear hK K
  refine norm_ (a' := ?_) ?_ ?_
  rotate_left
  · show Act.put _ (some 25) _ = _
    simp only [Act.put, List.setIfInBounds_toArray, List.set_cons_zero, List.set_cons_succ, i64_w, i32_w]
    rfl
  refine pure_ (i := 9) (N := (some 26)) (v := ?_) (a' := ?_) #[true, true, true, true, true, true, true, true, true, true, false, false] rfl rfl (by kernel_rfl) (fun _ _ _ h => h) (Or.inl ⟨by rfl, ?_⟩) ?_ ?_
  rotate_left
  · intro w'
    go_simp
    first | done | with_reducible rfl
  rotate_left
  · simp only [Act.put, List.setIfInBounds_toArray, List.set_cons_zero, List.set_cons_succ, i64_w, i32_w]
    rfl
  refine pure_ (i := 10) (N := (some 27)) (v := ?_) (a' := ?_) #[true, true, true, true, true, true, true, true, true, true, true, false] rfl rfl (by kernel_rfl) (fun _ _ _ h => h) (Or.inl ⟨by rfl, ?_⟩) ?_ ?_
  rotate_left
  · intro w'
    go_simp
    first | done | with_reducible rfl
  rotate_left
  · simp only [Act.put, List.setIfInBounds_toArray, List.set_cons_zero, List.set_cons_succ, i64_w, i32_w]
    rfl
  refine last_ (i := 11) (N := none) #[true, true, true, true, true, true, true, true, true, true, true, true] rfl rfl (by kernel_rfl) (by decide) (fun K hK => ?_)
  go_simp
  refine hK.out _ _ ?_
  clear hK K
  refine done_ (by kernel_rfl) ?_
  go_wp2_with fail
  have hne1 : (Value.slice A1 mm c1).ownBlock ≠ some g := fun e => Kd.R_ne HO.out HK1.out (by decide) e.symm
  go_ret
  refine FeedPost.mk (v' := .slice A1 mm c1) ⟨blk_put HK1.out 0 _ rfl, Kd.R_mono (Kd.R_far (Kd.R_types HO.out HK1.out (by intro q hq; simp [Kd.int, Kd.scalar] at hq; omega)) (p := ⟨g, 0, none⟩) (fun k hk => hk.2) _) (fun _ _ => trivial)⟩ (Below.setCell HB1.out hgb _) (by simpa [World.setCell] using HG1.out.size) (fun k hk hkg hkv => (Below.heap_setCell _ _ _ _ hkg).trans (HG1.out.block k hk hkv)) HAT.out
end Go.Proofs.YtkhlldhcmgkioaaDoor
/- Feed, where not all bytes have room. -/
namespace Go.Proofs.YtkhlldhcmgkioaaDoor
open Go.RowKit Go.Proofs.YtkhlldhcmgkioaaDoorW.PrintWords Go.Proofs.YtkhlldhcmgkioaaDoorW.PrintLast Go.Proofs.YtkhlldhcmgkioaaDoorW.PrintMore
set_option linter.unusedVariables false
set_option linter.unusedSimpArgs false
attribute [local go_sem] max2_int min2_int max_two min_two
set_option maxHeartbeats 8000000 in
set_option maxRecDepth 100000 in
theorem split_feed_less (wb w : World) (g : Nat) (v : Value) (m : Bool) (l xs tk : List Int) (A : Option Addr) (c : Nat) (h : Sp wb w g v m false l) (hB : Below wb.heap.size wb w) (hgb : wb.heap.size ≤ g) (hC : Kd.C (Kd.int .u8) w A xs.length xs) (hc : xs.length ≤ c) (hl : l.length ≤ 4110) (hfit : 4110 < l.length + xs.length) (htk : xs.take (4110 - l.length) = tk) : Calls Tryd.prog 11 #[.pointer (some ⟨g, 0, none⟩), .slice A xs.length c] w (FeedPost wb g v m (l ++ tk) tk.length w) := by
  obtain ⟨Av, cv, rfl⟩ := Kd.R_slice h.row
  have hgl := blk_lt h.blk
  have c0 : w.cell? ⟨g, 0, none⟩ = some (.slice Av l.length cv) := (blk_cell h.blk 0).trans rfl
  have c2 : w.cell? ⟨g, 2, none⟩ = some (.bool false) := (blk_cell h.blk 2).trans rfl
  have hinfo : (Tryd.prog.info? 5).map (fun i => (i.zero, i.size, i.bytes)) = some (some (.int .u8 0), 1, 1) := by kernel_rfl
  have HI := Aside0.mk hinfo
  have HS := Aside0.mk h
  have HB := Aside0.mk hB
  clear h hB hinfo
  obtain ⟨d, hd⟩ : ∃ d : Int, d = 4110 - (l.length : Int) := ⟨_, rfl⟩
  have hw : IntKind.i64.wrap (4110 - (l.length : Int)) = d := by rw [i64_w]; unfold wrap64; omega
  have hlt : d < (xs.length : Int) := by omega
  have hlt2 : decide (d < (xs.length : Int)) = true := decide_eq_true hlt
  have hd0 : (0 : Int) ≤ d := by omega
  have hdm : d ≤ (xs.length : Int) := by omega
  obtain ⟨i_, hi_⟩ : ∃ i, Tryd.prog.info? 5 = some i := by
    have h : (Tryd.prog.info? 5).isSome = true := by kernel_rfl
    exact Option.isSome_iff_exists.1 h
  have hsz_ : i_.size = 1 := by
    have h : (Tryd.prog.info? 5).map (fun i => i.size) = some 1 := by kernel_rfl
    rw [hi_] at h
    exact Option.some.inj h
  obtain ⟨hcT, _, htc⟩ := print_take_int (P := Tryd.prog) (k := .u8) 22 5 Tryd.underlying22 hi_ hsz_ A c xs d hd0 hdm hc
  have hdn : d.toNat = 4110 - l.length := by omega
  have hCT : Aside0 (Kd.C (Kd.int .u8) w A tk.length tk) := ⟨by
    have h := Kd.C_take hC (m := d.toNat) (by omega)
    rw [hdn, htk] at h
    exact h⟩
  rw [hdn, htk] at hcT htc
  have hdl : d = (tk.length : Int) := by rw [← htk, List.length_take]; omega
  have hkl : l.length + tk.length = 4110 := by omega
  clear htk hdn hC hi_ hsz_ i_
  have HD := Aside0.mk hd
  clear hd
  go_enter Tryd.func11, Tryd.ntmps11
  go_wp2_with fail
  refine (split_bad_any g false _ c2).mono ?_
  rintro e w1 ⟨rfl, rfl⟩
  go_wp2_with fail
  refine start_ (n := 12) (S := fun w' => w'.cell? ⟨g, 0, none⟩ = some (.slice Av l.length cv)) (ds := [11]) #[false, false, false, false, false, false, false, false, false, false, false, false] (by kernel_rfl) rfl rfl (c0) (fun hHeld => ?_)
  refine pure_ (i := 0) (N := (some 17)) (v := ?_) (a' := ?_) #[true, false, false, false, false, false, false, false, false, false, false, false] rfl rfl (by kernel_rfl) (fun _ _ _ h => h) (Or.inl ⟨by rfl, ?_⟩) ?_ ?_
  rotate_left
  · intro w'
    go_simp
    first | done | with_reducible rfl
  rotate_left
  · simp only [Act.put, List.setIfInBounds_toArray, List.set_cons_zero, List.set_cons_succ, i64_w, i32_w]
    rfl
  refine pure_ (i := 1) (N := (some 18)) (v := ?_) (a' := ?_) #[true, true, false, false, false, false, false, false, false, false, false, false] rfl rfl (by kernel_rfl) (fun _ _ _ h => h) (Or.inl ⟨by rfl, ?_⟩) ?_ ?_
  rotate_left
  · intro w'
    go_simp
    first | done | with_reducible rfl
  rotate_left
  · simp only [Act.put, List.setIfInBounds_toArray, List.set_cons_zero, List.set_cons_succ, i64_w, i32_w]
    rfl
  refine pure_ (i := 2) (N := (some 19)) (v := ?_) (a' := ?_) #[true, true, true, false, false, false, false, false, false, false, false, false] rfl rfl (by kernel_rfl) (fun _ _ _ h => h) (Or.inl ⟨by rfl, ?_⟩) ?_ ?_
  rotate_left
  · intro w'
    go_simp
    first | done | with_reducible rfl
  rotate_left
  · simp only [Act.put, List.setIfInBounds_toArray, List.set_cons_zero, List.set_cons_succ, i64_w, i32_w]
    rfl
  refine pure_ (i := 3) (N := (some 20)) (v := ?_) (a' := ?_) #[true, true, true, true, false, false, false, false, false, false, false, false] rfl rfl (by kernel_rfl) (fun _ _ _ h => h) (Or.inl ⟨by rfl, ?_⟩) ?_ ?_
  rotate_left
  · intro w'
    go_simp
    first | done | with_reducible rfl
  rotate_left
  · simp only [Act.put, List.setIfInBounds_toArray, List.set_cons_zero, List.set_cons_succ, i64_w, i32_w]
    rfl
  refine take_ (i := 4) (N := (some 21)) (v := ?_) (a' := ?_) #[true, true, true, true, true, false, false, false, false, false, false, false] rfl rfl (by kernel_rfl) (fun _ _ _ h => h) (Or.inl ⟨by rfl, ?_⟩) hHeld ?_ ?_
  rotate_left
  · rintro w' s0
    go_simp
    first | done | with_reducible rfl
  rotate_left
  · simp only [Act.put, List.setIfInBounds_toArray, List.set_cons_zero, List.set_cons_succ, i64_w, i32_w]
    rfl
  refine pure_ (i := 5) (N := (some 22)) (v := ?_) (a' := ?_) #[true, true, true, true, true, true, false, false, false, false, false, false] rfl rfl (by kernel_rfl) (fun _ _ _ h => h) (Or.inl ⟨by rfl, ?_⟩) ?_ ?_
  rotate_left
  · intro w'
    go_simp
    first | done | with_reducible rfl
  rotate_left
  · simp only [Act.put, List.setIfInBounds_toArray, List.set_cons_zero, List.set_cons_succ, i64_w, i32_w]
    rfl
  refine pure_ (i := 6) (N := (some 23)) (v := ?_) (a' := ?_) #[true, true, true, true, true, true, true, false, false, false, false, false] rfl rfl (by kernel_rfl) (fun _ _ _ h => h) (Or.inl ⟨by rfl, ?_⟩) ?_ ?_
  rotate_left
  · intro w'
    go_simp
    first | done | with_reducible rfl
  rotate_left
  · simp only [Act.put, List.setIfInBounds_toArray, List.set_cons_zero, List.set_cons_succ, i64_w, i32_w]
    rfl
  refine pure_ (i := 7) (N := (some 24)) (v := ?_) (a' := ?_) #[true, true, true, true, true, true, true, true, false, false, false, false] rfl rfl (by kernel_rfl) (fun _ _ _ h => h) (Or.inl ⟨by rfl, ?_⟩) ?_ ?_
  rotate_left
  · intro w'
    go_simp
    first | done | with_reducible rfl
  rotate_left
  · simp only [Act.put, List.setIfInBounds_toArray, List.set_cons_zero, List.set_cons_succ, i64_w, i32_w]
    rfl
  refine one_ (i := 8) (N := (some 25)) #[true, true, true, true, true, true, true, true, true, false, false, false] rfl rfl (by kernel_rfl) (by decide) (fun K hK => ?_)
  refine Kd.R_append_rows_step (Kd.int .u8) (w0 := wb) wb.heap.size (by rfl) (.tmp 21) (.tmp 24) 22 5 (.int .u8 0) 1 rfl Tryd.underlying22 HI.out rfl (by decide) (by omega) (.slice Av l.length cv) l tk _ _ _ (fun _ => True) (fun _ => False) rfl rfl ?aO ?aR (fun _ _ h => h) (fun _ h => h.elim) ?aF ?aB ?aS ?aL ?_
  (case aO => exact Kd.R_drew HS.out.row)
  (case aR => exact Kd.C_drew hCT.out)
  (case aF => exact fun _ _ => trivial)
  (case aB => exact below_drew HB.out)
  (case aS => exact HB.out.size)
  (case aL => omega)
  intro v1 w1 ho hb hg1 hat
  obtain ⟨A1, c1, e1⟩ := Kd.R_slice ho
  obtain ⟨mm, hmm⟩ : ∃ mm, mm = (l ++ tk).length := ⟨_, rfl⟩
  rw [← hmm] at e1
  clear hmm
  subst e1
  have hk1 : w1.heap[g]? = some (.cells #[.slice Av l.length cv, .bool m, .bool false] 47 (0, 0)) := blk_grown (blk_drew HS.out.blk) hg1 HS.out.ne
  have g0 : w1.cell? ⟨g, 0, none⟩ = some (.slice Av l.length cv) := (blk_cell hk1 0).trans rfl
  have gf0 := blk_frozen hk1 0
  have gl := blk_lt hk1
  have HK1 := Aside0.mk hk1
  have HO := Aside0.mk ho
  have HB1 := Aside0.mk hb
  have HG1 := Aside0.mk hg1
  have HAT := Aside0.mk hat
  clear hk1 ho hb hg1 hat
  refine hK.out _ _ (g0) (fun hHeld => ?_)
  clear hK K
  refine norm_ (a' := ?_) ?_ ?_
  rotate_left
  · show Act.put _ (some 25) _ = _
    simp only [Act.put, List.setIfInBounds_toArray, List.set_cons_zero, List.set_cons_succ, i64_w, i32_w]
    rfl
  refine pure_ (i := 9) (N := (some 26)) (v := ?_) (a' := ?_) #[true, true, true, true, true, true, true, true, true, true, false, false] rfl rfl (by kernel_rfl) (fun _ _ _ h => h) (Or.inl ⟨by rfl, ?_⟩) ?_ ?_
  rotate_left
  · intro w'
    go_simp
    first | done | with_reducible rfl
  rotate_left
  · simp only [Act.put, List.setIfInBounds_toArray, List.set_cons_zero, List.set_cons_succ, i64_w, i32_w]
    rfl
  refine pure_ (i := 10) (N := (some 27)) (v := ?_) (a' := ?_) #[true, true, true, true, true, true, true, true, true, true, true, false] rfl rfl (by kernel_rfl) (fun _ _ _ h => h) (Or.inl ⟨by rfl, ?_⟩) ?_ ?_
  rotate_left
  · intro w'
    go_simp
    first | done | with_reducible rfl
  rotate_left
  · simp only [Act.put, List.setIfInBounds_toArray, List.set_cons_zero, List.set_cons_succ, i64_w, i32_w]
    rfl
  refine last_ (i := 11) (N := none) #[true, true, true, true, true, true, true, true, true, true, true, true] rfl rfl (by kernel_rfl) (by decide) (fun K hK => ?_)
  go_simp
  refine hK.out _ _ ?_
  clear hK K
  refine done_ (by kernel_rfl) ?_
  go_wp2_with fail
  have hne1 : (Value.slice A1 mm c1).ownBlock ≠ some g := fun e => Kd.R_ne HO.out HK1.out (by decide) e.symm
  go_ret
  refine FeedPost.mk (v' := .slice A1 mm c1) ⟨blk_put HK1.out 0 _ rfl, Kd.R_mono (Kd.R_far (Kd.R_types HO.out HK1.out (by intro q hq; simp [Kd.int, Kd.scalar] at hq; omega)) (p := ⟨g, 0, none⟩) (fun k hk => hk.2) _) (fun _ _ => trivial)⟩ (Below.setCell HB1.out hgb _) (by simpa [World.setCell] using HG1.out.size) (fun k hk hkg hkv => (Below.heap_setCell _ _ _ _ hkg).trans (HG1.out.block k hk hkv)) HAT.out
end Go.Proofs.YtkhlldhcmgkioaaDoor
/- A bad splitter takes nothing and tells nothing. -/
namespace Go.Proofs.YtkhlldhcmgkioaaDoor
open Go.RowKit Go.Proofs.YtkhlldhcmgkioaaDoorW.PrintWords Go.Proofs.YtkhlldhcmgkioaaDoorW.PrintLast Go.Proofs.YtkhlldhcmgkioaaDoorW.PrintMore
set_option linter.unusedVariables false
set_option linter.unusedSimpArgs false
attribute [local go_sem] max2_int min2_int max_two min_two
set_option maxHeartbeats 8000000 in
set_option maxRecDepth 100000 in
theorem split_next_isbad (g : Nat) (w : World) (h : w.cell? ⟨g, 2, none⟩ = some (.bool true)) : Calls Tryd.prog 12 #[.pointer (some ⟨g, 0, none⟩)] w fun e w' => e = .returned (.tuple #[.agg #[.bool false, .int .u8 0, .bool false, .int .u32 0, .slice none 0 0], .agg #[.int .u8 0, .int .u32 0], .bool false]) ∧ Below w.heap.size w w' := by
  have hu31 := Tryd.underlying31
  have hu33 := Tryd.underlying33
  go_enter Tryd.func12, Tryd.ntmps12
  go_wp2_with fail
  refine (split_bad_any g true _ ?_).mono ?_
  · exact ((below_alloc (below_alloc (Below.refl w.heap.size w) _) _).cell (World.block_lt_of_cell? _ _ h)).trans h
  rintro e w1 ⟨rfl, rfl⟩
  have hle0 : w.heap.size ≤ w.heap.size := Nat.le_refl _
  have hle1 : w.heap.size ≤ w.heap.size + 1 := by omega
  go_wp2_with fail
  exact bodyPost_ret (v := .tuple #[.agg #[.bool false, .int .u8 0, .bool false, .int .u32 0, .slice none 0 0], .agg #[.int .u8 0, .int .u32 0], .bool false]) (by simp [results, Tryd.results12, go_sem]) rfl ⟨rfl, by repeat (first | exact Below.refl _ _ | apply below_alloc | refine Below.setCell ?_ hle0 _ | refine Below.setCell ?_ hle1 _)⟩
end Go.Proofs.YtkhlldhcmgkioaaDoor

