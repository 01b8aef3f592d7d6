/- What the law's row rests on, part 14. -/
import Derived.Test.YtpmeapdcjmaeiaaDoorZ13
import Derived.Deep.LoopGhost
import Derived.Deep.CutBlock
import Derived.Deep.DeepCutAuto
import Derived.Outline
import Derived.Deep.RegionHeld3
set_option linter.unusedVariables false
set_option linter.unusedSimpArgs false
namespace Go.Proofs.YtpmeapdcjmaeiaaDoor
open Go.RowKit Go.Proofs.YtpmeapdcjmaeiaaDoorW.PrintWords Go.Proofs.YtpmeapdcjmaeiaaDoorW.PrintLast Go.Proofs.YtpmeapdcjmaeiaaDoorW.PrintMore Go.Proofs.YtpmeapdcjmaeiaaDoor.PAll Go.Proofs.YtpmeapdcjmaeiaaDoor.U
theorem row_kf {α : Type} {kd : Kd α} {e base : Nat} {W W' : World} {F F' P : Nat → Prop} {v : Value} {xs : List α} (h : kd.R e W base (fun k => ¬ F k ∧ P k) v xs) (hK : Kf W W' F F') : kd.R e W' base (fun k => ¬ F' k ∧ P k) v xs :=
 Kd.R_mono (Kd.R_step (Kd.R_bound h) (fun k hk hlt => hK.keep k hlt hk.1.1)) (fun k hk => ⟨fun hf => (hK.new k hf).elim hk.1.1 (fun e => by have := hk.2.2.1; omega), hk.1.2⟩)
theorem row_kfx {α : Type} {kd : Kd α} {e base g : Nat} {W W' : World} {F F' P : Nat → Prop} {v : Value} {xs : List α} (h : kd.R e W base (fun k => (¬ F k ∧ P k) ∧ k ≠ g) v xs) (hK : Kf W W' F F') : kd.R e W' base (fun k => (¬ F' k ∧ P k) ∧ k ≠ g) v xs :=
 Kd.R_mono (Kd.R_step (Kd.R_bound h) (fun k hk hlt => hK.keep k hlt hk.1.1.1)) (fun k hk => ⟨⟨fun hf => (hK.new k hf).elim hk.1.1.1 (fun e => by have := hk.2.2.1; omega), hk.1.1.2⟩, hk.1.2⟩)
theorem row_newx {α : Type} {kd : Kd α} {e base : Nat} {W W' : World} {F : Nat → Prop} {v : Value} {xs : List α} (h : kd.R e W base F v xs) (hb : Below W.heap.size W W') : kd.R e W' base (fun k => F k ∧ k ≠ W.heap.size) v xs :=
 Kd.R_mono (Kd.R_step (Kd.R_bound h) (fun k hk hlt => hb.block k hlt)) (fun k hk => ⟨hk.1, fun e => by have := hk.2.2.1; omega⟩)
structure Fd (w0 W : World) (t : Nat) (M : TM) (I : TI) (ps : List Pc) (cd : Int) (left : List Int) (N : TM) (l1 : List Int) (s1 : Bool) (I1 : TI) (xc : List Int) (ps1 : List Pc) (ns1 : List Nt) (Ab : Option Addr) (cb : Nat) (ov : Value) (wr : World) : Prop where
 tn : Tn w0 wr t (N.wl l1 s1) I1
 kf : Kf W wr (TF M I t) (TF (N.wl l1 s1) I1 t)
 ap : Ap W (TF M I t) Ab xc
 row : Kd.R k35 35 wr w0.heap.size (fun k => ¬ TF (N.wl l1 s1) I1 t k ∧ (TF M I t k ∨ W.heap.size ≤ k)) ov ns1
 ovn : ∀ k, ov.ownBlock = some k → W.heap.size ≤ k
 xb : xc.all isByte = true
 xl : xc.length ≤ cb
 cl : N.cl = M.cl
 live : N.cause = 0 → s1 = false
 all : N.cause = 0 → AllP (!M.cl) (l1 ++ xc) ps1 cd left
 run : runM M ps cd = ((runM N ps1 cd).1, ns1 ++ (runM N ps1 cd).2)
 cnt : N.cause = 0 → ns1.length + ps1.length ≤ ps.length
 key : N.cause = 0 → N.key + ps1.length ≤ M.key + ps.length
 len : N.cause = 0 → N.out.length + 131 * ps1.length ≤ M.out.length + 131 * ps.length
def FdR (w0 W : World) (t : Nat) (M : TM) (I : TI) (ps : List Pc) (cd : Int) (left : List Int) (mu : Nat) (bv ov : Value) (wr : World) : Prop :=
 ∃ (N : TM) (l1 : List Int) (s1 : Bool) (I1 : TI) (xc : List Int) (ps1 : List Pc) (ns1 : List Nt) (Ab : Option Addr) (cb : Nat), bv = .slice Ab xc.length cb ∧ mu = 2 * (l1.length + xc.length) + xc.length ∧ Fd w0 W t M I ps cd left N l1 s1 I1 xc ps1 ns1 Ab cb ov wr
def FeedP (w0 W : World) (t : Nat) (M : TM) (I : TI) (ps : List Pc) (cd : Int) (left : List Int) (e : Ending) (w' : World) : Prop :=
 ∃ l' s' I' An cn, e = .returned (.slice An (runM M ps cd).2.length cn) ∧ Tn w0 w' t ((runM M ps cd).1.wl l' s') I' ∧ Kf W w' (TF M I t) (TF ((runM M ps cd).1.wl l' s') I' t) ∧ Kd.R k35 35 w' w0.heap.size (fun k => ¬ TF ((runM M ps cd).1.wl l' s') I' t k ∧ (TF M I t k ∨ W.heap.size ≤ k)) (.slice An (runM M ps cd).2.length cn) (runM M ps cd).2 ∧ ((runM M ps cd).1.cause = 0 → l' = left ∧ s' = false)
theorem FeedP.mk_ {w0 W : World} {t : Nat} {M : TM} {I : TI} {ps : List Pc} {cd : Int} {left : List Int} {N : TM} {l1 : List Int} {s1 : Bool} {I1 : TI} {ns1 : List Nt} {A : Option Addr} {n c : Nat} {w' : World} (hr : runM M ps cd = (N, ns1)) (ht : Tn w0 w' t (N.wl l1 s1) I1) (hk : Kf W w' (TF M I t) (TF (N.wl l1 s1) I1 t)) (hw : Kd.R k35 35 w' w0.heap.size (fun k => ¬ TF (N.wl l1 s1) I1 t k ∧ (TF M I t k ∨ W.heap.size ≤ k)) (.slice A n c) ns1) (hl : N.cause = 0 → l1 = left ∧ s1 = false) : FeedP w0 W t M I ps cd left (.returned (.slice A n c)) w' := by
 obtain ⟨A', c', e⟩ := Kd.R_slice hw
 injection e with e1 e2 e3
 subst e2
 unfold FeedP
 rw [hr]
 exact ⟨l1, s1, I1, A, c, rfl, ht, hk, hw, hl⟩
theorem all_frame {m : Bool} {l : List Int} {ps : List Pc} {c : Int} {r : List Int} (h : AllP m l ps c r) (hf : IsFr l m) : ∃ ps', ps = pieceOf (l.take (size1 l m)) m :: ps' ∧ AllP m (l.drop (size1 l m)) ps' c r := by
 cases h with
 | bad h1 => exact absurd hf.code h1
 | stop h1 h2 => exact absurd hf h2
 | frame h1 h2 => exact ⟨_, rfl, h2⟩
theorem all_bad {m : Bool} {l : List Int} {ps : List Pc} {c : Int} {r : List Int} (h : AllP m l ps c r) (hb : code1 l m ≠ 0) : ps = [] ∧ c = code1 l m := by
 cases h with
 | bad h1 => exact ⟨rfl, rfl⟩
 | stop h1 h2 => exact absurd h1 hb
 | frame h1 h2 => exact absurd h1.code hb
theorem all_stop {m : Bool} {l : List Int} {ps : List Pc} {c : Int} {r : List Int} (h : AllP m l ps c r) (h1 : code1 l m = 0) (h2 : ¬ IsFr l m) : ps = [] ∧ c = 0 ∧ r = l := by
 cases h with
 | bad h3 => exact absurd h1 h3
 | stop h1 h2 => exact ⟨rfl, rfl, rfl⟩
 | frame h3 h4 => exact absurd h3 h2
theorem code_app {l x : List Int} {m : Bool} (h : code1 l m ≠ 0) : code1 (l ++ x) m = code1 l m := by
 unfold code1
 rw [headF_app l x m (code1_told h)]
theorem frame_app {l x : List Int} {m : Bool} (h : IsFr l m) : pieceOf ((l ++ x).take (size1 (l ++ x) m)) m = pieceOf (l.take (size1 l m)) m ∧ (l ++ x).drop (size1 (l ++ x) m) = l.drop (size1 l m) ++ x := by
 obtain ⟨_, hs⟩ := h.app x
 rw [hs, List.take_append_of_le_length h.room, List.drop_append_of_le_length h.room]
 exact ⟨rfl, rfl⟩
set_option maxHeartbeats 8000000 in
set_option maxRecDepth 100000 in
theorem tfeed {w0 W : World} {t : Nat} {M : TM} {I : TI} (h : Tn w0 W t M I) {x : List Int} {A : Option Addr} {c : Nat} (hx : Ap W (TF M I t) A x) (hc : x.length ≤ c) (hxb : x.all isByte = true) {ps : List Pc} {cd : Int} {left : List Int} (hlive : M.cause = 0 → M.sbad = false) (hall : AllP (!M.cl) (M.l ++ x) ps cd left) (hkb : M.key + ps.length + 2 < 9223372036854775807) (hol : M.out.length + 131 * ps.length + 500 ≤ 1000000) (hg : Cond w0) : Calls Tryd.prog 8 #[.pointer (some ⟨t, 0, none⟩), .slice A x.length c] W (FeedP w0 W t M I ps cd left) := by
 have hu37 := Tryd.underlying35
 have hu81 := Tryd.underlying52
 have hu87 := Tryd.underlying58
 have hff_ := field58_1
 have HCO := Aside0.mk hg
 have HBD := Aside0.mk (And.intro hkb hol)
 have hinfo : (Tryd.prog.info? 35).map (fun i => (i.zero, i.size, i.bytes)) = some (some (.agg #[.int .u8 0, .bool false, .slice none 0 0, .int .u32 0]), 4, 40) := by kernel_rfl
 have HI := Aside0.mk hinfo
 clear hinfo
 have h0 : Fd w0 W t M I ps cd left M M.l M.sbad I x ps [] A c (.slice none 0 0) W := ⟨h, Kf.refl _ _, hx, Kd.R_nil _ _ _ _ _, fun k e => (by cases e), hxb, hc, rfl, hlive, fun _ => hall, by simp, fun _ => by simp, fun _ => Int.le_refl _, fun _ => Nat.le_refl _⟩
 have H0 := Aside0.mk h0
 clear h0 h hx hxb hc hlive hall hkb hol hg
 go_enter Tryd.func8, Tryd.ntmps8
 go_wp2_with fail
 go_loopg [1, 5] (2 * (M.l.length + x.length) + x.length) (fun mu bv ov wr => FdR w0 W t M I ps cd left mu bv ov wr)
 case atStart => exact ⟨M, M.l, M.sbad, I, x, ps, [], A, c, rfl, rfl, H0.out⟩
 case round =>
  clear H0
  obtain ⟨N, l1, s1, I1, xc, ps1, ns1, Ab, cb, rfl, hmu, hF⟩ := hrel
  have HMU := Aside0.mk hmu
  have HF := Aside0.mk hF
  have HT := Aside0.mk hF.tn
  have HK := Aside0.mk hF.kf
  have HA := Aside0.mk hF.ap
  have HR := Aside0.mk hF.row
  have HOV := Aside0.mk hF.ovn
  clear hF hmu
  have t5 : wr.cell? ⟨t, 5, none⟩ = some (.pointer (some ⟨I1.dg, 0, none⟩)) := (blk_cell HT.out.blk 5).trans rfl
  by_cases hca : N.cause = 0
  ·have hcb : ((N.wl l1 s1).cause != 0) = false := by simp [TM.wl, hca]
   have hs1 : s1 = false := HF.out.live hca
   subst hs1
   have HALL := Aside0.mk (HF.out.all hca)
   have HCNT := Aside0.mk (And.intro (HF.out.cnt hca) (And.intro (HF.out.key hca) (HF.out.len hca)))
   go_wp2_with fail
   refine (closing_Door_Through.calls I1.dg (N.wl l1 false).sent (N.wl l1 false).got (N.wl l1 false).code (N.wl l1 false).cause (N.wl l1 false).ecode ((N.wl l1 false).cause != 0) (N.wl l1 false).sent (N.wl l1 false).got (N.wl l1 false).code (N.wl l1 false).cause (N.wl l1 false).ecode w0 _ HT.out.dr HT.out.bel rfl).mono ?_
   rintro e w2 ⟨rfl, hI2, hB2, hK2⟩
   obtain ⟨hT2, hK12⟩ := HT.out.setDoor hI2 hB2 hK2
   have hkf_ := (show Kf wr w2 (TF (N.wl l1 false) I1 t) (TF (N.wl l1 false) I1 t) from hK12)
   have HT' := Aside0.mk ((show Tn w0 w2 t (N.wl l1 false) I1 from hT2))
   have HK' := Aside0.mk (HK.out.trans hkf_)
   have HR' := Aside0.mk (row_kf HR.out hkf_)
   clear hkf_ HT HK HR hT2 hK12 hI2 hB2 hK2
   have HT := HT'
   have HK := HK'
   have HR := HR'
   clear HT' HK' HR'
   simp only [hcb]
   clear t5 hcb
   have HCA := Aside0.mk hca
   clear hca
   have t3 : w2.cell? ⟨t, 3, none⟩ = some (.pointer (some ⟨I1.sg, 0, none⟩)) := (blk_cell HT.out.blk 3).trans rfl
   obtain ⟨n, hn⟩ : ∃ n, n = min xc.length (4110 - l1.length) := ⟨_, rfl⟩
   have HN := Aside0.mk hn
   have HLL : Aside0 (l1.length ≤ 4110) := ⟨HT.out.ok.llen⟩
   go_wp2_with fail
   refine (Feed_any HT.out.sp HT.out.bel HT.out.sbase (HA.out _ HK.out.size HK.out.keep) HF.out.xl HLL.out hn).mono ?_
   rintro e w3 hp
   have hl3 : (l1 ++ xc.take n).length ≤ 4110 := by rw [List.length_append, List.length_take]; have := HLL.out; have := HN.out; omega
   have hb3 : (l1 ++ xc.take n).all isByte = true := app_byte HT.out.ok.lbyt (take_byte HF.out.xb n)
   obtain ⟨vs3, rfl, hT3, hK3⟩ := HT.out.feed hp hl3 hb3
   replace hT3 : Tn w0 w3 t (N.wl (l1 ++ xc.take n) false) { I1 with vs := vs3 } := hT3
   replace hK3 : Kf w2 w3 (TF (N.wl l1 false) I1 t) (TF (N.wl (l1 ++ xc.take n) false) { I1 with vs := vs3 } t) := hK3
   obtain ⟨l2, hl2⟩ : ∃ l2, l2 = l1 ++ xc.take n := ⟨_, rfl⟩
   rw [← hl2] at hT3 hK3 hl3 hb3
   obtain ⟨I2, hI2⟩ : ∃ I2 : TI, I2 = { I1 with vs := vs3 } := ⟨_, rfl⟩
   rw [← hI2] at hT3 hK3
   have HDG := Aside0.mk (show I2.dg = I1.dg ∧ I2.gg = I1.gg ∧ I2.sg = I1.sg by rw [hI2]; exact ⟨rfl, rfl, rfl⟩)
   have hkf_ := (show Kf w2 w3 (TF (N.wl l1 false) I1 t) (TF (N.wl l2 false) I2 t) from hK3)
   have HT' := Aside0.mk ((show Tn w0 w3 t (N.wl l2 false) I2 from hT3))
   have HK' := Aside0.mk (HK.out.trans hkf_)
   have HR' := Aside0.mk (row_kf HR.out hkf_)
   have HL2 := Aside0.mk hl2
   have HB3 := Aside0.mk (And.intro hl3 hb3)
   clear hkf_ HT HK HR hT3 hK3 hp hl2 hl3 hb3 hI2 t3 hn
   have HT := HT'
   have HK := HK'
   have HR := HR'
   clear HT' HK' HR'
   obtain ⟨A3, c3, hcut, hC3, hc3⟩ := cut_left Ab cb n xc (by have := HN.out; omega) HF.out.xl
   obtain ⟨x2, hx2⟩ : ∃ x2, x2 = xc.drop n := ⟨_, rfl⟩
   rw [← hx2] at hcut hC3 hc3
   have HA2 : Aside0 (Ap W (TF M I t) A3 x2) := ⟨fun W' h1 h2 => hC3 W' (HA.out W' h1 h2)⟩
   have HX2 := Aside0.mk hx2
   have HC3 := Aside0.mk hc3
   have HALL2 : Aside0 (AllP (!M.cl) (l2 ++ x2) ps1 cd left) := ⟨by rw [HL2.out, hx2, List.append_assoc, List.take_append_drop]; exact HALL.out⟩
   clear hC3 hx2 hc3 HA HALL
   have HA := HA2
   clear HA2
   have hnl : n ≤ xc.length := by have := HN.out; omega
   go_upto_region 7 with fail
   clear hcut hnl
   have t3 : w3.cell? ⟨t, 3, none⟩ = some (.pointer (some ⟨I2.sg, 0, none⟩)) := (blk_cell HT.out.blk 3).trans rfl
   have HXB : Aside0 (x2.all isByte = true) := ⟨by rw [HX2.out]; exact drop_byte HF.out.xb n⟩
   have HLEN : Aside0 (l2.length = l1.length + n ∧ x2.length + n = xc.length) := ⟨by rw [HL2.out, HX2.out, List.length_append, List.length_take, List.length_drop]; have := HN.out; omega⟩
   by_cases hc : code1 l2 (!M.cl) = 0
   ·have HCL : Aside0 ((!(N.wl l2 false).cl) = (!M.cl)) := ⟨congrArg (fun b => !b) HF.out.cl⟩
    by_cases hf : IsFr l2 (!M.cl)
    ·go_wp2_with fail
     obtain ⟨p, hpp⟩ : ∃ p : Pc, p = pieceOf (l2.take (size1 l2 (!M.cl))) (!M.cl) := ⟨_, rfl⟩
     obtain ⟨l3, hl3⟩ : ∃ l3, l3 = l2.drop (size1 l2 (!M.cl)) := ⟨_, rfl⟩
     obtain ⟨hp8, hp4, hpb, hp2⟩ := frame_piece hf HB3.out.2
     rw [← hpp] at hp8 hp4 hpb
     obtain ⟨hfa1, hfa2⟩ := frame_app (x := x2) hf
     obtain ⟨ps2, hps, hall2⟩ := all_frame HALL2.out (hf.app x2).1
     rw [hfa1, ← hpp] at hps
     rw [hfa2, ← hl3] at hall2
     subst hps
     have hl3len : l3.length + 2 ≤ l2.length := by rw [hl3, List.length_drop]; have := hf.room; omega
     have HP8 := Aside0.mk (And.intro hp8 (And.intro hp4 hpb))
     have HALL3 := Aside0.mk hall2
     have HL3 := Aside0.mk hl3len
     have HB5 : Aside0 (l3.length ≤ 4110 ∧ l3.all isByte = true) := ⟨⟨by have := HB3.out.1; omega, by rw [hl3]; exact drop_byte HB3.out.2 _⟩⟩
     have hNF := Next_frame HT.out.sp HT.out.bel HT.out.sbase (HCO.out.below HT.out.bel) HB3.out.2 (show IsFr (N.wl l2 false).l (!(N.wl l2 false).cl) by rw [HCL.out]; exact hf) (by have := HB3.out.1; show l2.length ≤ _; omega) (show p = pieceOf ((N.wl l2 false).l.take (size1 (N.wl l2 false).l (!(N.wl l2 false).cl))) (!(N.wl l2 false).cl) by rw [hpp, HCL.out]; rfl)
     rw [show (N.wl l2 false).l.drop (size1 (N.wl l2 false).l (!(N.wl l2 false).cl)) = l3 by rw [hl3, HCL.out]; rfl] at hNF
     have HNF := Aside0.mk hNF
     clear hNF hpp hl3 hp8 hp4 hpb hp2 hfa1 hfa2 hall2 hl3len hc hf
     go_wp2_with fail
     refine HNF.out.mono ?_
     rintro e w5 hnp
     obtain ⟨vs5, pv, rfl, hT5, hK5, hpv, hpn⟩ := HT.out.nextf hnp HB5.out.1 HB5.out.2
     obtain ⟨I3, hI3⟩ : ∃ I3 : TI, I3 = { I2 with vs := vs5 } := ⟨_, rfl⟩
     replace hT5 : Tn w0 w5 t (N.wl l3 false) I3 := hI3 ▸ hT5
     replace hK5 : Kf w3 w5 (TF (N.wl l2 false) I2 t) (TF (N.wl l3 false) I3 t) := hI3 ▸ hK5
     replace hpn : ∀ k, pv.ownBlock = some k → ¬ TF (N.wl l3 false) I3 t k := hI3 ▸ hpn
     obtain ⟨Ap_, cp, rfl⟩ := Kd.R_slice hpv
     have HPV := Aside0.mk (row_ok (Kd.R_lower hpv HT.out.bel.size) hpn)
     have hkf_ := hK5
     have HT' := Aside0.mk (hT5)
     have HK' := Aside0.mk (HK.out.trans hkf_)
     have HR' := Aside0.mk (row_kf HR.out hkf_)
     clear hkf_ HT HK HR hT5 hK5 hnp hpv hpn HNF hI3
     have HT := HT'
     have HK := HK'
     have HR := HR'
     clear HT' HK' HR'
     go_upto_region 8 with fail
     have hb6 : Below w5.heap.size w5 ((w5.alloc (.cells #[.bool p.f0, .int .u8 p.f1, .bool p.f2, .int .u32 p.f3, .slice Ap_ p.f4.length cp] 52)).alloc (.cells #[.int .u8 0, .int .u32 0] 58)) := below_alloc (below_alloc (Below.refl _ _) _) _
     have hx0 : ((w5.alloc (.cells #[.bool p.f0, .int .u8 p.f1, .bool p.f2, .int .u32 p.f3, .slice Ap_ p.f4.length cp] 52)).alloc (.cells #[.int .u8 0, .int .u32 0] 58)).heap[w5.heap.size]? = some (.cells #[.bool p.f0, .int .u8 p.f1, .bool p.f2, .int .u32 p.f3, .slice Ap_ p.f4.length cp] 52 (0, 0)) := blk_alloc (last_at _ _ _ rfl) _
     have hx1 : ((w5.alloc (.cells #[.bool p.f0, .int .u8 p.f1, .bool p.f2, .int .u32 p.f3, .slice Ap_ p.f4.length cp] 52)).alloc (.cells #[.int .u8 0, .int .u32 0] 58)).heap[w5.heap.size + 1]? = some (.cells #[.int .u8 0, .int .u32 0] 58 (0, 0)) := last_at _ _ _ (by simp)
     generalize ((w5.alloc (.cells #[.bool p.f0, .int .u8 p.f1, .bool p.f2, .int .u32 p.f3, .slice Ap_ p.f4.length cp] 52)).alloc (.cells #[.int .u8 0, .int .u32 0] 58)) = w6 at hb6 hx0 hx1 ⊢
     have hkf_ := (Kf.refl w5 (TF (N.wl l3 false) I3 t)).below hb6
     have HT' := Aside0.mk (HT.out.below hb6)
     have HK' := Aside0.mk (HK.out.trans hkf_)
     have HR' := Aside0.mk (row_kf HR.out hkf_)
     have HPV6 := Aside0.mk (Kd.R_below HPV.out hb6)
     have HNP : Aside0 (¬ TF (N.wl l3 false) I3 t w5.heap.size) := ⟨fun hh => Nat.lt_irrefl _ (HT.out.lt hh)⟩
     clear hkf_ HT HK HR HPV t3
     have HT := HT'
     have HK := HK'
     have HR := HR'
     clear HT' HK' HR'
     have HPV := HPV6
     clear HPV6
     generalize w5.heap.size = gp at hx0 hx1 HNP ⊢
     clear hb6
     have y0 : w6.cell? ⟨gp, 0, none⟩ = some (.bool p.f0) := (blk_cell hx0 0).trans rfl
     have y1 : w6.cell? ⟨gp, 1, none⟩ = some (.int .u8 p.f1) := (blk_cell hx0 1).trans rfl
     have y2 : w6.cell? ⟨gp, 2, none⟩ = some (.bool p.f2) := (blk_cell hx0 2).trans rfl
     have y3 : w6.cell? ⟨gp, 3, none⟩ = some (.int .u32 p.f3) := (blk_cell hx0 3).trans rfl
     have y4 : w6.cell? ⟨gp, 4, none⟩ = some (.slice Ap_ p.f4.length cp) := (blk_cell hx0 4).trans rfl
     have z0 : w6.cell? ⟨gp + 1, 0, none⟩ = some (.int .u8 0) := (blk_cell hx1 0).trans rfl
     have z1 : w6.cell? ⟨gp + 1, 1, none⟩ = some (.int .u32 0) := (blk_cell hx1 1).trans rfl
     have HX0 := Aside0.mk hx0
     clear hx0 hx1
     go_upto_region 11 with fail
     clear z0 z1
     have t4 : w6.cell? ⟨t, 4, none⟩ = some (.pointer (some ⟨I3.gg, 0, none⟩)) := (blk_cell HT.out.blk 4).trans rfl
     refine wp_region_noPanic ?_
     refine wp_region_held_drew (S := fun w' => w'.cell? ⟨t, 4, none⟩ = some (.pointer (some ⟨I3.gg, 0, none⟩)) ∧ w'.cell? ⟨gp, 0, none⟩ = some (.bool p.f0) ∧ w'.cell? ⟨gp, 1, none⟩ = some (.int .u8 p.f1) ∧ w'.cell? ⟨gp, 2, none⟩ = some (.bool p.f2) ∧ w'.cell? ⟨gp, 3, none⟩ = some (.int .u32 p.f3) ∧ w'.cell? ⟨gp, 4, none⟩ = some (.slice Ap_ p.f4.length cp)) (by kernel_rfl) (⟨t4, y0, y1, y2, y3, y4⟩) (fun hHeld => ?_)
     refine takeP 0 56 ?_
     refine takeP 1 57 ?_
     refine takeP 2 58 ?_
     refine takeP 3 59 ?_
     refine takeP 4 60 ?_
     clear t4 y0 y1 y2 y3 y4 hHeld
     have hbd : Below w6.heap.size w6 w6.drew := below_drew (Below.refl _ _)
     have hkf_ := (Kf.refl w6 (TF (N.wl l3 false) I3 t)).below hbd
     have HT' := Aside0.mk (HT.out.below hbd)
     have HK' := Aside0.mk (HK.out.trans hkf_)
     have HR' := Aside0.mk (row_kf HR.out hkf_)
     have HPV6 := Aside0.mk (Kd.R_below HPV.out hbd)
     have HX6 := Aside0.mk (blk_below HX0.out hbd)
     clear hkf_ HT HK HR HPV HX0 hbd
     have HT := HT'
     have HK := HK'
     have HR := HR'
     clear HT' HK' HR'
     have HPV := HPV6
     have HX0 := HX6
     clear HPV6 HX6
     generalize w6.drew = wd at HT HK HR HPV HX0 ⊢
     refine wpAnyH_ready (rs := [5, 9]) (by kernel_rfl) (by simp) ?_
     refine (AllReadyH.cons rfl (fun K hK => ?_) (AllReadyH.cons rfl (fun K hK => ?_) AllReadyH.nil))
     ·go_simp
      go_at_call 23
      refine (take_stepq (fin := p.f0) (op := p.f1) (mk := p.f2) (key := p.f3) (d := p.f4) HT.out.gt HT.out.ok.nob HT.out.ok.blen (Dat.of_row HPV.out) (fun ho k e e2 => HPV.out.1 k e (.inr (.inr (.inr (.inl (.inr ⟨ho, .inl e2⟩)))))) HP8.out.2.2 (by have := HP8.out.2.1; omega) HCO.out).mono ?_
      rintro e w7 ⟨b', busy', te', over', kind, tx, code, nd, ok, v', u', gu', f', vn, rfl, hq⟩
      obtain ⟨hq1, hq2, hT7, hK7, hvn⟩ := HT.out.take (p := p) HP8.out.2.2 hq
      obtain ⟨An, cn, rfl⟩ := Kd.R_slice hq.row
      obtain ⟨I4, hI4⟩ : ∃ I4 : TI, I4 = { I3 with v := v', u := u', gu := gu', f := f' } := ⟨_, rfl⟩
      replace hT7 : Tn w0 w7 t ((N.wg p).wl l3 false) I4 := hI4 ▸ hT7
      replace hK7 : Kf wd w7 (TF (N.wl l3 false) I3 t) (TF ((N.wg p).wl l3 false) I4 t) := hI4 ▸ hK7
      replace hvn : ∀ k, (Value.slice An nd.length cn).ownBlock = some k → ¬ TF ((N.wg p).wl l3 false) I4 t k := hI4 ▸ hvn
      have HGG := Aside0.mk (show I4.gg = I3.gg by rw [hI4])
      have HVN : Aside0 (Kd.R (Kd.int .u8) 5 w7 w0.heap.size (fun k => ¬ TF ((N.wg p).wl l3 false) I4 t k ∧ (TF M I t k ∨ W.heap.size ≤ k)) (.slice An nd.length cn) nd) := ⟨row_ok hq.row (fun k e => ⟨hvn k e, (hq.note k e).elim (fun e2 => HK.out.new k (.inr (.inr (.inr (.inl e2))))) (fun e2 => .inr (Nat.le_trans HK.out.size e2))⟩)⟩
      have HQ1 : Aside0 (N.note p = ⟨kind, tx, nd, code⟩) := ⟨hq1⟩
      have HQ2 : Aside0 (N.tells p = ok) := ⟨hq2⟩
      have HQB : Aside0 (∀ x ∈ nd, 0 ≤ x ∧ x ≤ 255) := ⟨hq.stp.bytes HT.out.ok.byt HP8.out.2.2⟩
      have hx7 := (hK7.keep _ (blk_lt HX0.out) HNP.out).trans HX0.out
      have hkf_ := hK7
      have HT' := Aside0.mk (hT7)
      have HK' := Aside0.mk (HK.out.trans hkf_)
      have HR' := Aside0.mk (row_kf HR.out hkf_)
      clear HX0
      have HX0 := Aside0.mk hx7
      clear hkf_ HT HK HR hT7 hK7 hvn hq1 hq2 hq hx7 hI4 HPV
      have HT := HT'
      have HK := HK'
      have HR := HR'
      clear HT' HK' HR'
      refine hK.out _ _ (⟨(blk_cell HT.out.blk 4).trans (by rw [show (tcells ((N.wg p).wl l3 false) I4)[4]? = some (.pointer (some ⟨I4.gg, 0, none⟩)) from rfl, HGG.out]), (blk_cell HX0.out 0).trans rfl, (blk_cell HX0.out 1).trans rfl, (blk_cell HX0.out 2).trans rfl, (blk_cell HX0.out 3).trans rfl, (blk_cell HX0.out 4).trans rfl⟩) (fun hHeld => ?_)
      clear hK K
      try simp only [Act.put, z1_, z2_, z3_]
      refine takeP 6 55 ?_
      refine takeP 7 62 ?_
      refine takeP 8 63 ?_
      clear hHeld
      refine wpAnyH_ready (rs := [9]) (by kernel_rfl) (by simp) ?_
      refine (AllReadyH.cons rfl (fun K hK => ?_) AllReadyH.nil)
      go_simp
      have hba : Below w7.heap.size w7 (w7.alloc (.cells #[.int .u8 0, .bool false, .slice none 0 0, .int .u32 0] 35)) := below_alloc (Below.refl _ _) _
      have hna : (w7.alloc (.cells #[.int .u8 0, .bool false, .slice none 0 0, .int .u32 0] 35)).heap[w7.heap.size]? = some (.cells #[.int .u8 0, .bool false, .slice none 0 0, .int .u32 0] 35 (0, 0)) := last_at _ _ _ rfl
      have HNX4 : Aside0 (¬ TF ((N.wg p).wl l3 false) I4 t w7.heap.size) := ⟨fun hh => Nat.lt_irrefl _ (HT.out.lt hh)⟩
      have HLG := Aside0.mk (And.intro HT.out.bel.size HK.out.size)
      have hax := blk_below HX0.out hba
      have hkf_ := (Kf.refl w7 (TF ((N.wg p).wl l3 false) I4 t)).below hba
      have hat_ := HT.out.below hba
      have har_ := row_newx HR.out hba
      have hak_ := HK.out.trans hkf_
      have hav_ := Kd.R_below HVN.out hba
      refine hK.out _ _ (⟨(blk_cell hat_.blk 4).trans (by rw [show (tcells ((N.wg p).wl l3 false) I4)[4]? = some (.pointer (some ⟨I4.gg, 0, none⟩)) from rfl, HGG.out]), (blk_cell hax 0).trans rfl, (blk_cell hax 1).trans rfl, (blk_cell hax 2).trans rfl, (blk_cell hax 3).trans rfl, (blk_cell hax 4).trans rfl⟩) (fun hHeld => ?_)
      clear hK K
      try simp only [Act.put, z1_, z2_, z3_]
      generalize w7.alloc (.cells #[.int .u8 0, .bool false, .slice none 0 0, .int .u32 0] 35) = wa at hna hax hat_ har_ hak_ hav_ hHeld ⊢
      generalize w7.heap.size = gx at hna har_ HNX4 HLG ⊢
      clear hba hkf_ HT HK HR HX0 HVN hHeld
      have HT := Aside0.mk hat_
      have HK := Aside0.mk hak_
      have HR := Aside0.mk har_
      have HX0 := Aside0.mk hax
      have HNB := Aside0.mk hna
      have HVN := Aside0.mk hav_
      clear hat_ har_ hak_ hav_ hax hna
      have n_0 : wa.cell? ⟨gx, 0, none⟩ = some (.int .u8 0) := (blk_cell HNB.out 0).trans rfl
      have nf_0 := blk_frozen HNB.out 0
      have n_1 : wa.cell? ⟨gx, 1, none⟩ = some (.bool false) := (blk_cell HNB.out 1).trans rfl
      have nf_1 := blk_frozen HNB.out 1
      have n_2 : wa.cell? ⟨gx, 2, none⟩ = some (.slice none 0 0) := (blk_cell HNB.out 2).trans rfl
      have nf_2 := blk_frozen HNB.out 2
      have n_3 : wa.cell? ⟨gx, 3, none⟩ = some (.int .u32 0) := (blk_cell HNB.out 3).trans rfl
      have nf_3 := blk_frozen HNB.out 3
      have nl_ := blk_lt HNB.out
      refine wpAnyH_ready (rs := [10]) (by kernel_rfl) (by simp) ?_
      refine (AllReadyH.cons rfl (fun K hK => ?_) AllReadyH.nil)
      go_simp
      have hst_ : ∀ q_, q_ ≠ gx → ((((wa.setCell ⟨gx, 0, none⟩ (.int .u8 kind)).setCell ⟨gx, 1, none⟩ (.bool tx)).setCell ⟨gx, 2, none⟩ (.slice An nd.length cn)).setCell ⟨gx, 3, none⟩ (.int .u32 code)).heap[q_]? = wa.heap[q_]? := fun q_ e => heap_sets4 e
      have hat_ := HT.out.move (sets4 HT.out.bel HLG.out.1) (fun k hk => hst_ k (fun e => HNX4.out (e ▸ hk)))
      have hgpx : gp ≠ gx := fun e => by
       have h1 := HX0.out
       rw [e, HNB.out] at h1
       injection h1 with h1
       injection h1 with _ h1 _
       exact absurd h1 (by decide)
      have hax := (hst_ gp hgpx).trans HX0.out
      refine hK.out _ _ (⟨(blk_cell hat_.blk 4).trans (by rw [show (tcells ((N.wg p).wl l3 false) I4)[4]? = some (.pointer (some ⟨I4.gg, 0, none⟩)) from rfl, HGG.out]), (blk_cell hax 0).trans rfl, (blk_cell hax 1).trans rfl, (blk_cell hax 2).trans rfl, (blk_cell hax 3).trans rfl, (blk_cell hax 4).trans rfl⟩) (fun hHeld => ?_)
      clear hK K
      try simp only [Act.put, z1_, z2_, z3_]
      refine takeP 11 11 ?_
      refine wpAnyH_done (by kernel_rfl) ?_ _
      refine NoPanic.normal ?_
      have hak_ : Kf W ((((wa.setCell ⟨gx, 0, none⟩ (.int .u8 kind)).setCell ⟨gx, 1, none⟩ (.bool tx)).setCell ⟨gx, 2, none⟩ (.slice An nd.length cn)).setCell ⟨gx, 3, none⟩ (.int .u32 code)) (TF M I t) (TF ((N.wg p).wl l3 false) I4 t) := ⟨Nat.le_trans HK.out.size (by simp [World.setCell]), fun k hlt hn => (hst_ k (by have := HLG.out.2; omega)).trans (HK.out.keep k hlt hn), HK.out.new⟩
      have har_ := Kd.R_mono (Kd.R_step (w1 := (((wa.setCell ⟨gx, 0, none⟩ (.int .u8 kind)).setCell ⟨gx, 1, none⟩ (.bool tx)).setCell ⟨gx, 2, none⟩ (.slice An nd.length cn)).setCell ⟨gx, 3, none⟩ (.int .u32 code)) HR.out (fun k hk _ => hst_ k hk.2)) (fun k hk => hk.1)
      have hav_ := row_ok (row_keep (W' := (((wa.setCell ⟨gx, 0, none⟩ (.int .u8 kind)).setCell ⟨gx, 1, none⟩ (.bool tx)).setCell ⟨gx, 2, none⟩ (.slice An nd.length cn)).setCell ⟨gx, 3, none⟩ (.int .u32 code)) HVN.out (fun k e => hst_ k (row_at_ne (d := 0) HVN.out HNB.out (by decide) e))) (fun k e => HVN.out.1 k e)
      have hn8 : ((((wa.setCell ⟨gx, 0, none⟩ (.int .u8 kind)).setCell ⟨gx, 1, none⟩ (.bool tx)).setCell ⟨gx, 2, none⟩ (.slice An nd.length cn)).setCell ⟨gx, 3, none⟩ (.int .u32 code)).heap[gx]? = some (.cells #[.int .u8 kind, .bool tx, .slice An nd.length cn, .int .u32 code] 35 (0, 0)) := blk_put (blk_put (blk_put (blk_put HNB.out 0 _ rfl) 1 _ rfl) 2 _ rfl) 3 _ rfl
      clear hHeld hst_ hax hgpx
      generalize (((wa.setCell ⟨gx, 0, none⟩ (.int .u8 kind)).setCell ⟨gx, 1, none⟩ (.bool tx)).setCell ⟨gx, 2, none⟩ (.slice An nd.length cn)).setCell ⟨gx, 3, none⟩ (.int .u32 code) = w9 at hat_ hak_ har_ hav_ hn8 ⊢
      clear HT HK HR HVN HNB HX0 n_0 n_1 n_2 n_3 nf_0 nf_1 nf_2 nf_3 nl_ HNX4 HLG HNP
      have HT := Aside0.mk hat_
      have HK := Aside0.mk hak_
      have HR := Aside0.mk har_
      have HVN := Aside0.mk hav_
      have HN9 := Aside0.mk hn8
      clear hat_ hak_ har_ hav_ hn8
      cases ok with
      | false =>
       have HTK : Aside0 (takeM N p = (N.wg p, [])) := ⟨by unfold takeM; rw [HQ2.out, if_neg (by decide)]⟩
       have hcn := HCNT.out
       simp only [List.length_cons] at hcn
       have HCN := Aside0.mk hcn
       clear hcn
       go_wp2_with fail
       go_roundg (2 * (l3.length + x2.length) + x2.length)
       case measure => have := HMU.out; have := HLEN.out; have := HL3.out; omega
       case rel => exact ⟨N.wg p, l3, false, I4, x2, ps2, ns1, A3, c3, rfl, rfl, HT.out, HK.out, HA.out, HR.out, HOV.out, HXB.out, HC3.out, HF.out.cl, fun _ => rfl, fun _ => HALL3.out, by rw [HF.out.run, runM_cons N p ps2 cd HCA.out, HTK.out, List.nil_append], fun _ => by have := HCN.out.1; omega, fun _ => by have := HCN.out.2.1; show N.key + _ ≤ _; omega, fun _ => by have := HCN.out.2.2; show N.out.length + _ ≤ _; omega⟩
      | true =>
       have hcn := HCNT.out
       simp only [List.length_cons] at hcn
       have HCN := Aside0.mk hcn
       clear hcn
       have HGW := Aside0.mk (take_grow N p HP8.out.1)
       have x_0 : w9.cell? ⟨gx, 0, none⟩ = some (.int .u8 kind) := (blk_cell HN9.out 0).trans rfl
       have x_1 : w9.cell? ⟨gx, 1, none⟩ = some (.bool tx) := (blk_cell HN9.out 1).trans rfl
       have x_2 : w9.cell? ⟨gx, 2, none⟩ = some (.slice An nd.length cn) := (blk_cell HN9.out 2).trans rfl
       have x_3 : w9.cell? ⟨gx, 3, none⟩ = some (.int .u32 code) := (blk_cell HN9.out 3).trans rfl
       have x_l := blk_lt HN9.out
       go_wp2_with fail
       refine (ttakes HT.out (k := kind) (tx := tx) (nd := nd) (code := code) (Ap.of_row HVN.out (fun k e => (HVN.out.1 k e).1)) (Kd.R_reads' HVN.out).2.1 HQB.out (fun hk2 => by
        have h2 := note_two N p (by rw [HQ1.out]; exact hk2)
        rw [HQ1.out] at h2
        rw [show nd = p.f4 from h2.1]
        exact HP8.out.1 (by have := h2.2; omega)) (by show N.key < _; have h1 := HCN.out; have h2 := HBD.out; omega) (by show N.out.length ≤ _; have h1 := HCN.out; have h2 := HBD.out; omega)).mono ?_
       rintro e w7 ⟨vo7, vn7, rfl, hvn7, hT7, hK7⟩
       rw [takes_wl] at hvn7 hT7 hK7 ⊢
       obtain ⟨N2, n2, hN2⟩ : ∃ N2 n2, takesM (N.wg p) ⟨kind, tx, nd, code⟩ = (N2, n2) := ⟨_, _, rfl⟩
       rw [hN2] at hvn7 hT7 hK7 ⊢
       dsimp only at hvn7 hT7 hK7 ⊢
       obtain ⟨I5, hI5⟩ : ∃ I5 : TI, I5 = { I4 with vo := vo7 } := ⟨_, rfl⟩
       rw [← hI5] at hT7 hK7
       have HTK : Aside0 (takeM N p = (N2, [n2])) := ⟨by unfold takeM; rw [HQ2.out, if_pos rfl, HQ1.out, hN2]⟩
       have hv2 : Kd.R (Kd.int .u8) 5 w7 w0.heap.size (fun k => ¬ TF (N2.wl l3 false) I5 t k ∧ (TF M I t k ∨ W.heap.size ≤ k)) vn7 n2.f2 := by
        rcases hvn7 with ⟨e1, e2⟩ | ⟨e1, e2⟩
        ·rw [e1, e2]
         exact row_kf HVN.out hK7
        ·rw [e1, e2]
         exact Kd.R_nil _ _ _ _ _
       obtain ⟨An2, cn2, rfl⟩ := Kd.R_slice hv2
       have HV2 := Aside0.mk hv2
       have hkf_ := hK7
       have HT' := Aside0.mk (hT7)
       have HK' := Aside0.mk (HK.out.trans hkf_)
       have HR' := Aside0.mk (row_kf HR.out hkf_)
       clear hkf_ HT HK HR hT7 hK7 hvn7 hv2 hN2 hI5 x_0 x_1 x_2 x_3 x_l HVN HN9
       have HT := HT'
       have HK := HK'
       have HR := HR'
       clear HT' HK' HR'
       have HGL := Aside0.mk (show (ns1.length + 1) * 40 ≤ 140737488355328 by have h1 := HCN.out; have h2 := HBD.out; omega)
       have HV3 : Aside0 (Kd.R (Kd.int .u8) 5 w7 w0.heap.size (fun k => (¬ TF (N2.wl l3 false) I5 t k ∧ (TF M I t k ∨ W.heap.size ≤ k)) ∧ some k ≠ u5.ownBlock) (.slice An2 n2.f2.length cn2) n2.f2) := ⟨row_ok HV2.out (fun k e => ⟨HV2.out.1 k e, fun e2 => by
        obtain ⟨c1, h1⟩ := Kd.R_typed HR.out k e2.symm
        exact row_at_ne (d := 0) HV2.out h1 (by decide) e rfl⟩)⟩
       go_wp2_with (at_builtin; refine Kd.R_append k35 (w0 := w0) w0.heap.size rfl (.tmp 65) (.tmp 69) 31 35 (.agg #[.int .u8 0, .bool false, .slice none 0 0, .int .u32 0]) 40 rfl Tryd.underlying31 HI.out rfl (by decide) (by decide) u5 ns1 n2 [.int .u8 n2.f0, .bool n2.f1, .slice An2 n2.f2.length cn2, .int .u32 n2.f3] (fun k => ¬ TF (N2.wl l3 false) I5 t k ∧ (TF M I t k ∨ W.heap.size ≤ k)) (fun k => (¬ TF (N2.wl l3 false) I5 t k ∧ (TF M I t k ∨ W.heap.size ≤ k)) ∧ some k ≠ u5.ownBlock) rfl rfl ?aP (fun _ h => h) ?aF HR.out HT.out.bel HT.out.bel.size HGL.out ?_; (case aP => exact k35_mkM _ _ _ n2 HV3.out); (case aF => exact fun k hk => ⟨fun e => by have := HT.out.lt e; omega, .inr (by have := HK.out.size; omega)⟩); intro v1 w8 hR1 hB1 hg1 hat1; have HR8 := Aside0.mk hR1; have HG8 := Aside0.mk (And.intro hB1 (And.intro hg1 hat1)); clear hR1 hB1 hg1 hat1)
       have hmv : ∀ k, k < w7.heap.size → u5.ownBlock ≠ some k → w8.heap[k]? = w7.heap[k]? := fun k hlt hn => HG8.out.2.1.block k hlt (fun e => hn e.symm)
       have HT8 := Aside0.mk (HT.out.move HG8.out.1 (fun k hk => hmv k (HT.out.lt hk) (fun e => (HR.out.1 k e).1 hk)))
       have HK8 : Aside0 (Kf W w8 (TF M I t) (TF (N2.wl l3 false) (I5) t)) := ⟨⟨Nat.le_trans HK.out.size HG8.out.2.1.size, fun k hlt hn => (hmv k (Nat.lt_of_lt_of_le hlt HK.out.size) (fun e => by have := HOV.out k e; omega)).trans (HK.out.keep k hlt hn), HK.out.new⟩⟩
       have HOV8 : Aside0 (∀ k, v1.ownBlock = some k → W.heap.size ≤ k) := ⟨fun k e => by
        rcases HG8.out.2.2 with e1 | ⟨j, e1, hj⟩
        ·exact HOV.out k (e1 ▸ e)
        ·rw [e1] at e
         injection e with e
         have := HK.out.size
         omega⟩
       clear hmv HT HK HR HG8
       go_roundg (2 * (l3.length + x2.length) + x2.length)
       case measure => have := HMU.out; have := HLEN.out; have := HL3.out; omega
       case rel => exact ⟨N2, l3, false, I5, x2, ps2, ns1 ++ [n2], A3, c3, rfl, rfl, HT8.out, HK8.out, HA.out, HR8.out, HOV8.out, HXB.out, HC3.out, by have := HGW.out.1.cl; rw [HTK.out] at this; exact this.trans HF.out.cl, fun _ => rfl, fun _ => HALL3.out, by rw [HF.out.run, runM_cons N p ps2 cd HCA.out, HTK.out, List.append_assoc], fun _ => by have := HCN.out.1; rw [List.length_append]; show _ + 1 + _ ≤ _; omega, fun _ => by have h1 := HGW.out.1.key; rw [HTK.out] at h1; have h1 : N2.key ≤ N.key + 1 := h1; have := HCN.out.2.1; omega, fun _ => by have h1 := HGW.out.1.out; rw [HTK.out] at h1; have h1 : N2.out.length ≤ N.out.length + 131 := h1; have := HCN.out.2.2; omega⟩
     ·go_simp
      have hba : Below wd.heap.size wd (wd.alloc (.cells #[.int .u8 0, .bool false, .slice none 0 0, .int .u32 0] 35)) := below_alloc (Below.refl _ _) _
      have hna : (wd.alloc (.cells #[.int .u8 0, .bool false, .slice none 0 0, .int .u32 0] 35)).heap[wd.heap.size]? = some (.cells #[.int .u8 0, .bool false, .slice none 0 0, .int .u32 0] 35 (0, 0)) := last_at _ _ _ rfl
      have HNX : Aside0 (¬ TF (N.wl l3 false) I3 t wd.heap.size) := ⟨fun hh => Nat.lt_irrefl _ (HT.out.lt hh)⟩
      have HLG := Aside0.mk (And.intro HT.out.bel.size HK.out.size)
      have hax := blk_below HX0.out hba
      have hkf_ := (Kf.refl wd (TF (N.wl l3 false) I3 t)).below hba
      have hat_ := HT.out.below hba
      have har_ := row_newx HR.out hba
      have hak_ := HK.out.trans hkf_
      have hav_ := Kd.R_below HPV.out hba
      refine hK.out _ _ (⟨(blk_cell hat_.blk 4).trans rfl, (blk_cell hax 0).trans rfl, (blk_cell hax 1).trans rfl, (blk_cell hax 2).trans rfl, (blk_cell hax 3).trans rfl, (blk_cell hax 4).trans rfl⟩) (fun hHeld => ?_)
      clear hK K
      try simp only [Act.put, z1_, z2_, z3_]
      generalize wd.alloc (.cells #[.int .u8 0, .bool false, .slice none 0 0, .int .u32 0] 35) = wa at hna hax hat_ har_ hak_ hav_ hHeld ⊢
      generalize wd.heap.size = gx at hna har_ HNX HLG ⊢
      clear hba hkf_ HT HK HR HX0 HPV hHeld
      have HT := Aside0.mk hat_
      have HK := Aside0.mk hak_
      have HR := Aside0.mk har_
      have HX0 := Aside0.mk hax
      have HNB := Aside0.mk hna
      have HPV := Aside0.mk hav_
      clear hat_ har_ hak_ hav_ hax hna
      refine wpAnyH_ready (rs := [5]) (by kernel_rfl) (by simp) ?_
      refine (AllReadyH.cons rfl (fun K hK => ?_) AllReadyH.nil)
      go_simp
      go_at_call 23
      refine (take_stepq (fin := p.f0) (op := p.f1) (mk := p.f2) (key := p.f3) (d := p.f4) HT.out.gt HT.out.ok.nob HT.out.ok.blen (Dat.of_row HPV.out) (fun ho k e e2 => HPV.out.1 k e (.inr (.inr (.inr (.inl (.inr ⟨ho, .inl e2⟩)))))) HP8.out.2.2 (by have := HP8.out.2.1; omega) HCO.out).mono ?_
      rintro e w7 ⟨b', busy', te', over', kind, tx, code, nd, ok, v', u', gu', f', vn, rfl, hq⟩
      obtain ⟨hq1, hq2, hT7, hK7, hvn⟩ := HT.out.take (p := p) HP8.out.2.2 hq
      obtain ⟨An, cn, rfl⟩ := Kd.R_slice hq.row
      obtain ⟨I4, hI4⟩ : ∃ I4 : TI, I4 = { I3 with v := v', u := u', gu := gu', f := f' } := ⟨_, rfl⟩
      replace hT7 : Tn w0 w7 t ((N.wg p).wl l3 false) I4 := hI4 ▸ hT7
      replace hK7 : Kf wa w7 (TF (N.wl l3 false) I3 t) (TF ((N.wg p).wl l3 false) I4 t) := hI4 ▸ hK7
      replace hvn : ∀ k, (Value.slice An nd.length cn).ownBlock = some k → ¬ TF ((N.wg p).wl l3 false) I4 t k := hI4 ▸ hvn
      have HGG := Aside0.mk (show I4.gg = I3.gg by rw [hI4])
      have HVN : Aside0 (Kd.R (Kd.int .u8) 5 w7 w0.heap.size (fun k => ¬ TF ((N.wg p).wl l3 false) I4 t k ∧ (TF M I t k ∨ W.heap.size ≤ k)) (.slice An nd.length cn) nd) := ⟨row_ok hq.row (fun k e => ⟨hvn k e, (hq.note k e).elim (fun e2 => HK.out.new k (.inr (.inr (.inr (.inl e2))))) (fun e2 => .inr (Nat.le_trans HK.out.size e2))⟩)⟩
      have HQ1 : Aside0 (N.note p = ⟨kind, tx, nd, code⟩) := ⟨hq1⟩
      have HQ2 : Aside0 (N.tells p = ok) := ⟨hq2⟩
      have HQB : Aside0 (∀ x ∈ nd, 0 ≤ x ∧ x ≤ 255) := ⟨hq.stp.bytes HT.out.ok.byt HP8.out.2.2⟩
      have hx7 := (hK7.keep _ (blk_lt HX0.out) HNP.out).trans HX0.out
      have hn7 := (hK7.keep _ (blk_lt HNB.out) HNX.out).trans HNB.out
      have HNX4 : Aside0 (¬ TF ((N.wg p).wl l3 false) I4 t gx) := ⟨fun hh => (hK7.new _ hh).elim HNX.out (fun e => by have := blk_lt HNB.out; omega)⟩
      have hkf_ := hK7
      have HT' := Aside0.mk (hT7)
      have HK' := Aside0.mk (HK.out.trans hkf_)
      have HR' := Aside0.mk (row_kfx HR.out hkf_)
      clear HX0
      have HX0 := Aside0.mk hx7
      clear HNB
      have HNB := Aside0.mk hn7
      clear hkf_ HT HK HR hT7 hK7 hvn hq1 hq2 hq hx7 hI4 HPV hn7
      have HT := HT'
      have HK := HK'
      have HR := HR'
      clear HT' HK' HR'
      refine hK.out _ _ (⟨(blk_cell HT.out.blk 4).trans (by rw [show (tcells ((N.wg p).wl l3 false) I4)[4]? = some (.pointer (some ⟨I4.gg, 0, none⟩)) from rfl, HGG.out]), (blk_cell HX0.out 0).trans rfl, (blk_cell HX0.out 1).trans rfl, (blk_cell HX0.out 2).trans rfl, (blk_cell HX0.out 3).trans rfl, (blk_cell HX0.out 4).trans rfl⟩) (fun hHeld => ?_)
      clear hK K
      try simp only [Act.put, z1_, z2_, z3_]
      refine takeP 6 55 ?_
      refine takeP 7 62 ?_
      refine takeP 8 63 ?_
      clear hHeld
      have n_0 : w7.cell? ⟨gx, 0, none⟩ = some (.int .u8 0) := (blk_cell HNB.out 0).trans rfl
      have nf_0 := blk_frozen HNB.out 0
      have n_1 : w7.cell? ⟨gx, 1, none⟩ = some (.bool false) := (blk_cell HNB.out 1).trans rfl
      have nf_1 := blk_frozen HNB.out 1
      have n_2 : w7.cell? ⟨gx, 2, none⟩ = some (.slice none 0 0) := (blk_cell HNB.out 2).trans rfl
      have nf_2 := blk_frozen HNB.out 2
      have n_3 : w7.cell? ⟨gx, 3, none⟩ = some (.int .u32 0) := (blk_cell HNB.out 3).trans rfl
      have nf_3 := blk_frozen HNB.out 3
      have nl_ := blk_lt HNB.out
      refine wpAnyH_ready (rs := [10]) (by kernel_rfl) (by simp) ?_
      refine (AllReadyH.cons rfl (fun K hK => ?_) AllReadyH.nil)
      go_simp
      have hst_ : ∀ q_, q_ ≠ gx → ((((w7.setCell ⟨gx, 0, none⟩ (.int .u8 kind)).setCell ⟨gx, 1, none⟩ (.bool tx)).setCell ⟨gx, 2, none⟩ (.slice An nd.length cn)).setCell ⟨gx, 3, none⟩ (.int .u32 code)).heap[q_]? = w7.heap[q_]? := fun q_ e => heap_sets4 e
      have hat_ := HT.out.move (sets4 HT.out.bel HLG.out.1) (fun k hk => hst_ k (fun e => HNX4.out (e ▸ hk)))
      have hgpx : gp ≠ gx := fun e => by
       have h1 := HX0.out
       rw [e, HNB.out] at h1
       injection h1 with h1
       injection h1 with _ h1 _
       exact absurd h1 (by decide)
      have hax := (hst_ gp hgpx).trans HX0.out
      refine hK.out _ _ (⟨(blk_cell hat_.blk 4).trans (by rw [show (tcells ((N.wg p).wl l3 false) I4)[4]? = some (.pointer (some ⟨I4.gg, 0, none⟩)) from rfl, HGG.out]), (blk_cell hax 0).trans rfl, (blk_cell hax 1).trans rfl, (blk_cell hax 2).trans rfl, (blk_cell hax 3).trans rfl, (blk_cell hax 4).trans rfl⟩) (fun hHeld => ?_)
      clear hK K
      try simp only [Act.put, z1_, z2_, z3_]
      refine takeP 11 11 ?_
      refine wpAnyH_done (by kernel_rfl) ?_ _
      refine NoPanic.normal ?_
      have hak_ : Kf W ((((w7.setCell ⟨gx, 0, none⟩ (.int .u8 kind)).setCell ⟨gx, 1, none⟩ (.bool tx)).setCell ⟨gx, 2, none⟩ (.slice An nd.length cn)).setCell ⟨gx, 3, none⟩ (.int .u32 code)) (TF M I t) (TF ((N.wg p).wl l3 false) I4 t) := ⟨Nat.le_trans HK.out.size (by simp [World.setCell]), fun k hlt hn => (hst_ k (by have := HLG.out.2; omega)).trans (HK.out.keep k hlt hn), HK.out.new⟩
      have har_ := Kd.R_mono (Kd.R_step (w1 := (((w7.setCell ⟨gx, 0, none⟩ (.int .u8 kind)).setCell ⟨gx, 1, none⟩ (.bool tx)).setCell ⟨gx, 2, none⟩ (.slice An nd.length cn)).setCell ⟨gx, 3, none⟩ (.int .u32 code)) HR.out (fun k hk _ => hst_ k hk.2)) (fun k hk => hk.1)
      have hav_ := row_ok (row_keep (W' := (((w7.setCell ⟨gx, 0, none⟩ (.int .u8 kind)).setCell ⟨gx, 1, none⟩ (.bool tx)).setCell ⟨gx, 2, none⟩ (.slice An nd.length cn)).setCell ⟨gx, 3, none⟩ (.int .u32 code)) HVN.out (fun k e => hst_ k (row_at_ne (d := 0) HVN.out HNB.out (by decide) e))) (fun k e => HVN.out.1 k e)
      have hn8 : ((((w7.setCell ⟨gx, 0, none⟩ (.int .u8 kind)).setCell ⟨gx, 1, none⟩ (.bool tx)).setCell ⟨gx, 2, none⟩ (.slice An nd.length cn)).setCell ⟨gx, 3, none⟩ (.int .u32 code)).heap[gx]? = some (.cells #[.int .u8 kind, .bool tx, .slice An nd.length cn, .int .u32 code] 35 (0, 0)) := blk_put (blk_put (blk_put (blk_put HNB.out 0 _ rfl) 1 _ rfl) 2 _ rfl) 3 _ rfl
      clear hHeld hst_ hax hgpx
      generalize (((w7.setCell ⟨gx, 0, none⟩ (.int .u8 kind)).setCell ⟨gx, 1, none⟩ (.bool tx)).setCell ⟨gx, 2, none⟩ (.slice An nd.length cn)).setCell ⟨gx, 3, none⟩ (.int .u32 code) = w9 at hat_ hak_ har_ hav_ hn8 ⊢
      clear HT HK HR HVN HNB HX0 n_0 n_1 n_2 n_3 nf_0 nf_1 nf_2 nf_3 nl_ HNX4 HLG HNP
      have HT := Aside0.mk hat_
      have HK := Aside0.mk hak_
      have HR := Aside0.mk har_
      have HVN := Aside0.mk hav_
      have HN9 := Aside0.mk hn8
      clear hat_ hak_ har_ hav_ hn8
      cases ok with
      | false =>
       have HTK : Aside0 (takeM N p = (N.wg p, [])) := ⟨by unfold takeM; rw [HQ2.out, if_neg (by decide)]⟩
       have hcn := HCNT.out
       simp only [List.length_cons] at hcn
       have HCN := Aside0.mk hcn
       clear hcn
       go_wp2_with fail
       go_roundg (2 * (l3.length + x2.length) + x2.length)
       case measure => have := HMU.out; have := HLEN.out; have := HL3.out; omega
       case rel => exact ⟨N.wg p, l3, false, I4, x2, ps2, ns1, A3, c3, rfl, rfl, HT.out, HK.out, HA.out, HR.out, HOV.out, HXB.out, HC3.out, HF.out.cl, fun _ => rfl, fun _ => HALL3.out, by rw [HF.out.run, runM_cons N p ps2 cd HCA.out, HTK.out, List.nil_append], fun _ => by have := HCN.out.1; omega, fun _ => by have := HCN.out.2.1; show N.key + _ ≤ _; omega, fun _ => by have := HCN.out.2.2; show N.out.length + _ ≤ _; omega⟩
      | true =>
       have hcn := HCNT.out
       simp only [List.length_cons] at hcn
       have HCN := Aside0.mk hcn
       clear hcn
       have HGW := Aside0.mk (take_grow N p HP8.out.1)
       have x_0 : w9.cell? ⟨gx, 0, none⟩ = some (.int .u8 kind) := (blk_cell HN9.out 0).trans rfl
       have x_1 : w9.cell? ⟨gx, 1, none⟩ = some (.bool tx) := (blk_cell HN9.out 1).trans rfl
       have x_2 : w9.cell? ⟨gx, 2, none⟩ = some (.slice An nd.length cn) := (blk_cell HN9.out 2).trans rfl
       have x_3 : w9.cell? ⟨gx, 3, none⟩ = some (.int .u32 code) := (blk_cell HN9.out 3).trans rfl
       have x_l := blk_lt HN9.out
       go_wp2_with fail
       refine (ttakes HT.out (k := kind) (tx := tx) (nd := nd) (code := code) (Ap.of_row HVN.out (fun k e => (HVN.out.1 k e).1)) (Kd.R_reads' HVN.out).2.1 HQB.out (fun hk2 => by
        have h2 := note_two N p (by rw [HQ1.out]; exact hk2)
        rw [HQ1.out] at h2
        rw [show nd = p.f4 from h2.1]
        exact HP8.out.1 (by have := h2.2; omega)) (by show N.key < _; have h1 := HCN.out; have h2 := HBD.out; omega) (by show N.out.length ≤ _; have h1 := HCN.out; have h2 := HBD.out; omega)).mono ?_
       rintro e w7 ⟨vo7, vn7, rfl, hvn7, hT7, hK7⟩
       rw [takes_wl] at hvn7 hT7 hK7 ⊢
       obtain ⟨N2, n2, hN2⟩ : ∃ N2 n2, takesM (N.wg p) ⟨kind, tx, nd, code⟩ = (N2, n2) := ⟨_, _, rfl⟩
       rw [hN2] at hvn7 hT7 hK7 ⊢
       dsimp only at hvn7 hT7 hK7 ⊢
       obtain ⟨I5, hI5⟩ : ∃ I5 : TI, I5 = { I4 with vo := vo7 } := ⟨_, rfl⟩
       rw [← hI5] at hT7 hK7
       have HTK : Aside0 (takeM N p = (N2, [n2])) := ⟨by unfold takeM; rw [HQ2.out, if_pos rfl, HQ1.out, hN2]⟩
       have hv2 : Kd.R (Kd.int .u8) 5 w7 w0.heap.size (fun k => ¬ TF (N2.wl l3 false) I5 t k ∧ (TF M I t k ∨ W.heap.size ≤ k)) vn7 n2.f2 := by
        rcases hvn7 with ⟨e1, e2⟩ | ⟨e1, e2⟩
        ·rw [e1, e2]
         exact row_kf HVN.out hK7
        ·rw [e1, e2]
         exact Kd.R_nil _ _ _ _ _
       obtain ⟨An2, cn2, rfl⟩ := Kd.R_slice hv2
       have HV2 := Aside0.mk hv2
       have hkf_ := hK7
       have HT' := Aside0.mk (hT7)
       have HK' := Aside0.mk (HK.out.trans hkf_)
       have HR' := Aside0.mk (row_kf HR.out hkf_)
       clear hkf_ HT HK HR hT7 hK7 hvn7 hv2 hN2 hI5 x_0 x_1 x_2 x_3 x_l HVN HN9
       have HT := HT'
       have HK := HK'
       have HR := HR'
       clear HT' HK' HR'
       have HGL := Aside0.mk (show (ns1.length + 1) * 40 ≤ 140737488355328 by have h1 := HCN.out; have h2 := HBD.out; omega)
       have HV3 : Aside0 (Kd.R (Kd.int .u8) 5 w7 w0.heap.size (fun k => (¬ TF (N2.wl l3 false) I5 t k ∧ (TF M I t k ∨ W.heap.size ≤ k)) ∧ some k ≠ u5.ownBlock) (.slice An2 n2.f2.length cn2) n2.f2) := ⟨row_ok HV2.out (fun k e => ⟨HV2.out.1 k e, fun e2 => by
        obtain ⟨c1, h1⟩ := Kd.R_typed HR.out k e2.symm
        exact row_at_ne (d := 0) HV2.out h1 (by decide) e rfl⟩)⟩
       go_wp2_with (at_builtin; refine Kd.R_append k35 (w0 := w0) w0.heap.size rfl (.tmp 65) (.tmp 69) 31 35 (.agg #[.int .u8 0, .bool false, .slice none 0 0, .int .u32 0]) 40 rfl Tryd.underlying31 HI.out rfl (by decide) (by decide) u5 ns1 n2 [.int .u8 n2.f0, .bool n2.f1, .slice An2 n2.f2.length cn2, .int .u32 n2.f3] (fun k => ¬ TF (N2.wl l3 false) I5 t k ∧ (TF M I t k ∨ W.heap.size ≤ k)) (fun k => (¬ TF (N2.wl l3 false) I5 t k ∧ (TF M I t k ∨ W.heap.size ≤ k)) ∧ some k ≠ u5.ownBlock) rfl rfl ?aP (fun _ h => h) ?aF HR.out HT.out.bel HT.out.bel.size HGL.out ?_; (case aP => exact k35_mkM _ _ _ n2 HV3.out); (case aF => exact fun k hk => ⟨fun e => by have := HT.out.lt e; omega, .inr (by have := HK.out.size; omega)⟩); intro v1 w8 hR1 hB1 hg1 hat1; have HR8 := Aside0.mk hR1; have HG8 := Aside0.mk (And.intro hB1 (And.intro hg1 hat1)); clear hR1 hB1 hg1 hat1)
       have hmv : ∀ k, k < w7.heap.size → u5.ownBlock ≠ some k → w8.heap[k]? = w7.heap[k]? := fun k hlt hn => HG8.out.2.1.block k hlt (fun e => hn e.symm)
       have HT8 := Aside0.mk (HT.out.move HG8.out.1 (fun k hk => hmv k (HT.out.lt hk) (fun e => (HR.out.1 k e).1 hk)))
       have HK8 : Aside0 (Kf W w8 (TF M I t) (TF (N2.wl l3 false) (I5) t)) := ⟨⟨Nat.le_trans HK.out.size HG8.out.2.1.size, fun k hlt hn => (hmv k (Nat.lt_of_lt_of_le hlt HK.out.size) (fun e => by have := HOV.out k e; omega)).trans (HK.out.keep k hlt hn), HK.out.new⟩⟩
       have HOV8 : Aside0 (∀ k, v1.ownBlock = some k → W.heap.size ≤ k) := ⟨fun k e => by
        rcases HG8.out.2.2 with e1 | ⟨j, e1, hj⟩
        ·exact HOV.out k (e1 ▸ e)
        ·rw [e1] at e
         injection e with e
         have := HK.out.size
         omega⟩
       clear hmv HT HK HR HG8
       go_roundg (2 * (l3.length + x2.length) + x2.length)
       case measure => have := HMU.out; have := HLEN.out; have := HL3.out; omega
       case rel => exact ⟨N2, l3, false, I5, x2, ps2, ns1 ++ [n2], A3, c3, rfl, rfl, HT8.out, HK8.out, HA.out, HR8.out, HOV8.out, HXB.out, HC3.out, by have := HGW.out.1.cl; rw [HTK.out] at this; exact this.trans HF.out.cl, fun _ => rfl, fun _ => HALL3.out, by rw [HF.out.run, runM_cons N p ps2 cd HCA.out, HTK.out, List.append_assoc], fun _ => by have := HCN.out.1; rw [List.length_append]; show _ + 1 + _ ≤ _; omega, fun _ => by have h1 := HGW.out.1.key; rw [HTK.out] at h1; have h1 : N2.key ≤ N.key + 1 := h1; have := HCN.out.2.1; omega, fun _ => by have h1 := HGW.out.1.out; rw [HTK.out] at h1; have h1 : N2.out.length ≤ N.out.length + 131 := h1; have := HCN.out.2.2; omega⟩
    ·go_wp2_with fail
     refine (Next_none HT.out.sp (HCO.out.below HT.out.bel) HB3.out.2 (by rw [HCL.out]; exact hc) (by rw [HCL.out]; exact hf)).mono ?_
     rintro e w5 ⟨rfl, hb5⟩
     have hkf_ := (Kf.refl w3 (TF (N.wl l2 false) I2 t)).below hb5
     have HT' := Aside0.mk (HT.out.below hb5)
     have HK' := Aside0.mk (HK.out.trans hkf_)
     have HR' := Aside0.mk (row_kf HR.out hkf_)
     clear hkf_ HT HK HR hb5
     have HT := HT'
     have HK := HK'
     have HR := HR'
     clear HT' HK' HR'
     go_upto_region 8 with fail
     have hb6 : Below w5.heap.size w5 ((w5.alloc (.cells #[.bool false, .int .u8 0, .bool false, .int .u32 0, .slice none 0 0] 52)).alloc (.cells #[.int .u8 0, .int .u32 0] 58)) := below_alloc (below_alloc (Below.refl _ _) _) _
     have hx0 : ((w5.alloc (.cells #[.bool false, .int .u8 0, .bool false, .int .u32 0, .slice none 0 0] 52)).alloc (.cells #[.int .u8 0, .int .u32 0] 58)).heap[w5.heap.size]? = some (.cells #[.bool false, .int .u8 0, .bool false, .int .u32 0, .slice none 0 0] 52 (0, 0)) := blk_alloc (last_at _ _ _ rfl) _
     have hx1 : ((w5.alloc (.cells #[.bool false, .int .u8 0, .bool false, .int .u32 0, .slice none 0 0] 52)).alloc (.cells #[.int .u8 0, .int .u32 0] 58)).heap[w5.heap.size + 1]? = some (.cells #[.int .u8 0, .int .u32 0] 58 (0, 0)) := last_at _ _ _ (by simp)
     generalize ((w5.alloc (.cells #[.bool false, .int .u8 0, .bool false, .int .u32 0, .slice none 0 0] 52)).alloc (.cells #[.int .u8 0, .int .u32 0] 58)) = w6 at hb6 hx0 hx1 ⊢
     have hkf_ := (Kf.refl w5 (TF (N.wl l2 false) I2 t)).below hb6
     have HT' := Aside0.mk (HT.out.below hb6)
     have HK' := Aside0.mk (HK.out.trans hkf_)
     have HR' := Aside0.mk (row_kf HR.out hkf_)
     clear hkf_ HT HK HR
     have HT := HT'
     have HK := HK'
     have HR := HR'
     clear HT' HK' HR'
     generalize w5.heap.size = gp at hx0 hx1 ⊢
     clear hb6
     have y0 : w6.cell? ⟨gp, 0, none⟩ = some (.bool false) := (blk_cell hx0 0).trans rfl
     have y1 : w6.cell? ⟨gp, 1, none⟩ = some (.int .u8 0) := (blk_cell hx0 1).trans rfl
     have y2 : w6.cell? ⟨gp, 2, none⟩ = some (.bool false) := (blk_cell hx0 2).trans rfl
     have y3 : w6.cell? ⟨gp, 3, none⟩ = some (.int .u32 0) := (blk_cell hx0 3).trans rfl
     have y4 : w6.cell? ⟨gp, 4, none⟩ = some (.slice none 0 0) := (blk_cell hx0 4).trans rfl
     have z0 : w6.cell? ⟨gp + 1, 0, none⟩ = some (.int .u8 0) := (blk_cell hx1 0).trans rfl
     have z1 : w6.cell? ⟨gp + 1, 1, none⟩ = some (.int .u32 0) := (blk_cell hx1 1).trans rfl
     clear hx0 hx1 t3
     by_cases hn0 : n = 0
     ·have hx0 : x2 = [] := by
       rcases Nat.lt_or_ge l2.length 4110 with h | h
       ·have h1 := HLEN.out
        have h2 := HN.out
        exact List.length_eq_zero_iff.1 (by omega)
       ·rcases full_told (m := !M.cl) HB3.out.2 h with h3 | h3
        ·exact absurd hc h3
        ·exact absurd h3 hf
      subst hx0
      obtain ⟨rfl, rfl, hr⟩ := all_stop HALL2.out (by rw [List.append_nil]; exact hc) (by rw [List.append_nil]; exact hf)
      obtain ⟨Ao, co, rfl⟩ := Kd.R_slice HR.out
      have hnz : ((n : Int) == 0) = true := by subst hn0; rfl
      have HHR := Aside0.mk hr
      clear hr hc hf
      have hn0' := Aside0.mk hn0
      clear hn0
      go_wp2_with fail
      go_ret
      exact FeedP.mk_ (by rw [HF.out.run, runM_stop N HCA.out, List.append_nil]) HT.out HK.out HR.out (fun _ => ⟨by rw [HHR.out, List.append_nil], rfl⟩)
     ·have hnz : ((n : Int) == 0) = false := beq_eq_false_iff_ne.mpr (by omega)
      have HN0 := Aside0.mk hn0
      clear hn0 hc hf
      go_wp2_with fail
      go_roundg (2 * (l2.length + x2.length) + x2.length)
      case measure => have := HMU.out; have := HLEN.out; have := HN0.out; omega
      case rel => exact ⟨N, l2, false, I2, x2, ps1, ns1, A3, c3, rfl, rfl, HT.out, HK.out, HA.out, HR.out, HOV.out, HXB.out, HC3.out, HF.out.cl, fun _ => rfl, fun _ => HALL2.out, HF.out.run, HF.out.cnt, HF.out.key, HF.out.len⟩
   ·have HNE : Aside0 (l2.length ≠ 0) := ⟨fun e => hc (by rw [List.length_eq_zero_iff.1 e]; exact (none_nil _).1)⟩
    have HCL : Aside0 ((!(N.wl l2 false).cl) = (!M.cl)) := ⟨congrArg (fun b => !b) HF.out.cl⟩
    obtain ⟨cq, hcq⟩ : ∃ cq, cq = code1 l2 (!M.cl) := ⟨_, rfl⟩
    obtain ⟨hps, hcd⟩ := all_bad HALL2.out (by rw [code_app hc]; exact hc)
    rw [code_app hc, ← hcq] at hcd
    rw [← hcq] at hc
    subst hps
    subst hcd
    have hNB := Next_bad HT.out.sp HT.out.bel HT.out.sbase (HCO.out.below HT.out.bel) HB3.out.2 (by rw [show code1 (N.wl l2 false).l (!(N.wl l2 false).cl) = code1 l2 (!M.cl) by rw [HCL.out]; rfl, ← hcq]; exact hc)
    rw [show code1 (N.wl l2 false).l (!(N.wl l2 false).cl) = cd by rw [hcq, HCL.out]; rfl] at hNB
    have HNB := Aside0.mk hNB
    have HCD := Aside0.mk hc
    clear hNB hcq hc
    go_wp2_with fail
    refine HNB.out.mono ?_
    rintro e w5 hp
    obtain ⟨rfl, hT5, hK5⟩ := HT.out.nextb hp
    obtain ⟨I3, hI3⟩ : ∃ I3 : TI, I3 = { I2 with vs := .slice none 0 0 } := ⟨_, rfl⟩
    replace hT5 : Tn w0 w5 t (N.wl [] true) I3 := hI3 ▸ hT5
    replace hK5 : Kf w3 w5 (TF (N.wl l2 false) I2 t) (TF (N.wl [] true) I3 t) := hI3 ▸ hK5
    have hkf_ := hK5
    have HT' := Aside0.mk (hT5)
    have HK' := Aside0.mk (HK.out.trans hkf_)
    have HR' := Aside0.mk (row_kf HR.out hkf_)
    clear hkf_ HT HK HR hT5 hK5 hp HNB
    have HT := HT'
    have HK := HK'
    have HR := HR'
    clear HT' HK' HR'
    go_upto_region 8 with fail
    have hb6 : Below w5.heap.size w5 ((w5.alloc (.cells #[.bool false, .int .u8 0, .bool false, .int .u32 0, .slice none 0 0] 52)).alloc (.cells #[.int .u8 3, .int .u32 cd] 58)) := below_alloc (below_alloc (Below.refl _ _) _) _
    have hx0 : ((w5.alloc (.cells #[.bool false, .int .u8 0, .bool false, .int .u32 0, .slice none 0 0] 52)).alloc (.cells #[.int .u8 3, .int .u32 cd] 58)).heap[w5.heap.size]? = some (.cells #[.bool false, .int .u8 0, .bool false, .int .u32 0, .slice none 0 0] 52 (0, 0)) := blk_alloc (last_at _ _ _ rfl) _
    have hx1 : ((w5.alloc (.cells #[.bool false, .int .u8 0, .bool false, .int .u32 0, .slice none 0 0] 52)).alloc (.cells #[.int .u8 3, .int .u32 cd] 58)).heap[w5.heap.size + 1]? = some (.cells #[.int .u8 3, .int .u32 cd] 58 (0, 0)) := last_at _ _ _ (by simp)
    generalize ((w5.alloc (.cells #[.bool false, .int .u8 0, .bool false, .int .u32 0, .slice none 0 0] 52)).alloc (.cells #[.int .u8 3, .int .u32 cd] 58)) = w6 at hb6 hx0 hx1 ⊢
    have hkf_ := (Kf.refl w5 (TF (N.wl [] true) I3 t)).below hb6
    have HT' := Aside0.mk (HT.out.below hb6)
    have HK' := Aside0.mk (HK.out.trans hkf_)
    have HR' := Aside0.mk (row_kf HR.out hkf_)
    clear hkf_ HT HK HR
    have HT := HT'
    have HK := HK'
    have HR := HR'
    clear HT' HK' HR'
    generalize w5.heap.size = gp at hx0 hx1 ⊢
    clear hb6
    have y0 : w6.cell? ⟨gp, 0, none⟩ = some (.bool false) := (blk_cell hx0 0).trans rfl
    have y1 : w6.cell? ⟨gp, 1, none⟩ = some (.int .u8 0) := (blk_cell hx0 1).trans rfl
    have y2 : w6.cell? ⟨gp, 2, none⟩ = some (.bool false) := (blk_cell hx0 2).trans rfl
    have y3 : w6.cell? ⟨gp, 3, none⟩ = some (.int .u32 0) := (blk_cell hx0 3).trans rfl
    have y4 : w6.cell? ⟨gp, 4, none⟩ = some (.slice none 0 0) := (blk_cell hx0 4).trans rfl
    have z0 : w6.cell? ⟨gp + 1, 0, none⟩ = some (.int .u8 3) := (blk_cell hx1 0).trans rfl
    have z1 : w6.cell? ⟨gp + 1, 1, none⟩ = some (.int .u32 cd) := (blk_cell hx1 1).trans rfl
    clear hx0 hx1 t3
    go_wp2_with fail
    refine (twrong HT.out (code := cd) (by show N.key < _; have h1 := HCNT.out; have h2 := HBD.out; omega) (by show N.out.length ≤ _; have h1 := HCNT.out; have h2 := HBD.out; omega)).mono ?_
    rintro e w7 ⟨rfl, vo7, hT7, hK7⟩
    rw [bad_wl] at hT7 hK7
    obtain ⟨I4, hI4⟩ : ∃ I4 : TI, I4 = { I3 with vo := vo7 } := ⟨_, rfl⟩
    rw [← hI4] at hT7 hK7
    have hkf_ := hK7
    have HT' := Aside0.mk (hT7)
    have HK' := Aside0.mk (HK.out.trans hkf_)
    have HR' := Aside0.mk (row_kf HR.out hkf_)
    clear hkf_ HT HK HR hT7 hK7 hI4 y0 y1 y2 y3 y4 z0 z1
    have HT := HT'
    have HK := HK'
    have HR := HR'
    clear HT' HK' HR'
    have HGL := Aside0.mk (show (ns1.length + 1) * 40 ≤ 140737488355328 by have h1 := HCNT.out; have h2 := HBD.out; simp at h1; omega)
    go_wp2_with (at_builtin; refine Kd.R_append k35 (w0 := w0) w0.heap.size rfl (.tmp 46) (.tmp 51) 31 35 (.agg #[.int .u8 0, .bool false, .slice none 0 0, .int .u32 0]) 40 rfl Tryd.underlying31 HI.out rfl (by decide) (by decide) u5 ns1 (bNote cd) [.int .u8 5, .bool false, .slice none 0 0, .int .u32 cd] (fun k => ¬ TF ((badM N cd).wl [] true) I4 t k ∧ (TF M I t k ∨ W.heap.size ≤ k)) (fun k => (¬ TF ((badM N cd).wl [] true) I4 t k ∧ (TF M I t k ∨ W.heap.size ≤ k)) ∧ some k ≠ u5.ownBlock) rfl rfl ?aP (fun _ h => h) ?aF HR.out HT.out.bel HT.out.bel.size HGL.out ?_; (case aP => exact k35_mkM _ _ _ (bNote cd) (Kd.R_nil _ _ _ _ _)); (case aF => exact fun k hk => ⟨fun e => by have := HT.out.lt e; omega, .inr (by have := HK.out.size; omega)⟩); intro v1 w8 hR1 hB1 hg1 hat1; have HR8 := Aside0.mk hR1; have HG8 := Aside0.mk (And.intro hB1 (And.intro hg1 hat1)); clear hR1 hB1 hg1 hat1)
    have hmv : ∀ k, k < w7.heap.size → u5.ownBlock ≠ some k → w8.heap[k]? = w7.heap[k]? := fun k hlt hn => HG8.out.2.1.block k hlt (fun e => hn e.symm)
    have HT8 := Aside0.mk (HT.out.move HG8.out.1 (fun k hk => hmv k (HT.out.lt hk) (fun e => (HR.out.1 k e).1 hk)))
    have HK8 : Aside0 (Kf W w8 (TF M I t) (TF ((badM N cd).wl [] true) (I4) t)) := ⟨⟨Nat.le_trans HK.out.size HG8.out.2.1.size, fun k hlt hn => (hmv k (Nat.lt_of_lt_of_le hlt HK.out.size) (fun e => by have := HOV.out k e; omega)).trans (HK.out.keep k hlt hn), HK.out.new⟩⟩
    have HOV8 : Aside0 (∀ k, v1.ownBlock = some k → W.heap.size ≤ k) := ⟨fun k e => by
     rcases HG8.out.2.2 with e1 | ⟨j, e1, hj⟩
     ·exact HOV.out k (e1 ▸ e)
     ·rw [e1] at e
      injection e with e
      have := HK.out.size
      omega⟩
    clear hmv HT HK HR HG8
    go_roundg (2 * (([] : List Int).length + x2.length) + x2.length)
    case measure => have := HMU.out; have := HLEN.out; have h2 : l2.length ≠ 0 := HNE.out; simp; omega
    case rel => exact ⟨badM N cd, [], true, I4, x2, [], ns1 ++ [bNote cd], A3, c3, rfl, rfl, HT8.out, HK8.out, HA.out, HR8.out, HOV8.out, HXB.out, HC3.out, (bad_grow N cd).cl.trans HF.out.cl, fun h => absurd h (bad_cause N cd), fun h => absurd h (bad_cause N cd), by rw [HF.out.run, runM_bad N cd HCA.out HCD.out, runM_end _ _ _ (bad_cause N cd), List.append_nil], fun h => absurd h (bad_cause N cd), fun h => absurd h (bad_cause N cd), fun h => absurd h (bad_cause N cd)⟩
  ·have hcb : ((N.wl l1 s1).cause != 0) = true := by simpa [TM.wl] using hca
   obtain ⟨Ao, co, rfl⟩ := Kd.R_slice HR.out
   go_wp2_with fail
   refine (closing_Door_Through.calls I1.dg (N.wl l1 s1).sent (N.wl l1 s1).got (N.wl l1 s1).code (N.wl l1 s1).cause (N.wl l1 s1).ecode ((N.wl l1 s1).cause != 0) (N.wl l1 s1).sent (N.wl l1 s1).got (N.wl l1 s1).code (N.wl l1 s1).cause (N.wl l1 s1).ecode w0 _ HT.out.dr HT.out.bel rfl).mono ?_
   rintro e w2 ⟨rfl, hI2, hB2, hK2⟩
   obtain ⟨hT2, hK12⟩ := HT.out.setDoor hI2 hB2 hK2
   have hkf_ := (show Kf wr w2 (TF (N.wl l1 s1) I1 t) (TF (N.wl l1 s1) I1 t) from hK12)
   have HT' := Aside0.mk ((show Tn w0 w2 t (N.wl l1 s1) I1 from hT2))
   have HK' := Aside0.mk (HK.out.trans hkf_)
   have HR' := Aside0.mk (row_kf HR.out hkf_)
   clear hkf_ HT HK HR hT2 hK12 hI2 hB2 hK2
   have HT := HT'
   have HK := HK'
   have HR := HR'
   clear HT' HK' HR'
   simp only [hcb]
   clear t5
   go_wp2_with fail
   go_ret
   exact FeedP.mk_ (by rw [HF.out.run, runM_end N ps1 cd hca, List.append_nil]) HT.out HK.out HR.out (fun h => absurd h hca)
end Go.Proofs.YtpmeapdcjmaeiaaDoor
namespace Go.Proofs.YtpmeapdcjmaeiaaDoor
open Go.RowKit Go.Proofs.YtpmeapdcjmaeiaaDoorW.PrintWords Go.Proofs.YtpmeapdcjmaeiaaDoorW.PrintLast Go.Proofs.YtpmeapdcjmaeiaaDoorW.PrintMore Go.Proofs.YtpmeapdcjmaeiaaDoor.PAll Go.Proofs.YtpmeapdcjmaeiaaDoor.U
theorem eqlNil_sclone8 (w : World) (A : Option Addr) (n c : Nat) : (binOp .eql 26 (.slice A n c) (.slice none 0 0)).run Tryd.prog w = .ok (.bool A.isNone) w := by
 have h : ∀ d : Nat, (Op.equalIn (d + 1) 26 (.slice A n c) (.slice none 0 0)).run Tryd.prog w = .ok A.isNone w := fun d => by
  cases A <;> simp [Op.equalIn, run_underlying Tryd.underlying26]
 simp only [binOp]
 simp [Op.equal, Op.maxDepth, h 9999]
theorem info_sclone8 : (Tryd.prog.info? 5).map (fun i => (i.zero, i.size, i.bytes)) = some (some (.int .u8 0), 1, 1) := by kernel_rfl
set_option maxHeartbeats 4000000 in
theorem sclone8 (A0 : Option Addr) (c0 : Nat) (l0 : List Int) (w : World) (hr0 : Kd.C (Kd.int .u8) w A0 l0.length l0) (hc0 : l0.length ≤ c0) (hlen : l0.length ≤ 1000000000) :
  Calls Tryd.prog 18 #[.slice A0 l0.length c0] w fun e w' => ∃ v0_ : Value, e = .returned (v0_) ∧ Kd.R (Kd.int .u8) 5 w' w.heap.size (fun _ => True) v0_ l0 ∧ Below w.heap.size w w' := by
 have huS := Tryd.underlying26
 have huB := Tryd.underlying5
 have HR := Aside0.mk hr0
 rcases A0 with _ | ad
 ·have h0 : l0 = [] := by
   cases l0 with
   | nil => rfl
   | cons a t => obtain ⟨_, h, _⟩ := HR.out.2.2 (by simp); cases h
  subst h0
  clear hr0 HR
  have hnil : ∀ W, (binOp .eql 26 (.slice none 0 c0) (.slice none 0 0)).run Tryd.prog W = .ok (.bool true) W := fun W => eqlNil_sclone8 W none 0 c0
  go_enter Tryd.func18, Tryd.ntmps18
  go_wp2_with fail
  go_ret
  exact ⟨_, rfl, Kd.R_nil _ _ _ _ _, Below.refl _ _⟩
 ·have HL := Aside0.mk hlen
  clear hr0 hlen
  have hnil : ∀ W, (binOp .eql 26 (.slice (some ad) l0.length c0) (.slice none 0 0)).run Tryd.prog W = .ok (.bool false) W := fun W => eqlNil_sclone8 W (some ad) l0.length c0
  go_enter Tryd.func18, Tryd.ntmps18
  have HO : Aside0 ((w.alloc (.cells #[] 5)).ownsRow w.heap.size 5 1 (.slice (some ⟨w.heap.size, 0, none⟩) 0 0) 0 []) := ⟨⟨rfl, .inr ⟨w.heap.size, 0, #[], rfl, Nat.le_refl _, blk_new w _, Nat.le_refl _, by decide, rfl, rfl⟩⟩⟩
  have HS : Aside0 (ReadsInt (w.alloc (.cells #[] 5)) .u8 (some ad) l0.length l0) := ⟨Kd.reads_of_C (Kd.C_alloc HR.out _)⟩
  go_wp2_with (at_builtin; refine print_append_row (w0 := w) w.heap.size rfl (.tmp 5) (.tmp 6) 26 5 .u8 1 rfl Tryd.underlying26 info_sclone8 (by decide) (.slice (some ⟨w.heap.size, 0, none⟩) 0 0) [] l0 (some ad) l0.length c0 rfl rfl HO.out HS.out ((Below.refl _ _).alloc (Nat.le_refl _) _) (by simp) (by have := HL.out; simp; omega) ?_; intro v1 w1 ho hb hg hat)
  go_ret
  exact ⟨_, rfl, Kd.R_of_own (show w1.ownsRow w.heap.size 5 1 v1 l0.length (nums .u8 l0) by simpa using ho) (fun _ _ => trivial), hb⟩
theorem eqlNil_sclone32 (w : World) (A : Option Addr) (n c : Nat) : (binOp .eql 40 (.slice A n c) (.slice none 0 0)).run Tryd.prog w = .ok (.bool A.isNone) w := by
 have h : ∀ d : Nat, (Op.equalIn (d + 1) 40 (.slice A n c) (.slice none 0 0)).run Tryd.prog w = .ok A.isNone w := fun d => by
  cases A <;> simp [Op.equalIn, run_underlying Tryd.underlying40]
 simp only [binOp]
 simp [Op.equal, Op.maxDepth, h 9999]
theorem info_sclone32 : (Tryd.prog.info? 33).map (fun i => (i.zero, i.size, i.bytes)) = some (some (.int .u32 0), 1, 4) := by kernel_rfl
set_option maxHeartbeats 4000000 in
theorem sclone32 (A0 : Option Addr) (c0 : Nat) (l0 : List Int) (w : World) (hr0 : Kd.C (Kd.int .u32) w A0 l0.length l0) (hc0 : l0.length ≤ c0) (hlen : l0.length ≤ 1000000000) :
  Calls Tryd.prog 11 #[.slice A0 l0.length c0] w fun e w' => ∃ v0_ : Value, e = .returned (v0_) ∧ Kd.R (Kd.int .u32) 33 w' w.heap.size (fun _ => True) v0_ l0 ∧ Below w.heap.size w w' := by
 have huS := Tryd.underlying40
 have huB := Tryd.underlying33
 have HR := Aside0.mk hr0
 rcases A0 with _ | ad
 ·have h0 : l0 = [] := by
   cases l0 with
   | nil => rfl
   | cons a t => obtain ⟨_, h, _⟩ := HR.out.2.2 (by simp); cases h
  subst h0
  clear hr0 HR
  have hnil : ∀ W, (binOp .eql 40 (.slice none 0 c0) (.slice none 0 0)).run Tryd.prog W = .ok (.bool true) W := fun W => eqlNil_sclone32 W none 0 c0
  go_enter Tryd.func11, Tryd.ntmps11
  go_wp2_with fail
  go_ret
  exact ⟨_, rfl, Kd.R_nil _ _ _ _ _, Below.refl _ _⟩
 ·have HL := Aside0.mk hlen
  clear hr0 hlen
  have hnil : ∀ W, (binOp .eql 40 (.slice (some ad) l0.length c0) (.slice none 0 0)).run Tryd.prog W = .ok (.bool false) W := fun W => eqlNil_sclone32 W (some ad) l0.length c0
  go_enter Tryd.func11, Tryd.ntmps11
  have HO : Aside0 ((w.alloc (.cells #[] 33)).ownsRow w.heap.size 33 1 (.slice (some ⟨w.heap.size, 0, none⟩) 0 0) 0 []) := ⟨⟨rfl, .inr ⟨w.heap.size, 0, #[], rfl, Nat.le_refl _, blk_new w _, Nat.le_refl _, by decide, rfl, rfl⟩⟩⟩
  have HS : Aside0 (ReadsInt (w.alloc (.cells #[] 33)) .u32 (some ad) l0.length l0) := ⟨Kd.reads_of_C (Kd.C_alloc HR.out _)⟩
  go_wp2_with (at_builtin; refine print_append_row (w0 := w) w.heap.size rfl (.tmp 5) (.tmp 6) 40 33 .u32 4 rfl Tryd.underlying40 info_sclone32 (by decide) (.slice (some ⟨w.heap.size, 0, none⟩) 0 0) [] l0 (some ad) l0.length c0 rfl rfl HO.out HS.out ((Below.refl _ _).alloc (Nat.le_refl _) _) (by simp) (by have := HL.out; simp; omega) ?_; intro v1 w1 ho hb hg hat)
  go_ret
  exact ⟨_, rfl, Kd.R_of_own (show w1.ownsRow w.heap.size 33 1 v1 l0.length (nums .u32 l0) by simpa using ho) (fun _ _ => trivial), hb⟩
def newT (cl : Bool) (keys : List Int) : TM := ⟨cl, keys, 0, [], false, [], false, false, false, false, false, 0, 0, 0, [], 0, false⟩
theorem newT_ok {cl : Bool} {keys : List Int} (hk : ∀ x ∈ keys, 0 ≤ x ∧ x ≤ 4294967295) (hl : keys.length ≤ 1000) : (newT cl keys).Ok := ⟨fun _ => rfl, Nat.zero_le _, fun x hx => (by cases hx), Nat.zero_le _, rfl, Int.le_refl _, hk, hl, fun x hx => (by cases hx), ⟨Int.le_refl _, by show (0 : Int) ≤ 16; decide⟩⟩
set_option maxHeartbeats 8000000 in
set_option maxRecDepth 100000 in
theorem tnew {w0 W : World} (hB : Below w0.heap.size w0 W) (cl : Bool) {keys : List Int} {A : Option Addr} {c : Nat} (hA : Kd.C (Kd.int .u32) W A keys.length keys) (hc : keys.length ≤ c) (hk : ∀ x ∈ keys, 0 ≤ x ∧ x ≤ 4294967295) (hl : keys.length ≤ 1000) : Calls Tryd.prog 5 #[.bool cl, .slice A keys.length c] W fun e w' => ∃ t I, e = .returned (.pointer (some ⟨t, 0, none⟩)) ∧ Tn w0 w' t (newT cl keys) I ∧ Below W.heap.size W w' ∧ ∀ k, TF (newT cl keys) I t k → W.heap.size ≤ k := by
 have hu76 := Tryd.underlying49
 have HK0 := Aside0.mk (And.intro hk hl)
 have HA := Aside0.mk hA
 have HC := Aside0.mk hc
 have HB := Aside0.mk hB
 clear hk hl hA hc hB
 go_enter Tryd.func5, Tryd.ntmps5
 go_wp2_with fail
 refine (sclone32 A c keys _ HA.out HC.out (by have := HK0.out.2; omega)).mono ?_
 rintro e w1 ⟨vk, rfl, hrk, hb1⟩
 obtain ⟨Ak, ck, rfl⟩ := Kd.R_slice hrk
 have HRB := Aside0.mk (Kd.R_base hrk)
 have HR1 := Aside0.mk (Kd.R_lower hrk HB.out.size)
 have HB1 := Aside0.mk (below_step HB.out hb1)
 have HW1 := Aside0.mk hb1
 clear hrk hb1
 go_wp2_with fail
 refine (split_new (!cl) w0 _ HB1.out).mono ?_
 rintro e w2 ⟨rfl, hs2, hb2⟩
 have HR2 := Aside0.mk (Kd.R_below HR1.out hb2)
 have HB2 := Aside0.mk (below_step HB1.out hb2)
 have HW2 := Aside0.mk (below_step HW1.out hb2)
 have HS2 := Aside0.mk hs2
 have HL2 := Aside0.mk (And.intro (show w0.heap.size ≤ w1.heap.size from HB1.out.size) (show W.heap.size ≤ w1.heap.size from HW1.out.size))
 generalize w1.heap.size = sg at HS2 HL2 ⊢
 clear hs2 hb2 HR1 HB1 HW1
 go_wp2_with fail
 refine (gnew_any _).mono ?_
 rintro e w3 ⟨rfl, hG3, hb3⟩
 have HR3 := Aside0.mk (Kd.R_below HR2.out hb3)
 have HB3 := Aside0.mk (below_step HB2.out hb3)
 have HW3 := Aside0.mk (below_step HW2.out hb3)
 have HS3 := Aside0.mk (HS2.out.below hb3)
 have HG3 := Aside0.mk hG3
 have HL3 := Aside0.mk (And.intro (show w0.heap.size ≤ w2.heap.size from HB2.out.size) (show W.heap.size ≤ w2.heap.size from HW2.out.size))
 generalize w2.heap.size = gg at HG3 HL3 ⊢
 clear hG3 hb3 HR2 HB2 HW2 HS2
 go_wp2_with fail
 refine (closing_New.calls false false 0 0 0 w3 _ (Below.refl _ _) rfl).mono ?_
 rintro e w4 ⟨dg, rfl, hD4, _, hb4⟩
 have hB4 := below_step HB3.out hb4
 have HLD := Aside0.mk (show W.heap.size ≤ dg from Nat.le_trans HW3.out.size hD4.2)
 replace hD4 : IsS78 w0 w4 dg false false 0 0 0 := ⟨hD4.1, Nat.le_trans HB3.out.size hD4.2⟩
 have HR4 := Aside0.mk (Kd.R_below HR3.out hb4)
 have HW4 := Aside0.mk (below_step HW3.out hb4)
 have HS4 := Aside0.mk (HS3.out.below hb4)
 have HG4 := Aside0.mk (blk_below HG3.out hb4)
 have HD4 := Aside0.mk hD4
 have HB4 := Aside0.mk hB4
 clear hD4 hB4 hb4 HR3 HW3 HS3 HG3 HB3
 go_wp2_with fail
 have hba := below_alloc (Below.refl w4.heap.size w4) (.cells #[.bool cl, .slice Ak keys.length ck, .int .i64 0, .pointer (some ⟨sg, 0, none⟩), .pointer (some ⟨gg, 0, none⟩), .pointer (some ⟨dg, 0, none⟩), .slice none 0 0, .int .i64 0, .bool false] 49)
 go_ret
 refine ⟨w4.heap.size, ⟨.slice Ak keys.length ck, sg, gg, dg, .slice none 0 0, .slice none 0 0, .pointer none, .slice none 0 0, 0, []⟩, rfl, ⟨below_step HB4.out hba, last_at _ _ _ rfl, HB4.out.size, Kd.R_below HR4.out hba, HS4.out.below hba, HL2.out.1, ⟨below_step HB4.out hba, HL3.out.1, .inl ⟨rfl, ⟨⟨blk_below HG4.out hba, Kd.R_nil _ _ _ _ _, below_step HB4.out hba, HL3.out.1, rfl, fun k e => by cases e⟩, fun e => by cases e⟩, fun e => by cases e⟩⟩, HD4.out.below hba, Kd.R_nil _ _ _ _ _, fun k e => (by cases e), fun _ k e => (by cases e), newT_ok HK0.out.1 HK0.out.2⟩, below_step HW4.out hba, fun k hk => ?_⟩
 rcases hk with hk | hk | hk | (hk | ⟨_, hk | hk⟩) | hk | hk | hk
 ·rw [hk]; exact HW4.out.size
 ·rw [hk]; exact HL2.out.2
 ·rw [hk]; exact HLD.out
 ·rw [hk]; exact HL3.out.2
 ·cases hk
 ·cases hk
 ·cases hk
 ·cases hk
 ·exact HRB.out k hk
end Go.Proofs.YtpmeapdcjmaeiaaDoor
namespace Go.Proofs.YtpmeapdcjmaeiaaDoor
open Go.RowKit Go.Proofs.YtpmeapdcjmaeiaaDoorW.PrintWords Go.Proofs.YtpmeapdcjmaeiaaDoorW.PrintLast Go.Proofs.YtpmeapdcjmaeiaaDoorW.PrintMore Go.Proofs.YtpmeapdcjmaeiaaDoor.PAll Go.Proofs.YtpmeapdcjmaeiaaDoor.U
theorem cut_take (A : Option Addr) (c k : Nat) (lx : List Int) (hk : k ≤ lx.length) (hc : lx.length ≤ c) : (∀ W : World, (Instr.slice 26 (.slice A lx.length c) none (some (.int .i64 (k : Int))) none).run Tryd.prog W = .ok (.slice A (lx.take k).length c) W) := by
 have hd : (Tryd.prog.info? 5).map (fun i => i.size) = some 1 := by kernel_rfl
 obtain ⟨i_, hi_⟩ : ∃ i, Tryd.prog.info? 5 = some i := by
  have h : (Tryd.prog.info? 5).isSome = true := by kernel_rfl
  exact Option.isSome_iff_exists.1 h
 have hsz_ : i_.size = 1 := by
  rw [hi_] at hd
  exact Option.some.inj hd
 have h := (print_take_int (P := Tryd.prog) (k := .u8) 26 5 Tryd.underlying26 hi_ hsz_ A c lx (k : Int) (by omega) (by omega) hc).1
 rw [Int.toNat_natCast] at h
 exact h
theorem row_kf0 {α : Type} {kd : Kd α} {e base : Nat} {W W' : World} {F F' : Nat → Prop} {v : Value} {xs : List α} (h : kd.R e W base (fun k => ¬ F k) v xs) (hK : Kf W W' F F') : kd.R e W' base (fun k => ¬ F' k) v xs :=
 Kd.R_mono (Kd.R_step (Kd.R_bound h) (fun k hk hlt => hK.keep k hlt hk.1)) (fun k hk hf => (hK.new k hf).elim hk.1 (fun e => by have := hk.2.2.1; omega))
theorem Tn.newOut {w0 W : World} {t : Nat} {M : TM} {I : TI} (h : Tn w0 W t M I) {v1 : Value} {l1 : List Int} (hr : Kd.R (Kd.int .u8) 5 W w0.heap.size (fun _ => True) v1 l1) (hf : ∀ k, v1.ownBlock = some k → ¬ TF M I t k) (hby : ∀ x ∈ l1, 0 ≤ x ∧ x ≤ 255) : Tn w0 (W.setCell ⟨t, 6, none⟩ v1) t { M with out := l1 } { I with vo := v1 } ∧ (∀ W0, Kf W0 W (TF M I t) (TF M I t) → (∀ k, v1.ownBlock = some k → W0.heap.size ≤ k) → Kf W0 (W.setCell ⟨t, 6, none⟩ v1) (TF M I t) (TF { M with out := l1 } { I with vo := v1 } t)) := by
 refine ⟨h.setOut hr (fun k e => ⟨fun e2 => hf k e (.inr (.inr (.inr (.inr (.inl e2))))), fun ho e2 => hf k e (.inr (.inr (.inr (.inl (.inr ⟨ho, .inl e2⟩)))))⟩) hby, fun W0 hK hn => ⟨Nat.le_trans hK.size (by simp [World.setCell]), fun k hlt hnk => (Below.heap_setCell W ⟨t, 6, none⟩ v1 k (fun e => hnk (.inl e))).trans (hK.keep k hlt hnk), fun k hk => ?_⟩⟩
 rcases hk with hk | hk | hk | hk | hk | hk | hk
 ·exact hK.new k (.inl hk)
 ·exact hK.new k (.inr (.inl hk))
 ·exact hK.new k (.inr (.inr (.inl hk)))
 ·exact hK.new k (.inr (.inr (.inr (.inl hk))))
 ·exact hK.new k (.inr (.inr (.inr (.inr (.inl hk)))))
 ·exact .inr (hn k hk)
 ·exact hK.new k (.inr (.inr (.inr (.inr (.inr (.inr hk))))))
set_option maxHeartbeats 8000000 in
set_option maxRecDepth 100000 in
theorem tmay_ok {w0 W : World} {t : Nat} {M : TM} {I : TI} (h : Tn w0 W t M I) (hs : M.sent = false) (hca : M.cause = 0) : Calls Tryd.prog 15 #[.pointer (some ⟨t, 0, none⟩)] W (fun e w' => e = .returned (.int .i64 0) ∧ Tn w0 w' t M I ∧ Kf W w' (TF M I t) (TF M I t)) := by
 have hcb : (M.cause != 0) = false := by simp [hca]
 have H1 := Aside0.mk h
 have t5 : W.cell? ⟨t, 5, none⟩ = some (.pointer (some ⟨I.dg, 0, none⟩)) := (blk_cell h.blk 5).trans rfl
 clear h
 go_enter Tryd.func15, Tryd.ntmps15
 go_wp2_with fail
 refine (closing_Door_Sent.calls I.dg M.sent M.got M.code M.cause M.ecode M.sent M.sent M.got M.code M.cause M.ecode w0 _ H1.out.dr H1.out.bel rfl).mono ?_
 rintro e w2 ⟨rfl, hI2, hB2, hK2⟩
 obtain ⟨hT2, hK12⟩ := H1.out.setDoor hI2 hB2 hK2
 have HT2 : Aside0 (Tn w0 w2 t M I) := ⟨hT2⟩
 have HK12 : Aside0 (Kf W w2 (TF M I t) (TF M I t)) := ⟨hK12⟩
 clear hI2 hB2 hK2 hT2 hK12
 simp only [hs]
 have t5' : w2.cell? ⟨t, 5, none⟩ = some (.pointer (some ⟨I.dg, 0, none⟩)) := (blk_cell HT2.out.blk 5).trans rfl
 clear H1 t5
 have H1 := HT2
 go_wp2_with fail
 refine (closing_Door_Through.calls I.dg M.sent M.got M.code M.cause M.ecode (M.cause != 0) M.sent M.got M.code M.cause M.ecode w0 _ H1.out.dr H1.out.bel rfl).mono ?_
 rintro e w3 ⟨rfl, hI2, hB2, hK2⟩
 obtain ⟨hT3, hK23⟩ := H1.out.setDoor hI2 hB2 hK2
 have HT3 : Aside0 (Tn w0 w3 t M I) := ⟨hT3⟩
 have HK23 : Aside0 (Kf w2 w3 (TF M I t) (TF M I t)) := ⟨hK23⟩
 clear hI2 hB2 hK2 hT3 hK23
 simp only [hcb]
 go_wp2_with fail
 go_ret
 exact ⟨rfl, HT3.out, HK12.out.trans HK23.out⟩
theorem may9 {M : TM} {x : List Int} (hl : x.length ≤ 125) : mayB true 9 M.cl 0 x = true := (mayB_iff ..).2 ⟨.inr ⟨by decide, by decide⟩, .inr rfl, by omega, .inr ⟨rfl, by omega⟩⟩
set_option maxHeartbeats 8000000 in
set_option maxRecDepth 100000 in
theorem tping {w0 W : World} {t : Nat} {M : TM} {I : TI} (h : Tn w0 W t M I) {x : List Int} {A : Option Addr} {c : Nat} (hs : M.sent = false) (hca : M.cause = 0) (hA : Ap W (TF M I t) A x) (hc : x.length ≤ c) (hby : ∀ y ∈ x, Byte y) (hkb : M.key < 9223372036854775807) (hol : M.out.length ≤ 1000000) (hl : x.length ≤ 125 ∧ M.out.length + (putL true 9 M.cl 0 x).length ≤ 16384) : Calls Tryd.prog 6 #[.pointer (some ⟨t, 0, none⟩), .slice A x.length c] W (fun e w' => e = .returned (.int .i64 0) ∧ ∃ vo', Tn w0 w' t (putM M true 9 x) { I with vo := vo' } ∧ Kf W w' (TF M I t) (TF (putM M true 9 x) { I with vo := vo' } t)) := by
 have hu81 := Tryd.underlying52
 have HA := Aside0.mk hA
 have HC := Aside0.mk hc
 have HBY := Aside0.mk hby
 have HB := Aside0.mk (And.intro hkb hol)
 have HL := Aside0.mk hl
 have H0 := Aside0.mk h
 clear hA hc hby hkb hol hl h
 go_enter Tryd.func6, Tryd.ntmps6
 go_wp2_with fail
 refine (tmay_ok H0.out hs hca).mono ?_
 rintro e w1 ⟨rfl, hT1, hK1⟩
 have H1 := Aside0.mk hT1
 have K1 := Aside0.mk hK1
 have t0 : w1.cell? ⟨t, 0, none⟩ = some (.bool M.cl) := (blk_cell hT1.blk 0).trans rfl
 clear hT1 hK1 hs hca
 go_upto_region 5 with fail
 have hb2 : Below w1.heap.size w1 (w1.alloc (.cells #[.bool true, .int .u8 9, .bool M.cl, .int .u32 0, .slice A x.length c] 52)) := below_alloc (Below.refl _ _) _
 have hx2 : (w1.alloc (.cells #[.bool true, .int .u8 9, .bool M.cl, .int .u32 0, .slice A x.length c] 52)).heap[w1.heap.size]? = some (.cells #[.bool true, .int .u8 9, .bool M.cl, .int .u32 0, .slice A x.length c] 52 (0, 0)) := last_at _ _ _ rfl
 have H2 := Aside0.mk (H1.out.below hb2)
 have K2 := Aside0.mk (K1.out.below hb2)
 have HNP : Aside0 (¬ TF M I t w1.heap.size) := ⟨fun hh => Nat.lt_irrefl _ (H1.out.lt hh)⟩
 generalize w1.alloc (.cells #[.bool true, .int .u8 9, .bool M.cl, .int .u32 0, .slice A x.length c] 52) = w2 at hb2 hx2 H2 K2 ⊢
 generalize w1.heap.size = gp at hx2 HNP ⊢
 clear hb2 t0 H1 K1
 have HX2 := Aside0.mk hx2
 clear hx2
 obtain ⟨Ao, co, eo⟩ := Kd.R_slice H2.out.out
 obtain ⟨no, hno⟩ : ∃ n, n = M.out.length := ⟨_, rfl⟩
 rw [← hno] at eo
 have HNO := Aside0.mk hno
 have hb6 := H2.out.blk
 unfold tcells at hb6
 rw [eo] at hb6
 have c6 : w2.cell? ⟨t, 6, none⟩ = some (.slice Ao no co) := (blk_cell hb6 6).trans rfl
 have HEO := Aside0.mk eo
 clear eo hno hb6
 have d0 : w2.cell? ⟨gp, 0, none⟩ = some (.bool true) := (blk_cell HX2.out 0).trans rfl
 have d1 : w2.cell? ⟨gp, 1, none⟩ = some (.int .u8 9) := (blk_cell HX2.out 1).trans rfl
 have d2 : w2.cell? ⟨gp, 2, none⟩ = some (.bool M.cl) := (blk_cell HX2.out 2).trans rfl
 have d3 : w2.cell? ⟨gp, 3, none⟩ = some (.int .u32 0) := (blk_cell HX2.out 3).trans rfl
 have d4 : w2.cell? ⟨gp, 4, none⟩ = some (.slice A x.length c) := (blk_cell HX2.out 4).trans rfl
 have hl2 : ¬ (125 : Int) < (x.length : Int) := by have := HL.out.1; omega
 go_upto_region 7 with fail
 refine wp_region_noPanic ?_
 refine wp_region_held_drew (S := fun w' => Aside0 (Below w2.heap.size w2 w') ∧ w'.cell? ⟨t, 6, none⟩ = some (.slice Ao no co) ∧ w'.cell? ⟨gp, 0, none⟩ = some (.bool true) ∧ w'.cell? ⟨gp, 1, none⟩ = some (.int .u8 9) ∧ w'.cell? ⟨gp, 2, none⟩ = some (.bool M.cl) ∧ w'.cell? ⟨gp, 3, none⟩ = some (.int .u32 0) ∧ w'.cell? ⟨gp, 4, none⟩ = some (.slice A x.length c)) (by kernel_rfl) (⟨⟨below_drew (Below.refl w2.heap.size w2)⟩, ((below_drew (Below.refl w2.heap.size w2)).cell (World.block_lt_of_cell? _ _ c6)).trans c6, ((below_drew (Below.refl w2.heap.size w2)).cell (World.block_lt_of_cell? _ _ d0)).trans d0, ((below_drew (Below.refl w2.heap.size w2)).cell (World.block_lt_of_cell? _ _ d1)).trans d1, ((below_drew (Below.refl w2.heap.size w2)).cell (World.block_lt_of_cell? _ _ d2)).trans d2, ((below_drew (Below.refl w2.heap.size w2)).cell (World.block_lt_of_cell? _ _ d3)).trans d3, ((below_drew (Below.refl w2.heap.size w2)).cell (World.block_lt_of_cell? _ _ d4)).trans d4⟩) (fun hHeld => ?_)
 refine takeP 0 23 ?_
 refine takeP 1 24 ?_
 refine takeP 2 25 ?_
 refine takeP 3 26 ?_
 refine takeP 4 27 ?_
 refine takeP 5 28 ?_
 refine wpAnyH_ready (rs := [6]) (by kernel_rfl) (by simp) ?_
 refine AllReadyH.cons rfl (fun K hK => ?_) AllReadyH.nil
 go_simp
 go_at_call 16
 with_reducible refine (wsframe_Put.calls (x.length + 10) true 9 M.cl 0 A c x (putL true 9 M.cl 0 x) _ (Ap.C (HA.out.kf (K2.out.below hHeld.1.out))) HC.out (put_f true 9 M.cl 0 x (by decide) (may9 HL.out.1) _ (Nat.le_refl _))).mono ?_
 rintro e w' ⟨v7, rfl, hr7, hb7⟩
 obtain ⟨A7, c7, rfl⟩ := Kd.R_slice hr7
 obtain ⟨nr, hnr⟩ : ∃ n, n = (putL true 9 M.cl 0 x).length := ⟨_, rfl⟩
 have HNR := Aside0.mk hnr
 rw [← hnr]
 clear hnr hr7
 have hsum : wrap64 ((no : Int) + (nr : Int)) = ((no + nr : Nat) : Int) := by have h1 := HL.out.2; have h2 := HNO.out; have h3 := HNR.out; unfold wrap64; omega
 have hsum2 : IntKind.i64.wrap ((no : Int) + (nr : Int)) = ((no + nr : Nat) : Int) := by rw [i64_w]; exact hsum
 have hle_ : ¬ (16384 : Int) < ((no + nr : Nat) : Int) := by have h1 := HL.out.2; have h2 := HNO.out; have h3 := HNR.out; omega
 refine hK.out _ _ (⟨⟨below_step hHeld.1.out hb7⟩, ((below_step hHeld.1.out hb7).cell (World.block_lt_of_cell? _ _ c6)).trans c6, ((below_step hHeld.1.out hb7).cell (World.block_lt_of_cell? _ _ d0)).trans d0, ((below_step hHeld.1.out hb7).cell (World.block_lt_of_cell? _ _ d1)).trans d1, ((below_step hHeld.1.out hb7).cell (World.block_lt_of_cell? _ _ d2)).trans d2, ((below_step hHeld.1.out hb7).cell (World.block_lt_of_cell? _ _ d3)).trans d3, ((below_step hHeld.1.out hb7).cell (World.block_lt_of_cell? _ _ d4)).trans d4⟩) (fun hHeld => ?_)
 clear hK K
 try simp only [Act.put, z1_, z2_, z3_]
 refine takeP 7 30 ?_
 refine takeP 8 31 ?_
 refine takeP 9 32 ?_
 refine takeP 10 22 ?_
 refine wpAnyH_done (by kernel_rfl) ?_ _
 refine NoPanic.normal ?_
 have HB3 := Aside0.mk hHeld.1.out
 clear hHeld c6 d0 d1 d2 d3 d4
 have H3 := Aside0.mk (H2.out.below HB3.out)
 have K3 := Aside0.mk (K2.out.below HB3.out)
 have HX3 := Aside0.mk (blk_below HX2.out HB3.out)
 clear H2 K2 HX2
 have d0 : w'.cell? ⟨gp, 0, none⟩ = some (.bool true) := (blk_cell HX3.out 0).trans rfl
 have d1 : w'.cell? ⟨gp, 1, none⟩ = some (.int .u8 9) := (blk_cell HX3.out 1).trans rfl
 have d2 : w'.cell? ⟨gp, 2, none⟩ = some (.bool M.cl) := (blk_cell HX3.out 2).trans rfl
 have d3 : w'.cell? ⟨gp, 3, none⟩ = some (.int .u32 0) := (blk_cell HX3.out 3).trans rfl
 have d4 : w'.cell? ⟨gp, 4, none⟩ = some (.slice A x.length c) := (blk_cell HX3.out 4).trans rfl
 go_wp2_with fail
 refine (tput (fin := true) (op := 9) H3.out (HA.out.kf K3.out) HC.out HBY.out (by decide) (may8 ⟨by decide, by decide⟩ HL.out.1) (.inr rfl) HB.out.1 HB.out.2).mono ?_
 rintro e w4 ⟨rfl, vo4, hT4, hK4⟩
 have H4 := Aside0.mk hT4
 have K4 := Aside0.mk (K3.out.trans hK4)
 clear hT4 hK4 d0 d1 d2 d3 d4
 go_wp2_with fail
 go_ret
 exact ⟨rfl, _, H4.out, K4.out⟩
def outM (M : TM) (most : Int) : List Int × Bool × TM :=
 if M.ended = true then ([], false, M)
 else if M.out.drop (min (max most 1).toNat M.out.length) ≠ [] then (M.out.take (min (max most 1).toNat M.out.length), false, { M with out := M.out.drop (min (max most 1).toNat M.out.length) })
 else (M.out.take (min (max most 1).toNat M.out.length), M.cause != 0, { M with out := M.out.drop (min (max most 1).toNat M.out.length), pongs := 0, ended := M.cause != 0 })
def OutP (w0 W : World) (t : Nat) (M : TM) (I : TI) (most : Int) (e : Ending) (w' : World) : Prop := ∃ Ab cb vo', e = .returned (.tuple #[.slice Ab (outM M most).1.length cb, .bool (outM M most).2.1]) ∧ Tn w0 w' t (outM M most).2.2 { I with vo := vo' } ∧ Kf W w' (TF M I t) (TF (outM M most).2.2 { I with vo := vo' } t) ∧ Kd.R (Kd.int .u8) 5 w' w0.heap.size (fun k => ¬ TF (outM M most).2.2 { I with vo := vo' } t k) (.slice Ab (outM M most).1.length cb) (outM M most).1 ∧ ∀ k, (Value.slice Ab (outM M most).1.length cb).ownBlock = some k → W.heap.size ≤ k
set_option maxHeartbeats 8000000 in
set_option maxRecDepth 100000 in
theorem tout {w0 W : World} {t : Nat} {M : TM} {I : TI} (h : Tn w0 W t M I) {most : Int} (hm : -9223372036854775808 ≤ most ∧ most ≤ 9223372036854775807) (hol : M.out.length ≤ 1000000) : Calls Tryd.prog 7 #[.pointer (some ⟨t, 0, none⟩), .int .i64 most] W (OutP w0 W t M I most) := by
 have HM := Aside0.mk hm
 have HOL := Aside0.mk hol
 have H0 := Aside0.mk h
 have t8 : W.cell? ⟨t, 8, none⟩ = some (.bool M.ended) := (blk_cell h.blk 8).trans rfl
 clear hm hol h
 go_enter Tryd.func7, Tryd.ntmps7
 by_cases he : M.ended = true
 ·rw [he] at t8
  go_wp2_with fail
  have HO : outM M most = ([], false, M) := by unfold outM; rw [if_pos he]
  unfold OutP
  rw [HO]
  exact bodyPost_ret (v := .tuple #[.slice none 0 0, .bool false]) (by simp [results, Tryd.results7, go_sem]) rfl ⟨none, 0, I.vo, rfl, H0.out, Kf.refl _ _, Kd.R_nil _ _ _ _ _, fun k e => by cases e⟩
 ·have he' : M.ended = false := by simpa using he
  rw [he'] at t8
  obtain ⟨Ao, co, eo⟩ := Kd.R_slice H0.out.out
  obtain ⟨no, hno⟩ : ∃ n, n = M.out.length := ⟨_, rfl⟩
  rw [← hno] at eo
  have HNO := Aside0.mk hno
  have hb6 := H0.out.blk
  unfold tcells at hb6
  rw [eo] at hb6
  have c6 : W.cell? ⟨t, 6, none⟩ = some (.slice Ao no co) := (blk_cell hb6 6).trans rfl
  have HEO := Aside0.mk eo
  clear eo hno hb6
  obtain ⟨n, hn⟩ : ∃ n, n = min (max most 1).toNat M.out.length := ⟨_, rfl⟩
  have hnle : n ≤ M.out.length := by omega
  have hco : M.out.length ≤ co := by have h1 := H0.out.out; rw [HEO.out] at h1; have := (Kd.R_reads' h1); omega
  have hC0 : Kd.C (Kd.int .u8) W Ao M.out.length M.out := by have h1 := H0.out.out; rw [HEO.out] at h1; exact (Kd.R_reads' h1).2.2
  have hnn : (if (no : Int) < (if most < 1 then 1 else most) then (no : Int) else (if most < 1 then 1 else most)) = ((n : Nat) : Int) := by
   have h1 := HNO.out
   split <;> split <;> omega
  obtain ⟨tk, htk⟩ : ∃ tk, tk = M.out.take n := ⟨_, rfl⟩
  obtain ⟨rs, hrs⟩ : ∃ rs, rs = M.out.drop n := ⟨_, rfl⟩
  have hcT := cut_take Ao co n M.out hnle hco
  obtain ⟨A2, c2, hcD, hC2, hc2⟩ := cut_left Ao co n M.out hnle hco
  have hCt := Kd.C_take (m := n) hC0 hnle
  rw [← htk] at hcT hCt
  rw [← hrs] at hcD hC2 hc2
  have hCd := hC2 _ hC0
  rw [← HNO.out] at hcT hcD
  have HTK := Aside0.mk (And.intro (show tk.length ≤ co by rw [htk, List.length_take]; omega) (show tk.length ≤ 1000000000 by rw [htk, List.length_take]; have := HOL.out; omega))
  have HRS := Aside0.mk (And.intro (show rs.length ≤ c2 from hc2) (show rs.length ≤ 1000000000 by rw [hrs, List.length_drop]; have := HOL.out; omega))
  have HBT : Aside0 (∀ x ∈ rs, 0 ≤ x ∧ x ≤ 255) := ⟨fun x hx => H0.out.ok.obyt x (by rw [hrs] at hx; exact List.mem_of_mem_drop hx)⟩
  have HOM : Aside0 (outM M most = if rs ≠ [] then (tk, false, { M with out := rs }) else (tk, M.cause != 0, { M with out := rs, pongs := 0, ended := M.cause != 0 })) := ⟨by unfold outM; rw [if_neg he, ← hn, ← htk, ← hrs]⟩
  have HCT := Aside0.mk hCt
  have HCD := Aside0.mk hCd
  clear hnle hco hC0 htk hrs hC2 hc2 hCt hCd he hn
  go_upto_region 4 with fail
  clear hnn
  generalize (if most < 1 then (1 : Int) else most) = mx_
  go_wp2_with fail
  refine (sclone8 Ao co tk _ HCT.out HTK.out.1 HTK.out.2).mono ?_
  rintro e w1 ⟨vb, rfl, hrb, hb1⟩
  obtain ⟨Ab, cb, rfl⟩ := Kd.R_slice hrb
  have H1 := Aside0.mk (H0.out.below hb1)
  have K1 := Aside0.mk ((Kf.refl W (TF M I t)).below hb1)
  have HLB := Aside0.mk (And.intro (Kd.R_base hrb) (Kd.R_lt hrb))
  have HRB := Aside0.mk (Kd.R_lower hrb H0.out.bel.size)
  have HCD1 := Aside0.mk (Kd.C_below HCD.out hb1)
  have HFL : Aside0 (∀ k, TF M I t k → k < W.heap.size) := ⟨fun k hk => H0.out.lt hk⟩
  have HS1 := Aside0.mk hb1.size
  have c6' : w1.cell? ⟨t, 6, none⟩ = some (.slice Ao no co) := (hb1.cell (World.block_lt_of_cell? _ _ c6)).trans c6
  clear hrb hb1 HCT HCD c6 t8
  go_wp2_with fail
  refine (sclone8 A2 c2 rs _ HCD1.out HRS.out.1 HRS.out.2).mono ?_
  rintro e w2 ⟨vr, rfl, hrr, hb2⟩
  obtain ⟨Ar, cr, rfl⟩ := Kd.R_slice hrr
  have H2 := Aside0.mk (H1.out.below hb2)
  have K2 := Aside0.mk (K1.out.below hb2)
  have HLR := Aside0.mk (Kd.R_base hrr)
  have HRB2 := Aside0.mk (Kd.R_below HRB.out hb2)
  obtain ⟨hT3, hK3⟩ := H2.out.newOut (Kd.R_lower hrr H1.out.bel.size) (fun k e hk => by have h1 := HFL.out k hk; have h2 := HLR.out k e; have := HS1.out; omega) HBT.out
  have H3 := Aside0.mk hT3
  have K3 := Aside0.mk (hK3 W K2.out (fun k e => by have h2 := HLR.out k e; have := HS1.out; omega))
  have HRB3 : Aside0 (Kd.R (Kd.int .u8) 5 (w2.setCell ⟨t, 6, none⟩ (.slice Ar rs.length cr)) w0.heap.size (fun k => ¬ TF { M with out := rs } { I with vo := .slice Ar rs.length cr } t k) (.slice Ab tk.length cb) tk) := ⟨(row_ok (row_keep (W' := w2.setCell ⟨t, 6, none⟩ (.slice Ar rs.length cr)) HRB2.out (fun k e => Below.heap_setCell w2 ⟨t, 6, none⟩ _ k (row_at_ne (d := 0) HRB2.out H2.out.blk (by decide) e))) (fun k e (hk : TF { M with out := rs } { I with vo := .slice Ar rs.length cr } t k) => by
   have h1 := HLB.out.1 k e
   have h2 := HLB.out.2 k e
   rcases hk with hk | hk | hk | hk | hk | hk | hk
   ·have := HFL.out k (.inl hk); omega
   ·have := HFL.out k (.inr (.inl hk)); omega
   ·have := HFL.out k (.inr (.inr (.inl hk))); omega
   ·have := HFL.out k (.inr (.inr (.inr (.inl hk)))); omega
   ·have := HFL.out k (.inr (.inr (.inr (.inr (.inl hk))))); omega
   ·have := HLR.out k hk; omega
   ·have := HFL.out k (.inr (.inr (.inr (.inr (.inr (.inr hk)))))); omega))⟩
  have c6 : w2.cell? ⟨t, 6, none⟩ = some (.slice Ao no co) := (hb2.cell (World.block_lt_of_cell? _ _ c6')).trans c6'
  have cf6 := blk_frozen H2.out.blk 6
  have cl6 := blk_lt H2.out.blk
  clear hT3 hK3 hrr hb2 c6' H1 K1
  go_upto_region 6 with fail
  generalize w2.setCell ⟨t, 6, none⟩ (.slice Ar rs.length cr) = w3 at H3 K3 HRB3 ⊢
  clear c6 cf6 cl6 hcT hcD
  have c6 : w3.cell? ⟨t, 6, none⟩ = some (.slice Ar rs.length cr) := (blk_cell H3.out.blk 6).trans rfl
  by_cases hre : rs = []
  ·have hrl : ¬ (0 : Int) < (rs.length : Int) := by rw [hre]; decide
   have HRE := Aside0.mk hre
   clear hre
   have c7 : w3.cell? ⟨t, 7, none⟩ = some (.int .i64 M.pongs) := (blk_cell H3.out.blk 7).trans rfl
   have cf7 := blk_frozen H3.out.blk 7
   have cl7 := blk_lt H3.out.blk
   have hS4 := H3.out.set (M' := { M with out := rs, pongs := 0 }) 7 (.int .i64 0) rfl rfl rfl { H3.out.ok with pong := ⟨Int.le_refl _, by show (0 : Int) ≤ 16; decide⟩ }
   have hne : ∀ k, k ≠ t → (w3.setCell ⟨t, 7, none⟩ (.int .i64 0)).heap[k]? = w3.heap[k]? := fun k e => Below.heap_setCell w3 ⟨t, 7, none⟩ _ k e
   have H4 := Aside0.mk hS4
   have K4 : Aside0 (Kf W (w3.setCell ⟨t, 7, none⟩ (.int .i64 0)) (TF M I t) (TF { M with out := rs, pongs := 0 } { I with vo := .slice Ar rs.length cr } t)) := ⟨⟨Nat.le_trans K3.out.size (by simp [World.setCell]), fun k hlt hn => (hne k (fun e => hn (.inl e))).trans (K3.out.keep k hlt hn), K3.out.new⟩⟩
   have HRB4 := Aside0.mk (row_ok (row_keep (W' := w3.setCell ⟨t, 7, none⟩ (.int .i64 0)) HRB3.out (fun k e => hne k (row_at_ne (d := 0) HRB3.out H3.out.blk (by decide) e))) (fun k e => HRB3.out.1 k e))
   clear hS4 hne
   go_upto_region 9 with fail
   generalize w3.setCell ⟨t, 7, none⟩ (.int .i64 0) = w4 at H4 K4 HRB4 ⊢
   clear c6 c7 cf7 cl7 hrl
   have t5 : w4.cell? ⟨t, 5, none⟩ = some (.pointer (some ⟨I.dg, 0, none⟩)) := (blk_cell H4.out.blk 5).trans rfl
   go_wp2_with fail
   refine (closing_Door_Through.calls I.dg M.sent M.got M.code M.cause M.ecode (M.cause != 0) M.sent M.got M.code M.cause M.ecode w0 _ H4.out.dr H4.out.bel rfl).mono ?_
   rintro e w5 ⟨rfl, hI2, hB2, hK2⟩
   obtain ⟨hT5, hK45⟩ := H4.out.setDoor hI2 hB2 hK2
   have H5 : Aside0 (Tn w0 w5 t { M with out := rs, pongs := 0 } { I with vo := .slice Ar rs.length cr }) := ⟨hT5⟩
   have K5 : Aside0 (Kf W w5 (TF M I t) (TF { M with out := rs, pongs := 0 } { I with vo := .slice Ar rs.length cr } t)) := ⟨K4.out.trans hK45⟩
   have HRB5 : Aside0 (Kd.R (Kd.int .u8) 5 w5 w0.heap.size (fun k => ¬ TF { M with out := rs, pongs := 0 } { I with vo := .slice Ar rs.length cr } t k) (.slice Ab tk.length cb) tk) := ⟨row_kf0 HRB4.out hK45⟩
   obtain ⟨en, hen⟩ : ∃ en, en = (M.cause != 0) := ⟨_, rfl⟩
   rw [← hen] at HOM ⊢
   clear hT5 hI2 hB2 hK2 hK45 t5 hen
   have c8 : w5.cell? ⟨t, 8, none⟩ = some (.bool M.ended) := (blk_cell H5.out.blk 8).trans rfl
   have cf8 := blk_frozen H5.out.blk 8
   have cl8 := blk_lt H5.out.blk
   have hS6 := H5.out.set (M' := { M with out := rs, pongs := 0, ended := en }) 8 (.bool en) rfl rfl rfl { H5.out.ok with }
   have hne : ∀ k, k ≠ t → (w5.setCell ⟨t, 8, none⟩ (.bool en)).heap[k]? = w5.heap[k]? := fun k e => Below.heap_setCell w5 ⟨t, 8, none⟩ _ k e
   have H6 := Aside0.mk hS6
   have K6 : Aside0 (Kf W (w5.setCell ⟨t, 8, none⟩ (.bool en)) (TF M I t) (TF { M with out := rs, pongs := 0, ended := en } { I with vo := .slice Ar rs.length cr } t)) := ⟨⟨Nat.le_trans K5.out.size (by simp [World.setCell]), fun k hlt hn => (hne k (fun e => hn (.inl e))).trans (K5.out.keep k hlt hn), K5.out.new⟩⟩
   have HRB6 := Aside0.mk (row_ok (row_keep (W' := w5.setCell ⟨t, 8, none⟩ (.bool en)) HRB5.out (fun k e => hne k (row_at_ne (d := 0) HRB5.out H5.out.blk (by decide) e))) (fun k e => HRB5.out.1 k e))
   clear hS6 hne
   go_upto_region 10 with fail
   generalize w5.setCell ⟨t, 8, none⟩ (.bool en) = w6 at H6 K6 HRB6 ⊢
   clear c8 cf8 cl8
   have c8 : w6.cell? ⟨t, 8, none⟩ = some (.bool en) := (blk_cell H6.out.blk 8).trans rfl
   refine wp_region_noPanic ?_
   refine wp_region_held_drew (S := fun w' => Aside0 (w6.drew = w') ∧ w'.cell? ⟨t, 8, none⟩ = some (.bool en)) (by kernel_rfl) (⟨⟨rfl⟩, c8⟩) (fun hHeld => ?_)
   refine takeP 0 59 ?_
   refine takeP 1 60 ?_
   refine takeP 2 61 ?_
   refine takeP 3 62 ?_
   refine takeP 4 63 ?_
   refine takeP 5 4 ?_
   refine takeP 6 5 ?_
   refine wpAnyH_done (by kernel_rfl) ?_ _
   refine NoPanic.normal ?_
   clear hHeld c8
   go_wp2_with fail
   have HO : outM M most = (tk, en, { M with out := rs, pongs := 0, ended := en }) := by rw [HOM.out, if_neg (by rw [HRE.out]; simp)]
   unfold OutP
   rw [HO]
   exact bodyPost_ret (v := .tuple #[.slice Ab tk.length cb, .bool en]) (by simp [results, Tryd.results7, go_sem]) rfl ⟨Ab, cb, _, rfl, H6.out.below (below_drew (Below.refl _ _)), K6.out.below (below_drew (Below.refl _ _)), Kd.R_drew HRB6.out, HLB.out.1⟩
  ·have hrl : (0 : Int) < (rs.length : Int) := by
    rcases Nat.eq_zero_or_pos rs.length with h | h
    ·exact absurd (List.length_eq_zero_iff.1 h) hre
    ·omega
   have HRE := Aside0.mk hre
   clear hre
   go_wp2_with fail
   have HO : outM M most = (tk, false, { M with out := rs }) := by rw [HOM.out, if_pos HRE.out]
   unfold OutP
   rw [HO]
   exact bodyPost_ret (v := .tuple #[.slice Ab tk.length cb, .bool false]) (by simp [results, Tryd.results7, go_sem]) rfl ⟨Ab, cb, _, rfl, H3.out, K3.out, HRB3.out, HLB.out.1⟩
end Go.Proofs.YtpmeapdcjmaeiaaDoor
namespace Go.Proofs.YtpmeapdcjmaeiaaDoor
open Go.RowKit Go.Proofs.YtpmeapdcjmaeiaaDoorW.PrintWords Go.Proofs.YtpmeapdcjmaeiaaDoorW.PrintLast Go.Proofs.YtpmeapdcjmaeiaaDoorW.PrintMore Go.Proofs.YtpmeapdcjmaeiaaDoor.PAll Go.Proofs.YtpmeapdcjmaeiaaDoor.U
def p9 (x : List Int) : Pc := ⟨true, 9, true, 0, x⟩
def p10 (x : List Int) : Pc := ⟨true, 10, false, 0, x⟩
def n2 (x : List Int) : Nt := ⟨2, false, x, 0⟩
def n3 (x : List Int) : Nt := ⟨3, false, x, 0⟩
def aS (xs : List (List Int)) : TM := { newT true [] with out := putAll (xs.map p9) }
def bS (xs : List (List Int)) : TM := { newT false [] with out := putAll (xs.map p10), pongs := (xs.length : Int) }
theorem putAll_map (f : List Int → Pc) (xs : List (List Int)) (x : List Int) : putAll ((xs ++ [x]).map f) = putAll (xs.map f) ++ putP (f x) := by
 rw [List.map_append]
 exact putAll_snoc _ _
theorem aS_ping (xs : List (List Int)) (x : List Int) : putM (aS xs) true 9 x = aS (xs ++ [x]) := by
 have e := putAll_map p9 xs x
 unfold aS
 rw [e]
 rfl
theorem g9 (b : List Int) (busy te : Bool) (x : List Int) : gF b busy te false true 9 x = (b, busy, te, false, n2 x, true) := by
 unfold gF
 rw [if_neg (by decide), if_neg (by decide), if_neg (by decide), if_pos rfl]
 rfl
theorem g10 (b : List Int) (busy te : Bool) (x : List Int) : gF b busy te false true 10 x = (b, busy, te, false, n3 x, true) := by
 unfold gF
 rw [if_neg (by decide), if_neg (by decide), if_neg (by decide), if_neg (by decide), if_pos rfl]
 rfl
theorem b_take (ys : List (List Int)) (x : List Int) (h : ys.length < 16) : takeM (bS ys) (p9 x) = (bS (ys ++ [x]), [n2 x]) := by
 have hg : gF (bS ys).b (bS ys).busy (bS ys).te (bS ys).over (p9 x).f0 (p9 x).f1 (p9 x).f4 = ([], false, false, false, n2 x, true) := g9 [] false false x
 have e1 : (bS ys).tells (p9 x) = true := by unfold TM.tells; rw [hg]
 have e2 : (bS ys).note (p9 x) = n2 x := by unfold TM.note; rw [hg]
 have e3 : (bS ys).wg (p9 x) = bS ys := by unfold TM.wg; rw [hg]; rfl
 have e := putAll_map p10 ys x
 unfold takeM
 rw [if_pos e1, e2, e3]
 have ht : takesM (bS ys) (n2 x) = (bS (ys ++ [x]), n2 x) := by
  unfold takesM
  rw [if_neg (show ¬ (n2 x).f0 = 5 by show ¬ (2 : Int) = 5; decide), if_neg (show ¬ (n2 x).f0 = 4 by show ¬ (2 : Int) = 4; decide), if_pos (show (n2 x).f0 = 2 from rfl), if_neg (show ¬ (bS ys).sent = true from fun h => by cases h), if_neg (show ¬ (bS ys).pongs = 16 by show ¬ ((ys.length : Int) = 16); omega)]
  have hl : (((ys ++ [x]).length : Nat) : Int) = (ys.length : Int) + 1 := by rw [List.length_append]; rfl
  unfold bS
  rw [e, hl]
  rfl
 rw [ht]
theorem b_run : ∀ (xs ys : List (List Int)), ys.length + xs.length ≤ 16 → runM (bS ys) (xs.map p9) 0 = (bS (ys ++ xs), xs.map n2)
 | [], ys, _ => by
  rw [List.append_nil]
  exact runM_stop (bS ys) rfl
 | x :: xs, ys, h => by
  simp only [List.length_cons] at h
  rw [List.map_cons, runM_cons (bS ys) (p9 x) _ 0 rfl, b_take ys x (by omega), b_run xs (ys ++ [x]) (by rw [List.length_append]; show ys.length + 1 + xs.length ≤ 16; omega), List.append_assoc]
  rfl
theorem a_take (x : List Int) : takeM (aS []) (p10 x) = (aS [], [n3 x]) := by
 have hg : gF (aS []).b (aS []).busy (aS []).te (aS []).over (p10 x).f0 (p10 x).f1 (p10 x).f4 = ([], false, false, false, n3 x, true) := g10 [] false false x
 have e1 : (aS []).tells (p10 x) = true := by unfold TM.tells; rw [hg]
 have e2 : (aS []).note (p10 x) = n3 x := by unfold TM.note; rw [hg]
 have e3 : (aS []).wg (p10 x) = aS [] := by unfold TM.wg; rw [hg]; rfl
 unfold takeM
 rw [if_pos e1, e2, e3]
 have ht : takesM (aS []) (n3 x) = (aS [], n3 x) := by
  unfold takesM
  rw [if_neg (show ¬ (n3 x).f0 = 5 by show ¬ (3 : Int) = 5; decide), if_neg (show ¬ (n3 x).f0 = 4 by show ¬ (3 : Int) = 4; decide), if_neg (show ¬ (n3 x).f0 = 2 by show ¬ (3 : Int) = 2; decide)]
 rw [ht]
theorem a_run : ∀ (xs : List (List Int)), runM (aS []) (xs.map p10) 0 = (aS [], xs.map n3)
 | [] => runM_stop (aS []) rfl
 | x :: xs => by
  rw [List.map_cons, runM_cons (aS []) (p10 x) _ 0 rfl, a_take, a_run xs]
  rfl
theorem ok9 {x : List Int} (hl : x.length ≤ 125) (hb : ∀ y ∈ x, Byte y) : OkP true (p9 x) := ⟨(mayB_iff ..).2 ⟨.inr (by show (8 : Int) ≤ 9 ∧ (9 : Int) ≤ 10; decide), .inl rfl, by show (x.length : Int) ≤ 4096; omega, .inr ⟨rfl, by show (x.length : Int) ≤ 125; omega⟩⟩, rfl, (by show (0 : Int) ≤ 9; decide), Int.le_refl _, (by show (0 : Int) ≤ 4294967295; decide), hb⟩
theorem ok10 {x : List Int} (hl : x.length ≤ 125) (hb : ∀ y ∈ x, Byte y) : OkP false (p10 x) := ⟨(mayB_iff ..).2 ⟨.inr (by show (8 : Int) ≤ 10 ∧ (10 : Int) ≤ 10; decide), .inr rfl, by show (x.length : Int) ≤ 4096; omega, .inr ⟨rfl, by show (x.length : Int) ≤ 125; omega⟩⟩, rfl, (by show (0 : Int) ≤ 10; decide), Int.le_refl _, (by show (0 : Int) ≤ 4294967295; decide), hb⟩
theorem out_all (M : TM) (h : M.ended = false) (hc : M.cause = 0) (hl : M.out.length ≤ 100000) : outM M 100000 = (M.out, false, { M with out := [], pongs := 0, ended := false }) := by
 have hn : min (max (100000 : Int) 1).toNat M.out.length = M.out.length := by
  rw [show (max (100000 : Int) 1).toNat = 100000 from rfl]
  omega
 have hcb : (M.cause != 0) = false := by rw [hc]; rfl
 unfold outM
 rw [if_neg (by rw [h]; decide), hn, List.drop_length, List.take_length, if_neg (by simp), hcb]
theorem put_len (f : List Int → Pc) (h : ∀ x, (f x).f0 = true ∧ (f x).f4 = x) : ∀ (xs : List (List Int)), (∀ x ∈ xs, x.length ≤ 125) → (putAll (xs.map f)).length ≤ 131 * xs.length
 | [], _ => Nat.zero_le _
 | x :: xs, hx => by
  have h1 := put_len f h xs (fun y hy => hx y (List.mem_cons_of_mem _ hy))
  have h2 : (putP (f x)).length ≤ 131 := by
   unfold putP
   rw [(h x).1, (h x).2]
   exact putL_small (hx x (List.mem_cons_self))
  show (putP (f x) ++ putAll (xs.map f)).length ≤ _
  rw [List.length_append, List.length_cons]
  omega
structure Two (w0 W : World) (ta : Nat) (Ma : TM) (Ia : TI) (tb : Nat) (Mb : TM) (Ib : TI) : Prop where
 a : Tn w0 W ta Ma Ia
 b : Tn w0 W tb Mb Ib
 dis : ∀ k, TF Ma Ia ta k → ¬ TF Mb Ib tb k
 la : ∀ k, TF Ma Ia ta k → w0.heap.size ≤ k
 lb : ∀ k, TF Mb Ib tb k → w0.heap.size ≤ k
section
variable {w0 W W' : World} {ta tb : Nat} {Ma Mb M' : TM} {Ia Ib I' : TI}
theorem Two.stepA (h : Two w0 W ta Ma Ia tb Mb Ib) (hT : Tn w0 W' ta M' I') (hK : Kf W W' (TF Ma Ia ta) (TF M' I' ta)) : Two w0 W' ta M' I' tb Mb Ib := by
 have ho := hK.other (fun k hk => h.b.lt hk) (fun k hk hf => h.dis k hf hk)
 exact ⟨hT, h.b.move hT.bel ho.1, fun k hf hk => ho.2 k hk hf, fun k hk => (hK.new k hk).elim (h.la k) (fun e => Nat.le_trans h.a.bel.size e), h.lb⟩
theorem Two.stepB (h : Two w0 W ta Ma Ia tb Mb Ib) (hT : Tn w0 W' tb M' I') (hK : Kf W W' (TF Mb Ib tb) (TF M' I' tb)) : Two w0 W' ta Ma Ia tb M' I' := by
 have ho := hK.other (fun k hk => h.a.lt hk) (fun k hk hf => h.dis k hk hf)
 exact ⟨h.a.move hT.bel ho.1, hT, fun k hf hk => ho.2 k hf hk, h.la, fun k hk => (hK.new k hk).elim (h.lb k) (fun e => Nat.le_trans h.a.bel.size e)⟩
theorem Two.below (h : Two w0 W ta Ma Ia tb Mb Ib) (hb : Below W.heap.size W W') : Two w0 W' ta Ma Ia tb Mb Ib := ⟨h.a.below hb, h.b.below hb, h.dis, h.la, h.lb⟩
theorem rows_b {e base : Nat} {α : Type} {kd : Kd α} {v : Value} {xs : List α} (h : Two w0 W ta Ma Ia tb Mb Ib) (hK : Kf W W' (TF Mb Ib tb) (TF M' I' tb)) (hr : kd.R e W' base (fun k => ¬ TF M' I' tb k ∧ (TF Mb Ib tb k ∨ W.heap.size ≤ k)) v xs) : kd.R e W' base (fun k => ¬ TF M' I' tb k ∧ ¬ TF Ma Ia ta k) v xs := Kd.R_mono hr (fun k hk => ⟨hk.1, fun e => hk.2.elim (h.dis k e) (fun e2 => by have := h.a.lt e; omega)⟩)
theorem rows_a {e base : Nat} {α : Type} {kd : Kd α} {v : Value} {xs : List α} (h : Two w0 W ta Ma Ia tb Mb Ib) (hK : Kf W W' (TF Ma Ia ta) (TF M' I' ta)) (hr : kd.R e W' base (fun k => ¬ TF M' I' ta k ∧ (TF Ma Ia ta k ∨ W.heap.size ≤ k)) v xs) : kd.R e W' base (fun k => ¬ TF M' I' ta k ∧ ¬ TF Mb Ib tb k) v xs := Kd.R_mono hr (fun k hk => ⟨hk.1, fun e => hk.2.elim (fun e2 => h.dis k e2 e) (fun e2 => by have := h.b.lt e; omega)⟩)
theorem rows_go {e base : Nat} {α : Type} {kd : Kd α} {v : Value} {xs : List α} {F F' G : Nat → Prop} (hK : Kf W W' F F') (hr : kd.R e W base (fun k => ¬ F k ∧ ¬ G k) v xs) : kd.R e W' base (fun k => ¬ F' k ∧ ¬ G k) v xs :=
 Kd.R_mono (Kd.R_step (Kd.R_bound hr) (fun k hk hlt => hK.keep k hlt hk.1.1)) (fun k hk => ⟨fun hf => (hK.new k hf).elim hk.1.1 (fun e => by have := hk.2.2.1; omega), hk.1.2⟩)
end
end Go.Proofs.YtpmeapdcjmaeiaaDoor
namespace Go.Proofs.YtpmeapdcjmaeiaaDoor
open Go.RowKit Go.Proofs.YtpmeapdcjmaeiaaDoorW.PrintWords Go.Proofs.YtpmeapdcjmaeiaaDoorW.PrintLast Go.Proofs.YtpmeapdcjmaeiaaDoorW.PrintMore Go.Proofs.YtpmeapdcjmaeiaaDoor.PAll
def reqL : List S69 := [(⟨(⟨#[58, 109, 101, 116, 104, 111, 100]⟩ : ByteArray), (⟨#[67, 79, 78, 78, 69, 67, 84]⟩ : ByteArray), false⟩ : S69), (⟨(⟨#[58, 112, 114, 111, 116, 111, 99, 111, 108]⟩ : ByteArray), (⟨#[119, 101, 98, 115, 111, 99, 107, 101, 116]⟩ : ByteArray), false⟩ : S69), (⟨(⟨#[58, 115, 99, 104, 101, 109, 101]⟩ : ByteArray), (⟨#[104, 116, 116, 112, 115]⟩ : ByteArray), false⟩ : S69), (⟨(⟨#[58, 112, 97, 116, 104]⟩ : ByteArray), ⟨#[47]⟩, false⟩ : S69), (⟨(⟨#[58, 97, 117, 116, 104, 111, 114, 105, 116, 121]⟩ : ByteArray), ⟨#[97]⟩, false⟩ : S69), (⟨(⟨#[115, 101, 99, 45, 119, 101, 98, 115, 111, 99, 107, 101, 116, 45, 118, 101, 114, 115, 105, 111, 110]⟩ : ByteArray), (⟨#[49, 51]⟩ : ByteArray), false⟩ : S69)]
theorem req_f : tunnel_Request.f (⟨#[47]⟩ : ByteArray) (⟨#[97]⟩ : ByteArray) = some reqL := rfl
theorem right_f : tunnel_right.f reqL = some true := by decide +kernel
theorem val_f (n : ByteArray) : tunnel_value.f reqL n = some (valC n reqL) := rfl
theorem bool_toList (a b : ByteArray) : (a.toList == b.toList) = (a.data.toList == b.data.toList) := by rw [ByteArray.toList_eq, ByteArray.toList_eq]
theorem v_method : valC (⟨#[58, 109, 101, 116, 104, 111, 100]⟩ : ByteArray) reqL = (⟨#[67, 79, 78, 78, 69, 67, 84]⟩, true) := by
 simp [valC, isNm, bool_toList, reqL, List.find?]
theorem v_scheme : valC (⟨#[58, 115, 99, 104, 101, 109, 101]⟩ : ByteArray) reqL = (⟨#[104, 116, 116, 112, 115]⟩, true) := by
 simp [valC, isNm, bool_toList, reqL, List.find?]
theorem v_path : valC (⟨#[58, 112, 97, 116, 104]⟩ : ByteArray) reqL = (⟨#[47]⟩, true) := by
 simp [valC, isNm, bool_toList, reqL, List.find?]
theorem v_auth : valC (⟨#[58, 97, 117, 116, 104, 111, 114, 105, 116, 121]⟩ : ByteArray) reqL = (⟨#[97]⟩, true) := by
 simp [valC, isNm, bool_toList, reqL, List.find?]
theorem v_prot : valC (⟨#[58, 112, 114, 111, 116, 111, 99, 111, 108]⟩ : ByteArray) reqL = (⟨#[119, 101, 98, 115, 111, 99, 107, 101, 116]⟩, true) := by
 simp [valC, isNm, bool_toList, reqL, List.find?]
theorem check_f : tunnel_Check.f 12 reqL = some 200 := by
 unfold tunnel_Check.f
 rw [val_f, val_f, val_f, val_f, v_method, v_scheme, v_path, v_auth, right_f]
 simp only [Option.bind_some]
 have hl : tunnel_Check.l0 11 0 reqL (reqL.length : Int) 0 = some 200 := by simp [tunnel_Check.l0, rd_T69, reqL, wrap64, ByteArray.toList_eq]
 simp [tunnel_Check.j0, val_f, v_prot, ByteArray.toList_eq, hl]
theorem fixed_yes (w : World) : Calls Tryd.prog 4 #[] w fun e w' => e = .returned (.bool true) ∧ Below w.heap.size w w' := by
 refine louverlaw20_fixed.calls 12 true w ?_
 unfold louverlaw20_fixed.f
 rw [req_f, Option.bind_some, check_f, Option.bind_some]
 rfl
end Go.Proofs.YtpmeapdcjmaeiaaDoor
namespace Go.Proofs.YtpmeapdcjmaeiaaDoor
open Go.RowKit Go.Proofs.YtpmeapdcjmaeiaaDoorW.PrintWords Go.Proofs.YtpmeapdcjmaeiaaDoorW.PrintLast Go.Proofs.YtpmeapdcjmaeiaaDoorW.PrintMore Go.Proofs.YtpmeapdcjmaeiaaDoor.PAll Go.Proofs.YtpmeapdcjmaeiaaDoor.U
theorem wfq8 {x : Int} (h : (Lit.int .u8 x).wf = true) : 0 ≤ x ∧ x ≤ 255 := by simpa [Lit.wf, IntKind.min, IntKind.max, IntKind.signed, IntKind.bits] using h
def PgR (w0 : World) (ta tb : Nat) (xs : List (List Int)) (mu : Nat) (iv : Value) (wr : World) : Prop := ∃ (i : Nat) (Ia Ib : TI), iv = .int .i64 (i : Nat) ∧ i + mu = xs.length ∧ Two w0 wr ta (aS (xs.take i)) Ia tb (newT false []) Ib ∧ (∀ x ∈ xs.take i, x.length ≤ 125)
def PgC (W : World) (n : Nat) (mu : Nat) (iv : Value) (wr : World) : Prop := ∃ (i : Nat), iv = .int .i64 (i : Nat) ∧ i + mu = n ∧ Below W.heap.size W wr
theorem C_nil32 (w : World) : Kd.C (Kd.int .u32) w none 0 [] := (Kd.R_reads' (Kd.R_nil (Kd.int .u32) 33 w 0 (fun _ => True))).2.2
set_option maxHeartbeats 16000000 in
set_option maxRecDepth 100000 in
theorem Pure.TunnelPongs : Says.TunnelPongs := by
 intro A0 c0 x0 w l0 r0 o0 hg
 have HR := Aside0.mk r0
 have HB8 : Aside0 (∀ b ∈ x0, ∀ x ∈ b, 0 ≤ x ∧ x ≤ 255) := ⟨fun b hb x hx => wfq8 ((o0.1 b hb).1 x hx)⟩
 have HL := Aside0.mk l0
 have HCO := Aside0.mk hg
 clear r0 o0 l0 hg
 go_enter Tryd.func3, Tryd.ntmps3
 by_cases hbig : (16 : Int) < (x0.length : Int)
 ·go_wp2_with fail
  refine (fixed_yes _).mono ?_
  rintro e w1 ⟨rfl, hb⟩
  go_wp2_with fail
  go_ret
  exact ⟨rfl, hb⟩
 ·have HN : Aside0 (x0.length ≤ 16) := ⟨by omega⟩
  go_wp2_with fail
  refine (tnew (Below.refl w.heap.size w) true (keys := []) (A := none) (c := 0) (C_nil32 w) (Nat.le_refl _) (fun x hx => by cases hx) (Nat.zero_le _)).mono ?_
  rintro e w1 ⟨ta, Ia, rfl, hTa, hb1, hla⟩
  have HTa := Aside0.mk hTa
  have HB1 := Aside0.mk hb1
  have HLa := Aside0.mk hla
  clear hTa hb1 hla
  go_wp2_with fail
  refine (tnew HB1.out false (keys := []) (A := none) (c := 0) (C_nil32 w1) (Nat.le_refl _) (fun x hx => by cases hx) (Nat.zero_le _)).mono ?_
  rintro e w2 ⟨tb, Ib, rfl, hTb, hb2, hlb⟩
  have HT2 : Aside0 (Two w w2 ta (aS []) Ia tb (newT false []) Ib) := ⟨⟨HTa.out.below hb2, hTb, fun k h1 h2 => by have := HTa.out.lt h1; have := hlb k h2; omega, fun k h1 => HLa.out k h1, fun k h1 => Nat.le_trans HB1.out.size (hlb k h1)⟩⟩
  clear hTb hb2 hlb HTa HB1 HLa hbig
  go_wp2_with fail
  go_loopg [22] x0.length (fun mu iv wr => PgR w ta tb x0 mu iv wr)
  case atStart => exact ⟨0, Ia, Ib, rfl, by omega, HT2.out, fun x hx => (by cases hx)⟩
  case round =>
   clear HT2
   obtain ⟨i, Ia, Ib, rfl, hi, hT, hsm⟩ := hrel
   have HT := Aside0.mk hT
   have HI := Aside0.mk hi
   have HSM := Aside0.mk hsm
   clear hT hi hsm
   by_cases hlt : i < x0.length
   ·have hwi : wrap64 ((i : Int) + 1) = (i : Int) + 1 := by have := HN.out; unfold wrap64; omega
    obtain ⟨b, hbe⟩ : ∃ b, b = x0.getD i [] := ⟨_, rfl⟩
    have hb0 : x0[i] = b := by rw [hbe, List.getD_eq_getElem?_getD, List.getElem?_eq_getElem hlt]; rfl
    have hbm : b ∈ x0 := hb0 ▸ List.getElem_mem hlt
    have htk : x0.take (i + 1) = x0.take i ++ [b] := by rw [← hb0]; exact (List.take_append_getElem hlt).symm
    obtain ⟨ad, cs, ead, hcl, hK, hcell⟩ := Kd.C_get HR.out [] (i : Int) (by omega) (by omega)
    subst ead
    rw [Int.toNat_natCast, ← hbe] at hK
    obtain ⟨A1, c1, rfl, hc1, hCb⟩ := hK
    have hce0 := hcell 0 _ rfl
    rw [Int.toNat_natCast, show i * (Kd.slice 5 (Kd.int .u8)).sz + 0 = i from Nat.mul_one i] at hce0
    have hce := (HT.out.a.bel.cell (World.block_lt_of_cell? _ _ hce0)).trans hce0
    have HTK := Aside0.mk htk
    have HBB := Aside0.mk (HB8.out b hbm)
    have HCb := Aside0.mk hCb
    have HC1 := Aside0.mk hc1
    clear hce0 hcell hcl hbe hb0 hbm htk hCb hc1
    by_cases hbig : (125 : Int) < (b.length : Int)
    ·go_wp2_with fail
     refine (fixed_yes _).mono ?_
     rintro e w3 ⟨rfl, hb⟩
     have HB9 := Aside0.mk (below_step HT.out.a.bel hb)
     clear hb
     go_wp2_with fail
     go_ret
     exact ⟨rfl, HB9.out⟩
    ·have HBL : Aside0 (b.length ≤ 125) := ⟨by omega⟩
     have HOL : Aside0 ((aS (x0.take i)).out.length ≤ 2096) := ⟨by
      have h1 := put_len p9 (fun x => ⟨rfl, rfl⟩) (x0.take i) HSM.out
      have h2 := HN.out
      have h3 : (x0.take i).length ≤ x0.length := by rw [List.length_take]; omega
      show (putAll ((x0.take i).map p9)).length ≤ 2096
      omega⟩
     go_wp2_with fail
     refine (tping (x := b) HT.out.a rfl rfl (Ap.of_low HCb.out HT.out.a.bel HT.out.la) HC1.out HBB.out (by show (0 : Int) < _; decide) (by have := HOL.out; omega) ⟨HBL.out, by have h1 := HOL.out; have h2 := putL_small (op := 9) (mk := (aS (x0.take i)).cl) (key := 0) HBL.out; omega⟩).mono ?_
     rintro e w3 ⟨rfl, vo, hTa, hKa⟩
     rw [aS_ping, ← HTK.out] at hTa hKa
     have HT3 := Aside0.mk (HT.out.stepA hTa hKa)
     clear hTa hKa
     go_wp2_with fail
     go_roundg (x0.length - (i + 1))
     case measure => have := HI.out; omega
     case rel => exact ⟨i + 1, _, _, by rw [hwi, show ((i + 1 : Nat) : Int) = (i : Int) + 1 by omega], by omega, HT3.out, fun x hx => by
      rw [HTK.out] at hx
      rcases List.mem_append.1 hx with h | h
      ·exact HSM.out x h
      ·rw [List.mem_singleton.1 h]; exact HBL.out⟩
   ·have hie : i = x0.length := by have := HI.out; omega
    subst hie
    have HSA : Aside0 (∀ x ∈ x0, x.length ≤ 125) := ⟨by have h := HSM.out; rwa [List.take_length] at h⟩
    have HT0 : Aside0 (Two w wr ta (aS x0) Ia tb (newT false []) Ib) := ⟨by have h := HT.out; rwa [List.take_length] at h⟩
    clear HT HSM HI hlt
    have HOL : Aside0 ((putAll (x0.map p9)).length ≤ 2096 ∧ (putAll (x0.map p10)).length ≤ 2096) := ⟨⟨by have h1 := put_len p9 (fun x => ⟨rfl, rfl⟩) x0 HSA.out; have h2 := HN.out; omega, by have h1 := put_len p10 (fun x => ⟨rfl, rfl⟩) x0 HSA.out; have h2 := HN.out; omega⟩⟩
    have HBA : Aside0 (∀ b ∈ x0, ∀ x ∈ b, Byte x) := HB8
    go_wp2_with fail
    refine (tout HT0.out.a (most := 100000) (by decide) (by have := HOL.out.1; show (putAll (x0.map p9)).length ≤ _; omega)).mono ?_
    rintro e w3 ho
    unfold OutP at ho
    rw [out_all (aS x0) rfl rfl (by have := HOL.out.1; show (putAll (x0.map p9)).length ≤ _; omega)] at ho
    obtain ⟨Au, cu, vou, rfl, hTa, hKa, hru, hnu⟩ := ho
    obtain ⟨Ia3, hIa3⟩ : ∃ I3 : TI, I3 = { Ia with vo := vou } := ⟨_, rfl⟩
    replace hTa : Tn w w3 ta (aS []) Ia3 := hIa3 ▸ hTa
    replace hKa : Kf wr w3 (TF (aS x0) Ia ta) (TF (aS []) Ia3 ta) := hIa3 ▸ hKa
    have HT3 := Aside0.mk (HT0.out.stepA hTa hKa)
    obtain ⟨up, hup⟩ : ∃ up, up = putAll (x0.map p9) := ⟨_, rfl⟩
    replace hru : Kd.R (Kd.int .u8) 5 w3 w.heap.size (fun k => ¬ TF (aS []) Ia3 ta k) (.slice Au up.length cu) up := hup ▸ hIa3 ▸ hru
    replace hnu : ∀ k, (Value.slice Au up.length cu).ownBlock = some k → wr.heap.size ≤ k := hup ▸ hnu
    have HUB := Aside0.mk (Ap.of_row (F := TF (newT false []) Ib tb) hru (fun k e hk => by have := hnu k e; have := HT0.out.b.lt hk; omega))
    have HUC := Aside0.mk (Kd.R_reads' hru).2.1
    have HUP := Aside0.mk hup
    rw [show (aS x0).out.length = up.length by rw [hup]; rfl]
    clear hTa hKa hru hnu hIa3 hup HT0
    go_wp2_with fail
    have hok9 : ∀ p ∈ x0.map p9, OkP true p := fun p hp => by
     obtain ⟨x, hx, rfl⟩ := List.mem_map.1 hp
     exact ok9 (HSA.out x hx) (HBA.out x hx)
    refine (tfeed HT3.out.b HUB.out HUC.out (by rw [HUP.out]; exact putAll_bytes _ hok9) (ps := x0.map p9) (cd := 0) (left := []) (fun _ => rfl) (by rw [HUP.out]; exact AllP.puts _ hok9) (by rw [List.length_map]; have := HN.out; show (0 : Int) + _ + 2 < _; omega) (by rw [List.length_map]; have := HN.out; show 0 + _ + 500 ≤ _; omega) HCO.out).mono ?_
    rintro e w4 hf
    unfold FeedP at hf
    rw [show newT false [] = bS [] from rfl, b_run x0 [] (by have := HN.out; show 0 + _ ≤ 16; omega), List.nil_append] at hf
    obtain ⟨l4, s4, Ib4, At, ct, rfl, hTb, hKb, hrt, hlf⟩ := hf
    obtain ⟨e1, e2⟩ := hlf rfl
    subst e1
    subst e2
    replace hTb : Tn w w4 tb (bS x0) Ib4 := hTb
    replace hKb : Kf w3 w4 (TF (newT false []) Ib tb) (TF (bS x0) Ib4 tb) := hKb
    have HT4 := Aside0.mk (HT3.out.stepB hTb hKb)
    have HRT := Aside0.mk (rows_b HT3.out hKb hrt)
    clear hTb hKb hrt hlf hok9 HT3 HUB HUC HUP
    rw [List.length_map]
    go_wp2_with fail
    refine (tout HT4.out.b (most := 100000) (by decide) (by have := HOL.out.2; show (putAll (x0.map p10)).length ≤ _; omega)).mono ?_
    rintro e w5 ho
    unfold OutP at ho
    rw [out_all (bS x0) rfl rfl (by have := HOL.out.2; show (putAll (x0.map p10)).length ≤ _; omega)] at ho
    obtain ⟨Ad, cd, vod, rfl, hTb, hKb, hrd, hnd⟩ := ho
    obtain ⟨Ib5, hIb5⟩ : ∃ I3 : TI, I3 = { Ib4 with vo := vod } := ⟨_, rfl⟩
    replace hTb : Tn w w5 tb (bS []) Ib5 := hIb5 ▸ hTb
    replace hKb : Kf w4 w5 (TF (bS x0) Ib4 tb) (TF (bS []) Ib5 tb) := hIb5 ▸ hKb
    have HT5 := Aside0.mk (HT4.out.stepB hTb hKb)
    have HRT5 := Aside0.mk (rows_go hKb HRT.out)
    obtain ⟨dn, hdn⟩ : ∃ dn, dn = putAll (x0.map p10) := ⟨_, rfl⟩
    replace hrd : Kd.R (Kd.int .u8) 5 w5 w.heap.size (fun k => ¬ TF (bS []) Ib5 tb k) (.slice Ad dn.length cd) dn := hdn ▸ hIb5 ▸ hrd
    replace hnd : ∀ k, (Value.slice Ad dn.length cd).ownBlock = some k → w4.heap.size ≤ k := hdn ▸ hnd
    have HDA := Aside0.mk (Ap.of_row (F := TF (aS []) Ia3 ta) hrd (fun k e hk => by have := hnd k e; have := HT4.out.a.lt hk; omega))
    have HDC := Aside0.mk (Kd.R_reads' hrd).2.1
    have HDN := Aside0.mk hdn
    rw [show (bS x0).out.length = dn.length by rw [hdn]; rfl]
    clear hTb hKb hrd hnd hIb5 hdn HT4 HRT
    go_wp2_with fail
    have hok10 : ∀ p ∈ x0.map p10, OkP false p := fun p hp => by
     obtain ⟨x, hx, rfl⟩ := List.mem_map.1 hp
     exact ok10 (HSA.out x hx) (HBA.out x hx)
    refine (tfeed HT5.out.a HDA.out HDC.out (by rw [HDN.out]; exact putAll_bytes _ hok10) (ps := x0.map p10) (cd := 0) (left := []) (fun _ => rfl) (by rw [HDN.out]; exact AllP.puts _ hok10) (by rw [List.length_map]; have := HN.out; show (0 : Int) + _ + 2 < _; omega) (by rw [List.length_map]; have := HN.out; show 0 + _ + 500 ≤ _; omega) HCO.out).mono ?_
    rintro e w6 hf
    unfold FeedP at hf
    rw [a_run x0] at hf
    obtain ⟨l6, s6, Ia6, Ab, cb, rfl, hTa, hKa, hrb, hlf⟩ := hf
    obtain ⟨e1, e2⟩ := hlf rfl
    subst e1
    subst e2
    replace hTa : Tn w w6 ta (aS []) Ia6 := hTa
    replace hKa : Kf w5 w6 (TF (aS []) Ia3 ta) (TF (aS []) Ia6 ta) := hKa
    have HT6 := Aside0.mk (HT5.out.stepA hTa hKa)
    have HRT6 := Aside0.mk (rows_go hKa (Kd.R_mono HRT5.out (fun k hk => ⟨hk.2, hk.1⟩)))
    have HRB6 := Aside0.mk (rows_a HT5.out hKa hrb)
    clear hTa hKa hrb hlf hok10 HT5 HRT5 HDA HDC HDN
    rw [List.length_map]
    have HCT : Aside0 (Kd.C k35 w6 At x0.length (x0.map n2)) := ⟨by have h := (Kd.R_reads' HRT6.out).2.2; rwa [List.length_map] at h⟩
    have HCB : Aside0 (Kd.C k35 w6 Ab x0.length (x0.map n3)) := ⟨by have h := (Kd.R_reads' HRB6.out).2.2; rwa [List.length_map] at h⟩
    have HB6 := Aside0.mk HT6.out.a.bel
    clear HT6 HRT6 HRB6
    go_wp2_with fail
    go_loopg [65] x0.length (fun mu iv wr => PgC w6 x0.length mu iv wr)
    case atStart => exact ⟨0, rfl, by omega, Below.refl _ _⟩
    case round =>
     obtain ⟨i, rfl, hi, hbr⟩ := hrel
     have HI := Aside0.mk hi
     have HBR := Aside0.mk hbr
     clear hi hbr
     by_cases hlt : i < x0.length
     ·have hwi : wrap64 ((i : Int) + 1) = (i : Int) + 1 := by have := HN.out; unfold wrap64; omega
      obtain ⟨b, hbe⟩ : ∃ b, b = x0.getD i [] := ⟨_, rfl⟩
      have hb0 : x0[i] = b := by rw [hbe, List.getD_eq_getElem?_getD, List.getElem?_eq_getElem hlt]; rfl
      have e2 : (x0.map n2).getD i z35 = n2 b := by rw [List.getD_eq_getElem?_getD, List.getElem?_map, List.getElem?_eq_getElem hlt, hb0]; rfl
      have e3 : (x0.map n3).getD i z35 = n3 b := by rw [List.getD_eq_getElem?_getD, List.getElem?_map, List.getElem?_eq_getElem hlt, hb0]; rfl
      obtain ⟨ad, cs, ead, hcl, hK, hcell⟩ := Kd.C_get (Kd.C_below (Kd.C_below HR.out HB6.out) HBR.out) [] (i : Int) (by omega) (by omega)
      subst ead
      rw [Int.toNat_natCast, ← hbe] at hK
      obtain ⟨A1, c1, rfl, hc1, hCb⟩ := hK
      have hce := hcell 0 _ rfl
      rw [Int.toNat_natCast, show i * (Kd.slice 5 (Kd.int .u8)).sz + 0 = i from Nat.mul_one i] at hce
      obtain ⟨at_, A2, c2, eat, ht0, _, ht2, _, hc2, hC2⟩ := at_T35 (Kd.C_below HCT.out HBR.out) (i : Int) (by omega) (by omega)
      subst eat
      have ef2 : rd_T35 (x0.map n2) (i : Int) = n2 b := e2
      rw [ef2, Int.toNat_natCast] at ht0 ht2
      rw [ef2] at hc2 hC2
      obtain ⟨ab_, A3, c3, eab, hv0, _, hv2, _, hc3, hC3⟩ := at_T35 (Kd.C_below HCB.out HBR.out) (i : Int) (by omega) (by omega)
      subst eab
      have ef3 : rd_T35 (x0.map n3) (i : Int) = n3 b := e3
      rw [ef3, Int.toNat_natCast] at hv0 hv2
      rw [ef3] at hc3 hC3
      replace ht0 : wr.cell? (at_.add (i * 4)) = some (.int .u8 2) := ht0
      replace ht2 : wr.cell? ⟨(at_.add (i * 4)).block, (at_.add (i * 4)).off + 2, none⟩ = some (.slice A2 b.length c2) := ht2
      replace hv0 : wr.cell? (ab_.add (i * 4)) = some (.int .u8 3) := hv0
      replace hv2 : wr.cell? ⟨(ab_.add (i * 4)).block, (ab_.add (i * 4)).off + 2, none⟩ = some (.slice A3 b.length c3) := hv2
      replace hC2 : Kd.C (Kd.int .u8) wr A2 b.length b := hC2
      replace hC3 : Kd.C (Kd.int .u8) wr A3 b.length b := hC3
      have HC1 := Aside0.mk hCb
      have HC2 := Aside0.mk hC2
      have HC3 := Aside0.mk hC3
      clear hcl hcell hbe hb0 e2 e3 ef2 ef3 hCb hC2 hC3 hc1 hc2 hc3
      have hst : ((strOfNums b).toList == (strOfNums b).toList) = true := beq_self_eq_true _
      have hsn : ((strOfNums b).toList != (strOfNums b).toList) = false := by rw [bne, hst]; rfl
      go_upto_region 21 with fail
      refine wp_region_noPanic ?_
      refine wp_region_held_drew (S := fun w' => Aside0 (wr.drew = w') ∧ w'.cell? (ad.add i) = some (.slice A1 b.length c1) ∧ w'.cell? (at_.add (i * 4)) = some (.int .u8 2) ∧ w'.cell? ⟨(at_.add (i * 4)).block, (at_.add (i * 4)).off + 2, none⟩ = some (.slice A2 b.length c2) ∧ w'.cell? (ab_.add (i * 4)) = some (.int .u8 3) ∧ w'.cell? ⟨(ab_.add (i * 4)).block, (ab_.add (i * 4)).off + 2, none⟩ = some (.slice A3 b.length c3) ∧ (convert 26 9 (.slice A1 b.length c1)).run Tryd.prog w' = .ok (.string (strOfNums b)) w' ∧ (convert 26 9 (.slice A2 b.length c2)).run Tryd.prog w' = .ok (.string (strOfNums b)) w' ∧ (convert 26 9 (.slice A3 b.length c3)).run Tryd.prog w' = .ok (.string (strOfNums b)) w') (by kernel_rfl) (⟨⟨rfl⟩, hce, ht0, ht2, hv0, hv2, Kd.C_string Tryd.underlying26 Tryd.underlying5 Tryd.underlying9 (Kd.C_drew HC1.out), Kd.C_string Tryd.underlying26 Tryd.underlying5 Tryd.underlying9 (Kd.C_drew HC2.out), Kd.C_string Tryd.underlying26 Tryd.underlying5 Tryd.underlying9 (Kd.C_drew HC3.out)⟩) (fun hHeld => ?_)
      refine takeP 0 68 ?_
      refine takeP 1 69 ?_
      refine takeP 2 70 ?_
      refine takeP 3 71 ?_
      refine takeP 4 72 ?_
      refine takeP 5 73 ?_
      refine takeP 6 74 ?_
      refine takeP 7 75 ?_
      refine takeP 8 76 ?_
      refine takeP 9 77 ?_
      refine takeP 10 78 ?_
      refine takeP 11 79 ?_
      refine takeP 12 80 ?_
      refine takeP 13 81 ?_
      refine takeP 14 82 ?_
      refine takeP 15 83 ?_
      refine takeP 16 84 ?_
      refine takeP 17 85 ?_
      refine takeP 18 86 ?_
      refine takeP 19 87 ?_
      refine takeP 20 88 ?_
      refine takeP 21 89 ?_
      refine takeP 22 90 ?_
      refine takeP 23 91 ?_
      refine takeP 24 92 ?_
      refine takeP 25 93 ?_
      refine takeP 26 94 ?_
      refine takeP 27 95 ?_
      refine takeP 28 96 ?_
      refine takeP 29 97 ?_
      refine takeP 30 98 ?_
      refine takeP 31 99 ?_
      refine takeP 32 100 ?_
      refine takeP 33 101 ?_
      refine takeP 34 102 ?_
      refine takeP 35 103 ?_
      refine takeP 36 104 ?_
      refine takeP 37 105 ?_
      refine takeP 38 106 ?_
      refine takeP 39 107 ?_
      refine takeP 40 108 ?_
      refine takeP 41 109 ?_
      refine wpAnyH_done (by kernel_rfl) ?_ _
      refine NoPanic.normal ?_
      clear hHeld
      go_wp2_with fail
      go_roundg (x0.length - (i + 1))
      case measure => have := HI.out; omega
      case rel => exact ⟨i + 1, by rw [hwi, show ((i + 1 : Nat) : Int) = (i : Int) + 1 by omega], by omega, below_drew HBR.out⟩
     ·have hie : i = x0.length := by have := HI.out; omega
      subst hie
      go_wp2_with fail
      refine (fixed_yes _).mono ?_
      rintro e w9 ⟨rfl, hb⟩
      have HB9 := Aside0.mk (below_step (below_step HB6.out HBR.out) hb)
      clear hb
      go_wp2_with fail
      go_ret
      exact ⟨rfl, HB9.out⟩
end Go.Proofs.YtpmeapdcjmaeiaaDoor
