/- What the law's row rests on, part 13. -/
import Derived.Test.YtpmeapdcjmaeiaaGreatDoorZ12
import Derived.Deep.LoopGhost
import Derived.Deep.DeepCutAuto
import Derived.Deep.CutBlock
import Derived.Outline
set_option linter.unusedVariables false
set_option linter.unusedSimpArgs false
set_option maxRecDepth 100000
set_option maxHeartbeats 16000000
namespace Go.Proofs.YtpmeapdcjmaeiaaGreatDoor
open Go.RowKit Go.Wa Go.Wb Go.Wc PAll U
theorem wfq8 {x : Int} (h : (Lit.int .u8 x).wf = true) : 0 ≤ x ∧ x ≤ 255 := by simpa [Lit.wf, IntKind.min, IntKind.max, IntKind.signed, IntKind.bits] using h
theorem wfq32 {x : Int} (h : (Lit.int .u32 x).wf = true) : 0 ≤ x ∧ x ≤ 4294967295 := by simpa [Lit.wf, IntKind.min, IntKind.max, IntKind.signed, IntKind.bits] using h
theorem C_nil32 (w : World) : Kd.C (Kd.int .u32) w none 0 [] := (Kd.R_reads' (Kd.R_nil (Kd.int .u32) 35 w 0 (fun _ => True))).2.2
theorem close_mM (cl : Bool) (ks : List Int) (k : Int) (o : List Int) (c : Int) (r : ByteArray) : closeT (mM cl ks k o) c r = putM { mM cl ks k o with sent := true } true 8 (dataC c r) := by
 rw [closeT_eq rfl]
 rfl
def PuR (w0 : World) (ta tb : Nat) (x0 : List Int) (k : Int) (Mo : TM) (Io : TI) (vS : Value) (mo : List (List Int)) (TB : Nat → Prop) (n : Nat) (mu : Nat) (sv iv : Value) (wr : World) : Prop := ∃ (i : Nat) (I : TI) (ky : Int) (o : List Int) (qs : List Pc) (ms : List (List Int)) (As : Option Addr) (cs : Nat), iv = .int .i64 (i : Nat) ∧ sv = .slice As ms.length cs ∧ i + mu = n ∧ Two w0 wr ta (mM true x0 ky o) I tb Mo Io ∧ Sn (mM true x0 ky o) ms k qs [] [] ∧ ms.length ≤ i ∧ (Kd.fixed (Kd.slice 5 (Kd.int .u8)) w0).R 27 wr w0.heap.size TB vS mo ∧ (∀ k, TB k → ¬ F2 ta (mM true x0 ky o) I tb Mo Io k ∧ k < wr.heap.size) ∧ (Kd.fixed (Kd.slice 5 (Kd.int .u8)) w0).R 27 wr w0.heap.size (fun k => ¬ F2 ta (mM true x0 ky o) I tb Mo Io k ∧ ¬ TB k) (.slice As ms.length cs) ms
def PdR (w0 : World) (ta tb : Nat) (x0 : List Int) (k : Int) (Mo : TM) (Io : TI) (vS : Value) (mo : List (List Int)) (TB : Nat → Prop) (n : Nat) (mu : Nat) (sv iv : Value) (wr : World) : Prop := ∃ (i : Nat) (I : TI) (ky : Int) (o : List Int) (qs : List Pc) (ms : List (List Int)) (As : Option Addr) (cs : Nat), iv = .int .i64 (i : Nat) ∧ sv = .slice As ms.length cs ∧ i + mu = n ∧ Two w0 wr ta Mo Io tb (mM false x0 ky o) I ∧ Sn (mM false x0 ky o) ms k qs [] [] ∧ ms.length ≤ i ∧ (Kd.fixed (Kd.slice 5 (Kd.int .u8)) w0).R 27 wr w0.heap.size TB vS mo ∧ (∀ k, TB k → ¬ F2 ta Mo Io tb (mM false x0 ky o) I k ∧ k < wr.heap.size) ∧ (Kd.fixed (Kd.slice 5 (Kd.int .u8)) w0).R 27 wr w0.heap.size (fun k => ¬ F2 ta Mo Io tb (mM false x0 ky o) I k ∧ ¬ TB k) (.slice As ms.length cs) ms
def PcR (w0 : World) (ta tb : Nat) (k : Int) (far : Bool) (p : Int) (msA msB : List (List Int)) (qa qb : List Pc) (vS vB : Value) (TB : Nat → Prop) (wr : World) : Prop := ∃ (A B : TM) (Ia Ib : TI) (ca cb : List Pc), Two w0 wr ta A Ia tb B Ib ∧ Pl k far p msA msB 0 A B qa ca [] qb cb [] [] [] false false ∧ (Kd.fixed (Kd.slice 5 (Kd.int .u8)) w0).R 27 wr w0.heap.size TB vS msA ∧ (Kd.fixed (Kd.slice 5 (Kd.int .u8)) w0).R 27 wr w0.heap.size TB vB msB ∧ (∀ k, TB k → ¬ F2 ta A Ia tb B Ib k ∧ k < wr.heap.size)
def PeR (w0 : World) (ta tb : Nat) (k : Int) (far : Bool) (p : Int) (msA msB : List (List Int)) (qa qb : List Pc) (vS vB : Value) (TB : Nat → Prop) (i : Nat) (gv hv av bv : Value) (wr : World) : Prop := ∃ (A B : TM) (Ia Ib : TI) (ca : List Pc) (FA : List Int) (cb : List Pc) (FB : List Int) (got had : List (List Int)) (Ag Ah : Option Addr) (cg ch : Nat) (ae be : Bool) (D : Nat → Prop), gv = .slice Ag got.length cg ∧ hv = .slice Ah had.length ch ∧ av = .bool ae ∧ bv = .bool be ∧ Two w0 wr ta A Ia tb B Ib ∧ Pl k far p msA msB i A B qa ca FA qb cb FB got had ae be ∧ (Kd.fixed (Kd.slice 5 (Kd.int .u8)) w0).R 27 wr w0.heap.size TB vS msA ∧ (Kd.fixed (Kd.slice 5 (Kd.int .u8)) w0).R 27 wr w0.heap.size TB vB msB ∧ (∀ k, TB k ∨ D k → ¬ F2 ta A Ia tb B Ib k ∧ k < wr.heap.size) ∧ (∀ k, D k → ¬ TB k) ∧ (Kd.slice 5 (Kd.int .u8)).R 27 wr w0.heap.size (fun k => ¬ F2 ta A Ia tb B Ib k ∧ ¬ (TB k ∨ D k)) (.slice Ag got.length cg) got ∧ (Kd.slice 5 (Kd.int .u8)).R 27 wr w0.heap.size D (.slice Ah had.length ch) had
def PmR (w0 : World) (ta tb : Nat) (k : Int) (far : Bool) (p : Int) (msA msB : List (List Int)) (qa qb : List Pc) (vS vB : Value) (TB : Nat → Prop) (mu : Nat) (gv hv av bv iv : Value) (wr : World) : Prop := ∃ i : Nat, iv = .int .i64 (i : Nat) ∧ i + mu = 2000 ∧ PeR w0 ta tb k far p msA msB qa qb vS vB TB i gv hv av bv wr
def PgR (w0 : World) (S ta : Nat) (A : TM) (Ia : TI) (tb : Nat) (B : TM) (Ib : TI) (TB G O : Nat → Prop) (vS vB vO : Value) (msA msB ot gz : List (List Int)) (gv : Value) (wr : World) : Prop := ∃ (Ag : Option Addr) (cg : Nat), gv = .slice Ag gz.length cg ∧ S ≤ wr.heap.size ∧ Two w0 wr ta A Ia tb B Ib ∧ (Kd.fixed (Kd.slice 5 (Kd.int .u8)) w0).R 27 wr w0.heap.size TB vS msA ∧ (Kd.fixed (Kd.slice 5 (Kd.int .u8)) w0).R 27 wr w0.heap.size TB vB msB ∧ (Kd.slice 5 (Kd.int .u8)).R 27 wr w0.heap.size O vO ot ∧ (Kd.slice 5 (Kd.int .u8)).R 27 wr w0.heap.size G (.slice Ag gz.length cg) gz
def PnR (w0 : World) (S ta : Nat) (A : TM) (Ia : TI) (tb : Nat) (B : TM) (Ib : TI) (TB G O okN : Nat → Prop) (vS vB vO : Value) (msA msB ot g0 n2 : List (List Int)) (An : Option Addr) (cn : Nat) (ns : List Nt) (mu : Nat) (gv iv : Value) (wr : World) : Prop := ∃ (j : Nat) (g : List (List Int)) (Ag : Option Addr) (cg : Nat), iv = .int .i64 (j : Nat) ∧ gv = .slice Ag g.length cg ∧ g = g0 ++ n2.take j ∧ j + mu = ns.length ∧ S ≤ wr.heap.size ∧ Two w0 wr ta A Ia tb B Ib ∧ (Kd.fixed (Kd.slice 5 (Kd.int .u8)) w0).R 27 wr w0.heap.size TB vS msA ∧ (Kd.fixed (Kd.slice 5 (Kd.int .u8)) w0).R 27 wr w0.heap.size TB vB msB ∧ (Kd.slice 5 (Kd.int .u8)).R 27 wr w0.heap.size O vO ot ∧ (Kd.slice 5 (Kd.int .u8)).R 27 wr w0.heap.size G (.slice Ag g.length cg) g ∧ k37.R 37 wr w0.heap.size okN (.slice An ns.length cn) ns ∧ ∀ k, (Value.slice Ag g.length cg).ownBlock = some k → ¬ okN k
theorem Pure.TunnelPairs : Says.TunnelPairs := by
 intro A0 c0 x0 A1 c1 x1 A2 c2 x2 x3 x4 x5 w l0 r0 o0 l1 r1 o1 l2 r2 o2 o3 o5 hg
 have hinfo : (Tryz.prog.info? 27).map (fun i => (i.zero, i.size, i.bytes)) = some (some (.slice none 0 0), 1, 24) := by kernel_rfl
 have HI0 := a_ hinfo
 clear hinfo
 have HR1 := a_ r1
 have HR2 := a_ r2
 have HR0 := a_ r0
 have HX1 : Aside0 (∀ b ∈ x1, ∀ x ∈ b, 0 ≤ x ∧ x ≤ 255) := ⟨fun b hb x hx => wfq8 ((o1.1 b hb).1 x hx)⟩
 have HX2 : Aside0 (∀ b ∈ x2, ∀ x ∈ b, 0 ≤ x ∧ x ≤ 255) := ⟨fun b hb x hx => wfq8 ((o2.1 b hb).1 x hx)⟩
 have HK0 : Aside0 (∀ x ∈ x0, 0 ≤ x ∧ x ≤ 4294967295) := ⟨fun x hx => wfq32 (o0.1 x hx)⟩
 have HP5 := a_ (wfq8 o5)
 have HL0 := a_ l0
 have HL1 := a_ l1
 have HL2 := a_ l2
 have HCO := a_ hg
 clear r0 o0 l0 r1 o1 l1 r2 o2 l2 o3 o5 hg
 go_enter Tryz.func4, Tryz.ntmps4
 by_cases hq0 : (40 : Int) < (x1.length : Int)
 ·go_wp2_with fail
  refine (fixed_yes _).mono ?_
  rintro e w1 ⟨rfl, hb⟩
  go_wp2_with fail
  go_ret
  exact ⟨rfl, hb⟩
 ·by_cases hq1 : (40 : Int) < (x2.length : Int)
  ·go_wp2_with fail
   refine (fixed_yes _).mono ?_
   rintro e w1 ⟨rfl, hb⟩
   go_wp2_with fail
   go_ret
   exact ⟨rfl, hb⟩
  ·by_cases hq2 : (1000 : Int) < (x0.length : Int)
   ·go_wp2_with fail
    refine (fixed_yes _).mono ?_
    rintro e w1 ⟨rfl, hb⟩
    go_wp2_with fail
    go_ret
    exact ⟨rfl, hb⟩
   ·have HN : Aside0 (x1.length ≤ 40 ∧ x2.length ≤ 40 ∧ x0.length ≤ 1000) := ⟨by omega⟩
    go_wp2_with fail
    refine (tnew (Below.refl w.heap.size w) true (keys := x0) (A := A0) (c := c0) (HR0.out) HL0.out HK0.out (by have := HN.out; omega)).mono ?_
    rintro e w1 ⟨ta, Ia, rfl, hTa, hb1, hla⟩
    have HTa := a_ hTa
    have HB1 := a_ hb1
    have HLa := a_ hla
    clear hTa hb1 hla
    go_wp2_with fail
    refine (tnew HB1.out false (keys := []) (A := none) (c := 0) (C_nil32 w1) (Nat.le_refl _) (fun x hx => by cases hx) (Nat.zero_le _)).mono ?_
    rintro e w2 ⟨tb, Ib, rfl, hTb, hb2, hlb⟩
    have HT2 : Aside0 (Two w w2 ta (mM true x0 0 []) Ia tb (mM false [] 0 []) Ib) := ⟨⟨HTa.out.below hb2, hTb, fun k h1 h2 => by have := HTa.out.lt h1; have := hlb k h2; omega, fun k h1 => HLa.out k h1, fun k h1 => Nat.le_trans HB1.out.size (hlb k h1)⟩⟩
    clear hTb hb2 hlb HTa HB1 HLa hq0 hq1 hq2
    go_wp2_with fail
    go_loopg [15, 52] x1.length (fun mu sv iv wr => PuR w ta tb x0 (codK x3) (mM false [] 0 []) Ib (.slice none 0 0) [] (fun _ => False) x1.length mu sv iv wr)
    case atStart => exact ⟨0, Ia, 0, [], [], [], none, 0, rfl, rfl, by omega, HT2.out, Sn.new true x0 _ HK0.out, Nat.le_refl _, Kd.R_nil _ _ _ _ _, fun _ h => h.elim, Kd.R_nil _ _ _ _ _⟩
    case round =>
     clear HT2
     obtain ⟨i, I, ky, o, qs, ms, As, cs, rfl, rfl, hi, hT, hS, hml, hrs, htb, hrm⟩ := hrel
     have HT := a_ hT
     have HI := a_ hi
     have HSN := a_ hS
     have HML := a_ hml
     have HRS := a_ hrs
     have HTB := a_ htb
     have HRM := a_ hrm
     clear hT hi hS hml hrs htb hrm
     by_cases hlt : i < x1.length
     ·as_aux_lemma =>
       have hwi : wrap64 ((i : Int) + 1) = (i : Int) + 1 := by have := HN.out; unfold wrap64; omega
       obtain ⟨b, hbe⟩ : ∃ b, b = x1.getD i [] := ⟨_, rfl⟩
       have hb0 : x1[i] = b := by rw [hbe, List.getD_eq_getElem?_getD, List.getElem?_eq_getElem hlt]; rfl
       have hbm : b ∈ x1 := hb0 ▸ List.getElem_mem hlt
       obtain ⟨ad, cs_, ead, hcl, hK, hcell⟩ := Kd.C_get HR1.out [] (i : Int) (by omega) (by omega)
       subst ead
       rw [Int.toNat_natCast, ← hbe] at hK
       obtain ⟨Ab, cb, rfl, hcb, hCb⟩ := hK
       have hce0 := hcell 0 _ rfl
       rw [Int.toNat_natCast, show i * (Kd.slice 5 (Kd.int .u8)).sz + 0 = i from Nat.mul_one i] at hce0
       have hce := (HT.out.a.bel.cell (World.block_lt_of_cell? _ _ hce0)).trans hce0
       have HBB := a_ (HX1.out b hbm)
       have HCb := a_ hCb
       have HC1 := a_ hcb
       clear hce0 hcell hcl hbe hb0 hbm hCb hcb
       by_cases hbig : (500 : Int) < (b.length : Int)
       ·go_wp2_with fail
        refine (fixed_yes _).mono ?_
        rintro e w5 ⟨rfl, hb⟩
        have HB9 := a_ (below_step HT.out.a.bel hb)
        clear hb
        go_wp2_with fail
        go_ret
        exact ⟨rfl, HB9.out⟩
       ·have HBL : Aside0 (b.length ≤ 500) := ⟨by omega⟩
        have hc5 : wrap64 x5 = x5 := by have := HP5.out; unfold wrap64; omega
        have hd5 : wrap64 (1 + x5) = 1 + x5 := by have := HP5.out; unfold wrap64; omega
        go_wp2_with fail
        refine (tsendG HT.out.a (b := b) (most := 1 + x5) rfl rfl (Ap.of_low HCb.out HT.out.a.bel HT.out.la) HC1.out HBB.out (by have := HBL.out; omega) (by have := HSN.out.bound.2.1; omega) (by have := HSN.out.bound.2.2.1; omega)).mono ?_
        rintro e w5 ⟨cs5, hcp, hcase⟩
        rcases hcase with ⟨hfit, rfl, vo5, hT5, hK5⟩ | ⟨hfull, rfl, hT5, hK5⟩
        ·obtain ⟨rs, hsn⟩ := HSN.out.send hcp (mostC_pos _).2 (by have := HBL.out; omega) HBB.out hfit rfl
         obtain ⟨k5, o5, e5⟩ := sendAll_mM true x0 ky o cs5
         obtain ⟨I5, hI5⟩ : ∃ I3 : TI, I3 = { I with vo := vo5 } := ⟨_, rfl⟩
         obtain ⟨mz, hmz⟩ : ∃ l, l = ms ++ [b] := ⟨_, rfl⟩
         rw [e5] at hT5 hK5 hsn
         rw [← hI5] at hT5 hK5
         rw [← hmz] at hsn
         have HMZ := a_ hmz
         have HK5 := a_ (F2.kfA (tb := tb) (Mb := mM false [] 0 []) (Ib := Ib) hK5)
         have HT5 := a_ (HT.out.stepA hT5 hK5)
         have HS5 := a_ hsn
         have HRS5 := a_ (row_tb HRS.out HTB.out HK5.out)
         have HTB5 := a_ (tb_kf HTB.out HK5.out)
         have HRM5 := a_ (row_kf HRM.out HK5.out)
         have HFR : Aside0 (∀ k, w5.heap.size ≤ k → (¬ F2 ta (mM true x0 k5 o5) I5 tb (mM false [] 0 []) Ib k ∧ ¬ (fun _ => False) k)) := ⟨fun k hk => ⟨fun e => by have := HT5.out.lt e; omega, fun e => by have := (HTB5.out k e).2; omega⟩⟩
         have HLL : Aside0 ((ms.length + 1) * 24 ≤ 140737488355328) := ⟨by have := HML.out; have := HN.out; omega⟩
         clear hcp hfit hT5 hK5 e5 hsn hI5 hmz HT HSN HRS HTB HRM HK5
         go_wp2_with (at_builtin; refine Kd.R_append (Kd.fixed (Kd.slice 5 (Kd.int .u8)) w) (w0 := w) w.heap.size rfl (.tmp 67) (.tmp 69) 23 27 (.slice none 0 0) 24 rfl Tryz.underlying23 HI0.out rfl (show 0 < 1 from by decide) (by decide) (.slice As ms.length cs) ms b [.slice Ab b.length cb] (fun k => ¬ F2 ta (mM true x0 k5 o5) I5 tb (mM false [] 0 []) Ib k ∧ ¬ (fun _ => False) k) (fun _ => False) rfl rfl ?aP (fun _ h => h.elim) HFR.out HRM5.out HT5.out.a.bel HT5.out.a.bel.size HLL.out ?_; (case aP => exact ⟨Ab, cb, rfl, HC1.out, HCb.out⟩); intro v9 w9 hR9 hB9 hg9 hat9; rw [← HMZ.out] at hR9; (obtain ⟨A9, c9, e9⟩ := Kd.R_slice hR9); subst e9; have HR9 := a_ hR9; have HB9 := a_ hB9; have HG9 := a_ hg9; clear hR9 hB9 hg9 hat9)
         have HT9 := a_ (HT5.out.move HB9.out (fun k hk => HG9.out.block k (HT5.out.lt hk) (fun e => (HRM5.out.1 k e.symm).1 hk)))
         have HRS9 := a_ (Kd.R_step HRS5.out (fun k hk hl => HG9.out.block k hl (fun e => (HRM5.out.1 k e.symm).2 hk)))
         have HTB9 : Aside0 (∀ k, (fun _ => False) k → ¬ F2 ta (mM true x0 k5 o5) I5 tb (mM false [] 0 []) Ib k ∧ k < w9.heap.size) := ⟨fun k hk => ⟨(HTB5.out k hk).1, Nat.lt_of_lt_of_le (HTB5.out k hk).2 HG9.out.size⟩⟩
         go_roundg (x1.length - (i + 1))
         case measure => have := HI.out; omega
         case rel => exact ⟨i + 1, _, _, _, _, mz, A9, c9, by first | rw [hwi, show ((i + 1 : Nat) : Int) = (i : Int) + 1 by omega] | rw [show ((i + 1 : Nat) : Int) = (i : Int) + 1 by omega], rfl, (by have := HI.out; omega), HT9.out, HS5.out, (by rw [HMZ.out, List.length_append]; have := HML.out; simp only [List.length_cons, List.length_nil]; omega), HRS9.out, HTB9.out, HR9.out⟩
        ·have HK5 := a_ (F2.kfA (tb := tb) (Mb := mM false [] 0 []) (Ib := Ib) hK5)
         have HT5 := a_ (HT.out.stepA hT5 hK5)
         have HRS5 := a_ (row_tb HRS.out HTB.out HK5.out)
         have HTB5 := a_ (tb_kf HTB.out HK5.out)
         have HRM5 := a_ (row_kf HRM.out HK5.out)
         clear hcp hfull hT5 hK5 HT HRS HTB HRM HK5
         go_wp2_with fail
         go_roundg (x1.length - (i + 1))
         case measure => have := HI.out; omega
         case rel => exact ⟨i + 1, _, _, _, _, ms, As, cs, by first | rw [hwi, show ((i + 1 : Nat) : Int) = (i : Int) + 1 by omega] | rw [show ((i + 1 : Nat) : Int) = (i : Int) + 1 by omega], rfl, (by have := HI.out; omega), HT5.out, HSN.out, (by have := HML.out; omega), HRS5.out, HTB5.out, HRM5.out⟩
     ·as_aux_lemma =>
       have hie : i = x1.length := by have := HI.out; omega
       subst hie
       obtain ⟨Ia1, ka, oa, qa, msA, hall⟩ : ∃ (a : TI) (b : Int) (c : List Int) (d : List Pc) (e : List (List Int)), a = I ∧ b = ky ∧ c = o ∧ d = qs ∧ e = ms := ⟨_, _, _, _, _, rfl, rfl, rfl, rfl, rfl⟩
       obtain ⟨rfl, rfl, rfl, rfl, rfl⟩ := hall
       obtain ⟨TB1, hTB⟩ : ∃ P : Nat → Prop, P = (fun k => ¬ F2 ta (mM true x0 ka oa) Ia1 tb (mM false [] 0 []) Ib k ∧ k < wr.heap.size) := ⟨_, rfl⟩
       have HTB1 : Aside0 (∀ k, TB1 k → ¬ F2 ta (mM true x0 ka oa) Ia1 tb (mM false [] 0 []) Ib k ∧ k < wr.heap.size) := ⟨fun k hk => by rw [hTB] at hk; exact hk⟩
       have HRS1 : Aside0 ((Kd.fixed (Kd.slice 5 (Kd.int .u8)) w).R 27 wr w.heap.size TB1 (.slice As msA.length cs) msA) := ⟨Kd.R_mono (Kd.R_bound HRM.out) (fun k hk => by rw [hTB]; exact ⟨hk.1.1, hk.2.2.1⟩)⟩
       clear hTB
       have HSA := a_ HSN.out
       have HT3 := a_ HT.out
       have HML1 := a_ HML.out
       clear HT HSN HML HRS HTB HRM HI hlt
       go_wp2_with fail
       go_loopg [16, 74] x2.length (fun mu sv iv wr => PdR w ta tb [] (codK x3) (mM true x0 ka oa) Ia1 (.slice As msA.length cs) msA TB1 x2.length mu sv iv wr)
       case atStart => exact ⟨0, Ib, 0, [], [], [], none, 0, rfl, rfl, by omega, HT3.out, Sn.new false [] _ (fun x hx => by cases hx), Nat.le_refl _, HRS1.out, HTB1.out, Kd.R_nil _ _ _ _ _⟩
       case round =>
        clear HT3 HRS1 HTB1
        obtain ⟨i, I, ky, o, qs, ms, Bs, ds, rfl, rfl, hi, hT, hS, hml, hrs, htb, hrm⟩ := hrel
        have HT := a_ hT
        have HI := a_ hi
        have HSN := a_ hS
        have HML := a_ hml
        have HRS := a_ hrs
        have HTB := a_ htb
        have HRM := a_ hrm
        clear hT hi hS hml hrs htb hrm
        by_cases hlt : i < x2.length
        ·as_aux_lemma =>
          have hwi : wrap64 ((i : Int) + 1) = (i : Int) + 1 := by have := HN.out; unfold wrap64; omega
          obtain ⟨b, hbe⟩ : ∃ b, b = x2.getD i [] := ⟨_, rfl⟩
          have hb0 : x2[i] = b := by rw [hbe, List.getD_eq_getElem?_getD, List.getElem?_eq_getElem hlt]; rfl
          have hbm : b ∈ x2 := hb0 ▸ List.getElem_mem hlt
          obtain ⟨ad, cs_, ead, hcl, hK, hcell⟩ := Kd.C_get HR2.out [] (i : Int) (by omega) (by omega)
          subst ead
          rw [Int.toNat_natCast, ← hbe] at hK
          obtain ⟨Ab, cb, rfl, hcb, hCb⟩ := hK
          have hce0 := hcell 0 _ rfl
          rw [Int.toNat_natCast, show i * (Kd.slice 5 (Kd.int .u8)).sz + 0 = i from Nat.mul_one i] at hce0
          have hce := (HT.out.a.bel.cell (World.block_lt_of_cell? _ _ hce0)).trans hce0
          have HBB := a_ (HX2.out b hbm)
          have HCb := a_ hCb
          have HC1 := a_ hcb
          clear hce0 hcell hcl hbe hb0 hbm hCb hcb
          by_cases hbig : (500 : Int) < (b.length : Int)
          ·go_wp2_with fail
           refine (fixed_yes _).mono ?_
           rintro e w5 ⟨rfl, hb⟩
           have HB9 := a_ (below_step HT.out.a.bel hb)
           clear hb
           go_wp2_with fail
           go_ret
           exact ⟨rfl, HB9.out⟩
          ·have HBL : Aside0 (b.length ≤ 500) := ⟨by omega⟩
           have hc5 : wrap64 x5 = x5 := by have := HP5.out; unfold wrap64; omega
           have hd5 : wrap64 (1 + x5) = 1 + x5 := by have := HP5.out; unfold wrap64; omega
           go_wp2_with fail
           refine (tsendG HT.out.b (b := b) (most := 1 + x5) rfl rfl (Ap.of_low HCb.out HT.out.a.bel HT.out.lb) HC1.out HBB.out (by have := HBL.out; omega) (by have := HSN.out.bound.2.1; omega) (by have := HSN.out.bound.2.2.1; omega)).mono ?_
           rintro e w5 ⟨cs5, hcp, hcase⟩
           rcases hcase with ⟨hfit, rfl, vo5, hT5, hK5⟩ | ⟨hfull, rfl, hT5, hK5⟩
           ·obtain ⟨rs, hsn⟩ := HSN.out.send hcp (mostC_pos _).2 (by have := HBL.out; omega) HBB.out hfit rfl
            obtain ⟨k5, o5, e5⟩ := sendAll_mM false [] ky o cs5
            obtain ⟨I5, hI5⟩ : ∃ I3 : TI, I3 = { I with vo := vo5 } := ⟨_, rfl⟩
            obtain ⟨mz, hmz⟩ : ∃ l, l = ms ++ [b] := ⟨_, rfl⟩
            rw [e5] at hT5 hK5 hsn
            rw [← hI5] at hT5 hK5
            rw [← hmz] at hsn
            have HMZ := a_ hmz
            have HK5 := a_ (F2.kfB (ta := ta) (Ma := mM true x0 ka oa) (Ia := Ia1) hK5)
            have HT5 := a_ (HT.out.stepB hT5 hK5)
            have HS5 := a_ hsn
            have HRS5 := a_ (row_tb HRS.out HTB.out HK5.out)
            have HTB5 := a_ (tb_kf HTB.out HK5.out)
            have HRM5 := a_ (row_kf HRM.out HK5.out)
            have HFR : Aside0 (∀ k, w5.heap.size ≤ k → (¬ F2 ta (mM true x0 ka oa) Ia1 tb (mM false [] k5 o5) I5 k ∧ ¬ TB1 k)) := ⟨fun k hk => ⟨fun e => by have := HT5.out.lt e; omega, fun e => by have := (HTB5.out k e).2; omega⟩⟩
            have HLL : Aside0 ((ms.length + 1) * 24 ≤ 140737488355328) := ⟨by have := HML.out; have := HN.out; omega⟩
            clear hcp hfit hT5 hK5 e5 hsn hI5 hmz HT HSN HRS HTB HRM HK5
            go_wp2_with (at_builtin; refine Kd.R_append (Kd.fixed (Kd.slice 5 (Kd.int .u8)) w) (w0 := w) w.heap.size rfl (.tmp 89) (.tmp 91) 23 27 (.slice none 0 0) 24 rfl Tryz.underlying23 HI0.out rfl (show 0 < 1 from by decide) (by decide) (.slice Bs ms.length ds) ms b [.slice Ab b.length cb] (fun k => ¬ F2 ta (mM true x0 ka oa) Ia1 tb (mM false [] k5 o5) I5 k ∧ ¬ TB1 k) (fun _ => False) rfl rfl ?aP (fun _ h => h.elim) HFR.out HRM5.out HT5.out.a.bel HT5.out.a.bel.size HLL.out ?_; (case aP => exact ⟨Ab, cb, rfl, HC1.out, HCb.out⟩); intro v9 w9 hR9 hB9 hg9 hat9; rw [← HMZ.out] at hR9; (obtain ⟨A9, c9, e9⟩ := Kd.R_slice hR9); subst e9; have HR9 := a_ hR9; have HB9 := a_ hB9; have HG9 := a_ hg9; clear hR9 hB9 hg9 hat9)
            have HT9 := a_ (HT5.out.move HB9.out (fun k hk => HG9.out.block k (HT5.out.lt hk) (fun e => (HRM5.out.1 k e.symm).1 hk)))
            have HRS9 := a_ (Kd.R_step HRS5.out (fun k hk hl => HG9.out.block k hl (fun e => (HRM5.out.1 k e.symm).2 hk)))
            have HTB9 : Aside0 (∀ k, TB1 k → ¬ F2 ta (mM true x0 ka oa) Ia1 tb (mM false [] k5 o5) I5 k ∧ k < w9.heap.size) := ⟨fun k hk => ⟨(HTB5.out k hk).1, Nat.lt_of_lt_of_le (HTB5.out k hk).2 HG9.out.size⟩⟩
            go_roundg (x2.length - (i + 1))
            case measure => have := HI.out; omega
            case rel => exact ⟨i + 1, _, _, _, _, mz, A9, c9, by first | rw [hwi, show ((i + 1 : Nat) : Int) = (i : Int) + 1 by omega] | rw [show ((i + 1 : Nat) : Int) = (i : Int) + 1 by omega], rfl, (by have := HI.out; omega), HT9.out, HS5.out, (by rw [HMZ.out, List.length_append]; have := HML.out; simp only [List.length_cons, List.length_nil]; omega), HRS9.out, HTB9.out, HR9.out⟩
           ·have HK5 := a_ (F2.kfB (ta := ta) (Ma := mM true x0 ka oa) (Ia := Ia1) hK5)
            have HT5 := a_ (HT.out.stepB hT5 hK5)
            have HRS5 := a_ (row_tb HRS.out HTB.out HK5.out)
            have HTB5 := a_ (tb_kf HTB.out HK5.out)
            have HRM5 := a_ (row_kf HRM.out HK5.out)
            clear hcp hfull hT5 hK5 HT HRS HTB HRM HK5
            go_wp2_with fail
            go_roundg (x2.length - (i + 1))
            case measure => have := HI.out; omega
            case rel => exact ⟨i + 1, _, _, _, _, ms, Bs, ds, by first | rw [hwi, show ((i + 1 : Nat) : Int) = (i : Int) + 1 by omega] | rw [show ((i + 1 : Nat) : Int) = (i : Int) + 1 by omega], rfl, (by have := HI.out; omega), HT5.out, HSN.out, (by have := HML.out; omega), HRS5.out, HTB5.out, HRM5.out⟩
        ·as_aux_lemma =>
          have hie : i = x2.length := by have := HI.out; omega
          subst hie
          obtain ⟨Ib1, kb, ob, qb, msB, hall⟩ : ∃ (a : TI) (b : Int) (c : List Int) (d : List Pc) (e : List (List Int)), a = I ∧ b = ky ∧ c = o ∧ d = qs ∧ e = ms := ⟨_, _, _, _, _, rfl, rfl, rfl, rfl, rfl⟩
          obtain ⟨rfl, rfl, rfl, rfl, rfl⟩ := hall
          obtain ⟨TB, hTB⟩ : ∃ P : Nat → Prop, P = (fun k => ¬ F2 ta (mM true x0 ka oa) Ia1 tb (mM false [] kb ob) Ib1 k ∧ k < wr.heap.size) := ⟨_, rfl⟩
          have HTB0 : Aside0 (∀ k, TB k → ¬ F2 ta (mM true x0 ka oa) Ia1 tb (mM false [] kb ob) Ib1 k ∧ k < wr.heap.size) := ⟨fun k hk => by rw [hTB] at hk; exact hk⟩
          have HRB3 : Aside0 ((Kd.fixed (Kd.slice 5 (Kd.int .u8)) w).R 27 wr w.heap.size TB (.slice Bs msB.length ds) msB) := ⟨Kd.R_mono (Kd.R_bound HRM.out) (fun k hk => by rw [hTB]; exact ⟨hk.1.1, hk.2.2.1⟩)⟩
          have HRS3 : Aside0 ((Kd.fixed (Kd.slice 5 (Kd.int .u8)) w).R 27 wr w.heap.size TB (.slice As msA.length cs) msA) := ⟨Kd.R_mono HRS.out (fun k hk => by rw [hTB]; exact HTB.out k hk)⟩
          clear hTB
          have HSB := a_ HSN.out
          have HT3 := a_ HT.out
          have HTB := HTB0
          have HML2 := a_ HML.out
          clear HT HSN HML HRS HRM HI hlt HTB0
          go_upto_if 94 with fail
          go_cut [] (fun wc => PcR w ta tb (codK x3) x4 x5 msA msB qa qb (.slice As msA.length cs) (.slice Bs msB.length ds) TB wc)
          case first =>
           cases x4 with
           | true =>
            as_aux_lemma =>
             go_wp2_with fail
             refine (tclose HT3.out.b (code := x3) (reason := (⟨#[]⟩ : ByteArray)) (kc := 7000) (bears x3 _ (by decide) 7000 (Nat.le_refl _)) (codK_close x3).2 (by have := HSB.out.bound.2.1; omega) (by have := HSB.out.bound.2.2.1; omega)).mono ?_
             rintro e w5 ⟨rfl, vo5, hT5, hK5⟩
             rw [close_mM] at hT5 hK5
             obtain ⟨c5, hs5, _⟩ := HSB.out.close (M' := putM { mM false [] kb ob with sent := true } true 8 (dataC x3 (⟨#[]⟩ : ByteArray))) (codK_close x3).2.1 (codK_close x3).2.2 (codK_close x3).1 rfl rfl rfl rfl rfl rfl rfl
             have HT5 := a_ (HT3.out.stepB hT5 hK5)
             have HK5 := a_ (F2.kfB (ta := ta) (Ma := mM true x0 ka oa) (Ia := Ia1) hK5)
             have HS5 := a_ hs5
             clear hT5 hK5 hs5
             go_wp2_with fail
             go_meet
             case rel => exact ⟨_, _, _, _, _, _, HT5.out, Pl.start HSA.out HS5.out rfl rfl ((Rc.new false true [] msA _ qa).same rfl rfl rfl rfl rfl rfl rfl rfl (fun h => absurd rfl h)) ((Rc.new true false x0 msB _ qb).same rfl rfl rfl rfl rfl rfl rfl rfl (fun h => absurd rfl h)) rfl rfl rfl, row_tb HRS3.out HTB.out HK5.out, row_tb HRB3.out HTB.out HK5.out, tb_kf HTB.out HK5.out⟩
           | false =>
            as_aux_lemma =>
             go_wp2_with fail
             refine (tclose HT3.out.a (code := x3) (reason := (⟨#[]⟩ : ByteArray)) (kc := 7000) (bears x3 _ (by decide) 7000 (Nat.le_refl _)) (codK_close x3).2 (by have := HSA.out.bound.2.1; omega) (by have := HSA.out.bound.2.2.1; omega)).mono ?_
             rintro e w5 ⟨rfl, vo5, hT5, hK5⟩
             rw [close_mM] at hT5 hK5
             obtain ⟨c5, hs5, _⟩ := HSA.out.close (M' := putM { mM true x0 ka oa with sent := true } true 8 (dataC x3 (⟨#[]⟩ : ByteArray))) (codK_close x3).2.1 (codK_close x3).2.2 (codK_close x3).1 rfl rfl rfl rfl rfl rfl rfl
             have HT5 := a_ (HT3.out.stepA hT5 hK5)
             have HK5 := a_ (F2.kfA (tb := tb) (Mb := mM false [] kb ob) (Ib := Ib1) hK5)
             have HS5 := a_ hs5
             clear hT5 hK5 hs5
             go_wp2_with fail
             go_meet
             case rel => exact ⟨_, _, _, _, _, _, HT5.out, Pl.start HS5.out HSB.out rfl rfl ((Rc.new false true [] msA _ qa).same rfl rfl rfl rfl rfl rfl rfl rfl (fun h => absurd rfl h)) ((Rc.new true false x0 msB _ qb).same rfl rfl rfl rfl rfl rfl rfl rfl (fun h => absurd rfl h)) rfl rfl rfl, row_tb HRS3.out HTB.out HK5.out, row_tb HRB3.out HTB.out HK5.out, tb_kf HTB.out HK5.out⟩
          case rest =>
           as_aux_lemma =>
            obtain ⟨A, B, Ia, Ib2, ca, cb, hT, hpl, hrs, hrb, htb⟩ := hcut
            have HT0 := a_ hT
            have HPL0 := a_ hpl
            have HRS0 := a_ hrs
            have HRB0 := a_ hrb
            have HTB0 := a_ htb
            have HMS : Aside0 (msA.length ≤ 40 ∧ msB.length ≤ 40) := ⟨by have := HML1.out; have := HML2.out; have := HN.out; omega⟩
            clear hT hpl hrs hrb htb HT3 HRS3 HRB3 HTB HSA HSB HML1 HML2
            go_wp2_with fail
            go_loopg [21, 22, 23, 24, 101] 2000 (fun mu gv hv av bv iv wr => PmR w ta tb (codK x3) x4 x5 msA msB qa qb (.slice As msA.length cs) (.slice Bs msB.length ds) TB mu gv hv av bv iv wr)
            case atStart => exact ⟨0, rfl, rfl, A, B, Ia, Ib2, ca, [], cb, [], [], [], none, none, 0, 0, false, false, (fun _ => False), rfl, rfl, rfl, rfl, HT0.out, HPL0.out, HRS0.out, HRB0.out, (fun k hk => HTB0.out k (hk.elim id (fun h => h.elim))), (fun _ h => h.elim), Kd.R_nil _ _ _ _ _, Kd.R_nil _ _ _ _ _⟩
            case round =>
             clear HT0 HPL0 HRS0 HRB0 HTB0
             obtain ⟨i, rfl, hi, A, B, Ia, Ib, ca, FA, cb, FB, got, had, Ag, Ah, cg, ch, ae, be, D, rfl, rfl, rfl, rfl, hT, hpl, hrs, hrb, hz, hx, hrg, hrd⟩ := hrel
             have HI := a_ hi
             have HT := a_ hT
             have HPL := a_ hpl
             have HRS := a_ hrs
             have HRB := a_ hrb
             have HZ := a_ hz
             have HX := a_ hx
             have HRG := a_ hrg
             have HRD := a_ hrd
             clear hi hT hpl hrs hrb hz hx hrg hrd
             by_cases hlt : i < 2000
             ·as_aux_lemma =>
               have hwi : wrap64 ((i : Int) + 1) = (i : Int) + 1 := by unfold wrap64; omega
               have hl2 : (i : Int) < 2000 := by omega
               have hc5 : wrap64 x5 = x5 := by have := HP5.out; unfold wrap64; omega
               have hm3 : wrap64 (x5 * 3) = x5 * 3 := by have := HP5.out; unfold wrap64; omega
               have hd3 : wrap64 (1 + x5 * 3) = 1 + x5 * 3 := by have := HP5.out; unfold wrap64; omega
               have hm2 : wrap64 (x5 * 2) = x5 * 2 := by have := HP5.out; unfold wrap64; omega
               have hd2 : wrap64 (1 + x5 * 2) = 1 + x5 * 2 := by have := HP5.out; unfold wrap64; omega
               clear hlt
               go_upto_block 5 with fail
               go_cut [21, 22, 23, 24] (fun gv hv av bv wc => PeR w ta tb (codK x3) x4 x5 msA msB qa qb (.slice As msA.length cs) (.slice Bs msB.length ds) TB (i + 1) gv hv av bv wc)
               case rest =>
                clear hc5 hm3 hd3 hm2 hd2
                go_wp2_with fail
                go_roundg (2000 - (i + 1))
                case measure => have := HI.out; omega
                case rel => exact ⟨i + 1, by first | rw [hwi, show ((i + 1 : Nat) : Int) = (i : Int) + 1 by omega] | rw [show ((i + 1 : Nat) : Int) = (i : Int) + 1 by omega], (by have := HI.out; omega), hcut⟩
               clear hwi hl2
               go_wp2_with fail
               refine (tout HT.out.a (most := 1 + x5 * 3) (by have := HP5.out; omega) (by have := HPL.out.sa.bound.2.2.1; omega)).mono ?_
               rintro e w5 ho
               clear hm3 hd3
               obtain ⟨A1, e1, hout, ho1, hsn1, hcl1, hse1, hca1, hrc1, hen1, hen2⟩ := out_step HPL.out.sa (most := 1 + x5 * 3) (by have := HP5.out; omega)
               unfold OutP at ho
               rw [hout] at ho
               obtain ⟨xx, hxx⟩ : ∃ l, l = A.out.take (min (1 + x5 * 3).toNat A.out.length) := ⟨_, rfl⟩
               have hxl : xx.length ≤ 766 := by rw [hxx, List.length_take]; have := HP5.out; omega
               rw [← hxx] at ho hsn1
               dsimp only at ho
               obtain ⟨Ab, cbb, vo5, rfl, hT5, hK5, hrb5, hnb5⟩ := ho
               obtain ⟨Ia1, hI1⟩ : ∃ I3 : TI, I3 = { Ia with vo := vo5 } := ⟨_, rfl⟩
               rw [← hI1] at hT5 hK5 hrb5
               have HPB := a_ (Ap.of_row (F := TF B Ib tb) hrb5 (fun k e hk => by have := hnb5 k e; have := HT.out.b.lt hk; omega))
               have HPC := a_ (Kd.R_reads' hrb5).2.1
               have HWW : Aside0 (putAll (qa ++ ca) = FA ++ (xx ++ A1.out)) := ⟨by rw [hsn1.wire, List.append_assoc]⟩
               have HBY : Aside0 (xx.all isByte = true) := ⟨by
                have h := putAll_bytes _ hsn1.ok
                rw [HWW.out, List.all_append, Bool.and_eq_true, List.all_append, Bool.and_eq_true] at h
                exact h.2.1⟩
               have HXL := a_ hxl
               have HT5 := a_ (HT.out.stepA hT5 hK5)
               have HK5 := a_ (F2.kfA (tb := tb) (Mb := B) (Ib := Ib) hK5)
               have HZ5 : Aside0 (∀ k, TB k ∨ D k → ¬ F2 ta A1 Ia1 tb B Ib k ∧ k < w5.heap.size) := ⟨tb_kf HZ.out HK5.out⟩
               have HRS5 := a_ (row_tb HRS.out (fun k hk => HZ.out k (.inl hk)) HK5.out)
               have HRB5 := a_ (row_tb HRB.out (fun k hk => HZ.out k (.inl hk)) HK5.out)
               have HRD5 := a_ (row_tb HRD.out (fun k hk => HZ.out k (.inr hk)) HK5.out)
               have HRG5 := a_ (row_kf HRG.out HK5.out)
               have HSA1 := a_ hsn1
               have HOKW : Aside0 (∀ p ∈ qa ++ ca, OkP true p) := ⟨by have h := HPL.out.sa.ok; rw [HPL.out.acl] at h; exact h⟩
               have HCL1 : Aside0 (A1.cl = true) := ⟨hcl1.trans HPL.out.acl⟩
               have HRB1 := a_ (hrc1 HPL.out.rb)
               have HF1 := a_ (And.intro ho1 (And.intro hcl1 (And.intro hse1 (And.intro hen1 hen2))))
               have HSNX := a_ HPL.out.sb
               have HRCX := a_ HPL.out.ra
               have HRCL := a_ (show (!B.cl) = true by rw [HPL.out.bcl]; rfl)
               clear hT5 hK5 hrb5 hnb5 hxx hxl hsn1 hout ho1 hcl1 hse1 hca1 hrc1 hen1 hen2 hI1 HT HRS HRB HRD HRG HZ HK5
               obtain ⟨ae2, hae⟩ : ∃ b, b = (ae || e1) := ⟨_, rfl⟩
               have HAE := a_ hae
               clear hae
               go_upto_region 29 with fail
               go_cut [23] (fun av wc => av = .bool ae2 ∧ w5 = wc)
               case first =>
                have hae := HAE.out
                cases ae with
                | true =>
                 go_wp2_with fail
                 go_meet
                 case rel => exact ⟨by rw [hae]; rfl, rfl⟩
                | false =>
                 go_wp2_with fail
                 go_meet
                 case rel => exact ⟨by rw [hae]; rfl, rfl⟩
               case rest =>
                obtain ⟨rfl, rfl⟩ := hcut
                go_wp2_with fail
                obtain ⟨ps, cd, left, hall⟩ := AllP.total true _ (B.l ++ xx) (app_byte HT5.out.b.ok.lbyt HBY.out) (Nat.le_refl _)
                have hpl2 := all_len hall (app_byte HT5.out.b.ok.lbyt HBY.out)
                have hll := HT5.out.b.ok.llen
                have hxl := HXL.out
                rw [List.length_append] at hpl2
                refine (tfeed HT5.out.b HPB.out HPC.out HBY.out (ps := ps) (cd := cd) (left := left) (fun h => HRCX.out.alive h) (by rw [HRCL.out]; exact hall) (by have := HSNX.out.bound.2.1; omega) (by have := HSNX.out.bound.2.2.1; omega) HCO.out).mono ?_
                rintro e w6 hf
                unfold FeedP at hf
                obtain ⟨M2, n2, tl, hrun, htl, hM2, hrc2⟩ := feed_step (M := B) (m := true) HOKW.out HSA1.out.runs HSA1.out.cls HWW.out HRCX.out hall
                obtain ⟨ns, hns⟩ : ∃ l, l = n2.map n1 ++ tl := ⟨_, rfl⟩
                rw [hrun, ← hns] at hf
                dsimp only at hf
                obtain ⟨l6, s6, Ib6, An, cn, rfl, hT6, hK6, hrn, hlf⟩ := hf
                have hrc6 := hrc2 l6 s6 hlf
                obtain ⟨cb6, hs6, hb6⟩ := HSNX.out.heard ⟨[], by have h := (codK_close (codK x3)).1; rwa [codK_twice] at h⟩ (codK_close (codK x3)).2 (hM2.imp_right (fun h => ⟨h.1, h.2.1⟩)) l6 s6
                obtain ⟨B6, hB6⟩ : ∃ N, N = M2.wl l6 s6 := ⟨_, rfl⟩
                rw [← hB6] at hT6 hK6 hrn hrc6 hs6 hb6
                as_aux_lemma =>
                 have HT6 := a_ (HT5.out.stepB hT6 hK6)
                 have HK6 := a_ (F2.kfB (ta := ta) (Ma := A1) (Ia := Ia1) hK6)
                 have HZ6 : Aside0 (∀ k, TB k ∨ D k → ¬ F2 ta A1 Ia1 tb B6 Ib6 k ∧ k < w6.heap.size) := ⟨tb_kf HZ5.out HK6.out⟩
                 have HRS6 := a_ (row_tb HRS5.out (fun k hk => HZ5.out k (.inl hk)) HK6.out)
                 have HRB6 := a_ (row_tb HRB5.out (fun k hk => HZ5.out k (.inl hk)) HK6.out)
                 have HRD6 := a_ (row_tb HRD5.out (fun k hk => HZ5.out k (.inr hk)) HK6.out)
                 obtain ⟨okN, hok⟩ : ∃ P : Nat → Prop, P = (fun k => (¬ TF B6 Ib6 tb k ∧ (TF B Ib tb k ∨ w5.heap.size ≤ k)) ∧ k < w6.heap.size) := ⟨_, rfl⟩
                 obtain ⟨GG1, hGG⟩ : ∃ P : Nat → Prop, P = (fun k => ¬ F2 ta A1 Ia1 tb B6 Ib6 k ∧ ¬ (TB k ∨ D k)) := ⟨_, rfl⟩
                 have HRG6 : Aside0 ((Kd.slice 5 (Kd.int .u8)).R 27 w6 w.heap.size GG1 (.slice Ag got.length cg) got) := ⟨by rw [hGG]; exact row_kf HRG5.out HK6.out⟩
                 have HRN6 : Aside0 (k37.R 37 w6 w.heap.size okN (.slice An ns.length cn) ns) := ⟨Kd.R_mono (Kd.R_bound hrn) (fun k hk => by rw [hok]; exact ⟨hk.1, hk.2.2.1⟩)⟩
                 have HNB : Aside0 (∀ k, okN k → k < w6.heap.size) := ⟨fun k hk => by rw [hok] at hk; exact hk.2⟩
                 have HNG : Aside0 (∀ k, okN k → GG1 k) := ⟨fun k hk => by rw [hok] at hk; rw [hGG]; exact ⟨okB HT5.out hk.1, okZB (Z := fun k => TB k ∨ D k) HZ5.out hk.1⟩⟩
                 have HFG : Aside0 (∀ k, w6.heap.size ≤ k → GG1 k) := ⟨fun k hk => by rw [hGG]; exact ⟨fun e => by have := HT6.out.lt e; omega, fun e => by have := (HZ6.out k e).2; omega⟩⟩
                 have HGF : Aside0 (∀ k, GG1 k → ¬ F2 ta A1 Ia1 tb B6 Ib6 k) := ⟨fun k hk => by rw [hGG] at hk; exact hk.1⟩
                 have HGT : Aside0 (∀ k, GG1 k → ¬ TB k) := ⟨fun k hk e => by rw [hGG] at hk; exact hk.2 (.inl e)⟩
                 have HGO : Aside0 (∀ k, GG1 k → ¬ D k) := ⟨fun k hk e => by rw [hGG] at hk; exact hk.2 (.inr e)⟩
                 have HOWN : Aside0 (∀ k, (Value.slice Ag got.length cg).ownBlock = some k → ¬ okN k) := ⟨fun k e hk => by
                  rw [hok] at hk
                  exact hk.1.2.elim (fun e2 => (HRG5.out.1 k e).1 (.inr e2)) (fun e2 => by have := Kd.R_lt HRG5.out k e; omega)⟩
                 have HBG : Aside0 (∃ l, msA = (got ++ n2) ++ l) := ⟨hrc6.begins HPL.out.sa.runs⟩
                 have HGL : Aside0 (got.length + n2.length ≤ 40) := ⟨by
                  obtain ⟨l, hl⟩ := HBG.out
                  have h1 := congrArg List.length hl
                  have h2 := HMS.out
                  simp only [List.length_append] at h1
                  omega⟩
                 have HNS := a_ hns
                 have HTL := a_ htl
                 have HNL : Aside0 (ns.length ≤ 100) := ⟨by
                  have h1 := HGL.out
                  have h2 : tl.length ≤ 1 := by rcases htl with rfl | ⟨y, rfl⟩ <;> simp
                  rw [hns, List.length_append, List.length_map]
                  omega⟩
                 obtain ⟨gz1, hgz1⟩ : ∃ l, l = got ++ n2 := ⟨_, rfl⟩
                 rw [← hgz1] at hrc6
                 have HGQ := a_ hgz1
                 have HRC6 := a_ hrc6
                 have HSB6 := a_ hs6
                 have HF6 := a_ hb6
                 have HGGE := a_ hGG
                 clear hT6 hK6 hrn hlf hrc2 hrc6 hM2 hrun hs6 hb6 hns htl hok hGG hgz1 hall hpl2 hll hxl HZ5 HRS5 HRB5 HRD5 HRG5 HT5 HK6 HPB HPC HBY HXL HWW HOKW HSNX HRCX HRCL HBG
                 go_upto_block 6 with fail
                 go_cut [21] (fun gv wc => PgR w w6.heap.size ta A1 Ia1 tb B6 Ib6 TB GG1 D (.slice As msA.length cs) (.slice Bs msB.length ds) (.slice Ah had.length ch) msA msB had gz1 gv wc)
                 case first =>
                  (try clear hwi hc5 hm2 hd2)
                  (try clear hwi)
                  go_wp2_with fail
                  go_loopg [21, 120] ns.length (fun mu gv iv wr => PnR w w6.heap.size ta A1 Ia1 tb B6 Ib6 TB GG1 D okN (.slice As msA.length cs) (.slice Bs msB.length ds) (.slice Ah had.length ch) msA msB had got n2 An cn ns mu gv iv wr)
                  case atStart => exact ⟨0, got, Ag, cg, rfl, rfl, by rw [List.take_zero, List.append_nil], by omega, Nat.le_refl _, HT6.out, HRS6.out, HRB6.out, HRD6.out, HRG6.out, HRN6.out, HOWN.out⟩
                  case round =>
                   as_aux_lemma =>
                    obtain ⟨j, g, Ag, cg, rfl, rfl, hg, hj, hsz, hT, hrs, hrb, hro, hrg, hrn, hown⟩ := hrel
                    have HT := a_ hT
                    have HJ := a_ hj
                    have HG := a_ hg
                    have HSZ := a_ hsz
                    have HRS := a_ hrs
                    have HRB := a_ hrb
                    have HRO := a_ hro
                    have HRG := a_ hrg
                    have HRN := a_ hrn
                    have HOW := a_ hown
                    clear hg hj hsz hT hrs hrb hro hrg hrn hown
                    by_cases hlt : j < ns.length
                    ·have HJL : Aside0 (j < ns.length) := ⟨hlt⟩
                     have hns4 : ns.length ≤ 100 := HNL.out
                     have hwj : wrap64 ((j : Int) + 1) = (j : Int) + 1 := by unfold wrap64; omega
                     obtain ⟨gp, A2, c2, eat, ht0, ht1, ht2, ht3, hRb⟩ := note_at HRN.out j hlt
                     subst eat
                     have hjp : (0 : Int) ≤ (j : Int) := by omega
                     have hjl : (j : Int) < (ns.length : Int) := by omega
                     rcases note_of HNS.out HTL.out hlt with ⟨h2, hnj⟩ | ⟨h2, y, hnj⟩
                     ·as_aux_lemma =>
                       obtain ⟨b, hbe⟩ : ∃ b, b = n2[j] := ⟨_, rfl⟩
                       have htk : n2.take (j + 1) = n2.take j ++ [b] := by rw [hbe]; exact (List.take_append_getElem h2).symm
                       rw [← hbe] at hnj
                       rw [hnj] at ht0 ht1 ht2 ht3 hRb
                       replace ht0 : wr.cell? ⟨gp, j * 4, none⟩ = some (.int .u8 1) := ht0
                       replace ht1 : wr.cell? ⟨gp, j * 4 + 1, none⟩ = some (.bool false) := ht1
                       replace ht2 : wr.cell? ⟨gp, j * 4 + 2, none⟩ = some (.slice A2 b.length c2) := ht2
                       replace ht3 : wr.cell? ⟨gp, j * 4 + 3, none⟩ = some (.int .u32 0) := ht3
                       replace hRb : Kd.R (Kd.int .u8) 5 wr w.heap.size okN (.slice A2 b.length c2) b := hRb
                       obtain ⟨gz, hgz⟩ : ∃ l, l = g ++ [b] := ⟨_, rfl⟩
                       have HGZ := a_ hgz
                       have HGE : Aside0 (gz = got ++ n2.take (j + 1)) := ⟨by rw [hgz, htk, HG.out, List.append_assoc]⟩
                       have HRb := a_ hRb
                       have HLL : Aside0 ((g.length + 1) * 24 ≤ 140737488355328) := ⟨by
                        have h3 := HGL.out
                        have h4 := congrArg List.length HG.out
                        rw [List.length_append, List.length_take] at h4
                        omega⟩
                       clear hbe hnj htk hRb hgz h2 hlt
                       go_upto_region 33 with fail
                       have hb3 : Below wr.heap.size wr (wr.alloc (.cells #[.int .u8 1, .bool false, .slice A2 b.length c2, .int .u32 0] 37)) := below_alloc (Below.refl _ _) _
                       have hx3 : (wr.alloc (.cells #[.int .u8 1, .bool false, .slice A2 b.length c2, .int .u32 0] 37)).heap[wr.heap.size]? = some (.cells #[.int .u8 1, .bool false, .slice A2 b.length c2, .int .u32 0] 37 (0, 0)) := last_at _ _ _ rfl
                       generalize wr.alloc (.cells #[.int .u8 1, .bool false, .slice A2 b.length c2, .int .u32 0] 37) = w1 at hb3 hx3 ⊢
                       generalize wr.heap.size = gb at hx3 ⊢
                       obtain ⟨d0, -, d2⟩ := xl3_ hx3
                       have HT1 := a_ (HT.out.below hb3)
                       have HRS1 := a_ (Kd.R_below HRS.out hb3)
                       have HRB1 := a_ (Kd.R_below HRB.out hb3)
                       have HRO1 := a_ (Kd.R_below HRO.out hb3)
                       have HRG1 := a_ (Kd.R_below HRG.out hb3)
                       have HRN1 := a_ (Kd.R_below HRN.out hb3)
                       have HRb1 := a_ (Kd.R_below HRb.out hb3)
                       have HSZ1 := a_ (Nat.le_trans HSZ.out hb3.size)
                       clear hb3 hx3 ht0 ht1 ht2 ht3 HT HRS HRB HRO HRG HRN HRb HSZ
                       go_wp2_with (at_builtin; refine Kd.R_append (Kd.slice 5 (Kd.int .u8)) (w0 := w) w.heap.size rfl (.tmp 130) (.tmp 133) 23 27 (.slice none 0 0) 24 rfl Tryz.underlying23 HI0.out rfl (by decide) (by decide) (.slice Ag g.length cg) g b [.slice A2 b.length c2] GG1 okN rfl rfl ?aP ?aK ?aF HRG1.out HT1.out.a.bel HT1.out.a.bel.size HLL.out ?_; (case aP => exact ⟨_, rfl, HRb1.out⟩); (case aK => exact fun k hk => ⟨HNG.out k hk, fun e => HOW.out k e.symm hk⟩); (case aF => exact fun k hk => HFG.out k (Nat.le_trans HSZ1.out hk)); intro v9 w9 hR9 hB9 hg9 hat9; rw [← HGZ.out] at hR9; (obtain ⟨A9, c9, e9⟩ := Kd.R_slice hR9); subst e9; have HR9 := a_ hR9; have HB9 := a_ hB9; have HG9 := a_ hg9; have HA9 := a_ hat9; clear hR9 hB9 hg9 hat9)
                       have HOG : Aside0 (∀ k, (Value.slice Ag g.length cg).ownBlock = some k → GG1 k) := ⟨HRG1.out.1⟩
                       go_roundg (ns.length - (j + 1))
                       case measure => have := HJ.out; have := HJL.out; omega
                       case rel => exact ⟨j + 1, gz, A9, c9, by first | rw [hwj, show ((j + 1 : Nat) : Int) = (j : Int) + 1 by omega] | rw [show ((j + 1 : Nat) : Int) = (j : Int) + 1 by omega], rfl, HGE.out, (by have := HJ.out; have := HJL.out; omega), Nat.le_trans HSZ1.out HG9.out.size, HT1.out.move HB9.out (fun k hk => HG9.out.block k (HT1.out.lt hk) (fun e => HGF.out k (HOG.out k e.symm) hk)), Kd.R_step HRS1.out (fun k hk hl => HG9.out.block k hl (fun e => HGT.out k (HOG.out k e.symm) hk)), Kd.R_step HRB1.out (fun k hk hl => HG9.out.block k hl (fun e => HGT.out k (HOG.out k e.symm) hk)), Kd.R_step HRO1.out (fun k hk hl => HG9.out.block k hl (fun e => HGO.out k (HOG.out k e.symm) hk)), HR9.out, Kd.R_step HRN1.out (fun k hk hl => HG9.out.block k hl (fun e => HOW.out k e.symm hk)), fun k e hk => by
                        rcases HA9.out with e1 | ⟨q, e1, hq⟩
                        ·exact HOW.out k (e1.symm.trans e) hk
                        ·rw [e1] at e
                         injection e with e
                         have := HNB.out k hk
                         have := HSZ1.out
                         omega⟩
                     ·rw [hnj] at ht0 ht1 ht2 ht3
                      have HNJ := a_ h2
                      replace ht0 : wr.cell? ⟨gp, j * 4, none⟩ = some (.int .u8 4) := ht0
                      replace ht1 : wr.cell? ⟨gp, j * 4 + 1, none⟩ = some (.bool false) := ht1
                      replace ht2 : wr.cell? ⟨gp, j * 4 + 2, none⟩ = some (.slice A2 y.length c2) := by rw [ht2]
                      replace ht3 : wr.cell? ⟨gp, j * 4 + 3, none⟩ = some (.int .u32 (codK x3)) := ht3
                      clear hnj hRb h2 hlt
                      go_upto_region 33 with fail
                      have hb3 : Below wr.heap.size wr (wr.alloc (.cells #[.int .u8 4, .bool false, .slice A2 y.length c2, .int .u32 (codK x3)] 37)) := below_alloc (Below.refl _ _) _
                      have hx3 : (wr.alloc (.cells #[.int .u8 4, .bool false, .slice A2 y.length c2, .int .u32 (codK x3)] 37)).heap[wr.heap.size]? = some (.cells #[.int .u8 4, .bool false, .slice A2 y.length c2, .int .u32 (codK x3)] 37 (0, 0)) := last_at _ _ _ rfl
                      generalize wr.alloc (.cells #[.int .u8 4, .bool false, .slice A2 y.length c2, .int .u32 (codK x3)] 37) = w1 at hb3 hx3 ⊢
                      generalize wr.heap.size = gb at hx3 ⊢
                      have d0 : w1.cell? ⟨gb, 0, none⟩ = some (.int .u8 4) := (blk_cell hx3 0).trans rfl
                      have HB3 := a_ hb3
                      clear hb3 hx3 ht0 ht1 ht2 ht3
                      go_wp2_with fail
                      go_roundg (ns.length - (j + 1))
                      case measure => have := HJ.out; have := HJL.out; omega
                      case rel => exact ⟨j + 1, g, Ag, cg, by first | rw [hwj, show ((j + 1 : Nat) : Int) = (j : Int) + 1 by omega] | rw [show ((j + 1 : Nat) : Int) = (j : Int) + 1 by omega], rfl, (by rw [HG.out, List.take_of_length_le HNJ.out, List.take_of_length_le (by have := HNJ.out; omega)]), (by have := HJ.out; have := HJL.out; omega), Nat.le_trans HSZ.out HB3.out.size, HT.out.below HB3.out, Kd.R_below HRS.out HB3.out, Kd.R_below HRB.out HB3.out, Kd.R_below HRO.out HB3.out, Kd.R_below HRG.out HB3.out, Kd.R_below HRN.out HB3.out, HOW.out⟩
                    ·have hge : n2.length ≤ j := by
                      have h3 := congrArg List.length HNS.out
                      rw [List.length_append, List.length_map] at h3
                      omega
                     have hgz : g = gz1 := by rw [HG.out, List.take_of_length_le hge, HGQ.out]
                     have hnl : ¬ (j : Int) < (ns.length : Int) := by omega
                     subst hgz
                     clear hge
                     go_wp2_with fail
                     go_meet
                     case rel => exact ⟨Ag, cg, rfl, HSZ.out, HT.out, HRS.out, HRB.out, HRO.out, HRG.out⟩
                 case rest =>
                  as_aux_lemma =>
                   obtain ⟨Ag2, cg2, rfl, hsz, hT, hrs, hrb, hrd, hrg⟩ := hcut
                   obtain ⟨w7, hw7⟩ : ∃ W, W = wc := ⟨_, rfl⟩
                   subst hw7
                   rw [HGGE.out] at hrg
                   have HT7 := a_ hT
                   have HZ7 : Aside0 (∀ k, TB k ∨ D k → ¬ F2 ta A1 Ia1 tb B6 Ib6 k ∧ k < w7.heap.size) := ⟨fun k hk => ⟨(HZ6.out k hk).1, Nat.lt_of_lt_of_le (HZ6.out k hk).2 hsz⟩⟩
                   have HRS7 := a_ hrs
                   have HRB7 := a_ hrb
                   have HRD7 := a_ hrd
                   have HRG7 := a_ hrg
                   clear hsz hT hrs hrb hrd hrg HT6 HZ6 HRS6 HRB6 HRD6 HRG6 HRN6 HNB HNG HFG HGF HGT HGO HOWN HNS HTL HNL HGL HGGE
                   go_wp2_with fail
                   refine (tout HT7.out.b (most := 1 + x5 * 2) (by have := HP5.out; omega) (by have := HSB6.out.bound.2.2.1; omega)).mono ?_
                   rintro e w8 ho
                   clear hm2 hd2 hc5
                   obtain ⟨B7, e2, hout, ho1, hsn1, hcl1, hse1, hca1, hrc1, hen1, hen2⟩ := out_step HSB6.out (most := 1 + x5 * 2) (by have := HP5.out; omega)
                   unfold OutP at ho
                   rw [hout] at ho
                   obtain ⟨yy, hxx⟩ : ∃ l, l = B6.out.take (min (1 + x5 * 2).toNat B6.out.length) := ⟨_, rfl⟩
                   have hxl : yy.length ≤ 766 := by rw [hxx, List.length_take]; have := HP5.out; omega
                   rw [← hxx] at ho hsn1
                   dsimp only at ho
                   obtain ⟨Ab, cbb, vo5, rfl, hT5, hK5, hrb5, hnb5⟩ := ho
                   obtain ⟨Ib7, hI1⟩ : ∃ I3 : TI, I3 = { Ib6 with vo := vo5 } := ⟨_, rfl⟩
                   rw [← hI1] at hT5 hK5 hrb5
                   have HPB := a_ (Ap.of_row (F := TF A1 Ia1 ta) hrb5 (fun k e hk => by have := hnb5 k e; have := HT7.out.a.lt hk; omega))
                   have HPC := a_ (Kd.R_reads' hrb5).2.1
                   have HWW : Aside0 (putAll (qb ++ cb6) = FB ++ (yy ++ B7.out)) := ⟨by rw [hsn1.wire, List.append_assoc]⟩
                   have HBY : Aside0 (yy.all isByte = true) := ⟨by
                    have h := putAll_bytes _ hsn1.ok
                    rw [HWW.out, List.all_append, Bool.and_eq_true, List.all_append, Bool.and_eq_true] at h
                    exact h.2.1⟩
                   have HXL := a_ hxl
                   have HT8 := a_ (HT7.out.stepB hT5 hK5)
                   have HK8 := a_ (F2.kfB (ta := ta) (Ma := A1) (Ia := Ia1) hK5)
                   have HZ8 : Aside0 (∀ k, TB k ∨ D k → ¬ F2 ta A1 Ia1 tb B7 Ib7 k ∧ k < w8.heap.size) := ⟨tb_kf HZ7.out HK8.out⟩
                   have HRS8 := a_ (row_tb HRS7.out (fun k hk => HZ7.out k (.inl hk)) HK8.out)
                   have HRB8 := a_ (row_tb HRB7.out (fun k hk => HZ7.out k (.inl hk)) HK8.out)
                   have HRD8 := a_ (row_tb HRD7.out (fun k hk => HZ7.out k (.inr hk)) HK8.out)
                   have HRG8 := a_ (row_kf HRG7.out HK8.out)
                   have HSB7 := a_ hsn1
                   have HOKW : Aside0 (∀ p ∈ qb ++ cb6, OkP false p) := ⟨by have h := HSB6.out.ok; rw [HF6.out.1, HPL.out.bcl] at h; exact h⟩
                   have HRA7 := a_ (hrc1 HRC6.out)
                   have HF7 := a_ (And.intro ho1 (And.intro hcl1 (And.intro hse1 (And.intro hen1 hen2))))
                   have HSNX := HSA1
                   have HRCX := HRB1
                   have HRCL := a_ (show (!A1.cl) = false by rw [HCL1.out]; rfl)
                   clear hT5 hK5 hrb5 hnb5 hxx hxl hsn1 hout ho1 hcl1 hse1 hca1 hrc1 hen1 hen2 hI1 HT7 HRS7 HRB7 HRD7 HRG7 HZ7 HK8
                   obtain ⟨be2, hbe⟩ : ∃ b, b = (be || e2) := ⟨_, rfl⟩
                   have HBE := a_ hbe
                   clear hbe
                   go_upto_region 39 with fail
                   go_cut [24] (fun bv wc => bv = .bool be2 ∧ w8 = wc)
                   case first =>
                    have hbe := HBE.out
                    cases be with
                    | true =>
                     go_wp2_with fail
                     go_meet
                     case rel => exact ⟨by rw [hbe]; rfl, rfl⟩
                    | false =>
                     go_wp2_with fail
                     go_meet
                     case rel => exact ⟨by rw [hbe]; rfl, rfl⟩
                   case rest =>
                    obtain ⟨rfl, rfl⟩ := hcut
                    go_wp2_with fail
                    obtain ⟨ps, cd, left, hall⟩ := AllP.total false _ (A1.l ++ yy) (app_byte HT8.out.a.ok.lbyt HBY.out) (Nat.le_refl _)
                    have hpl2 := all_len hall (app_byte HT8.out.a.ok.lbyt HBY.out)
                    have hll := HT8.out.a.ok.llen
                    have hxl := HXL.out
                    rw [List.length_append] at hpl2
                    refine (tfeed HT8.out.a HPB.out HPC.out HBY.out (ps := ps) (cd := cd) (left := left) (fun h => HRCX.out.alive h) (by rw [HRCL.out]; exact hall) (by have := HSNX.out.bound.2.1; omega) (by have := HSNX.out.bound.2.2.1; omega) HCO.out).mono ?_
                    rintro e w9 hf
                    unfold FeedP at hf
                    obtain ⟨M2, n2, tl, hrun, htl, hM2, hrc2⟩ := feed_step (M := A1) (m := false) HOKW.out HSB7.out.runs HSB7.out.cls HWW.out HRCX.out hall
                    obtain ⟨ns, hns⟩ : ∃ l, l = n2.map n1 ++ tl := ⟨_, rfl⟩
                    rw [hrun, ← hns] at hf
                    dsimp only at hf
                    obtain ⟨l6, s6, Ia9, An, cn, rfl, hT6, hK6, hrn, hlf⟩ := hf
                    have hrc6 := hrc2 l6 s6 hlf
                    obtain ⟨ca9, hs6, hb6⟩ := HSNX.out.heard ⟨[], by have h := (codK_close (codK x3)).1; rwa [codK_twice] at h⟩ (codK_close (codK x3)).2 (hM2.imp_right (fun h => ⟨h.1, h.2.1⟩)) l6 s6
                    obtain ⟨A9, hB6⟩ : ∃ N, N = M2.wl l6 s6 := ⟨_, rfl⟩
                    rw [← hB6] at hT6 hK6 hrn hrc6 hs6 hb6
                    as_aux_lemma =>
                     have HT9 := a_ (HT8.out.stepA hT6 hK6)
                     have HK9 := a_ (F2.kfA (tb := tb) (Mb := B7) (Ib := Ib7) hK6)
                     have HZ9 : Aside0 (∀ k, TB k ∨ D k → ¬ F2 ta A9 Ia9 tb B7 Ib7 k ∧ k < w9.heap.size) := ⟨tb_kf HZ8.out HK9.out⟩
                     have HRS9 := a_ (row_tb HRS8.out (fun k hk => HZ8.out k (.inl hk)) HK9.out)
                     have HRB9 := a_ (row_tb HRB8.out (fun k hk => HZ8.out k (.inl hk)) HK9.out)
                     have HRD9 := a_ (row_tb HRD8.out (fun k hk => HZ8.out k (.inr hk)) HK9.out)
                     obtain ⟨okN, hok⟩ : ∃ P : Nat → Prop, P = (fun k => (¬ TF A9 Ia9 ta k ∧ (TF A1 Ia1 ta k ∨ w8.heap.size ≤ k)) ∧ k < w9.heap.size) := ⟨_, rfl⟩
                     obtain ⟨D2, hD2⟩ : ∃ P : Nat → Prop, P = (fun k => D k ∨ okN k ∨ w9.heap.size ≤ k) := ⟨_, rfl⟩
                     obtain ⟨O2, hO2⟩ : ∃ P : Nat → Prop, P = (fun k => ¬ F2 ta A9 Ia9 tb B7 Ib7 k ∧ ¬ (TB k ∨ D2 k)) := ⟨_, rfl⟩
                     have HRO9 : Aside0 ((Kd.slice 5 (Kd.int .u8)).R 27 w9 w.heap.size O2 (.slice Ag2 gz1.length cg2) gz1) := ⟨Kd.R_mono (Kd.R_step (Kd.R_bound HRG8.out) (fun k hk hl => HK9.out.keep k hl hk.1.1)) (fun k hk => by
                      have hlt := hk.2.2.1
                      have hsz := HK9.out.size
                      rw [hO2]
                      refine ⟨fun e => (HK9.out.new k e).elim hk.1.1 (fun e2 => by omega), fun e => ?_⟩
                      rw [hD2, hok] at e
                      rcases e with e | e | e | e
                      ·exact hk.1.2 (.inl e)
                      ·exact hk.1.2 (.inr e)
                      ·exact e.1.2.elim (fun e2 => hk.1.1 (.inl e2)) (fun e2 => by omega)
                      ·omega)⟩
                     have HRG9 : Aside0 ((Kd.slice 5 (Kd.int .u8)).R 27 w9 w.heap.size D2 (.slice Ah had.length ch) had) := ⟨Kd.R_mono HRD9.out (fun k hk => by rw [hD2]; exact .inl hk)⟩
                     have HRN9 : Aside0 (k37.R 37 w9 w.heap.size okN (.slice An ns.length cn) ns) := ⟨Kd.R_mono (Kd.R_bound hrn) (fun k hk => by rw [hok]; exact ⟨hk.1, hk.2.2.1⟩)⟩
                     have HNB : Aside0 (∀ k, okN k → k < w9.heap.size) := ⟨fun k hk => by rw [hok] at hk; exact hk.2⟩
                     have HNG : Aside0 (∀ k, okN k → D2 k) := ⟨fun k hk => by rw [hD2]; exact .inr (.inl hk)⟩
                     have HFG : Aside0 (∀ k, w9.heap.size ≤ k → D2 k) := ⟨fun k hk => by rw [hD2]; exact .inr (.inr hk)⟩
                     have HGF : Aside0 (∀ k, D2 k → ¬ F2 ta A9 Ia9 tb B7 Ib7 k) := ⟨fun k hk => by
                      rw [hD2] at hk
                      rcases hk with hk | hk | hk
                      ·exact (HZ9.out k (.inr hk)).1
                      ·rw [hok] at hk; exact okA HT8.out hk.1
                      ·exact fun e => by have := HT9.out.lt e; omega⟩
                     have HGT : Aside0 (∀ k, D2 k → ¬ TB k) := ⟨fun k hk e => by
                      rw [hD2] at hk
                      rcases hk with hk | hk | hk
                      ·exact HX.out k hk e
                      ·rw [hok] at hk; exact okZA (Z := fun k => TB k ∨ D k) HZ8.out hk.1 (.inl e)
                      ·have := (HZ9.out k (.inl e)).2; omega⟩
                     have HGO : Aside0 (∀ k, D2 k → ¬ O2 k) := ⟨fun k hk e => by rw [hO2] at e; exact e.2 (.inr hk)⟩
                     have HOWN : Aside0 (∀ k, (Value.slice Ah had.length ch).ownBlock = some k → ¬ okN k) := ⟨fun k e hk => by
                      rw [hok] at hk
                      exact okZA (Z := fun k => TB k ∨ D k) HZ8.out hk.1 (.inr (HRD8.out.1 k e))⟩
                     have HBG : Aside0 (∃ l, msB = (had ++ n2) ++ l) := ⟨hrc6.begins HPL.out.sb.runs⟩
                     have HGL : Aside0 (had.length + n2.length ≤ 40) := ⟨by
                      obtain ⟨l, hl⟩ := HBG.out
                      have h1 := congrArg List.length hl
                      have h2 := HMS.out
                      simp only [List.length_append] at h1
                      omega⟩
                     have HNS := a_ hns
                     have HTL := a_ htl
                     have HNL : Aside0 (ns.length ≤ 100) := ⟨by
                      have h1 := HGL.out
                      have h2 : tl.length ≤ 1 := by rcases htl with rfl | ⟨y, rfl⟩ <;> simp
                      rw [hns, List.length_append, List.length_map]
                      omega⟩
                     obtain ⟨gz2, hgz1⟩ : ∃ l, l = had ++ n2 := ⟨_, rfl⟩
                     rw [← hgz1] at hrc6
                     have HGQ1 := HGQ
                     have HGQ := a_ hgz1
                     have hpl2 := HPL.out.round (by have := HP5.out; omega) hs6 HSB7.out (HGQ1.out ▸ HRA7.out) (hgz1 ▸ hrc6) HF1.out.1 HF1.out.2.1 HF1.out.2.2.1 HF1.out.2.2.2.1 HF1.out.2.2.2.2 HF6.out HF7.out.1 HF7.out.2.1 HF7.out.2.2.1 HF7.out.2.2.2.1 HF7.out.2.2.2.2 hb6
                     rw [← HGQ1.out, ← hgz1, ← HAE.out, ← HBE.out] at hpl2
                     have HPL2 := a_ hpl2
                     have HD2E := a_ hD2
                     have HO2E := a_ hO2
                     have HZT : Aside0 (∀ k, TB k → ¬ F2 ta A9 Ia9 tb B7 Ib7 k ∧ k < w9.heap.size) := ⟨fun k hk => HZ9.out k (.inl hk)⟩
                     clear hT6 hK6 hrn hlf hrc2 hrc6 hM2 hrun hs6 hb6 hns htl hok hD2 hO2 hgz1 hall hpl2 hll hxl HZ8 HRS8 HRB8 HRD8 HRG8 HT8 HK9 HPB HPC HBY HXL HWW HOKW HSNX HRCX HRCL HBG HRD9 HZ9 HSA1 HSB6 HSB7 HRA7 HRB1 HCL1 HRC6 HF1 HF6 HF7
                     go_wp2_with fail
                     go_loopg [22, 153] ns.length (fun mu gv iv wr => PnR w w9.heap.size ta A9 Ia9 tb B7 Ib7 TB D2 O2 okN (.slice As msA.length cs) (.slice Bs msB.length ds) (.slice Ag2 gz1.length cg2) msA msB gz1 had n2 An cn ns mu gv iv wr)
                     case atStart => exact ⟨0, had, Ah, ch, rfl, rfl, by rw [List.take_zero, List.append_nil], by omega, Nat.le_refl _, HT9.out, HRS9.out, HRB9.out, HRO9.out, HRG9.out, HRN9.out, HOWN.out⟩
                     case round =>
                      as_aux_lemma =>
                       obtain ⟨j, g, Ag, cg, rfl, rfl, hg, hj, hsz, hT, hrs, hrb, hro, hrg, hrn, hown⟩ := hrel
                       have HT := a_ hT
                       have HJ := a_ hj
                       have HG := a_ hg
                       have HSZ := a_ hsz
                       have HRS := a_ hrs
                       have HRB := a_ hrb
                       have HRO := a_ hro
                       have HRG := a_ hrg
                       have HRN := a_ hrn
                       have HOW := a_ hown
                       clear hg hj hsz hT hrs hrb hro hrg hrn hown
                       by_cases hlt : j < ns.length
                       ·have HJL : Aside0 (j < ns.length) := ⟨hlt⟩
                        have hns4 : ns.length ≤ 100 := HNL.out
                        have hwj : wrap64 ((j : Int) + 1) = (j : Int) + 1 := by unfold wrap64; omega
                        obtain ⟨gp, A2, c2, eat, ht0, ht1, ht2, ht3, hRb⟩ := note_at HRN.out j hlt
                        subst eat
                        have hjp : (0 : Int) ≤ (j : Int) := by omega
                        have hjl : (j : Int) < (ns.length : Int) := by omega
                        rcases note_of HNS.out HTL.out hlt with ⟨h2, hnj⟩ | ⟨h2, y, hnj⟩
                        ·as_aux_lemma =>
                          obtain ⟨b, hbe⟩ : ∃ b, b = n2[j] := ⟨_, rfl⟩
                          have htk : n2.take (j + 1) = n2.take j ++ [b] := by rw [hbe]; exact (List.take_append_getElem h2).symm
                          rw [← hbe] at hnj
                          rw [hnj] at ht0 ht1 ht2 ht3 hRb
                          replace ht0 : wr.cell? ⟨gp, j * 4, none⟩ = some (.int .u8 1) := ht0
                          replace ht1 : wr.cell? ⟨gp, j * 4 + 1, none⟩ = some (.bool false) := ht1
                          replace ht2 : wr.cell? ⟨gp, j * 4 + 2, none⟩ = some (.slice A2 b.length c2) := ht2
                          replace ht3 : wr.cell? ⟨gp, j * 4 + 3, none⟩ = some (.int .u32 0) := ht3
                          replace hRb : Kd.R (Kd.int .u8) 5 wr w.heap.size okN (.slice A2 b.length c2) b := hRb
                          obtain ⟨gz, hgz⟩ : ∃ l, l = g ++ [b] := ⟨_, rfl⟩
                          have HGZ := a_ hgz
                          have HGE : Aside0 (gz = had ++ n2.take (j + 1)) := ⟨by rw [hgz, htk, HG.out, List.append_assoc]⟩
                          have HRb := a_ hRb
                          have HLL : Aside0 ((g.length + 1) * 24 ≤ 140737488355328) := ⟨by
                           have h3 := HGL.out
                           have h4 := congrArg List.length HG.out
                           rw [List.length_append, List.length_take] at h4
                           omega⟩
                          clear hbe hnj htk hRb hgz h2 hlt
                          go_upto_region 43 with fail
                          have hb3 : Below wr.heap.size wr (wr.alloc (.cells #[.int .u8 1, .bool false, .slice A2 b.length c2, .int .u32 0] 37)) := below_alloc (Below.refl _ _) _
                          have hx3 : (wr.alloc (.cells #[.int .u8 1, .bool false, .slice A2 b.length c2, .int .u32 0] 37)).heap[wr.heap.size]? = some (.cells #[.int .u8 1, .bool false, .slice A2 b.length c2, .int .u32 0] 37 (0, 0)) := last_at _ _ _ rfl
                          generalize wr.alloc (.cells #[.int .u8 1, .bool false, .slice A2 b.length c2, .int .u32 0] 37) = w1 at hb3 hx3 ⊢
                          generalize wr.heap.size = gb at hx3 ⊢
                          obtain ⟨d0, -, d2⟩ := xl3_ hx3
                          have HT1 := a_ (HT.out.below hb3)
                          have HRS1 := a_ (Kd.R_below HRS.out hb3)
                          have HRB1 := a_ (Kd.R_below HRB.out hb3)
                          have HRO1 := a_ (Kd.R_below HRO.out hb3)
                          have HRG1 := a_ (Kd.R_below HRG.out hb3)
                          have HRN1 := a_ (Kd.R_below HRN.out hb3)
                          have HRb1 := a_ (Kd.R_below HRb.out hb3)
                          have HSZ1 := a_ (Nat.le_trans HSZ.out hb3.size)
                          clear hb3 hx3 ht0 ht1 ht2 ht3 HT HRS HRB HRO HRG HRN HRb HSZ
                          go_wp2_with (at_builtin; refine Kd.R_append (Kd.slice 5 (Kd.int .u8)) (w0 := w) w.heap.size rfl (.tmp 163) (.tmp 166) 23 27 (.slice none 0 0) 24 rfl Tryz.underlying23 HI0.out rfl (by decide) (by decide) (.slice Ag g.length cg) g b [.slice A2 b.length c2] D2 okN rfl rfl ?aP ?aK ?aF HRG1.out HT1.out.a.bel HT1.out.a.bel.size HLL.out ?_; (case aP => exact ⟨_, rfl, HRb1.out⟩); (case aK => exact fun k hk => ⟨HNG.out k hk, fun e => HOW.out k e.symm hk⟩); (case aF => exact fun k hk => HFG.out k (Nat.le_trans HSZ1.out hk)); intro v9 w9 hR9 hB9 hg9 hat9; rw [← HGZ.out] at hR9; (obtain ⟨A9, c9, e9⟩ := Kd.R_slice hR9); subst e9; have HR9 := a_ hR9; have HB9 := a_ hB9; have HG9 := a_ hg9; have HA9 := a_ hat9; clear hR9 hB9 hg9 hat9)
                          have HOG : Aside0 (∀ k, (Value.slice Ag g.length cg).ownBlock = some k → D2 k) := ⟨HRG1.out.1⟩
                          go_roundg (ns.length - (j + 1))
                          case measure => have := HJ.out; have := HJL.out; omega
                          case rel => exact ⟨j + 1, gz, A9, c9, by first | rw [hwj, show ((j + 1 : Nat) : Int) = (j : Int) + 1 by omega] | rw [show ((j + 1 : Nat) : Int) = (j : Int) + 1 by omega], rfl, HGE.out, (by have := HJ.out; have := HJL.out; omega), Nat.le_trans HSZ1.out HG9.out.size, HT1.out.move HB9.out (fun k hk => HG9.out.block k (HT1.out.lt hk) (fun e => HGF.out k (HOG.out k e.symm) hk)), Kd.R_step HRS1.out (fun k hk hl => HG9.out.block k hl (fun e => HGT.out k (HOG.out k e.symm) hk)), Kd.R_step HRB1.out (fun k hk hl => HG9.out.block k hl (fun e => HGT.out k (HOG.out k e.symm) hk)), Kd.R_step HRO1.out (fun k hk hl => HG9.out.block k hl (fun e => HGO.out k (HOG.out k e.symm) hk)), HR9.out, Kd.R_step HRN1.out (fun k hk hl => HG9.out.block k hl (fun e => HOW.out k e.symm hk)), fun k e hk => by
                           rcases HA9.out with e1 | ⟨q, e1, hq⟩
                           ·exact HOW.out k (e1.symm.trans e) hk
                           ·rw [e1] at e
                            injection e with e
                            have := HNB.out k hk
                            have := HSZ1.out
                            omega⟩
                        ·rw [hnj] at ht0 ht1 ht2 ht3
                         have HNJ := a_ h2
                         replace ht0 : wr.cell? ⟨gp, j * 4, none⟩ = some (.int .u8 4) := ht0
                         replace ht1 : wr.cell? ⟨gp, j * 4 + 1, none⟩ = some (.bool false) := ht1
                         replace ht2 : wr.cell? ⟨gp, j * 4 + 2, none⟩ = some (.slice A2 y.length c2) := by rw [ht2]
                         replace ht3 : wr.cell? ⟨gp, j * 4 + 3, none⟩ = some (.int .u32 (codK x3)) := ht3
                         clear hnj hRb h2 hlt
                         go_upto_region 43 with fail
                         have hb3 : Below wr.heap.size wr (wr.alloc (.cells #[.int .u8 4, .bool false, .slice A2 y.length c2, .int .u32 (codK x3)] 37)) := below_alloc (Below.refl _ _) _
                         have hx3 : (wr.alloc (.cells #[.int .u8 4, .bool false, .slice A2 y.length c2, .int .u32 (codK x3)] 37)).heap[wr.heap.size]? = some (.cells #[.int .u8 4, .bool false, .slice A2 y.length c2, .int .u32 (codK x3)] 37 (0, 0)) := last_at _ _ _ rfl
                         generalize wr.alloc (.cells #[.int .u8 4, .bool false, .slice A2 y.length c2, .int .u32 (codK x3)] 37) = w1 at hb3 hx3 ⊢
                         generalize wr.heap.size = gb at hx3 ⊢
                         have d0 : w1.cell? ⟨gb, 0, none⟩ = some (.int .u8 4) := (blk_cell hx3 0).trans rfl
                         have HB3 := a_ hb3
                         clear hb3 hx3 ht0 ht1 ht2 ht3
                         go_wp2_with fail
                         go_roundg (ns.length - (j + 1))
                         case measure => have := HJ.out; have := HJL.out; omega
                         case rel => exact ⟨j + 1, g, Ag, cg, by first | rw [hwj, show ((j + 1 : Nat) : Int) = (j : Int) + 1 by omega] | rw [show ((j + 1 : Nat) : Int) = (j : Int) + 1 by omega], rfl, (by rw [HG.out, List.take_of_length_le HNJ.out, List.take_of_length_le (by have := HNJ.out; omega)]), (by have := HJ.out; have := HJL.out; omega), Nat.le_trans HSZ.out HB3.out.size, HT.out.below HB3.out, Kd.R_below HRS.out HB3.out, Kd.R_below HRB.out HB3.out, Kd.R_below HRO.out HB3.out, Kd.R_below HRG.out HB3.out, Kd.R_below HRN.out HB3.out, HOW.out⟩
                       ·have hge : n2.length ≤ j := by
                         have h3 := congrArg List.length HNS.out
                         rw [List.length_append, List.length_map] at h3
                         omega
                        have hgz : g = gz2 := by rw [HG.out, List.take_of_length_le hge, HGQ.out]
                        have hnl : ¬ (j : Int) < (ns.length : Int) := by omega
                        subst hgz
                        clear hge
                        rw [HO2E.out] at HRO
                        go_wp2_with fail
                        go_meet
                        case rel => exact ⟨A9, B7, Ia9, Ib7, ca9, _, cb6, _, gz1, g, Ag2, Ag, cg2, cg, ae2, be2, (fun k => D2 k ∧ k < wr.heap.size), rfl, rfl, rfl, rfl, HT.out, HPL2.out, HRS.out, HRB.out, fun k hk => hk.elim (fun h => ⟨(HZT.out k h).1, Nat.lt_of_lt_of_le (HZT.out k h).2 HSZ.out⟩) (fun h => ⟨HGF.out k h.1, h.2⟩), fun k hk => HGT.out k hk.1, Kd.R_mono HRO.out (fun k hk => ⟨hk.1, fun e => hk.2 (e.imp_right (fun h => h.1))⟩), Kd.R_mono (Kd.R_bound HRG.out) (fun k hk => ⟨hk.1, hk.2.2.1⟩)⟩
             ·as_aux_lemma =>
               have hnl : ¬ (i : Int) < 2000 := by omega
               have HIL : Aside0 (700 ≤ i) := ⟨by omega⟩
               have HCS : Aside0 ((Kd.slice 5 (Kd.int .u8)).C wr As msA.length msA) := ⟨ReadsRow.imp_ (Kd.R_reads' HRS.out).2.2 (Below.refl _ _) (fun _ _ h => (Kd.slice 5 (Kd.int .u8)).K_below HT.out.a.bel h)⟩
               have HCB : Aside0 ((Kd.slice 5 (Kd.int .u8)).C wr Bs msB.length msB) := ⟨ReadsRow.imp_ (Kd.R_reads' HRB.out).2.2 (Below.refl _ _) (fun _ _ h => (Kd.slice 5 (Kd.int .u8)).K_below HT.out.a.bel h)⟩
               have HCG : Aside0 ((Kd.slice 5 (Kd.int .u8)).C wr Ag got.length got) := ⟨(Kd.R_reads' HRG.out).2.2⟩
               have HCH : Aside0 ((Kd.slice 5 (Kd.int .u8)).C wr Ah had.length had) := ⟨(Kd.R_reads' HRD.out).2.2⟩
               have HBG : Aside0 (∃ l, msA = got ++ l) := ⟨HPL.out.ra.begins HPL.out.sa.runs⟩
               have HBH : Aside0 (∃ l, msB = had ++ l) := ⟨HPL.out.rb.begins HPL.out.sb.runs⟩
               have HGL : Aside0 (got.length ≤ 100000 ∧ had.length ≤ 100000) := ⟨by
                obtain ⟨l, hl⟩ := HBG.out
                obtain ⟨m, hm⟩ := HBH.out
                have h1 := congrArg List.length hl
                have h3 := congrArg List.length hm
                have h2 := HMS.out
                simp only [List.length_append] at h1 h3
                omega⟩
               clear HRS HRB HRG HRD HZ HX HI hlt
               by_cases hp : x5 < 30
               ·go_wp2_with fail
                refine (fixed_yes _).mono ?_
                rintro e w5 ⟨rfl, hb⟩
                have HB5 := a_ hb
                clear hb
                go_wp2_with fail
                refine (begins_yes (Kd.C_below HCG.out HB5.out) (Kd.C_below HCS.out HB5.out) HBG.out HGL.out.1).mono ?_
                rintro e w6 ⟨rfl, hb⟩
                have HB6 := a_ (below_step HB5.out hb)
                clear hb
                go_wp2_with fail
                refine (begins_yes (Kd.C_below HCH.out HB6.out) (Kd.C_below HCB.out HB6.out) HBH.out HGL.out.2).mono ?_
                rintro e w7 ⟨rfl, hb⟩
                have HB7 := a_ (below_step HB6.out hb)
                clear hb
                go_wp2_with fail
                go_ret
                exact ⟨rfl, below_step HT.out.a.bel HB7.out⟩
               ·have hall := HPL.out.all (by omega) HIL.out
                have hlate := HPL.out.late (by omega) (by have := HIL.out; omega)
                obtain ⟨⟨ha1, ha2, ha3, _⟩, ⟨hb1, hb2, hb3, _⟩⟩ := hall
                obtain ⟨h1, h2⟩ := hlate
                subst h1
                subst h2
                subst ha3
                subst hb3
                have HCA := a_ (And.intro ha1 ha2)
                have HCB2 := a_ (And.intro hb1 hb2)
                have hf43_0 := field43_0
                clear ha1 ha2 hb1 hb2 HPL
                cases x4 with
                | true =>
                 go_wp2_with fail
                 refine (fixed_yes _).mono ?_
                 rintro e w5 ⟨rfl, hb⟩
                 have HB5 := a_ hb
                 clear hb
                 go_wp2_with fail
                 refine (begins_yes (Kd.C_below HCG.out HB5.out) (Kd.C_below HCS.out HB5.out) HBG.out HGL.out.1).mono ?_
                 rintro e w6 ⟨rfl, hb⟩
                 have HB6 := a_ (below_step HB5.out hb)
                 clear hb
                 go_wp2_with fail
                 refine (begins_yes (Kd.C_below HCH.out HB6.out) (Kd.C_below HCB.out HB6.out) HBH.out HGL.out.2).mono ?_
                 rintro e w7 ⟨rfl, hb⟩
                 have HB7 := a_ (below_step HB6.out hb)
                 clear hb
                 go_wp2_with fail
                 have HT7 := a_ (HT.out.below HB7.out)
                 refine (tend HT7.out.a).mono ?_
                 rintro e w8 ⟨rfl, hTa, hKa⟩
                 have HT8 := a_ (HT7.out.stepA hTa hKa)
                 clear hTa hKa
                 rw [HCA.out.1, HCA.out.2]
                 go_wp2_with fail
                 refine (tend HT8.out.a).mono ?_
                 rintro e w9 ⟨rfl, hTa, hKa⟩
                 have HT9 := a_ (HT8.out.stepA hTa hKa)
                 clear hTa hKa
                 rw [HCA.out.1, HCA.out.2]
                 go_wp2_with fail
                 refine (tend HT9.out.b).mono ?_
                 rintro e wa ⟨rfl, hTa, hKa⟩
                 have HTa := a_ (HT9.out.stepB hTa hKa)
                 clear hTa hKa
                 rw [HCB2.out.1, HCB2.out.2]
                 go_wp2_with fail
                 go_ret
                 exact ⟨rfl, HTa.out.a.bel⟩
                | false =>
                 go_wp2_with fail
                 refine (fixed_yes _).mono ?_
                 rintro e w5 ⟨rfl, hb⟩
                 have HB5 := a_ hb
                 clear hb
                 go_wp2_with fail
                 refine (begins_yes (Kd.C_below HCG.out HB5.out) (Kd.C_below HCS.out HB5.out) HBG.out HGL.out.1).mono ?_
                 rintro e w6 ⟨rfl, hb⟩
                 have HB6 := a_ (below_step HB5.out hb)
                 clear hb
                 go_wp2_with fail
                 refine (begins_yes (Kd.C_below HCH.out HB6.out) (Kd.C_below HCB.out HB6.out) HBH.out HGL.out.2).mono ?_
                 rintro e w7 ⟨rfl, hb⟩
                 have HB7 := a_ (below_step HB6.out hb)
                 clear hb
                 go_wp2_with fail
                 have HT7 := a_ (HT.out.below HB7.out)
                 refine (tend HT7.out.a).mono ?_
                 rintro e w8 ⟨rfl, hTa, hKa⟩
                 have HT8 := a_ (HT7.out.stepA hTa hKa)
                 clear hTa hKa
                 rw [HCA.out.1, HCA.out.2]
                 go_wp2_with fail
                 refine (tend HT8.out.a).mono ?_
                 rintro e w9 ⟨rfl, hTa, hKa⟩
                 have HT9 := a_ (HT8.out.stepA hTa hKa)
                 clear hTa hKa
                 rw [HCA.out.1, HCA.out.2]
                 go_wp2_with fail
                 refine (tend HT9.out.b).mono ?_
                 rintro e wa ⟨rfl, hTa, hKa⟩
                 have HTa := a_ (HT9.out.stepB hTa hKa)
                 clear hTa hKa
                 rw [HCB2.out.1, HCB2.out.2]
                 go_wp2_with fail
                 go_ret
                 exact ⟨rfl, HTa.out.a.bel⟩
end Go.Proofs.YtpmeapdcjmaeiaaGreatDoor
