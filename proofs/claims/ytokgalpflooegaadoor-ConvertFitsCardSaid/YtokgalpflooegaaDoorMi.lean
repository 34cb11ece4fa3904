/- The integer part of a number; the arguments of conversions. No condition. Rounding of rational numbers whose denominator is 1; the program awake. No condition. The law ConvertFormats. No condition. The law ConvertBack. No condition. Integers, natural and rational numbers among the arguments of a law. No condition. Decoding; whether a format holds another. No condition. -/
import Derived.Test.YtokgalpflooegaaDoorMh
import Derived.Test.YtokgalpflooegaaDoorMg
import Derived.Test.YtokgalpflooegaaDoorMf
import Derived.Test.YtokgalpflooegaaDoorMd
import Derived.KernelRfl
/- The integer part of a number; the arguments of conversions. No condition. -/
namespace Go.Proofs.YtokgalpflooegaaDoor
set_option linter.unusedVariables false
set_option linter.unusedSimpArgs false
set_option maxHeartbeats 4000000
set_option maxRecDepth 10000
/-- A number, rounded to an integer, and whether it is one. -/
def wholeP (r : Int) (x : Nu) : Nat × Bool := (upP r x.n (cutP x.v (-x.e) false).1 (cutP x.v (-x.e) false).2, decide ((cutP x.v (-x.e) false).2 = 0))
theorem sgn_neg (n : Bool) (v : Nat) : (n && decide (0 < ((nat v).length : Int))) = decide (sgn n v < 0) := by
  have h : 0 < (nat v).length ↔ v ≠ 0 := nat_len_zero v
  cases n
  · simp [sgn]
  · simp only [Bool.true_and, sgn, if_true]
    congr 1
    apply propext
    constructor
    · intro h1
      have := h.1 (by omega)
      omega
    · intro h1
      have := h.2 (by omega)
      omega
theorem PLe.iv20 {n : Bool} {v : Nat} {c : Ce} {b : Bool} (hb : b = decide (sgn n v < 0)) (h : PLe (.c c) (.c (.w false (nat v)))) : PLe (.a [.b b, c]) (Iv (sgn n v)) := by
  subst hb
  show PLe _ (Ig (decide (sgn n v < 0)) (nat (sgn n v).natAbs))
  rw [sgn_abs]
  exact PLe.agg (.cons (PLe.refl _) (.cons h .nil))
theorem WholeN_does {r : Int} (hr : 0 ≤ r) (hr' : r ≤ 4) {x : Nu} (hx : x.Ok) : Does Tryd.prog Gv 43 [x.pv, .c (.i .i64 r)] (.t [Iv (sgn x.n (wholeP r x).1), .c (.b (wholeP r x).2)]) := by
  obtain ⟨n, v, e⟩ := x
  have hl := hx.len
  obtain ⟨h1, h2⟩ := hx
  simp only [] at h1 h2 hl
  unfold wholeP
  simp only []
  have hc := @cut_does (nat v) (-e) false (by omega) (nat_ws _) (by omega) (by omega)
  have hcl := cutP_bl v (-e) false
  rw [val_nat] at hc
  generalize cutP v (-e) false = c at *
  obtain ⟨c1, c2⟩ := c
  simp only [] at hc hcl
  have hlc := nat_len_bl c1
  have hu := @up_does r n (nat c1) c2 hr hr' (by omega) (nat_ws _)
  rw [val_nat] at hu
  simp only []
  generalize upP r n c1 c2 = u at *
  have hs := sgn_neg n u
  refine Does.of (nt := 34) Tryd.func43 rfl rfl rfl (by simp) ?_
  simp only [argTm, PV.ext, Ce.ext]
  refine Do.seqk fun _ k1_ => ?_
  refine Do.region [1,2,4] true ?_
  simp [go_sem]
  apply k1_; clear k1_
  refine Do.seqk fun _ k2_ => ?_
  refine Do.region [1,2,4,6,7] true ?_
  simp [go_sem]
  repeat (refine And.intro (by first | omega | (intros; omega) | (intros; exact And.intro (by assumption) (by omega)) | grind) ?_)
  refine DoL.call true 106 rfl rfl rfl rfl (by first | exact trivial | omega | (simp; done) | (simp; omega)) (hc) rfl (by first | exact .inl rfl | exact .inr rfl) rfl ?_
  simp [go_sem]
  apply k2_; clear k2_
  refine Do.seqk fun _ k3_ => ?_
  refine Do.region [2,4,6,7] true ?_
  simp [go_sem]
  repeat (refine And.intro (by first | omega | (intros; omega) | (intros; exact And.intro (by assumption) (by omega)) | grind) ?_)
  refine DoL.call true 206 rfl rfl rfl rfl (by first | exact trivial | omega | (simp; done) | (simp; omega)) (hu) rfl (by first | exact .inl rfl | exact .inr rfl) rfl ?_
  simp [go_sem]
  apply k3_; clear k3_
  refine Do.seqk fun _ k4_ => ?_
  refine Do.region [4,5] true ?_
  simp [go_sem]
  repeat (refine And.intro (by first | omega | (intros; omega) | (intros; exact And.intro (by assumption) (by omega)) | grind) ?_)
  apply k4_; clear k4_
  refine Do.ret ?_
  simp [endQ, rets, ret1, go_sem]
  repeat (refine And.intro (by first | omega | (intros; omega) | (intros; exact And.intro (by assumption) (by omega)) | grind) ?_)
  exact TLe.t (.cons (PLe.iv20 (by simpa using hs) (by first | exact PLe.refl _ | exact PLe.ext (.c (.w true _)))) (.cons (PLe.refl _) .nil))
theorem cargs_does {f p g q r : Int} {b : Bool} {x : Fla} (hx : x.Ok) : Does Tryd.prog Gv 40 [Fm f p, Fm g q, .c (.i .i64 r), .c (.b b), Fl x.k x.n x.e x.m] (.t [(if argsC f p g q r b x = 0 then (holdsP f p x.flt).1 else ⟨0, false, 0, 0⟩).pv, .c (.i .i64 (argsC f p g q r b x))]) := by
  have hsh := hx.sh
  by_cases he : argsC f p g q r b x = 0
  · obtain ⟨h1, h2, h3, h4, h5, h6, h7⟩ := argsC_zero he
    rw [if_pos he, he]
    have hO : DoesO Tryd.prog Gv 68 [Fm f p, .s false [x.cs]] 4 [(holdsP f p x.flt).1.cs] [.c (.i .i64 0)] := @Floats_own f p [x] (by simp) (by simpa using h1) h5 (by simpa using hx) (by simpa [allHold] using h7)
    generalize (holdsP f p x.flt).1 = a at *
    have hc1 : Does Tryd.prog Gv 59 [Fm f p] (.v (.c (.i .i64 0))) := by have := @Check_does Gv f p; rwa [if_pos h5] at this
    have hc2 : Does Tryd.prog Gv 59 [Fm g q] (.v (.c (.i .i64 0))) := by have := @Check_does Gv g q; rwa [if_pos h6] at this
    have hR : Does Tryd.prog Gv 78 [.c (.i .i64 r)] (.v (.c (.b true))) := by have := @Right_does Gv r; rwa [show (decide (0 ≤ r) && decide (r ≤ 4)) = true by simp; omega] at this
    subst h4
    refine Does.of (nt := 52) Tryd.func40 rfl rfl rfl (by simp) ?_
    simp only [argTm, PV.ext, Ce.ext]
    refine Do.seqk fun _ k1_ => ?_
    refine Do.region [2,3,5,6,9,10] true ?_
    simp [go_sem]
    apply k1_; clear k1_
    refine Do.seqk fun _ k2_ => ?_
    refine Do.block ?_
    refine Do.seqk fun _ k3_ => ?_
    refine Do.region [2,3,5,6,9,10,14] true ?_
    simp [go_sem]
    repeat (refine And.intro (by first | omega | (intros; omega) | (intros; exact And.intro (by assumption) (by omega)) | grind) ?_)
    apply k3_; clear k3_
    refine Do.cond [2,3,5,6,9,10] rfl (fun g1 => ?_) (fun g1 => ?_) <;> simp [go_sem] at g1 ⊢
    · omega
    · refine Do.seqk fun _ k4_ => ?_
      refine Do.region [5,6,9,10,20] true ?_
      simp [go_sem]
      refine DoL.call true 302 rfl rfl rfl rfl (by first | exact trivial | omega | (simp; done) | (simp; omega)) (hR) rfl (by first | exact .inl rfl | exact .inr rfl) rfl ?_
      simp [go_sem]
      repeat (refine And.intro (by first | omega | (intros; omega) | (intros; exact And.intro (by assumption) (by omega)) | grind) ?_)
      apply k4_; clear k4_
      refine Do.cond [5,6,9,10] rfl (fun g2 => ?_) (fun g2 => ?_) <;> simp [go_sem] at g2 ⊢
      refine Do.seqk fun _ k5_ => ?_
      refine Do.region [5,9,10,28] true ?_
      simp [go_sem]
      repeat (refine And.intro (by first | omega | (intros; omega) | (intros; exact And.intro (by assumption) (by omega)) | grind) ?_)
      refine DoL.call true 502 rfl rfl rfl rfl (by first | exact trivial | omega | (simp; done) | (simp; omega)) (hc1) rfl (by first | exact .inl rfl | exact .inr rfl) rfl ?_
      simp [go_sem]
      repeat (refine And.intro (by first | omega | (intros; omega) | (intros; exact And.intro (by assumption) (by omega)) | grind) ?_)
      refine DoL.callg true 506 rfl rfl rfl rfl rfl (by simp [go_sem] <;> omega) (fun _ => hc2) rfl (by first | exact .inl rfl | exact .inr rfl) rfl ?_
      simp [go_sem]
      apply k5_; clear k5_
      refine Do.cond [5,9,10] rfl (fun g3 => ?_) (fun g3 => ?_) <;> simp [go_sem] at g3 ⊢
      refine Do.skip ?_
      simp [go_sem]
      apply k2_; clear k2_
      refine Do.seqk fun _ k6_ => ?_
      refine Do.region [10,12,13] true ?_
      simp [go_sem]
      repeat (refine And.intro (by first | omega | (intros; omega) | (intros; exact And.intro (by assumption) (by omega)) | grind) ?_)
      refine DoL.sealS true 703 702 rfl ?_
      simp [go_sem]
      refine DoL.callO true 704 3000 rfl rfl rfl rfl (by first | exact trivial | omega | (simp; done) | (simp; omega)) (hO) rfl rfl rfl ?_
      simp [go_sem]
      apply k6_; clear k6_
      refine Do.seqk fun _ k7_ => ?_
      refine Do.seqk fun _ k8_ => ?_
      refine Do.region [10,12,13,46] true ?_
      simp [go_sem]
      apply k8_; clear k8_
      refine Do.cond [10,12,13] rfl (fun g4 => ?_) (fun g4 => ?_) <;> simp [go_sem] at g4 ⊢
      refine Do.skip ?_
      simp [go_sem]
      apply k7_; clear k7_
      refine Do.seqk fun _ k9_ => ?_
      refine Do.region [10,11] true ?_
      simp [go_sem]
      repeat (refine And.intro (by first | omega | (intros; omega) | (intros; exact And.intro (by assumption) (by omega)) | grind) ?_)
      apply k9_; clear k9_
      refine Do.ret ?_
      simp [endQ, rets, ret1, go_sem]
      repeat (refine And.intro (by first | omega | (intros; omega) | (intros; exact And.intro (by assumption) (by omega)) | grind) ?_)
      exact TLe.refl _
  · rw [if_neg he]
    have hc1 := @Check_does Gv f p
    have hc2 := @Check_does Gv g q
    have hR := @Right_does Gv r
    have hz : argsC f p g q r b x = argsC f p g q r b x := rfl
    conv at hz => rhs; unfold argsC
    have hF : x.m.length ≤ 4096 → fmOk f p = true → (holdsP f p x.flt).2 = false → Does Tryd.prog Gv 68 [Fm f p, .s false [x.cs]] (.t [.c .z, .c (.i .i64 151)]) := fun a1 a2 a3 => (@Floats_fine f p [x] (by simp) (by simpa using a1) (by simpa using hx)).2 a2 (by simpa [allHold] using a3)
    generalize argsC f p g q r b x = z at *
    by_cases g1 : 4096 < x.m.length
    · rw [if_pos g1] at hz
      subst hz
      refine Does.of (nt := 52) Tryd.func40 rfl rfl rfl (by simp) ?_
      simp only [argTm, PV.ext, Ce.ext]
      refine Do.seqk fun _ k1_ => ?_
      refine Do.region [2,3,5,6,9,10] true ?_
      simp [go_sem]
      apply k1_; clear k1_
      refine Do.seqk fun _ k2_ => ?_
      refine Do.block ?_
      refine Do.seqk fun _ k3_ => ?_
      refine Do.region [2,3,5,6,9,10,14] true ?_
      simp [go_sem]
      repeat (refine And.intro (by first | omega | (intros; omega) | (intros; exact And.intro (by assumption) (by omega)) | grind) ?_)
      apply k3_; clear k3_
      refine Do.cond [2,3,5,6,9,10] rfl (fun g2 => ?_) (fun g2 => ?_) <;> simp [go_sem] at g2 ⊢
      · refine Do.seqk fun _ k4_ => ?_
        refine Do.region [10,11] true ?_
        simp [go_sem]
        repeat (refine And.intro (by first | omega | (intros; omega) | (intros; exact And.intro (by assumption) (by omega)) | grind) ?_)
        apply k4_; clear k4_
        refine Do.ret ?_
        simp [endQ, rets, ret1, go_sem]
        repeat (refine And.intro (by first | omega | (intros; omega) | (intros; exact And.intro (by assumption) (by omega)) | grind) ?_)
        exact TLe.t (.cons (PLe.flt (ret_z rfl)) (.cons (PLe.refl _) .nil))
      · omega
    · rw [if_neg g1] at hz
      cases g2 : (decide (0 ≤ r) && decide (r ≤ 4) && !b) with
      | false =>
        rw [if_pos g2] at hz
        subst hz
        generalize (decide (0 ≤ r) && decide (r ≤ 4)) = rr at *
        have g3 : (!rr || b) = true := by cases rr <;> cases b <;> simp_all
        refine Does.of (nt := 52) Tryd.func40 rfl rfl rfl (by simp) ?_
        simp only [argTm, PV.ext, Ce.ext]
        refine Do.seqk fun _ k1_ => ?_
        refine Do.region [2,3,5,6,9,10] true ?_
        simp [go_sem]
        apply k1_; clear k1_
        refine Do.seqk fun _ k2_ => ?_
        refine Do.block ?_
        refine Do.seqk fun _ k3_ => ?_
        refine Do.region [2,3,5,6,9,10,14] true ?_
        simp [go_sem]
        repeat (refine And.intro (by first | omega | (intros; omega) | (intros; exact And.intro (by assumption) (by omega)) | grind) ?_)
        apply k3_; clear k3_
        refine Do.cond [2,3,5,6,9,10] rfl (fun g4 => ?_) (fun g4 => ?_) <;> simp [go_sem] at g4 ⊢
        · omega
        · refine Do.seqk fun _ k4_ => ?_
          refine Do.region [5,6,9,10,20] true ?_
          simp [go_sem]
          refine DoL.call true 302 rfl rfl rfl rfl (by first | exact trivial | omega | (simp; done) | (simp; omega)) (hR) rfl (by first | exact .inl rfl | exact .inr rfl) rfl ?_
          simp [go_sem]
          repeat (refine And.intro (by first | omega | (intros; omega) | (intros; exact And.intro (by assumption) (by omega)) | grind) ?_)
          apply k4_; clear k4_
          refine Do.cond [5,6,9,10] rfl (fun g5 => ?_) (fun g5 => ?_) <;> simp [go_sem, g3] at g5 ⊢
          refine Do.seqk fun _ k5_ => ?_
          refine Do.region [10,11] true ?_
          simp [go_sem, g3]
          repeat (refine And.intro (by first | omega | (intros; omega) | (intros; exact And.intro (by assumption) (by omega)) | grind) ?_)
          apply k5_; clear k5_
          refine Do.ret ?_
          simp [endQ, rets, ret1, go_sem, g3]
          repeat (refine And.intro (by first | omega | (intros; omega) | (intros; exact And.intro (by assumption) (by omega)) | grind) ?_)
          exact TLe.t (.cons (PLe.flt (ret_z rfl)) (.cons (PLe.refl _) .nil))
      | true =>
        rw [if_neg (by simp [g2])] at hz
        generalize (decide (0 ≤ r) && decide (r ≤ 4)) = rr at *
        have g3 : (!rr || b) = false := by cases rr <;> cases b <;> simp_all
        by_cases g6 : fmOk f p = false ∨ fmOk g q = false
        · rw [if_pos g6] at hz
          subst hz
          refine Does.of (nt := 52) Tryd.func40 rfl rfl rfl (by simp) ?_
          simp only [argTm, PV.ext, Ce.ext]
          refine Do.seqk fun _ k1_ => ?_
          refine Do.region [2,3,5,6,9,10] true ?_
          simp [go_sem]
          apply k1_; clear k1_
          refine Do.seqk fun _ k2_ => ?_
          refine Do.block ?_
          refine Do.seqk fun _ k3_ => ?_
          refine Do.region [2,3,5,6,9,10,14] true ?_
          simp [go_sem]
          repeat (refine And.intro (by first | omega | (intros; omega) | (intros; exact And.intro (by assumption) (by omega)) | grind) ?_)
          apply k3_; clear k3_
          refine Do.cond [2,3,5,6,9,10] rfl (fun g4 => ?_) (fun g4 => ?_) <;> simp [go_sem] at g4 ⊢
          · omega
          · refine Do.seqk fun _ k4_ => ?_
            refine Do.region [5,6,9,10,20] true ?_
            simp [go_sem]
            refine DoL.call true 302 rfl rfl rfl rfl (by first | exact trivial | omega | (simp; done) | (simp; omega)) (hR) rfl (by first | exact .inl rfl | exact .inr rfl) rfl ?_
            simp [go_sem]
            repeat (refine And.intro (by first | omega | (intros; omega) | (intros; exact And.intro (by assumption) (by omega)) | grind) ?_)
            apply k4_; clear k4_
            refine Do.cond [5,6,9,10] rfl (fun g5 => ?_) (fun g5 => ?_) <;> simp [go_sem, g3] at g5 ⊢
            refine Do.seqk fun _ k5_ => ?_
            refine Do.region [5,9,10,28] true ?_
            simp [go_sem, g3]
            repeat (refine And.intro (by first | omega | (intros; omega) | (intros; exact And.intro (by assumption) (by omega)) | grind) ?_)
            refine DoL.call true 502 rfl rfl rfl rfl (by first | exact trivial | omega | (simp; done) | (simp; omega)) (hc1) rfl (by first | exact .inl rfl | exact .inr rfl) rfl ?_
            simp [go_sem, g3]
            repeat (refine And.intro (by first | omega | (intros; omega) | (intros; exact And.intro (by assumption) (by omega)) | grind) ?_)
            refine DoL.callg true 506 rfl rfl rfl rfl rfl (by simp [go_sem] <;> omega) (fun _ => hc2) rfl (by first | exact .inl rfl | exact .inr rfl) rfl ?_
            simp [go_sem, g3]
            apply k5_; clear k5_
            refine Do.cond [5,9,10] rfl (fun g7 => ?_) (fun g7 => ?_) <;> simp [go_sem, g3] at g7 ⊢
            · refine Do.seqk fun _ k6_ => ?_
              refine Do.region [10,11] true ?_
              simp [go_sem, g3]
              repeat (refine And.intro (by first | omega | (intros; omega) | (intros; exact And.intro (by assumption) (by omega)) | grind) ?_)
              apply k6_; clear k6_
              refine Do.ret ?_
              simp [endQ, rets, ret1, go_sem, g3]
              repeat (refine And.intro (by first | omega | (intros; omega) | (intros; exact And.intro (by assumption) (by omega)) | grind) ?_)
              exact TLe.t (.cons (PLe.flt (ret_z rfl)) (.cons (PLe.refl _) .nil))
            · rcases g6 with g6 | g6 <;> simp [g6] at g7
        · rw [if_neg g6] at hz
          simp only [not_or, Bool.not_eq_false] at g6
          obtain ⟨g7, g8⟩ := g6
          rw [if_pos g7] at hc1
          rw [if_pos g8] at hc2
          cases g9 : (holdsP f p x.flt).2 with
          | true => rw [if_neg (by simp [g9])] at hz; exact absurd hz he
          | false =>
            rw [if_pos g9] at hz
            subst hz
            have hF := hF (by omega) g7 g9
            refine Does.of (nt := 52) Tryd.func40 rfl rfl rfl (by simp) ?_
            simp only [argTm, PV.ext, Ce.ext]
            refine Do.seqk fun _ k1_ => ?_
            refine Do.region [2,3,5,6,9,10] true ?_
            simp [go_sem]
            apply k1_; clear k1_
            refine Do.seqk fun _ k2_ => ?_
            refine Do.block ?_
            refine Do.seqk fun _ k3_ => ?_
            refine Do.region [2,3,5,6,9,10,14] true ?_
            simp [go_sem]
            repeat (refine And.intro (by first | omega | (intros; omega) | (intros; exact And.intro (by assumption) (by omega)) | grind) ?_)
            apply k3_; clear k3_
            refine Do.cond [2,3,5,6,9,10] rfl (fun g4 => ?_) (fun g4 => ?_) <;> simp [go_sem] at g4 ⊢
            · omega
            · refine Do.seqk fun _ k4_ => ?_
              refine Do.region [5,6,9,10,20] true ?_
              simp [go_sem]
              refine DoL.call true 302 rfl rfl rfl rfl (by first | exact trivial | omega | (simp; done) | (simp; omega)) (hR) rfl (by first | exact .inl rfl | exact .inr rfl) rfl ?_
              simp [go_sem]
              repeat (refine And.intro (by first | omega | (intros; omega) | (intros; exact And.intro (by assumption) (by omega)) | grind) ?_)
              apply k4_; clear k4_
              refine Do.cond [5,6,9,10] rfl (fun g5 => ?_) (fun g5 => ?_) <;> simp [go_sem, g3] at g5 ⊢
              refine Do.seqk fun _ k5_ => ?_
              refine Do.region [5,9,10,28] true ?_
              simp [go_sem, g3]
              repeat (refine And.intro (by first | omega | (intros; omega) | (intros; exact And.intro (by assumption) (by omega)) | grind) ?_)
              refine DoL.call true 502 rfl rfl rfl rfl (by first | exact trivial | omega | (simp; done) | (simp; omega)) (hc1) rfl (by first | exact .inl rfl | exact .inr rfl) rfl ?_
              simp [go_sem, g3]
              repeat (refine And.intro (by first | omega | (intros; omega) | (intros; exact And.intro (by assumption) (by omega)) | grind) ?_)
              refine DoL.callg true 506 rfl rfl rfl rfl rfl (by simp [go_sem] <;> omega) (fun _ => hc2) rfl (by first | exact .inl rfl | exact .inr rfl) rfl ?_
              simp [go_sem, g3]
              apply k5_; clear k5_
              refine Do.cond [5,9,10] rfl (fun g10 => ?_) (fun g10 => ?_) <;> simp [go_sem, g3] at g10 ⊢
              refine Do.skip ?_
              simp [go_sem]
              apply k2_; clear k2_
              refine Do.seqk fun _ k6_ => ?_
              refine Do.region [10,12,13] true ?_
              simp [go_sem, g3]
              repeat (refine And.intro (by first | omega | (intros; omega) | (intros; exact And.intro (by assumption) (by omega)) | grind) ?_)
              refine DoL.sealS true 703 702 rfl ?_
              simp [go_sem]
              refine DoL.call true 704 rfl rfl rfl rfl (by first | exact trivial | omega | (simp; done) | (simp; omega)) (hF) rfl (by first | exact .inl rfl | exact .inr rfl) rfl ?_
              simp [go_sem, g3]
              apply k6_; clear k6_
              refine Do.seqk fun _ k7_ => ?_
              refine Do.seqk fun _ k8_ => ?_
              refine Do.region [10,12,13,46] true ?_
              simp [go_sem, g3]
              apply k8_; clear k8_
              refine Do.cond [10,12,13] rfl (fun g11 => ?_) (fun g11 => ?_) <;> simp [go_sem, g3] at g11 ⊢
              refine Do.seqk fun _ k9_ => ?_
              refine Do.region [10,11] true ?_
              simp [go_sem, g3]
              repeat (refine And.intro (by first | omega | (intros; omega) | (intros; exact And.intro (by assumption) (by omega)) | grind) ?_)
              apply k9_; clear k9_
              refine Do.ret ?_
              simp [endQ, rets, ret1, go_sem, g3]
              repeat (refine And.intro (by first | omega | (intros; omega) | (intros; exact And.intro (by assumption) (by omega)) | grind) ?_)
              exact TLe.t (.cons (PLe.flt (ret_z rfl)) (.cons (PLe.refl _) .nil))
theorem number_does20 {k : Int} {n : Bool} {e : Int} {m : List Nat} : Does Tryd.prog Gv 41 [Fl k n e m] (.v (.c (.b (decide (k = 1) || decide (k = 0))))) := by
  refine Does.of (nt := 11) Tryd.func41 rfl rfl rfl (by simp) ?_
  simp only [argTm, PV.ext, Ce.ext]
  refine Do.seqk fun _ k1_ => ?_
  refine Do.region [1] true ?_
  simp [go_sem]
  apply k1_; clear k1_
  refine Do.seqk fun _ k2_ => ?_
  refine Do.region [2] true ?_
  simp [go_sem]
  repeat (refine And.intro (by first | omega | (intros; omega) | (intros; exact And.intro (by assumption) (by omega)) | grind) ?_)
  apply k2_; clear k2_
  refine Do.ret ?_
  simp [endQ, rets, ret1, go_sem]
  repeat (refine And.intro (by first | omega | (intros; omega) | (intros; exact And.intro (by assumption) (by omega)) | grind) ?_)
  exact TLe.refl _
theorem flag_does20 {b : Bool} : Does Tryd.prog Gv 44 [.c (.b b)] (.v (.c (.i .i64 (if b then 0 else 1)))) := by
  cases b
  · skip
    refine Does.of (nt := 4) Tryd.func44 rfl rfl rfl (by simp) ?_
    simp only [argTm, PV.ext, Ce.ext]
    refine Do.seqk fun _ k1_ => ?_
    refine Do.region [0] true ?_
    simp [go_sem]
    apply k1_; clear k1_
    refine Do.seqk fun _ k2_ => ?_
    refine Do.seqk fun _ k3_ => ?_
    refine Do.region [3] true ?_
    simp [go_sem]
    apply k3_; clear k3_
    refine Do.cond [] rfl (fun h => ?_) (fun h => ?_) <;> simp [go_sem] at h ⊢
    refine Do.skip ?_
    simp [go_sem]
    apply k2_; clear k2_
    refine Do.seqk fun _ k4_ => ?_
    refine Do.region [2] true ?_
    simp [go_sem]
    apply k4_; clear k4_
    refine Do.ret ?_
    simp [endQ, rets, ret1, go_sem]
    repeat (refine And.intro (by first | omega | (intros; omega) | (intros; exact And.intro (by assumption) (by omega)) | grind) ?_)
    exact TLe.refl _
  · skip
    refine Does.of (nt := 4) Tryd.func44 rfl rfl rfl (by simp) ?_
    simp only [argTm, PV.ext, Ce.ext]
    refine Do.seqk fun _ k1_ => ?_
    refine Do.region [0] true ?_
    simp [go_sem]
    apply k1_; clear k1_
    refine Do.seqk fun _ k2_ => ?_
    refine Do.seqk fun _ k3_ => ?_
    refine Do.region [3] true ?_
    simp [go_sem]
    apply k3_; clear k3_
    refine Do.cond [] rfl (fun h => ?_) (fun h => ?_) <;> simp [go_sem] at h ⊢
    refine Do.seqk fun _ k4_ => ?_
    refine Do.region [2] true ?_
    simp [go_sem]
    apply k4_; clear k4_
    refine Do.ret ?_
    simp [endQ, rets, ret1, go_sem]
    repeat (refine And.intro (by first | omega | (intros; omega) | (intros; exact And.intro (by assumption) (by omega)) | grind) ?_)
    exact TLe.refl _
theorem Convert_does {f p g q r : Int} {x : Fla} (hx : x.Ok) : Does Tryd.prog Gv 16 [Fm f p, Fm g q, .c (.i .i64 r), Fl x.k x.n x.e x.m] (Res (convP f p g q r x)) := by
  have hA := @cargs_does f p g q r false x hx
  unfold convP
  by_cases he : argsC f p g q r false x = 0
  · obtain ⟨h1, h2, h3, h4, h5, h6, h7⟩ := argsC_zero he
    rw [if_pos he, he] at hA
    rw [if_pos he]
    have hb := holdsP_bound h5 h7
    generalize (holdsP f p x.flt).1 = a at *
    have hF := fun (ok : (Nu.mk a.n a.v a.e).Ok) => @NFloat_does g q r h6 h2 h3 (Nu.mk a.n a.v a.e) false ok
    unfold convA
    by_cases hk : a.k = 1
    · rw [if_pos hk]
      have hF := hF ⟨(hb hk).1, by have := (hb hk).2; show a.e + bl a.v ≤ 4194304; omega⟩
      generalize (Nu.mk a.n a.v a.e).round g q r false = z at *
      refine Does.of (nt := 41) Tryd.func16 rfl rfl rfl (by simp) ?_
      simp only [argTm, PV.ext, Ce.ext]
      refine Do.seqk fun _ k1_ => ?_
      refine Do.region [2,4,5,7,8] true ?_
      simp [go_sem]
      apply k1_; clear k1_
      refine Do.seqk fun _ k2_ => ?_
      refine Do.region [2,5,7,8,11] true ?_
      simp [go_sem]
      repeat (refine And.intro (by first | omega | (intros; omega) | (intros; exact And.intro (by assumption) (by omega)) | grind) ?_)
      refine DoL.call true 105 rfl rfl rfl rfl (by first | exact trivial | omega | (simp; done) | (simp; omega)) (hA) rfl (by first | exact .inl rfl | exact .inr rfl) rfl ?_
      simp [go_sem]
      repeat (refine And.intro (by first | omega | (intros; omega) | (intros; exact And.intro (by assumption) (by omega)) | grind) ?_)
      apply k2_; clear k2_
      refine Do.seqk fun _ k3_ => ?_
      refine Do.seqk fun _ k4_ => ?_
      refine Do.region [2,5,7,8,11,28] true ?_
      simp [go_sem]
      repeat (refine And.intro (by first | omega | (intros; omega) | (intros; exact And.intro (by assumption) (by omega)) | grind) ?_)
      apply k4_; clear k4_
      refine Do.cond [2,5,7,8,11] rfl (fun g1 => ?_) (fun g1 => ?_) <;> simp [go_sem] at g1 ⊢
      · exact absurd hk g1
      · refine Do.skip ?_
        simp [go_sem]
        apply k3_; clear k3_
        refine Do.seqk fun _ k5_ => ?_
        refine Do.draw [8,12,13] true (by kernel_rfl) ?_
        simp [go_sem]
        repeat (refine And.intro (by first | omega | (intros; omega) | (intros; exact And.intro (by assumption) (by omega)) | kernel_rfl | grind) ?_)
        refine DoLD.call true 402 rfl rfl rfl rfl (by first | exact trivial | omega | (simp; done) | (simp; omega)) (Of_does) rfl (by first | exact .inl rfl | exact .inr rfl) rfl ?_
        simp [go_sem]
        repeat (refine And.intro (by first | omega | (intros; omega) | (intros; exact And.intro (by assumption) (by omega)) | kernel_rfl | grind) ?_)
        refine DoLD.call true 405 rfl rfl rfl rfl (by first | exact trivial | omega | (simp; done) | (simp; omega)) (hF) rfl (by first | exact .inl rfl | exact .inr rfl) rfl ?_
        simp [go_sem]
        repeat (refine And.intro (by first | omega | (intros; omega) | (intros; exact And.intro (by assumption) (by omega)) | kernel_rfl | grind) ?_)
        try (refine And.intro (by kernel_rfl) ?_)
        apply k5_; clear k5_
        refine Do.seqk fun _ k6_ => ?_
        refine Do.region [8,9,10] true ?_
        simp [go_sem]
        repeat (refine And.intro (by first | omega | (intros; omega) | (intros; exact And.intro (by assumption) (by omega)) | grind) ?_)
        apply k6_; clear k6_
        refine Do.ret ?_
        simp [endQ, rets, ret1, go_sem]
        repeat (refine And.intro (by first | omega | (intros; omega) | (intros; exact And.intro (by assumption) (by omega)) | grind) ?_)
        exact TLe.refl _
    · rw [if_neg hk]
      refine Does.of (nt := 41) Tryd.func16 rfl rfl rfl (by simp) ?_
      simp only [argTm, PV.ext, Ce.ext]
      refine Do.seqk fun _ k1_ => ?_
      refine Do.region [2,4,5,7,8] true ?_
      simp [go_sem]
      apply k1_; clear k1_
      refine Do.seqk fun _ k2_ => ?_
      refine Do.region [2,5,7,8,11] true ?_
      simp [go_sem]
      repeat (refine And.intro (by first | omega | (intros; omega) | (intros; exact And.intro (by assumption) (by omega)) | grind) ?_)
      refine DoL.call true 105 rfl rfl rfl rfl (by first | exact trivial | omega | (simp; done) | (simp; omega)) (hA) rfl (by first | exact .inl rfl | exact .inr rfl) rfl ?_
      simp [go_sem]
      repeat (refine And.intro (by first | omega | (intros; omega) | (intros; exact And.intro (by assumption) (by omega)) | grind) ?_)
      apply k2_; clear k2_
      refine Do.seqk fun _ k3_ => ?_
      refine Do.seqk fun _ k4_ => ?_
      refine Do.region [2,5,7,8,11,28] true ?_
      simp [go_sem]
      repeat (refine And.intro (by first | omega | (intros; omega) | (intros; exact And.intro (by assumption) (by omega)) | grind) ?_)
      apply k4_; clear k4_
      refine Do.cond [2,5,7,8,11] rfl (fun g1 => ?_) (fun g1 => ?_) <;> simp [go_sem] at g1 ⊢
      · refine Do.seqk fun _ k5_ => ?_
        refine Do.region [8,9,10] true ?_
        simp [go_sem]
        repeat (refine And.intro (by first | omega | (intros; omega) | (intros; exact And.intro (by assumption) (by omega)) | grind) ?_)
        apply k5_; clear k5_
        refine Do.ret ?_
        simp [endQ, rets, ret1, go_sem]
        repeat (refine And.intro (by first | omega | (intros; omega) | (intros; exact And.intro (by assumption) (by omega)) | grind) ?_)
        exact TLe.refl _
      · exact absurd g1 hk
  · rw [if_neg he] at hA
    rw [if_neg he]
    generalize argsC f p g q r false x = z at *
    have hz : (z != 0) = true := by simpa using he
    refine Does.of (nt := 41) Tryd.func16 rfl rfl rfl (by simp) ?_
    simp only [argTm, PV.ext, Ce.ext]
    refine Do.seqk fun _ k1_ => ?_
    refine Do.region [2,4,5,7,8] true ?_
    simp [go_sem]
    apply k1_; clear k1_
    refine Do.seqk fun _ k2_ => ?_
    refine Do.region [2,5,7,8,11] true ?_
    simp [go_sem]
    repeat (refine And.intro (by first | omega | (intros; omega) | (intros; exact And.intro (by assumption) (by omega)) | grind) ?_)
    refine DoL.call true 105 rfl rfl rfl rfl (by first | exact trivial | omega | (simp; done) | (simp; omega)) (hA) rfl (by first | exact .inl rfl | exact .inr rfl) rfl ?_
    simp [go_sem]
    repeat (refine And.intro (by first | omega | (intros; omega) | (intros; exact And.intro (by assumption) (by omega)) | grind) ?_)
    apply k2_; clear k2_
    refine Do.seqk fun _ k3_ => ?_
    refine Do.seqk fun _ k4_ => ?_
    refine Do.region [2,5,7,8,11,28] true ?_
    simp [go_sem, hz]
    repeat (refine And.intro (by first | omega | (intros; omega) | (intros; exact And.intro (by assumption) (by omega)) | grind) ?_)
    apply k4_; clear k4_
    refine Do.cond [2,5,7,8,11] rfl (fun g1 => ?_) (fun g1 => ?_) <;> simp [go_sem, hz] at g1 ⊢
    refine Do.seqk fun _ k5_ => ?_
    refine Do.region [8,9,10] true ?_
    simp [go_sem, hz]
    repeat (refine And.intro (by first | omega | (intros; omega) | (intros; exact And.intro (by assumption) (by omega)) | grind) ?_)
    apply k5_; clear k5_
    refine Do.ret ?_
    simp [endQ, rets, ret1, go_sem, hz]
    repeat (refine And.intro (by first | omega | (intros; omega) | (intros; exact And.intro (by assumption) (by omega)) | grind) ?_)
    exact TLe.refl _
theorem Fit_bad {f p g q : Int} (h : fmOk f p = false ∨ fmOk g q = false) : Does Tryd.prog Gv 15 [Fm f p, Fm g q] (.t [.c (.b false), .c (.i .i64 150)]) := by
  cases hf : fmOk f p with
  | false =>
    have h1 := @Range_bad Gv f p hf
    refine Does.of (nt := 48) Tryd.func15 rfl rfl rfl (by simp) ?_
    simp only [argTm, PV.ext, Ce.ext]
    refine Do.seqk fun _ k1_ => ?_
    refine Do.region [2,3] true ?_
    simp [go_sem]
    apply k1_; clear k1_
    refine Do.seqk fun _ k2_ => ?_
    refine Do.region [2,3,7,8,9] true ?_
    simp [go_sem]
    repeat (refine And.intro (by first | omega | (intros; omega) | (intros; exact And.intro (by assumption) (by omega)) | grind) ?_)
    refine DoL.call true 102 rfl rfl rfl rfl (by first | exact trivial | omega | (simp; done) | (simp; omega)) (h1) rfl (by first | exact .inl rfl | exact .inr rfl) rfl ?_
    simp [go_sem]
    apply k2_; clear k2_
    refine Do.seqk fun _ k3_ => ?_
    refine Do.seqk fun _ k4_ => ?_
    refine Do.region [2,3,7,8,9,21] true ?_
    simp [go_sem]
    apply k4_; clear k4_
    refine Do.cond [2,3,7,8,9] rfl (fun g1 => ?_) (fun g1 => ?_) <;> simp [go_sem] at g1 ⊢
    refine Do.seqk fun _ k5_ => ?_
    refine Do.region [4,5] true ?_
    simp [go_sem]
    apply k5_; clear k5_
    refine Do.ret ?_
    simp [endQ, rets, ret1, go_sem]
    repeat (refine And.intro (by first | omega | (intros; omega) | (intros; exact And.intro (by assumption) (by omega)) | grind) ?_)
    exact TLe.refl _
  | true =>
    have hg : fmOk g q = false := by simpa [hf] using h
    have h1 := @Range_does Gv f p hf
    have h2 := @Range_bad Gv g q hg
    refine Does.of (nt := 48) Tryd.func15 rfl rfl rfl (by simp) ?_
    simp only [argTm, PV.ext, Ce.ext]
    refine Do.seqk fun _ k1_ => ?_
    refine Do.region [2,3] true ?_
    simp [go_sem]
    apply k1_; clear k1_
    refine Do.seqk fun _ k2_ => ?_
    refine Do.region [2,3,7,8,9] true ?_
    simp [go_sem]
    repeat (refine And.intro (by first | omega | (intros; omega) | (intros; exact And.intro (by assumption) (by omega)) | grind) ?_)
    refine DoL.call true 102 rfl rfl rfl rfl (by first | exact trivial | omega | (simp; done) | (simp; omega)) (h1) rfl (by first | exact .inl rfl | exact .inr rfl) rfl ?_
    simp [go_sem]
    apply k2_; clear k2_
    refine Do.seqk fun _ k3_ => ?_
    refine Do.seqk fun _ k4_ => ?_
    refine Do.region [2,3,7,8,9,21] true ?_
    simp [go_sem]
    apply k4_; clear k4_
    refine Do.cond [2,3,7,8,9] rfl (fun g1 => ?_) (fun g1 => ?_) <;> simp [go_sem] at g1 ⊢
    refine Do.skip ?_
    simp [go_sem]
    apply k3_; clear k3_
    refine Do.seqk fun _ k5_ => ?_
    refine Do.region [2,3,7,8,9,11,12] true ?_
    simp [go_sem]
    repeat (refine And.intro (by first | omega | (intros; omega) | (intros; exact And.intro (by assumption) (by omega)) | grind) ?_)
    refine DoL.call true 402 rfl rfl rfl rfl (by first | exact trivial | omega | (simp; done) | (simp; omega)) (h2) rfl (by first | exact .inl rfl | exact .inr rfl) rfl ?_
    simp [go_sem]
    apply k5_; clear k5_
    refine Do.seqk fun _ k6_ => ?_
    refine Do.seqk fun _ k7_ => ?_
    refine Do.region [2,3,7,8,9,11,12,31] true ?_
    simp [go_sem]
    apply k7_; clear k7_
    refine Do.cond [2,3,7,8,9,11,12] rfl (fun g1 => ?_) (fun g1 => ?_) <;> simp [go_sem] at g1 ⊢
    refine Do.seqk fun _ k8_ => ?_
    refine Do.region [4,5] true ?_
    simp [go_sem]
    apply k8_; clear k8_
    refine Do.ret ?_
    simp [endQ, rets, ret1, go_sem]
    repeat (refine And.intro (by first | omega | (intros; omega) | (intros; exact And.intro (by assumption) (by omega)) | grind) ?_)
    exact TLe.refl _
theorem Fit_does20 {f p g q : Int} (hf : fmOk f p = true) (hg : fmOk g q = true) : Does Tryd.prog Gv 15 [Fm f p, Fm g q] (.t [.c (.b (fitP f p g q)), .c (.i .i64 0)]) := by
  have h1 := @Range_does Gv f p hf
  have h2 := @Range_does Gv g q hg
  unfold fitP
  generalize (1 - gOfE f - (p - 1)) = t1 at *
  generalize (1 - gOfE g - (q - 1)) = t2 at *
  refine Does.of (nt := 48) Tryd.func15 rfl rfl rfl (by simp) ?_
  simp only [argTm, PV.ext, Ce.ext]
  refine Do.seqk fun _ k1_ => ?_
  refine Do.region [2,3] true ?_
  simp [go_sem]
  apply k1_; clear k1_
  refine Do.seqk fun _ k2_ => ?_
  refine Do.region [2,3,7,8,9] true ?_
  simp [go_sem]
  repeat (refine And.intro (by first | omega | (intros; omega) | (intros; exact And.intro (by assumption) (by omega)) | grind) ?_)
  refine DoL.call true 102 rfl rfl rfl rfl (by first | exact trivial | omega | (simp; done) | (simp; omega)) (h1) rfl (by first | exact .inl rfl | exact .inr rfl) rfl ?_
  simp [go_sem]
  apply k2_; clear k2_
  refine Do.seqk fun _ k3_ => ?_
  refine Do.seqk fun _ k4_ => ?_
  refine Do.region [2,3,7,8,9,21] true ?_
  simp [go_sem]
  apply k4_; clear k4_
  refine Do.cond [2,3,7,8,9] rfl (fun g1 => ?_) (fun g1 => ?_) <;> simp [go_sem] at g1 ⊢
  refine Do.skip ?_
  simp [go_sem]
  apply k3_; clear k3_
  refine Do.seqk fun _ k5_ => ?_
  refine Do.region [2,3,7,8,9,11,12] true ?_
  simp [go_sem]
  repeat (refine And.intro (by first | omega | (intros; omega) | (intros; exact And.intro (by assumption) (by omega)) | grind) ?_)
  refine DoL.call true 402 rfl rfl rfl rfl (by first | exact trivial | omega | (simp; done) | (simp; omega)) (h2) rfl (by first | exact .inl rfl | exact .inr rfl) rfl ?_
  simp [go_sem]
  apply k5_; clear k5_
  refine Do.seqk fun _ k6_ => ?_
  refine Do.seqk fun _ k7_ => ?_
  refine Do.region [2,3,7,8,9,11,12,31] true ?_
  simp [go_sem]
  apply k7_; clear k7_
  refine Do.cond [2,3,7,8,9,11,12] rfl (fun g1 => ?_) (fun g1 => ?_) <;> simp [go_sem] at g1 ⊢
  refine Do.skip ?_
  simp [go_sem]
  apply k6_; clear k6_
  refine Do.seqk fun _ k8_ => ?_
  refine Do.region [4,5] true ?_
  simp [go_sem]
  repeat (refine And.intro (by first | omega | (intros; omega) | (intros; exact And.intro (by assumption) (by omega)) | grind) ?_)
  apply k8_; clear k8_
  refine Do.ret ?_
  simp [endQ, rets, ret1, go_sem]
  repeat (refine And.intro (by first | omega | (intros; omega) | (intros; exact And.intro (by assumption) (by omega)) | grind) ?_)
  exact TLe.refl _
theorem ToInt_does {f p r : Int} {x : Fla} (hx : x.Ok) (he : argsC f p f p r false x = 0) {a : Flt} (ha : (holdsP f p x.flt).1 = a) (hk : a.k = 0 ∨ a.k = 1) (hok : (Nu.mk a.n a.v a.e).Ok) : Does Tryd.prog Gv 12 [Fm f p, .c (.i .i64 r), Fl x.k x.n x.e x.m] (.t [Iv (sgn a.n (wholeP r ⟨a.n, a.v, a.e⟩).1), .c (.i .i64 (if (wholeP r ⟨a.n, a.v, a.e⟩).2 then 0 else 1)), .c (.i .i64 0)]) := by
  have hA := @cargs_does f p f p r false x hx
  obtain ⟨h1, h2, h3, h4, h5, h6, h7⟩ := argsC_zero he
  rw [if_pos he, he, ha] at hA
  have hW := @WholeN_does r h2 h3 ⟨a.n, a.v, a.e⟩ hok
  generalize wholeP r ⟨a.n, a.v, a.e⟩ = w at *
  generalize sgn a.n w.1 = z at *
  have hFl := @flag_does20 w.2
  generalize (if w.2 = true then (0 : Int) else 1) = fl at *
  refine Does.of (nt := 40) Tryd.func12 rfl rfl rfl (by simp) ?_
  simp only [argTm, PV.ext, Ce.ext]
  refine Do.seqk fun _ k1_ => ?_
  refine Do.region [1,3,5,6] true ?_
  simp [go_sem]
  apply k1_; clear k1_
  refine Do.seqk fun _ k2_ => ?_
  refine Do.region [1,5,6,9] true ?_
  simp [go_sem]
  repeat (refine And.intro (by first | omega | (intros; omega) | (intros; exact And.intro (by assumption) (by omega)) | grind) ?_)
  refine DoL.call true 105 rfl rfl rfl rfl (by first | exact trivial | omega | (simp; done) | (simp; omega)) (hA) rfl (by first | exact .inl rfl | exact .inr rfl) rfl ?_
  simp [go_sem]
  repeat (refine And.intro (by first | omega | (intros; omega) | (intros; exact And.intro (by assumption) (by omega)) | grind) ?_)
  apply k2_; clear k2_
  refine Do.seqk fun _ k3_ => ?_
  refine Do.block ?_
  refine Do.seqk fun _ k4_ => ?_
  refine Do.region [1,5,6,9,20] true ?_
  simp [go_sem]
  apply k4_; clear k4_
  refine Do.cond [1,5,6,9] rfl (fun g1 => ?_) (fun g1 => ?_) <;> simp [go_sem] at g1 ⊢
  refine Do.seqk fun _ k5_ => ?_
  refine Do.region [1,5,6,25] true ?_
  simp [go_sem]
  repeat (refine And.intro (by first | omega | (intros; omega) | (intros; exact And.intro (by assumption) (by omega)) | grind) ?_)
  refine DoL.call true 402 rfl rfl rfl rfl (by first | exact trivial | omega | (simp; done) | (simp; omega)) (number_does20) rfl (by first | exact .inl rfl | exact .inr rfl) rfl ?_
  simp [go_sem]
  repeat (refine And.intro (by first | omega | (intros; omega) | (intros; exact And.intro (by assumption) (by omega)) | grind) ?_)
  apply k5_; clear k5_
  refine Do.cond [1,5,6] rfl (fun g2 => ?_) (fun g2 => ?_) <;> simp [go_sem] at g2 ⊢
  · omega
  · refine Do.skip ?_
    simp [go_sem]
    apply k3_; clear k3_
    refine Do.seqk fun _ k6_ => ?_
    refine Do.region [6,10,11] true ?_
    simp [go_sem]
    repeat (refine And.intro (by first | omega | (intros; omega) | (intros; exact And.intro (by assumption) (by omega)) | grind) ?_)
    refine DoL.call true 602 rfl rfl rfl rfl (by first | exact trivial | omega | (simp; done) | (simp; omega)) (Of_does) rfl (by first | exact .inl rfl | exact .inr rfl) rfl ?_
    simp [go_sem]
    refine DoL.call true 604 rfl rfl rfl rfl (by first | exact trivial | omega | (simp; done) | (simp; omega)) (hW) rfl (by first | exact .inl rfl | exact .inr rfl) rfl ?_
    simp [go_sem]
    repeat (refine And.intro (by first | omega | (intros; omega) | (intros; exact And.intro (by assumption) (by omega)) | grind) ?_)
    apply k6_; clear k6_
    refine Do.seqk fun _ k7_ => ?_
    refine Do.draw [6,7,8] true (by kernel_rfl) ?_
    simp [go_sem]
    repeat (refine And.intro (by first | omega | (intros; omega) | (intros; exact And.intro (by assumption) (by omega)) | kernel_rfl | grind) ?_)
    refine DoLD.call true 703 rfl rfl rfl rfl (by first | exact trivial | omega | (simp; done) | (simp; omega)) (hFl) rfl (by first | exact .inl rfl | exact .inr rfl) rfl ?_
    simp [go_sem]
    repeat (refine And.intro (by first | omega | (intros; omega) | (intros; exact And.intro (by assumption) (by omega)) | kernel_rfl | grind) ?_)
    try (refine And.intro (by kernel_rfl) ?_)
    apply k7_; clear k7_
    refine Do.ret ?_
    simp [endQ, rets, ret1, go_sem]
    repeat (refine And.intro (by first | omega | (intros; omega) | (intros; exact And.intro (by assumption) (by omega)) | grind) ?_)
    exact TLe.refl _
end Go.Proofs.YtokgalpflooegaaDoor
/- Rounding of rational numbers whose denominator is 1; the program awake. No condition. -/
namespace Go.Proofs.YtokgalpflooegaaDoor
set_option linter.unusedVariables false
set_option linter.unusedSimpArgs false
set_option maxHeartbeats 4000000
set_option maxRecDepth 10000
/-- A rational number as it is laid. -/
abbrev Qr (n : Bool) (m d : List Nat) : PV := .a [.b n, .w false m, .w false d]
/-- The error of a rational number and a rounding. -/
def checkQ (r : Int) (m d : List Nat) : Int :=
  if 4096 < m.length ∨ 4096 < d.length then 2 else if val d = 0 then 5 else if 0 ≤ r ∧ r ≤ 4 then 0 else 1
theorem check_does20 {r : Int} {n : Bool} {m d : List Nat} (hm : Sh m) (hd : Sh d) : Does Tryd.prog Gv 58 [.c (.i .i64 r), .s false [[.b n, .w false m, .w false d]]] (.v (.c (.i .i64 (checkQ r m d)))) := by
  have hz : checkQ r m d = checkQ r m d := rfl
  conv at hz => rhs; unfold checkQ
  generalize checkQ r m d = z at *
  have hZ := @Zero_does Gv d hd
  have hR := @Right_does Gv r
  refine Does.of (nt := 40) Tryd.func58 rfl rfl rfl (by simp) ?_
  simp only [argTm, PV.ext, Ce.ext]
  refine Do.seqk fun _ k1_ => ?_
  refine Do.region [0,1] true ?_
  simp [go_sem]
  apply k1_; clear k1_
  refine Do.seqk fun _ k2_ => ?_
  refine Do.seqk fun _ k3_ => ?_
  refine Do.region [0,1,9,10,11] true ?_
  simp [go_sem]
  repeat (refine And.intro (by first | omega | (intros; omega) | (intros; exact And.intro (by assumption) (by omega)) | grind) ?_)
  apply k3_; clear k3_
  refine Do.block ?_
  refine Do.loopF [0,1,9,10,11] (fun (i : Nat) => [(11, .int .i64 i)]) (fun (i : Nat) => []) (fun (i : Nat) => i ≤ 1 ∧ (0 < i → ¬ (4096 < m.length ∨ 4096 < d.length))) (fun (i : Nat) => 1 - i) (0) (fun _ => by first | (simp [go_sem, mixS]; done) | (simp [go_sem, mixS]; rfl)) (St.le_of (by first | rfl | simp [keep]) (by first | rfl | simp [keep])) (⟨by omega, by omega⟩) ?_
  rintro i ⟨hi, hs⟩
  refine Do.seqk fun _ k4_ => ?_
  refine Do.region [0,1,9,10,11,12] true ?_
  simp [go_sem]
  apply k4_; clear k4_
  refine Do.seqk fun _ k5_ => ?_
  refine Do.cond [0,1,9,10,11] rfl (fun g1 => ?_) (fun g1 => ?_) <;> simp [go_sem] at g1 ⊢
  · obtain rfl : i = 0 := by omega
    refine Do.skip ?_
    simp [go_sem]
    apply k5_; clear k5_
    refine Do.seqk fun _ k6_ => ?_
    refine Do.block ?_
    refine Do.seqk fun _ k7_ => ?_
    refine Do.region [0,1,6,9,10,11] true ?_
    simp [go_sem, List.length_cons, List.length_nil]
    repeat (refine And.intro (by first | omega | (intros; omega) | (intros; exact And.intro (by assumption) (by omega)) | grind) ?_)
    apply k7_; clear k7_
    refine Do.seqk fun _ k8_ => ?_
    refine Do.region [0,1,9,10,11,25] true ?_
    simp [go_sem, List.length_cons, List.length_nil]
    repeat (refine And.intro (by first | omega | (intros; omega) | (intros; exact And.intro (by assumption) (by omega)) | grind) ?_)
    apply k8_; clear k8_
    refine Do.cond [0,1,9,10,11] rfl (fun g2 => ?_) (fun g2 => ?_) <;> simp [go_sem, List.length_cons, List.length_nil] at g2 ⊢
    · refine Do.seqk fun _ k9_ => ?_
      refine Do.region [4] true ?_
      simp [go_sem, List.length_cons, List.length_nil]
      apply k9_; clear k9_
      refine Do.ret ?_
      simp [endQ, rets, ret1, go_sem, List.length_cons, List.length_nil]
      repeat (refine And.intro (by first | omega | (intros; omega) | (intros; exact And.intro (by assumption) (by omega)) | grind) ?_)
      rw [if_pos (by omega)] at hz
      subst hz
      exact TLe.refl _
    · refine Do.skip ?_
      simp [go_sem]
      apply k6_; clear k6_
      refine Do.region [0,1,9,10,11] true ?_
      simp [go_sem, List.length_cons, List.length_nil]
      repeat (refine And.intro (by first | omega | (intros; omega) | (intros; exact And.intro (by assumption) (by omega)) | grind) ?_)
      refine ⟨1, St.le_of (by first | rfl | simp [keep]) (by first | rfl | simp [keep]), ⟨by omega, by omega⟩, by simp⟩
  · obtain rfl : i = 1 := by omega
    have hs := hs (by omega)
    rw [if_neg hs] at hz
    refine Do.exit ?_
    simp [go_sem]
    apply k2_; clear k2_
    refine Do.seqk fun _ k10_ => ?_
    refine Do.seqk fun _ k11_ => ?_
    refine Do.region [0,27,28,29] true ?_
    simp [go_sem]
    repeat (refine And.intro (by first | omega | (intros; omega) | (intros; exact And.intro (by assumption) (by omega)) | grind) ?_)
    apply k11_; clear k11_
    refine Do.block ?_
    refine Do.loopF [0,27,28,29] (fun (j : Nat) => [(29, .int .i64 j)]) (fun (j : Nat) => []) (fun (j : Nat) => j ≤ 1 ∧ (0 < j → val d ≠ 0)) (fun (j : Nat) => 1 - j) (0) (fun _ => by first | (simp [go_sem, mixS]; done) | (simp [go_sem, mixS]; rfl)) (St.le_of (by first | rfl | simp [keep]) (by first | rfl | simp [keep])) (⟨by omega, by omega⟩) ?_
    rintro j ⟨hj, hs2⟩
    refine Do.seqk fun _ k12_ => ?_
    refine Do.region [0,27,28,29,30] true ?_
    simp [go_sem]
    apply k12_; clear k12_
    refine Do.seqk fun _ k13_ => ?_
    refine Do.cond [0,27,28,29] rfl (fun g3 => ?_) (fun g3 => ?_) <;> simp [go_sem] at g3 ⊢
    · obtain rfl : j = 0 := by omega
      refine Do.skip ?_
      simp [go_sem]
      apply k13_; clear k13_
      refine Do.seqk fun _ k14_ => ?_
      refine Do.block ?_
      refine Do.seqk fun _ k15_ => ?_
      refine Do.region [0,8,27,28,29] true ?_
      simp [go_sem, List.length_cons, List.length_nil]
      repeat (refine And.intro (by first | omega | (intros; omega) | (intros; exact And.intro (by assumption) (by omega)) | grind) ?_)
      apply k15_; clear k15_
      refine Do.seqk fun _ k16_ => ?_
      refine Do.region [0,27,28,29,35] true ?_
      simp [go_sem, List.length_cons, List.length_nil]
      repeat (refine And.intro (by first | omega | (intros; omega) | (intros; exact And.intro (by assumption) (by omega)) | grind) ?_)
      refine DoL.call true 1003 rfl rfl rfl rfl (by first | exact trivial | omega | (simp; done) | (simp; omega)) (hZ) rfl (by first | exact .inl rfl | exact .inr rfl) rfl ?_
      simp [go_sem, List.length_cons, List.length_nil]
      apply k16_; clear k16_
      refine Do.cond [0,27,28,29] rfl (fun g4 => ?_) (fun g4 => ?_) <;> simp [go_sem, List.length_cons, List.length_nil] at g4 ⊢
      · refine Do.seqk fun _ k17_ => ?_
        refine Do.region [4] true ?_
        simp [go_sem, List.length_cons, List.length_nil]
        apply k17_; clear k17_
        refine Do.ret ?_
        simp [endQ, rets, ret1, go_sem, List.length_cons, List.length_nil]
        repeat (refine And.intro (by first | omega | (intros; omega) | (intros; exact And.intro (by assumption) (by omega)) | grind) ?_)
        rw [if_pos g4] at hz
        subst hz
        exact TLe.refl _
      · refine Do.skip ?_
        simp [go_sem]
        apply k14_; clear k14_
        refine Do.region [0,27,28,29] true ?_
        simp [go_sem, List.length_cons, List.length_nil]
        repeat (refine And.intro (by first | omega | (intros; omega) | (intros; exact And.intro (by assumption) (by omega)) | grind) ?_)
        refine ⟨1, St.le_of (by first | rfl | simp [keep]) (by first | rfl | simp [keep]), ⟨by omega, fun _ => g4⟩, by simp⟩
    · obtain rfl : j = 1 := by omega
      rw [if_neg (hs2 (by omega))] at hz
      refine Do.exit ?_
      simp [go_sem]
      apply k10_; clear k10_
      refine Do.seqk fun _ k18_ => ?_
      refine Do.seqk fun _ k19_ => ?_
      refine Do.region [39] true ?_
      simp [go_sem]
      refine DoL.call true 1302 rfl rfl rfl rfl (by first | exact trivial | omega | (simp; done) | (simp; omega)) (hR) rfl (by first | exact .inl rfl | exact .inr rfl) rfl ?_
      simp [go_sem]
      repeat (refine And.intro (by first | omega | (intros; omega) | (intros; exact And.intro (by assumption) (by omega)) | grind) ?_)
      apply k19_; clear k19_
      refine Do.cond [] rfl (fun g5 => ?_) (fun g5 => ?_) <;> simp [go_sem] at g5 ⊢
      · refine Do.seqk fun _ k20_ => ?_
        refine Do.region [4] true ?_
        simp [go_sem]
        apply k20_; clear k20_
        refine Do.ret ?_
        simp [endQ, rets, ret1, go_sem]
        repeat (refine And.intro (by first | omega | (intros; omega) | (intros; exact And.intro (by assumption) (by omega)) | grind) ?_)
        rw [if_neg (by omega)] at hz
        subst hz
        exact TLe.refl _
      · refine Do.skip ?_
        simp [go_sem]
        apply k18_; clear k18_
        refine Do.seqk fun _ k21_ => ?_
        refine Do.region [4] true ?_
        simp [go_sem]
        apply k21_; clear k21_
        refine Do.ret ?_
        simp [endQ, rets, ret1, go_sem]
        repeat (refine And.intro (by first | omega | (intros; omega) | (intros; exact And.intro (by assumption) (by omega)) | grind) ?_)
        rw [if_pos (by omega)] at hz
        subst hz
        exact TLe.refl _
/-- A rational number with the denominator 1, rounded, or the error. -/
def roundQ (f p r : Int) (n : Bool) (m : List Nat) : Flt × Int × Int :=
  if checkQ r m [1] ≠ 0 then (⟨0, false, 0, 0⟩, 0, checkQ r m [1]) else if fmOk f p = false then (⟨0, false, 0, 0⟩, 0, 150)
  else if val m = 0 then (⟨0, false, 0, 0⟩, 0, 0) else ((roundP f p r n (val m) 0 false).1, (roundP f p r n (val m) 0 false).2, 0)
theorem checkQ_zero {r : Int} {m d : List Nat} (h : checkQ r m d = 0) : m.length ≤ 4096 ∧ d.length ≤ 4096 ∧ val d ≠ 0 ∧ 0 ≤ r ∧ r ≤ 4 := by
  unfold checkQ at h
  split at h
  · omega
  · split at h
    · omega
    · split at h <;> omega
theorem Round_err20 {f p r : Int} {n : Bool} {m d : List Nat} (hm : Sh m) (hd : Sh d) (h : checkQ r m d ≠ 0) : Does Tryd.prog Gv 25 [Fm f p, .c (.i .i64 r), Qr n m d] (.t [Flt.pv ⟨0, false, 0, 0⟩, .c (.i .i64 0), .c (.i .i64 (checkQ r m d))]) := by
  have hC := @check_does20 r n m d hm hd
  generalize checkQ r m d = z at *
  have hz : (z != 0) = true := by simpa using h
  have hz2 : (z == 0) = false := by simpa using h
  refine Does.of (nt := 46) Tryd.func25 rfl rfl rfl (by simp) ?_
  simp only [argTm, PV.ext, Ce.ext]
  refine Do.seqk fun _ k1_ => ?_
  refine Do.region [1,3,5,6] true ?_
  simp [go_sem]
  apply k1_; clear k1_
  refine Do.seqk fun _ k2_ => ?_
  refine Do.region [1,3,5,6,9] true ?_
  simp [go_sem]
  repeat (refine And.intro (by first | omega | (intros; omega) | (intros; exact And.intro (by assumption) (by omega)) | grind) ?_)
  refine DoL.sealS true 103 102 rfl ?_
  simp [go_sem]
  refine DoL.call true 104 rfl rfl rfl rfl (by first | exact trivial | omega | (simp; done) | (simp; omega)) (hC) rfl (by first | exact .inl rfl | exact .inr rfl) rfl ?_
  simp [go_sem]
  apply k2_; clear k2_
  refine Do.seqk fun _ k3_ => ?_
  refine Do.seqk fun _ k4_ => ?_
  refine Do.region [1,3,5,6,9,17] true ?_
  simp [go_sem, hz, hz2]
  apply k4_; clear k4_
  refine Do.cond [1,3,5,6,9] rfl (fun g1 => ?_) (fun g1 => ?_) <;> simp [go_sem, hz, hz2] at g1 ⊢
  refine Do.skip ?_
  simp [go_sem]
  apply k3_; clear k3_
  refine Do.seqk fun _ k5_ => ?_
  refine Do.seqk fun _ k6_ => ?_
  refine Do.region [1,3,5,6,9,27] true ?_
  simp [go_sem, hz, hz2]
  repeat (refine And.intro (by first | omega | (intros; omega) | (intros; exact And.intro (by assumption) (by omega)) | grind) ?_)
  refine DoL.gOff true 407 rfl rfl (.v (.c (.b false))) rfl ?_
  simp [go_sem, hz, hz2]
  apply k6_; clear k6_
  refine Do.cond [1,3,5,6,9] rfl (fun g2 => ?_) (fun g2 => ?_) <;> simp [go_sem, hz, hz2] at g2 ⊢
  refine Do.seqk fun _ k7_ => ?_
  refine Do.region [6,7,8] true ?_
  simp [go_sem, hz, hz2]
  repeat (refine And.intro (by first | omega | (intros; omega) | (intros; exact And.intro (by assumption) (by omega)) | grind) ?_)
  apply k7_; clear k7_
  refine Do.ret ?_
  simp [endQ, rets, ret1, go_sem, hz, hz2]
  repeat (refine And.intro (by first | omega | (intros; omega) | (intros; exact And.intro (by assumption) (by omega)) | grind) ?_)
  exact TLe.t (.cons (PLe.flt (ret_z rfl)) (.cons (PLe.refl _) (.cons (PLe.refl _) .nil)))
theorem Round_fmt20 {f p r : Int} {n : Bool} {m d : List Nat} (hm : Sh m) (hd : Sh d) (h : checkQ r m d = 0) (hf : fmOk f p = false) : Does Tryd.prog Gv 25 [Fm f p, .c (.i .i64 r), Qr n m d] (.t [Flt.pv ⟨0, false, 0, 0⟩, .c (.i .i64 0), .c (.i .i64 150)]) := by
  have hC := @check_does20 r n m d hm hd
  rw [h] at hC
  have hF := @Check_does Gv f p
  rw [if_neg (by simp [hf])] at hF
  refine Does.of (nt := 46) Tryd.func25 rfl rfl rfl (by simp) ?_
  simp only [argTm, PV.ext, Ce.ext]
  refine Do.seqk fun _ k1_ => ?_
  refine Do.region [1,3,5,6] true ?_
  simp [go_sem]
  apply k1_; clear k1_
  refine Do.seqk fun _ k2_ => ?_
  refine Do.region [1,3,5,6,9] true ?_
  simp [go_sem]
  repeat (refine And.intro (by first | omega | (intros; omega) | (intros; exact And.intro (by assumption) (by omega)) | grind) ?_)
  refine DoL.sealS true 103 102 rfl ?_
  simp [go_sem]
  refine DoL.call true 104 rfl rfl rfl rfl (by first | exact trivial | omega | (simp; done) | (simp; omega)) (hC) rfl (by first | exact .inl rfl | exact .inr rfl) rfl ?_
  simp [go_sem]
  apply k2_; clear k2_
  refine Do.seqk fun _ k3_ => ?_
  refine Do.seqk fun _ k4_ => ?_
  refine Do.region [1,3,5,6,9,17] true ?_
  simp [go_sem]
  apply k4_; clear k4_
  refine Do.cond [1,3,5,6,9] rfl (fun g1 => ?_) (fun g1 => ?_) <;> simp [go_sem] at g1 ⊢
  refine Do.region [1,3,5,6,9] true ?_
  simp [go_sem]
  repeat (refine And.intro (by first | omega | (intros; omega) | (intros; exact And.intro (by assumption) (by omega)) | grind) ?_)
  refine DoL.call true 302 rfl rfl rfl rfl (by first | exact trivial | omega | (simp; done) | (simp; omega)) (hF) rfl (by first | exact .inl rfl | exact .inr rfl) rfl ?_
  simp [go_sem]
  apply k3_; clear k3_
  refine Do.seqk fun _ k5_ => ?_
  refine Do.seqk fun _ k6_ => ?_
  refine Do.region [1,3,5,6,9,27] true ?_
  simp [go_sem]
  repeat (refine And.intro (by first | omega | (intros; omega) | (intros; exact And.intro (by assumption) (by omega)) | grind) ?_)
  refine DoL.gOff true 407 rfl rfl (.v (.c (.b false))) rfl ?_
  simp [go_sem]
  apply k6_; clear k6_
  refine Do.cond [1,3,5,6,9] rfl (fun g2 => ?_) (fun g2 => ?_) <;> simp [go_sem] at g2 ⊢
  refine Do.seqk fun _ k7_ => ?_
  refine Do.region [6,7,8] true ?_
  simp [go_sem]
  repeat (refine And.intro (by first | omega | (intros; omega) | (intros; exact And.intro (by assumption) (by omega)) | grind) ?_)
  apply k7_; clear k7_
  refine Do.ret ?_
  simp [endQ, rets, ret1, go_sem]
  repeat (refine And.intro (by first | omega | (intros; omega) | (intros; exact And.intro (by assumption) (by omega)) | grind) ?_)
  exact TLe.t (.cons (PLe.flt (ret_z rfl)) (.cons (PLe.refl _) (.cons (PLe.refl _) .nil)))
theorem Round_zero20 {f p r : Int} {n : Bool} {m d : List Nat} (hm : Sh m) (hd : Sh d) (h : checkQ r m d = 0) (hf : fmOk f p = true) (h0 : val m = 0) : Does Tryd.prog Gv 25 [Fm f p, .c (.i .i64 r), Qr n m d] (.t [Flt.pv ⟨0, false, 0, 0⟩, .c (.i .i64 0), .c (.i .i64 0)]) := by
  have hC := @check_does20 r n m d hm hd
  rw [h] at hC
  have hF := @Check_does Gv f p
  rw [if_pos hf] at hF
  have hZ := @Zero_does Gv m hm
  rw [decide_eq_true h0] at hZ
  refine Does.of (nt := 46) Tryd.func25 rfl rfl rfl (by simp) ?_
  simp only [argTm, PV.ext, Ce.ext]
  refine Do.seqk fun _ k1_ => ?_
  refine Do.region [1,3,5,6] true ?_
  simp [go_sem]
  apply k1_; clear k1_
  refine Do.seqk fun _ k2_ => ?_
  refine Do.region [1,3,5,6,9] true ?_
  simp [go_sem]
  repeat (refine And.intro (by first | omega | (intros; omega) | (intros; exact And.intro (by assumption) (by omega)) | grind) ?_)
  refine DoL.sealS true 103 102 rfl ?_
  simp [go_sem]
  refine DoL.call true 104 rfl rfl rfl rfl (by first | exact trivial | omega | (simp; done) | (simp; omega)) (hC) rfl (by first | exact .inl rfl | exact .inr rfl) rfl ?_
  simp [go_sem]
  apply k2_; clear k2_
  refine Do.seqk fun _ k3_ => ?_
  refine Do.seqk fun _ k4_ => ?_
  refine Do.region [1,3,5,6,9,17] true ?_
  simp [go_sem]
  apply k4_; clear k4_
  refine Do.cond [1,3,5,6,9] rfl (fun g1 => ?_) (fun g1 => ?_) <;> simp [go_sem] at g1 ⊢
  refine Do.region [1,3,5,6,9] true ?_
  simp [go_sem]
  repeat (refine And.intro (by first | omega | (intros; omega) | (intros; exact And.intro (by assumption) (by omega)) | grind) ?_)
  refine DoL.call true 302 rfl rfl rfl rfl (by first | exact trivial | omega | (simp; done) | (simp; omega)) (hF) rfl (by first | exact .inl rfl | exact .inr rfl) rfl ?_
  simp [go_sem]
  apply k3_; clear k3_
  refine Do.seqk fun _ k5_ => ?_
  refine Do.seqk fun _ k6_ => ?_
  refine Do.region [1,3,5,6,9,27] true ?_
  simp [go_sem]
  repeat (refine And.intro (by first | omega | (intros; omega) | (intros; exact And.intro (by assumption) (by omega)) | grind) ?_)
  refine DoL.callg true 407 rfl rfl rfl rfl rfl (by simp [go_sem] <;> omega) (fun _ => hZ) rfl (by first | exact .inl rfl | exact .inr rfl) rfl ?_
  simp [go_sem]
  apply k6_; clear k6_
  refine Do.cond [1,3,5,6,9] rfl (fun g2 => ?_) (fun g2 => ?_) <;> simp [go_sem] at g2 ⊢
  refine Do.seqk fun _ k7_ => ?_
  refine Do.region [6,7,8] true ?_
  simp [go_sem]
  repeat (refine And.intro (by first | omega | (intros; omega) | (intros; exact And.intro (by assumption) (by omega)) | grind) ?_)
  apply k7_; clear k7_
  refine Do.ret ?_
  simp [endQ, rets, ret1, go_sem]
  repeat (refine And.intro (by first | omega | (intros; omega) | (intros; exact And.intro (by assumption) (by omega)) | grind) ?_)
  exact TLe.t (.cons (PLe.flt (ret_z rfl)) (.cons (PLe.refl _) (.cons (PLe.refl _) .nil)))
theorem Round_one {f p r : Int} {n : Bool} {m : List Nat} (hm : Sh m) (wm : Ws m) : Does Tryd.prog Gv 25 [Fm f p, .c (.i .i64 r), Qr n m [1]] (Res (roundQ f p r n m)) := by
  unfold roundQ
  by_cases h : checkQ r m [1] = 0
  · rw [if_neg (by omega)]
    cases hf : fmOk f p with
    | false => rw [if_pos rfl]; exact Round_fmt20 hm (by decide) h hf
    | true =>
      rw [if_neg (by simp)]
      by_cases h0 : val m = 0
      · rw [if_pos h0]; exact Round_zero20 hm (by decide) h hf h0
      · rw [if_neg h0]
        obtain ⟨c1, c2, c3, c4, c5⟩ := checkQ_zero h
        have hC := @check_does20 r n m [1] hm (by decide)
        rw [h] at hC
        have hF := @Check_does Gv f p
        rw [if_pos hf] at hF
        have hZ := @Zero_does Gv m hm
        rw [decide_eq_false h0] at hZ
        have hR := @Ratio_one f p r hf c4 c5 n m c1 wm (by omega)
        generalize roundP f p r n (val m) 0 false = z at *
        refine Does.of (nt := 46) Tryd.func25 rfl rfl rfl (by simp) ?_
        simp only [argTm, PV.ext, Ce.ext]
        refine Do.seqk fun _ k1_ => ?_
        refine Do.region [1,3,5,6] true ?_
        simp [go_sem]
        apply k1_; clear k1_
        refine Do.seqk fun _ k2_ => ?_
        refine Do.region [1,3,5,6,9] true ?_
        simp [go_sem]
        repeat (refine And.intro (by first | omega | (intros; omega) | (intros; exact And.intro (by assumption) (by omega)) | grind) ?_)
        refine DoL.sealS true 103 102 rfl ?_
        simp [go_sem]
        refine DoL.call true 104 rfl rfl rfl rfl (by first | exact trivial | omega | (simp; done) | (simp; omega)) (hC) rfl (by first | exact .inl rfl | exact .inr rfl) rfl ?_
        simp [go_sem]
        apply k2_; clear k2_
        refine Do.seqk fun _ k3_ => ?_
        refine Do.seqk fun _ k4_ => ?_
        refine Do.region [1,3,5,6,9,17] true ?_
        simp [go_sem]
        apply k4_; clear k4_
        refine Do.cond [1,3,5,6,9] rfl (fun g1 => ?_) (fun g1 => ?_) <;> simp [go_sem] at g1 ⊢
        refine Do.region [1,3,5,6,9] true ?_
        simp [go_sem]
        repeat (refine And.intro (by first | omega | (intros; omega) | (intros; exact And.intro (by assumption) (by omega)) | grind) ?_)
        refine DoL.call true 302 rfl rfl rfl rfl (by first | exact trivial | omega | (simp; done) | (simp; omega)) (hF) rfl (by first | exact .inl rfl | exact .inr rfl) rfl ?_
        simp [go_sem]
        apply k3_; clear k3_
        refine Do.seqk fun _ k5_ => ?_
        refine Do.seqk fun _ k6_ => ?_
        refine Do.region [1,3,5,6,9,27] true ?_
        simp [go_sem]
        repeat (refine And.intro (by first | omega | (intros; omega) | (intros; exact And.intro (by assumption) (by omega)) | grind) ?_)
        refine DoL.callg true 407 rfl rfl rfl rfl rfl (by simp [go_sem] <;> omega) (fun _ => hZ) rfl (by first | exact .inl rfl | exact .inr rfl) rfl ?_
        simp [go_sem]
        apply k6_; clear k6_
        refine Do.cond [1,3,5,6,9] rfl (fun g2 => ?_) (fun g2 => ?_) <;> simp [go_sem] at g2 ⊢
        refine Do.skip ?_
        simp [go_sem]
        apply k5_; clear k5_
        refine Do.seqk fun _ k7_ => ?_
        refine Do.region [6,10,11] true ?_
        simp [go_sem]
        repeat (refine And.intro (by first | omega | (intros; omega) | (intros; exact And.intro (by assumption) (by omega)) | grind) ?_)
        refine DoL.call true 611 rfl rfl rfl rfl (by first | exact trivial | omega | (simp; done) | (simp; omega)) (hR) rfl (by first | exact .inl rfl | exact .inr rfl) rfl ?_
        simp [go_sem]
        repeat (refine And.intro (by first | omega | (intros; omega) | (intros; exact And.intro (by assumption) (by omega)) | grind) ?_)
        apply k7_; clear k7_
        refine Do.seqk fun _ k8_ => ?_
        refine Do.region [6,7,8] true ?_
        simp [go_sem]
        repeat (refine And.intro (by first | omega | (intros; omega) | (intros; exact And.intro (by assumption) (by omega)) | grind) ?_)
        apply k8_; clear k8_
        refine Do.ret ?_
        simp [endQ, rets, ret1, go_sem]
        repeat (refine And.intro (by first | omega | (intros; omega) | (intros; exact And.intro (by assumption) (by omega)) | grind) ?_)
        exact TLe.refl _
  · rw [if_pos h]; exact Round_err20 hm (by decide) h
theorem ws_one {w : Nat} (h : w < 18446744073709551616) : Ws [w] := fun u hu => by simp at hu; omega
theorem awk_round : roundQ 5 11 2 false [2049] = (⟨1, false, 11, 1⟩, 1, 0) := by kernel_rfl
theorem Odd_awake : Does Tryd.prog Gv 24 [Fm 5 11, Qr false [2049] [1]] (.t [Flt.pv ⟨1, false, 1, 1025⟩, .c (.i .i64 1), .c (.i .i64 0)]) := by
  have hR := @Round_one 5 11 2 false [2049] (by decide) (ws_one (by decide))
  rw [awk_round] at hR
  have hR : Does Tryd.prog Gv 25 [Fm 5 11, .c (.i .i64 2), Qr false [2049] [1]] (.t [Fl 1 false 11 (nat 1), .c (.i .i64 1), .c (.i .i64 0)]) := hR
  rw [nat_one] at hR
  have hG : Does Tryd.prog Gv 46 [Fm 5 11] (.t [.c (.i .i64 (-14)), .c (.i .i64 15), .c (.i .i64 (-24)), .c (.i .i64 0)]) := @Range_does Gv 5 11 rfl
  have hL : Does Tryd.prog Gv 52 [Fm 5 11] (.t [Fl 1 false 5 (nat 2047), (Flt.mk 1 false (-14) 1).pv, (Flt.mk 1 false (-24) 1).pv, .c (.i .i64 0)]) := @Limits_does Gv 5 11 rfl
  have hS1 : Does Tryd.prog Gv 53 [Fm 5 11, .c (.i .i64 (-14))] (.v (.c (.i .i64 (-24)))) := @Step_does Gv 5 11 (-14) rfl (by decide) (by decide)
  have hS2 : Does Tryd.prog Gv 53 [Fm 5 11, .c (.i .i64 11)] (.v (.c (.i .i64 1))) := @Step_does Gv 5 11 11 rfl (by decide) (by decide)
  have hN : Does Tryd.prog Gv 54 [Wd [1]] (.int .i64 1) := @Len_does Gv [1] (by decide) (ws_one (by decide))
  have hSh : Does Tryd.prog Gv 57 [Wd [1], .c (.i .i64 10)] (.v (Wn (nat 1024))) := @Shl_does Gv [1] (by decide) (ws_one (by decide)) 10 (by decide)
  have hA := @Add_does Gv (nat 1024) [1] (by rw [nat_word (by decide) (by decide)]; decide) (by decide) (nat_ws _) (ws_one (by decide)) (by rw [nat_word (by decide) (by decide)]; decide) (by decide)
  rw [val_nat, show 1024 + val [1] = 1025 from rfl] at hA
  have hM := @Make_does false (nat 1025) 1 (by rw [nat_word (by decide) (by decide)]; decide) (nat_ws _) (by decide) (by decide)
  rw [val_nat, show mkP false 1025 1 = ⟨1, false, 1, 1025⟩ by kernel_rfl] at hM
  refine Does.of (nt := 109) Tryd.func24 rfl rfl rfl (by simp) ?_
  simp only [argTm, PV.ext, Ce.ext]
  refine Do.seqk fun _ k1_ => ?_
  refine Do.region [2,3,4] true ?_
  simp [go_sem]
  apply k1_; clear k1_
  refine Do.seqk fun _ k2_ => ?_
  refine Do.region [2,3,4,7,8,9] true ?_
  simp [go_sem]
  repeat (refine And.intro (by first | omega | (intros; omega) | (intros; exact And.intro (by assumption) (by omega)) | grind) ?_)
  refine DoL.call true 103 rfl rfl rfl rfl (by first | exact trivial | omega | (simp; done) | (simp; omega)) (hR) rfl (by first | exact .inl rfl | exact .inr rfl) rfl ?_
  simp [go_sem]
  repeat (refine And.intro (by first | omega | (intros; omega) | (intros; exact And.intro (by assumption) (by omega)) | grind) ?_)
  apply k2_; clear k2_
  refine Do.seqk fun _ k3_ => ?_
  refine Do.seqk fun _ k4_ => ?_
  refine Do.region [2,3,4,7,8,9,31] true ?_
  simp [go_sem]
  apply k4_; clear k4_
  refine Do.cond [2,3,4,7,8,9] rfl (fun g1 => ?_) (fun g1 => ?_) <;> simp [go_sem] at g1 ⊢
  refine Do.skip ?_
  simp [go_sem]
  apply k3_; clear k3_
  refine Do.seqk fun _ k5_ => ?_
  refine Do.region [2,3,4,7,8,10] true ?_
  simp [go_sem]
  repeat (refine And.intro (by first | omega | (intros; omega) | (intros; exact And.intro (by assumption) (by omega)) | grind) ?_)
  refine DoL.call true 402 rfl rfl rfl rfl (by first | exact trivial | omega | (simp; done) | (simp; omega)) (hG) rfl (by first | exact .inl rfl | exact .inr rfl) rfl ?_
  simp [go_sem]
  apply k5_; clear k5_
  refine Do.seqk fun _ k6_ => ?_
  refine Do.seqk fun _ k7_ => ?_
  refine Do.region [2,3,4,7,8,10,14] true ?_
  simp [go_sem]
  repeat (refine And.intro (by first | omega | (intros; omega) | (intros; exact And.intro (by assumption) (by omega)) | grind) ?_)
  refine DoL.call true 502 rfl rfl rfl rfl (by first | exact trivial | omega | (simp; done) | (simp; omega)) (hL) rfl (by first | exact .inl rfl | exact .inr rfl) rfl ?_
  simp [go_sem]
  repeat (refine And.intro (by first | omega | (intros; omega) | (intros; exact And.intro (by assumption) (by omega)) | grind) ?_)
  apply k7_; clear k7_
  refine Do.seqk fun _ k8_ => ?_
  refine Do.region [2,3,4,7,8,10,66] true ?_
  simp [go_sem]
  repeat (refine And.intro (by first | omega | (intros; omega) | (intros; exact And.intro (by assumption) (by omega)) | grind) ?_)
  refine DoL.gOff true 616 rfl rfl (.int .i64 0) rfl ?_
  simp [go_sem]
  apply k8_; clear k8_
  refine Do.cond [2,3,4,7,8,10] rfl (fun g2 => ?_) (fun g2 => ?_) <;> simp [go_sem] at g2 ⊢
  refine Do.skip ?_
  simp [go_sem]
  apply k6_; clear k6_
  refine Do.seqk fun _ k9_ => ?_
  refine Do.region [2,3,4,7,8,18] true ?_
  simp [go_sem]
  repeat (refine And.intro (by first | omega | (intros; omega) | (intros; exact And.intro (by assumption) (by omega)) | grind) ?_)
  refine DoL.call true 803 rfl rfl rfl rfl (by first | exact trivial | omega | (simp; done) | (simp; omega)) (hS1) rfl (by first | exact .inl rfl | exact .inr rfl) rfl ?_
  simp [go_sem]
  apply k9_; clear k9_
  refine Do.seqk fun _ k10_ => ?_
  refine Do.seqk fun _ k11_ => ?_
  refine Do.region [2,3,4,7,8,18,73] true ?_
  simp [go_sem]
  repeat (refine And.intro (by first | omega | (intros; omega) | (intros; exact And.intro (by assumption) (by omega)) | grind) ?_)
  apply k11_; clear k11_
  refine Do.cond [2,3,4,7,8,18] rfl (fun g3 => ?_) (fun g3 => ?_) <;> simp [go_sem] at g3 ⊢
  refine Do.draw [3,4,7,8,18] true (by kernel_rfl) ?_
  simp [go_sem]
  repeat (refine And.intro (by first | omega | (intros; omega) | (intros; exact And.intro (by assumption) (by omega)) | kernel_rfl | grind) ?_)
  refine DoLD.call true 1006 rfl rfl rfl rfl (by first | exact trivial | omega | (simp; done) | (simp; omega)) (hN) rfl (by first | exact .inl rfl | exact .inr rfl) rfl ?_
  simp [go_sem]
  repeat (refine And.intro (by first | omega | (intros; omega) | (intros; exact And.intro (by assumption) (by omega)) | kernel_rfl | grind) ?_)
  refine DoLD.call true 1009 rfl rfl rfl rfl (by first | exact trivial | omega | (simp; done) | (simp; omega)) (hS2) rfl (by first | exact .inl rfl | exact .inr rfl) rfl ?_
  simp [go_sem]
  try (refine And.intro (by kernel_rfl) ?_)
  apply k10_; clear k10_
  refine Do.seqk fun _ k12_ => ?_
  refine Do.seqk fun _ k13_ => ?_
  refine Do.region [3,4,7,8,18,91] true ?_
  simp [go_sem]
  repeat (refine And.intro (by first | omega | (intros; omega) | (intros; exact And.intro (by assumption) (by omega)) | grind) ?_)
  apply k13_; clear k13_
  refine Do.cond [3,4,7,8,18] rfl (fun g4 => ?_) (fun g4 => ?_) <;> simp [go_sem] at g4 ⊢
  refine Do.draw [4,7,8] true (by kernel_rfl) ?_
  simp [go_sem]
  repeat (refine And.intro (by first | omega | (intros; omega) | (intros; exact And.intro (by assumption) (by omega)) | kernel_rfl | grind) ?_)
  refine DoLD.call true 1211 rfl rfl rfl rfl (by first | exact trivial | omega | (simp; done) | (simp; omega)) (hSh) rfl (by first | exact .inl rfl | exact .inr rfl) rfl ?_
  simp [go_sem]
  refine DoLD.call true 1213 rfl rfl rfl rfl (by first | exact trivial | omega | (simp; done) | (simp; omega)) (hA) rfl (by first | exact .inl rfl | exact .inr rfl) rfl ?_
  simp [go_sem]
  refine DoLD.call true 1215 rfl rfl rfl rfl (by first | exact trivial | omega | (simp; done) | (simp; omega)) (hM) rfl (by first | exact .inl rfl | exact .inr rfl) rfl ?_
  simp [go_sem]
  repeat (refine And.intro (by first | omega | (intros; omega) | (intros; exact And.intro (by assumption) (by omega)) | kernel_rfl | grind) ?_)
  try (refine And.intro (by kernel_rfl) ?_)
  apply k12_; clear k12_
  refine Do.seqk fun _ k14_ => ?_
  refine Do.region [4,5,6] true ?_
  simp [go_sem]
  repeat (refine And.intro (by first | omega | (intros; omega) | (intros; exact And.intro (by assumption) (by omega)) | grind) ?_)
  apply k14_; clear k14_
  refine Do.ret ?_
  simp [endQ, rets, ret1, go_sem]
  repeat (refine And.intro (by first | omega | (intros; omega) | (intros; exact And.intro (by assumption) (by omega)) | grind) ?_)
  exact TLe.refl _
theorem NoInt_does20 {z : Int} {n : Bool} {m : List Nat} (hm : Sh m) : Does Tryd.prog Gv 34 [.a [.b n, .w false m]] (.v (.c (.b (!n && decide (m = []))))) := by
  have hl : decide (((m.length : Nat) : Int) = 0) = decide (m = []) := by
    congr 1
    cases m <;> simp
    omega
  refine Does.of (nt := 12) Tryd.func34 rfl rfl rfl (by simp) ?_
  simp only [argTm, PV.ext, Ce.ext]
  refine Do.seqk fun _ k1_ => ?_
  refine Do.region [1] true ?_
  simp [go_sem]
  apply k1_; clear k1_
  refine Do.seqk fun _ k2_ => ?_
  refine Do.region [2] true ?_
  simp [go_sem]
  repeat (refine And.intro (by first | omega | (intros; omega) | (intros; exact And.intro (by assumption) (by omega)) | grind) ?_)
  apply k2_; clear k2_
  refine Do.ret ?_
  simp [endQ, rets, ret1, go_sem]
  repeat (refine And.intro (by first | omega | (intros; omega) | (intros; exact And.intro (by assumption) (by omega)) | grind) ?_)
  exact ret_b (by cases m with | nil => simp | cons a l => simp; intro _; omega)
theorem awk_conv : convP 8 24 5 11 0 ⟨1, false, 4, [4095]⟩ = (⟨2, false, 0, 0⟩, 5, 0) := by kernel_rfl
theorem awk_fit : fitP 5 11 8 24 = true := by kernel_rfl
theorem awk_toE : argsC 5 11 5 11 3 false ⟨1, true, -1, [1]⟩ = 0 := by kernel_rfl
theorem awk_toA : (holdsP 5 11 ⟨1, true, -1, 1⟩).1 = ⟨1, true, -1, 1⟩ := by kernel_rfl
theorem awk_toW : wholeP 3 ⟨true, 1, -1⟩ = (0, false) := by kernel_rfl
theorem awake20_does : Does Tryd.prog Gv 10 [] (.v (.c (.b true))) := by
  have o1 : (Fla.mk 1 false 4 [4095]).Ok := ⟨by simp [Sh], ws_one (by decide), by constructor <;> simp⟩
  have o2 : (Fla.mk 1 true (-1) [1]).Ok := ⟨by simp [Sh], ws_one (by decide), by constructor <;> simp⟩
  have h1 := Convert_does (f := 8) (p := 24) (g := 5) (q := 11) (r := 0) o1
  rw [awk_conv] at h1
  have h1 : Does Tryd.prog Gv 16 [Fm 8 24, Fm 5 11, .c (.i .i64 0), Fl 1 false 4 [4095]] (.t [Fl 2 false 0 (nat 0), .c (.i .i64 5), .c (.i .i64 0)]) := h1
  have h2 := @Fit_does20 5 11 8 24 rfl rfl
  rw [awk_fit] at h2
  have h3 := @ToInt_does 5 11 3 ⟨1, true, -1, [1]⟩ o2 awk_toE ⟨1, true, -1, 1⟩ awk_toA (.inr rfl) ⟨by decide, by decide⟩
  have h3 : Does Tryd.prog Gv 12 [Fm 5 11, .c (.i .i64 3), Fl 1 true (-1) [1]] (.t [Iv (sgn true (wholeP 3 ⟨true, 1, -1⟩).1), .c (.i .i64 (if (wholeP 3 ⟨true, 1, -1⟩).2 then 0 else 1)), .c (.i .i64 0)]) := h3
  rw [awk_toW] at h3
  have h3 : Does Tryd.prog Gv 12 [Fm 5 11, .c (.i .i64 3), Fl 1 true (-1) [1]] (.t [.a [.b false, .w false (nat 0)], .c (.i .i64 1), .c (.i .i64 0)]) := h3
  have h4 := Odd_awake
  have h4 : Does Tryd.prog Gv 24 [Fm 5 11, Qr false [2049] [1]] (.t [Fl 1 false 1 (nat 1025), .c (.i .i64 1), .c (.i .i64 0)]) := h4
  have h5 := @NoInt_does20 0 false [] (by decide)
  rw [nat_zero] at h1 h3
  rw [nat_word (by decide) (by decide)] at h4
  refine Does.of (nt := 107) Tryd.func10 rfl rfl rfl (by simp) ?_
  simp only [argTm, PV.ext, Ce.ext]
  refine Do.seqk fun _ k1_ => ?_
  refine Do.region [] true ?_
  simp [go_sem]
  apply k1_; clear k1_
  refine Do.seqk fun _ k2_ => ?_
  refine Do.region [1] true ?_
  simp [go_sem]
  repeat (refine And.intro (by first | omega | (intros; omega) | (intros; exact And.intro (by assumption) (by omega)) | grind) ?_)
  apply k2_; clear k2_
  refine Do.seqk fun _ k3_ => ?_
  refine Do.region [1,2] true ?_
  simp [go_sem]
  repeat (refine And.intro (by first | omega | (intros; omega) | (intros; exact And.intro (by assumption) (by omega)) | grind) ?_)
  apply k3_; clear k3_
  refine Do.seqk fun _ k4_ => ?_
  refine Do.region [1,2,3] true ?_
  simp [go_sem]
  repeat (refine And.intro (by first | omega | (intros; omega) | (intros; exact And.intro (by assumption) (by omega)) | grind) ?_)
  apply k4_; clear k4_
  refine Do.seqk fun _ k5_ => ?_
  refine Do.frz 300 rfl ?_
  refine Do.region [1,2,4,5,6] true ?_
  simp [go_sem]
  repeat (refine And.intro (by first | omega | (intros; omega) | (intros; exact And.intro (by assumption) (by omega)) | grind) ?_)
  refine DoL.call true 404 rfl rfl rfl rfl (by first | exact trivial | omega | (simp; done) | (simp; omega)) (h1) rfl (by first | exact .inl rfl | exact .inr rfl) rfl ?_
  simp [go_sem]
  repeat (refine And.intro (by first | omega | (intros; omega) | (intros; exact And.intro (by assumption) (by omega)) | grind) ?_)
  apply k5_; clear k5_
  refine Do.seqk fun _ k6_ => ?_
  refine Do.region [1,4,5,6,7,8] true ?_
  simp [go_sem]
  repeat (refine And.intro (by first | omega | (intros; omega) | (intros; exact And.intro (by assumption) (by omega)) | grind) ?_)
  refine DoL.call true 503 rfl rfl rfl rfl (by first | exact trivial | omega | (simp; done) | (simp; omega)) (h2) rfl (by first | exact .inl rfl | exact .inr rfl) rfl ?_
  simp [go_sem]
  apply k6_; clear k6_
  refine Do.seqk fun _ k7_ => ?_
  refine Do.region [1,4,5,6,7,8,9,10,11] true ?_
  simp [go_sem]
  repeat (refine And.intro (by first | omega | (intros; omega) | (intros; exact And.intro (by assumption) (by omega)) | grind) ?_)
  refine DoL.frz true 603 601 rfl ?_
  simp [go_sem]
  refine DoL.call true 604 rfl rfl rfl rfl (by first | exact trivial | omega | (simp; done) | (simp; omega)) (h3) rfl (by first | exact .inl rfl | exact .inr rfl) rfl ?_
  simp [go_sem]
  repeat (refine And.intro (by first | omega | (intros; omega) | (intros; exact And.intro (by assumption) (by omega)) | grind) ?_)
  apply k7_; clear k7_
  refine Do.seqk fun _ k8_ => ?_
  refine Do.region [4,5,6,7,8,9,10,11,12,13,14] true ?_
  simp [go_sem]
  repeat (refine And.intro (by first | omega | (intros; omega) | (intros; exact And.intro (by assumption) (by omega)) | grind) ?_)
  refine DoL.frz true 705 701 rfl ?_
  simp [go_sem]
  refine DoL.frz true 705 703 rfl ?_
  simp [go_sem]
  refine DoL.call true 706 rfl rfl rfl rfl (by first | exact trivial | omega | (simp; done) | (simp; omega)) (h4) rfl (by first | exact .inl rfl | exact .inr rfl) rfl ?_
  simp [go_sem]
  repeat (refine And.intro (by first | omega | (intros; omega) | (intros; exact And.intro (by assumption) (by omega)) | grind) ?_)
  apply k8_; clear k8_
  refine Do.seqk fun _ k9_ => ?_
  refine Do.region [0] true ?_
  simp [go_sem]
  repeat (refine And.intro (by first | omega | (intros; omega) | (intros; exact And.intro (by assumption) (by omega)) | grind) ?_)
  refine DoL.callg true 829 rfl rfl rfl rfl rfl (by simp [go_sem] <;> omega) (fun _ => h5) rfl (by first | exact .inl rfl | exact .inr rfl) rfl ?_
  simp [go_sem]
  repeat (refine And.intro (by first | omega | (intros; omega) | (intros; exact And.intro (by assumption) (by omega)) | grind) ?_)
  apply k9_; clear k9_
  refine Do.ret ?_
  simp [endQ, rets, ret1, go_sem]
  repeat (refine And.intro (by first | omega | (intros; omega) | (intros; exact And.intro (by assumption) (by omega)) | grind) ?_)
  exact TLe.refl _
end Go.Proofs.YtokgalpflooegaaDoor
/- The law ConvertFormats. No condition. -/
namespace Go.Proofs.YtokgalpflooegaaDoor
set_option linter.unusedVariables false
set_option linter.unusedSimpArgs false
set_option maxHeartbeats 4000000
set_option maxRecDepth 10000
end Go.Proofs.YtokgalpflooegaaDoor
/- The law ConvertBack. No condition. -/
namespace Go.Proofs.YtokgalpflooegaaDoor
set_option linter.unusedVariables false
set_option linter.unusedSimpArgs false
set_option maxHeartbeats 4000000
set_option maxRecDepth 10000
end Go.Proofs.YtokgalpflooegaaDoor
/- Integers, natural and rational numbers among the arguments of a law. No condition. -/
namespace Go.Proofs.YtokgalpflooegaaDoor
set_option linter.unusedVariables false
set_option linter.unusedSimpArgs false
open Go.ChangeShapes Go.WideShapes Go.ChangeAt Go.RowKit
set_option maxRecDepth 100000
theorem arg_nt {H : Type} {enc : TypeId × Value → H} {W : World} {b0 : Nat} {sp : Nat → Bool} {held : Bool} {v : Value} {d : DataW H} {ps : List MemPlace} (hval : Value.okWide Tryd.prog W .any b0 26 v) (h : DataW.Trod enc Tryd.prog W 0 sp held 26 v d ps) : ∃ m, Ws m ∧ RP (enA W fun b => b < W.heap.size) (.c (.w false m)) v := by
  obtain ⟨m, h1, h2⟩ := open_words (ok := fun b => b < W.heap.size) (fun _ h => h) Tryd.underlying26 Tryd.underlying81 (by kernel_rfl) hval h
  exact ⟨m, h2, h1⟩
end Go.Proofs.YtokgalpflooegaaDoor
/- Decoding; whether a format holds another. No condition. -/
namespace Go.Proofs.YtokgalpflooegaaDoor
set_option linter.unusedVariables false
set_option linter.unusedSimpArgs false
set_option maxHeartbeats 8000000
set_option maxRecDepth 10000
theorem float_in {f p : Int} (hf : fmOk f p = true) {n : Bool} {k : Int} {w : Nat} (hw : 0 < w) (hk : tiny f p ≤ k) (hb : (bl w : Int) ≤ p) (hg : k + bl w ≤ gOfE f + 1) : (canon ⟨1, n, k, w⟩).2 = true ∧ (holdsP f p (canon ⟨1, n, k, w⟩).1).2 = true ∧ Fine (canon ⟨1, n, k, w⟩).1 ∧ rcanon (canon ⟨1, n, k, w⟩).1 = (canon ⟨1, n, k, w⟩).1 := by
  obtain ⟨b1, b2, b3, b4⟩ := fmOk_spec hf
  obtain ⟨b5, b6⟩ := gOfE_le b1 b2
  have htd : tiny f p = 1 - gOfE f - (p - 1) := rfl
  have hr := @roundP_exact f p 0 hf n w k hw hk hb hg
  obtain ⟨i1, i2⟩ := @roundP_flags f p 0 hf n w k hw (by rw [hr])
  have hfn := @roundP_fine f p 0 hf n w k false
  have hfx := @roundP_fix f p 0 hf n w k false
  rw [hr] at hfn hfx
  simp only [] at hfn hfx
  have ht := tz_lt_bl hw
  have hc : (canon ⟨1, n, k, w⟩).2 = true := by
    unfold canon
    rw [if_neg (by simp only []; omega), if_neg (by simp only []; omega), if_pos rfl, if_neg (by simp only []; omega)]
    simp only [decide_eq_true_eq]
    omega
  have hce := rcanon_good hc
  rw [← hce]
  have hi : inP f p (rcanon ⟨1, n, k, w⟩) = true := by
    rw [← i1]
    unfold inP
    rw [rcanon_k, rcanon_idem]
  rw [inP_good hfn.can] at hi
  exact ⟨hc, hi, hfn, hfx⟩
def decB (f p : Int) (v : Nat) : Nat := v / 2 ^ (p - 1).toNat % 2 ^ f.toNat
def decL (p : Int) (v : Nat) : Nat := v % 2 ^ (p - 1).toNat
def decN (f p : Int) (v : Nat) : Bool := decide (v / 2 ^ (f + p - 1).toNat % 2 = 1)
/-- The float that a number encodes, or an error. -/
def decP (f p : Int) (v : Nat) : Flt × Int :=
  if f + p < bl v then (⟨0, false, 0, 0⟩, 151)
  else if decB f p v = 2 ^ f.toNat - 1 ∧ decL p v = 0 then (⟨2, decN f p v, 0, 0⟩, 0)
  else if decB f p v = 2 ^ f.toNat - 1 then (⟨3, false, 0, 0⟩, 0)
  else if decB f p v = 0 ∧ decL p v = 0 then (⟨0, decN f p v, 0, 0⟩, 0)
  else if 0 < decB f p v then ((canon ⟨1, decN f p v, (decB f p v : Int) - gOfE f - p + 1, decL p v + 2 ^ (p - 1).toNat⟩).1, 0)
  else ((canon ⟨1, decN f p v, 1 - gOfE f - (p - 1), decL p v⟩).1, 0)
theorem bl_two (k : Nat) : bl (2 ^ k) = k + 1 := by have := bl_mul_pow 1 k (by decide); rw [Nat.one_mul] at this; rw [this]; rfl
theorem decP_held {f p : Int} (hf : fmOk f p = true) (v : Nat) (h : (decP f p v).2 = 0) : (holdsP f p (decP f p v).1).2 = true ∧ Fine (decP f p v).1 ∧ rcanon (decP f p v).1 = (decP f p v).1 := by
  obtain ⟨b1, b2, b3, b4⟩ := fmOk_spec hf
  obtain ⟨b5, b6⟩ := gOfE_le b1 b2
  have htd : tiny f p = 1 - gOfE f - (p - 1) := rfl
  have hL : decL p v < 2 ^ (p - 1).toNat := Nat.mod_lt _ (Nat.pow_pos (by decide))
  have hBl : decB f p v < 2 ^ f.toNat := Nat.mod_lt _ (Nat.pow_pos (by decide))
  have hG : ((2 ^ f.toNat : Nat) : Int) = 2 * (gOfE f + 1) := by
    unfold gOfE
    rw [show f.toNat = f.toNat - 1 + 1 by omega, Nat.pow_succ, Nat.add_sub_cancel]
    push_cast
    omega
  unfold decP at h ⊢
  split at h
  · simp at h
  · rename_i c0
    rw [if_neg c0]
    by_cases c1 : decB f p v = 2 ^ f.toNat - 1 ∧ decL p v = 0
    · rw [if_pos c1]
      exact ⟨by simp [holdsP, canon], fine_inf, rfl⟩
    · rw [if_neg c1]
      by_cases c2 : decB f p v = 2 ^ f.toNat - 1
      · rw [if_pos c2]
        exact ⟨by simp [holdsP, canon], fine_nan, rfl⟩
      · rw [if_neg c2]
        by_cases c3 : decB f p v = 0 ∧ decL p v = 0
        · rw [if_pos c3]
          exact ⟨by simp [holdsP, canon], fine_zero, rfl⟩
        · rw [if_neg c3]
          by_cases c4 : 0 < decB f p v
          · rw [if_pos c4]
            have hM : decL p v + 2 ^ (p - 1).toNat < 2 ^ p.toNat := by
              rw [show p.toNat = (p - 1).toNat + 1 by omega, Nat.pow_succ]; omega
            have hb := (bl_lt _ _).2 hM
            have hpos : 0 < decL p v + 2 ^ (p - 1).toNat := by have := Nat.pow_pos (n := (p - 1).toNat) (show 0 < 2 by decide); omega
            exact (float_in hf hpos (by omega) (by omega) (by omega)).2
          · rw [if_neg c4]
            have hb := (bl_lt _ _).2 hL
            exact (float_in hf (by omega) (by omega) (by omega) (by omega)).2
theorem or_bit {b i : Nat} (h : b < 2 ^ i) : b ||| 2 ^ i = b + 2 ^ i := by
  have := @Nat.two_pow_add_eq_or_of_lt i b h 1
  rw [Nat.mul_one] at this
  rw [Nat.or_comm, ← this, Nat.add_comm]
theorem mod_bit (H i : Nat) : H % 2 ^ (i + 1) = H % 2 ^ i + (if H / 2 ^ i % 2 = 1 then 2 ^ i else 0) := by
  rw [Nat.pow_succ, Nat.mod_mul]
  split
  · rename_i h; rw [h, Nat.mul_one]
  · rename_i h; rw [show H / 2 ^ i % 2 = 0 by omega, Nat.mul_zero]
def decM (H i : Nat) : Nat := H % 2 ^ i
theorem decM_zero (H : Nat) : decM H 0 = 0 := Nat.mod_one H
theorem decM_lt (H i : Nat) : decM H i < 2 ^ i := Nat.mod_lt _ (Nat.pow_pos (by decide))
theorem decM_one {H i : Nat} (h : H / 2 ^ i % 2 = 1) : decM H i ||| 2 ^ i = decM H (i + 1) := by
  rw [or_bit (decM_lt H i)]
  unfold decM
  rw [mod_bit, if_pos h]
theorem decM_two {H i : Nat} (h : ¬ H / 2 ^ i % 2 = 1) : decM H (i + 1) = decM H i := by
  unfold decM
  rw [mod_bit, if_neg h, Nat.add_zero]
theorem two_nat (i : Nat) : ((2 : Int) ^ i).toNat = 2 ^ i := by
  have : ((2 : Int) ^ i) = ((2 ^ i : Nat) : Int) := by simp
  rw [this]; rfl
theorem Decode_large {f p : Int} {m : List Nat} (hm : m.length ≤ 40) (wm : Ws m) (hf : fmOk f p = true) : Does Tryd.prog Gv 27 [Fm f p, Wd m] (.t [(decP f p (val m)).1.pv, .c (.i .i64 (decP f p (val m)).2)]) := by
  obtain ⟨b1, b2, b3, b4⟩ := fmOk_spec hf
  obtain ⟨b5, b6⟩ := gOfE_le b1 b2
  have hz : decP f p (val m) = decP f p (val m) := rfl
  conv at hz => rhs; unfold decP
  generalize decP f p (val m) = z at *
  have hb := bl_le_len wm (Nat.le_refl (val m))
  have hR := @Range_does Gv f p hf
  have hL := @Len_does Gv m (by unfold Sh; omega) wm
  have hBt := @Bit_does Gv m (by unfold Sh; omega) wm (f + p - 1) (by omega) (by omega)
  rw [show (decide (0 ≤ f + p - 1)) = true by simp; omega, Bool.true_and] at hBt
  have hN : decide (val m / 2 ^ (f + p - 1).toNat % 2 = 1) = decN f p (val m) := rfl
  rw [hN] at hBt
  have hpk : ((p - 1).toNat : Int) = p - 1 := by omega
  have hSr := @Shr_does Gv m (by unfold Sh; omega) wm (p - 1).toNat (by omega)
  rw [hpk] at hSr
  have hHb := bl_mono (Nat.div_le_self (val m) (2 ^ (p - 1).toNat))
  have hHl := len_bl (Nat.le_trans hHb hb)
  have hSl := @Shl_does Gv (nat (val m / 2 ^ (p - 1).toNat)) (by unfold Sh; omega) (nat_ws _) (p - 1).toNat (by omega)
  rw [val_nat, hpk] at hSl
  have hle : val m / 2 ^ (p - 1).toNat * 2 ^ (p - 1).toNat ≤ val m := Nat.div_mul_le_self _ _
  have hll := nat_len_le wm hle
  have hSu := @Sub_does Gv m (nat (val m / 2 ^ (p - 1).toNat * 2 ^ (p - 1).toNat)) (by unfold Sh; omega) (by unfold Sh; omega) wm (nat_ws _) (by rw [val_nat]; exact hle)
  rw [val_nat] at hSu
  have eL : val m - val m / 2 ^ (p - 1).toNat * 2 ^ (p - 1).toNat = decL p (val m) := by
    have := Nat.div_add_mod' (val m) (2 ^ (p - 1).toNat)
    unfold decL
    omega
  rw [eL] at hSu
  have hBh := fun (i : Nat) (hi : i < 100) => @Bit_does Gv (nat (val m / 2 ^ (p - 1).toNat)) (by unfold Sh; omega) (nat_ws _) i (by omega) (by omega)
  rw [val_nat] at hBh
  have hB : decM (val m / 2 ^ (p - 1).toNat) f.toNat = decB f p (val m) := rfl
  generalize val m / 2 ^ (p - 1).toNat * 2 ^ (p - 1).toNat = HL at *
  generalize val m / 2 ^ (p - 1).toNat = H at *
  generalize decN f p (val m) = neg at *
  generalize decL p (val m) = L at *
  generalize decB f p (val m) = B at *
  obtain ⟨N, hNN⟩ : ∃ N, 2 ^ f.toNat = N := ⟨_, rfl⟩
  have hE : (2 : Int) ^ f.toNat = (N : Int) := by rw [← hNN]; simp
  have hN15 : N ≤ 32768 := by
    have := Nat.pow_le_pow_right (show 0 < 2 by decide) (show f.toNat ≤ 15 by omega)
    omega
  have hN1 : 1 ≤ N := by rw [← hNN]; exact Nat.pow_pos (by decide)
  rw [hNN] at hz
  have hS1 := @Shl_does Gv [1] (by decide) (ws_one (by decide)) (p - 1).toNat (by simp; omega)
  rw [hpk, show val [1] = 1 from rfl, Nat.one_mul] at hS1
  have hPl := nat_len_bl (2 ^ (p - 1).toNat)
  have hPb := bl_two (p - 1).toNat
  have hLl := nat_len_le wm (show L ≤ val m by omega)
  have hAd := @Add_does Gv (nat L) (nat (2 ^ (p - 1).toNat)) (by unfold Sh; omega) (by unfold Sh; omega) (nat_ws _) (nat_ws _) (by omega) (by omega)
  rw [val_nat, val_nat] at hAd
  have hZ := @Zero_does Gv (nat L) (by unfold Sh; omega)
  rw [val_nat] at hZ
  have hAl : (nat (L + 2 ^ (p - 1).toNat)).length ≤ 8000 := by
    have h1 := nat_len_bl (L + 2 ^ (p - 1).toNat)
    have h2 := bl_add_le L (2 ^ (p - 1).toNat) 2600 (by have := bl_mono (show L ≤ val m by omega); omega) (by omega)
    omega
  have hBN : B < N := by rw [← hNN, ← hB]; exact decM_lt _ _
  have hC1 := @canonical_does 1 neg ((B : Int) - gOfE f - p + 1) (nat (L + 2 ^ (p - 1).toNat)) (by unfold Sh; omega) (nat_ws _) (by constructor <;> omega)
  have hC2 := @canonical_does 1 neg (1 - gOfE f - (p - 1)) (nat L) (by unfold Sh; omega) (nat_ws _) (by constructor <;> omega)
  rw [val_nat] at hC1 hC2
  have hp15 : ∀ i : Nat, (i : Int) < f → 2 ^ i ≤ 16384 := fun i hi => by
    have := Nat.pow_le_pow_right (show 0 < 2 by decide) (show i ≤ 14 by omega)
    exact this
  generalize 2 ^ (p - 1).toNat = P2 at *
  refine Does.of (nt := 129) Tryd.func27 rfl rfl rfl (by simp) ?_
  simp only [argTm, PV.ext, Ce.ext]
  refine Do.seqk fun _ k1_ => ?_
  refine Do.region [1,2,4] true ?_
  simp [go_sem]
  apply k1_; clear k1_
  refine Do.seqk fun _ k2_ => ?_
  refine Do.seqk fun _ k3_ => ?_
  refine Do.region [1,2,4,19] true ?_
  simp [go_sem]
  repeat (refine And.intro (by first | omega | (intros; omega) | (intros; exact And.intro (by assumption) (by omega)) | grind) ?_)
  apply k3_; clear k3_
  refine Do.cond [1,2,4] rfl (fun g1 => ?_) (fun g1 => ?_) <;> simp [go_sem] at g1 ⊢
  · omega
  · refine Do.skip ?_
    simp [go_sem]
    apply k2_; clear k2_
    refine Do.seqk fun _ k4_ => ?_
    refine Do.region [1,2,4,7,8,9] true ?_
    simp [go_sem]
    repeat (refine And.intro (by first | omega | (intros; omega) | (intros; exact And.intro (by assumption) (by omega)) | grind) ?_)
    refine DoL.call true 302 rfl rfl rfl rfl (by first | exact trivial | omega | (simp; done) | (simp; omega)) (hR) rfl (by first | exact .inl rfl | exact .inr rfl) rfl ?_
    simp [go_sem]
    apply k4_; clear k4_
    refine Do.seqk fun _ k5_ => ?_
    refine Do.seqk fun _ k6_ => ?_
    refine Do.region [1,2,4,7,8,9,29] true ?_
    simp [go_sem]
    apply k6_; clear k6_
    refine Do.cond [1,2,4,7,8,9] rfl (fun g2 => ?_) (fun g2 => ?_) <;> simp [go_sem] at g2 ⊢
    refine Do.skip ?_
    simp [go_sem]
    apply k5_; clear k5_
    refine Do.seqk fun _ k7_ => ?_
    refine Do.region [1,2,4,7,8,10] true ?_
    simp [go_sem]
    repeat (refine And.intro (by first | omega | (intros; omega) | (intros; exact And.intro (by assumption) (by omega)) | grind) ?_)
    apply k7_; clear k7_
    refine Do.seqk fun _ k8_ => ?_
    refine Do.seqk fun _ k9_ => ?_
    refine Do.draw [1,2,4,7,8,10,40] true (by kernel_rfl) ?_
    simp [go_sem]
    refine DoLD.call true 702 rfl rfl rfl rfl (by first | exact trivial | omega | (simp; done) | (simp; omega)) (hL) rfl (by first | exact .inl rfl | exact .inr rfl) rfl ?_
    simp [go_sem]
    repeat (refine And.intro (by first | omega | (intros; omega) | (intros; exact And.intro (by assumption) (by omega)) | kernel_rfl | grind) ?_)
    try (refine And.intro (by kernel_rfl) ?_)
    apply k9_; clear k9_
    refine Do.cond [1,2,4,7,8,10] rfl (fun g3 => ?_) (fun g3 => ?_) <;> simp [go_sem] at g3 ⊢
    · refine Do.seqk fun _ k10_ => ?_
      refine Do.region [4,5] true ?_
      simp [go_sem]
      repeat (refine And.intro (by first | omega | (intros; omega) | (intros; exact And.intro (by assumption) (by omega)) | grind) ?_)
      apply k10_; clear k10_
      refine Do.ret ?_
      simp [endQ, rets, ret1, go_sem]
      repeat (refine And.intro (by first | omega | (intros; omega) | (intros; exact And.intro (by assumption) (by omega)) | grind) ?_)
      rw [if_pos g3] at hz
      subst hz
      exact TLe.t (.cons (PLe.flt (ret_z rfl)) (.cons (PLe.refl _) .nil))
    · rw [if_neg (show ¬ f + p < bl (val m) by omega)] at hz
      refine Do.skip ?_
      simp [go_sem]
      apply k8_; clear k8_
      refine Do.seqk fun _ k11_ => ?_
      refine Do.region [1,2,4,7,8,10,11] true ?_
      simp [go_sem]
      repeat (refine And.intro (by first | omega | (intros; omega) | (intros; exact And.intro (by assumption) (by omega)) | grind) ?_)
      refine DoL.call true 907 rfl rfl rfl rfl (by first | exact trivial | omega | (simp; done) | (simp; omega)) (hBt) rfl (by first | exact .inl rfl | exact .inr rfl) rfl ?_
      simp [go_sem]
      apply k11_; clear k11_
      refine Do.seqk fun _ k12_ => ?_
      refine Do.region [1,2,4,7,8,10,11,12] true ?_
      simp [go_sem]
      repeat (refine And.intro (by first | omega | (intros; omega) | (intros; exact And.intro (by assumption) (by omega)) | grind) ?_)
      refine DoL.call true 1004 rfl rfl rfl rfl (by first | exact trivial | omega | (simp; done) | (simp; omega)) (hSr) rfl (by first | exact .inl rfl | exact .inr rfl) rfl ?_
      simp [go_sem]
      apply k12_; clear k12_
      refine Do.seqk fun _ k13_ => ?_
      refine Do.region [2,4,7,8,10,11,12,13] true ?_
      simp [go_sem]
      repeat (refine And.intro (by first | omega | (intros; omega) | (intros; exact And.intro (by assumption) (by omega)) | grind) ?_)
      refine DoL.call true 1105 rfl rfl rfl rfl (by first | exact trivial | omega | (simp; done) | (simp; omega)) (hSl) rfl (by first | exact .inl rfl | exact .inr rfl) rfl ?_
      simp [go_sem]
      refine DoL.call true 1106 rfl rfl rfl rfl (by first | exact trivial | omega | (simp; done) | (simp; omega)) (hSu) rfl (by first | exact .inl rfl | exact .inr rfl) rfl ?_
      simp [go_sem]
      apply k13_; clear k13_
      refine Do.seqk fun _ k14_ => ?_
      refine Do.region [2,4,7,8,10,11,12,13,14] true ?_
      simp [go_sem]
      apply k14_; clear k14_
      refine Do.seqk fun _ k15_ => ?_
      refine Do.seqk fun _ k16_ => ?_
      refine Do.region [2,4,7,8,10,11,12,13,14,60,61] true ?_
      simp [go_sem]
      repeat (refine And.intro (by first | omega | (intros; omega) | (intros; exact And.intro (by assumption) (by omega)) | grind) ?_)
      apply k16_; clear k16_
      refine Do.block ?_
      refine Do.loopF [2,4,7,8,10,11,12,13,14,60,61] (fun (i : Nat) => [(14, .int .i64 (decM H i)), (61, .int .i64 i)]) (fun (i : Nat) => []) (fun (i : Nat) => i ≤ f.toNat) (fun (i : Nat) => f.toNat - i) (0) (fun _ => by first | (simp [go_sem, mixS]; done) | (simp [go_sem, mixS]; rfl)) (St.le_of (by simp [keep, decM_zero]) (by simp [keep])) (Nat.zero_le _) ?_
      intro i hi
      refine Do.seqk fun _ k17_ => ?_
      refine Do.region [2,4,7,8,10,11,12,13,14,60,61,62] true ?_
      simp [go_sem]
      apply k17_; clear k17_
      refine Do.seqk fun _ k18_ => ?_
      refine Do.cond [2,4,7,8,10,11,12,13,14,60,61] rfl (fun g4 => ?_) (fun g4 => ?_) <;> simp [go_sem] at g4 ⊢
      · have hbi := hBh i (by omega)
        have h15 := hp15 i (by omega)
        have hlt := decM_lt H i
        have h2i : (2 : Int) ^ i = ((2 ^ i : Nat) : Int) := by simp
        refine Do.skip ?_
        simp [go_sem]
        apply k18_; clear k18_
        refine Do.seqk fun _ k19_ => ?_
        refine Do.block ?_
        refine Do.seqk fun _ k20_ => ?_
        refine Do.region [2,4,7,8,10,11,12,13,14,15,60,61] true ?_
        simp [go_sem]
        apply k20_; clear k20_
        refine Do.seqk fun _ k21_ => ?_
        refine Do.region [2,4,7,8,10,11,12,13,14,15,60,61,66] true ?_
        simp [go_sem]
        refine DoL.call true 1603 rfl rfl rfl rfl (by first | exact trivial | omega | (simp; done) | (simp; omega)) (hbi) rfl (by first | exact .inl rfl | exact .inr rfl) rfl ?_
        simp [go_sem]
        apply k21_; clear k21_
        refine Do.cond [2,4,7,8,10,11,12,13,14,15,60,61] rfl (fun g5 => ?_) (fun g5 => ?_) <;> simp [go_sem] at g5 ⊢
        · have hmo := decM_one g5
          have h2b : 0 ≤ (2 : Int) ^ i ∧ (2 : Int) ^ i ≤ 16384 := by rw [h2i]; omega
          refine Do.region [2,4,7,8,10,11,12,13,14,60,61] true ?_
          simp [go_sem, two_nat, hmo]
          repeat (refine And.intro (by first | omega | (intros; omega) | (intros; exact And.intro (by assumption) (by omega)) | grind) ?_)
          apply k19_; clear k19_
          refine Do.region [2,4,7,8,10,11,12,13,14,60,61] true ?_
          simp [go_sem, two_nat, hmo]
          repeat (refine And.intro (by first | omega | (intros; omega) | (intros; exact And.intro (by assumption) (by omega)) | grind) ?_)
          refine ⟨i + 1, St.le_of (by simp [keep]) (by simp [keep]), by omega, by simp; omega⟩
        · have hmo := @decM_two H i (by omega)
          refine Do.skip ?_
          simp [go_sem]
          apply k19_; clear k19_
          refine Do.region [2,4,7,8,10,11,12,13,14,60,61] true ?_
          simp [go_sem]
          repeat (refine And.intro (by first | omega | (intros; omega) | (intros; exact And.intro (by assumption) (by omega)) | grind) ?_)
          refine ⟨i + 1, St.le_of (by simp [keep, hmo]) (by simp [keep]), by omega, by simp; omega⟩
      · obtain rfl : i = f.toNat := by omega
        refine Do.exit ?_
        simp [go_sem]
        apply k15_; clear k15_
        refine Do.seqk fun _ k22_ => ?_
        refine Do.region [2,4,7,10,11,13,14,16] true ?_
        simp [go_sem, hB, hE]
        repeat (refine And.intro (by first | omega | (intros; omega) | (intros; exact And.intro (by assumption) (by omega)) | grind) ?_)
        apply k22_; clear k22_
        refine Do.seqk fun _ k23_ => ?_
        refine Do.block ?_
        refine Do.seqk fun _ k24_ => ?_
        refine Do.region [2,4,7,10,11,13,14,16,76] true ?_
        simp [go_sem, hB, hE]
        repeat (refine And.intro (by first | omega | (intros; omega) | (intros; exact And.intro (by assumption) (by omega)) | grind) ?_)
        refine DoL.callg true 2009 rfl rfl rfl rfl rfl (by simp [go_sem] <;> omega) (fun _ => hZ) rfl (by first | exact .inl rfl | exact .inr rfl) rfl ?_
        simp [go_sem, hB, hE]
        apply k24_; clear k24_
        refine Do.cond [2,4,7,10,11,13,14,16] rfl (fun c1 => ?_) (fun c1 => ?_) <;> simp [go_sem, hB, hE] at c1 ⊢
        · refine Do.seqk fun _ k25_ => ?_
          refine Do.region [4,5] true ?_
          simp [go_sem, hB, hE]
          repeat (refine And.intro (by first | omega | (intros; omega) | (intros; exact And.intro (by assumption) (by omega)) | grind) ?_)
          apply k25_; clear k25_
          refine Do.ret ?_
          simp [endQ, rets, ret1, go_sem, hB, hE]
          repeat (refine And.intro (by first | omega | (intros; omega) | (intros; exact And.intro (by assumption) (by omega)) | grind) ?_)
          rw [if_pos ⟨by omega, c1.2⟩] at hz
          subst hz
          exact TLe.t (.cons (PLe.flt (ret_z rfl)) (.cons (PLe.refl _) .nil))
        · rw [if_neg (fun h => c1 (by omega) h.2)] at hz
          refine Do.seqk fun _ k26_ => ?_
          refine Do.region [4,7,10,11,13,14,16,89] true ?_
          simp [go_sem, hB, hE]
          repeat (refine And.intro (by first | omega | (intros; omega) | (intros; exact And.intro (by assumption) (by omega)) | grind) ?_)
          apply k26_; clear k26_
          refine Do.cond [4,7,10,11,13,14,16] rfl (fun c2 => ?_) (fun c2 => ?_) <;> simp [go_sem, hB, hE] at c2 ⊢
          · refine Do.seqk fun _ k27_ => ?_
            refine Do.region [4,5] true ?_
            simp [go_sem, hB, hE]
            repeat (refine And.intro (by first | omega | (intros; omega) | (intros; exact And.intro (by assumption) (by omega)) | grind) ?_)
            apply k27_; clear k27_
            refine Do.ret ?_
            simp [endQ, rets, ret1, go_sem, hB, hE]
            repeat (refine And.intro (by first | omega | (intros; omega) | (intros; exact And.intro (by assumption) (by omega)) | grind) ?_)
            rw [if_pos (by omega)] at hz
            subst hz
            exact TLe.t (.cons (PLe.flt (ret_z rfl)) (.cons (PLe.refl _) .nil))
          · rw [if_neg (by omega)] at hz
            refine Do.seqk fun _ k28_ => ?_
            refine Do.region [4,7,10,11,13,14,16,97] true ?_
            simp [go_sem, hB, hE]
            refine DoL.callg true 2405 rfl rfl rfl rfl rfl (by simp [go_sem] <;> omega) (fun _ => hZ) rfl (by first | exact .inl rfl | exact .inr rfl) rfl ?_
            simp [go_sem, hB, hE]
            apply k28_; clear k28_
            refine Do.cond [4,7,10,11,13,14,16] rfl (fun c3 => ?_) (fun c3 => ?_) <;> simp [go_sem, hB, hE] at c3 ⊢
            · refine Do.seqk fun _ k29_ => ?_
              refine Do.region [4,5] true ?_
              simp [go_sem, hB, hE]
              repeat (refine And.intro (by first | omega | (intros; omega) | (intros; exact And.intro (by assumption) (by omega)) | grind) ?_)
              apply k29_; clear k29_
              refine Do.ret ?_
              simp [endQ, rets, ret1, go_sem, hB, hE]
              repeat (refine And.intro (by first | omega | (intros; omega) | (intros; exact And.intro (by assumption) (by omega)) | grind) ?_)
              rw [if_pos (by omega)] at hz
              subst hz
              exact TLe.t (.cons (PLe.flt (ret_z rfl)) (.cons (PLe.refl _) .nil))
            · rw [if_neg (by omega)] at hz
              refine Do.seqk fun _ k30_ => ?_
              refine Do.region [4,7,10,13,14,16,106] true ?_
              simp [go_sem, hB, hE]
              apply k30_; clear k30_
              refine Do.cond [4,7,10,13,14,16] rfl (fun c4 => ?_) (fun c4 => ?_) <;> simp [go_sem, hB, hE] at c4 ⊢
              · rw [if_pos (by omega)] at hz
                refine Do.region [4,16] true ?_
                simp [go_sem, hB, hE]
                repeat (refine And.intro (by first | omega | (intros; omega) | (intros; exact And.intro (by assumption) (by omega)) | grind) ?_)
                refine DoL.frz true 2704 2701 rfl ?_
                simp [go_sem]
                refine DoL.call true 2705 rfl rfl rfl rfl (by first | exact trivial | omega | (simp; done) | (simp; omega)) (hS1) rfl (by first | exact .inl rfl | exact .inr rfl) rfl ?_
                simp [go_sem, hB, hE]
                refine DoL.call true 2706 rfl rfl rfl rfl (by first | exact trivial | omega | (simp; done) | (simp; omega)) (hAd) rfl (by first | exact .inl rfl | exact .inr rfl) rfl ?_
                simp [go_sem, hB, hE]
                repeat (refine And.intro (by first | omega | (intros; omega) | (intros; exact And.intro (by assumption) (by omega)) | grind) ?_)
                apply k23_; clear k23_
                refine Do.seqk fun _ k31_ => ?_
                refine Do.region [4,16] true ?_
                simp [go_sem, hB, hE]
                repeat (refine And.intro (by first | omega | (intros; omega) | (intros; exact And.intro (by assumption) (by omega)) | grind) ?_)
                refine DoL.call true 2802 rfl rfl rfl rfl (by first | exact trivial | omega | (simp; done) | (simp; omega)) (hC1) rfl (by first | exact .inl rfl | exact .inr rfl) rfl ?_
                simp [go_sem, hB, hE]
                repeat (refine And.intro (by first | omega | (intros; omega) | (intros; exact And.intro (by assumption) (by omega)) | grind) ?_)
                apply k31_; clear k31_
                refine Do.seqk fun _ k32_ => ?_
                refine Do.region [4,5] true ?_
                simp [go_sem, hB, hE]
                repeat (refine And.intro (by first | omega | (intros; omega) | (intros; exact And.intro (by assumption) (by omega)) | grind) ?_)
                apply k32_; clear k32_
                refine Do.ret ?_
                simp [endQ, rets, ret1, go_sem, hB, hE]
                repeat (refine And.intro (by first | omega | (intros; omega) | (intros; exact And.intro (by assumption) (by omega)) | grind) ?_)
                subst hz
                exact TLe.refl _
              · rw [if_neg (by omega)] at hz
                refine Do.skip ?_
                simp [go_sem]
                apply k23_; clear k23_
                refine Do.seqk fun _ k33_ => ?_
                refine Do.region [4,16] true ?_
                simp [go_sem, hB, hE]
                repeat (refine And.intro (by first | omega | (intros; omega) | (intros; exact And.intro (by assumption) (by omega)) | grind) ?_)
                refine DoL.call true 2802 rfl rfl rfl rfl (by first | exact trivial | omega | (simp; done) | (simp; omega)) (hC2) rfl (by first | exact .inl rfl | exact .inr rfl) rfl ?_
                simp [go_sem, hB, hE]
                repeat (refine And.intro (by first | omega | (intros; omega) | (intros; exact And.intro (by assumption) (by omega)) | grind) ?_)
                apply k33_; clear k33_
                refine Do.seqk fun _ k34_ => ?_
                refine Do.region [4,5] true ?_
                simp [go_sem, hB, hE]
                repeat (refine And.intro (by first | omega | (intros; omega) | (intros; exact And.intro (by assumption) (by omega)) | grind) ?_)
                apply k34_; clear k34_
                refine Do.ret ?_
                simp [endQ, rets, ret1, go_sem, hB, hE]
                repeat (refine And.intro (by first | omega | (intros; omega) | (intros; exact And.intro (by assumption) (by omega)) | grind) ?_)
                subst hz
                exact TLe.refl _
end Go.Proofs.YtokgalpflooegaaDoor
