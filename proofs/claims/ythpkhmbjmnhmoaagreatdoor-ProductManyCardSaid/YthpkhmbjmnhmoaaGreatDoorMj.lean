/- A part rounded; the greatest float; what is beyond it. No condition. The greatest float, what is beyond it. No condition. The reference's rounding is the program's. No condition. Canonical floats, counted. No condition. The exact sum of floats. No condition. The reference's sum is the program's. No condition. The reference's Total. No condition. What the laws of sums compare. No condition. The law SumTotals. No condition. The law SumAdds. No condition. -/
import Derived.Test.YthpkhmbjmnhmoaaGreatDoorMi
import Derived.Test.YthpkhmbjmnhmoaaGreatDoorMf
import Derived.Test.YthpkhmbjmnhmoaaGreatDoorMh
/- A part rounded; the greatest float; what is beyond it. No condition. -/
namespace Go.Proofs.YthpkhmbjmnhmoaaGreatDoor
set_option linter.unusedVariables false
set_option linter.unusedSimpArgs false
variable {G : Gl}
set_option maxHeartbeats 4000000
set_option maxRecDepth 10000
/-- What lies beyond the integer: 0 nothing, 1 less than a half, 2 a half, 3 more. -/
def pcode (h s : Bool) : Int := if h then (if s then 3 else 2) else (if s then 1 else 0)
theorem ret_wb {c : Ce} {M N : Nat} {b b' : Bool} (h : PLe (.c c) (.c (.w false (nat M)))) (h1 : M = N) (h2 : b = b') : TLe (tvOf [.c c, .c (.b b)]) (.t [Wd (nat N), .c (.b b')]) := by
  subst h1; subst h2
  exact TLe.t (.cons h (.cons (PLe.refl _) .nil))
theorem Rounded_does {r : Int} (hr : 0 ≤ r) (hr' : r ≤ 4) {n h s : Bool} {N : Nat} (hN : bl N ≤ 134217728) : Does Tryz.prog G 94 [.c (.i .i64 r), .c (.b n), Pt N h s] (.t [Wd (nat (upP r n N (pcode h s))), .c (.b (pcode h s == 0))]) := by
  have hl := nat_len_of hN
  have h1 := @RBit_does G (nat N) (by omega) (nat_ws _) 0 (by constructor <;> decide)
  have h2 := @RWord_does G 1 (by decide)
  have h3 := @RAdd_does G (nat N) (nat 1) (by omega) (nat_ws _) (by rw [nat_one]; decide) (nat_ws _)
  rw [val_nat, val_nat] at h3
  rw [val_nat] at h1
  simp only [Int.toNat_zero, Nat.pow_zero, Nat.div_one, decide_true, Bool.true_and, Int.le_refl] at h1
  rcases (show r = 0 ∨ r = 1 ∨ r = 2 ∨ r = 3 ∨ r = 4 by omega) with hr | hr | hr | hr | hr <;> subst hr
  · generalize ho : decide (N % 2 = 1) = o at *
    refine Does.of (nt := 51) Tryz.func94 rfl rfl rfl (by simp) ?_
    simp only [argTm, PV.ext, Ce.ext]
    refine Do.seqk fun _ k1_ => ?_
    refine Do.region [0,1,5] true ?_
    simp [go_sem]
    apply k1_; clear k1_
    refine Do.seqk fun _ k2_ => ?_
    refine Do.region [0,1,5,8] true ?_
    simp [go_sem]
    apply k2_; clear k2_
    refine Do.seqk fun _ k3_ => ?_
    refine Do.seqk fun _ k4_ => ?_
    refine Do.region [1,5,8,9] true ?_
    simp [go_sem]
    apply k4_; clear k4_
    refine Do.block ?_
    refine Do.seqk fun _ k5_ => ?_
    refine Do.region [1,5,8,9,10] true ?_
    simp [go_sem]
    apply k5_; clear k5_
    refine Do.cond [1,5,8,9] rfl (fun g0 => ?_) (fun g0 => ?_) <;> simp [go_sem] at g0 ⊢
    refine Do.region [5,8] true ?_
    simp [go_sem]
    repeat (refine And.intro (by first | omega | (intros; omega) | (intros; exact And.intro (by assumption) (by omega)) | grind) ?_)
    refine DoL.callg true 409 rfl rfl rfl rfl rfl (by simp [go_sem] <;> omega) (fun _ => h1) rfl (by first | exact .inl rfl | exact .inr rfl) rfl ?_
    simp [go_sem]
    refine And.intro (fun a => ⟨a, fun b => ⟨a, b⟩⟩) ?_
    apply k3_; clear k3_
    refine Do.seqk fun _ k6_ => ?_
    refine Do.seqk fun _ k7_ => ?_
    refine Do.region [5,8,41] true ?_
    simp [go_sem]
    repeat (refine And.intro (by first | omega | (intros; omega) | (intros; exact And.intro (by assumption) (by omega)) | grind) ?_)
    apply k7_; clear k7_
    refine Do.cond [5,8] rfl (fun g1 => ?_) (fun g1 => ?_) <;> simp [go_sem] at g1 ⊢
    · refine Do.seqk fun _ k8_ => ?_
      refine Do.region [6,7] true ?_
      simp [go_sem]
      repeat (refine And.intro (by first | omega | (intros; omega) | (intros; exact And.intro (by assumption) (by omega)) | grind) ?_)
      apply k8_; clear k8_
      refine Do.ret ?_
      simp [endQ, rets, ret1, go_sem]
      repeat (refine And.intro (by first | omega | (intros; omega) | (intros; exact And.intro (by assumption) (by omega)) | grind) ?_)
      exact ret_wb (PLe.refl _) (by cases h <;> cases s <;> simp [pcode, upP, moreP] at g1 ⊢) (by cases h <;> cases s <;> simp [pcode] at g1 ⊢)
    · refine Do.skip ?_
      simp [go_sem]
      apply k6_; clear k6_
      refine Do.seqk fun _ k9_ => ?_
      refine Do.seqk fun _ k10_ => ?_
      refine Do.region [5,44] true ?_
      simp [go_sem]
      apply k10_; clear k10_
      refine Do.cond [5] rfl (fun g2 => ?_) (fun g2 => ?_) <;> simp [go_sem] at g2 ⊢
      · refine Do.seqk fun _ k11_ => ?_
        refine Do.draw [6,7] true (by kernel_rfl) ?_
        simp [go_sem]
        repeat (refine And.intro (by first | omega | (intros; omega) | (intros; exact And.intro (by assumption) (by omega)) | kernel_rfl | grind) ?_)
        refine DoLD.call true 1403 rfl rfl rfl rfl (by first | exact trivial | omega | (simp; done) | (simp; omega)) (h2) rfl (by first | exact .inl rfl | exact .inr rfl) rfl ?_
        simp [go_sem]
        refine DoLD.call true 1404 rfl rfl rfl rfl (by first | exact trivial | omega | (simp; done) | (simp; omega)) (h3) rfl (by first | exact .inl rfl | exact .inr rfl) rfl ?_
        simp [go_sem]
        try (refine And.intro (by kernel_rfl) ?_)
        apply k11_; clear k11_
        refine Do.ret ?_
        simp [endQ, rets, ret1, go_sem]
        repeat (refine And.intro (by first | omega | (intros; omega) | (intros; exact And.intro (by assumption) (by omega)) | grind) ?_)
        exact ret_wb (PLe.ext (.c (.w true _))) (by rw [upP, ho]; cases h <;> cases s <;> cases o <;> simp [pcode, moreP] at g1 g2 ⊢) (by cases h <;> cases s <;> simp [pcode] at g1 ⊢)
      · refine Do.skip ?_
        simp [go_sem]
        apply k9_; clear k9_
        refine Do.seqk fun _ k12_ => ?_
        refine Do.region [6,7] true ?_
        simp [go_sem]
        repeat (refine And.intro (by first | omega | (intros; omega) | (intros; exact And.intro (by assumption) (by omega)) | grind) ?_)
        apply k12_; clear k12_
        refine Do.ret ?_
        simp [endQ, rets, ret1, go_sem]
        repeat (refine And.intro (by first | omega | (intros; omega) | (intros; exact And.intro (by assumption) (by omega)) | grind) ?_)
        exact ret_wb (PLe.refl _) (by rw [upP, ho]; cases h <;> cases s <;> cases o <;> simp [pcode, moreP] at g1 g2 ⊢) (by cases h <;> cases s <;> simp [pcode] at g1 ⊢)
  · skip
    refine Does.of (nt := 51) Tryz.func94 rfl rfl rfl (by simp) ?_
    simp only [argTm, PV.ext, Ce.ext]
    refine Do.seqk fun _ k1_ => ?_
    refine Do.region [0,1,5] true ?_
    simp [go_sem]
    apply k1_; clear k1_
    refine Do.seqk fun _ k2_ => ?_
    refine Do.region [0,1,5,8] true ?_
    simp [go_sem]
    apply k2_; clear k2_
    refine Do.seqk fun _ k3_ => ?_
    refine Do.seqk fun _ k4_ => ?_
    refine Do.region [1,5,8,9] true ?_
    simp [go_sem]
    apply k4_; clear k4_
    refine Do.block ?_
    refine Do.seqk fun _ k5_ => ?_
    refine Do.region [1,5,8,9,10] true ?_
    simp [go_sem]
    apply k5_; clear k5_
    refine Do.cond [1,5,8,9] rfl (fun g0 => ?_) (fun g0 => ?_) <;> simp [go_sem] at g0 ⊢
    refine Do.seqk fun _ k6_ => ?_
    refine Do.region [1,5,8,9,23] true ?_
    simp [go_sem]
    apply k6_; clear k6_
    refine Do.cond [1,5,8,9] rfl (fun g0 => ?_) (fun g0 => ?_) <;> simp [go_sem] at g0 ⊢
    refine Do.region [5,8] true ?_
    simp [go_sem]
    repeat (refine And.intro (by first | omega | (intros; omega) | (intros; exact And.intro (by assumption) (by omega)) | grind) ?_)
    apply k3_; clear k3_
    refine Do.seqk fun _ k7_ => ?_
    refine Do.seqk fun _ k8_ => ?_
    refine Do.region [5,8,41] true ?_
    simp [go_sem]
    repeat (refine And.intro (by first | omega | (intros; omega) | (intros; exact And.intro (by assumption) (by omega)) | grind) ?_)
    apply k8_; clear k8_
    refine Do.cond [5,8] rfl (fun g1 => ?_) (fun g1 => ?_) <;> simp [go_sem] at g1 ⊢
    · refine Do.seqk fun _ k9_ => ?_
      refine Do.region [6,7] true ?_
      simp [go_sem]
      repeat (refine And.intro (by first | omega | (intros; omega) | (intros; exact And.intro (by assumption) (by omega)) | grind) ?_)
      apply k9_; clear k9_
      refine Do.ret ?_
      simp [endQ, rets, ret1, go_sem]
      repeat (refine And.intro (by first | omega | (intros; omega) | (intros; exact And.intro (by assumption) (by omega)) | grind) ?_)
      exact ret_wb (PLe.refl _) (by cases h <;> cases s <;> simp [pcode, upP, moreP] at g1 ⊢) (by cases h <;> cases s <;> simp [pcode] at g1 ⊢)
    · refine Do.skip ?_
      simp [go_sem]
      apply k7_; clear k7_
      refine Do.seqk fun _ k10_ => ?_
      refine Do.seqk fun _ k11_ => ?_
      refine Do.region [5,44] true ?_
      simp [go_sem]
      apply k11_; clear k11_
      refine Do.cond [5] rfl (fun g2 => ?_) (fun g2 => ?_) <;> simp [go_sem] at g2 ⊢
      · refine Do.seqk fun _ k12_ => ?_
        refine Do.draw [6,7] true (by kernel_rfl) ?_
        simp [go_sem]
        repeat (refine And.intro (by first | omega | (intros; omega) | (intros; exact And.intro (by assumption) (by omega)) | kernel_rfl | grind) ?_)
        refine DoLD.call true 1403 rfl rfl rfl rfl (by first | exact trivial | omega | (simp; done) | (simp; omega)) (h2) rfl (by first | exact .inl rfl | exact .inr rfl) rfl ?_
        simp [go_sem]
        refine DoLD.call true 1404 rfl rfl rfl rfl (by first | exact trivial | omega | (simp; done) | (simp; omega)) (h3) rfl (by first | exact .inl rfl | exact .inr rfl) rfl ?_
        simp [go_sem]
        try (refine And.intro (by kernel_rfl) ?_)
        apply k12_; clear k12_
        refine Do.ret ?_
        simp [endQ, rets, ret1, go_sem]
        repeat (refine And.intro (by first | omega | (intros; omega) | (intros; exact And.intro (by assumption) (by omega)) | grind) ?_)
        exact ret_wb (PLe.ext (.c (.w true _))) (by rw [upP]; cases h <;> cases s <;> simp [pcode, moreP] at g1 g2 ⊢) (by cases h <;> cases s <;> simp [pcode] at g1 ⊢)
      · refine Do.skip ?_
        simp [go_sem]
        apply k10_; clear k10_
        refine Do.seqk fun _ k13_ => ?_
        refine Do.region [6,7] true ?_
        simp [go_sem]
        repeat (refine And.intro (by first | omega | (intros; omega) | (intros; exact And.intro (by assumption) (by omega)) | grind) ?_)
        apply k13_; clear k13_
        refine Do.ret ?_
        simp [endQ, rets, ret1, go_sem]
        repeat (refine And.intro (by first | omega | (intros; omega) | (intros; exact And.intro (by assumption) (by omega)) | grind) ?_)
        exact ret_wb (PLe.refl _) (by rw [upP]; cases h <;> cases s <;> simp [pcode, moreP] at g1 g2 ⊢) (by cases h <;> cases s <;> simp [pcode] at g1 ⊢)
  · skip
    refine Does.of (nt := 51) Tryz.func94 rfl rfl rfl (by simp) ?_
    simp only [argTm, PV.ext, Ce.ext]
    refine Do.seqk fun _ k1_ => ?_
    refine Do.region [0,1,5] true ?_
    simp [go_sem]
    apply k1_; clear k1_
    refine Do.seqk fun _ k2_ => ?_
    refine Do.region [0,1,5,8] true ?_
    simp [go_sem]
    apply k2_; clear k2_
    refine Do.seqk fun _ k3_ => ?_
    refine Do.seqk fun _ k4_ => ?_
    refine Do.region [1,5,8,9] true ?_
    simp [go_sem]
    apply k4_; clear k4_
    refine Do.block ?_
    refine Do.seqk fun _ k5_ => ?_
    refine Do.region [1,5,8,9,10] true ?_
    simp [go_sem]
    apply k5_; clear k5_
    refine Do.cond [1,5,8,9] rfl (fun g0 => ?_) (fun g0 => ?_) <;> simp [go_sem] at g0 ⊢
    refine Do.seqk fun _ k6_ => ?_
    refine Do.region [1,5,8,9,23] true ?_
    simp [go_sem]
    apply k6_; clear k6_
    refine Do.cond [1,5,8,9] rfl (fun g0 => ?_) (fun g0 => ?_) <;> simp [go_sem] at g0 ⊢
    refine Do.seqk fun _ k7_ => ?_
    refine Do.region [1,5,8,9,27] true ?_
    simp [go_sem]
    apply k7_; clear k7_
    refine Do.cond [1,5,8,9] rfl (fun g0 => ?_) (fun g0 => ?_) <;> simp [go_sem] at g0 ⊢
    refine Do.seqk fun _ k8_ => ?_
    refine Do.region [1,5,8,31] true ?_
    simp [go_sem]
    apply k8_; clear k8_
    refine Do.cond [1,5,8] rfl (fun g0 => ?_) (fun g0 => ?_) <;> simp [go_sem] at g0 ⊢
    refine Do.skip ?_
    simp [go_sem]
    apply k3_; clear k3_
    refine Do.seqk fun _ k9_ => ?_
    refine Do.seqk fun _ k10_ => ?_
    refine Do.region [5,8,41] true ?_
    simp [go_sem]
    repeat (refine And.intro (by first | omega | (intros; omega) | (intros; exact And.intro (by assumption) (by omega)) | grind) ?_)
    apply k10_; clear k10_
    refine Do.cond [5,8] rfl (fun g1 => ?_) (fun g1 => ?_) <;> simp [go_sem] at g1 ⊢
    · refine Do.seqk fun _ k11_ => ?_
      refine Do.region [6,7] true ?_
      simp [go_sem]
      repeat (refine And.intro (by first | omega | (intros; omega) | (intros; exact And.intro (by assumption) (by omega)) | grind) ?_)
      apply k11_; clear k11_
      refine Do.ret ?_
      simp [endQ, rets, ret1, go_sem]
      repeat (refine And.intro (by first | omega | (intros; omega) | (intros; exact And.intro (by assumption) (by omega)) | grind) ?_)
      exact ret_wb (PLe.refl _) (by cases h <;> cases s <;> simp [pcode, upP, moreP] at g1 ⊢) (by cases h <;> cases s <;> simp [pcode] at g1 ⊢)
    · refine Do.skip ?_
      simp [go_sem]
      apply k9_; clear k9_
      refine Do.seqk fun _ k12_ => ?_
      refine Do.seqk fun _ k13_ => ?_
      refine Do.region [5,44] true ?_
      simp [go_sem]
      apply k13_; clear k13_
      refine Do.cond [5] rfl (fun g2 => ?_) (fun g2 => ?_) <;> simp [go_sem] at g2 ⊢
      refine Do.skip ?_
      simp [go_sem]
      apply k12_; clear k12_
      refine Do.seqk fun _ k14_ => ?_
      refine Do.region [6,7] true ?_
      simp [go_sem]
      repeat (refine And.intro (by first | omega | (intros; omega) | (intros; exact And.intro (by assumption) (by omega)) | grind) ?_)
      apply k14_; clear k14_
      refine Do.ret ?_
      simp [endQ, rets, ret1, go_sem]
      repeat (refine And.intro (by first | omega | (intros; omega) | (intros; exact And.intro (by assumption) (by omega)) | grind) ?_)
      exact ret_wb (PLe.refl _) (by rw [upP]; cases h <;> cases s <;> simp [pcode, moreP] at g1 ⊢) (by cases h <;> cases s <;> simp [pcode] at g1 ⊢)
  · skip
    refine Does.of (nt := 51) Tryz.func94 rfl rfl rfl (by simp) ?_
    simp only [argTm, PV.ext, Ce.ext]
    refine Do.seqk fun _ k1_ => ?_
    refine Do.region [0,1,5] true ?_
    simp [go_sem]
    apply k1_; clear k1_
    refine Do.seqk fun _ k2_ => ?_
    refine Do.region [0,1,5,8] true ?_
    simp [go_sem]
    apply k2_; clear k2_
    refine Do.seqk fun _ k3_ => ?_
    refine Do.seqk fun _ k4_ => ?_
    refine Do.region [1,5,8,9] true ?_
    simp [go_sem]
    apply k4_; clear k4_
    refine Do.block ?_
    refine Do.seqk fun _ k5_ => ?_
    refine Do.region [1,5,8,9,10] true ?_
    simp [go_sem]
    apply k5_; clear k5_
    refine Do.cond [1,5,8,9] rfl (fun g0 => ?_) (fun g0 => ?_) <;> simp [go_sem] at g0 ⊢
    refine Do.seqk fun _ k6_ => ?_
    refine Do.region [1,5,8,9,23] true ?_
    simp [go_sem]
    apply k6_; clear k6_
    refine Do.cond [1,5,8,9] rfl (fun g0 => ?_) (fun g0 => ?_) <;> simp [go_sem] at g0 ⊢
    refine Do.seqk fun _ k7_ => ?_
    refine Do.region [1,5,8,9,27] true ?_
    simp [go_sem]
    apply k7_; clear k7_
    refine Do.cond [1,5,8,9] rfl (fun g0 => ?_) (fun g0 => ?_) <;> simp [go_sem] at g0 ⊢
    refine Do.region [5,8] true ?_
    simp [go_sem]
    repeat (refine And.intro (by first | omega | (intros; omega) | (intros; exact And.intro (by assumption) (by omega)) | grind) ?_)
    apply k3_; clear k3_
    refine Do.seqk fun _ k8_ => ?_
    refine Do.seqk fun _ k9_ => ?_
    refine Do.region [5,8,41] true ?_
    simp [go_sem]
    repeat (refine And.intro (by first | omega | (intros; omega) | (intros; exact And.intro (by assumption) (by omega)) | grind) ?_)
    apply k9_; clear k9_
    refine Do.cond [5,8] rfl (fun g1 => ?_) (fun g1 => ?_) <;> simp [go_sem] at g1 ⊢
    · refine Do.seqk fun _ k10_ => ?_
      refine Do.region [6,7] true ?_
      simp [go_sem]
      repeat (refine And.intro (by first | omega | (intros; omega) | (intros; exact And.intro (by assumption) (by omega)) | grind) ?_)
      apply k10_; clear k10_
      refine Do.ret ?_
      simp [endQ, rets, ret1, go_sem]
      repeat (refine And.intro (by first | omega | (intros; omega) | (intros; exact And.intro (by assumption) (by omega)) | grind) ?_)
      exact ret_wb (PLe.refl _) (by cases h <;> cases s <;> simp [pcode, upP, moreP] at g1 ⊢) (by cases h <;> cases s <;> simp [pcode] at g1 ⊢)
    · refine Do.skip ?_
      simp [go_sem]
      apply k8_; clear k8_
      refine Do.seqk fun _ k11_ => ?_
      refine Do.seqk fun _ k12_ => ?_
      refine Do.region [5,44] true ?_
      simp [go_sem]
      apply k12_; clear k12_
      refine Do.cond [5] rfl (fun g2 => ?_) (fun g2 => ?_) <;> simp [go_sem] at g2 ⊢
      · refine Do.seqk fun _ k13_ => ?_
        refine Do.draw [6,7] true (by kernel_rfl) ?_
        simp [go_sem]
        repeat (refine And.intro (by first | omega | (intros; omega) | (intros; exact And.intro (by assumption) (by omega)) | kernel_rfl | grind) ?_)
        refine DoLD.call true 1403 rfl rfl rfl rfl (by first | exact trivial | omega | (simp; done) | (simp; omega)) (h2) rfl (by first | exact .inl rfl | exact .inr rfl) rfl ?_
        simp [go_sem]
        refine DoLD.call true 1404 rfl rfl rfl rfl (by first | exact trivial | omega | (simp; done) | (simp; omega)) (h3) rfl (by first | exact .inl rfl | exact .inr rfl) rfl ?_
        simp [go_sem]
        try (refine And.intro (by kernel_rfl) ?_)
        apply k13_; clear k13_
        refine Do.ret ?_
        simp [endQ, rets, ret1, go_sem]
        repeat (refine And.intro (by first | omega | (intros; omega) | (intros; exact And.intro (by assumption) (by omega)) | grind) ?_)
        exact ret_wb (PLe.ext (.c (.w true _))) (by rw [upP]; cases h <;> cases s <;> cases n <;> simp [pcode, moreP] at g1 g2 ⊢) (by cases h <;> cases s <;> simp [pcode] at g1 ⊢)
      · refine Do.skip ?_
        simp [go_sem]
        apply k11_; clear k11_
        refine Do.seqk fun _ k14_ => ?_
        refine Do.region [6,7] true ?_
        simp [go_sem]
        repeat (refine And.intro (by first | omega | (intros; omega) | (intros; exact And.intro (by assumption) (by omega)) | grind) ?_)
        apply k14_; clear k14_
        refine Do.ret ?_
        simp [endQ, rets, ret1, go_sem]
        repeat (refine And.intro (by first | omega | (intros; omega) | (intros; exact And.intro (by assumption) (by omega)) | grind) ?_)
        exact ret_wb (PLe.refl _) (by rw [upP]; cases h <;> cases s <;> cases n <;> simp [pcode, moreP] at g1 g2 ⊢) (by cases h <;> cases s <;> simp [pcode] at g1 ⊢)
  · skip
    refine Does.of (nt := 51) Tryz.func94 rfl rfl rfl (by simp) ?_
    simp only [argTm, PV.ext, Ce.ext]
    refine Do.seqk fun _ k1_ => ?_
    refine Do.region [0,1,5] true ?_
    simp [go_sem]
    apply k1_; clear k1_
    refine Do.seqk fun _ k2_ => ?_
    refine Do.region [0,1,5,8] true ?_
    simp [go_sem]
    apply k2_; clear k2_
    refine Do.seqk fun _ k3_ => ?_
    refine Do.seqk fun _ k4_ => ?_
    refine Do.region [1,5,8,9] true ?_
    simp [go_sem]
    apply k4_; clear k4_
    refine Do.block ?_
    refine Do.seqk fun _ k5_ => ?_
    refine Do.region [1,5,8,9,10] true ?_
    simp [go_sem]
    apply k5_; clear k5_
    refine Do.cond [1,5,8,9] rfl (fun g0 => ?_) (fun g0 => ?_) <;> simp [go_sem] at g0 ⊢
    refine Do.seqk fun _ k6_ => ?_
    refine Do.region [1,5,8,9,23] true ?_
    simp [go_sem]
    apply k6_; clear k6_
    refine Do.cond [1,5,8,9] rfl (fun g0 => ?_) (fun g0 => ?_) <;> simp [go_sem] at g0 ⊢
    refine Do.seqk fun _ k7_ => ?_
    refine Do.region [1,5,8,9,27] true ?_
    simp [go_sem]
    apply k7_; clear k7_
    refine Do.cond [1,5,8,9] rfl (fun g0 => ?_) (fun g0 => ?_) <;> simp [go_sem] at g0 ⊢
    refine Do.seqk fun _ k8_ => ?_
    refine Do.region [1,5,8,31] true ?_
    simp [go_sem]
    apply k8_; clear k8_
    refine Do.cond [1,5,8] rfl (fun g0 => ?_) (fun g0 => ?_) <;> simp [go_sem] at g0 ⊢
    refine Do.region [5,8] true ?_
    simp [go_sem]
    apply k3_; clear k3_
    refine Do.seqk fun _ k9_ => ?_
    refine Do.seqk fun _ k10_ => ?_
    refine Do.region [5,8,41] true ?_
    simp [go_sem]
    repeat (refine And.intro (by first | omega | (intros; omega) | (intros; exact And.intro (by assumption) (by omega)) | grind) ?_)
    apply k10_; clear k10_
    refine Do.cond [5,8] rfl (fun g1 => ?_) (fun g1 => ?_) <;> simp [go_sem] at g1 ⊢
    · refine Do.seqk fun _ k11_ => ?_
      refine Do.region [6,7] true ?_
      simp [go_sem]
      repeat (refine And.intro (by first | omega | (intros; omega) | (intros; exact And.intro (by assumption) (by omega)) | grind) ?_)
      apply k11_; clear k11_
      refine Do.ret ?_
      simp [endQ, rets, ret1, go_sem]
      repeat (refine And.intro (by first | omega | (intros; omega) | (intros; exact And.intro (by assumption) (by omega)) | grind) ?_)
      exact ret_wb (PLe.refl _) (by cases h <;> cases s <;> simp [pcode, upP, moreP] at g1 ⊢) (by cases h <;> cases s <;> simp [pcode] at g1 ⊢)
    · refine Do.skip ?_
      simp [go_sem]
      apply k9_; clear k9_
      refine Do.seqk fun _ k12_ => ?_
      refine Do.seqk fun _ k13_ => ?_
      refine Do.region [5,44] true ?_
      simp [go_sem]
      apply k13_; clear k13_
      refine Do.cond [5] rfl (fun g2 => ?_) (fun g2 => ?_) <;> simp [go_sem] at g2 ⊢
      · refine Do.seqk fun _ k14_ => ?_
        refine Do.draw [6,7] true (by kernel_rfl) ?_
        simp [go_sem]
        repeat (refine And.intro (by first | omega | (intros; omega) | (intros; exact And.intro (by assumption) (by omega)) | kernel_rfl | grind) ?_)
        refine DoLD.call true 1403 rfl rfl rfl rfl (by first | exact trivial | omega | (simp; done) | (simp; omega)) (h2) rfl (by first | exact .inl rfl | exact .inr rfl) rfl ?_
        simp [go_sem]
        refine DoLD.call true 1404 rfl rfl rfl rfl (by first | exact trivial | omega | (simp; done) | (simp; omega)) (h3) rfl (by first | exact .inl rfl | exact .inr rfl) rfl ?_
        simp [go_sem]
        try (refine And.intro (by kernel_rfl) ?_)
        apply k14_; clear k14_
        refine Do.ret ?_
        simp [endQ, rets, ret1, go_sem]
        repeat (refine And.intro (by first | omega | (intros; omega) | (intros; exact And.intro (by assumption) (by omega)) | grind) ?_)
        exact ret_wb (PLe.ext (.c (.w true _))) (by rw [upP]; cases h <;> cases s <;> cases n <;> simp [pcode, moreP] at g1 g2 ⊢) (by cases h <;> cases s <;> simp [pcode] at g1 ⊢)
      · refine Do.skip ?_
        simp [go_sem]
        apply k12_; clear k12_
        refine Do.seqk fun _ k15_ => ?_
        refine Do.region [6,7] true ?_
        simp [go_sem]
        repeat (refine And.intro (by first | omega | (intros; omega) | (intros; exact And.intro (by assumption) (by omega)) | grind) ?_)
        apply k15_; clear k15_
        refine Do.ret ?_
        simp [endQ, rets, ret1, go_sem]
        repeat (refine And.intro (by first | omega | (intros; omega) | (intros; exact And.intro (by assumption) (by omega)) | grind) ?_)
        exact ret_wb (PLe.refl _) (by rw [upP]; cases h <;> cases s <;> cases n <;> simp [pcode, moreP] at g1 g2 ⊢) (by cases h <;> cases s <;> simp [pcode] at g1 ⊢)
end Go.Proofs.YthpkhmbjmnhmoaaGreatDoor
/- The greatest float, what is beyond it. No condition. -/
namespace Go.Proofs.YthpkhmbjmnhmoaaGreatDoor
set_option linter.unusedVariables false
set_option linter.unusedSimpArgs false
variable {G : Gl}
set_option maxHeartbeats 4000000
set_option maxRecDepth 10000
/-- A float whose words are its own. -/
abbrev Flt.pw (x : Flt) : PV := .a [.i .i64 x.k, .b x.n, .i .i64 x.e, .w true (nat x.v)]
theorem PLe.flw {k : Int} {n : Bool} {e : Int} {c : Ce} {m : List Nat} (h : PLe (.c c) (.c (.w true m))) : PLe (.a [.i .i64 k, .b n, .i .i64 e, c]) (.a [.i .i64 k, .b n, .i .i64 e, .w true m]) :=
  PLe.agg (.cons (PLe.refl _) (.cons (PLe.refl _) (.cons (PLe.refl _) (.cons h .nil))))
theorem ret_zw {n : Nat} (h : n = 0) : PLe (.c .z) (.c (.w true (nat n))) := by subst h; rw [nat_zero]; exact PLe.z true
theorem ret_w1 {k : Int} {n : Bool} {e : Int} {c : Ce} {x : Flt} (h : PLe (.c c) (.c (.w true (nat x.v)))) (h1 : (k, n, e) = (x.k, x.n, x.e)) : TLe (tvOf [.a [.i .i64 k, .b n, .i .i64 e, c]]) (.v x.pw) := by
  simp only [Prod.mk.injEq] at h1
  obtain ⟨rfl, rfl, rfl⟩ := h1
  exact TLe.v (PLe.flw h)
theorem Does.mono {P : Program} {G : Gl} {f : FuncId} {args : List PV} {ret ret' : TV} (h : Does P G f args ret) (hle : TLe ret ret') : Does P G f args ret' := by
  intro W ok vals hok hgl hargs
  rcases h W ok vals hok hgl hargs with ⟨h1, h2⟩ | ⟨v, h1, h2⟩
  · exact .inl ⟨h1, h2.mono fun e W' ⟨v, q1, q2, q3⟩ => ⟨v, q1, q2, hle _ _ q3⟩⟩
  · exact .inr ⟨v, h1, hle _ _ h2⟩
theorem Canonical_new {k e : Int} {n : Bool} {m : List Nat} (hm : m.length ≤ 1073741824) (wm : Ws m) (he : Md e) : Does Tryz.prog G 73 [Fl k n e m] (.v (rcanon ⟨k, n, e, val m⟩).pw) := by
  have ho : Does Tryz.prog G 56 [Fl k n e m] (.t [Wn (nat (val m / 2 ^ tz (val m))), .c (.i .i64 (e + tz (val m)))]) := odd_does hm wm he
  refine Does.of (nt := 23) Tryz.func73 rfl rfl rfl (by simp) ?_
  simp only [argTm, PV.ext, Ce.ext]
  refine Do.seqk fun _ k1_ => ?_
  refine Do.region [1,2] true ?_
  simp [go_sem]
  apply k1_; clear k1_
  refine Do.seqk fun _ k2_ => ?_
  refine Do.seqk fun _ k3_ => ?_
  refine Do.region [1,2,7] true ?_
  simp [go_sem]
  repeat (refine And.intro (by first | omega | (intros; omega) | (intros; exact And.intro (by assumption) (by omega)) | grind) ?_)
  apply k3_; clear k3_
  refine Do.cond [1,2] rfl (fun h => ?_) (fun h => ?_) <;> simp [go_sem] at h ⊢
  · refine Do.seqk fun _ k4_ => ?_
    refine Do.region [2] true ?_
    simp [go_sem]
    repeat (refine And.intro (by first | omega | (intros; omega) | (intros; exact And.intro (by assumption) (by omega)) | grind) ?_)
    apply k4_; clear k4_
    refine Do.ret ?_
    simp [endQ, rets, ret1, go_sem]
    repeat (refine And.intro (by first | omega | (intros; omega) | (intros; exact And.intro (by assumption) (by omega)) | grind) ?_)
    rw [rcanon, if_neg h]
    exact ret_w1 (ret_zw rfl) rfl
  · refine Do.skip ?_
    simp [go_sem]
    apply k2_; clear k2_
    refine Do.seqk fun _ k5_ => ?_
    refine Do.region [1,2,3,4] true ?_
    simp [go_sem]
    repeat (refine And.intro (by first | omega | (intros; omega) | (intros; exact And.intro (by assumption) (by omega)) | grind) ?_)
    refine DoL.call true 302 rfl rfl rfl rfl (by first | exact trivial | omega | (simp; done) | (simp; omega)) (ho) rfl (by first | exact .inl rfl | exact .inr rfl) rfl ?_
    simp [go_sem]
    apply k5_; clear k5_
    refine Do.seqk fun _ k6_ => ?_
    refine Do.region [2] true ?_
    simp [go_sem]
    repeat (refine And.intro (by first | omega | (intros; omega) | (intros; exact And.intro (by assumption) (by omega)) | grind) ?_)
    apply k6_; clear k6_
    refine Do.ret ?_
    simp [endQ, rets, ret1, go_sem]
    repeat (refine And.intro (by first | omega | (intros; omega) | (intros; exact And.intro (by assumption) (by omega)) | grind) ?_)
    rw [rcanon, if_pos h]
    exact TLe.refl _
theorem Top_does {f p : Int} (hf : fmOk f p = true) : Does Tryz.prog G 138 [Fm f p] (.v (Flt.pw ⟨1, false, gOfE f - p + 1, 2 ^ p.toNat - 1⟩)) := by
  obtain ⟨b1, b2, b3, b4⟩ := fmOk_spec hf
  obtain ⟨b5, b6⟩ := gOfE_le b1 b2
  have hG := @RGreatest_does G f p hf
  obtain ⟨P, rfl⟩ : ∃ P : Nat, p = P := ⟨p.toNat, by omega⟩
  rw [Int.toNat_natCast]
  have hW := @RWord_does G 1 (by decide)
  have h1 := @RLeft_does G (nat 1) P (by rw [nat_one]; decide) (nat_ws _) (by omega)
  rw [val_nat, Nat.one_mul] at h1
  have hp : 1 ≤ 2 ^ P := Nat.pow_pos (by decide)
  have hl : (nat (2 ^ P)).length ≤ 257 := nat_len_of (by have : bl (2 ^ P) ≤ P + 1 := (bl_lt _ _).2 (Nat.pow_lt_pow_right (by decide) (by omega)); omega)
  have h2 := @RSub_does G (nat (2 ^ P)) (nat 1) (by omega) (nat_ws _) (by rw [nat_one]; decide) (nat_ws _) (by rw [val_nat, val_nat]; exact hp)
  rw [val_nat, val_nat] at h2
  generalize 2 ^ P = Q at *
  generalize gOfE f = g at *
  refine Does.of (nt := 18) Tryz.func138 rfl rfl rfl (by simp) ?_
  simp only [argTm, PV.ext, Ce.ext]
  refine Do.seqk fun _ k1_ => ?_
  refine Do.region [1,2] true ?_
  simp [go_sem]
  apply k1_; clear k1_
  refine Do.seqk fun _ k2_ => ?_
  refine Do.region [1,2,3] true ?_
  simp [go_sem]
  refine DoL.call true 101 rfl rfl rfl rfl (by first | exact trivial | omega | (simp; done) | (simp; omega)) (hW) rfl (by first | exact .inl rfl | exact .inr rfl) rfl ?_
  simp [go_sem]
  apply k2_; clear k2_
  refine Do.seqk fun _ k3_ => ?_
  refine Do.draw [2] true (by kernel_rfl) ?_
  simp [go_sem]
  repeat (refine And.intro (by first | omega | (intros; omega) | (intros; exact And.intro (by assumption) (by omega)) | kernel_rfl | grind) ?_)
  refine DoLD.call true 202 rfl rfl rfl rfl (by first | exact trivial | omega | (simp; done) | (simp; omega)) (hG) rfl (by first | exact .inl rfl | exact .inr rfl) rfl ?_
  simp [go_sem]
  repeat (refine And.intro (by first | omega | (intros; omega) | (intros; exact And.intro (by assumption) (by omega)) | kernel_rfl | grind) ?_)
  refine DoLD.call true 210 rfl rfl rfl rfl (by first | exact trivial | omega | (simp; done) | (simp; omega)) (h1) rfl (by first | exact .inl rfl | exact .inr rfl) rfl ?_
  simp [go_sem]
  refine DoLD.call true 212 rfl rfl rfl rfl (by first | exact trivial | omega | (simp; done) | (simp; omega)) (h2) rfl (by first | exact .inl rfl | exact .inr rfl) rfl ?_
  simp [go_sem]
  repeat (refine And.intro (by first | omega | (intros; omega) | (intros; exact And.intro (by assumption) (by omega)) | kernel_rfl | grind) ?_)
  try (refine And.intro (by kernel_rfl) ?_)
  apply k3_; clear k3_
  refine Do.ret ?_
  simp [endQ, rets, ret1, go_sem]
  repeat (refine And.intro (by first | omega | (intros; omega) | (intros; exact And.intro (by assumption) (by omega)) | grind) ?_)
  exact TLe.refl _
/-- What is beyond the greatest float. -/
def beyP (f p r : Int) (n : Bool) : Flt := if grP r n then ⟨1, n, gOfE f - p + 1, 2 ^ p.toNat - 1⟩ else ⟨2, n, 0, 0⟩
theorem beyond_does {f p r : Int} {n : Bool} (hf : fmOk f p = true) : Does Tryz.prog G 93 [Fm f p, .c (.i .i64 r), .c (.b n)] (.v (beyP f p r n).pw) := by
  have hT := @Top_does G f p hf
  generalize hz : beyP f p r n = z at *
  unfold beyP grP at hz
  refine Does.of (nt := 32) Tryz.func93 rfl rfl rfl (by simp) ?_
  simp only [argTm, PV.ext, Ce.ext]
  refine Do.seqk fun _ k1_ => ?_
  refine Do.region [1,2,3,6] true ?_
  simp [go_sem]
  apply k1_; clear k1_
  refine Do.seqk fun _ k2_ => ?_
  refine Do.seqk fun _ k3_ => ?_
  refine Do.region [2,3,6,24] true ?_
  simp [go_sem]
  repeat (refine And.intro (by first | omega | (intros; omega) | (intros; exact And.intro (by assumption) (by omega)) | grind) ?_)
  apply k3_; clear k3_
  refine Do.cond [2,3,6] rfl (fun h => ?_) (fun h => ?_) <;> simp [go_sem] at h ⊢
  · refine Do.seqk fun _ k4_ => ?_
    refine Do.region [2,6,7] true ?_
    simp [go_sem]
    repeat (refine And.intro (by first | omega | (intros; omega) | (intros; exact And.intro (by assumption) (by omega)) | grind) ?_)
    refine DoL.call true 202 rfl rfl rfl rfl (by first | exact trivial | omega | (simp; done) | (simp; omega)) (hT) rfl (by first | exact .inl rfl | exact .inr rfl) rfl ?_
    simp [go_sem]
    repeat (refine And.intro (by first | omega | (intros; omega) | (intros; exact And.intro (by assumption) (by omega)) | grind) ?_)
    apply k4_; clear k4_
    refine Do.seqk fun _ k5_ => ?_
    refine Do.region [6,7] true ?_
    simp [go_sem]
    repeat (refine And.intro (by first | omega | (intros; omega) | (intros; exact And.intro (by assumption) (by omega)) | grind) ?_)
    apply k5_; clear k5_
    refine Do.seqk fun _ k6_ => ?_
    refine Do.region [6] true ?_
    simp [go_sem]
    repeat (refine And.intro (by first | omega | (intros; omega) | (intros; exact And.intro (by assumption) (by omega)) | grind) ?_)
    apply k6_; clear k6_
    refine Do.ret ?_
    simp [endQ, rets, ret1, go_sem]
    repeat (refine And.intro (by first | omega | (intros; omega) | (intros; exact And.intro (by assumption) (by omega)) | grind) ?_)
    rw [← hz, if_pos (by simpa using h)]
    exact TLe.refl _
  · refine Do.skip ?_
    simp [go_sem]
    apply k2_; clear k2_
    refine Do.seqk fun _ k7_ => ?_
    refine Do.region [6] true ?_
    simp [go_sem]
    repeat (refine And.intro (by first | omega | (intros; omega) | (intros; exact And.intro (by assumption) (by omega)) | grind) ?_)
    apply k7_; clear k7_
    refine Do.ret ?_
    simp [endQ, rets, ret1, go_sem]
    repeat (refine And.intro (by first | omega | (intros; omega) | (intros; exact And.intro (by assumption) (by omega)) | grind) ?_)
    rw [← hz, if_neg (by simpa using h)]
    exact TLe.v (PLe.flw (ret_zw rfl))
end Go.Proofs.YthpkhmbjmnhmoaaGreatDoor
/- The reference's rounding is the program's. No condition. -/
namespace Go.Proofs.YthpkhmbjmnhmoaaGreatDoor
set_option linter.unusedVariables false
set_option linter.unusedSimpArgs false
variable {G : Gl}
set_option maxHeartbeats 4000000
set_option maxRecDepth 10000
theorem bl_div (v k : Nat) : bl (v / 2 ^ k) = bl v - k := by
  have h : ∀ j, j < bl (v / 2 ^ k) ↔ j + k < bl v := fun j => by
    rw [bl_le, bl_le, Nat.le_div_iff_mul_le (Nat.pow_pos (by decide)), ← Nat.pow_add]
  apply Nat.le_antisymm
  · apply Nat.le_of_not_lt
    intro hl
    have := (h (bl v - k)).1 hl
    omega
  · apply Nat.le_of_not_lt
    intro hl
    have := (h (bl (v / 2 ^ k))).2 (by omega)
    omega
theorem cutP_len {v : Nat} (hv : 0 < v) {s : Int} (h : s ≤ bl v) {st : Bool} : (bl (cutP v s st).1 : Int) = bl v - s := by
  unfold cutP
  split
  · simp only []
    rw [bl_mul_pow _ _ hv]; omega
  · simp only []
    rw [bl_div]; omega
theorem upP_ge (r : Int) (n : Bool) (q : Nat) (x : Int) : q ≤ upP r n q x := by unfold upP; split <;> omega
theorem roundP_len {f p r : Int} (hf : fmOk f p = true) {n : Bool} {v : Nat} {e : Int} (hv : 0 < v) (h : 1 - gOfE f ≤ e + bl v - 1) : p ≤ bl (upP r n (cutP v (stepP f p (e + bl v - 1) - e) false).1 (cutP v (stepP f p (e + bl v - 1) - e) false).2) := by
  obtain ⟨b1, b2, b3, b4⟩ := fmOk_spec hf
  have hu : stepP f p (e + bl v - 1) = e + bl v - 1 - p + 1 := by unfold stepP; rw [if_neg (by omega)]
  have h1 := @cutP_len v hv (stepP f p (e + bl v - 1) - e) (by omega) false
  have h2 := bl_mono (upP_ge r n (cutP v (stepP f p (e + bl v - 1) - e) false).1 (cutP v (stepP f p (e + bl v - 1) - e) false).2)
  omega
/-- Too great at once. -/
theorem roundP_over {f p r : Int} (hf : fmOk f p = true) {n : Bool} {v : Nat} {e : Int} (hv : 0 < v) (h : gOfE f < e + bl v - 1) : roundP f p r n v e false = (beyP f p r n, 5) := by
  obtain ⟨b1, b2, b3, b4⟩ := fmOk_spec hf
  obtain ⟨b5, b6⟩ := gOfE_le b1 b2
  have h1 := @roundP_len f p r hf n v e hv (by omega)
  have hu : stepP f p (e + bl v - 1) = e + bl v - 1 - p + 1 := by unfold stepP; rw [if_neg (by omega)]
  unfold roundP beyP
  simp only []
  rw [if_pos (by omega)]
theorem cutP_zero {v : Nat} {s : Int} (hv : 0 < v) (h : (cutP v s false).1 = 0) : (cutP v s false).2 ≠ 0 := by
  unfold cutP at h ⊢
  split at h
  · simp only [] at h
    have := Nat.pow_pos (n := (-s).toNat) (show 0 < 2 by decide)
    have := Nat.mul_pos hv this
    omega
  · rename_i hs
    rw [if_neg hs]
    simp only [] at h ⊢
    have e1 : s.toNat = (s - 1).toNat + 1 := by omega
    rw [e1, Nat.pow_succ] at h
    have hlt : v < 2 ^ (s - 1).toNat * 2 := by
      rcases Nat.div_eq_zero_iff.1 h with h | h
      · have := Nat.pow_pos (n := (s - 1).toNat) (show 0 < 2 by decide); omega
      · exact h
    split
    · split <;> decide
    · rename_i h2
      have h3 : v / 2 ^ (s - 1).toNat < 2 := by
        rw [Nat.div_lt_iff_lt_mul (Nat.pow_pos (by decide)), Nat.mul_comm]; exact hlt
      have h4 : v / 2 ^ (s - 1).toNat = 0 := by
        generalize v / 2 ^ (s - 1).toNat = w at h2 h3 ⊢
        omega
      have h5 : v < 2 ^ (s - 1).toNat := by
        rcases Nat.div_eq_zero_iff.1 h4 with h | h
        · have := Nat.pow_pos (n := (s - 1).toNat) (show 0 < 2 by decide); omega
        · exact h
      rw [Nat.mod_eq_of_lt h5]
      simp; omega
theorem Steps_does {n : Bool} {v : Nat} {e s : Int} (hb : bl v ≤ 8388608) (he : -8388608 ≤ e ∧ e ≤ 8388608) (hs : -8388600 ≤ s ∧ s ≤ 8388600) : ∃ h t, Does Tryz.prog G 95 [Rl n v e, .c (.i .i64 s)] (.v (Pt (cutP v (s - e) false).1 h t)) ∧ pcode h t = (cutP v (s - e) false).2 := by
  by_cases ha : 0 ≤ e - (s - 1)
  · obtain ⟨k, hk⟩ : ∃ k : Nat, e - (s - 1) = k := ⟨(e - (s - 1)).toNat, by omega⟩
    have hS := @Steps_up G n v e s k hk (by omega) (by omega) (by constructor <;> omega) (by constructor <;> omega)
    refine ⟨decide (v * 2 ^ k % 2 = 1), false, ?_, ?_⟩
    · suffices h : (cutP v (s - e) false).1 = v * 2 ^ k / 2 by rw [h]; exact hS
      unfold cutP
      split
      · rename_i h
        simp only []
        rw [show k = (-(s - e)).toNat + 1 by omega, Nat.pow_succ, ← Nat.mul_assoc, Nat.mul_div_cancel _ (by decide)]
      · rename_i h
        simp only []
        obtain rfl : k = 0 := by omega
        rw [show (s - e).toNat = 1 by omega]; simp
    · unfold cutP
      split
      · rename_i h
        rw [show k = (-(s - e)).toNat + 1 by omega, Nat.pow_succ, ← Nat.mul_assoc, Nat.mul_mod_left]
        rfl
      · rename_i h
        obtain rfl : k = 0 := by omega
        rw [show (s - e - 1).toNat = 0 by omega]
        simp [Nat.mod_one, pcode]
  · obtain ⟨k, hk⟩ : ∃ k : Nat, e - (s - 1) = -(k : Int) := ⟨(-(e - (s - 1))).toNat, by omega⟩
    have hS := @Steps_down G n v e s k hk (by omega) (by omega) (by omega) (by constructor <;> omega) (by constructor <;> omega)
    refine ⟨decide (v / 2 ^ k % 2 = 1), !decide (v % 2 ^ k = 0), ?_, ?_⟩
    · suffices h : (cutP v (s - e) false).1 = v / 2 ^ k / 2 by rw [h]; exact hS
      unfold cutP
      rw [if_neg (by omega)]
      simp only []
      rw [show (s - e).toNat = k + 1 by omega, Nat.pow_succ, Nat.div_div_eq_div_mul]
    · unfold cutP
      rw [if_neg (by omega), show (s - e - 1).toNat = k by omega]
      simp only [Bool.false_or]
      cases hd : decide (v % 2 ^ k = 0) <;> by_cases hq : v / 2 ^ k % 2 = 1 <;> simp [pcode, hq]
theorem Round_new {f p r : Int} (hf : fmOk f p = true) (hr : 0 ≤ r) (hr' : r ≤ 4) {n : Bool} {v : Nat} {e : Int} (hv : 0 < v) (hb : bl v ≤ 4194304) (he : -4194304 ≤ e ∧ e ≤ 4194304) : Does Tryz.prog G 51 [Fm f p, .c (.i .i64 r), Rl n v e] (.t [(roundP f p r n v e false).1.pw, .c (.i .i64 (roundP f p r n v e false).2)]) := by
  obtain ⟨b1, b2, b3, b4⟩ := fmOk_spec hf
  obtain ⟨b5, b6⟩ := gOfE_le b1 b2
  have hE := @Exponent_does G n v e hv (by omega) (by constructor <;> omega)
  rw [show (bl v : Int) - 1 + e = e + bl v - 1 by omega] at hE
  have hG := @RGreatest_does G f p hf
  have hL := @RLeast_does G f p hf
  have hB := @beyond_does G f p r n hf
  have ho := @roundP_over f p r hf n v e hv
  by_cases h : gOfE f < e + bl v - 1
  · rw [ho h]
    generalize beyP f p r n = y at *
    generalize e + (bl v : Int) - 1 = E at *
    generalize gOfE f = g at *
    refine Does.of (nt := 78) Tryz.func51 rfl rfl rfl (by simp) ?_
    simp only [argTm, PV.ext, Ce.ext]
    refine Do.seqk fun _ k1_ => ?_
    refine Do.region [1,3,5,6] true ?_
    simp [go_sem, h]
    apply k1_; clear k1_
    refine Do.seqk fun _ k2_ => ?_
    refine Do.region [1,3,5,6,8] true ?_
    simp [go_sem, h]
    repeat (refine And.intro (by first | omega | (intros; omega) | (intros; exact And.intro (by assumption) (by omega)) | grind) ?_)
    refine DoL.call true 102 rfl rfl rfl rfl (by first | exact trivial | omega | (simp; done) | (simp; omega)) (hE) rfl (by first | exact .inl rfl | exact .inr rfl) rfl ?_
    simp [go_sem, h]
    apply k2_; clear k2_
    refine Do.seqk fun _ k3_ => ?_
    refine Do.seqk fun _ k4_ => ?_
    refine Do.region [1,3,5,6,8,18] true ?_
    simp [go_sem, h]
    repeat (refine And.intro (by first | omega | (intros; omega) | (intros; exact And.intro (by assumption) (by omega)) | grind) ?_)
    refine DoL.call true 203 rfl rfl rfl rfl (by first | exact trivial | omega | (simp; done) | (simp; omega)) (hG) rfl (by first | exact .inl rfl | exact .inr rfl) rfl ?_
    simp [go_sem, h]
    apply k4_; clear k4_
    refine Do.cond [1,3,5,6,8] rfl (fun h1 => ?_) (fun h1 => ?_) <;> simp [go_sem, h] at h1 ⊢
    refine Do.seqk fun _ k5_ => ?_
    refine Do.region [6,7] true ?_
    simp [go_sem, h]
    repeat (refine And.intro (by first | omega | (intros; omega) | (intros; exact And.intro (by assumption) (by omega)) | grind) ?_)
    refine DoL.call true 305 rfl rfl rfl rfl (by first | exact trivial | omega | (simp; done) | (simp; omega)) (hB) rfl (by first | exact .inl rfl | exact .inr rfl) rfl ?_
    simp [go_sem, h]
    repeat (refine And.intro (by first | omega | (intros; omega) | (intros; exact And.intro (by assumption) (by omega)) | grind) ?_)
    apply k5_; clear k5_
    refine Do.ret ?_
    simp [endQ, rets, ret1, go_sem, h]
    repeat (refine And.intro (by first | omega | (intros; omega) | (intros; exact And.intro (by assumption) (by omega)) | grind) ?_)
    exact TLe.refl _
  · have hu : -100000 ≤ stepP f p (e + bl v - 1) ∧ stepP f p (e + bl v - 1) ≤ 5000000 := by unfold stepP; split <;> omega
    have hlen := @roundP_len f p r hf n v e hv
    have hcz := @cutP_zero v (stepP f p (e + bl v - 1) - e) hv
    obtain ⟨hh, tt, hS, hcode⟩ := @Steps_does G n v e (stepP f p (e + bl v - 1)) (by omega) (by constructor <;> omega) (by constructor <;> omega)
    have hcl := cutP_bl v (stepP f p (e + bl v - 1) - e) false
    have hR := @Rounded_does G r hr hr' n hh tt (cutP v (stepP f p (e + bl v - 1) - e) false).1 (by omega)
    have hge := upP_ge r n (cutP v (stepP f p (e + bl v - 1) - e) false).1 (cutP v (stepP f p (e + bl v - 1) - e) false).2
    have hql := upP_bl r n (cutP v (stepP f p (e + bl v - 1) - e) false).1 (cutP v (stepP f p (e + bl v - 1) - e) false).2
    have hstep : stepP f p (e + bl v - 1) = (if e + bl v - 1 < 1 - gOfE f then 1 - gOfE f else e + bl v - 1) - p + 1 := by unfold stepP; split <;> omega
    rw [hcode] at hR
    generalize hz : roundP f p r n v e false = z
    unfold roundP at hz
    simp only [] at hz
    generalize stepP f p (e + bl v - 1) = u at *
    generalize hq : upP r n (cutP v (u - e) false).1 (cutP v (u - e) false).2 = q at *
    have hqn : (nat q).length ≤ 16777216 := nat_len_of (by omega)
    have hQ := @RLen_does G (nat q) (by omega) (nat_ws _)
    have hZ := @IsZero_does G (nat q) (by omega) (nat_ws _)
    have hC := @Canonical_new G 1 u n (nat q) (by omega) (nat_ws _) (by constructor <;> omega)
    rw [val_nat] at hQ hZ hC
    generalize cutP v (u - e) false = c at *
    have hbey : beyP f p r n = if grP r n then ⟨1, n, gOfE f - p + 1, 2 ^ p.toNat - 1⟩ else ⟨2, n, 0, 0⟩ := rfl
    generalize e + (bl v : Int) - 1 = E at *
    generalize gOfE f = g at *
    generalize beyP f p r n = y at *
    refine Does.of (nt := 78) Tryz.func51 rfl rfl rfl (by simp) ?_
    simp only [argTm, PV.ext, Ce.ext]
    refine Do.seqk fun _ k1_ => ?_
    refine Do.region [1,3,5,6] true ?_
    simp [go_sem, h]
    apply k1_; clear k1_
    refine Do.seqk fun _ k2_ => ?_
    refine Do.region [1,3,5,6,8] true ?_
    simp [go_sem, h]
    repeat (refine And.intro (by first | omega | (intros; omega) | (intros; exact And.intro (by assumption) (by omega)) | grind) ?_)
    refine DoL.call true 102 rfl rfl rfl rfl (by first | exact trivial | omega | (simp; done) | (simp; omega)) (hE) rfl (by first | exact .inl rfl | exact .inr rfl) rfl ?_
    simp [go_sem, h]
    apply k2_; clear k2_
    refine Do.seqk fun _ k3_ => ?_
    refine Do.seqk fun _ k4_ => ?_
    refine Do.region [1,3,5,6,8,18] true ?_
    simp [go_sem, h]
    repeat (refine And.intro (by first | omega | (intros; omega) | (intros; exact And.intro (by assumption) (by omega)) | grind) ?_)
    refine DoL.call true 203 rfl rfl rfl rfl (by first | exact trivial | omega | (simp; done) | (simp; omega)) (hG) rfl (by first | exact .inl rfl | exact .inr rfl) rfl ?_
    simp [go_sem, h]
    apply k4_; clear k4_
    refine Do.cond [1,3,5,6,8] rfl (fun h1 => ?_) (fun h1 => ?_) <;> simp [go_sem, h] at h1 ⊢
    refine Do.skip ?_
    simp [go_sem]
    apply k3_; clear k3_
    refine Do.seqk fun _ k5_ => ?_
    refine Do.draw [1,3,5,6,8,9] true (by kernel_rfl) ?_
    simp [go_sem, h]
    repeat (refine And.intro (by first | omega | (intros; omega) | (intros; exact And.intro (by assumption) (by omega)) | kernel_rfl | grind) ?_)
    refine DoLD.call true 403 rfl rfl rfl rfl (by first | exact trivial | omega | (simp; done) | (simp; omega)) (hL) rfl (by first | exact .inl rfl | exact .inr rfl) rfl ?_
    simp [go_sem, h]
    repeat (refine And.intro (by first | omega | (intros; omega) | (intros; exact And.intro (by assumption) (by omega)) | kernel_rfl | grind) ?_)
    rw [← hstep]
    try (refine And.intro (by kernel_rfl) ?_)
    apply k5_; clear k5_
    refine Do.seqk fun _ k6_ => ?_
    refine Do.draw [1,3,5,6,8,9,10,11] true (by kernel_rfl) ?_
    simp [go_sem, h]
    repeat (refine And.intro (by first | omega | (intros; omega) | (intros; exact And.intro (by assumption) (by omega)) | kernel_rfl | grind) ?_)
    refine DoLD.call true 506 rfl rfl rfl rfl (by first | exact trivial | omega | (simp; done) | (simp; omega)) (hS) rfl (by first | exact .inl rfl | exact .inr rfl) rfl ?_
    simp [go_sem, h]
    refine DoLD.call true 507 rfl rfl rfl rfl (by first | exact trivial | omega | (simp; done) | (simp; omega)) (hR) rfl (by first | exact .inl rfl | exact .inr rfl) rfl ?_
    simp [go_sem, h]
    try (refine And.intro (by kernel_rfl) ?_)
    apply k6_; clear k6_
    refine Do.seqk fun _ k7_ => ?_
    refine Do.block ?_
    refine Do.seqk fun _ k8_ => ?_
    refine Do.draw [1,3,5,6,8,9,10,11,42] true (by kernel_rfl) ?_
    simp [go_sem, h]
    refine DoLD.call true 602 rfl rfl rfl rfl (by first | exact trivial | omega | (simp; done) | (simp; omega)) (hQ) rfl (by first | exact .inl rfl | exact .inr rfl) rfl ?_
    simp [go_sem, h]
    repeat (refine And.intro (by first | omega | (intros; omega) | (intros; exact And.intro (by assumption) (by omega)) | kernel_rfl | grind) ?_)
    refine DoLD.call true 606 rfl rfl rfl rfl (by first | exact trivial | omega | (simp; done) | (simp; omega)) (hG) rfl (by first | exact .inl rfl | exact .inr rfl) rfl ?_
    simp [go_sem, h]
    repeat (refine And.intro (by first | omega | (intros; omega) | (intros; exact And.intro (by assumption) (by omega)) | kernel_rfl | grind) ?_)
    try (refine And.intro (by kernel_rfl) ?_)
    apply k8_; clear k8_
    refine Do.cond [1,3,5,6,8,9,10,11] rfl (fun h2 => ?_) (fun h2 => ?_) <;> simp [go_sem, h] at h2 ⊢
    · refine Do.seqk fun _ k9_ => ?_
      refine Do.region [6,7] true ?_
      simp [go_sem, h]
      repeat (refine And.intro (by first | omega | (intros; omega) | (intros; exact And.intro (by assumption) (by omega)) | grind) ?_)
      refine DoL.call true 705 rfl rfl rfl rfl (by first | exact trivial | omega | (simp; done) | (simp; omega)) (hB) rfl (by first | exact .inl rfl | exact .inr rfl) rfl ?_
      simp [go_sem, h]
      repeat (refine And.intro (by first | omega | (intros; omega) | (intros; exact And.intro (by assumption) (by omega)) | grind) ?_)
      apply k9_; clear k9_
      refine Do.ret ?_
      simp [endQ, rets, ret1, go_sem, h]
      repeat (refine And.intro (by first | omega | (intros; omega) | (intros; exact And.intro (by assumption) (by omega)) | grind) ?_)
      rw [← hz, if_pos (by omega), ← hbey]
      exact TLe.refl _
    · refine Do.seqk fun _ k10_ => ?_
      refine Do.region [3,5,6,8,9,10,11,56] true ?_
      simp [go_sem, h]
      refine DoL.call true 802 rfl rfl rfl rfl (by first | exact trivial | omega | (simp; done) | (simp; omega)) (hZ) rfl (by first | exact .inl rfl | exact .inr rfl) rfl ?_
      simp [go_sem, h]
      apply k10_; clear k10_
      refine Do.cond [3,5,6,8,9,10,11] rfl (fun h3 => ?_) (fun h3 => ?_) <;> simp [go_sem, h] at h3 ⊢
      · refine Do.seqk fun _ k11_ => ?_
        refine Do.region [6,7] true ?_
        simp [go_sem, h]
        repeat (refine And.intro (by first | omega | (intros; omega) | (intros; exact And.intro (by assumption) (by omega)) | grind) ?_)
        apply k11_; clear k11_
        refine Do.ret ?_
        simp [endQ, rets, ret1, go_sem, h]
        repeat (refine And.intro (by first | omega | (intros; omega) | (intros; exact And.intro (by assumption) (by omega)) | grind) ?_)
        have hE0 : E < 1 - g := by
          apply Classical.byContradiction
          intro hn
          have := hlen (by omega)
          rw [h3, bl_zero] at this
          omega
        rw [← hz, if_neg (by omega), if_neg (hcz (by omega)), if_pos hE0, h3, mkP, if_pos rfl]
        exact TLe.t (.cons (PLe.flw (ret_zw rfl)) (.cons (PLe.refl _) .nil))
      · have hrc : rcanon ⟨1, n, u, q⟩ = mkP n q u := by simp [rcanon, mkP, h3]
        rw [hrc] at hC
        rw [if_neg (show ¬ g < u + bl q - 1 by omega)] at hz
        refine Do.skip ?_
        simp [go_sem]
        apply k7_; clear k7_
        refine Do.seqk fun _ k12_ => ?_
        refine Do.region [3,6,8,11,12] true ?_
        simp [go_sem, h]
        repeat (refine And.intro (by first | omega | (intros; omega) | (intros; exact And.intro (by assumption) (by omega)) | grind) ?_)
        refine DoL.call true 1006 rfl rfl rfl rfl (by first | exact trivial | omega | (simp; done) | (simp; omega)) (hC) rfl (by first | exact .inl rfl | exact .inr rfl) rfl ?_
        simp [go_sem, h]
        repeat (refine And.intro (by first | omega | (intros; omega) | (intros; exact And.intro (by assumption) (by omega)) | grind) ?_)
        apply k12_; clear k12_
        refine Do.seqk fun _ k13_ => ?_
        refine Do.block ?_
        refine Do.seqk fun _ k14_ => ?_
        refine Do.region [3,6,8,12,68] true ?_
        simp [go_sem, h]
        apply k14_; clear k14_
        refine Do.cond [3,6,8,12] rfl (fun h4 => ?_) (fun h4 => ?_) <;> simp [go_sem, h] at h4 ⊢
        · refine Do.seqk fun _ k15_ => ?_
          refine Do.region [6,7] true ?_
          simp [go_sem, h]
          repeat (refine And.intro (by first | omega | (intros; omega) | (intros; exact And.intro (by assumption) (by omega)) | grind) ?_)
          apply k15_; clear k15_
          refine Do.ret ?_
          simp [endQ, rets, ret1, go_sem, h]
          repeat (refine And.intro (by first | omega | (intros; omega) | (intros; exact And.intro (by assumption) (by omega)) | grind) ?_)
          rw [← hz, if_pos h4]
          exact TLe.refl _
        · refine Do.seqk fun _ k16_ => ?_
          refine Do.region [6,12,71] true ?_
          simp [go_sem, h]
          repeat (refine And.intro (by first | omega | (intros; omega) | (intros; exact And.intro (by assumption) (by omega)) | grind) ?_)
          refine DoL.call true 1303 rfl rfl rfl rfl (by first | exact trivial | omega | (simp; done) | (simp; omega)) (hL) rfl (by first | exact .inl rfl | exact .inr rfl) rfl ?_
          simp [go_sem, h]
          apply k16_; clear k16_
          refine Do.cond [6,12] rfl (fun h5 => ?_) (fun h5 => ?_) <;> simp [go_sem, h] at h5 ⊢
          · refine Do.seqk fun _ k17_ => ?_
            refine Do.region [6,7] true ?_
            simp [go_sem, h]
            repeat (refine And.intro (by first | omega | (intros; omega) | (intros; exact And.intro (by assumption) (by omega)) | grind) ?_)
            apply k17_; clear k17_
            refine Do.ret ?_
            simp [endQ, rets, ret1, go_sem, h]
            repeat (refine And.intro (by first | omega | (intros; omega) | (intros; exact And.intro (by assumption) (by omega)) | grind) ?_)
            rw [← hz, if_neg h4, if_pos h5]
            exact TLe.refl _
          · refine Do.skip ?_
            simp [go_sem]
            apply k13_; clear k13_
            refine Do.seqk fun _ k18_ => ?_
            refine Do.region [6,7] true ?_
            simp [go_sem, h]
            repeat (refine And.intro (by first | omega | (intros; omega) | (intros; exact And.intro (by assumption) (by omega)) | grind) ?_)
            apply k18_; clear k18_
            refine Do.ret ?_
            simp [endQ, rets, ret1, go_sem, h]
            repeat (refine And.intro (by first | omega | (intros; omega) | (intros; exact And.intro (by assumption) (by omega)) | grind) ?_)
            rw [← hz, if_neg h4, if_neg (by omega)]
            exact TLe.refl _
end Go.Proofs.YthpkhmbjmnhmoaaGreatDoor
/- Canonical floats, counted. No condition. -/
namespace Go.Proofs.YthpkhmbjmnhmoaaGreatDoor
set_option linter.unusedVariables false
set_option linter.unusedSimpArgs false
variable {G : Gl}
set_option maxHeartbeats 4000000
set_option maxRecDepth 10000
/-- How many floats are of a kind and a sign. -/
def cnt (k : Int) (n : Bool) : List Flt → Nat
  | [] => 0
  | x :: l => (if x.k = k ∧ x.n = n then 1 else 0) + cnt k n l
theorem cnt_append (k : Int) (n : Bool) (l m : List Flt) : cnt k n (l ++ m) = cnt k n l + cnt k n m := by
  induction l with
  | nil => simp [cnt]
  | cons x l ih => simp only [List.cons_append, cnt, ih]; omega
theorem cnt_take {k : Int} {n : Bool} {l : List Flt} {i : Nat} {x : Flt} (h : l[i]? = some x) : cnt k n (l.take (i + 1)) = cnt k n (l.take i) + if x.k = k ∧ x.n = n then 1 else 0 := by
  rw [List.take_add_one, h, cnt_append]; simp [cnt]
theorem cnt_le (k : Int) (n : Bool) (l : List Flt) : cnt k n l ≤ l.length := by
  induction l with
  | nil => simp [cnt]
  | cons x l ih => simp only [cnt, List.length_cons]; split <;> omega
theorem count_does {l : List Flt} {k : Int} (hl : l.length < 1099511627776) : Does Tryz.prog G 88 [.s false (l.map Flt.cs), .c (.i .i64 k)] (.t [.c (.i .i64 (cnt k true l)), .c (.i .i64 (cnt k false l))]) := by
  have hle := fun n i => Nat.le_trans (cnt_le k n (l.take i)) (List.length_take_le' i l)
  refine Does.of (nt := 44) Tryz.func88 rfl rfl rfl (by simp) ?_
  simp only [argTm, PV.ext, Ce.ext]
  refine Do.seqk fun _ k1_ => ?_
  refine Do.region [0,1] true ?_
  simp [go_sem]
  apply k1_; clear k1_
  refine Do.seqk fun _ k2_ => ?_
  refine Do.region [0,1,6,7] true ?_
  simp [go_sem]
  apply k2_; clear k2_
  refine Do.seqk fun _ k3_ => ?_
  refine Do.seqk fun _ k4_ => ?_
  refine Do.region [0,1,6,7,8] true ?_
  simp [go_sem]
  apply k4_; clear k4_
  refine Do.block ?_
  refine Do.loopF [0,1,6,7,8] (fun (i : Nat) => [(6, .int .i64 (cnt k true (l.take i))), (7, .int .i64 (cnt k false (l.take i))), (8, .int .i64 i)]) (fun (i : Nat) => []) (fun (i : Nat) => i ≤ l.length) (fun (i : Nat) => l.length - i) (0) (fun _ => by first | (simp [go_sem, mixS]; done) | (simp [go_sem, mixS]; rfl)) (St.le_of (by simp [keep, cnt]) rfl) (Nat.zero_le _) ?_
  intro i hi
  refine Do.seqk fun _ k5_ => ?_
  refine Do.seqk fun _ k6_ => ?_
  refine Do.region [0,1,6,7,8,12] true ?_
  simp [go_sem]
  repeat (refine And.intro (by first | omega | (intros; omega) | (intros; exact And.intro (by assumption) (by omega)) | grind) ?_)
  apply k6_; clear k6_
  refine Do.cond [0,1,6,7,8] rfl (fun h => ?_) (fun h => ?_) <;> simp [go_sem] at h ⊢
  · obtain ⟨x, hx⟩ : ∃ x, l[i]? = some x := ⟨_, List.getElem?_eq_getElem h⟩
    have ht := @cnt_take k true l i x hx
    have hf := @cnt_take k false l i x hx
    have b1 := hle true i
    have b2 := hle false i
    refine Do.skip ?_
    simp [go_sem]
    apply k5_; clear k5_
    refine Do.seqk fun _ k7_ => ?_
    refine Do.block ?_
    refine Do.block ?_
    refine Do.seqk fun _ k8_ => ?_
    refine Do.region [0,1,6,7,8,15] true ?_
    simp [go_sem, hx]
    repeat (refine And.intro (by first | omega | (intros; omega) | (intros; exact And.intro (by assumption) (by omega)) | grind) ?_)
    apply k8_; clear k8_
    refine Do.cond [0,1,6,7,8] rfl (fun h1 => ?_) (fun h1 => ?_) <;> simp [go_sem, hx] at h1 ⊢
    · rw [if_pos h1] at ht
      rw [if_neg (by simp [h1.2])] at hf
      refine Do.region [0,1,6,7,8] true ?_
      simp [go_sem, hx]
      repeat (refine And.intro (by first | omega | (intros; omega) | (intros; exact And.intro (by assumption) (by omega)) | grind) ?_)
      apply k7_; clear k7_
      refine Do.region [0,1,6,7,8] true ?_
      simp [go_sem, hx]
      repeat (refine And.intro (by first | omega | (intros; omega) | (intros; exact And.intro (by assumption) (by omega)) | grind) ?_)
      refine ⟨i + 1, St.le_of (by simp [keep, ht, hf]) rfl, by omega, by simp; omega⟩
    · refine Do.seqk fun _ k9_ => ?_
      refine Do.region [0,1,6,7,8,32] true ?_
      simp [go_sem, hx]
      repeat (refine And.intro (by first | omega | (intros; omega) | (intros; exact And.intro (by assumption) (by omega)) | grind) ?_)
      apply k9_; clear k9_
      refine Do.cond [0,1,6,7,8] rfl (fun h2 => ?_) (fun h2 => ?_) <;> simp [go_sem, hx] at h2 ⊢
      · rw [if_neg (by simpa using h1)] at ht
        rw [if_pos (by simpa [h2] using h1)] at hf
        refine Do.region [0,1,6,7,8] true ?_
        simp [go_sem, hx]
        repeat (refine And.intro (by first | omega | (intros; omega) | (intros; exact And.intro (by assumption) (by omega)) | grind) ?_)
        apply k7_; clear k7_
        refine Do.region [0,1,6,7,8] true ?_
        simp [go_sem, hx]
        repeat (refine And.intro (by first | omega | (intros; omega) | (intros; exact And.intro (by assumption) (by omega)) | grind) ?_)
        refine ⟨i + 1, St.le_of (by simp [keep, ht, hf]) rfl, by omega, by simp; omega⟩
      · rw [if_neg (by simp [h2])] at ht
        rw [if_neg (by simp [h2])] at hf
        refine Do.skip ?_
        simp [go_sem]
        apply k7_; clear k7_
        refine Do.region [0,1,6,7,8] true ?_
        simp [go_sem, hx]
        repeat (refine And.intro (by first | omega | (intros; omega) | (intros; exact And.intro (by assumption) (by omega)) | grind) ?_)
        refine ⟨i + 1, St.le_of (by simp [keep, ht, hf]) rfl, by omega, by simp; omega⟩
  · refine Do.exit ?_
    simp [go_sem]
    apply k3_; clear k3_
    refine Do.seqk fun _ k10_ => ?_
    refine Do.region [4,5] true ?_
    simp [go_sem]
    apply k10_; clear k10_
    refine Do.ret ?_
    simp [endQ, rets, ret1, go_sem]
    repeat (refine And.intro (by first | omega | (intros; omega) | (intros; exact And.intro (by assumption) (by omega)) | grind) ?_)
    rw [List.take_of_length_le (by omega)]
    exact TLe.refl _
theorem canonical17_does {l : List Fla} (hl : l.length < 1099511627776) (ho : ∀ x ∈ l, x.m.length ≤ 1073741824 ∧ Ws x.m ∧ Md x.e) : Does Tryz.prog G 87 [Rows l] (.v (.s true ((l.map fun x => rcanon x.flt).map Flt.cs))) := by
  obtain ⟨L, hL⟩ : ∃ L, L = l.map fun x => rcanon x.flt := ⟨_, rfl⟩
  have hll : L.length = l.length := by rw [hL]; simp
  rw [← hL]
  have hget : ∀ (i : Nat) (x : Fla), l[i]? = some x → L[i]? = some (rcanon x.flt) := fun i x h => by rw [hL]; simp [h]
  clear hL
  refine Does.of (nt := 20) Tryz.func87 rfl rfl rfl (by simp) ?_
  simp only [argTm, PV.ext, Ce.ext]
  refine Do.seqk fun _ k1_ => ?_
  refine Do.region [0] true ?_
  simp [go_sem]
  apply k1_; clear k1_
  refine Do.seqk fun _ k2_ => ?_
  refine Do.region [0,3] true ?_
  simp [go_sem]
  apply k2_; clear k2_
  refine Do.seqk fun _ k3_ => ?_
  refine Do.seqk fun _ k4_ => ?_
  refine Do.region [0,3,4] true ?_
  simp [go_sem]
  apply k4_; clear k4_
  refine Do.block ?_
  refine Do.own 3 900 4 rfl rfl (by decide) ?_
  simp [go_sem]
  refine Do.loopF [0,3,4] (fun (i : Nat) => [(3, .v (.c (.r 900 i))), (4, .int .i64 i)]) (fun (i : Nat) => [(900, .sr 4 ((L.map Flt.cs).take i))]) (fun (i : Nat) => i ≤ l.length) (fun (i : Nat) => l.length - i) (0) (fun _ => by first | (simp [go_sem, mixS]; done) | (simp [go_sem, mixS]; rfl)) (St.le_of (by first | rfl | simp [keep]) (by first | rfl | simp [keep])) (Nat.zero_le _) ?_
  intro i hi
  refine Do.seqk fun _ k5_ => ?_
  refine Do.seqk fun _ k6_ => ?_
  refine Do.region [0,3,4,8] true ?_
  simp [go_sem]
  repeat (refine And.intro (by first | omega | (intros; omega) | (intros; exact And.intro (by assumption) (by omega)) | grind) ?_)
  apply k6_; clear k6_
  refine Do.cond [0,3,4] rfl (fun h2 => ?_) (fun h2 => ?_) <;> simp [go_sem] at h2 ⊢
  · obtain ⟨x, hx⟩ : ∃ x, l[i]? = some x := ⟨_, List.getElem?_eq_getElem h2⟩
    have hmin : min i L.length = i := by omega
    have hg := hget i x hx
    have hxo := ho x (List.mem_of_getElem? hx)
    have hC := @Canonical_does G x.k x.e x.n x.m hxo.1 hxo.2.1 hxo.2.2
    have hC : Does Tryz.prog G 73 [Fl x.k x.n x.e x.m] (.v (rcanon x.flt).pv) := hC
    refine Do.skip ?_
    simp [go_sem]
    apply k5_; clear k5_
    refine Do.seqk fun _ k7_ => ?_
    refine Do.block ?_
    refine Do.region [0,3,4] true ?_
    simp [go_sem, hx, hmin]
    repeat (refine And.intro (by first | omega | (intros; omega) | (intros; exact And.intro (by assumption) (by omega)) | grind) ?_)
    refine DoL.call true 506 rfl rfl rfl rfl (by first | exact trivial | omega | (simp; done) | (simp; omega)) (hC) rfl (by first | exact .inl rfl | exact .inr rfl) rfl ?_
    simp [go_sem, hx, hmin]
    repeat (refine And.intro (by first | omega | (intros; omega) | (intros; exact And.intro (by assumption) (by omega)) | grind) ?_)
    apply k7_; clear k7_
    refine Do.region [0,3,4] true ?_
    simp [go_sem, hx, hmin]
    repeat (refine And.intro (by first | omega | (intros; omega) | (intros; exact And.intro (by assumption) (by omega)) | grind) ?_)
    refine ⟨i + 1, St.le_of rfl (by simp [keep, List.take_add_one, hg]), by omega, by simp; omega⟩
  · refine Do.exit ?_
    simp [go_sem]
    apply k3_; clear k3_
    refine Do.seqk fun _ k8_ => ?_
    refine Do.region [2] true ?_
    simp [go_sem]
    apply k8_; clear k8_
    refine Do.ret ?_
    simp [endQ, rets, ret1, go_sem]
    repeat (refine And.intro (by first | omega | (intros; omega) | (intros; exact And.intro (by assumption) (by omega)) | grind) ?_)
    have e : i = l.length := by omega
    rw [List.take_of_length_le (by simp; omega)]
    exact TLe.refl _
end Go.Proofs.YthpkhmbjmnhmoaaGreatDoor
/- The exact sum of floats. No condition. -/
namespace Go.Proofs.YthpkhmbjmnhmoaaGreatDoor
set_option linter.unusedVariables false
set_option linter.unusedSimpArgs false
variable {G : Gl}
set_option maxHeartbeats 4000000
set_option maxRecDepth 10000
/-- The least exponent so far, and whether there is one. -/
def lowStep (a : Int × Bool) (x : Flt) : Int × Bool := if x.k = 1 ∧ (a.2 = false ∨ x.e < a.1) then (x.e, true) else a
def lows (l : List Flt) : Int × Bool := l.foldl lowStep (0, false)
theorem lows_take {l : List Flt} {i : Nat} {x : Flt} (h : l[i]? = some x) : lows (l.take (i + 1)) = lowStep (lows (l.take i)) x := by
  unfold lows
  rw [List.take_add_one, h]; simp
theorem lows_le {l : List Flt} (i : Nat) : (∀ x ∈ l.take i, x.k = 1 → (lows (l.take i)).2 = true ∧ (lows (l.take i)).1 ≤ x.e) := by
  induction i with
  | zero => simp
  | succ i ih =>
    cases hx : l[i]? with
    | none =>
      have hl : l.length ≤ i := List.getElem?_eq_none_iff.1 hx
      rw [List.take_of_length_le (by omega)] at ih ⊢
      exact ih
    | some x =>
      rw [lows_take hx]
      intro y hy hk
      rw [List.take_add_one, hx] at hy
      simp only [Option.toList_some, List.mem_append, List.mem_singleton] at hy
      generalize lows (l.take i) = a at *
      unfold lowStep
      split
      · rename_i hc
        rcases hy with hy | rfl
        · have := ih y hy hk
          refine ⟨rfl, ?_⟩
          simp only []
          rcases hc.2 with h | h
          · rw [this.1] at h; cases h
          · omega
        · exact ⟨rfl, Int.le_refl _⟩
      · rename_i hc
        rcases hy with hy | rfl
        · exact ih y hy hk
        · by_cases h2 : a.2 = false
          · exact absurd ⟨hk, .inl h2⟩ hc
          · refine ⟨by simpa using h2, ?_⟩
            apply Classical.byContradiction
            intro h3
            exact hc ⟨hk, .inr (by omega)⟩
theorem lows_in {l : List Flt} {B : Int} (hB : 0 ≤ B) (h : ∀ x ∈ l, x.k = 1 → -B ≤ x.e ∧ x.e ≤ B) (i : Nat) : -B ≤ (lows (l.take i)).1 ∧ (lows (l.take i)).1 ≤ B := by
  induction i with
  | zero => simp [lows]; omega
  | succ i ih =>
    cases hx : l[i]? with
    | none =>
      have hl : l.length ≤ i := List.getElem?_eq_none_iff.1 hx
      rw [List.take_of_length_le (by omega)] at ih ⊢
      exact ih
    | some x =>
      rw [lows_take hx]
      have := h x (List.mem_of_getElem? hx)
      generalize lows (l.take i) = a at *
      unfold lowStep
      split
      · rename_i hc; exact this hc.1
      · exact ih
theorem svs_bound {z : Int} {M : Nat} : ∀ {l : List Flt}, (∀ x ∈ l, x.k = 1 → x.v * 2 ^ (x.e - z).toNat ≤ M) → (svs z l).natAbs ≤ l.length * M
  | [], _ => by simp [svs]
  | x :: l, h => by
    have ih := svs_bound (l := l) fun y hy => h y (List.mem_cons_of_mem _ hy)
    have hx := h x (by simp)
    simp only [svs, List.length_cons, Nat.add_mul, Nat.one_mul]
    split
    · rename_i hk
      have := hx hk
      unfold Nu.sv
      simp only []
      generalize x.v * 2 ^ (x.e - z).toNat = w at *
      generalize l.length * M = y at *
      split <;> omega
    · generalize l.length * M = y at *
      omega
theorem svs_take {z : Int} {l : List Flt} {i : Nat} {x : Flt} (h : l[i]? = some x) : svs z (l.take (i + 1)) = svs z (l.take i) + if x.k = 1 then (⟨x.n, x.v, x.e⟩ : Nu).sv z else 0 := by
  rw [List.take_add_one, h, svs_append]; simp [svs]
theorem len_bl {v k : Nat} (h : bl v ≤ k) : (nat v).length ≤ (k + 63) / 64 := by rw [natlen]; omega
/-- Bounds under which exact sums stay small. -/
def Tame (l : List Flt) : Prop := l.length < 1099511627776 ∧ ∀ x ∈ l, (x.k = 1 → -1048576 ≤ x.e ∧ x.e ≤ 1048576 ∧ bl x.v ≤ 1048576)
theorem Tame.term {l : List Flt} (h : Tame l) {z : Int} (hz : -1048576 ≤ z) {x : Flt} (hx : x ∈ l) (hk : x.k = 1) (hze : z ≤ x.e) : bl (x.v * 2 ^ (x.e - z).toNat) ≤ 3145728 := by
  obtain ⟨h1, h2, h3⟩ := h.2 x hx hk
  by_cases h0 : x.v = 0
  · rw [h0]; simp [bl_zero]
  · rw [bl_mul_pow _ _ (by omega)]; omega
theorem Tame.sum {l : List Flt} (h : Tame l) {z : Int} (hz : -1048576 ≤ z) (hl : ∀ x ∈ l, x.k = 1 → z ≤ x.e) (i : Nat) : bl (svs z (l.take i)).natAbs ≤ 3145768 := by
  obtain ⟨K, hK⟩ : ∃ K, K = 3145728 := ⟨_, rfl⟩
  have hb := @svs_bound z (2 ^ K) (l.take i) fun x hx hk => Nat.le_of_lt ((bl_lt _ _).1 (by rw [hK]; exact h.term hz (List.mem_of_mem_take hx) hk (hl x (List.mem_of_mem_take hx) hk)))
  have h1 : (l.take i).length < 2 ^ 40 := Nat.lt_of_le_of_lt (List.length_take_le' i l) h.1
  have h2 : bl (svs z (l.take i)).natAbs ≤ 40 + K := by
    rw [bl_lt]
    refine Nat.lt_of_le_of_lt hb ?_
    rw [Nat.pow_add]
    exact Nat.mul_lt_mul_of_pos_right h1 (Nat.pow_pos (by decide))
  omega
theorem Exactly_does {l : List Flt} (ht : Tame l) : Does Tryz.prog G 89 [.s false (l.map Flt.cs)] (.t [Iv (svs (lows l).1 l), .c (.i .i64 (lows l).1)]) := by
  have hlen := ht.1
  have hin := fun i => @lows_in l 1048576 (by omega) (fun x hx hk => ⟨(ht.2 x hx hk).1, (ht.2 x hx hk).2.1⟩) i
  have hz := hin l.length
  rw [List.take_length] at hz
  have hle := @lows_le l l.length
  rw [List.take_length] at hle
  have hle : ∀ x ∈ l, x.k = 1 → (lows l).1 ≤ x.e := fun x hx hk => (hle x hx hk).2
  have hsum := fun i => ht.sum hz.1 hle i
  have hF := @IFrom_does G 0 (by decide)
  refine Does.of (nt := 75) Tryz.func89 rfl rfl rfl (by simp) ?_
  simp only [argTm, PV.ext, Ce.ext]
  refine Do.seqk fun _ k1_ => ?_
  refine Do.region [0,2] true ?_
  simp [go_sem]
  apply k1_; clear k1_
  refine Do.seqk fun _ k2_ => ?_
  refine Do.region [0,2,4,5] true ?_
  simp [go_sem]
  apply k2_; clear k2_
  refine Do.seqk fun _ k3_ => ?_
  refine Do.seqk fun _ k4_ => ?_
  refine Do.region [0,2,4,5,6] true ?_
  simp [go_sem]
  apply k4_; clear k4_
  refine Do.block ?_
  refine Do.loopF [0,2,4,5,6] (fun (i : Nat) => [(4, .int .i64 (lows (l.take i)).1), (5, .v (.c (.b (lows (l.take i)).2))), (6, .int .i64 i)]) (fun (i : Nat) => []) (fun (i : Nat) => i ≤ l.length) (fun (i : Nat) => l.length - i) (0) (fun _ => by first | (simp [go_sem, mixS]; done) | (simp [go_sem, mixS]; rfl)) (St.le_of (by simp [keep, lows]) rfl) (Nat.zero_le _) ?_
  intro i hi
  refine Do.seqk fun _ k5_ => ?_
  refine Do.seqk fun _ k6_ => ?_
  refine Do.region [0,2,4,5,6,12] true ?_
  simp [go_sem]
  repeat (refine And.intro (by first | omega | (intros; omega) | (intros; exact And.intro (by assumption) (by omega)) | grind) ?_)
  apply k6_; clear k6_
  refine Do.cond [0,2,4,5,6] rfl (fun h => ?_) (fun h => ?_) <;> simp [go_sem] at h ⊢
  · obtain ⟨x, hx⟩ : ∃ x, l[i]? = some x := ⟨_, List.getElem?_eq_getElem h⟩
    have hs := lows_take hx
    have hi1 := hin i
    refine Do.skip ?_
    simp [go_sem]
    apply k5_; clear k5_
    refine Do.seqk fun _ k7_ => ?_
    refine Do.block ?_
    refine Do.seqk fun _ k8_ => ?_
    refine Do.region [0,2,4,5,6,33] true ?_
    simp [go_sem, hx]
    repeat (refine And.intro (by first | omega | (intros; omega) | (intros; exact And.intro (by assumption) (by omega)) | grind) ?_)
    apply k8_; clear k8_
    refine Do.cond [0,2,4,5,6] rfl (fun h1 => ?_) (fun h1 => ?_) <;> simp [go_sem, hx] at h1 ⊢
    · have hc : x.k = 1 ∧ ((lows (l.take i)).2 = false ∨ x.e < (lows (l.take i)).1) := by grind
      rw [lowStep, if_pos hc] at hs
      refine Do.region [0,2,4,5,6] true ?_
      simp [go_sem, hx]
      repeat (refine And.intro (by first | omega | (intros; omega) | (intros; exact And.intro (by assumption) (by omega)) | grind) ?_)
      apply k7_; clear k7_
      refine Do.region [0,2,4,5,6] true ?_
      simp [go_sem, hx]
      repeat (refine And.intro (by first | omega | (intros; omega) | (intros; exact And.intro (by assumption) (by omega)) | grind) ?_)
      refine ⟨i + 1, St.le_of (by simp [keep, hs]) rfl, by omega, by simp; omega⟩
    · have hc : ¬ (x.k = 1 ∧ ((lows (l.take i)).2 = false ∨ x.e < (lows (l.take i)).1)) := by grind
      rw [lowStep, if_neg hc] at hs
      refine Do.skip ?_
      simp [go_sem]
      apply k7_; clear k7_
      refine Do.region [0,2,4,5,6] true ?_
      simp [go_sem, hx]
      repeat (refine And.intro (by first | omega | (intros; omega) | (intros; exact And.intro (by assumption) (by omega)) | grind) ?_)
      refine ⟨i + 1, St.le_of (by simp [keep, hs]) rfl, by omega, by simp; omega⟩
  · obtain rfl : i = l.length := by omega
    rw [List.take_length]
    refine Do.exit ?_
    simp [go_sem]
    apply k3_; clear k3_
    refine Do.seqk fun _ k9_ => ?_
    refine Do.region [0,2,4,7] true ?_
    simp [go_sem]
    refine DoL.call true 701 rfl rfl rfl rfl (by first | exact trivial | omega | (simp; done) | (simp; omega)) (hF) rfl (by first | exact .inl rfl | exact .inr rfl) rfl ?_
    simp [go_sem]
    repeat (refine And.intro (by first | omega | (intros; omega) | (intros; exact And.intro (by assumption) (by omega)) | grind) ?_)
    apply k9_; clear k9_
    refine Do.seqk fun _ k10_ => ?_
    refine Do.seqk fun _ k11_ => ?_
    refine Do.region [0,2,4,7,8] true ?_
    simp [go_sem]
    apply k11_; clear k11_
    refine Do.block ?_
    refine Do.loopF [0,2,4,7,8] (fun (i : Nat) => [(8, .int .i64 i)]) (fun (i : Nat) => [(701, .box [.b (decide (svs (lows l).1 (l.take i) < 0)), .w false (nat (svs (lows l).1 (l.take i)).natAbs)])]) (fun (i : Nat) => i ≤ l.length) (fun (i : Nat) => l.length - i) (0) (fun _ => by first | (simp [go_sem, mixS]; done) | (simp [go_sem, mixS]; rfl)) (St.le_of (by simp [keep, svs]) (by simp [keep, svs])) (Nat.zero_le _) ?_
    intro i hi
    refine Do.seqk fun _ k12_ => ?_
    refine Do.seqk fun _ k13_ => ?_
    refine Do.region [0,2,4,7,8,43] true ?_
    simp [go_sem]
    repeat (refine And.intro (by first | omega | (intros; omega) | (intros; exact And.intro (by assumption) (by omega)) | grind) ?_)
    apply k13_; clear k13_
    refine Do.cond [0,2,4,7,8] rfl (fun h2 => ?_) (fun h2 => ?_) <;> simp [go_sem] at h2 ⊢
    · obtain ⟨x, hx⟩ : ∃ x, l[i]? = some x := ⟨_, List.getElem?_eq_getElem h2⟩
      have hxm := List.mem_of_getElem? hx
      have hs := @svs_take (lows l).1 l i x hx
      refine Do.skip ?_
      simp [go_sem]
      apply k12_; clear k12_
      refine Do.seqk fun _ k14_ => ?_
      refine Do.block ?_
      refine Do.seqk fun _ k15_ => ?_
      refine Do.region [0,2,4,7,8,51] true ?_
      simp [go_sem, hx]
      repeat (refine And.intro (by first | omega | (intros; omega) | (intros; exact And.intro (by assumption) (by omega)) | grind) ?_)
      apply k15_; clear k15_
      refine Do.cond [0,2,4,7,8] rfl (fun h3 => ?_) (fun h3 => ?_) <;> simp [go_sem, hx] at h3 ⊢
      · have hle2 := hle x hxm h3
        have hxt := ht.2 x hxm h3
        have hterm := ht.term hz.1 hxm h3 hle2
        obtain ⟨d, hd⟩ : ∃ d : Nat, x.e - (lows l).1 = d := ⟨(x.e - (lows l).1).toNat, by omega⟩
        rw [show (x.e - (lows l).1).toNat = d by omega] at hterm
        have hsm := hsum i
        have hL := @RLeft_does G (nat x.v) d (by have := len_bl hxt.2.2; omega) (nat_ws _) (by omega)
        rw [val_nat] at hL
        have hM := @IMake11_does G x.n (nat (x.v * 2 ^ d)) (by have := len_bl hterm; omega) (nat_ws _)
        rw [val_nat] at hM
        have hA := @IAdd_does G (decide (svs (lows l).1 (l.take i) < 0)) (decide (sgn x.n (x.v * 2 ^ d) < 0)) (nat (svs (lows l).1 (l.take i)).natAbs) (nat (sgn x.n (x.v * 2 ^ d)).natAbs) (by have := len_bl hsm; omega) (nat_ws _) (by rw [sgn_abs]; have := len_bl hterm; omega) (nat_ws _)
        rw [val_nat, val_nat, sgn_of, sgn_of] at hA
        rw [if_pos h3, show Nu.sv (lows l).1 ⟨x.n, x.v, x.e⟩ = sgn x.n (x.v * 2 ^ d) by rw [Nu.sv, sgn]; simp only []; rw [show (x.e - (lows l).1).toNat = d by omega]] at hs
        rw [← hs] at hA
        refine Do.draw [0,2,4,7,8] true (by kernel_rfl) ?_
        simp [go_sem, hx, hd]
        repeat (refine And.intro (by first | omega | (intros; omega) | (intros; exact And.intro (by assumption) (by omega)) | kernel_rfl | grind) ?_)
        refine DoLD.call true 1219 rfl rfl rfl rfl (by first | exact trivial | omega | (simp; done) | (simp; omega)) (hL) rfl (by first | exact .inl rfl | exact .inr rfl) rfl ?_
        simp [go_sem, hx, hd]
        refine DoLD.call true 1220 rfl rfl rfl rfl (by first | exact trivial | omega | (simp; done) | (simp; omega)) (hM) rfl (by first | exact .inl rfl | exact .inr rfl) rfl ?_
        simp [go_sem, hx, hd]
        refine DoLD.call true 1221 rfl rfl rfl rfl (by first | exact trivial | omega | (simp; done) | (simp; omega)) (hA) rfl (by first | exact .inl rfl | exact .inr rfl) rfl ?_
        simp [go_sem, hx, hd]
        repeat (refine And.intro (by first | omega | (intros; omega) | (intros; exact And.intro (by assumption) (by omega)) | kernel_rfl | grind) ?_)
        try (refine And.intro (by kernel_rfl) ?_)
        apply k14_; clear k14_
        refine Do.region [0,2,4,7,8] true ?_
        simp [go_sem, hx, hd]
        repeat (refine And.intro (by first | omega | (intros; omega) | (intros; exact And.intro (by assumption) (by omega)) | grind) ?_)
        refine ⟨i + 1, St.le_of rfl (by simp [keep]), by omega, by simp; omega⟩
      · rw [if_neg h3] at hs
        refine Do.skip ?_
        simp [go_sem]
        apply k14_; clear k14_
        refine Do.region [0,2,4,7,8] true ?_
        simp [go_sem, hx]
        repeat (refine And.intro (by first | omega | (intros; omega) | (intros; exact And.intro (by assumption) (by omega)) | grind) ?_)
        refine ⟨i + 1, St.le_of (by simp [keep]) (by simp [keep, hs]), by omega, by simp; omega⟩
    · refine Do.exit ?_
      simp [go_sem]
      apply k10_; clear k10_
      refine Do.seqk fun _ k16_ => ?_
      refine Do.region [2,3] true ?_
      simp [go_sem]
      repeat (refine And.intro (by first | omega | (intros; omega) | (intros; exact And.intro (by assumption) (by omega)) | grind) ?_)
      apply k16_; clear k16_
      refine Do.ret ?_
      simp [endQ, rets, ret1, go_sem]
      repeat (refine And.intro (by first | omega | (intros; omega) | (intros; exact And.intro (by assumption) (by omega)) | grind) ?_)
      rw [List.take_of_length_le (by omega)]
      exact TLe.refl _
end Go.Proofs.YthpkhmbjmnhmoaaGreatDoor
/- The reference's sum is the program's. No condition. -/
namespace Go.Proofs.YthpkhmbjmnhmoaaGreatDoor
set_option linter.unusedVariables false
set_option linter.unusedSimpArgs false
variable {G : Gl}
set_option maxHeartbeats 4000000
set_option maxRecDepth 10000
theorem cnt_pos (k : Int) (n : Bool) (l : List Flt) : (0 < cnt k n l) = (l.any (fun x => x.k == k && x.n == n) = true) := by
  induction l with
  | nil => simp [cnt]
  | cons x l ih =>
    simp only [cnt, List.any_cons, Bool.or_eq_true, ← ih]
    by_cases h : x.k = k ∧ x.n = n
    · simp [h]; omega
    · rw [if_neg h]
      have : (x.k == k && x.n == n) = false := by simpa using h
      simp [this]
theorem cnt_all (k : Int) (n : Bool) (l : List Flt) : (cnt k n l = l.length) = (l.all (fun x => x.k == k && x.n == n) = true) := by
  apply propext
  induction l with
  | nil => simp [cnt]
  | cons x l ih =>
    have hle := cnt_le k n l
    rw [List.all_cons, Bool.and_eq_true, ← ih, cnt, List.length_cons]
    by_cases h : x.k = k ∧ x.n = n
    · rw [if_pos h]
      have : (x.k == k && x.n == n) = true := by simpa using h
      exact ⟨fun g => ⟨this, by omega⟩, fun g => by omega⟩
    · rw [if_neg h]
      have : ¬ (x.k == k && x.n == n) = true := by simpa using h
      exact ⟨fun g => by omega, fun g => absurd g.1 this⟩
theorem svs_low {z z' : Int} (hz : z' ≤ z) : ∀ {l : List Flt}, (∀ x ∈ l, x.k = 1 → z ≤ x.e) → svs z' l = svs z l * 2 ^ (z - z').toNat
  | [], _ => by simp [svs]
  | x :: l, h => by
    have ih := svs_low hz (l := l) fun y hy => h y (List.mem_cons_of_mem _ hy)
    have hx := h x (by simp)
    simp only [svs, ih, Int.add_mul]
    congr 1
    split
    · rename_i hk
      unfold Nu.sv
      simp only []
      rw [pow_split hz (hx hk), ← Nat.mul_assoc]
      generalize x.v * 2 ^ (x.e - z).toNat = w
      split <;> simp [Int.natCast_mul, Int.neg_mul, Int.natCast_pow]
    · simp
/-- Kinds as they are; no NaN with a sign. -/
def Kinds (L : List Flt) : Prop := ∀ x ∈ L, (x.k = 0 ∨ x.k = 1 ∨ x.k = 2 ∨ x.k = 3) ∧ (x.k = 3 → x.n = false)
/-- The sum by its parts. -/
theorem float_parts {f p r : Int} {L : List Flt} (ht : Tame L) (hk : Kinds L) : (gatherP L).float f p r =
    if 0 < cnt 3 false L then (⟨3, false, 0, 0⟩, 0)
    else if 0 < cnt 2 true L ∧ 0 < cnt 2 false L then (⟨3, false, 0, 0⟩, 16)
    else if 0 < cnt 2 true L ∨ 0 < cnt 2 false L then (⟨2, decide (0 < cnt 2 true L), 0, 0⟩, 0)
    else if svs (lows L).1 L ≠ 0 then roundP f p r (decide (svs (lows L).1 L < 0)) (svs (lows L).1 L).natAbs (lows L).1 false
    else if 0 < cnt 0 true L ∧ cnt 0 true L = L.length then (⟨0, true, 0, 0⟩, 0) else if cnt 0 false L = L.length then (⟨0, false, 0, 0⟩, 0) else (⟨0, r == 4, 0, 0⟩, 0) := by
  have hlow := @lows_le L L.length
  rw [List.take_length] at hlow
  obtain ⟨z, hz⟩ : ∃ z : Int, z = if (lows L).1 < 0 then (lows L).1 else 0 := ⟨_, rfl⟩
  have hz0 : z ≤ 0 := by split at hz <;> omega
  have hz1 : z ≤ (lows L).1 := by split at hz <;> omega
  have hG := gather_is (z := z) hz0 (l := L) fun x hx hk => by have := (hlow x hx hk).2; omega
  have hsv := svs_low hz1 (l := L) fun x hx hk => (hlow x hx hk).2
  have e3 : (gatherP L).nan = decide (0 < cnt 3 false L) := by
    rw [hG.nan, Bool.eq_iff_iff, decide_eq_true_eq, cnt_pos, List.any_eq_true, List.any_eq_true]
    constructor
    · rintro ⟨x, hx, h⟩
      have h3 : x.k = 3 := by simpa using h
      exact ⟨x, hx, by simp [h3, (hk x hx).2 h3]⟩
    · rintro ⟨x, hx, h⟩
      simp at h
      exact ⟨x, hx, by simp [h.1]⟩
  have ep : (gatherP L).plus = decide (0 < cnt 2 false L) := by
    rw [hG.plus, Bool.eq_iff_iff, decide_eq_true_eq, cnt_pos]; simp
  have em : (gatherP L).minus = decide (0 < cnt 2 true L) := by
    rw [hG.minus, Bool.eq_iff_iff, decide_eq_true_eq, cnt_pos]; simp
  unfold Ga.float
  rw [e3, hG.inv, ep, em]
  by_cases c3 : 0 < cnt 3 false L
  · simp [c3]
  · by_cases cp : 0 < cnt 2 false L
    · by_cases cm : 0 < cnt 2 true L <;> simp [c3, cp, cm]
    · by_cases cm : 0 < cnt 2 true L
      · simp [c3, cp, cm]
      · simp only [c3, cp, cm, decide_false, Bool.false_and, Bool.or_self, Bool.false_or, if_false, Bool.false_eq_true, and_self, or_self, false_and]
        have hb : (gatherP L).sum.sv z = Nu.sv z ⟨decide (svs (lows L).1 L < 0), (svs (lows L).1 L).natAbs, (lows L).1⟩ := by
          rw [hG.sum, hsv]
          unfold Nu.sv
          simp only []
          generalize svs (lows L).1 L = S
          generalize ((lows L).1 - z).toNat = d
          by_cases hS : S < 0
          · rw [if_pos (by simpa using hS), Int.natCast_mul, ← Int.neg_mul, show -((S.natAbs : Nat) : Int) = S by omega, Int.natCast_pow]; rfl
          · rw [if_neg (by simpa using hS), Int.natCast_mul, show ((S.natAbs : Nat) : Int) = S by omega, Int.natCast_pow]; rfl
        rw [Nu.round_sv hG.low hz1 hb]
        unfold Nu.round
        simp only []
        by_cases hS : svs (lows L).1 L = 0
        · rw [if_pos (by omega), if_neg (by simp [hS])]
          rw [hG.seen, hG.some_, hG.other]
          have n2 : ∀ x ∈ L, x.k = 0 ∨ x.k = 1 := fun x hx => by
            rcases (hk x hx).1 with h | h | h | h
            · exact .inl h
            · exact .inr h
            · exfalso
              cases hn : x.n
              · exact cp (by rw [cnt_pos, List.any_eq_true]; exact ⟨x, hx, by simp [h, hn]⟩)
              · exact cm (by rw [cnt_pos, List.any_eq_true]; exact ⟨x, hx, by simp [h, hn]⟩)
            · exfalso
              exact c3 (by rw [cnt_pos, List.any_eq_true]; exact ⟨x, hx, by simp [h, (hk x hx).2 h]⟩)
          clear hk hG hb hsv hlow e3 ep em
          cases L with
          | nil => simp [cnt]
          | cons y l =>
            by_cases h1 : cnt 0 true (y :: l) = (y :: l).length
            · rw [if_pos ⟨by rw [h1]; simp, h1⟩]
              rw [cnt_all, List.all_eq_true] at h1
              have e1 : ((y :: l).any fun x => x.k == 1 || x.k != 2 && x.k != 3 && !x.n) = false := by
                rw [List.any_eq_false]; intro x hx; have := h1 x hx; simp at this; simp [this.1, this.2]
              have e2 : ((y :: l).any fun x => x.k == 1 || x.k != 2 && x.k != 3 && x.n) = true := by
                rw [List.any_eq_true]; have := h1 y (by simp); simp at this; exact ⟨y, by simp, by simp [this.1, this.2]⟩
              rw [e1, e2]; simp
            · rw [if_neg (fun h => h1 h.2)]
              by_cases h2 : cnt 0 false (y :: l) = (y :: l).length
              · rw [if_pos h2]
                rw [cnt_all, List.all_eq_true] at h2
                have e2 : ((y :: l).any fun x => x.k == 1 || x.k != 2 && x.k != 3 && x.n) = false := by
                  rw [List.any_eq_false]; intro x hx; have := h2 x hx; simp at this; simp [this.1, this.2]
                rw [e2]; simp
              · rw [if_neg h2]
                rw [cnt_all, List.all_eq_true] at h1 h2
                have e1 : ((y :: l).any fun x => x.k == 1 || x.k != 2 && x.k != 3 && !x.n) = true := by
                  apply Classical.byContradiction
                  intro hn
                  refine h1 fun x hx => ?_
                  rw [Bool.not_eq_true, List.any_eq_false] at hn
                  have := hn x hx
                  rcases n2 x hx with h | h <;> simp [h] at this ⊢
                  exact this
                have e2 : ((y :: l).any fun x => x.k == 1 || x.k != 2 && x.k != 3 && x.n) = true := by
                  apply Classical.byContradiction
                  intro hn
                  refine h2 fun x hx => ?_
                  rw [Bool.not_eq_true, List.any_eq_false] at hn
                  have := hn x hx
                  rcases n2 x hx with h | h <;> simp [h] at this ⊢
                  exact this
                rw [e1, e2]; simp
        · rw [if_neg (by omega), if_pos hS]
end Go.Proofs.YthpkhmbjmnhmoaaGreatDoor
/- The reference's Total. No condition. -/
namespace Go.Proofs.YthpkhmbjmnhmoaaGreatDoor
set_option linter.unusedVariables false
set_option linter.unusedSimpArgs false
variable {G : Gl}
set_option maxHeartbeats 4000000
set_option maxRecDepth 10000
theorem RTotal_new {f p r : Int} (hf : fmOk f p = true) (hr : 0 ≤ r) (hr' : r ≤ 4) {l : List Fla} (hl : l.length < 1099511627776) (ho : ∀ x ∈ l, x.m.length ≤ 1073741824 ∧ Ws x.m ∧ Md x.e) {L : List Flt} (hL : (l.map fun x => rcanon x.flt) = L) (ht : Tame L) (hk : Kinds L) : Does Tryz.prog G 46 [Fm f p, .c (.i .i64 r), Rows l] (.t [((gatherP L).float f p r).1.pw, .c (.i .i64 ((gatherP L).float f p r).2)]) := by
  have hC := @canonical17_does G l hl ho
  rw [hL] at hC
  have hn := fun k => @count_does G L k ht.1
  have hE := @Exactly_does G L ht
  have hz := float_parts (f := f) (p := p) (r := r) ht hk
  have hle3 := cnt_le 3 false L
  have hle2 := cnt_le 2 true L
  have hle1 := cnt_le 2 false L
  have hlen := ht.1
  generalize (gatherP L).float f p r = z at *
  refine Does.of (nt := 88) Tryz.func46 rfl rfl rfl (by simp) ?_
  simp only [argTm, PV.ext, Ce.ext]
  refine Do.seqk fun _ k1_ => ?_
  refine Do.region [1,2,3,6] true ?_
  simp [go_sem]
  apply k1_; clear k1_
  refine Do.seqk fun _ k2_ => ?_
  refine Do.region [1,2,3,6] true ?_
  simp [go_sem]
  refine DoL.call true 102 rfl rfl rfl rfl (by first | exact trivial | omega | (simp; done) | (simp; omega)) (hC) rfl (by first | exact .inl rfl | exact .inr rfl) rfl ?_
  simp [go_sem]
  apply k2_; clear k2_
  refine Do.seqk fun _ k3_ => ?_
  refine Do.region [1,2,3,6,9] true ?_
  simp [go_sem]
  refine DoL.call true 202 rfl rfl rfl rfl (by first | exact trivial | omega | (simp; done) | (simp; omega)) (hn 3) rfl (by first | exact .inl rfl | exact .inr rfl) rfl ?_
  simp [go_sem]
  apply k3_; clear k3_
  refine Do.seqk fun _ k4_ => ?_
  refine Do.region [1,2,3,6,9,10,11] true ?_
  simp [go_sem]
  refine DoL.call true 302 rfl rfl rfl rfl (by first | exact trivial | omega | (simp; done) | (simp; omega)) (hn 2) rfl (by first | exact .inl rfl | exact .inr rfl) rfl ?_
  simp [go_sem]
  apply k4_; clear k4_
  refine Do.seqk fun _ k5_ => ?_
  refine Do.block ?_
  refine Do.seqk fun _ k6_ => ?_
  refine Do.region [1,2,3,6,10,11,28] true ?_
  simp [go_sem]
  apply k6_; clear k6_
  refine Do.cond [1,2,3,6,10,11] rfl (fun h1 => ?_) (fun h1 => ?_) <;> simp [go_sem] at h1 ⊢
  · refine Do.seqk fun _ k7_ => ?_
    refine Do.region [6,7] true ?_
    simp [go_sem]
    repeat (refine And.intro (by first | omega | (intros; omega) | (intros; exact And.intro (by assumption) (by omega)) | grind) ?_)
    apply k7_; clear k7_
    refine Do.ret ?_
    simp [endQ, rets, ret1, go_sem]
    repeat (refine And.intro (by first | omega | (intros; omega) | (intros; exact And.intro (by assumption) (by omega)) | grind) ?_)
    rw [hz, if_pos (by omega)]
    exact TLe.t (.cons (PLe.flw (ret_zw rfl)) (.cons (PLe.refl _) .nil))
  · refine Do.seqk fun _ k8_ => ?_
    refine Do.region [1,2,3,6,10,11,32] true ?_
    simp [go_sem]
    apply k8_; clear k8_
    refine Do.cond [1,2,3,6,10,11] rfl (fun h2 => ?_) (fun h2 => ?_) <;> simp [go_sem] at h2 ⊢
    · refine Do.seqk fun _ k9_ => ?_
      refine Do.region [6,7] true ?_
      simp [go_sem]
      repeat (refine And.intro (by first | omega | (intros; omega) | (intros; exact And.intro (by assumption) (by omega)) | grind) ?_)
      apply k9_; clear k9_
      refine Do.ret ?_
      simp [endQ, rets, ret1, go_sem]
      repeat (refine And.intro (by first | omega | (intros; omega) | (intros; exact And.intro (by assumption) (by omega)) | grind) ?_)
      rw [hz, if_neg (by omega), if_pos (by omega)]
      exact TLe.t (.cons (PLe.flw (ret_zw rfl)) (.cons (PLe.refl _) .nil))
    · refine Do.seqk fun _ k10_ => ?_
      refine Do.region [1,2,3,6,10,40] true ?_
      simp [go_sem]
      repeat (refine And.intro (by first | omega | (intros; omega) | (intros; exact And.intro (by assumption) (by omega)) | grind) ?_)
      apply k10_; clear k10_
      refine Do.cond [1,2,3,6,10] rfl (fun h3 => ?_) (fun h3 => ?_) <;> simp [go_sem] at h3 ⊢
      · refine Do.seqk fun _ k11_ => ?_
        refine Do.region [6,7] true ?_
        simp [go_sem]
        repeat (refine And.intro (by first | omega | (intros; omega) | (intros; exact And.intro (by assumption) (by omega)) | grind) ?_)
        apply k11_; clear k11_
        refine Do.ret ?_
        simp [endQ, rets, ret1, go_sem]
        repeat (refine And.intro (by first | omega | (intros; omega) | (intros; exact And.intro (by assumption) (by omega)) | grind) ?_)
        rw [hz, if_neg (by omega), if_neg (by omega), if_pos (by omega)]
        exact TLe.t (.cons (PLe.flw (ret_zw rfl)) (.cons (PLe.refl _) .nil))
      · rw [if_neg (by omega), if_neg (by omega), if_neg (by omega)] at hz
        have hin := @lows_in L 1048576 (by omega) (fun x hx hk => ⟨(ht.2 x hx hk).1, (ht.2 x hx hk).2.1⟩) L.length
        have hlw := @lows_le L L.length
        rw [List.take_length] at hin hlw
        have hsm := ht.sum hin.1 (fun x hx hk => (hlw x hx hk).2) L.length
        rw [List.take_length] at hsm
        have hI := @ISign_does G (decide (svs (lows L).1 L < 0)) (nat (svs (lows L).1 L).natAbs) (by have := len_bl hsm; omega) (nat_ws _)
        rw [val_nat, sgn_of] at hI
        have hSc := @Scaled_does G (decide (svs (lows L).1 L < 0)) (nat (svs (lows L).1 L).natAbs) (lows L).1 (by have := len_bl hsm; omega) (nat_ws _)
        rw [val_nat, sgn_of] at hSc
        have hRd := fun hv => @Round_new G f p r hf hr hr' (decide (svs (lows L).1 L < 0)) (svs (lows L).1 L).natAbs (lows L).1 hv (by omega) (by omega)
        generalize svs (lows L).1 L = S at *
        generalize (lows L).1 = w at *
        refine Do.skip ?_
        simp [go_sem]
        apply k5_; clear k5_
        refine Do.seqk fun _ k12_ => ?_
        refine Do.region [1,2,3,6,12,13] true ?_
        simp [go_sem]
        refine DoL.call true 1002 rfl rfl rfl rfl (by first | exact trivial | omega | (simp; done) | (simp; omega)) (hE) rfl (by first | exact .inl rfl | exact .inr rfl) rfl ?_
        simp [go_sem]
        repeat (refine And.intro (by first | omega | (intros; omega) | (intros; exact And.intro (by assumption) (by omega)) | grind) ?_)
        apply k12_; clear k12_
        refine Do.seqk fun _ k13_ => ?_
        refine Do.seqk fun _ k14_ => ?_
        refine Do.region [1,2,3,6,12,13,55] true ?_
        simp [go_sem]
        repeat (refine And.intro (by first | omega | (intros; omega) | (intros; exact And.intro (by assumption) (by omega)) | grind) ?_)
        refine DoL.call true 1102 rfl rfl rfl rfl (by first | exact trivial | omega | (simp; done) | (simp; omega)) (hI) rfl (by first | exact .inl rfl | exact .inr rfl) rfl ?_
        simp [go_sem]
        apply k14_; clear k14_
        refine Do.cond [1,2,3,6,12,13] rfl (fun h4 => ?_) (fun h4 => ?_) <;> simp [go_sem] at h4 ⊢
        · refine Do.seqk fun _ k15_ => ?_
          refine Do.draw [6,7] true (by kernel_rfl) ?_
          simp [go_sem]
          repeat (refine And.intro (by first | omega | (intros; omega) | (intros; exact And.intro (by assumption) (by omega)) | kernel_rfl | grind) ?_)
          refine DoLD.call true 1205 rfl rfl rfl rfl (by first | exact trivial | omega | (simp; done) | (simp; omega)) (hSc) rfl (by first | exact .inl rfl | exact .inr rfl) rfl ?_
          simp [go_sem]
          refine DoLD.call true 1206 rfl rfl rfl rfl (by first | exact trivial | omega | (simp; done) | (simp; omega)) (hRd (by omega)) rfl (by first | exact .inl rfl | exact .inr rfl) rfl ?_
          simp [go_sem]
          repeat (refine And.intro (by first | omega | (intros; omega) | (intros; exact And.intro (by assumption) (by omega)) | kernel_rfl | grind) ?_)
          try (refine And.intro (by kernel_rfl) ?_)
          apply k15_; clear k15_
          refine Do.ret ?_
          simp [endQ, rets, ret1, go_sem]
          repeat (refine And.intro (by first | omega | (intros; omega) | (intros; exact And.intro (by assumption) (by omega)) | grind) ?_)
          rw [hz, if_pos (by omega)]
          exact TLe.refl _
        · rw [if_neg (by omega)] at hz
          refine Do.skip ?_
          simp [go_sem]
          apply k13_; clear k13_
          refine Do.seqk fun _ k16_ => ?_
          refine Do.region [1,2,6,14,15] true ?_
          simp [go_sem]
          refine DoL.call true 1302 rfl rfl rfl rfl (by first | exact trivial | omega | (simp; done) | (simp; omega)) (hn 0) rfl (by first | exact .inl rfl | exact .inr rfl) rfl ?_
          simp [go_sem]
          apply k16_; clear k16_
          refine Do.seqk fun _ k17_ => ?_
          refine Do.block ?_
          refine Do.seqk fun _ k18_ => ?_
          refine Do.region [1,2,6,15,69] true ?_
          simp [go_sem]
          repeat (refine And.intro (by first | omega | (intros; omega) | (intros; exact And.intro (by assumption) (by omega)) | grind) ?_)
          apply k18_; clear k18_
          refine Do.cond [1,2,6,15] rfl (fun h5 => ?_) (fun h5 => ?_) <;> simp [go_sem] at h5 ⊢
          · refine Do.seqk fun _ k19_ => ?_
            refine Do.region [6,7] true ?_
            simp [go_sem]
            repeat (refine And.intro (by first | omega | (intros; omega) | (intros; exact And.intro (by assumption) (by omega)) | grind) ?_)
            apply k19_; clear k19_
            refine Do.ret ?_
            simp [endQ, rets, ret1, go_sem]
            repeat (refine And.intro (by first | omega | (intros; omega) | (intros; exact And.intro (by assumption) (by omega)) | grind) ?_)
            rw [hz, if_pos (by omega)]
            exact TLe.t (.cons (PLe.flw (ret_zw rfl)) (.cons (PLe.refl _) .nil))
          · refine Do.seqk fun _ k20_ => ?_
            refine Do.region [1,6,79] true ?_
            simp [go_sem]
            repeat (refine And.intro (by first | omega | (intros; omega) | (intros; exact And.intro (by assumption) (by omega)) | grind) ?_)
            apply k20_; clear k20_
            refine Do.cond [1,6] rfl (fun h6 => ?_) (fun h6 => ?_) <;> simp [go_sem] at h6 ⊢
            · refine Do.seqk fun _ k21_ => ?_
              refine Do.region [6,7] true ?_
              simp [go_sem]
              repeat (refine And.intro (by first | omega | (intros; omega) | (intros; exact And.intro (by assumption) (by omega)) | grind) ?_)
              apply k21_; clear k21_
              refine Do.ret ?_
              simp [endQ, rets, ret1, go_sem]
              repeat (refine And.intro (by first | omega | (intros; omega) | (intros; exact And.intro (by assumption) (by omega)) | grind) ?_)
              rw [hz, if_neg (by omega), if_pos (by omega)]
              exact TLe.t (.cons (PLe.flw (ret_zw rfl)) (.cons (PLe.refl _) .nil))
            · refine Do.skip ?_
              simp [go_sem]
              apply k17_; clear k17_
              refine Do.seqk fun _ k22_ => ?_
              refine Do.region [6,7] true ?_
              simp [go_sem]
              repeat (refine And.intro (by first | omega | (intros; omega) | (intros; exact And.intro (by assumption) (by omega)) | grind) ?_)
              apply k22_; clear k22_
              refine Do.ret ?_
              simp [endQ, rets, ret1, go_sem]
              repeat (refine And.intro (by first | omega | (intros; omega) | (intros; exact And.intro (by assumption) (by omega)) | grind) ?_)
              rw [hz, if_neg (by omega), if_neg (by omega)]
              exact TLe.t (.cons (PLe.flw (ret_zw rfl)) (.cons (PLe.refl _) .nil))
end Go.Proofs.YthpkhmbjmnhmoaaGreatDoor
/- What the laws of sums compare. No condition. -/
namespace Go.Proofs.YthpkhmbjmnhmoaaGreatDoor
set_option linter.unusedVariables false
set_option linter.unusedSimpArgs false
variable {G : Gl}
set_option maxHeartbeats 4000000
set_option maxRecDepth 10000
/-- Arguments that say more. -/
theorem Does.weak {P : Program} {G : Gl} {f : FuncId} {args args' : List PV} {ret : TV} (h : Does P G f args ret) (hle : All2 PLe args' args) : Does P G f args' ret := by
  intro W ok vals hok hgl hargs
  refine h W ok vals hok hgl ?_
  clear h
  induction hle generalizing vals with
  | nil => exact hargs
  | cons h _ ih =>
    obtain ⟨v, vs, rfl, g1, g2⟩ := hargs.cons_iff
    exact .cons (h _ _ g1) (ih vs g2)
theorem Fits_none {k e : Int} {n : Bool} {m : List Nat} {fl w : Int} (hk : k = 0 ∧ n = false ∧ e = 0 ∧ m = []) (hw : w ≠ 0) (er : Int) : Does Tryz.prog Gv 14 [Fl k n e m, .c (.i .i64 0), .c (.i .i64 er), .a [.i .i64 0, .b false, .i .i64 0, .z], .c (.i .i64 fl), .c (.i .i64 w)] (.v (.c (.b (er == w)))) := by
  obtain ⟨rfl, rfl, rfl, rfl⟩ := hk
  have h := @Fits_does Gv ⟨0, false, 0, []⟩ ⟨0, false, 0, []⟩ 0 er fl w (by simp) (by simp [Ws]) (by simp) (by simp [Ws]) (by constructor <;> simp)
  rw [show fitsP ⟨0, false, 0, []⟩ 0 er ⟨0, false, 0, []⟩ fl w = (er == w) by simp [fitsP, hw]] at h
  exact h.weak (.cons (PLe.refl _) (.cons (PLe.refl _) (.cons (PLe.refl _) (.cons (PLe.flt (PLe.z false)) (.cons (PLe.refl _) (.cons (PLe.refl _) .nil))))))
theorem rcanon_idem (x : Flt) : rcanon (rcanon x) = rcanon x := by
  unfold rcanon
  by_cases h : x.k = 1
  · have : tz (x.v / 2 ^ tz x.v) = 0 := by
      by_cases h0 : x.v = 0
      · simp [h0, tz_zero]
      · exact tz_rest (by omega)
    simp [h, this]
  · simp [h]
theorem mkP_fix {n : Bool} {q : Nat} {u : Int} : rcanon (mkP n q u) = mkP n q u := by
  unfold mkP
  split
  · rfl
  · have h : rcanon ⟨1, n, u, q⟩ = ⟨1, n, u + tz q, q / 2 ^ tz q⟩ := by simp [rcanon]
    rw [← h]
    exact rcanon_idem _
theorem roundP_fix {f p r : Int} (hf : fmOk f p = true) {n : Bool} {v : Nat} {e : Int} {st : Bool} : rcanon (roundP f p r n v e st).1 = (roundP f p r n v e st).1 := by
  obtain ⟨b1, b2, b3, b4⟩ := fmOk_spec hf
  unfold roundP
  simp only []
  split
  · split
    · obtain ⟨m, hm⟩ : ∃ m, p.toNat = m + 1 := ⟨p.toNat - 1, by omega⟩
      have h2 : 2 ^ p.toNat = 2 * 2 ^ m := by rw [hm, Nat.pow_succ']
      have h3 : 0 < 2 ^ m := Nat.pow_pos (by decide)
      have h4 : tz (2 ^ p.toNat - 1) = 0 := tz_odd1 (by omega)
      simp [rcanon, h4]
    · rfl
  · exact mkP_fix
theorem float_fix {f p r : Int} (hf : fmOk f p = true) {g : Ga} : rcanon (g.float f p r).1 = (g.float f p r).1 := by
  unfold Ga.float
  split
  · rfl
  · split
    · rfl
    · split
      · rfl
      · unfold Nu.round
        split
        · rfl
        · exact roundP_fix hf
abbrev Flt.fla (x : Flt) : Fla := ⟨x.k, x.n, x.e, nat x.v⟩
theorem Flt.fla_flt (x : Flt) : x.fla.flt = x := by simp [Fla.flt, val_nat]
/-- A result against the reference's. -/
theorem Fits_same {x : Flt} {k : Int} (hx : Fine x) (h : rcanon x = x) : Does Tryz.prog G 14 [x.pv, .c (.i .i64 k), .c (.i .i64 0), x.pv, .c (.i .i64 k), .c (.i .i64 0)] (.v (.c (.b true))) := by
  have hl : (nat x.v).length ≤ 1073741824 := by have := nat_len_bl x.v; have := hx.v; omega
  have := @Fits_does G x.fla x.fla k 0 k 0 hl (nat_ws _) hl (nat_ws _) (good_md hx.can)
  rw [show fitsP x.fla k 0 x.fla k 0 = true by rw [fitsP, if_pos rfl, Flt.fla_flt, h]; simp [isP]] at this
  exact this
theorem held_rcanon {f p : Int} {x : Flt} (h : (holdsP f p x).2 = true) : rcanon x = (holdsP f p x).1 ∧ (canon x).2 = true := by
  have hg : (canon x).2 = true := by
    have := @holds_good f p x
    rw [h, Bool.and_eq_true] at this
    exact this.1
  refine ⟨?_, hg⟩
  rw [rcanon_good hg]
  unfold holdsP
  split <;> rfl
/-- Floats of the reference: right ones. -/
structure Rt (x : Fla) : Prop where
  can : (canon x.flt).2 = true
  ws : Ws x.m
  len : x.m.length ≤ 4096
theorem Rt.md {x : Fla} (h : Rt x) : Md x.e := good_md h.can
theorem canon_one {x : Flt} (h : (canon x).2 = true) (hk : x.k = 1) : -1048576 ≤ x.e ∧ x.e + tz x.v ≤ 1048576 ∧ x.v ≠ 0 := by
  unfold canon at h
  rw [if_neg (by omega), if_neg (by omega), if_pos hk] at h
  split at h
  · cases h
  · simp at h; omega
theorem canon_kind {x : Flt} (h : (canon x).2 = true) : (x.k = 0 ∨ x.k = 1 ∨ x.k = 2 ∨ x.k = 3) ∧ (x.k = 3 → x.n = false) := by
  unfold canon at h
  split at h
  · omega
  · split at h
    · simp at h; exact ⟨by omega, fun _ => h.1.1⟩
    · split at h
      · omega
      · cases h
theorem rcanon_k (x : Flt) : (rcanon x).k = x.k := by unfold rcanon; split <;> simp_all
theorem rcanon_n (x : Flt) : (rcanon x).n = x.n := by unfold rcanon; split <;> rfl
theorem Rt.tame {l : List Fla} (hl : l.length < 1099511627776) (h : ∀ x ∈ l, Rt x) : Tame (l.map fun x => rcanon x.flt) ∧ Kinds (l.map fun x => rcanon x.flt) := by
  refine ⟨⟨by simpa using hl, fun y hy hk => ?_⟩, fun y hy => ?_⟩
  · obtain ⟨x, hx, rfl⟩ := List.mem_map.1 hy
    have hr := h x hx
    rw [rcanon_k] at hk
    have h1 := canon_one hr.can hk
    have hb := bl_le_len hr.ws (Nat.div_le_self (val x.m) (2 ^ tz (val x.m)))
    have hlen := hr.len
    have e1 : rcanon x.flt = ⟨1, x.n, x.e + tz (val x.m), val x.m / 2 ^ tz (val x.m)⟩ := by rw [rcanon, if_pos hk]; rfl
    rw [e1]
    have h1 : -1048576 ≤ x.e ∧ x.e + tz (val x.m) ≤ 1048576 ∧ val x.m ≠ 0 := h1
    exact ⟨by simp only []; omega, by simp only []; omega, by simp only []; omega⟩
  · obtain ⟨x, hx, rfl⟩ := List.mem_map.1 hy
    have hr := canon_kind (h x hx).can
    rw [rcanon_k, rcanon_n]
    exact hr
theorem RTotal_right {f p r : Int} (hf : fmOk f p = true) (hr : 0 ≤ r) (hr' : r ≤ 4) {l : List Fla} (hl : l.length < 1099511627776) (h : ∀ x ∈ l, Rt x) : Does Tryz.prog G 46 [Fm f p, .c (.i .i64 r), Rows l] (.t [((gatherP (l.map fun x => rcanon x.flt)).float f p r).1.pw, .c (.i .i64 ((gatherP (l.map fun x => rcanon x.flt)).float f p r).2)]) :=
  RTotal_new hf hr hr' hl (fun x hx => ⟨by have := (h x hx).len; omega, (h x hx).ws, (h x hx).md⟩) rfl (Rt.tame hl h).1 (Rt.tame hl h).2
theorem held_rt {f p : Int} {l : List Fla} (h : allHold f p l = true) (ho : ∀ x ∈ l, x.Ok) (hm : ∀ x ∈ l, x.m.length ≤ 4096) : ∀ x ∈ l, Rt x := fun x hx =>
  ⟨(held_rcanon (by simpa using List.all_eq_true.1 h x hx)).2, (ho x hx).ws, hm x hx⟩
end Go.Proofs.YthpkhmbjmnhmoaaGreatDoor
/- The law SumTotals. No condition. -/
namespace Go.Proofs.YthpkhmbjmnhmoaaGreatDoor
set_option linter.unusedVariables false
set_option linter.unusedSimpArgs false
set_option maxHeartbeats 4000000
set_option maxRecDepth 10000
end Go.Proofs.YthpkhmbjmnhmoaaGreatDoor
/- The law SumAdds. No condition. -/
namespace Go.Proofs.YthpkhmbjmnhmoaaGreatDoor
set_option linter.unusedVariables false
set_option linter.unusedSimpArgs false
set_option maxHeartbeats 4000000
set_option maxRecDepth 10000
end Go.Proofs.YthpkhmbjmnhmoaaGreatDoor
