/- Sums and differences of the reference's integers. No condition. The lowest bits of a number; a real number of the reference and its exponent. No condition. A real number of the reference: an integer times a power of 2; its exponent. No condition. A real number in steps; a part rounded. No condition. A part rounded; the greatest float; what is beyond it. No condition. The greatest float, what is beyond it. No condition. The reference's rounding is the program's. No condition. Canonical floats, counted. No condition. The exact sum of floats. No condition. The reference's sum is the program's. No condition. The reference's Total. No condition. What the laws of sums compare. No condition. The law SumTotals. No condition. The law SumAdds. No condition. The package variables of the program, as they are laid, and what a law's arguments are. No condition. Rounding to the nearest: how near, and when exactly. No condition. What a rounded sum drops is a float of the format. No condition. Functions whose one result is a row of the caller's. No condition. The reference's Rest: what sums leave, as a float. No condition. A box under another label; a pointer to cells, taken as one, within a region. No condition. Pairs of floats: the rounded sum, and what it drops. No condition. The law SumPairs. No condition. Products of floats, plain. No condition. Sums of products of floats, plain. No condition. The words of a product, plain. No condition. The program's product of natural numbers. No condition. A rounding without flags: the number is one of the format. No condition. The reference's products. No condition. The program's products. No condition. The product of two floats, by the program and by the reference. No condition. Sums of products, by the program. No condition. Sums of products, by the reference. No condition. The program awake: products. No condition. The law ProductMuls. No condition. The law ProductFused. No condition. The law ProductDots. No condition. A shift of a signed number to the right. No condition. Powers. No condition. -/
import Derived.Test.YtbhokdhkfodpfaaGreatDoorMh
import Derived.Test.YtbhokdhkfodpfaaGreatDoorMf
import Derived.Test.YtbhokdhkfodpfaaGreatDoorRows
import Derived.LaidMore
import Derived.LaidHandle
import Derived.Stop.Joined
import Derived.Carry
import Derived.OpenShut
import Derived.Test.YtbhokdhkfodpfaaGreatDoorMd
import Derived.Test.YtbhokdhkfodpfaaGreatDoorMg
import Derived.Test.YtbhokdhkfodpfaaGreatDoorMe
import Derived.Lib.Mul64
/- Sums and differences of the reference's integers. No condition. -/
namespace Go.Proofs.YtbhokdhkfodpfaaGreatDoor
set_option linter.unusedVariables false
set_option linter.unusedSimpArgs false
variable {G : Gl}
set_option maxHeartbeats 4000000
set_option maxRecDepth 10000
theorem nat_len_of {v k : Nat} (h : bl v ≤ k) : (nat v).length ≤ k := Nat.le_trans (nat_len_bl v) h
theorem IFrom3_does {k : Nat} (hk : k < 9223372036854775808) : Does Tryz.prog G 96 [.c (.i .i64 k)] (.v (Iv k)) := by
  have hW := @RWord_does G k (by omega)
  have hM := @IMake_does G false (nat k) (by have := nat_len_of (v := k) (k := 64) ((bl_lt _ _).2 (by omega)); omega) (nat_ws k)
  rw [val_nat, show sgn false k = (k : Int) from rfl] at hM
  refine Does.of (nt := 14) Tryz.func96 rfl rfl rfl (by simp) ?_
  simp only [argTm, PV.ext, Ce.ext]
  refine Do.seqk fun _ k1_ => ?_
  refine Do.region [0,2] true ?_
  simp [go_sem, show ¬ (k : Int) < 0 by omega]
  apply k1_; clear k1_
  refine Do.seqk fun _ k2_ => ?_
  refine Do.seqk fun _ k3_ => ?_
  refine Do.region [0,2,4] true ?_
  simp [go_sem, show ¬ (k : Int) < 0 by omega]
  apply k3_; clear k3_
  refine Do.cond [0,2] rfl (fun h => ?_) (fun h => ?_) <;> simp [go_sem, show ¬ (k : Int) < 0 by omega] at h ⊢
  refine Do.skip ?_
  simp [go_sem]
  apply k2_; clear k2_
  refine Do.seqk fun _ k4_ => ?_
  refine Do.region [2] true ?_
  simp [go_sem, show ¬ (k : Int) < 0 by omega]
  repeat (refine And.intro (by first | omega | (intros; omega) | grind) ?_)
  refine DoL.call true 303 rfl rfl rfl rfl (by first | exact trivial | omega | (simp; done) | (simp; omega)) (hW) rfl (by first | exact .inl rfl | exact .inr rfl) rfl ?_
  simp [go_sem, show ¬ (k : Int) < 0 by omega]
  refine DoL.call true 304 rfl rfl rfl rfl (by first | exact trivial | omega | (simp; done) | (simp; omega)) (hM) rfl (by first | exact .inl rfl | exact .inr rfl) rfl ?_
  simp [go_sem, show ¬ (k : Int) < 0 by omega]
  repeat (refine And.intro (by first | omega | (intros; omega) | grind) ?_)
  apply k4_; clear k4_
  refine Do.ret ?_
  simp [endQ, rets, ret1, go_sem, show ¬ (k : Int) < 0 by omega]
  repeat (refine And.intro (by first | omega | (intros; omega) | grind) ?_)
  exact TLe.refl _
theorem IFrom_does {k : Nat} (hk : k < 9223372036854775808) : Does Tryz.prog G 61 [.c (.i .i64 k)] (.v (Iv k)) := by
  have hM := @IFrom3_does G k hk
  refine Does.of (nt := 5) Tryz.func61 rfl rfl rfl (by simp) ?_
  simp only [argTm, PV.ext, Ce.ext]
  refine Do.seqk fun _ k1_ => ?_
  refine Do.region [0,2] true ?_
  simp [go_sem]
  apply k1_; clear k1_
  refine Do.seqk fun _ k2_ => ?_
  refine Do.region [2] true ?_
  simp [go_sem]
  refine DoL.call true 102 rfl rfl rfl rfl (by first | exact trivial | omega | (simp; done) | (simp; omega)) (hM) rfl (by first | exact .inl rfl | exact .inr rfl) rfl ?_
  simp [go_sem]
  repeat (refine And.intro (by first | omega | (intros; omega) | grind) ?_)
  apply k2_; clear k2_
  refine Do.ret ?_
  simp [endQ, rets, ret1, go_sem]
  repeat (refine And.intro (by first | omega | (intros; omega) | grind) ?_)
  exact TLe.refl _
end Go.Proofs.YtbhokdhkfodpfaaGreatDoor
/- The lowest bits of a number; a real number of the reference and its exponent. No condition. -/
namespace Go.Proofs.YtbhokdhkfodpfaaGreatDoor
set_option linter.unusedVariables false
set_option linter.unusedSimpArgs false
variable {G : Gl}
set_option maxHeartbeats 4000000
set_option maxRecDepth 10000
theorem PLe.agg {l l' : List Ce} (h : All2 (fun c d => PLe (.c c) (.c d)) l l') : PLe (.a l) (.a l') := by
  rintro E v ⟨vs, h1, h2⟩
  refine ⟨vs, h1, ?_⟩
  clear h1
  generalize vs.toList = ws at *
  induction h generalizing ws with
  | nil => exact h2
  | cons g _ ih =>
    obtain ⟨w, r, rfl, a, b⟩ := h2.cons_iff
    exact .cons (g _ _ a) (ih _ b)
end Go.Proofs.YtbhokdhkfodpfaaGreatDoor
/- A real number of the reference: an integer times a power of 2; its exponent. No condition. -/
namespace Go.Proofs.YtbhokdhkfodpfaaGreatDoor
set_option linter.unusedVariables false
set_option linter.unusedSimpArgs false
variable {G : Gl}
set_option maxHeartbeats 4000000
set_option maxRecDepth 10000
end Go.Proofs.YtbhokdhkfodpfaaGreatDoor
/- A real number in steps; a part rounded. No condition. -/
namespace Go.Proofs.YtbhokdhkfodpfaaGreatDoor
set_option linter.unusedVariables false
set_option linter.unusedSimpArgs false
variable {G : Gl}
set_option maxHeartbeats 4000000
set_option maxRecDepth 10000
/-- A part: an integer, a half, a rest. -/
abbrev Pt (N : Nat) (h r : Bool) : PV := .a [.w false (nat N), .b h, .b r]
theorem pt_le {N : Nat} {h r : Bool} {c : Ce} (hc : PLe (.c c) (.c (.w false (nat N)))) : TLe (tvOf [.a [c, .b h, .b r]]) (.v (Pt N h r)) :=
  TLe.v (PLe.agg (.cons hc (.cons (PLe.refl _) (.cons (PLe.refl _) .nil))))
end Go.Proofs.YtbhokdhkfodpfaaGreatDoor
/- A part rounded; the greatest float; what is beyond it. No condition. -/
namespace Go.Proofs.YtbhokdhkfodpfaaGreatDoor
set_option linter.unusedVariables false
set_option linter.unusedSimpArgs false
variable {G : Gl}
set_option maxHeartbeats 4000000
set_option maxRecDepth 10000
/-- What lies beyond the integer: 0 nothing, 1 less than a half, 2 a half, 3 more. -/
def pcode (h s : Bool) : Int := if h then (if s then 3 else 2) else (if s then 1 else 0)
theorem ret_wb {c : Ce} {M N : Nat} {b b' : Bool} (h : PLe (.c c) (.c (.w false (nat M)))) (h1 : M = N) (h2 : b = b') : TLe (tvOf [.c c, .c (.b b)]) (.t [Wd (nat N), .c (.b b')]) := by
  subst h1; subst h2
  exact TLe.t (.cons h (.cons (PLe.refl _) .nil))
theorem Rounded_does {r : Int} (hr : 0 ≤ r) (hr' : r ≤ 4) {n h s : Bool} {N : Nat} (hN : bl N ≤ 134217728) : Does Tryz.prog G 103 [.c (.i .i64 r), .c (.b n), Pt N h s] (.t [Wd (nat (upP r n N (pcode h s))), .c (.b (pcode h s == 0))]) := by
  have hl := nat_len_of hN
  have h1 := @RBit_does G (nat N) (by omega) (nat_ws _) 0 (by constructor <;> decide)
  have h2 := @RWord_does G 1 (by decide)
  have h3 := @RAdd_does G (nat N) (nat 1) (by omega) (nat_ws _) (by rw [nat_one]; decide) (nat_ws _)
  rw [val_nat, val_nat] at h3
  rw [val_nat] at h1
  simp only [Int.toNat_zero, Nat.pow_zero, Nat.div_one, decide_true, Bool.true_and, Int.le_refl] at h1
  rcases (show r = 0 ∨ r = 1 ∨ r = 2 ∨ r = 3 ∨ r = 4 by omega) with hr | hr | hr | hr | hr <;> subst hr
  · generalize ho : decide (N % 2 = 1) = o at *
    refine Does.of (nt := 51) Tryz.func103 rfl rfl rfl (by simp) ?_
    simp only [argTm, PV.ext, Ce.ext]
    refine Do.seqk fun _ k1_ => ?_
    refine Do.region [0,1,5] true ?_
    simp [go_sem]
    apply k1_; clear k1_
    refine Do.seqk fun _ k2_ => ?_
    refine Do.region [0,1,5,8] true ?_
    simp [go_sem]
    apply k2_; clear k2_
    refine Do.seqk fun _ k3_ => ?_
    refine Do.seqk fun _ k4_ => ?_
    refine Do.region [1,5,8,9] true ?_
    simp [go_sem]
    apply k4_; clear k4_
    refine Do.block ?_
    refine Do.seqk fun _ k5_ => ?_
    refine Do.region [1,5,8,9,10] true ?_
    simp [go_sem]
    apply k5_; clear k5_
    refine Do.cond [1,5,8,9] rfl (fun g0 => ?_) (fun g0 => ?_) <;> simp [go_sem] at g0 ⊢
    refine Do.region [5,8] true ?_
    simp [go_sem]
    repeat (refine And.intro (by first | omega | (intros; omega) | grind) ?_)
    refine DoL.callg true 409 rfl rfl rfl rfl rfl (by simp [go_sem] <;> omega) (fun _ => h1) rfl (by first | exact .inl rfl | exact .inr rfl) rfl ?_
    simp [go_sem]
    repeat (refine And.intro (by first | omega | (intros; omega) | grind) ?_)
    try refine And.intro (fun a => ⟨a, fun b => ⟨a, b⟩⟩) ?_
    apply k3_; clear k3_
    refine Do.seqk fun _ k6_ => ?_
    refine Do.seqk fun _ k7_ => ?_
    refine Do.region [5,8,41] true ?_
    simp [go_sem]
    repeat (refine And.intro (by first | omega | (intros; omega) | grind) ?_)
    apply k7_; clear k7_
    refine Do.cond [5,8] rfl (fun g1 => ?_) (fun g1 => ?_) <;> simp [go_sem] at g1 ⊢
    · refine Do.seqk fun _ k8_ => ?_
      refine Do.region [6,7] true ?_
      simp [go_sem]
      repeat (refine And.intro (by first | omega | (intros; omega) | grind) ?_)
      apply k8_; clear k8_
      refine Do.ret ?_
      simp [endQ, rets, ret1, go_sem]
      repeat (refine And.intro (by first | omega | (intros; omega) | grind) ?_)
      exact ret_wb (PLe.refl _) (by cases h <;> cases s <;> simp [pcode, upP, moreP] at g1 ⊢) (by cases h <;> cases s <;> simp [pcode] at g1 ⊢)
    · refine Do.skip ?_
      simp [go_sem]
      apply k6_; clear k6_
      refine Do.seqk fun _ k9_ => ?_
      refine Do.seqk fun _ k10_ => ?_
      refine Do.region [5,44] true ?_
      simp [go_sem]
      apply k10_; clear k10_
      refine Do.cond [5] rfl (fun g2 => ?_) (fun g2 => ?_) <;> simp [go_sem] at g2 ⊢
      · refine Do.seqk fun _ k11_ => ?_
        refine Do.draw [6,7] true (by kernel_rfl) ?_
        simp [go_sem]
        repeat (refine And.intro (by first | omega | (intros; omega) | kernel_rfl | grind) ?_)
        refine DoLD.call true 1403 rfl rfl rfl rfl (by first | exact trivial | omega | (simp; done) | (simp; omega)) (h2) rfl (by first | exact .inl rfl | exact .inr rfl) rfl ?_
        simp [go_sem]
        refine DoLD.call true 1404 rfl rfl rfl rfl (by first | exact trivial | omega | (simp; done) | (simp; omega)) (h3) rfl (by first | exact .inl rfl | exact .inr rfl) rfl ?_
        simp [go_sem]
        try (refine And.intro (by kernel_rfl) ?_)
        apply k11_; clear k11_
        refine Do.ret ?_
        simp [endQ, rets, ret1, go_sem]
        repeat (refine And.intro (by first | omega | (intros; omega) | grind) ?_)
        exact ret_wb (PLe.ext (.c (.w true _))) (by rw [upP, ho]; cases h <;> cases s <;> cases o <;> simp [pcode, moreP] at g1 g2 ⊢) (by cases h <;> cases s <;> simp [pcode] at g1 ⊢)
      · refine Do.skip ?_
        simp [go_sem]
        apply k9_; clear k9_
        refine Do.seqk fun _ k12_ => ?_
        refine Do.region [6,7] true ?_
        simp [go_sem]
        repeat (refine And.intro (by first | omega | (intros; omega) | grind) ?_)
        apply k12_; clear k12_
        refine Do.ret ?_
        simp [endQ, rets, ret1, go_sem]
        repeat (refine And.intro (by first | omega | (intros; omega) | grind) ?_)
        exact ret_wb (PLe.refl _) (by rw [upP, ho]; cases h <;> cases s <;> cases o <;> simp [pcode, moreP] at g1 g2 ⊢) (by cases h <;> cases s <;> simp [pcode] at g1 ⊢)
  · skip
    refine Does.of (nt := 51) Tryz.func103 rfl rfl rfl (by simp) ?_
    simp only [argTm, PV.ext, Ce.ext]
    refine Do.seqk fun _ k1_ => ?_
    refine Do.region [0,1,5] true ?_
    simp [go_sem]
    apply k1_; clear k1_
    refine Do.seqk fun _ k2_ => ?_
    refine Do.region [0,1,5,8] true ?_
    simp [go_sem]
    apply k2_; clear k2_
    refine Do.seqk fun _ k3_ => ?_
    refine Do.seqk fun _ k4_ => ?_
    refine Do.region [1,5,8,9] true ?_
    simp [go_sem]
    apply k4_; clear k4_
    refine Do.block ?_
    refine Do.seqk fun _ k5_ => ?_
    refine Do.region [1,5,8,9,10] true ?_
    simp [go_sem]
    apply k5_; clear k5_
    refine Do.cond [1,5,8,9] rfl (fun g0 => ?_) (fun g0 => ?_) <;> simp [go_sem] at g0 ⊢
    refine Do.seqk fun _ k6_ => ?_
    refine Do.region [1,5,8,9,23] true ?_
    simp [go_sem]
    apply k6_; clear k6_
    refine Do.cond [1,5,8,9] rfl (fun g0 => ?_) (fun g0 => ?_) <;> simp [go_sem] at g0 ⊢
    refine Do.region [5,8] true ?_
    simp [go_sem]
    repeat (refine And.intro (by first | omega | (intros; omega) | grind) ?_)
    apply k3_; clear k3_
    refine Do.seqk fun _ k7_ => ?_
    refine Do.seqk fun _ k8_ => ?_
    refine Do.region [5,8,41] true ?_
    simp [go_sem]
    repeat (refine And.intro (by first | omega | (intros; omega) | grind) ?_)
    apply k8_; clear k8_
    refine Do.cond [5,8] rfl (fun g1 => ?_) (fun g1 => ?_) <;> simp [go_sem] at g1 ⊢
    · refine Do.seqk fun _ k9_ => ?_
      refine Do.region [6,7] true ?_
      simp [go_sem]
      repeat (refine And.intro (by first | omega | (intros; omega) | grind) ?_)
      apply k9_; clear k9_
      refine Do.ret ?_
      simp [endQ, rets, ret1, go_sem]
      repeat (refine And.intro (by first | omega | (intros; omega) | grind) ?_)
      exact ret_wb (PLe.refl _) (by cases h <;> cases s <;> simp [pcode, upP, moreP] at g1 ⊢) (by cases h <;> cases s <;> simp [pcode] at g1 ⊢)
    · refine Do.skip ?_
      simp [go_sem]
      apply k7_; clear k7_
      refine Do.seqk fun _ k10_ => ?_
      refine Do.seqk fun _ k11_ => ?_
      refine Do.region [5,44] true ?_
      simp [go_sem]
      apply k11_; clear k11_
      refine Do.cond [5] rfl (fun g2 => ?_) (fun g2 => ?_) <;> simp [go_sem] at g2 ⊢
      · refine Do.seqk fun _ k12_ => ?_
        refine Do.draw [6,7] true (by kernel_rfl) ?_
        simp [go_sem]
        repeat (refine And.intro (by first | omega | (intros; omega) | kernel_rfl | grind) ?_)
        refine DoLD.call true 1403 rfl rfl rfl rfl (by first | exact trivial | omega | (simp; done) | (simp; omega)) (h2) rfl (by first | exact .inl rfl | exact .inr rfl) rfl ?_
        simp [go_sem]
        refine DoLD.call true 1404 rfl rfl rfl rfl (by first | exact trivial | omega | (simp; done) | (simp; omega)) (h3) rfl (by first | exact .inl rfl | exact .inr rfl) rfl ?_
        simp [go_sem]
        try (refine And.intro (by kernel_rfl) ?_)
        apply k12_; clear k12_
        refine Do.ret ?_
        simp [endQ, rets, ret1, go_sem]
        repeat (refine And.intro (by first | omega | (intros; omega) | grind) ?_)
        exact ret_wb (PLe.ext (.c (.w true _))) (by rw [upP]; cases h <;> cases s <;> simp [pcode, moreP] at g1 g2 ⊢) (by cases h <;> cases s <;> simp [pcode] at g1 ⊢)
      · refine Do.skip ?_
        simp [go_sem]
        apply k10_; clear k10_
        refine Do.seqk fun _ k13_ => ?_
        refine Do.region [6,7] true ?_
        simp [go_sem]
        repeat (refine And.intro (by first | omega | (intros; omega) | grind) ?_)
        apply k13_; clear k13_
        refine Do.ret ?_
        simp [endQ, rets, ret1, go_sem]
        repeat (refine And.intro (by first | omega | (intros; omega) | grind) ?_)
        exact ret_wb (PLe.refl _) (by rw [upP]; cases h <;> cases s <;> simp [pcode, moreP] at g1 g2 ⊢) (by cases h <;> cases s <;> simp [pcode] at g1 ⊢)
  · skip
    refine Does.of (nt := 51) Tryz.func103 rfl rfl rfl (by simp) ?_
    simp only [argTm, PV.ext, Ce.ext]
    refine Do.seqk fun _ k1_ => ?_
    refine Do.region [0,1,5] true ?_
    simp [go_sem]
    apply k1_; clear k1_
    refine Do.seqk fun _ k2_ => ?_
    refine Do.region [0,1,5,8] true ?_
    simp [go_sem]
    apply k2_; clear k2_
    refine Do.seqk fun _ k3_ => ?_
    refine Do.seqk fun _ k4_ => ?_
    refine Do.region [1,5,8,9] true ?_
    simp [go_sem]
    apply k4_; clear k4_
    refine Do.block ?_
    refine Do.seqk fun _ k5_ => ?_
    refine Do.region [1,5,8,9,10] true ?_
    simp [go_sem]
    apply k5_; clear k5_
    refine Do.cond [1,5,8,9] rfl (fun g0 => ?_) (fun g0 => ?_) <;> simp [go_sem] at g0 ⊢
    refine Do.seqk fun _ k6_ => ?_
    refine Do.region [1,5,8,9,23] true ?_
    simp [go_sem]
    apply k6_; clear k6_
    refine Do.cond [1,5,8,9] rfl (fun g0 => ?_) (fun g0 => ?_) <;> simp [go_sem] at g0 ⊢
    refine Do.seqk fun _ k7_ => ?_
    refine Do.region [1,5,8,9,27] true ?_
    simp [go_sem]
    apply k7_; clear k7_
    refine Do.cond [1,5,8,9] rfl (fun g0 => ?_) (fun g0 => ?_) <;> simp [go_sem] at g0 ⊢
    refine Do.seqk fun _ k8_ => ?_
    refine Do.region [1,5,8,31] true ?_
    simp [go_sem]
    apply k8_; clear k8_
    refine Do.cond [1,5,8] rfl (fun g0 => ?_) (fun g0 => ?_) <;> simp [go_sem] at g0 ⊢
    refine Do.skip ?_
    simp [go_sem]
    apply k3_; clear k3_
    refine Do.seqk fun _ k9_ => ?_
    refine Do.seqk fun _ k10_ => ?_
    refine Do.region [5,8,41] true ?_
    simp [go_sem]
    repeat (refine And.intro (by first | omega | (intros; omega) | grind) ?_)
    apply k10_; clear k10_
    refine Do.cond [5,8] rfl (fun g1 => ?_) (fun g1 => ?_) <;> simp [go_sem] at g1 ⊢
    · refine Do.seqk fun _ k11_ => ?_
      refine Do.region [6,7] true ?_
      simp [go_sem]
      repeat (refine And.intro (by first | omega | (intros; omega) | grind) ?_)
      apply k11_; clear k11_
      refine Do.ret ?_
      simp [endQ, rets, ret1, go_sem]
      repeat (refine And.intro (by first | omega | (intros; omega) | grind) ?_)
      exact ret_wb (PLe.refl _) (by cases h <;> cases s <;> simp [pcode, upP, moreP] at g1 ⊢) (by cases h <;> cases s <;> simp [pcode] at g1 ⊢)
    · refine Do.skip ?_
      simp [go_sem]
      apply k9_; clear k9_
      refine Do.seqk fun _ k12_ => ?_
      refine Do.seqk fun _ k13_ => ?_
      refine Do.region [5,44] true ?_
      simp [go_sem]
      apply k13_; clear k13_
      refine Do.cond [5] rfl (fun g2 => ?_) (fun g2 => ?_) <;> simp [go_sem] at g2 ⊢
      refine Do.skip ?_
      simp [go_sem]
      apply k12_; clear k12_
      refine Do.seqk fun _ k14_ => ?_
      refine Do.region [6,7] true ?_
      simp [go_sem]
      repeat (refine And.intro (by first | omega | (intros; omega) | grind) ?_)
      apply k14_; clear k14_
      refine Do.ret ?_
      simp [endQ, rets, ret1, go_sem]
      repeat (refine And.intro (by first | omega | (intros; omega) | grind) ?_)
      exact ret_wb (PLe.refl _) (by rw [upP]; cases h <;> cases s <;> simp [pcode, moreP] at g1 ⊢) (by cases h <;> cases s <;> simp [pcode] at g1 ⊢)
  · skip
    refine Does.of (nt := 51) Tryz.func103 rfl rfl rfl (by simp) ?_
    simp only [argTm, PV.ext, Ce.ext]
    refine Do.seqk fun _ k1_ => ?_
    refine Do.region [0,1,5] true ?_
    simp [go_sem]
    apply k1_; clear k1_
    refine Do.seqk fun _ k2_ => ?_
    refine Do.region [0,1,5,8] true ?_
    simp [go_sem]
    apply k2_; clear k2_
    refine Do.seqk fun _ k3_ => ?_
    refine Do.seqk fun _ k4_ => ?_
    refine Do.region [1,5,8,9] true ?_
    simp [go_sem]
    apply k4_; clear k4_
    refine Do.block ?_
    refine Do.seqk fun _ k5_ => ?_
    refine Do.region [1,5,8,9,10] true ?_
    simp [go_sem]
    apply k5_; clear k5_
    refine Do.cond [1,5,8,9] rfl (fun g0 => ?_) (fun g0 => ?_) <;> simp [go_sem] at g0 ⊢
    refine Do.seqk fun _ k6_ => ?_
    refine Do.region [1,5,8,9,23] true ?_
    simp [go_sem]
    apply k6_; clear k6_
    refine Do.cond [1,5,8,9] rfl (fun g0 => ?_) (fun g0 => ?_) <;> simp [go_sem] at g0 ⊢
    refine Do.seqk fun _ k7_ => ?_
    refine Do.region [1,5,8,9,27] true ?_
    simp [go_sem]
    apply k7_; clear k7_
    refine Do.cond [1,5,8,9] rfl (fun g0 => ?_) (fun g0 => ?_) <;> simp [go_sem] at g0 ⊢
    refine Do.region [5,8] true ?_
    simp [go_sem]
    repeat (refine And.intro (by first | omega | (intros; omega) | grind) ?_)
    apply k3_; clear k3_
    refine Do.seqk fun _ k8_ => ?_
    refine Do.seqk fun _ k9_ => ?_
    refine Do.region [5,8,41] true ?_
    simp [go_sem]
    repeat (refine And.intro (by first | omega | (intros; omega) | grind) ?_)
    apply k9_; clear k9_
    refine Do.cond [5,8] rfl (fun g1 => ?_) (fun g1 => ?_) <;> simp [go_sem] at g1 ⊢
    · refine Do.seqk fun _ k10_ => ?_
      refine Do.region [6,7] true ?_
      simp [go_sem]
      repeat (refine And.intro (by first | omega | (intros; omega) | grind) ?_)
      apply k10_; clear k10_
      refine Do.ret ?_
      simp [endQ, rets, ret1, go_sem]
      repeat (refine And.intro (by first | omega | (intros; omega) | grind) ?_)
      exact ret_wb (PLe.refl _) (by cases h <;> cases s <;> simp [pcode, upP, moreP] at g1 ⊢) (by cases h <;> cases s <;> simp [pcode] at g1 ⊢)
    · refine Do.skip ?_
      simp [go_sem]
      apply k8_; clear k8_
      refine Do.seqk fun _ k11_ => ?_
      refine Do.seqk fun _ k12_ => ?_
      refine Do.region [5,44] true ?_
      simp [go_sem]
      apply k12_; clear k12_
      refine Do.cond [5] rfl (fun g2 => ?_) (fun g2 => ?_) <;> simp [go_sem] at g2 ⊢
      · refine Do.seqk fun _ k13_ => ?_
        refine Do.draw [6,7] true (by kernel_rfl) ?_
        simp [go_sem]
        repeat (refine And.intro (by first | omega | (intros; omega) | kernel_rfl | grind) ?_)
        refine DoLD.call true 1403 rfl rfl rfl rfl (by first | exact trivial | omega | (simp; done) | (simp; omega)) (h2) rfl (by first | exact .inl rfl | exact .inr rfl) rfl ?_
        simp [go_sem]
        refine DoLD.call true 1404 rfl rfl rfl rfl (by first | exact trivial | omega | (simp; done) | (simp; omega)) (h3) rfl (by first | exact .inl rfl | exact .inr rfl) rfl ?_
        simp [go_sem]
        try (refine And.intro (by kernel_rfl) ?_)
        apply k13_; clear k13_
        refine Do.ret ?_
        simp [endQ, rets, ret1, go_sem]
        repeat (refine And.intro (by first | omega | (intros; omega) | grind) ?_)
        exact ret_wb (PLe.ext (.c (.w true _))) (by rw [upP]; cases h <;> cases s <;> cases n <;> simp [pcode, moreP] at g1 g2 ⊢) (by cases h <;> cases s <;> simp [pcode] at g1 ⊢)
      · refine Do.skip ?_
        simp [go_sem]
        apply k11_; clear k11_
        refine Do.seqk fun _ k14_ => ?_
        refine Do.region [6,7] true ?_
        simp [go_sem]
        repeat (refine And.intro (by first | omega | (intros; omega) | grind) ?_)
        apply k14_; clear k14_
        refine Do.ret ?_
        simp [endQ, rets, ret1, go_sem]
        repeat (refine And.intro (by first | omega | (intros; omega) | grind) ?_)
        exact ret_wb (PLe.refl _) (by rw [upP]; cases h <;> cases s <;> cases n <;> simp [pcode, moreP] at g1 g2 ⊢) (by cases h <;> cases s <;> simp [pcode] at g1 ⊢)
  · skip
    refine Does.of (nt := 51) Tryz.func103 rfl rfl rfl (by simp) ?_
    simp only [argTm, PV.ext, Ce.ext]
    refine Do.seqk fun _ k1_ => ?_
    refine Do.region [0,1,5] true ?_
    simp [go_sem]
    apply k1_; clear k1_
    refine Do.seqk fun _ k2_ => ?_
    refine Do.region [0,1,5,8] true ?_
    simp [go_sem]
    apply k2_; clear k2_
    refine Do.seqk fun _ k3_ => ?_
    refine Do.seqk fun _ k4_ => ?_
    refine Do.region [1,5,8,9] true ?_
    simp [go_sem]
    apply k4_; clear k4_
    refine Do.block ?_
    refine Do.seqk fun _ k5_ => ?_
    refine Do.region [1,5,8,9,10] true ?_
    simp [go_sem]
    apply k5_; clear k5_
    refine Do.cond [1,5,8,9] rfl (fun g0 => ?_) (fun g0 => ?_) <;> simp [go_sem] at g0 ⊢
    refine Do.seqk fun _ k6_ => ?_
    refine Do.region [1,5,8,9,23] true ?_
    simp [go_sem]
    apply k6_; clear k6_
    refine Do.cond [1,5,8,9] rfl (fun g0 => ?_) (fun g0 => ?_) <;> simp [go_sem] at g0 ⊢
    refine Do.seqk fun _ k7_ => ?_
    refine Do.region [1,5,8,9,27] true ?_
    simp [go_sem]
    apply k7_; clear k7_
    refine Do.cond [1,5,8,9] rfl (fun g0 => ?_) (fun g0 => ?_) <;> simp [go_sem] at g0 ⊢
    refine Do.seqk fun _ k8_ => ?_
    refine Do.region [1,5,8,31] true ?_
    simp [go_sem]
    apply k8_; clear k8_
    refine Do.cond [1,5,8] rfl (fun g0 => ?_) (fun g0 => ?_) <;> simp [go_sem] at g0 ⊢
    refine Do.region [5,8] true ?_
    simp [go_sem]
    apply k3_; clear k3_
    refine Do.seqk fun _ k9_ => ?_
    refine Do.seqk fun _ k10_ => ?_
    refine Do.region [5,8,41] true ?_
    simp [go_sem]
    repeat (refine And.intro (by first | omega | (intros; omega) | grind) ?_)
    apply k10_; clear k10_
    refine Do.cond [5,8] rfl (fun g1 => ?_) (fun g1 => ?_) <;> simp [go_sem] at g1 ⊢
    · refine Do.seqk fun _ k11_ => ?_
      refine Do.region [6,7] true ?_
      simp [go_sem]
      repeat (refine And.intro (by first | omega | (intros; omega) | grind) ?_)
      apply k11_; clear k11_
      refine Do.ret ?_
      simp [endQ, rets, ret1, go_sem]
      repeat (refine And.intro (by first | omega | (intros; omega) | grind) ?_)
      exact ret_wb (PLe.refl _) (by cases h <;> cases s <;> simp [pcode, upP, moreP] at g1 ⊢) (by cases h <;> cases s <;> simp [pcode] at g1 ⊢)
    · refine Do.skip ?_
      simp [go_sem]
      apply k9_; clear k9_
      refine Do.seqk fun _ k12_ => ?_
      refine Do.seqk fun _ k13_ => ?_
      refine Do.region [5,44] true ?_
      simp [go_sem]
      apply k13_; clear k13_
      refine Do.cond [5] rfl (fun g2 => ?_) (fun g2 => ?_) <;> simp [go_sem] at g2 ⊢
      · refine Do.seqk fun _ k14_ => ?_
        refine Do.draw [6,7] true (by kernel_rfl) ?_
        simp [go_sem]
        repeat (refine And.intro (by first | omega | (intros; omega) | kernel_rfl | grind) ?_)
        refine DoLD.call true 1403 rfl rfl rfl rfl (by first | exact trivial | omega | (simp; done) | (simp; omega)) (h2) rfl (by first | exact .inl rfl | exact .inr rfl) rfl ?_
        simp [go_sem]
        refine DoLD.call true 1404 rfl rfl rfl rfl (by first | exact trivial | omega | (simp; done) | (simp; omega)) (h3) rfl (by first | exact .inl rfl | exact .inr rfl) rfl ?_
        simp [go_sem]
        try (refine And.intro (by kernel_rfl) ?_)
        apply k14_; clear k14_
        refine Do.ret ?_
        simp [endQ, rets, ret1, go_sem]
        repeat (refine And.intro (by first | omega | (intros; omega) | grind) ?_)
        exact ret_wb (PLe.ext (.c (.w true _))) (by rw [upP]; cases h <;> cases s <;> cases n <;> simp [pcode, moreP] at g1 g2 ⊢) (by cases h <;> cases s <;> simp [pcode] at g1 ⊢)
      · refine Do.skip ?_
        simp [go_sem]
        apply k12_; clear k12_
        refine Do.seqk fun _ k15_ => ?_
        refine Do.region [6,7] true ?_
        simp [go_sem]
        repeat (refine And.intro (by first | omega | (intros; omega) | grind) ?_)
        apply k15_; clear k15_
        refine Do.ret ?_
        simp [endQ, rets, ret1, go_sem]
        repeat (refine And.intro (by first | omega | (intros; omega) | grind) ?_)
        exact ret_wb (PLe.refl _) (by rw [upP]; cases h <;> cases s <;> cases n <;> simp [pcode, moreP] at g1 g2 ⊢) (by cases h <;> cases s <;> simp [pcode] at g1 ⊢)
end Go.Proofs.YtbhokdhkfodpfaaGreatDoor
/- The greatest float, what is beyond it. No condition. -/
namespace Go.Proofs.YtbhokdhkfodpfaaGreatDoor
set_option linter.unusedVariables false
set_option linter.unusedSimpArgs false
variable {G : Gl}
set_option maxHeartbeats 4000000
set_option maxRecDepth 10000
/-- A float whose words are its own. -/
abbrev Flt.pw (x : Flt) : PV := .a [.i .i64 x.k, .b x.n, .i .i64 x.e, .w true (nat x.v)]
theorem PLe.flw {k : Int} {n : Bool} {e : Int} {c : Ce} {m : List Nat} (h : PLe (.c c) (.c (.w true m))) : PLe (.a [.i .i64 k, .b n, .i .i64 e, c]) (.a [.i .i64 k, .b n, .i .i64 e, .w true m]) :=
  PLe.agg (.cons (PLe.refl _) (.cons (PLe.refl _) (.cons (PLe.refl _) (.cons h .nil))))
theorem ret_zw {n : Nat} (h : n = 0) : PLe (.c .z) (.c (.w true (nat n))) := by subst h; rw [nat_zero]; exact PLe.z true
theorem ret_w1 {k : Int} {n : Bool} {e : Int} {c : Ce} {x : Flt} (h : PLe (.c c) (.c (.w true (nat x.v)))) (h1 : (k, n, e) = (x.k, x.n, x.e)) : TLe (tvOf [.a [.i .i64 k, .b n, .i .i64 e, c]]) (.v x.pw) := by
  simp only [Prod.mk.injEq] at h1
  obtain ⟨rfl, rfl, rfl⟩ := h1
  exact TLe.v (PLe.flw h)
theorem Does.mono {P : Program} {G : Gl} {f : FuncId} {args : List PV} {ret ret' : TV} (h : Does P G f args ret) (hle : TLe ret ret') : Does P G f args ret' := by
  intro W ok vals hok hgl hargs
  rcases h W ok vals hok hgl hargs with ⟨h1, h2⟩ | ⟨v, h1, h2⟩
  · exact .inl ⟨h1, h2.mono fun e W' ⟨v, q1, q2, q3⟩ => ⟨v, q1, q2, hle _ _ q3⟩⟩
  · exact .inr ⟨v, h1, hle _ _ h2⟩
theorem Canonical_new {k e : Int} {n : Bool} {m : List Nat} (hm : m.length ≤ 1073741824) (wm : Ws m) (he : Md e) : Does Tryz.prog G 41 [Fl k n e m] (.v (rcanon ⟨k, n, e, val m⟩).pw) := by
  have ho : Does Tryz.prog G 45 [Fl k n e m] (.t [Wn (nat (val m / 2 ^ tz (val m))), .c (.i .i64 (e + tz (val m)))]) := odd_does hm wm he
  refine Does.of (nt := 23) Tryz.func41 rfl rfl rfl (by simp) ?_
  simp only [argTm, PV.ext, Ce.ext]
  refine Do.seqk fun _ k1_ => ?_
  refine Do.region [1,2] true ?_
  simp [go_sem]
  apply k1_; clear k1_
  refine Do.seqk fun _ k2_ => ?_
  refine Do.seqk fun _ k3_ => ?_
  refine Do.region [1,2,7] true ?_
  simp [go_sem]
  repeat (refine And.intro (by first | omega | (intros; omega) | grind) ?_)
  apply k3_; clear k3_
  refine Do.cond [1,2] rfl (fun h => ?_) (fun h => ?_) <;> simp [go_sem] at h ⊢
  · refine Do.seqk fun _ k4_ => ?_
    refine Do.region [2] true ?_
    simp [go_sem]
    repeat (refine And.intro (by first | omega | (intros; omega) | grind) ?_)
    apply k4_; clear k4_
    refine Do.ret ?_
    simp [endQ, rets, ret1, go_sem]
    repeat (refine And.intro (by first | omega | (intros; omega) | grind) ?_)
    rw [rcanon, if_neg h]
    exact ret_w1 (ret_zw rfl) rfl
  · refine Do.skip ?_
    simp [go_sem]
    apply k2_; clear k2_
    refine Do.seqk fun _ k5_ => ?_
    refine Do.region [1,2,3,4] true ?_
    simp [go_sem]
    repeat (refine And.intro (by first | omega | (intros; omega) | grind) ?_)
    refine DoL.call true 302 rfl rfl rfl rfl (by first | exact trivial | omega | (simp; done) | (simp; omega)) (ho) rfl (by first | exact .inl rfl | exact .inr rfl) rfl ?_
    simp [go_sem]
    apply k5_; clear k5_
    refine Do.seqk fun _ k6_ => ?_
    refine Do.region [2] true ?_
    simp [go_sem]
    repeat (refine And.intro (by first | omega | (intros; omega) | grind) ?_)
    apply k6_; clear k6_
    refine Do.ret ?_
    simp [endQ, rets, ret1, go_sem]
    repeat (refine And.intro (by first | omega | (intros; omega) | grind) ?_)
    rw [rcanon, if_pos h]
    exact TLe.refl _
end Go.Proofs.YtbhokdhkfodpfaaGreatDoor
/- The reference's rounding is the program's. No condition. -/
namespace Go.Proofs.YtbhokdhkfodpfaaGreatDoor
set_option linter.unusedVariables false
set_option linter.unusedSimpArgs false
variable {G : Gl}
set_option maxHeartbeats 4000000
set_option maxRecDepth 10000
theorem bl_div (v k : Nat) : bl (v / 2 ^ k) = bl v - k := by
  have h : ∀ j, j < bl (v / 2 ^ k) ↔ j + k < bl v := fun j => by
    rw [bl_le, bl_le, Nat.le_div_iff_mul_le (Nat.pow_pos (by decide)), ← Nat.pow_add]
  apply Nat.le_antisymm
  · apply Nat.le_of_not_lt
    intro hl
    have := (h (bl v - k)).1 hl
    omega
  · apply Nat.le_of_not_lt
    intro hl
    have := (h (bl (v / 2 ^ k))).2 (by omega)
    omega
end Go.Proofs.YtbhokdhkfodpfaaGreatDoor
/- Canonical floats, counted. No condition. -/
namespace Go.Proofs.YtbhokdhkfodpfaaGreatDoor
set_option linter.unusedVariables false
set_option linter.unusedSimpArgs false
variable {G : Gl}
set_option maxHeartbeats 4000000
set_option maxRecDepth 10000
end Go.Proofs.YtbhokdhkfodpfaaGreatDoor
/- The exact sum of floats. No condition. -/
namespace Go.Proofs.YtbhokdhkfodpfaaGreatDoor
set_option linter.unusedVariables false
set_option linter.unusedSimpArgs false
variable {G : Gl}
set_option maxHeartbeats 4000000
set_option maxRecDepth 10000
theorem svs_bound {z : Int} {M : Nat} : ∀ {l : List Flt}, (∀ x ∈ l, x.k = 1 → x.v * 2 ^ (x.e - z).toNat ≤ M) → (svs z l).natAbs ≤ l.length * M
  | [], _ => by simp [svs]
  | x :: l, h => by
    have ih := svs_bound (l := l) fun y hy => h y (List.mem_cons_of_mem _ hy)
    have hx := h x (by simp)
    simp only [svs, List.length_cons, Nat.add_mul, Nat.one_mul]
    split
    · rename_i hk
      have := hx hk
      unfold Nu.sv
      simp only []
      generalize x.v * 2 ^ (x.e - z).toNat = w at *
      generalize l.length * M = y at *
      split <;> omega
    · generalize l.length * M = y at *
      omega
theorem len_bl {v k : Nat} (h : bl v ≤ k) : (nat v).length ≤ (k + 63) / 64 := by rw [natlen]; omega
/-- Bounds under which exact sums stay small. -/
def Tame (l : List Flt) : Prop := l.length < 1099511627776 ∧ ∀ x ∈ l, (x.k = 1 → -1048576 ≤ x.e ∧ x.e ≤ 1048576 ∧ bl x.v ≤ 1048576)
theorem Tame.term {l : List Flt} (h : Tame l) {z : Int} (hz : -1048576 ≤ z) {x : Flt} (hx : x ∈ l) (hk : x.k = 1) (hze : z ≤ x.e) : bl (x.v * 2 ^ (x.e - z).toNat) ≤ 3145728 := by
  obtain ⟨h1, h2, h3⟩ := h.2 x hx hk
  by_cases h0 : x.v = 0
  · rw [h0]; simp [bl_zero]
  · rw [bl_mul_pow _ _ (by omega)]; omega
theorem Tame.sum {l : List Flt} (h : Tame l) {z : Int} (hz : -1048576 ≤ z) (hl : ∀ x ∈ l, x.k = 1 → z ≤ x.e) (i : Nat) : bl (svs z (l.take i)).natAbs ≤ 3145768 := by
  obtain ⟨K, hK⟩ : ∃ K, K = 3145728 := ⟨_, rfl⟩
  have hb := @svs_bound z (2 ^ K) (l.take i) fun x hx hk => Nat.le_of_lt ((bl_lt _ _).1 (by rw [hK]; exact h.term hz (List.mem_of_mem_take hx) hk (hl x (List.mem_of_mem_take hx) hk)))
  have h1 : (l.take i).length < 2 ^ 40 := Nat.lt_of_le_of_lt (List.length_take_le' i l) h.1
  have h2 : bl (svs z (l.take i)).natAbs ≤ 40 + K := by
    rw [bl_lt]
    refine Nat.lt_of_le_of_lt hb ?_
    rw [Nat.pow_add]
    exact Nat.mul_lt_mul_of_pos_right h1 (Nat.pow_pos (by decide))
  omega
end Go.Proofs.YtbhokdhkfodpfaaGreatDoor
/- The reference's sum is the program's. No condition. -/
namespace Go.Proofs.YtbhokdhkfodpfaaGreatDoor
set_option linter.unusedVariables false
set_option linter.unusedSimpArgs false
variable {G : Gl}
set_option maxHeartbeats 4000000
set_option maxRecDepth 10000
end Go.Proofs.YtbhokdhkfodpfaaGreatDoor
/- The reference's Total. No condition. -/
namespace Go.Proofs.YtbhokdhkfodpfaaGreatDoor
set_option linter.unusedVariables false
set_option linter.unusedSimpArgs false
variable {G : Gl}
set_option maxHeartbeats 4000000
set_option maxRecDepth 10000
end Go.Proofs.YtbhokdhkfodpfaaGreatDoor
/- What the laws of sums compare. No condition. -/
namespace Go.Proofs.YtbhokdhkfodpfaaGreatDoor
set_option linter.unusedVariables false
set_option linter.unusedSimpArgs false
variable {G : Gl}
set_option maxHeartbeats 4000000
set_option maxRecDepth 10000
/-- Arguments that say more. -/
theorem Does.weak {P : Program} {G : Gl} {f : FuncId} {args args' : List PV} {ret : TV} (h : Does P G f args ret) (hle : All2 PLe args' args) : Does P G f args' ret := by
  intro W ok vals hok hgl hargs
  refine h W ok vals hok hgl ?_
  clear h
  induction hle generalizing vals with
  | nil => exact hargs
  | cons h _ ih =>
    obtain ⟨v, vs, rfl, g1, g2⟩ := hargs.cons_iff
    exact .cons (h _ _ g1) (ih vs g2)
theorem rcanon_idem (x : Flt) : rcanon (rcanon x) = rcanon x := by
  unfold rcanon
  by_cases h : x.k = 1
  · have : tz (x.v / 2 ^ tz x.v) = 0 := by
      by_cases h0 : x.v = 0
      · simp [h0, tz_zero]
      · exact tz_rest (by omega)
    simp [h, this]
  · simp [h]
theorem held_rcanon {f p : Int} {x : Flt} (h : (holdsP f p x).2 = true) : rcanon x = (holdsP f p x).1 ∧ (canon x).2 = true := by
  have hg : (canon x).2 = true := by
    have := @holds_good f p x
    rw [h, Bool.and_eq_true] at this
    exact this.1
  refine ⟨?_, hg⟩
  rw [rcanon_good hg]
  unfold holdsP
  split <;> rfl
/-- Floats of the reference: right ones. -/
structure Rt (x : Fla) : Prop where
  can : (canon x.flt).2 = true
  ws : Ws x.m
  len : x.m.length ≤ 4096
theorem Rt.md {x : Fla} (h : Rt x) : Md x.e := good_md h.can
theorem canon_one {x : Flt} (h : (canon x).2 = true) (hk : x.k = 1) : -1048576 ≤ x.e ∧ x.e + tz x.v ≤ 1048576 ∧ x.v ≠ 0 := by
  unfold canon at h
  rw [if_neg (by omega), if_neg (by omega), if_pos hk] at h
  split at h
  · cases h
  · simp at h; omega
theorem canon_kind {x : Flt} (h : (canon x).2 = true) : (x.k = 0 ∨ x.k = 1 ∨ x.k = 2 ∨ x.k = 3) ∧ (x.k = 3 → x.n = false) := by
  unfold canon at h
  split at h
  · omega
  · split at h
    · simp at h; exact ⟨by omega, fun _ => h.1.1⟩
    · split at h
      · omega
      · cases h
theorem rcanon_k (x : Flt) : (rcanon x).k = x.k := by unfold rcanon; split <;> simp_all
theorem rcanon_n (x : Flt) : (rcanon x).n = x.n := by unfold rcanon; split <;> rfl
theorem held_rt {f p : Int} {l : List Fla} (h : allHold f p l = true) (ho : ∀ x ∈ l, x.Ok) (hm : ∀ x ∈ l, x.m.length ≤ 4096) : ∀ x ∈ l, Rt x := fun x hx =>
  ⟨(held_rcanon (by simpa using List.all_eq_true.1 h x hx)).2, (ho x hx).ws, hm x hx⟩
end Go.Proofs.YtbhokdhkfodpfaaGreatDoor
/- The law SumTotals. No condition. -/
namespace Go.Proofs.YtbhokdhkfodpfaaGreatDoor
set_option linter.unusedVariables false
set_option linter.unusedSimpArgs false
set_option maxHeartbeats 4000000
set_option maxRecDepth 10000
end Go.Proofs.YtbhokdhkfodpfaaGreatDoor
/- The law SumAdds. No condition. -/
namespace Go.Proofs.YtbhokdhkfodpfaaGreatDoor
set_option linter.unusedVariables false
set_option linter.unusedSimpArgs false
set_option maxHeartbeats 4000000
set_option maxRecDepth 10000
end Go.Proofs.YtbhokdhkfodpfaaGreatDoor
/- The package variables of the program, as they are laid, and what a law's arguments are. No condition. -/
namespace Go.Proofs.YtbhokdhkfodpfaaGreatDoor
set_option linter.unusedVariables false
set_option linter.unusedSimpArgs false
open Go.ChangeShapes Go.WideShapes Go.ChangeAt Go.RowKit
theorem own : ownKnob Tryz.prog.godebug = Option.none := by kernel_rfl
theorem laidOut : laidOutB Tryz.prog = true := by kernel_rfl
theorem g0_name : Tryz.prog.globalNamed "math/bits.deBruijn64tab" = some 5 := by kernel_rfl
theorem g1_name : Tryz.prog.globalNamed "reckoner/fin.more" = some 2 := by kernel_rfl
/-- What is listed. -/
abbrev laidL : List (String × DataW Unit) := [("math/bits.deBruijn64tab", Rows.laid_math_bits_deBruijn64tab), ("reckoner/fin.more", Rows.laid_reckoner_fin_more)]
section
variable {H : Type} {enc : TypeId × Value → H} {P : Program} {W : World} {base : Nat} {sp : Nat → Bool} {held : Bool}
theorem array_at {t e : TypeId} {n fuel : Nat} {cs : List Value} {ds : List (DataW H)} {p : List MemPlace} (ht : P.underlying t = some (.array n e)) (hc : P.cellsOf e = 1) (h : DataW.trod enc P W base sp held fuel t cs = some (.agg ds, p)) {i : Nat} {d : DataW H} (hd : ds[i]? = some d) : ∃ v m q, cs[i]? = some v ∧ DataW.trod enc P W base sp held m e [v] = some (d, q) := by
  obtain ⟨xs, m, rfl, hx, hl, hn, hel⟩ := DataW.trod_array ht h
  simp only [Prod.mk.injEq, DataW.agg.injEq] at hx
  obtain ⟨rfl, _⟩ := hx
  rw [List.getElem?_map] at hd
  cases hxi : xs[i]? with
  | none => simp [hxi] at hd
  | some y =>
    rw [hxi] at hd
    simp only [Option.map_some, Option.some.injEq] at hd
    have hi : i < n := by rw [← hn]; exact (List.getElem?_eq_some_iff.1 hxi).1
    have h1 := hel i hi
    rw [hc, Nat.mul_one, hxi] at h1
    have hil : i < cs.length := by
      apply Classical.byContradiction
      intro hge
      rw [List.drop_of_length_le (by omega)] at h1
      cases m with
      | zero => simp [DataW.trod] at h1
      | succ m =>
        have : P.cellsOf e = 1 := hc
        cases hu : P.underlying e with
        | none => simp [DataW.trod, hu] at h1
        | some k => cases k <;> simp [DataW.trod, hu] at h1 <;> (try omega)
    rw [List.drop_eq_getElem_cons hil] at h1
    simp only [List.take_succ_cons, List.take_zero] at h1
    exact ⟨cs[i], m, y.2, List.getElem?_eq_getElem hil, by rw [h1, ← hd]⟩
theorem laidMetH.plain {l : List (String × DataW Unit)} (h : laidMetH P l W) (hne : (l.filter fun x => x.2.handleName?.isSome).isEmpty = false) : laidMet P (l.filter fun x => x.2.handleName?.isNone) W := by
  unfold laidMetH at h
  generalize (l.filter fun x => x.2.handleName?.isSome) = fl at h hne
  cases fl with
  | nil => cases hne
  | cons a r => exact h.1
end
/-- The door's own heap meets the condition. -/
abbrev doorN : Nat := 19
abbrev doorK : Nat := 8
theorem door_met (os : Os) (args : Array Value) : laidMetH Tryz.prog laidL ((World.doorLaid Tryz.prog doorN os).forCall (fun _ _ => 0) ⟨#[], args, []⟩).memory :=
  laidMetH_of_parts3 (fuel := 8) (laidMet_of_run' 8 (by kernel_rfl) (by kernel_rfl)) (by kernel_rfl) (by kernel_rfl)
theorem of_laid {W : World} (h : laidMetH Tryz.prog laidL W) : GlOk Gv W := by
  have h0 : laidMet Tryz.prog [("math/bits.deBruijn64tab", Rows.laid_math_bits_deBruijn64tab)] W := laidMetH.plain h (by kernel_rfl)
  obtain ⟨ps, ⟨g0, t0, cs0, f0, p0, q0, hg0, ht0, hv0, hd0, _⟩, _, _⟩ := h0
  obtain ⟨g1, t1, cs1, f1, p1, hg1, ht1, hv1, hd1⟩ := h.funcs (d := .agg [.iface "func" (.lit (.string [114, 101, 99, 107, 111, 110, 101, 114, 47, 102, 105, 110, 46, 109, 111, 114, 101, 36, 49])), .iface "func" (.lit (.string [114, 101, 99, 107, 111, 110, 101, 114, 47, 102, 105, 110, 46, 109, 111, 114, 101, 36, 50])), .iface "func" (.lit (.string [114, 101, 99, 107, 111, 110, 101, 114, 47, 102, 105, 110, 46, 109, 111, 114, 101, 36, 51])), .iface "func" (.lit (.string [114, 101, 99, 107, 111, 110, 101, 114, 47, 102, 105, 110, 46, 109, 111, 114, 101, 36, 52])), .iface "func" (.lit (.string [114, 101, 99, 107, 111, 110, 101, 114, 47, 102, 105, 110, 46, 109, 111, 114, 101, 36, 53]))]) (n := "reckoner/fin.more") (List.mem_cons_of_mem _ (List.mem_singleton.2 rfl))
  obtain rfl := Option.some.inj (g0_name.symm.trans hg0)
  obtain rfl := Option.some.inj (g1_name.symm.trans hg1)
  have e0 : (Rows.laid_math_bits_deBruijn64tab : DataW Unit) = .agg (Lib.deBruijn64tab.map fun k => .lit (.int .u8 (k : Nat))) := by kernel_rfl
  rw [e0] at hd0
  obtain rfl := Option.some.inj ((show (Tryz.prog.globals[5]?).map (·.type) = some 177 by kernel_rfl).symm.trans ht0)
  obtain rfl := Option.some.inj ((show (Tryz.prog.globals[2]?).map (·.type) = some 167 by kernel_rfl).symm.trans ht1)
  intro b off x hx
  by_cases hb0 : b = 5
  · subst hb0
    simp only [Gv, List.getElem?_map] at hx
    cases hk : Lib.deBruijn64tab[off]? with
    | none => simp [hk] at hx
    | some k =>
      simp only [hk, Option.map_some, Option.some.injEq] at hx; subst hx
      obtain ⟨v, m, q, h1, h2⟩ := array_at Tryz.underlying177 (by kernel_rfl) hd0 (i := off) (d := .lit (.int .u8 (k : Nat))) (by simp [hk])
      obtain ⟨z, h3, h4, _⟩ := DataW.trod_int Tryz.underlying5 h2
      simp only [List.cons.injEq, and_true, Prod.mk.injEq, DataW.lit.injEq, Lit.int.injEq, true_and] at h3 h4
      subst h3
      refine ⟨rfl, .int .u8 z, ?_, fun E => ?_⟩
      · rw [World.var?_cell hg0 hv0 off]; simpa using h1
      · show Value.int .u8 z = .int .u8 (k : Nat)
        rw [h4.1]
  · by_cases hb1 : b = 2
    · subst hb1
      have hd1 : DataW.trod (funcToken Tryz.prog) Tryz.prog W 0 (fun _ => true) true f1 167 cs1.toList = some (.agg [.held [114, 101, 99, 107, 111, 110, 101, 114, 47, 102, 105, 110, 46, 109, 111, 114, 101, 36, 49], .held [114, 101, 99, 107, 111, 110, 101, 114, 47, 102, 105, 110, 46, 109, 111, 114, 101, 36, 50], .held [114, 101, 99, 107, 111, 110, 101, 114, 47, 102, 105, 110, 46, 109, 111, 114, 101, 36, 51], .held [114, 101, 99, 107, 111, 110, 101, 114, 47, 102, 105, 110, 46, 109, 111, 114, 101, 36, 52], .held [114, 101, 99, 107, 111, 110, 101, 114, 47, 102, 105, 110, 46, 109, 111, 114, 101, 36, 53]], p1) := hd1
      have hF : ∀ {i : Nat} {by_ : UInt8} {r : List UInt8} {f0 : FuncId}, (([DataW.held (H := List UInt8) [114, 101, 99, 107, 111, 110, 101, 114, 47, 102, 105, 110, 46, 109, 111, 114, 101, 36, 49], .held [114, 101, 99, 107, 111, 110, 101, 114, 47, 102, 105, 110, 46, 109, 111, 114, 101, 36, 50], .held [114, 101, 99, 107, 111, 110, 101, 114, 47, 102, 105, 110, 46, 109, 111, 114, 101, 36, 51], .held [114, 101, 99, 107, 111, 110, 101, 114, 47, 102, 105, 110, 46, 109, 111, 114, 101, 36, 52], .held [114, 101, 99, 107, 111, 110, 101, 114, 47, 102, 105, 110, 46, 109, 111, 114, 101, 36, 53]]))[i]? = some (.held (by_ :: r)) → ((List.range Tryz.prog.funcs.size).filter fun f => (Tryz.prog.funcs[f]?).any (·.name.toUTF8.data.toList == by_ :: r)) = [f0] → (Ce.f f0).pure = true ∧ ∃ v, W.cell? ⟨2, i, Option.none⟩ = some v ∧ ∀ E, RC E (.f f0) v := fun {i by_ r f0} hi hone => by
        obtain ⟨v, m, q, h1, h2⟩ := array_at Tryz.underlying167 (by kernel_rfl) hd1 hi
        obtain rfl := func_of_trod (f0 := f0) Tryz.underlying166 hone h2
        refine ⟨rfl, .func (.func f0) #[] #[], ?_, fun E => rfl⟩
        rw [World.var?_cell hg1 hv1 i]; simpa using h1
      rcases off with _ | _ | _ | _ | _ | off
      · simp only [Gv] at hx
        obtain rfl : Ce.f 183 = x := Option.some.inj hx
        exact hF (i := 0) rfl (by kernel_rfl)
      · simp only [Gv] at hx
        obtain rfl : Ce.f 184 = x := Option.some.inj hx
        exact hF (i := 1) rfl (by kernel_rfl)
      · simp only [Gv] at hx
        obtain rfl : Ce.f 185 = x := Option.some.inj hx
        exact hF (i := 2) rfl (by kernel_rfl)
      · simp only [Gv] at hx
        obtain rfl : Ce.f 186 = x := Option.some.inj hx
        exact hF (i := 3) rfl (by kernel_rfl)
      · simp only [Gv] at hx
        obtain rfl : Ce.f 187 = x := Option.some.inj hx
        exact hF (i := 4) rfl (by kernel_rfl)
      · simp [Gv] at hx
    · exfalso
      unfold Gv at hx
      split at hx
      · exact hb0 rfl
      · exact hb1 rfl
      · simp at hx
set_option maxRecDepth 100000
/-- A format among the arguments. -/
theorem arg_fm {H : Type} {enc : TypeId × Value → H} {W : World} {b0 : Nat} {sp : Nat → Bool} {held : Bool} {v : Value} {d : DataW H} {ps : List MemPlace} (hval : Value.okWide Tryz.prog W .any b0 23 v) (h : DataW.Trod enc Tryz.prog W 0 sp held 23 v d ps) : ∃ f p, RP (enA W fun b => b < W.heap.size) (Fm f p) v := by
  obtain ⟨ces, h1, h2⟩ := open_struct (ok := fun b => b < W.heap.size) (f := 2) (cts := [.i .i64, .i .i64]) (fun _ h => h) Tryz.underlying23 (by kernel_rfl) hval h
  cases h2 with | cons g h2 => cases h2 with | cons g' h2 => cases h2 with | nil =>
  obtain ⟨e, rfl, _⟩ := g
  obtain ⟨p, rfl, _⟩ := g'
  exact ⟨e, p, h1⟩
theorem cells_fl {ces : List Ce} (h2 : All2 CtIs [.i .i64, .b, .i .i64, .w] ces) : ∃ x : Fla, x.cs = ces ∧ Ws x.m ∧ I64 x.e := by
  cases h2 with | cons g1 h2 => cases h2 with | cons g2 h2 => cases h2 with | cons g3 h2 => cases h2 with | cons g4 h2 => cases h2 with | nil =>
  obtain ⟨k, rfl, _⟩ := g1
  obtain ⟨n, rfl⟩ := g2
  obtain ⟨e, rfl, he⟩ := g3
  obtain ⟨m, rfl, hm⟩ := g4
  exact ⟨⟨k, n, e, m⟩, rfl, hm, wf_i64 he⟩
/-- A float among the arguments. -/
theorem arg_fl {H : Type} {enc : TypeId × Value → H} {W : World} {b0 : Nat} {sp : Nat → Bool} {held : Bool} {v : Value} {d : DataW H} {ps : List MemPlace} (hval : Value.okWide Tryz.prog W .any b0 29 v) (h : DataW.Trod enc Tryz.prog W 0 sp held 29 v d ps) : ∃ x : Fla, Ws x.m ∧ I64 x.e ∧ RP (enA W fun b => b < W.heap.size) (Fl x.k x.n x.e x.m) v := by
  obtain ⟨ces, h1, h2⟩ := open_struct (ok := fun b => b < W.heap.size) (f := 2) (cts := [.i .i64, .b, .i .i64, .w]) (fun _ h => h) Tryz.underlying29 (by kernel_rfl) hval h
  obtain ⟨x, rfl, hx⟩ := cells_fl h2
  exact ⟨x, hx.1, hx.2, h1⟩
/-- What a law that returns true leaves. -/
theorem law_calls {f : FuncId} {fn : Func} {c : Code} {args : List PV} {W : World} {vals : List Value} (h : Does Tryz.prog Gv f args (.v (.c (.b true)))) (hf : Tryz.prog.funcs[f]? = some fn) (hname : (fn.name == "runtime.NumGoroutine") = false) (hb : fn.body = some c) (hg : GlOk Gv W) (ha : All2 (RP (enA W fun b => b < W.heap.size)) args vals) :
    Calls Tryz.prog f vals.toArray W (fun e W' => e = .returned (.bool true) ∧ Below W.heap.size W W') :=
  (h.toCalls hf hname hb (fun _ h => h) hg ha).mono fun e W' ⟨v, he, hb, hr⟩ => by
    have : v = .bool true := hr
    subst this
    exact ⟨he, hb⟩
end Go.Proofs.YtbhokdhkfodpfaaGreatDoor
/- Rounding to the nearest: how near, and when exactly. No condition. -/
namespace Go.Proofs.YtbhokdhkfodpfaaGreatDoor
set_option linter.unusedVariables false
set_option linter.unusedSimpArgs false
set_option maxHeartbeats 4000000
set_option maxRecDepth 10000
/-- A number over a low exponent, with few enough digits for the format. -/
structure OfF (f p z : Int) (A : Int) (w : Nat) (k : Int) : Prop where
  low : 1 - gOfE f - (p - 1) ≤ k
  few : (bl w : Int) ≤ p
  top : k + bl w ≤ gOfE f + 1
  abs : A.natAbs = w * 2 ^ (k - z).toNat
end Go.Proofs.YtbhokdhkfodpfaaGreatDoor
/- What a rounded sum drops is a float of the format. No condition. -/
namespace Go.Proofs.YtbhokdhkfodpfaaGreatDoor
set_option linter.unusedVariables false
set_option linter.unusedSimpArgs false
set_option maxHeartbeats 4000000
set_option maxRecDepth 10000
theorem OfF.mul {f p z A : Int} {w : Nat} {k : Int} (h : OfF f p z A w k) {m : Int} (h1 : z ≤ m) (h2 : m ≤ k) : ∃ a : Int, A = a * ((2 ^ (m - z).toNat : Nat) : Int) := by
  have e : w * 2 ^ (k - z).toNat = w * 2 ^ (k - m).toNat * 2 ^ (m - z).toNat := by rw [pow_split h1 h2, Nat.mul_assoc]
  have h3 := h.abs
  rw [e] at h3
  rcases Int.natAbs_eq A with h | h
  · exact ⟨(w * 2 ^ (k - m).toNat : Nat), by rw [← Int.natCast_mul, ← h3]; exact h⟩
  · exact ⟨-((w * 2 ^ (k - m).toNat : Nat) : Int), by rw [Int.neg_mul, ← Int.natCast_mul, ← h3]; exact h⟩
/-- The value of a float over a low exponent. -/
def fv (z : Int) (x : Flt) : Int := if x.k = 1 then Nu.sv z ⟨x.n, x.v, x.e⟩ else 0
end Go.Proofs.YtbhokdhkfodpfaaGreatDoor
/- Functions whose one result is a row of the caller's. No condition. -/
namespace Go.Proofs.YtbhokdhkfodpfaaGreatDoor
set_option linter.unusedVariables false
set_option linter.unusedSimpArgs false
section
variable {P : Program} {G : Gl} {nt : Nat} {st : St} {cx : Cx} {a : Act} {W W' : World} {m : Nat → Option Nat} {QE : Exit → St → Prop} {ops l : List Oper} {Q : St → Prop}
/-- What a call computes whose one result is a row that its caller alone holds. -/
def DoesQ (P : Program) (G : Gl) (f : FuncId) (args : List PV) (sz : Nat) (rows : List (List Ce)) : Prop :=
  ∀ (W : World) (ok : Nat → Prop) (vals : List Value), (∀ b, ok b → b < W.heap.size) → GlOk G W → All2 (RP (enA W ok)) args vals →
    (callFunc f vals.toArray).run P W = .ok (.enter f vals.toArray) W ∧ Calls P f vals.toArray W (fun e W' => ∃ sv bo, e = .returned sv ∧ RowKit.Below W.heap.size W W' ∧ (∀ b, bo = some b → W.heap.size ≤ b ∧ b < W'.heap.size) ∧
      RC (enO W W' ok bo (.sr sz rows)) (.r 0 rows.length) sv ∧ RO (enO W W' ok bo (.sr sz rows)) 0 (.sr sz rows))
def endOne (sz : Nat) (rows : List (List Ce)) (rs : List ResultVar) (e : Exit) (s : St) : Prop :=
  (e = .ret ∨ e = .normal) ∧ match rs with
    | [.tmp t] => (match lk t s.tm with
      | some (.v (.c (.r j n))) => n = rows.length ∧ lk j s.ob = some (.sr sz rows)
      | _ => False)
    | _ => False
theorem DoesQ.of {f : FuncId} {fn : Func} {c : Code} {args : List PV} {sz : Nat} {rows : List (List Ce)} (hf : P.funcs[f]? = some fn) (hname : (fn.name == "runtime.NumGoroutine") = false) (hb : fn.body = some c) (hnt : fn.ntmps = nt) (hal : args.length ≤ nt)
    (h : Do P G nt c ⟨argTm 0 args, []⟩ (endOne sz rows fn.results.toList)) : DoesQ P G f args sz rows := by
  intro W ok vals hok hgl hargs
  refine ⟨?_, ?_⟩
  · have hn' : fn.name ≠ "runtime.NumGoroutine" := by simpa using hname
    simp [callFunc, hf, hn', hb]
  · refine calls_of_wp hf hb ?_
    refine Code.wp_mono (fun e a' W' ⟨s, hq, m', hs⟩ => ?_) (h _ _ W rfl ⟨_, start_rel hok hgl hargs hal hnt⟩)
    obtain ⟨he, hret⟩ := hq
    split at hret
    case h_2 => exact hret.elim
    rename_i t hrs
    split at hret
    case h_2 => exact hret.elim
    rename_i j n ht
    obtain ⟨rfl, hj⟩ := hret
    obtain ⟨sv, hv, hrt⟩ := hs.tm t _ ht
    have hg : a'.tmps.getD t undef = sv := by simp [hv]
    have hres : (results fn a'.tmps).run P W' = .ok sv W' := by
      have hfun : results fn a'.tmps = (do let vs ← fn.results.mapM (resOf a'.tmps); pure (if h : vs.size = 1 then vs[0] else .tuple vs)) := by
        unfold results
        congr 1
      rw [hfun]
      have h1 : (resOf a'.tmps (.tmp t)).run P W' = .ok sv W' := by simp [resOf, hg]
      simp only [Sem.run_bind, Array.mapM_eq_mapM_toList, Sem.run_map, hrs, List.mapM_cons, List.mapM_nil, h1, Result.andThen_ok, Sem.run_pure]
      simp
    have hbelow : RowKit.Below W.heap.size W W' := ⟨hs.os, hs.tape, hs.output, hs.size, fun k hk => hs.keep k hk id⟩
    have hown : ∀ b, m' j = some b → W.heap.size ≤ b ∧ b < W'.heap.size := fun b hb => by
      obtain ⟨q1, q2⟩ := hs.own j _ b hj hb
      exact ⟨q2.elim id fun e => e.1.elim, q1⟩
    have hle : EnLe (fun _ => False) (en ⟨W.heap.size, W, ok, fun _ => False, nt⟩ m' s.ob W') (enO W W' ok (m' j) (.sr sz rows)) :=
      ⟨fun b ⟨q1, q2, q3⟩ => ⟨⟨q1, q2⟩, q3 j _ hj⟩, fun _ _ => rfl, Nat.le_refl _, fun _ hF => hF.elim⟩
    have hO : ∃ bo, (∀ b, bo = some b → W.heap.size ≤ b ∧ b < W'.heap.size) ∧ RC (enO W W' ok bo (.sr sz rows)) (.r 0 rows.length) sv ∧ RO (enO W W' ok bo (.sr sz rows)) 0 (.sr sz rows) := by
      refine ⟨m' j, hown, ⟨hrt.1, fun o' ho' hle' => ?_⟩, ?_⟩
      · obtain rfl : Ob.sr sz rows = o' := by simpa [enO] using ho'
        obtain ⟨_, k2⟩ := hrt.2 _ hj (Nat.le_refl _)
        exact ⟨rfl, k2⟩
      · rcases hs.ob j _ hj with ⟨y1, y2⟩ | ⟨b', vs, e2, r1, r2, r3⟩
        · exact .inl ⟨y1, y2⟩
        · exact .inr ⟨b', vs, e2, r1, r2, fun i cs hi => let ⟨k1, us', k2, k3⟩ := r3 i cs hi; ⟨k1, us', k2.mono hle, k3⟩⟩
    obtain ⟨bo, k1, k2, k3⟩ := hO
    have hfin : ∃ sv' bo, (Ending.returned sv) = .returned sv' ∧ RowKit.Below W.heap.size W W' ∧ (∀ b, bo = some b → W.heap.size ≤ b ∧ b < W'.heap.size) ∧
      RC (enO W W' ok bo (.sr sz rows)) (.r 0 rows.length) sv' ∧ RO (enO W W' ok bo (.sr sz rows)) 0 (.sr sz rows) :=
      ⟨sv, bo, rfl, hbelow, k1, k2, k3⟩
    rcases he with rfl | rfl
    · exact ⟨hs.df, _, hres, hfin⟩
    · exact ⟨hs.df, _, hres, hfin⟩
end
end Go.Proofs.YtbhokdhkfodpfaaGreatDoor
/- The reference's Rest: what sums leave, as a float. No condition. -/
namespace Go.Proofs.YtbhokdhkfodpfaaGreatDoor
set_option linter.unusedVariables false
set_option linter.unusedSimpArgs false
variable {G : Gl}
set_option maxHeartbeats 4000000
set_option maxRecDepth 10000
theorem Tame.rest {A B : List Flt} (ha : Tame A) (hb : Tame B) (hl : A.length + B.length < 1099511627776) : Tame (A ++ B.map Flt.neg) := by
  refine ⟨by simpa using hl, fun x hx hk => ?_⟩
  rcases List.mem_append.1 hx with hx | hx
  · exact ha.2 x hx hk
  · obtain ⟨y, hy, rfl⟩ := List.mem_map.1 hx
    exact hb.2 y hy hk
end Go.Proofs.YtbhokdhkfodpfaaGreatDoor
/- A box under another label; a pointer to cells, taken as one, within a region. No condition. -/
namespace Go.Proofs.YtbhokdhkfodpfaaGreatDoor
set_option linter.unusedVariables false
set_option linter.unusedSimpArgs false
section
variable {P : Program} {G : Gl} {nt : Nat} {st : St} {cx : Cx} {a : Act} {W W' : World} {m : Nat → Option Nat} {QE : Exit → St → Prop} {ops l : List Oper} {Q : St → Prop}
theorem lk_all {α : Type} {p : Nat × α → Bool} {j : Nat} {x : α} : ∀ {l : List (Nat × α)}, l.all p = true → lk j l = some x → p (j, x) = true
  | [], _, h => by simp [lk] at h
  | (k, y) :: r, ha, h => by
    simp only [List.all_cons, Bool.and_eq_true] at ha
    simp only [lk] at h
    split at h
    · rename_i e; injection h with h; subst h; subst e; exact ha.1
    · exact lk_all ha.2 h
/-- An object that nobody asks for any more. -/
theorem Do.drop {c : Code} (la : Nat) (h : Do P G nt c ⟨st.tm, del la st.ob⟩ QE) : Do P G nt c st QE :=
  fun cx a W hn ⟨m, hr⟩ => h cx a W hn ⟨m, hr.fewer (del la st.ob) fun j o hj => by
    rw [lk_del] at hj
    split at hj
    · cases hj
    · exact hj⟩
/-- A pointer to cells, taken as one. -/
theorem DoL.turn (md : Bool) (lab t : Nat) {cs : List Ce} (ht : lk t st.tm = some (.v (.c (.x (PtrSx cs))))) (h : runs P G nt md ops Q lab l ⟨put t (.e cs) st.tm, st.ob⟩) : DoL P G nt ops l st Q := by
  intro cx a W hn ⟨m, hr⟩
  refine DoL.run h cx a W hn ⟨m, { hr with tm := fun s x hx => ?_ }⟩
  rcases lk_le_put s x st.tm hx with ⟨rfl, rfl⟩ | ⟨_, hx⟩
  · obtain ⟨v, hv, ad, h1, h2, vs, h3, h4⟩ := hr.tm _ _ ht
    exact ⟨v, hv, ad, h1, h2, vs, RCs.same (E := enA W (okOf cx m st.ob W)) (E' := en cx m st.ob W) (fun _ h => h) rfl h3, h4⟩
  · exact hr.tm s x hx
end
end Go.Proofs.YtbhokdhkfodpfaaGreatDoor
/- Pairs of floats: the rounded sum, and what it drops. No condition. -/
namespace Go.Proofs.YtbhokdhkfodpfaaGreatDoor
set_option linter.unusedVariables false
set_option linter.unusedSimpArgs false
set_option maxHeartbeats 4000000
set_option maxRecDepth 10000
/-- A canonical float that is a number. -/
def Numb (x : Flt) : Prop := x.k = 1 ∨ (x.k = 0 ∧ x.e = 0 ∧ x.v = 0)
theorem Numb.sv {x : Flt} (h : Numb x) (z : Int) : Nu.sv z ⟨x.n, x.v, x.e⟩ = fv z x := by
  unfold fv
  rcases h with h | ⟨h1, h2, h3⟩
  · rw [if_pos h]
  · rw [if_neg (by omega), h3]; simp [Nu.sv]
theorem Fine.ok {x : Flt} (h : Fine x) (hn : Numb x) (n : Bool) : (⟨n, x.v, x.e⟩ : Nu).Ok := by
  have h1 := h.v
  rcases hn with hk | ⟨hk, h2, h3⟩
  · have := canon_one h.can hk
    exact ⟨by simp only []; omega, by simp only []; omega⟩
  · exact ⟨by simp only []; omega, by simp only []; omega⟩
end Go.Proofs.YtbhokdhkfodpfaaGreatDoor
/- The law SumPairs. No condition. -/
namespace Go.Proofs.YtbhokdhkfodpfaaGreatDoor
set_option linter.unusedVariables false
set_option linter.unusedSimpArgs false
set_option maxHeartbeats 4000000
set_option maxRecDepth 10000
section
variable {f p : Int} {x y : Fla}
end
end Go.Proofs.YtbhokdhkfodpfaaGreatDoor
/- Products of floats, plain. No condition. -/
namespace Go.Proofs.YtbhokdhkfodpfaaGreatDoor
set_option linter.unusedVariables false
set_option linter.unusedSimpArgs false
set_option maxHeartbeats 4000000
set_option maxRecDepth 10000
def K4 (x : Flt) : Prop := x.k = 0 ∨ x.k = 1 ∨ x.k = 2 ∨ x.k = 3
/-- A float as it is held: canonical. -/
structure Cf (x : Flt) : Prop where
  k : K4 x
  fix : rcanon x = x
  pos : x.k = 1 → x.v ≠ 0
theorem Cf.of {x : Flt} (h : (canon x).2 = true) : Cf (rcanon x) := by
  refine ⟨?_, rcanon_idem x, fun hk => ?_⟩
  · have := (canon_kind h).1
    unfold K4
    rw [rcanon_k]; exact this
  · rw [rcanon_k] at hk
    have h1 := (canon_one h hk).2.2
    obtain ⟨m, hm⟩ := tz_form (show 0 < x.v by omega)
    have e1 : x.v / 2 ^ tz x.v = 2 * m + 1 := by
      conv => lhs; arg 1; rw [hm]
      exact Nat.mul_div_cancel_left _ (Nat.pow_pos (by decide))
    simp only [rcanon, hk, if_true]
    omega
end Go.Proofs.YtbhokdhkfodpfaaGreatDoor
/- Sums of products of floats, plain. No condition. -/
namespace Go.Proofs.YtbhokdhkfodpfaaGreatDoor
set_option linter.unusedVariables false
set_option linter.unusedSimpArgs false
set_option maxHeartbeats 4000000
set_option maxRecDepth 10000
end Go.Proofs.YtbhokdhkfodpfaaGreatDoor
/- The words of a product, plain. No condition. -/
namespace Go.Proofs.YtbhokdhkfodpfaaGreatDoor
set_option linter.unusedVariables false
set_option linter.unusedSimpArgs false
set_option maxHeartbeats 4000000
set_option maxRecDepth 10000
/-- The i-th digit. -/
def dgw (n i : Nat) : Nat := n / 18446744073709551616 ^ i % 18446744073709551616
theorem HposW (i : Nat) : 0 < 18446744073709551616 ^ i := Nat.pow_pos (by decide)
theorem dgw_lt (n i : Nat) : dgw n i < 18446744073709551616 := Nat.mod_lt _ (by decide)
theorem wds_dgw {k n i : Nat} (h : i < k) : (wds n k)[i]? = some (dgw n i) := wds_get h
theorem dgw_none {n k i : Nat} (h : n < 18446744073709551616 ^ k) (hi : k ≤ i) : dgw n i = 0 := by unfold dgw; rw [Nat.div_eq_of_lt (Nat.lt_of_lt_of_le h (Nat.pow_le_pow_right (by decide) hi))]
theorem dgw_low {n p x : Nat} (h : x < p) : dgw (n % 18446744073709551616 ^ p) x = dgw n x := by
  obtain ⟨q, rfl⟩ : ∃ q, p = x + (q + 1) := ⟨p - x - 1, by omega⟩
  unfold dgw
  rw [Nat.pow_add, Nat.mod_mul_right_div_self, Nat.pow_succ, Nat.mul_comm _ 18446744073709551616, Nat.mod_mul_right_mod]
theorem dgw_high {n p x : Nat} (h : p ≤ x) : dgw n x = dgw (n / 18446744073709551616 ^ p) (x - p) := by
  unfold dgw
  rw [Nat.div_div_eq_div_mul, ← Nat.pow_add, show p + (x - p) = x by omega]
theorem low_stepW (n i : Nat) : n % 18446744073709551616 ^ (i + 1) = n % 18446744073709551616 ^ i + dgw n i * 18446744073709551616 ^ i := by
  unfold dgw
  rw [Nat.pow_succ, Nat.mod_mul, Nat.mul_comm (18446744073709551616 ^ i)]
theorem high_stepW (n i : Nat) : n / 18446744073709551616 ^ i = n / 18446744073709551616 ^ (i + 1) * 18446744073709551616 + dgw n i := by
  unfold dgw
  rw [Nat.pow_succ, ← Nat.div_div_eq_div_mul]; omega
theorem wds_ext {l : List Nat} {n k : Nat} (h : l.length = k) (he : ∀ i, i < k → l[i]? = some (dgw n i)) : l = wds n k := by
  apply List.ext_getElem?
  intro i
  by_cases hi : i < k
  · rw [he i hi, wds_dgw hi]
  · rw [List.getElem?_eq_none (by omega), List.getElem?_eq_none (by rw [wds_len]; omega)]
theorem wds_zero (k : Nat) : List.replicate k 0 = wds 0 k := wds_ext (by simp) fun i hi => by simp [dgw, hi]
theorem wds_set {Q n p v : Nat} (hp : p < n) (hv : v < 18446744073709551616) : ∃ Q', (wds Q n).set p v = wds Q' n ∧ Q' + dgw Q p * 18446744073709551616 ^ p = Q + v * 18446744073709551616 ^ p ∧ ∀ m, p < m → Q < 18446744073709551616 ^ m → Q' < 18446744073709551616 ^ m := by
  have e0 : Q = Q % 18446744073709551616 ^ p + (dgw Q p + Q / 18446744073709551616 ^ (p + 1) * 18446744073709551616) * 18446744073709551616 ^ p := by
    have h1 := Nat.div_add_mod' Q (18446744073709551616 ^ p)
    rw [high_stepW, Nat.add_comm (_ * 18446744073709551616)] at h1
    omega
  obtain ⟨Q', hQ⟩ : ∃ Q', Q' = Q % 18446744073709551616 ^ p + (v + Q / 18446744073709551616 ^ (p + 1) * 18446744073709551616) * 18446744073709551616 ^ p := ⟨_, rfl⟩
  have l1 := Nat.mod_lt Q (HposW p)
  have h1 : Q' % 18446744073709551616 ^ p = Q % 18446744073709551616 ^ p := by rw [hQ, Nat.add_mul_mod_self_right, Nat.mod_mod]
  have h2 : Q' / 18446744073709551616 ^ p = v + Q / 18446744073709551616 ^ (p + 1) * 18446744073709551616 := by rw [hQ, Nat.add_mul_div_right _ _ (HposW p), Nat.div_eq_of_lt l1, Nat.zero_add]
  have h3 : Q' / 18446744073709551616 ^ (p + 1) = Q / 18446744073709551616 ^ (p + 1) := by
    rw [Nat.pow_succ, ← Nat.div_div_eq_div_mul, h2, Nat.pow_succ]; omega
  refine ⟨Q', wds_ext (by rw [List.length_set, wds_len]) fun i hi => ?_, ?_, fun m hm h => ?_⟩
  · rw [List.getElem?_set]
    by_cases he : p = i
    · subst he
      rw [if_pos rfl, if_pos (by rw [wds_len]; exact hp)]
      unfold dgw
      rw [h2]
      congr 1
      omega
    · rw [if_neg he, wds_dgw hi]
      congr 1
      rcases Nat.lt_or_gt_of_ne he with h | h
      · rw [dgw_high (show p + 1 ≤ i by omega), dgw_high (show p + 1 ≤ i by omega), h3]
      · rw [← dgw_low h, ← h1, dgw_low h]
  · rw [hQ]
    conv => rhs; rw [e0]
    rw [Nat.add_mul, Nat.add_mul]; omega
  · obtain ⟨q, rfl⟩ : ∃ q, m = (p + 1) + q := ⟨m - (p + 1), by omega⟩
    rw [Nat.pow_add, Nat.mul_comm, ← Nat.div_lt_iff_lt_mul (HposW _)] at h ⊢
    rw [h3]; exact h
/-- The product with the digits below i. -/
def tpw (a b i : Nat) : Nat := a % 18446744073709551616 ^ i * b
/-- What holds within the row i, at the digit t: the number Q stands in the result, c is carried. -/
def TimesW (a b k i t Q c : Nat) : Prop := Q + c * 18446744073709551616 ^ (i + t) = tpw a b i + dgw a i * 18446744073709551616 ^ i * (b % 18446744073709551616 ^ t) ∧ Q < 18446744073709551616 ^ (i + k) ∧ c < 18446744073709551616
theorem TimesW.start {a b k i : Nat} (hb : b < 18446744073709551616 ^ k) : TimesW a b k i 0 (tpw a b i) 0 := by
  refine ⟨by simp [Nat.mod_one], ?_, by omega⟩
  unfold tpw
  rw [Nat.pow_add]
  exact Nat.mul_lt_mul_of_lt_of_le (Nat.mod_lt _ (HposW i)) (Nat.le_of_lt hb) (HposW k)
theorem mul_lt_sqW {x y : Nat} (hx : x < 18446744073709551616) (hy : y < 18446744073709551616) : x * y ≤ 340282366920938463426481119284349108225 := by
  have := Nat.mul_le_mul (show x ≤ 18446744073709551615 by omega) (show y ≤ 18446744073709551615 by omega)
  omega
theorem TimesW.next {a b j k i t Q c : Nat} (h : TimesW a b k i t Q c) (hi : i < j) (ht : t < k) : c + dgw Q (i + t) + dgw a i * dgw b t < 340282366920938463463374607431768211456 ∧ ∃ Q', (wds Q (j + k)).set (i + t) ((c + dgw Q (i + t) + dgw a i * dgw b t) % 18446744073709551616) = wds Q' (j + k) ∧ TimesW a b k i (t + 1) Q' ((c + dgw Q (i + t) + dgw a i * dgw b t) / 18446744073709551616) := by
  obtain ⟨h1, h2, h3⟩ := h
  have l1 := dgw_lt Q (i + t)
  have l2 := mul_lt_sqW (dgw_lt a i) (dgw_lt b t)
  refine ⟨by omega, ?_⟩
  obtain ⟨Q', e1, e2, e3⟩ := @wds_set Q (j + k) (i + t) ((c + dgw Q (i + t) + dgw a i * dgw b t) % 18446744073709551616) (by omega) (Nat.mod_lt _ (by decide))
  refine ⟨Q', e1, ?_, e3 _ (by omega) h2, by omega⟩
  have hs := Nat.div_add_mod' (c + dgw Q (i + t) + dgw a i * dgw b t) 18446744073709551616
  have hm : (c + dgw Q (i + t) + dgw a i * dgw b t) / 18446744073709551616 * 18446744073709551616 ^ (i + (t + 1)) = (c + dgw Q (i + t) + dgw a i * dgw b t) / 18446744073709551616 * 18446744073709551616 * 18446744073709551616 ^ (i + t) := by
    rw [show i + (t + 1) = i + t + 1 by omega, Nat.pow_succ, Nat.mul_comm (18446744073709551616 ^ (i + t)), Nat.mul_assoc]
  rw [hm, low_stepW b t, Nat.mul_add, ← Nat.add_assoc, ← h1]
  have hd : dgw a i * 18446744073709551616 ^ i * (dgw b t * 18446744073709551616 ^ t) = dgw a i * dgw b t * 18446744073709551616 ^ (i + t) := by
    rw [Nat.pow_add]; ac_rfl
  rw [hd]
  have hk : ∀ x y z : Nat, x / 18446744073709551616 * 18446744073709551616 + x % 18446744073709551616 = x := fun x _ _ => Nat.div_add_mod' x _
  generalize 18446744073709551616 ^ (i + t) = M at *
  generalize dgw a i * dgw b t = p at *
  generalize dgw Q (i + t) = q at *
  have e4 : (c + q + p) / 18446744073709551616 * 18446744073709551616 * M + (c + q + p) % 18446744073709551616 * M = (c + q + p) * M := by rw [← Nat.add_mul, hk _ 0 0]
  rw [Nat.add_mul, Nat.add_mul] at e4
  omega
theorem TimesW.out {a b j k i Q c : Nat} (h : TimesW a b k i k Q c) (hb : b < 18446744073709551616 ^ k) (hi : i < j) : (wds Q (j + k)).set (i + k) c = wds (tpw a b (i + 1)) (j + k) := by
  obtain ⟨h1, h2, h3⟩ := h
  obtain ⟨Q', e1, e2, _⟩ := @wds_set Q (j + k) (i + k) c (by omega) h3
  rw [dgw_none h2 (Nat.le_refl _), Nat.zero_mul, Nat.add_zero, h1, Nat.mod_eq_of_lt hb] at e2
  rw [e1, e2]
  unfold tpw
  rw [low_stepW a i, Nat.add_mul]
theorem tpw_zero (a b : Nat) : tpw a b 0 = 0 := by simp [tpw, Nat.mod_one]
theorem tpw_end {a b j : Nat} (ha : a < 18446744073709551616 ^ j) : tpw a b j = a * b := by rw [tpw, Nat.mod_eq_of_lt ha]
end Go.Proofs.YtbhokdhkfodpfaaGreatDoor
/- The program's product of natural numbers. No condition. -/
namespace Go.Proofs.YtbhokdhkfodpfaaGreatDoor
set_option linter.unusedVariables false
set_option linter.unusedSimpArgs false
variable {G : Gl}
set_option maxHeartbeats 4000000
set_option maxRecDepth 10000
theorem mask32 (a : Nat) : a &&& 4294967295 = a % 4294967296 := Nat.and_two_pow_sub_one_eq_mod a 32
theorem Mul64_does {x y : Nat} (hx : x < 18446744073709551616) (hy : y < 18446744073709551616) : Does Tryz.prog G 152 [.c (.n x), .c (.n y)] (.t [.c (.n (x * y / 18446744073709551616)), .c (.n (x * y % 18446744073709551616))]) := by
  obtain ⟨bd, bt, bw, hhi⟩ := Lib.mul64_hi x y hx hy
  have ba := Lib.half_mul_le (a := x / 4294967296) (b := y / 4294967296) (by omega) (by omega)
  have bb := Lib.half_mul_le (a := x / 4294967296) (b := y % 4294967296) (by omega) (by omega)
  have bc := Lib.half_mul_le (a := x % 4294967296) (b := y / 4294967296) (by omega) (by omega)
  generalize hxl : x % 4294967296 = xl at *
  generalize hxh : x / 4294967296 = xh at *
  generalize hyl : y % 4294967296 = yl at *
  generalize hyh : y / 4294967296 = yh at *
  have bx : x < M64 := hx
  have hy64 : y < M64 := hy
  have b0 : xl * yl < M64 := bd
  have b1 : xh * yl < M64 := by unfold M64; omega
  have b2 : xh * yl + xl * yl / 4294967296 < M64 := bt
  have b3 : xl * yh < M64 := by unfold M64; omega
  have b4 : (xh * yl + xl * yl / 4294967296) % 4294967296 + xl * yh < M64 := bw
  have b5 : xh * yh < M64 := by unfold M64; omega
  have b6 : xh * yh + (xh * yl + xl * yl / 4294967296) / 4294967296 < M64 := by unfold M64; omega
  have b7 : xh * yh + (xh * yl + xl * yl / 4294967296) / 4294967296 + ((xh * yl + xl * yl / 4294967296) % 4294967296 + xl * yh) / 4294967296 < M64 := by unfold M64; omega
  refine Does.of (nt := 51) Tryz.func152 rfl rfl rfl (by simp) ?_
  simp only [argTm, PV.ext, Ce.ext]
  refine Do.seqk fun _ k1_ => ?_
  refine Do.region [0,1] true ?_
  simp [go_sem, mask32, bx, hy64, hxl, hxh, hyl, hyh, b0, b1, b2, b3, b4, b5, b6, b7]
  apply k1_; clear k1_
  refine Do.seqk fun _ k2_ => ?_
  refine Do.region [0,1,6] true ?_
  simp [go_sem, mask32, bx, hy64, hxl, hxh, hyl, hyh, b0, b1, b2, b3, b4, b5, b6, b7]
  apply k2_; clear k2_
  refine Do.seqk fun _ k3_ => ?_
  refine Do.region [0,1,6,7] true ?_
  simp [go_sem, mask32, bx, hy64, hxl, hxh, hyl, hyh, b0, b1, b2, b3, b4, b5, b6, b7]
  repeat (refine And.intro (by first | omega | (intros; omega) | grind) ?_)
  apply k3_; clear k3_
  refine Do.seqk fun _ k4_ => ?_
  refine Do.region [0,1,6,7,8] true ?_
  simp [go_sem, mask32, bx, hy64, hxl, hxh, hyl, hyh, b0, b1, b2, b3, b4, b5, b6, b7]
  apply k4_; clear k4_
  refine Do.seqk fun _ k5_ => ?_
  refine Do.region [0,1,6,7,8,9] true ?_
  simp [go_sem, mask32, bx, hy64, hxl, hxh, hyl, hyh, b0, b1, b2, b3, b4, b5, b6, b7]
  repeat (refine And.intro (by first | omega | (intros; omega) | grind) ?_)
  apply k5_; clear k5_
  refine Do.seqk fun _ k6_ => ?_
  refine Do.region [0,1,6,7,8,9,10] true ?_
  simp [go_sem, mask32, bx, hy64, hxl, hxh, hyl, hyh, b0, b1, b2, b3, b4, b5, b6, b7]
  repeat (refine And.intro (by first | omega | (intros; omega) | grind) ?_)
  apply k6_; clear k6_
  refine Do.seqk fun _ k7_ => ?_
  refine Do.region [0,1,6,7,9,11] true ?_
  simp [go_sem, mask32, bx, hy64, hxl, hxh, hyl, hyh, b0, b1, b2, b3, b4, b5, b6, b7]
  repeat (refine And.intro (by first | omega | (intros; omega) | grind) ?_)
  apply k7_; clear k7_
  refine Do.seqk fun _ k8_ => ?_
  refine Do.region [0,1,6,7,9,11,12] true ?_
  simp [go_sem, mask32, bx, hy64, hxl, hxh, hyl, hyh, b0, b1, b2, b3, b4, b5, b6, b7]
  apply k8_; clear k8_
  refine Do.seqk fun _ k9_ => ?_
  refine Do.region [0,1,6,7,9,12,13] true ?_
  simp [go_sem, mask32, bx, hy64, hxl, hxh, hyl, hyh, b0, b1, b2, b3, b4, b5, b6, b7]
  repeat (refine And.intro (by first | omega | (intros; omega) | grind) ?_)
  apply k9_; clear k9_
  refine Do.seqk fun _ k10_ => ?_
  refine Do.region [0,1,7,9,12,13] true ?_
  simp [go_sem, mask32, bx, hy64, hxl, hxh, hyl, hyh, b0, b1, b2, b3, b4, b5, b6, b7]
  repeat (refine And.intro (by first | omega | (intros; omega) | grind) ?_)
  apply k10_; clear k10_
  refine Do.seqk fun _ k11_ => ?_
  refine Do.region [0,1,4] true ?_
  simp [go_sem, mask32, bx, hy64, hxl, hxh, hyl, hyh, b0, b1, b2, b3, b4, b5, b6, b7]
  repeat (refine And.intro (by first | omega | (intros; omega) | grind) ?_)
  apply k11_; clear k11_
  refine Do.seqk fun _ k12_ => ?_
  refine Do.region [4,5] false ?_
  simp [go_sem, mask32, bx, hy64, hxl, hxh, hyl, hyh, b0, b1, b2, b3, b4, b5, b6, b7]
  repeat (refine And.intro (by first | omega | (intros; omega) | grind) ?_)
  apply k12_; clear k12_
  refine Do.ret ?_
  simp [endQ, rets, ret1, go_sem, mask32, bx, hy64, hxl, hxh, hyl, hyh, b0, b1, b2, b3, b4, b5, b6, b7]
  repeat (refine And.intro (by first | omega | (intros; omega) | grind) ?_)
  rw [hhi]
  exact TLe.refl _
theorem mul_step {p q c hi lo l1 c1 l2 c2 : Nat} (hp : p ≤ 340282366920938463426481119284349108225) (hq : q < 18446744073709551616) (hc : c < 18446744073709551616)
    (e1 : p / 18446744073709551616 = hi) (e2 : p % 18446744073709551616 = lo) (e3 : (lo + q + 0) % 18446744073709551616 = l1) (e4 : (lo + q + 0) / 18446744073709551616 = c1) (e5 : (l1 + c + 0) % 18446744073709551616 = l2) (e6 : (l1 + c + 0) / 18446744073709551616 = c2) :
    (c + q + p) % 18446744073709551616 = l2 ∧ (c + q + p) / 18446744073709551616 = hi + c1 + c2 ∧ hi + c1 < 18446744073709551616 ∧ hi + c1 + c2 < 18446744073709551616 := by omega
theorem WMul_does {x y : List Nat} (hx : x.length < 536870912) (hy : y.length < 536870912) (wx : Ws x) (wy : Ws y) : Does Tryz.prog G 123 [Wd x, Wd y] (.v (Wn (nat (val x * val y)))) := by
  have hvx := @view_does G x (by unfold Sh; omega)
  have hvy := @view_does G y (by unfold Sh; omega)
  have hlx := norm_length x
  have hly := norm_length y
  have ltx := val_lt (norm_ws wx)
  have lty := val_lt (norm_ws wy)
  rw [val_norm] at ltx lty
  obtain ⟨j, hj⟩ : ∃ j, (norm x).length = j := ⟨_, rfl⟩
  obtain ⟨k, hk⟩ : ∃ k, (norm y).length = k := ⟨_, rfl⟩
  have ea : norm x = wds (val x) j := by rw [← hj, ← val_norm x]; exact (wds_of (norm_ws wx)).symm
  have eb : norm y = wds (val y) k := by rw [← hk, ← val_norm y]; exact (wds_of (norm_ws wy)).symm
  rw [hj] at ltx hlx
  rw [hk] at lty hly
  rw [ea] at hvx
  rw [eb] at hvy
  clear ea eb hj hk
  generalize val x = A at *
  generalize val y = B at *
  have hend := @tpw_end A B j ltx
  have hst := fun i => @TimesW.start A B k i lty
  have hout := fun i Q c (h : TimesW A B k i k Q c) hi => @TimesW.out A B j k i Q c h lty hi
  have hT := @Trim_does G (wds (A * B) (j + k)) (by unfold Sh; rw [wds_len]; omega) (wds_ws _ _)
  rw [val_wds, Nat.mod_eq_of_lt (by rw [Nat.pow_add]; exact Nat.mul_lt_mul'' ltx lty)] at hT
  have hz : j = 0 ∨ k = 0 → A * B = 0 := by
    rintro (h | h)
    · subst h; have : A = 0 := by simpa using ltx
      rw [this, Nat.zero_mul]
    · subst h; have : B = 0 := by simpa using lty
      rw [this, Nat.mul_zero]
  clear ltx lty
  refine Does.of (nt := 93) Tryz.func123 rfl rfl rfl (by simp) ?_
  simp only [argTm, PV.ext, Ce.ext]
  refine Do.seqk fun _ k1_ => ?_
  refine Do.region [0,1] true ?_
  simp [go_sem, wds_len, -List.reduceReplicate]
  apply k1_; clear k1_
  refine Do.seqk fun _ k2_ => ?_
  refine Do.region [0,1] true ?_
  simp [go_sem, wds_len, -List.reduceReplicate]
  refine DoL.call true 102 rfl rfl rfl rfl (by first | exact trivial | omega | (simp; done) | (simp; omega)) (hvx) rfl (by first | exact .inl rfl | exact .inr rfl) rfl ?_
  simp [go_sem, wds_len, -List.reduceReplicate]
  refine DoL.call true 104 rfl rfl rfl rfl (by first | exact trivial | omega | (simp; done) | (simp; omega)) (hvy) rfl (by first | exact .inl rfl | exact .inr rfl) rfl ?_
  simp [go_sem, wds_len, -List.reduceReplicate]
  apply k2_; clear k2_
  refine Do.seqk fun _ k3_ => ?_
  refine Do.seqk fun _ k4_ => ?_
  refine Do.region [0,1,25] true ?_
  simp [go_sem, wds_len, -List.reduceReplicate]
  repeat (refine And.intro (by first | omega | (intros; omega) | grind) ?_)
  apply k4_; clear k4_
  refine Do.cond [0,1] rfl (fun h0 => ?_) (fun h0 => ?_) <;> simp [go_sem, wds_len, -List.reduceReplicate] at h0 ⊢
  · refine Do.seqk fun _ k5_ => ?_
    refine Do.region [4] true ?_
    simp [go_sem, wds_len, -List.reduceReplicate]
    apply k5_; clear k5_
    refine Do.ret ?_
    simp [endQ, rets, ret1, go_sem, wds_len, -List.reduceReplicate]
    repeat (refine And.intro (by first | omega | (intros; omega) | grind) ?_)
    rw [hz (by omega), nat_zero]
    exact TLe.v (PLe.z true)
  · refine Do.skip ?_
    simp [go_sem]
    apply k3_; clear k3_
    refine Do.seqk fun _ k6_ => ?_
    refine Do.region [0,1,5] true ?_
    simp [go_sem, wds_len, -List.reduceReplicate]
    repeat (refine And.intro (by first | omega | (intros; omega) | grind) ?_)
    apply k6_; clear k6_
    refine Do.seqk fun _ k7_ => ?_
    refine Do.seqk fun _ k8_ => ?_
    refine Do.region [1,5,32,33,34] true ?_
    simp [go_sem, wds_len, -List.reduceReplicate]
    repeat (refine And.intro (by first | omega | (intros; omega) | grind) ?_)
    apply k8_; clear k8_
    refine Do.block ?_
    rw [show ((j : Int) + k).toNat = j + k by omega, wds_zero]
    refine Do.loopF [1,5,32,33,34] (fun (i : Nat) => [(34, .int .i64 i)]) (fun (i : Nat) => [(405, .wr (wds (tpw A B i) (j + k)))]) (fun (i : Nat) => i ≤ j) (fun (i : Nat) => j - i) (0) (fun _ => by first | (simp [go_sem, mixS]; done) | (simp [go_sem, mixS]; rfl)) (St.le_of (by simp [keep, tpw_zero]) (by simp [keep, tpw_zero])) (Nat.zero_le _) ?_
    intro i hi
    refine Do.seqk fun _ k9_ => ?_
    refine Do.region [1,5,32,33,34,35] true ?_
    simp [go_sem, wds_len, -List.reduceReplicate]
    apply k9_; clear k9_
    refine Do.seqk fun _ k10_ => ?_
    refine Do.cond [1,5,32,33,34] rfl (fun h => ?_) (fun h => ?_) <;> simp [go_sem, wds_len, -List.reduceReplicate] at h ⊢
    · have g2 := @wds_dgw j A i h
      have la := dgw_lt A i
      refine Do.skip ?_
      simp [go_sem]
      apply k10_; clear k10_
      refine Do.seqk fun _ k11_ => ?_
      refine Do.block ?_
      refine Do.seqk fun _ k12_ => ?_
      refine Do.region [1,5,6,7,32,33,34] true ?_
      simp [go_sem, g2, wds_len]
      repeat (refine And.intro (by first | omega | (intros; omega) | grind) ?_)
      apply k12_; clear k12_
      refine Do.seqk fun _ k13_ => ?_
      refine Do.region [1,5,6,7,8,32,33,34] true ?_
      simp [go_sem, g2, wds_len]
      apply k13_; clear k13_
      refine Do.seqk fun _ k14_ => ?_
      refine Do.seqk fun _ k15_ => ?_
      refine Do.region [1,5,6,7,8,32,33,34,39,40,41] true ?_
      simp [go_sem, g2, wds_len]
      repeat (refine And.intro (by first | omega | (intros; omega) | grind) ?_)
      apply k15_; clear k15_
      refine Do.block ?_
      refine Do.loopF [1,5,6,7,8,32,33,34,39,40,41] (fun (s : Nat × Nat × Nat) => [(8, .v (.c (.n s.2.2))), (41, .int .i64 s.1)]) (fun (s : Nat × Nat × Nat) => [(405, .wr (wds s.2.1 (j + k)))]) (fun (s : Nat × Nat × Nat) => s.1 ≤ k ∧ TimesW A B k i s.1 s.2.1 s.2.2) (fun (s : Nat × Nat × Nat) => k - s.1) ((0, tpw A B i, 0)) (fun _ => by first | (simp [go_sem, mixS]; done) | (simp [go_sem, mixS]; rfl)) (St.le_of (by first | rfl | simp [keep]) (by first | rfl | simp [keep])) (⟨Nat.zero_le _, hst i⟩) ?_
      rintro ⟨t, Q, c⟩ ⟨ht, hI⟩
      simp only at ht hI
      refine Do.seqk fun _ k16_ => ?_
      refine Do.region [1,5,6,7,8,32,33,34,39,40,41,42] true ?_
      simp [go_sem, g2, wds_len]
      apply k16_; clear k16_
      refine Do.seqk fun _ k17_ => ?_
      refine Do.cond [1,5,6,7,8,32,33,34,39,40,41] rfl (fun h2 => ?_) (fun h2 => ?_) <;> simp [go_sem, g2, wds_len] at h2 ⊢
      · obtain ⟨hb1, Q', e1, hI'⟩ := hI.next h h2
        have g1 := @wds_dgw (j + k) Q (i + t) (by omega)
        have g3 := @wds_dgw k B t h2
        have lq := dgw_lt Q (i + t)
        have lb := dgw_lt B t
        have l2 := mul_lt_sqW (dgw_lt A i) (dgw_lt B t)
        have hc := hI.2.2
        have hM := @Mul64_does G _ _ la lb
        obtain ⟨hh, eh⟩ : ∃ h, dgw A i * dgw B t / 18446744073709551616 = h := ⟨_, rfl⟩
        obtain ⟨lo, el⟩ : ∃ h, dgw A i * dgw B t % 18446744073709551616 = h := ⟨_, rfl⟩
        have hA1 := @Add64_does G lo (dgw Q (i + t)) 0 (Nat.zero_le _)
        obtain ⟨l1, e3⟩ : ∃ h, (lo + dgw Q (i + t) + 0) % 18446744073709551616 = h := ⟨_, rfl⟩
        obtain ⟨c1, e4⟩ : ∃ h, (lo + dgw Q (i + t) + 0) / 18446744073709551616 = h := ⟨_, rfl⟩
        have hA2 := @Add64_does G l1 c 0 (Nat.zero_le _)
        obtain ⟨w2, e5⟩ : ∃ h, (l1 + c + 0) % 18446744073709551616 = h := ⟨_, rfl⟩
        obtain ⟨c2, e6⟩ : ∃ h, (l1 + c + 0) / 18446744073709551616 = h := ⟨_, rfl⟩
        obtain ⟨s1, s2, s3, s4⟩ := mul_step l2 lq hc eh el e3 e4 e5 e6
        rw [eh, el] at hM
        rw [e3, e4] at hA1
        rw [e5, e6] at hA2
        rw [s1] at e1
        rw [s2] at hI'
        have b1 : hh + c1 < M64 := s3
        have b2 : hh + c1 + c2 < M64 := s4
        refine Do.skip ?_
        simp [go_sem]
        apply k17_; clear k17_
        refine Do.seqk fun _ k18_ => ?_
        refine Do.block ?_
        refine Do.seqk fun _ k19_ => ?_
        refine Do.region [1,5,6,7,8,9,10,32,33,34,39,40,41] true ?_
        simp [go_sem, g1, g2, g3, wds_len, b1, b2, show ((i : Int) + t).toNat = i + t by omega]
        repeat (refine And.intro (by first | omega | (intros; omega) | grind) ?_)
        apply k19_; clear k19_
        refine Do.seqk fun _ k20_ => ?_
        refine Do.region [1,5,6,7,8,9,11,12,32,33,34,39,40,41] true ?_
        simp [go_sem, g1, g2, g3, wds_len, b1, b2, show ((i : Int) + t).toNat = i + t by omega]
        refine DoL.call true 1203 rfl rfl rfl rfl (by first | exact trivial | omega | (simp; done) | (simp; omega)) (hM) rfl (by first | exact .inl rfl | exact .inr rfl) rfl ?_
        simp [go_sem, g1, g2, g3, wds_len, b1, b2, show ((i : Int) + t).toNat = i + t by omega]
        apply k20_; clear k20_
        refine Do.seqk fun _ k21_ => ?_
        refine Do.region [1,5,6,7,8,9,11,12,32,33,34,39,40,41] true ?_
        simp [go_sem, g1, g2, g3, wds_len, b1, b2, show ((i : Int) + t).toNat = i + t by omega]
        apply k21_; clear k21_
        refine Do.seqk fun _ k22_ => ?_
        refine Do.region [1,5,6,7,8,9,11,12,13,32,33,34,39,40,41] true ?_
        simp [go_sem, g1, g2, g3, wds_len, b1, b2, show ((i : Int) + t).toNat = i + t by omega]
        repeat (refine And.intro (by first | omega | (intros; omega) | grind) ?_)
        refine DoL.call true 1408 rfl rfl rfl rfl (by first | exact trivial | omega | (simp; done) | (simp; omega)) (hA1) rfl (by first | exact .inl rfl | exact .inr rfl) rfl ?_
        simp [go_sem, g1, g2, g3, wds_len, b1, b2, show ((i : Int) + t).toNat = i + t by omega]
        apply k22_; clear k22_
        refine Do.seqk fun _ k23_ => ?_
        refine Do.region [1,5,6,7,8,9,11,12,32,33,34,39,40,41] true ?_
        simp [go_sem, g1, g2, g3, wds_len, b1, b2, show ((i : Int) + t).toNat = i + t by omega]
        repeat (refine And.intro (by first | omega | (intros; omega) | grind) ?_)
        apply k23_; clear k23_
        refine Do.seqk fun _ k24_ => ?_
        refine Do.region [1,5,6,7,9,11,12,13,32,33,34,39,40,41] true ?_
        simp [go_sem, g1, g2, g3, wds_len, b1, b2, show ((i : Int) + t).toNat = i + t by omega]
        refine DoL.call true 1603 rfl rfl rfl rfl (by first | exact trivial | omega | (simp; done) | (simp; omega)) (hA2) rfl (by first | exact .inl rfl | exact .inr rfl) rfl ?_
        simp [go_sem, g1, g2, g3, wds_len, b1, b2, show ((i : Int) + t).toNat = i + t by omega]
        apply k24_; clear k24_
        refine Do.seqk fun _ k25_ => ?_
        refine Do.region [1,5,6,7,9,11,12,32,33,34,39,40,41] true ?_
        simp [go_sem, g1, g2, g3, wds_len, b1, b2, show ((i : Int) + t).toNat = i + t by omega]
        repeat (refine And.intro (by first | omega | (intros; omega) | grind) ?_)
        apply k25_; clear k25_
        refine Do.region [1,5,6,7,8,32,33,34,39,40,41] true ?_
        simp [go_sem, g1, g2, g3, wds_len, b1, b2, show ((i : Int) + t).toNat = i + t by omega]
        repeat (refine And.intro (by first | omega | (intros; omega) | grind) ?_)
        apply k18_; clear k18_
        refine Do.region [1,5,6,7,8,32,33,34,39,40,41] true ?_
        simp [go_sem, g1, g2, g3, wds_len, b1, b2, show ((i : Int) + t).toNat = i + t by omega]
        repeat (refine And.intro (by first | omega | (intros; omega) | grind) ?_)
        refine ⟨(t + 1, Q', hh + c1 + c2), St.le_of rfl (by simp [keep, e1]), ⟨by omega, hI'⟩, by simp; omega⟩
      · obtain rfl : t = k := by omega
        have ho := hout i Q c hI h
        refine Do.exit ?_
        simp [go_sem]
        apply k14_; clear k14_
        refine Do.region [1,5,32,33,34] true ?_
        simp [go_sem, wds_len, show ((i : Int) + t).toNat = i + t by omega]
        repeat (refine And.intro (by first | omega | (intros; omega) | grind) ?_)
        apply k11_; clear k11_
        refine Do.region [1,5,32,33,34] true ?_
        simp [go_sem, wds_len, show ((i : Int) + t).toNat = i + t by omega]
        repeat (refine And.intro (by first | omega | (intros; omega) | grind) ?_)
        refine ⟨i + 1, St.le_of rfl (by simp [keep, ho]), by omega, by simp; omega⟩
    · obtain rfl : i = j := by omega
      rw [hend]
      refine Do.exit ?_
      simp [go_sem]
      apply k7_; clear k7_
      refine Do.seqk fun _ k26_ => ?_
      refine Do.frz 405 rfl ?_
      simp [go_sem, wds_len]
      refine Do.region [4] true ?_
      simp [go_sem, wds_len, -List.reduceReplicate]
      refine DoL.call true 2202 rfl rfl rfl rfl (by first | exact trivial | omega | (simp; done) | (simp; omega)) (hT) rfl (by first | exact .inl rfl | exact .inr rfl) rfl ?_
      simp [go_sem, wds_len, -List.reduceReplicate]
      apply k26_; clear k26_
      refine Do.ret ?_
      simp [endQ, rets, ret1, go_sem, wds_len, -List.reduceReplicate]
      repeat (refine And.intro (by first | omega | (intros; omega) | grind) ?_)
      exact TLe.refl _
theorem NTimes_does {a b : Nu} (ha : (nat a.v).length < 536870912) (hb : (nat b.v).length < 536870912) (h1 : -4294967296 ≤ a.e ∧ a.e ≤ 4294967296) (h2 : -4294967296 ≤ b.e ∧ b.e ≤ 4294967296) : Does Tryz.prog G 91 [a.pv, b.pv] (.v (Nm (!a.n == b.n) (nat (a.v * b.v)) (a.e + b.e))) := by
  obtain ⟨an, av, ae⟩ := a
  obtain ⟨bn, bv, be⟩ := b
  have hM := @WMul_does G (nat av) (nat bv) ha hb (nat_ws _) (nat_ws _)
  rw [val_nat, val_nat] at hM
  generalize av * bv = cv at *
  refine Does.of (nt := 21) Tryz.func91 rfl rfl rfl (by simp) ?_
  simp only [argTm, PV.ext, Ce.ext]
  refine Do.seqk fun _ k1_ => ?_
  refine Do.region [2,3,4] true ?_
  simp [go_sem]
  apply k1_; clear k1_
  refine Do.seqk fun _ k2_ => ?_
  refine Do.draw [4] true (by kernel_rfl) ?_
  simp [go_sem]
  repeat (refine And.intro (by first | omega | (intros; omega) | kernel_rfl | grind) ?_)
  refine DoLD.call true 110 rfl rfl rfl rfl (by first | exact trivial | omega | (simp; done) | (simp; omega)) (hM) rfl (by first | exact .inl rfl | exact .inr rfl) rfl ?_
  simp [go_sem]
  repeat (refine And.intro (by first | omega | (intros; omega) | kernel_rfl | grind) ?_)
  try (refine And.intro (by kernel_rfl) ?_)
  apply k2_; clear k2_
  refine Do.ret ?_
  simp [endQ, rets, ret1, go_sem]
  repeat (refine And.intro (by first | omega | (intros; omega) | grind) ?_)
  exact TLe.v (PLe.nu (PLe.ext _))
end Go.Proofs.YtbhokdhkfodpfaaGreatDoor
/- A rounding without flags: the number is one of the format. No condition. -/
namespace Go.Proofs.YtbhokdhkfodpfaaGreatDoor
set_option linter.unusedVariables false
set_option linter.unusedSimpArgs false
set_option maxHeartbeats 4000000
set_option maxRecDepth 10000
end Go.Proofs.YtbhokdhkfodpfaaGreatDoor
/- The reference's products. No condition. -/
namespace Go.Proofs.YtbhokdhkfodpfaaGreatDoor
set_option linter.unusedVariables false
set_option linter.unusedSimpArgs false
variable {G : Gl}
set_option maxHeartbeats 4000000
set_option maxRecDepth 10000
theorem Rt.rc {x : Fla} (h : Rt x) : bl (rcanon x.flt).v ≤ 262144 ∧ (x.k = 1 → -1048576 ≤ (rcanon x.flt).e ∧ (rcanon x.flt).e ≤ 1048576 ∧ (rcanon x.flt).v ≠ 0) := by
  refine ⟨?_, fun hk => ?_⟩
  · have hb := bl_le_len h.ws (rv_le (k := x.k) (n := x.n) (e := x.e))
    have := h.len
    show bl (rcanon ⟨x.k, x.n, x.e, val x.m⟩).v ≤ 262144
    omega
  · have h1 := canon_one h.can hk
    refine ⟨?_, ?_, (Cf.of h.can).pos (by rw [rcanon_k]; exact hk)⟩
    · simp only [rcanon, show x.flt.k = 1 from hk, if_true]; omega
    · simp only [rcanon, show x.flt.k = 1 from hk, if_true]; omega
theorem bl_mul_le (x y : Nat) : bl (x * y) ≤ bl x + bl y := by
  rw [bl_lt, Nat.pow_add]
  rcases Nat.eq_zero_or_pos y with h | h
  · subst h; rw [Nat.mul_zero]; exact Nat.mul_pos (Nat.pow_pos (by decide)) (Nat.pow_pos (by decide))
  · exact Nat.mul_lt_mul'' (bl_self x) (bl_self y)
end Go.Proofs.YtbhokdhkfodpfaaGreatDoor
/- The program's products. No condition. -/
namespace Go.Proofs.YtbhokdhkfodpfaaGreatDoor
set_option linter.unusedVariables false
set_option linter.unusedSimpArgs false
set_option maxHeartbeats 4000000
set_option maxRecDepth 10000
/-- A term as cells. -/
abbrev Tp (t : Bool × Int × Nu) : PV := .a [.b t.1, .i .i64 t.2.1, .b t.2.2.n, .w false (nat t.2.2.v), .i .i64 t.2.2.e]
theorem PLe.tp {t : Bool × Int × Nu} {a : Bool} {k : Int} {n : Bool} {c : Ce} {e : Int} (h : PLe (.c c) (.c (.w false (nat t.2.2.v)))) (h1 : (a, k, n, e) = (t.1, t.2.1, t.2.2.n, t.2.2.e)) : PLe (.a [.b a, .i .i64 k, .b n, c, .i .i64 e]) (Tp t) := by
  simp only [Prod.mk.injEq] at h1
  obtain ⟨rfl, rfl, rfl, rfl⟩ := h1
  exact PLe.agg (.cons (PLe.refl _) (.cons (PLe.refl _) (.cons (PLe.refl _) (.cons h (.cons (PLe.refl _) .nil)))))
end Go.Proofs.YtbhokdhkfodpfaaGreatDoor
/- The product of two floats, by the program and by the reference. No condition. -/
namespace Go.Proofs.YtbhokdhkfodpfaaGreatDoor
set_option linter.unusedVariables false
set_option linter.unusedSimpArgs false
set_option maxHeartbeats 4000000
set_option maxRecDepth 10000
theorem held_cf {f p : Int} {x : Flt} (h : (holdsP f p x).2 = true) : Cf (holdsP f p x).1 := by
  rw [← (held_rcanon h).1]
  exact Cf.of (held_rcanon h).2
/-- Bounds of a float that is held. -/
theorem held_small {f p : Int} (hf : fmOk f p = true) {x : Flt} (h : (holdsP f p x).2 = true) : -100000 ≤ (holdsP f p x).1.e ∧ (holdsP f p x).1.e ≤ 100000 ∧ bl (holdsP f p x).1.v ≤ 256 ∧ ((holdsP f p x).1.k = 1 → (holdsP f p x).1.e + bl (holdsP f p x).1.v ≤ 16384) := by
  obtain ⟨b1, b2, b3, b4⟩ := fmOk_spec hf
  obtain ⟨b5, b6⟩ := gOfE_le b1 b2
  have hc := held_cf h
  unfold holdsP at h hc ⊢
  split at h
  · rename_i hh
    rw [if_pos hh] at hc ⊢
    have hk : (canon x).1.k ≠ 1 := by
      rcases hh with hh | hh
      · rw [h] at hh; cases hh
      · exact hh
    have hfx := hc.fix
    unfold rcanon at hfx
    rw [if_neg hk] at hfx
    have he : (canon x).1.e = 0 := by rw [← hfx]
    have hv : (canon x).1.v = 0 := by rw [← hfx]
    rw [he, hv, bl_zero]
    exact ⟨by omega, by omega, by omega, fun h => absurd h hk⟩
  · rename_i hh
    rw [if_neg hh] at hc ⊢
    simp only [Bool.and_eq_true, decide_eq_true_eq] at h
    simp only []
    simp only [not_or, Decidable.not_not] at hh
    have := bl_pos (show 0 < (canon x).1.v by have := hc.pos hh.2; simp only [] at this; omega)
    omega
end Go.Proofs.YtbhokdhkfodpfaaGreatDoor
/- Sums of products, by the program. No condition. -/
namespace Go.Proofs.YtbhokdhkfodpfaaGreatDoor
set_option linter.unusedVariables false
set_option linter.unusedSimpArgs false
set_option maxHeartbeats 4000000
set_option maxRecDepth 10000
end Go.Proofs.YtbhokdhkfodpfaaGreatDoor
/- Sums of products, by the reference. No condition. -/
namespace Go.Proofs.YtbhokdhkfodpfaaGreatDoor
set_option linter.unusedVariables false
set_option linter.unusedSimpArgs false
set_option maxHeartbeats 4000000
set_option maxRecDepth 10000
end Go.Proofs.YtbhokdhkfodpfaaGreatDoor
/- The program awake: products. No condition. -/
namespace Go.Proofs.YtbhokdhkfodpfaaGreatDoor
set_option linter.unusedVariables false
set_option linter.unusedSimpArgs false
set_option maxHeartbeats 4000000
set_option maxRecDepth 10000
end Go.Proofs.YtbhokdhkfodpfaaGreatDoor
/- The law ProductMuls. No condition. -/
namespace Go.Proofs.YtbhokdhkfodpfaaGreatDoor
set_option linter.unusedVariables false
set_option linter.unusedSimpArgs false
set_option maxHeartbeats 4000000
set_option maxRecDepth 10000
end Go.Proofs.YtbhokdhkfodpfaaGreatDoor
/- The law ProductFused. No condition. -/
namespace Go.Proofs.YtbhokdhkfodpfaaGreatDoor
set_option linter.unusedVariables false
set_option linter.unusedSimpArgs false
set_option maxHeartbeats 4000000
set_option maxRecDepth 10000
end Go.Proofs.YtbhokdhkfodpfaaGreatDoor
/- The law ProductDots. No condition. -/
namespace Go.Proofs.YtbhokdhkfodpfaaGreatDoor
set_option linter.unusedVariables false
set_option linter.unusedSimpArgs false
set_option maxHeartbeats 4000000
set_option maxRecDepth 10000
end Go.Proofs.YtbhokdhkfodpfaaGreatDoor
/- A shift of a signed number to the right. No condition. -/
namespace Go.Proofs.YtbhokdhkfodpfaaGreatDoor
set_option linter.unusedVariables false
set_option linter.unusedSimpArgs false
section
variable {P : Program} {G : Gl} {nt : Nat} {st : St} {cx : Cx} {a : Act} {W W' : World} {m : Nat → Option Nat} {QE : Exit → St → Prop} {ops l : List Oper} {Q : St → Prop}
theorem DoL.shrI {o : Oper} {x y : Operand} {t t' : TypeId} {u : Int} {b : Nat} (md : Bool) (lab : Nat) (hg : o.guard = none) (hop : o.op = .binOp .shr t x y t') (hx : opv st.tm x = some (.v (.c (.i .i64 u)))) (hy : opv st.tm y = some (.v (.c (.n b)))) (hb : b < 64) (hd : dstOk nt o.dst = true)
    (next : runs P G nt md ops Q lab l ⟨setv o.dst (some (.int .i64 (u / 2 ^ b))) st.tm, st.ob⟩) : DoL P G nt ops (o :: l) st Q := by
  intro cx a W hn ⟨m, hr⟩ Q' hQ
  refine wpList_plain hg fun K hK => ?_
  unfold Oper.wp
  have hxv : a.eval x = .int .i64 u := rt_i (hr.opv hx)
  have hyv : a.eval y = .int .u64 b := rt_n (hr.opv hy)
  have hexec : (execOp a.eval o).run P W = .ok (.value (.int .i64 (u / 2 ^ b))) W := by
    have h1 : (binOp .shr t (.int .i64 u) (.int .u64 b)).run P W = .ok (.int .i64 (u / 2 ^ b)) W := by
      simp [binOp, Op.shift, IntKind.bits, show ¬ (b : Int) < 0 by omega]
    simp [execOp, hop, hxv, hyv, eqGuard, h1]
  rw [hexec]
  exact hK _ _ (DoL.run next cx _ _ hn (Rel.put hr hn hd (x := .int .i64 (u / 2 ^ b)) (show _ = _ from rfl)) Q' hQ)
end
end Go.Proofs.YtbhokdhkfodpfaaGreatDoor
/- Powers. No condition. -/
namespace Go.Proofs.YtbhokdhkfodpfaaGreatDoor
set_option linter.unusedVariables false
set_option linter.unusedSimpArgs false
set_option maxHeartbeats 4000000
set_option maxRecDepth 10000
theorem pow_half (b k : Nat) : b ^ k = (b * b) ^ (k / 2) * b ^ (k % 2) := by
  conv => lhs; rw [← Nat.div_add_mod k 2, Nat.pow_add, Nat.pow_mul, Nat.pow_two]
theorem pow_le_self {b k : Nat} (hb : 0 < b) (hk : 0 < k) : b ≤ b ^ k := by
  obtain ⟨m, rfl⟩ : ∃ m, k = m + 1 := ⟨k - 1, by omega⟩
  rw [Nat.pow_succ]
  exact Nat.le_mul_of_pos_left _ (Nat.pow_pos hb)
/-- What holds within the loop of a power. -/
structure PowI (T k o b : Nat) : Prop where
  eq : o * b ^ k = T
  o : 0 < o
  b : 0 < b
theorem PowI.small {T k o b : Nat} (h : PowI T k o b) (hk : 0 < k) : o ≤ T ∧ b ≤ T ∧ o * b ≤ T ∧ (1 < k → b * b ≤ T) := by
  have h1 := pow_le_self h.b hk
  have hp := Nat.pow_pos (n := k) h.b
  have h2 : o ≤ o * b ^ k := Nat.le_mul_of_pos_right _ hp
  have h3 : b ^ k ≤ o * b ^ k := Nat.le_mul_of_pos_left _ h.o
  have h4 : o * b ≤ o * b ^ k := Nat.mul_le_mul_left _ h1
  rw [h.eq] at h2 h3 h4
  refine ⟨h2, by omega, h4, fun hk2 => ?_⟩
  have : b ^ 2 ≤ b ^ k := Nat.pow_le_pow_right h.b (by omega)
  rw [Nat.pow_two] at this
  omega
theorem PowI.odd {T k o b : Nat} (h : PowI T k o b) (hk : k % 2 = 1) : PowI T (k / 2) (o * b) (b * b) := by
  refine ⟨?_, Nat.mul_pos h.o h.b, Nat.mul_pos h.b h.b⟩
  rw [← h.eq, pow_half b k, hk, Nat.pow_one]
  rw [Nat.mul_assoc, Nat.mul_comm b]
theorem PowI.even {T k o b : Nat} (h : PowI T k o b) (hk : k % 2 = 0) : PowI T (k / 2) o (b * b) := by
  refine ⟨?_, h.o, Nat.mul_pos h.b h.b⟩
  rw [← h.eq, pow_half b k, hk, Nat.pow_zero, Nat.mul_one]
theorem PowI.last {T k o b b' : Nat} (h : PowI T (k / 2) o b) (hk : k ≤ 1) (hb : 0 < b') : PowI T (k / 2) o b' := by
  have : k / 2 = 0 := by omega
  rw [this] at h ⊢
  exact ⟨by have := h.eq; simpa using this, h.o, hb⟩
theorem WPow_does {v n : Nat} (hv : 0 < v) (hb : bl (v ^ n) ≤ 1000000) (hn : n ≤ 1000) : Does Tryz.prog Gv 149 [Wd (nat v), .c (.i .i64 n)] (.v (Wn (nat (v ^ n)))) := by
  obtain ⟨T, hT⟩ : ∃ T, v ^ n = T := ⟨_, rfl⟩
  have h0 : PowI T n 1 v := ⟨by rw [Nat.one_mul, hT], by omega, hv⟩
  have hlen : ∀ u, u ≤ T → (nat u).length < 536870912 := fun u hu => by
    have h1 := bl_mono hu
    have h2 := nat_len_bl u
    rw [hT] at hb
    omega
  rw [hT]
  clear hT hb
  refine Does.of (nt := 25) Tryz.func149 rfl rfl rfl (by simp) ?_
  simp only [argTm, PV.ext, Ce.ext]
  refine Do.seqk fun _ k1_ => ?_
  refine Do.region [0,1] true ?_
  simp [go_sem]
  apply k1_; clear k1_
  refine Do.seqk fun _ k2_ => ?_
  refine Do.region [0,1,5] true ?_
  simp [go_sem]
  apply k2_; clear k2_
  refine Do.seqk fun _ k3_ => ?_
  refine Do.seqk fun _ k4_ => ?_
  refine Do.frz 100 rfl ?_
  simp [go_sem]
  refine Do.region [1,5,6] true ?_
  simp [go_sem]
  apply k4_; clear k4_
  refine Do.block ?_
  refine Do.loopF [1,5,6] (fun (s : Nat × Nat × Nat) => [(1, .int .i64 s.1), (5, .v (Wn (nat s.2.1))), (6, .v (Wd (nat s.2.2)))]) (fun (s : Nat × Nat × Nat) => []) (fun (s : Nat × Nat × Nat) => s.1 ≤ n ∧ PowI T s.1 s.2.1 s.2.2) (fun (s : Nat × Nat × Nat) => s.1) ((n, 1, v)) (fun _ => by first | (simp [go_sem, mixS]; done) | (simp [go_sem, mixS]; rfl)) (St.le_of (by simp [keep, nat_one]) (by simp [keep])) (⟨Nat.le_refl _, h0⟩) ?_
  rintro ⟨k, o, b⟩ ⟨hk, hI⟩
  simp only [] at hk hI
  refine Do.seqk fun _ k5_ => ?_
  refine Do.seqk fun _ k6_ => ?_
  refine Do.region [1,5,6,10] true ?_
  simp [go_sem]
  apply k6_; clear k6_
  refine Do.cond [1,5,6] rfl (fun h1 => ?_) (fun h1 => ?_) <;> simp [go_sem] at h1 ⊢
  · have hpos : 0 < k := by omega
    obtain ⟨s1, s2, s3, s4⟩ := hI.small hpos
    have hM1 := @WMul_does Gv (nat o) (nat b) (hlen o s1) (hlen b s2) (nat_ws _) (nat_ws _)
    rw [val_nat, val_nat] at hM1
    have hM2 : Does Tryz.prog Gv 123 [Wd (nat b), Wd (nat b)] (.v (Wd (nat (b * b)))) := by
      have := @WMul_does Gv (nat b) (nat b) (hlen b s2) (hlen b s2) (nat_ws _) (nat_ws _)
      rw [val_nat] at this
      exact this.mono (TLe.v (PLe.ext (.c (.w true _))))
    have hkm : (k : Int) ≤ 9223372036854775807 := by omega
    refine Do.skip ?_
    simp [go_sem]
    apply k5_; clear k5_
    refine Do.seqk fun _ k7_ => ?_
    refine Do.block ?_
    refine Do.seqk fun _ k8_ => ?_
    refine Do.seqk fun _ k9_ => ?_
    refine Do.region [1,5,6,15] true ?_
    simp [go_sem, hkm]
    apply k9_; clear k9_
    refine Do.cond [1,5,6] rfl (fun h2 => ?_) (fun h2 => ?_) <;> simp [go_sem, hkm] at h2 ⊢
    · have hI2 := hI.odd (by omega)
      refine Do.region [1,5,6] true ?_
      simp [go_sem, hkm]
      refine DoL.call true 603 rfl rfl rfl rfl (by first | exact trivial | omega | (simp; done) | (simp; omega)) (hM1) rfl (by first | exact .inl rfl | exact .inr rfl) rfl ?_
      simp [go_sem, hkm]
      apply k8_; clear k8_
      refine Do.seqk fun _ k10_ => ?_
      refine Do.region [1,5,6,20] true ?_
      simp [go_sem, hkm]
      apply k10_; clear k10_
      refine Do.cond [1,5,6] rfl (fun h3 => ?_) (fun h3 => ?_) <;> simp [go_sem, hkm] at h3 ⊢
      · refine Do.region [1,5,6] true ?_
        simp [go_sem, hkm]
        refine DoL.call true 803 rfl rfl rfl rfl (by first | exact trivial | omega | (simp; done) | (simp; omega)) (hM2) rfl (by first | exact .inl rfl | exact .inr rfl) rfl ?_
        simp [go_sem, hkm]
        apply k7_; clear k7_
        refine Do.region [1,5,6] true ?_
        simp [go_sem, hkm]
        repeat (refine And.intro (by first | omega | (intros; omega) | grind) ?_)
        refine DoL.shrI true 402 rfl rfl rfl rfl (by decide) rfl ?_
        simp [go_sem]
        refine ⟨(k / 2, o * b, b * b), St.le_of (by first | rfl | simp [keep]) (by first | rfl | simp [keep]), ⟨by omega, hI2⟩, by simp; omega⟩
      · refine Do.skip ?_
        simp [go_sem]
        apply k7_; clear k7_
        refine Do.region [1,5,6] true ?_
        simp [go_sem, hkm]
        repeat (refine And.intro (by first | omega | (intros; omega) | grind) ?_)
        refine DoL.shrI true 402 rfl rfl rfl rfl (by decide) rfl ?_
        simp [go_sem]
        refine ⟨(k / 2, o * b, b), St.le_of (by first | rfl | simp [keep]) (by first | rfl | simp [keep]), ⟨by omega, hI2.last (by omega) hI.b⟩, by simp; omega⟩
    · have hI2 := hI.even (by omega)
      refine Do.skip ?_
      simp [go_sem]
      apply k8_; clear k8_
      refine Do.seqk fun _ k11_ => ?_
      refine Do.region [1,5,6,20] true ?_
      simp [go_sem, hkm]
      apply k11_; clear k11_
      refine Do.cond [1,5,6] rfl (fun h3 => ?_) (fun h3 => ?_) <;> simp [go_sem, hkm] at h3 ⊢
      · refine Do.region [1,5,6] true ?_
        simp [go_sem, hkm]
        refine DoL.call true 803 rfl rfl rfl rfl (by first | exact trivial | omega | (simp; done) | (simp; omega)) (hM2) rfl (by first | exact .inl rfl | exact .inr rfl) rfl ?_
        simp [go_sem, hkm]
        apply k7_; clear k7_
        refine Do.region [1,5,6] true ?_
        simp [go_sem, hkm]
        repeat (refine And.intro (by first | omega | (intros; omega) | grind) ?_)
        refine DoL.shrI true 402 rfl rfl rfl rfl (by decide) rfl ?_
        simp [go_sem]
        refine ⟨(k / 2, o, b * b), St.le_of (by first | rfl | simp [keep]) (by first | rfl | simp [keep]), ⟨by omega, hI2⟩, by simp; omega⟩
      · refine Do.skip ?_
        simp [go_sem]
        apply k7_; clear k7_
        refine Do.region [1,5,6] true ?_
        simp [go_sem, hkm]
        repeat (refine And.intro (by first | omega | (intros; omega) | grind) ?_)
        refine DoL.shrI true 402 rfl rfl rfl rfl (by decide) rfl ?_
        simp [go_sem]
        refine ⟨(k / 2, o, b), St.le_of (by first | rfl | simp [keep]) (by first | rfl | simp [keep]), ⟨by omega, hI2.last (by omega) hI.b⟩, by simp; omega⟩
  · refine Do.exit ?_
    simp [go_sem]
    apply k3_; clear k3_
    refine Do.seqk fun _ k12_ => ?_
    refine Do.region [4] true ?_
    simp [go_sem]
    apply k12_; clear k12_
    refine Do.ret ?_
    simp [endQ, rets, ret1, go_sem]
    repeat (refine And.intro (by first | omega | (intros; omega) | grind) ?_)
    obtain rfl : k = 0 := by omega
    have := hI.eq
    simp at this
    rw [this]
    exact TLe.refl _
end Go.Proofs.YtbhokdhkfodpfaaGreatDoor
