/- The law ProductMany holds, for every input: lists of up to 1002 copies of a float of up to 40 words: more than 1000 are an error; otherwise the sum of so many equal products, rounded once. Conditions: the two listed package variables hold what the program's text lays (tied by the card). -/
import Derived.Test.YthpkhmbjmnhmoaaGreatDoorMm
import Derived.Test.YthpkhmbjmnhmoaaGreatDoorMj
import Derived.Test.YthpkhmbjmnhmoaaGreatDoorMl
import Derived.Test.YthpkhmbjmnhmoaaGreatDoorMk
import Derived.Test.YthpkhmbjmnhmoaaGreatDoorCards
import Derived.Test.YthpkhmbjmnhmoaaGreatDoorTie
import Derived.SevenTiedAt
/- Rounding of the reference for a number with a power of 2 below. No condition. -/
namespace Go.Proofs.YthpkhmbjmnhmoaaGreatDoor
set_option linter.unusedVariables false
set_option linter.unusedSimpArgs false
variable {G : Gl}
set_option maxHeartbeats 8000000
set_option maxRecDepth 10000
/-- A real number of the reference with a power of 2 below. -/
abbrev RlQ (n : Bool) (v t : Nat) : PV := .a [.b n, .w false (nat v), .w false (nat (2 ^ t)), .i .i64 0, .i .i64 1]
theorem bl_twoQ (k : Nat) : bl (2 ^ k) = k + 1 := by have := bl_mul_pow 1 k (by decide); rw [Nat.one_mul] at this; rw [this]; rfl
theorem RLogQ {v t : Nat} (hv : 0 < v) (hb : bl v ≤ 16777216) (ht : t ≤ 16777216) : Does Tryz.prog G 137 [Wd (nat v), Wd (nat (2 ^ t)), .c (.i .i64 0)] (.int .i64 (bl v - 1 - t)) := by
  have hbt := bl_twoQ t
  have lv := nat_len_of hb
  have lt : (nat (2 ^ t)).length ≤ 16777217 := nat_len_of (by omega)
  have h1 := @RLen_does G (nat v) (by omega) (nat_ws _)
  have h2 := @RLen_does G (nat (2 ^ t)) (by omega) (nat_ws _)
  rw [val_nat] at h1 h2
  rw [hbt] at h2
  have hp := bl_pos hv
  have hlow : 2 ^ (bl v - 1) ≤ v := (bl_le _ _).1 (by omega)
  by_cases hd : t + 1 < bl v
  · obtain ⟨k, hk⟩ : ∃ k, bl v = t + 1 + k := ⟨bl v - (t + 1), by omega⟩
    have h3 := @RLeft_does G (nat (2 ^ t)) k (by omega) (nat_ws _) (by omega)
    rw [val_nat, ← Nat.pow_add] at h3
    have l3 : (nat (2 ^ (t + k))).length ≤ 33554433 := nat_len_of (by rw [bl_twoQ]; omega)
    have h4 := @RCmp_does G (nat v) (nat (2 ^ (t + k))) (by omega) (nat_ws _) (by omega) (nat_ws _)
    rw [val_nat, val_nat] at h4
    have hc : ¬ cmpP v (2 ^ (t + k)) < 0 := by
      rw [show bl v - 1 = t + k by omega] at hlow
      unfold cmpP
      rw [if_neg (by omega)]
      split <;> omega
    generalize cmpP v (2 ^ (t + k)) = c at *
    generalize 2 ^ (t + k) = B at *
    generalize 2 ^ t = D at *
    refine Does.of (nt := 35) Tryz.func137 rfl rfl rfl (by simp) ?_
    simp only [argTm, PV.ext, Ce.ext]
    refine Do.seqk fun _ k1_ => ?_
    refine Do.region [0,1,2] true ?_
    simp [go_sem]
    apply k1_; clear k1_
    refine Do.seqk fun _ k2_ => ?_
    refine Do.region [0,1,2,7] true ?_
    simp [go_sem]
    refine DoL.call true 102 rfl rfl rfl rfl (by first | exact trivial | omega | (simp; done) | (simp; omega)) (h1) rfl (by first | exact .inl rfl | exact .inr rfl) rfl ?_
    simp [go_sem]
    refine DoL.call true 104 rfl rfl rfl rfl (by first | exact trivial | omega | (simp; done) | (simp; omega)) (h2) rfl (by first | exact .inl rfl | exact .inr rfl) rfl ?_
    simp [go_sem]
    repeat (refine And.intro (by first | omega | (intros; omega) | (intros; exact And.intro (by assumption) (by omega)) | grind) ?_)
    apply k2_; clear k2_
    refine Do.seqk fun _ k3_ => ?_
    refine Do.region [0,1,2,7,8,9] true ?_
    simp [go_sem, show ((bl v : Nat) : Int) - ((t : Int) + 1) = k by omega, show ((bl v : Nat) : Int) - ((t + 1 : Nat) : Int) = k by omega]
    apply k3_; clear k3_
    refine Do.seqk fun _ k4_ => ?_
    refine Do.seqk fun _ k5_ => ?_
    refine Do.region [0,1,2,7,8,9,18] true ?_
    simp [go_sem, show ((bl v : Nat) : Int) - ((t : Int) + 1) = k by omega, show ((bl v : Nat) : Int) - ((t + 1 : Nat) : Int) = k by omega]
    apply k5_; clear k5_
    refine Do.cond [0,1,2,7,8,9] rfl (fun g => ?_) (fun g => ?_) <;> simp [go_sem, show ((bl v : Nat) : Int) - ((t : Int) + 1) = k by omega, show ((bl v : Nat) : Int) - ((t + 1 : Nat) : Int) = k by omega] at g ⊢
    · refine Do.region [2,7,8,9] true ?_
      simp [go_sem, show ((bl v : Nat) : Int) - ((t : Int) + 1) = k by omega, show ((bl v : Nat) : Int) - ((t + 1 : Nat) : Int) = k by omega]
      refine DoL.call true 403 rfl rfl rfl rfl (by first | exact trivial | omega | (simp; done) | (simp; omega)) (h3) rfl (by first | exact .inl rfl | exact .inr rfl) rfl ?_
      simp [go_sem, show ((bl v : Nat) : Int) - ((t : Int) + 1) = k by omega, show ((bl v : Nat) : Int) - ((t + 1 : Nat) : Int) = k by omega]
      apply k4_; clear k4_
      refine Do.seqk fun _ k6_ => ?_
      refine Do.seqk fun _ k7_ => ?_
      refine Do.region [2,7,29] true ?_
      simp [go_sem, show ((bl v : Nat) : Int) - ((t : Int) + 1) = k by omega, show ((bl v : Nat) : Int) - ((t + 1 : Nat) : Int) = k by omega]
      refine DoL.call true 603 rfl rfl rfl rfl (by first | exact trivial | omega | (simp; done) | (simp; omega)) (h4) rfl (by first | exact .inl rfl | exact .inr rfl) rfl ?_
      simp [go_sem, show ((bl v : Nat) : Int) - ((t : Int) + 1) = k by omega, show ((bl v : Nat) : Int) - ((t + 1 : Nat) : Int) = k by omega]
      apply k7_; clear k7_
      refine Do.cond [2,7] rfl (fun g2 => ?_) (fun g2 => ?_) <;> simp [go_sem, show ((bl v : Nat) : Int) - ((t : Int) + 1) = k by omega, show ((bl v : Nat) : Int) - ((t + 1 : Nat) : Int) = k by omega] at g2 ⊢
      · exact absurd g2 hc
      · refine Do.skip ?_
        simp [go_sem]
        apply k6_; clear k6_
        refine Do.seqk fun _ k8_ => ?_
        refine Do.region [6] true ?_
        simp [go_sem, show ((bl v : Nat) : Int) - ((t : Int) + 1) = k by omega, show ((bl v : Nat) : Int) - ((t + 1 : Nat) : Int) = k by omega]
        repeat (refine And.intro (by first | omega | (intros; omega) | (intros; exact And.intro (by assumption) (by omega)) | grind) ?_)
        apply k8_; clear k8_
        refine Do.ret ?_
        simp [endQ, rets, ret1, go_sem, show ((bl v : Nat) : Int) - ((t : Int) + 1) = k by omega, show ((bl v : Nat) : Int) - ((t + 1 : Nat) : Int) = k by omega]
        repeat (refine And.intro (by first | omega | (intros; omega) | (intros; exact And.intro (by assumption) (by omega)) | grind) ?_)
        exact ret_i (by omega)
    · omega
  · obtain ⟨k, hk⟩ : ∃ k, t + 1 = bl v + k := ⟨t + 1 - bl v, by omega⟩
    have h3 := @RLeft_does G (nat v) k (by omega) (nat_ws _) (by omega)
    rw [val_nat] at h3
    have l3 : (nat (v * 2 ^ k)).length ≤ 50331648 := nat_len_of (by rw [bl_mul_pow _ _ hv]; omega)
    have h4 := @RCmp_does G (nat (v * 2 ^ k)) (nat (2 ^ t)) (by omega) (nat_ws _) (by omega) (nat_ws _)
    rw [val_nat, val_nat] at h4
    have hc : ¬ cmpP (v * 2 ^ k) (2 ^ t) < 0 := by
      have h5 := Nat.mul_le_mul_right (2 ^ k) hlow
      rw [← Nat.pow_add, show bl v - 1 + k = t by omega] at h5
      unfold cmpP
      rw [if_neg (by omega)]
      split <;> omega
    generalize cmpP (v * 2 ^ k) (2 ^ t) = c at *
    generalize v * 2 ^ k = B at *
    generalize 2 ^ t = D at *
    refine Does.of (nt := 35) Tryz.func137 rfl rfl rfl (by simp) ?_
    simp only [argTm, PV.ext, Ce.ext]
    refine Do.seqk fun _ k1_ => ?_
    refine Do.region [0,1,2] true ?_
    simp [go_sem]
    apply k1_; clear k1_
    refine Do.seqk fun _ k2_ => ?_
    refine Do.region [0,1,2,7] true ?_
    simp [go_sem]
    refine DoL.call true 102 rfl rfl rfl rfl (by first | exact trivial | omega | (simp; done) | (simp; omega)) (h1) rfl (by first | exact .inl rfl | exact .inr rfl) rfl ?_
    simp [go_sem]
    refine DoL.call true 104 rfl rfl rfl rfl (by first | exact trivial | omega | (simp; done) | (simp; omega)) (h2) rfl (by first | exact .inl rfl | exact .inr rfl) rfl ?_
    simp [go_sem]
    repeat (refine And.intro (by first | omega | (intros; omega) | (intros; exact And.intro (by assumption) (by omega)) | grind) ?_)
    apply k2_; clear k2_
    refine Do.seqk fun _ k3_ => ?_
    refine Do.region [0,1,2,7,8,9] true ?_
    simp [go_sem, show ((bl v : Nat) : Int) - ((t : Int) + 1) = -(k : Int) by omega, show ((bl v : Nat) : Int) - ((t + 1 : Nat) : Int) = -(k : Int) by omega]
    apply k3_; clear k3_
    refine Do.seqk fun _ k4_ => ?_
    refine Do.seqk fun _ k5_ => ?_
    refine Do.region [0,1,2,7,8,9,18] true ?_
    simp [go_sem, show ((bl v : Nat) : Int) - ((t : Int) + 1) = -(k : Int) by omega, show ((bl v : Nat) : Int) - ((t + 1 : Nat) : Int) = -(k : Int) by omega]
    apply k5_; clear k5_
    refine Do.cond [0,1,2,7,8,9] rfl (fun g => ?_) (fun g => ?_) <;> simp [go_sem, show ((bl v : Nat) : Int) - ((t : Int) + 1) = -(k : Int) by omega, show ((bl v : Nat) : Int) - ((t + 1 : Nat) : Int) = -(k : Int) by omega] at g ⊢
    · omega
    · refine Do.region [2,7,8,9] true ?_
      simp [go_sem, show ((bl v : Nat) : Int) - ((t : Int) + 1) = -(k : Int) by omega, show ((bl v : Nat) : Int) - ((t + 1 : Nat) : Int) = -(k : Int) by omega]
      repeat (refine And.intro (by first | omega | (intros; omega) | (intros; exact And.intro (by assumption) (by omega)) | grind) ?_)
      refine DoL.call true 504 rfl rfl rfl rfl (by first | exact trivial | omega | (simp; done) | (simp; omega)) (h3) rfl (by first | exact .inl rfl | exact .inr rfl) rfl ?_
      simp [go_sem, show ((bl v : Nat) : Int) - ((t : Int) + 1) = -(k : Int) by omega, show ((bl v : Nat) : Int) - ((t + 1 : Nat) : Int) = -(k : Int) by omega]
      apply k4_; clear k4_
      refine Do.seqk fun _ k6_ => ?_
      refine Do.seqk fun _ k7_ => ?_
      refine Do.region [2,7,29] true ?_
      simp [go_sem, show ((bl v : Nat) : Int) - ((t : Int) + 1) = -(k : Int) by omega, show ((bl v : Nat) : Int) - ((t + 1 : Nat) : Int) = -(k : Int) by omega]
      refine DoL.call true 603 rfl rfl rfl rfl (by first | exact trivial | omega | (simp; done) | (simp; omega)) (h4) rfl (by first | exact .inl rfl | exact .inr rfl) rfl ?_
      simp [go_sem, show ((bl v : Nat) : Int) - ((t : Int) + 1) = -(k : Int) by omega, show ((bl v : Nat) : Int) - ((t + 1 : Nat) : Int) = -(k : Int) by omega]
      apply k7_; clear k7_
      refine Do.cond [2,7] rfl (fun g2 => ?_) (fun g2 => ?_) <;> simp [go_sem, show ((bl v : Nat) : Int) - ((t : Int) + 1) = -(k : Int) by omega, show ((bl v : Nat) : Int) - ((t + 1 : Nat) : Int) = -(k : Int) by omega] at g2 ⊢
      · exact absurd g2 hc
      · refine Do.skip ?_
        simp [go_sem]
        apply k6_; clear k6_
        refine Do.seqk fun _ k8_ => ?_
        refine Do.region [6] true ?_
        simp [go_sem, show ((bl v : Nat) : Int) - ((t : Int) + 1) = -(k : Int) by omega, show ((bl v : Nat) : Int) - ((t + 1 : Nat) : Int) = -(k : Int) by omega]
        repeat (refine And.intro (by first | omega | (intros; omega) | (intros; exact And.intro (by assumption) (by omega)) | grind) ?_)
        apply k8_; clear k8_
        refine Do.ret ?_
        simp [endQ, rets, ret1, go_sem, show ((bl v : Nat) : Int) - ((t : Int) + 1) = -(k : Int) by omega, show ((bl v : Nat) : Int) - ((t + 1 : Nat) : Int) = -(k : Int) by omega]
        repeat (refine And.intro (by first | omega | (intros; omega) | (intros; exact And.intro (by assumption) (by omega)) | grind) ?_)
        exact ret_i (by omega)
theorem RExpQ {n : Bool} {v t : Nat} (hv : 0 < v) (hb : bl v ≤ 16777216) (ht : t ≤ 16777216) : Does Tryz.prog G 91 [RlQ n v t] (.int .i64 (bl v - 1 - t)) := by
  have h1 := @RLogQ G v t hv hb ht
  have h2 := @floor_does G (bl v - 1 - t) ⟨by omega, by omega⟩
  generalize (bl v : Int) - 1 - t = E at *
  refine Does.of (nt := 13) Tryz.func91 rfl rfl rfl (by simp) ?_
  simp only [argTm, PV.ext, Ce.ext]
  refine Do.seqk fun _ k1_ => ?_
  refine Do.region [1] true ?_
  simp [go_sem]
  apply k1_; clear k1_
  refine Do.seqk fun _ k2_ => ?_
  refine Do.draw [2] true (by kernel_rfl) ?_
  simp [go_sem]
  repeat (refine And.intro (by first | omega | (intros; omega) | (intros; exact And.intro (by assumption) (by omega)) | kernel_rfl | grind) ?_)
  refine DoLD.call true 107 rfl rfl rfl rfl (by first | exact trivial | omega | (simp; done) | (simp; omega)) (h1) rfl (by first | exact .inl rfl | exact .inr rfl) rfl ?_
  simp [go_sem]
  repeat (refine And.intro (by first | omega | (intros; omega) | (intros; exact And.intro (by assumption) (by omega)) | kernel_rfl | grind) ?_)
  refine DoLD.call true 110 rfl rfl rfl rfl (by first | exact trivial | omega | (simp; done) | (simp; omega)) (h2) rfl (by first | exact .inl rfl | exact .inr rfl) rfl ?_
  simp [go_sem]
  try (refine And.intro (by kernel_rfl) ?_)
  apply k2_; clear k2_
  refine Do.ret ?_
  simp [endQ, rets, ret1, go_sem]
  repeat (refine And.intro (by first | omega | (intros; omega) | (intros; exact And.intro (by assumption) (by omega)) | grind) ?_)
  exact TLe.refl _
theorem StepsQ_up {n : Bool} {v t k : Nat} {s : Int} (hk : 1 - s = k) (hb : bl v ≤ 16777216) (ht : t ≤ 16777216) (hk2 : k ≤ 16777217) : Does Tryz.prog G 95 [RlQ n v t, .c (.i .i64 s)] (.v (Pt (v * 2 ^ k / 2 ^ t / 2) (decide (v * 2 ^ k / 2 ^ t % 2 = 1)) (!decide (v * 2 ^ k % 2 ^ t = 0)))) := by
  have hbt := bl_twoQ t
  have lv := nat_len_of hb
  have lt : (nat (2 ^ t)).length ≤ 16777217 := nat_len_of (by omega)
  have h1 := @RLeft_does G (nat v) k (by omega) (nat_ws _) (by omega)
  rw [val_nat] at h1
  have hb2 : bl (v * 2 ^ k) ≤ 33554433 := by
    by_cases h0 : v = 0
    · subst h0; simp [bl_zero]
    · rw [bl_mul_pow _ _ (by omega)]; omega
  have l2 := nat_len_of hb2
  have h2 := @RDivMod_does G (nat (v * 2 ^ k)) (nat (2 ^ t)) (by omega) (nat_ws _) (by omega) (nat_ws _) (by rw [val_nat]; exact Nat.pow_pos (by decide))
  rw [val_nat, val_nat] at h2
  have l3 := nat_len_of (Nat.le_trans (bl_mono (Nat.div_le_self (v * 2 ^ k) (2 ^ t))) hb2)
  have l4 := nat_len_of (Nat.le_trans (bl_mono (Nat.mod_le (v * 2 ^ k) (2 ^ t))) hb2)
  have h3 := @IsZero_does G (nat (v * 2 ^ k % 2 ^ t)) (by omega) (nat_ws _)
  have h4 := @RRight_does G (nat (v * 2 ^ k / 2 ^ t)) 1 (by omega) (nat_ws _) (by decide)
  have h5 := @RBit_does G (nat (v * 2 ^ k / 2 ^ t)) (by omega) (nat_ws _) 0 (by constructor <;> decide)
  rw [val_nat] at h3 h4 h5
  simp only [Nat.pow_one, Int.toNat_zero, Nat.pow_zero, Nat.div_one, decide_true, Bool.true_and, Int.le_refl] at h3 h4 h5
  generalize v * 2 ^ k / 2 ^ t = q at *
  generalize v * 2 ^ k % 2 ^ t = w at *
  generalize v * 2 ^ k = X at *
  have hmul : (1 : Int) * (s - 1) = s - 1 := Int.one_mul _
  have hneg : -(s - 1) = (k : Int) := by omega
  have hneg2 : 1 - s = (k : Int) := hk
  refine Does.of (nt := 82) Tryz.func95 rfl rfl rfl (by simp) ?_
  simp only [argTm, PV.ext, Ce.ext]
  refine Do.seqk fun _ k1_ => ?_
  refine Do.region [1,2,4] true ?_
  simp [go_sem, hmul, hneg, hneg2]
  apply k1_; clear k1_
  refine Do.seqk fun _ k2_ => ?_
  refine Do.region [2,4,5] true ?_
  simp [go_sem, hmul, hneg, hneg2]
  repeat (refine And.intro (by first | omega | (intros; omega) | (intros; exact And.intro (by assumption) (by omega)) | grind) ?_)
  apply k2_; clear k2_
  refine Do.seqk fun _ k3_ => ?_
  refine Do.region [2,4,5] true ?_
  simp [go_sem, hmul, hneg, hneg2]
  apply k3_; clear k3_
  refine Do.seqk fun _ k4_ => ?_
  refine Do.region [2,4,5] true ?_
  simp [go_sem, hmul, hneg, hneg2]
  apply k4_; clear k4_
  refine Do.seqk fun _ k5_ => ?_
  refine Do.seqk fun _ k6_ => ?_
  refine Do.region [2,4,5,22] true ?_
  simp [go_sem, hmul, hneg, hneg2]
  apply k6_; clear k6_
  refine Do.cond [2,4,5] rfl (fun h => ?_) (fun h => ?_) <;> simp [go_sem, hmul, hneg, hneg2] at h ⊢
  refine Do.seqk fun _ k7_ => ?_
  refine Do.draw [2,4,8,9] true (by kernel_rfl) ?_
  simp [go_sem, hmul, hneg, hneg2]
  repeat (refine And.intro (by first | omega | (intros; omega) | (intros; exact And.intro (by assumption) (by omega)) | kernel_rfl | grind) ?_)
  refine DoLD.call true 504 rfl rfl rfl rfl (by first | exact trivial | omega | (simp; done) | (simp; omega)) (h1) rfl (by first | exact .inl rfl | exact .inr rfl) rfl ?_
  simp [go_sem, hmul, hneg, hneg2]
  repeat (refine And.intro (by first | omega | (intros; omega) | (intros; exact And.intro (by assumption) (by omega)) | kernel_rfl | grind) ?_)
  refine DoLD.call true 507 rfl rfl rfl rfl (by first | exact trivial | omega | (simp; done) | (simp; omega)) (h2) rfl (by first | exact .inl rfl | exact .inr rfl) rfl ?_
  simp [go_sem, hmul, hneg, hneg2]
  try (refine And.intro (by kernel_rfl) ?_)
  apply k7_; clear k7_
  refine Do.region [2,4,6,7] true ?_
  simp [go_sem, hmul, hneg, hneg2]
  refine DoL.call true 603 rfl rfl rfl rfl (by first | exact trivial | omega | (simp; done) | (simp; omega)) (h3) rfl (by first | exact .inl rfl | exact .inr rfl) rfl ?_
  simp [go_sem, hmul, hneg, hneg2]
  apply k5_; clear k5_
  refine Do.seqk fun _ k8_ => ?_
  refine Do.seqk fun _ k9_ => ?_
  refine Do.region [2,4,6,7,59] true ?_
  simp [go_sem, hmul, hneg, hneg2]
  repeat (refine And.intro (by first | omega | (intros; omega) | (intros; exact And.intro (by assumption) (by omega)) | grind) ?_)
  apply k9_; clear k9_
  refine Do.cond [2,4,6,7] rfl (fun h => ?_) (fun h => ?_) <;> simp [go_sem, hmul, hneg, hneg2] at h ⊢
  refine Do.skip ?_
  simp [go_sem]
  apply k8_; clear k8_
  refine Do.seqk fun _ k10_ => ?_
  refine Do.region [4] true ?_
  simp [go_sem, hmul, hneg, hneg2]
  refine DoL.call true 1402 rfl rfl rfl rfl (by first | exact trivial | omega | (simp; done) | (simp; omega)) (h4) rfl (by first | exact .inl rfl | exact .inr rfl) rfl ?_
  simp [go_sem, hmul, hneg, hneg2]
  refine DoL.call true 1404 rfl rfl rfl rfl (by first | exact trivial | omega | (simp; done) | (simp; omega)) (h5) rfl (by first | exact .inl rfl | exact .inr rfl) rfl ?_
  simp [go_sem, hmul, hneg, hneg2]
  repeat (refine And.intro (by first | omega | (intros; omega) | (intros; exact And.intro (by assumption) (by omega)) | grind) ?_)
  apply k10_; clear k10_
  refine Do.ret ?_
  simp [endQ, rets, ret1, go_sem, hmul, hneg, hneg2]
  repeat (refine And.intro (by first | omega | (intros; omega) | (intros; exact And.intro (by assumption) (by omega)) | grind) ?_)
  exact pt_le (PLe.ext (.c (.w true _)))
theorem StepsQ_down {n : Bool} {v t k : Nat} {s : Int} (hk : s - 1 = k) (hk0 : 0 < k) (hb : bl v ≤ 16777216) (ht : t ≤ 16777216) (hk2 : k ≤ 16777217) : Does Tryz.prog G 95 [RlQ n v t, .c (.i .i64 s)] (.v (Pt (v / 2 ^ t / 2 ^ k / 2) (decide (v / 2 ^ t / 2 ^ k % 2 = 1)) (!(decide (v % 2 ^ t = 0) && decide (v / 2 ^ t % 2 ^ k = 0))))) := by
  have hbt := bl_twoQ t
  have lv := nat_len_of hb
  have lt : (nat (2 ^ t)).length ≤ 16777217 := nat_len_of (by omega)
  have h2 := @RDivMod_does G (nat v) (nat (2 ^ t)) (by omega) (nat_ws _) (by omega) (nat_ws _) (by rw [val_nat]; exact Nat.pow_pos (by decide))
  rw [val_nat, val_nat] at h2
  have lq := Nat.le_trans (bl_mono (Nat.div_le_self v (2 ^ t))) hb
  have l3 := nat_len_of lq
  have l4 := nat_len_of (Nat.le_trans (bl_mono (Nat.mod_le v (2 ^ t))) hb)
  have h1 := @RRight_does G (nat (v / 2 ^ t)) k (by omega) (nat_ws _) (by omega)
  have h3 := @IsZero_does G (nat (v % 2 ^ t)) (by omega) (nat_ws _)
  have h6 := @RLow_does G (nat (v / 2 ^ t)) k (by omega) (nat_ws _) (by omega)
  rw [val_nat] at h1 h3 h6
  have l5 := nat_len_of (Nat.le_trans (bl_mono (Nat.div_le_self (v / 2 ^ t) (2 ^ k))) lq)
  have l6 := nat_len_of (Nat.le_trans (bl_mono (Nat.mod_le (v / 2 ^ t) (2 ^ k))) lq)
  have h7 := @IsZero_does G (nat (v / 2 ^ t % 2 ^ k)) (by omega) (nat_ws _)
  have h4 := @RRight_does G (nat (v / 2 ^ t / 2 ^ k)) 1 (by omega) (nat_ws _) (by decide)
  have h5 := @RBit_does G (nat (v / 2 ^ t / 2 ^ k)) (by omega) (nat_ws _) 0 (by constructor <;> decide)
  rw [val_nat] at h4 h5 h7
  simp only [Nat.pow_one, Int.toNat_zero, Nat.pow_zero, Nat.div_one, decide_true, Bool.true_and, Int.le_refl] at h4 h5
  generalize v / 2 ^ t / 2 ^ k = q at *
  generalize v / 2 ^ t % 2 ^ k = w at *
  generalize v / 2 ^ t = q0 at *
  generalize hr : v % 2 ^ t = r0 at *
  have hmul : (1 : Int) * (s - 1) = s - 1 := Int.one_mul _
  have hneg : ¬ (k : Int) ≤ 0 := by omega
  have hneg2 : ¬ k = 0 := by omega
  refine Does.of (nt := 82) Tryz.func95 rfl rfl rfl (by simp) ?_
  simp only [argTm, PV.ext, Ce.ext]
  refine Do.seqk fun _ k1_ => ?_
  refine Do.region [1,2,4] true ?_
  simp [go_sem, hmul, hk, hneg, hneg2]
  apply k1_; clear k1_
  refine Do.seqk fun _ k2_ => ?_
  refine Do.region [2,4,5] true ?_
  simp [go_sem, hmul, hk, hneg, hneg2]
  repeat (refine And.intro (by first | omega | (intros; omega) | (intros; exact And.intro (by assumption) (by omega)) | grind) ?_)
  apply k2_; clear k2_
  refine Do.seqk fun _ k3_ => ?_
  refine Do.region [2,4,5] true ?_
  simp [go_sem, hmul, hk, hneg, hneg2]
  apply k3_; clear k3_
  refine Do.seqk fun _ k4_ => ?_
  refine Do.region [2,4,5] true ?_
  simp [go_sem, hmul, hk, hneg, hneg2]
  apply k4_; clear k4_
  refine Do.seqk fun _ k5_ => ?_
  refine Do.seqk fun _ k6_ => ?_
  refine Do.region [2,4,5,22] true ?_
  simp [go_sem, hmul, hk, hneg, hneg2]
  apply k6_; clear k6_
  refine Do.cond [2,4,5] rfl (fun h => ?_) (fun h => ?_) <;> simp [go_sem, hmul, hk, hneg, hneg2] at h ⊢
  refine Do.seqk fun _ k7_ => ?_
  refine Do.region [2,4,5,10,11] true ?_
  simp [go_sem, hmul, hk, hneg, hneg2]
  repeat (refine And.intro (by first | omega | (intros; omega) | (intros; exact And.intro (by assumption) (by omega)) | grind) ?_)
  refine DoL.call true 705 rfl rfl rfl rfl (by first | exact trivial | omega | (simp; done) | (simp; omega)) (h2) rfl (by first | exact .inl rfl | exact .inr rfl) rfl ?_
  simp [go_sem, hmul, hk, hneg, hneg2]
  apply k7_; clear k7_
  refine Do.seqk fun _ k8_ => ?_
  refine Do.region [2,4,5,6,10,11] true ?_
  simp [go_sem, hmul, hk, hneg, hneg2]
  repeat (refine And.intro (by first | omega | (intros; omega) | (intros; exact And.intro (by assumption) (by omega)) | grind) ?_)
  refine DoL.call true 804 rfl rfl rfl rfl (by first | exact trivial | omega | (simp; done) | (simp; omega)) (h1) rfl (by first | exact .inl rfl | exact .inr rfl) rfl ?_
  simp [go_sem, hmul, hk, hneg, hneg2]
  apply k8_; clear k8_
  refine Do.region [2,4,6,7] true ?_
  simp [go_sem, hmul, hk, hneg, hneg2]
  refine DoL.call true 902 rfl rfl rfl rfl (by first | exact trivial | omega | (simp; done) | (simp; omega)) (h3) rfl (by first | exact .inl rfl | exact .inr rfl) rfl ?_
  simp [go_sem, hmul, hk, hneg, hneg2]
  repeat (refine And.intro (by first | omega | (intros; omega) | (intros; exact And.intro (by assumption) (by omega)) | grind) ?_)
  refine DoL.callg true 907 rfl rfl rfl rfl rfl (by simp [go_sem] <;> omega) (fun _ => h6) rfl (by first | exact .inl rfl | exact .inr rfl) rfl ?_
  simp [go_sem, hmul, hk, hneg, hneg2]
  refine DoL.callg true 908 rfl rfl rfl rfl rfl (by simp [go_sem] <;> omega) (fun _ => h7) rfl (by first | exact .inl rfl | exact .inr rfl) rfl ?_
  simp [go_sem, hmul, hk, hneg, hneg2]
  apply k5_; clear k5_
  refine Do.seqk fun _ k9_ => ?_
  refine Do.seqk fun _ k10_ => ?_
  refine Do.region [2,4,6,7,59] true ?_
  simp [go_sem, hmul, hk, hneg, hneg2]
  repeat (refine And.intro (by first | omega | (intros; omega) | (intros; exact And.intro (by assumption) (by omega)) | grind) ?_)
  apply k10_; clear k10_
  refine Do.cond [2,4,6,7] rfl (fun h => ?_) (fun h => ?_) <;> simp [go_sem, hmul, hk, hneg, hneg2] at h ⊢
  refine Do.skip ?_
  simp [go_sem]
  apply k9_; clear k9_
  refine Do.seqk fun _ k11_ => ?_
  refine Do.region [4] true ?_
  simp [go_sem, hmul, hk, hneg, hneg2]
  refine DoL.call true 1402 rfl rfl rfl rfl (by first | exact trivial | omega | (simp; done) | (simp; omega)) (h4) rfl (by first | exact .inl rfl | exact .inr rfl) rfl ?_
  simp [go_sem, hmul, hk, hneg, hneg2]
  refine DoL.call true 1404 rfl rfl rfl rfl (by first | exact trivial | omega | (simp; done) | (simp; omega)) (h5) rfl (by first | exact .inl rfl | exact .inr rfl) rfl ?_
  simp [go_sem, hmul, hk, hneg, hneg2]
  repeat (refine And.intro (by first | omega | (intros; omega) | (intros; exact And.intro (by assumption) (by omega)) | grind) ?_)
  apply k11_; clear k11_
  refine Do.ret ?_
  simp [endQ, rets, ret1, go_sem, hmul, hk, hneg, hneg2]
  repeat (refine And.intro (by first | omega | (intros; omega) | (intros; exact And.intro (by assumption) (by omega)) | grind) ?_)
  exact pt_le (PLe.ext (.c (.w true _)))
theorem StepsQ {n : Bool} {v t : Nat} {s : Int} (hb : bl v ≤ 16777216) (ht : t ≤ 16777216) (hs : -16777216 ≤ s) (hs2 : s ≤ 16777216) : ∃ hh tt, Does Tryz.prog G 95 [RlQ n v t, .c (.i .i64 s)] (.v (Pt (cutP v (s + t) false).1 hh tt)) ∧ pcode hh tt = (cutP v (s + t) false).2 := by
  have hD : 0 < 2 ^ t := Nat.pow_pos (by decide)
  by_cases h1 : s ≤ 1
  · obtain ⟨k, hk⟩ : ∃ k : Nat, 1 - s = k := ⟨(1 - s).toNat, by omega⟩
    have hS := @StepsQ_up G n v t k s hk hb ht (by omega)
    refine ⟨decide (v * 2 ^ k / 2 ^ t % 2 = 1), !decide (v * 2 ^ k % 2 ^ t = 0), ?_⟩
    by_cases hc : s + t ≤ 0
    · obtain ⟨m, hm⟩ : ∃ m, k = m + 1 + t := ⟨k - 1 - t, by omega⟩
      have e1 : v * 2 ^ k = v * 2 ^ m * 2 * 2 ^ t := by rw [hm, Nat.pow_add, Nat.pow_succ]; ac_rfl
      rw [e1, Nat.mul_div_cancel _ hD, Nat.mul_mod_left] at hS ⊢
      have e2 : cutP v (s + t) false = (v * 2 ^ m, 0) := by
        unfold cutP
        rw [if_pos hc, show (-(s + (t : Int))).toNat = m by omega]; rfl
      rw [e2]
      rw [Nat.mul_div_cancel _ (by decide), Nat.mul_mod_left] at hS
      rw [Nat.mul_mod_left]
      exact ⟨hS, rfl⟩
    · obtain ⟨m, hm⟩ : ∃ m, t = k + m := ⟨t - k, by omega⟩
      have hK : 0 < 2 ^ k := Nat.pow_pos (by decide)
      have e1 : v * 2 ^ k / 2 ^ t = v / 2 ^ m := by rw [hm, Nat.pow_add, Nat.mul_comm (2 ^ k), Nat.mul_div_mul_right _ _ hK]
      have e2 : v * 2 ^ k % 2 ^ t = 0 ↔ v % 2 ^ m = 0 := by
        rw [hm, Nat.pow_add, Nat.mul_comm (2 ^ k), Nat.mul_mod_mul_right]
        constructor
        · intro h
          rcases Nat.mul_eq_zero.1 h with h | h
          · exact h
          · omega
        · intro h; rw [h, Nat.zero_mul]
      rw [e1] at hS ⊢
      simp only [e2] at hS ⊢
      have hcm : (s + (t : Int)) = m + 1 := by omega
      unfold cutP
      rw [if_neg hc, hcm, show ((m : Int) + 1).toNat = m + 1 by omega, show ((m : Int) + 1 - 1).toNat = m by omega, Nat.pow_succ, ← Nat.div_div_eq_div_mul]
      refine ⟨hS, ?_⟩
      by_cases g1 : v / 2 ^ m % 2 = 1 <;> by_cases g2 : v % 2 ^ m = 0 <;> simp [g1, g2, pcode]
  · obtain ⟨k, hk⟩ : ∃ k : Nat, s - 1 = k := ⟨(s - 1).toNat, by omega⟩
    have hS := @StepsQ_down G n v t k s hk (by omega) hb ht (by omega)
    refine ⟨decide (v / 2 ^ t / 2 ^ k % 2 = 1), !(decide (v % 2 ^ t = 0) && decide (v / 2 ^ t % 2 ^ k = 0)), ?_⟩
    have e1 : v / 2 ^ t / 2 ^ k = v / 2 ^ (t + k) := by rw [Nat.div_div_eq_div_mul, ← Nat.pow_add]
    have e2 : (decide (v % 2 ^ t = 0) && decide (v / 2 ^ t % 2 ^ k = 0)) = decide (v % 2 ^ (t + k) = 0) := by
      rw [Nat.pow_add, Nat.mod_mul]
      by_cases g1 : v % 2 ^ t = 0 <;> by_cases g2 : v / 2 ^ t % 2 ^ k = 0
      · simp [g1, g2]
      · have := Nat.mul_pos hD (Nat.pos_of_ne_zero g2)
        simp [g1, g2]; omega
      · simp [g1]
      · simp [g1]
    rw [e1, e2] at hS ⊢
    have hcm : (s + (t : Int)) = (t + k : Nat) + 1 := by omega
    unfold cutP
    rw [if_neg (by omega), hcm, show (((t + k : Nat) : Int) + 1).toNat = t + k + 1 by omega, show (((t + k : Nat) : Int) + 1 - 1).toNat = t + k by omega, Nat.pow_succ, ← Nat.div_div_eq_div_mul]
    refine ⟨hS, ?_⟩
    by_cases g1 : v / 2 ^ (t + k) % 2 = 1 <;> by_cases g2 : v % 2 ^ (t + k) = 0 <;> simp [g1, g2, pcode]
theorem RoundQ_new {f p r : Int} (hf : fmOk f p = true) (hr : 0 ≤ r) (hr' : r ≤ 4) {n : Bool} {v t : Nat} {e : Int} (het : e = -(t : Int)) (hv : 0 < v) (hb : bl v ≤ 4194304) (he : t ≤ 4194304) : Does Tryz.prog G 51 [Fm f p, .c (.i .i64 r), RlQ n v t] (.t [(roundP f p r n v e false).1.pw, .c (.i .i64 (roundP f p r n v e false).2)]) := by
  obtain ⟨b1, b2, b3, b4⟩ := fmOk_spec hf
  obtain ⟨b5, b6⟩ := gOfE_le b1 b2
  have hE := @RExpQ G n v t hv (by omega) (by omega)
  rw [show (bl v : Int) - 1 - t = e + bl v - 1 by omega] at hE
  have hG := @RGreatest_does G f p hf
  have hL := @RLeast_does G f p hf
  have hB := @beyond_does G f p r n hf
  have ho := @roundP_over f p r hf n v e hv
  by_cases h : gOfE f < e + bl v - 1
  · rw [ho h]
    generalize beyP f p r n = y at *
    generalize e + (bl v : Int) - 1 = E at *
    generalize gOfE f = g at *
    refine Does.of (nt := 78) Tryz.func51 rfl rfl rfl (by simp) ?_
    simp only [argTm, PV.ext, Ce.ext]
    refine Do.seqk fun _ k1_ => ?_
    refine Do.region [1,3,5,6] true ?_
    simp [go_sem, h]
    apply k1_; clear k1_
    refine Do.seqk fun _ k2_ => ?_
    refine Do.region [1,3,5,6,8] true ?_
    simp [go_sem, h]
    repeat (refine And.intro (by first | omega | (intros; omega) | (intros; exact And.intro (by assumption) (by omega)) | grind) ?_)
    refine DoL.call true 102 rfl rfl rfl rfl (by first | exact trivial | omega | (simp; done) | (simp; omega)) (hE) rfl (by first | exact .inl rfl | exact .inr rfl) rfl ?_
    simp [go_sem, h]
    apply k2_; clear k2_
    refine Do.seqk fun _ k3_ => ?_
    refine Do.seqk fun _ k4_ => ?_
    refine Do.region [1,3,5,6,8,18] true ?_
    simp [go_sem, h]
    repeat (refine And.intro (by first | omega | (intros; omega) | (intros; exact And.intro (by assumption) (by omega)) | grind) ?_)
    refine DoL.call true 203 rfl rfl rfl rfl (by first | exact trivial | omega | (simp; done) | (simp; omega)) (hG) rfl (by first | exact .inl rfl | exact .inr rfl) rfl ?_
    simp [go_sem, h]
    apply k4_; clear k4_
    refine Do.cond [1,3,5,6,8] rfl (fun h1 => ?_) (fun h1 => ?_) <;> simp [go_sem, h] at h1 ⊢
    refine Do.seqk fun _ k5_ => ?_
    refine Do.region [6,7] true ?_
    simp [go_sem, h]
    repeat (refine And.intro (by first | omega | (intros; omega) | (intros; exact And.intro (by assumption) (by omega)) | grind) ?_)
    refine DoL.call true 305 rfl rfl rfl rfl (by first | exact trivial | omega | (simp; done) | (simp; omega)) (hB) rfl (by first | exact .inl rfl | exact .inr rfl) rfl ?_
    simp [go_sem, h]
    repeat (refine And.intro (by first | omega | (intros; omega) | (intros; exact And.intro (by assumption) (by omega)) | grind) ?_)
    apply k5_; clear k5_
    refine Do.ret ?_
    simp [endQ, rets, ret1, go_sem, h]
    repeat (refine And.intro (by first | omega | (intros; omega) | (intros; exact And.intro (by assumption) (by omega)) | grind) ?_)
    exact TLe.refl _
  · have hu : -100000 ≤ stepP f p (e + bl v - 1) ∧ stepP f p (e + bl v - 1) ≤ 5000000 := by unfold stepP; split <;> omega
    have hlen := @roundP_len f p r hf n v e hv
    have hcz := @cutP_zero v (stepP f p (e + bl v - 1) - e) hv
    obtain ⟨hh, tt, hS, hcode⟩ := @StepsQ G n v t (stepP f p (e + bl v - 1)) (by omega) (by omega) (by omega) (by omega)
    rw [show stepP f p (e + bl v - 1) + (t : Int) = stepP f p (e + bl v - 1) - e by omega] at hS hcode
    have hcl := cutP_bl v (stepP f p (e + bl v - 1) - e) false
    have hR := @Rounded_does G r hr hr' n hh tt (cutP v (stepP f p (e + bl v - 1) - e) false).1 (by omega)
    have hge := upP_ge r n (cutP v (stepP f p (e + bl v - 1) - e) false).1 (cutP v (stepP f p (e + bl v - 1) - e) false).2
    have hql := upP_bl r n (cutP v (stepP f p (e + bl v - 1) - e) false).1 (cutP v (stepP f p (e + bl v - 1) - e) false).2
    have hstep : stepP f p (e + bl v - 1) = (if e + bl v - 1 < 1 - gOfE f then 1 - gOfE f else e + bl v - 1) - p + 1 := by unfold stepP; split <;> omega
    rw [hcode] at hR
    generalize hz : roundP f p r n v e false = z
    unfold roundP at hz
    simp only [] at hz
    generalize stepP f p (e + bl v - 1) = u at *
    generalize hq : upP r n (cutP v (u - e) false).1 (cutP v (u - e) false).2 = q at *
    have hqn : (nat q).length ≤ 16777216 := nat_len_of (by omega)
    have hQ := @RLen_does G (nat q) (by omega) (nat_ws _)
    have hZ := @IsZero_does G (nat q) (by omega) (nat_ws _)
    have hC := @Canonical_new G 1 u n (nat q) (by omega) (nat_ws _) (by constructor <;> omega)
    rw [val_nat] at hQ hZ hC
    generalize cutP v (u - e) false = c at *
    have hbey : beyP f p r n = if grP r n then ⟨1, n, gOfE f - p + 1, 2 ^ p.toNat - 1⟩ else ⟨2, n, 0, 0⟩ := rfl
    generalize e + (bl v : Int) - 1 = E at *
    generalize gOfE f = g at *
    generalize beyP f p r n = y at *
    refine Does.of (nt := 78) Tryz.func51 rfl rfl rfl (by simp) ?_
    simp only [argTm, PV.ext, Ce.ext]
    refine Do.seqk fun _ k1_ => ?_
    refine Do.region [1,3,5,6] true ?_
    simp [go_sem, h]
    apply k1_; clear k1_
    refine Do.seqk fun _ k2_ => ?_
    refine Do.region [1,3,5,6,8] true ?_
    simp [go_sem, h]
    repeat (refine And.intro (by first | omega | (intros; omega) | (intros; exact And.intro (by assumption) (by omega)) | grind) ?_)
    refine DoL.call true 102 rfl rfl rfl rfl (by first | exact trivial | omega | (simp; done) | (simp; omega)) (hE) rfl (by first | exact .inl rfl | exact .inr rfl) rfl ?_
    simp [go_sem, h]
    apply k2_; clear k2_
    refine Do.seqk fun _ k3_ => ?_
    refine Do.seqk fun _ k4_ => ?_
    refine Do.region [1,3,5,6,8,18] true ?_
    simp [go_sem, h]
    repeat (refine And.intro (by first | omega | (intros; omega) | (intros; exact And.intro (by assumption) (by omega)) | grind) ?_)
    refine DoL.call true 203 rfl rfl rfl rfl (by first | exact trivial | omega | (simp; done) | (simp; omega)) (hG) rfl (by first | exact .inl rfl | exact .inr rfl) rfl ?_
    simp [go_sem, h]
    apply k4_; clear k4_
    refine Do.cond [1,3,5,6,8] rfl (fun h1 => ?_) (fun h1 => ?_) <;> simp [go_sem, h] at h1 ⊢
    refine Do.skip ?_
    simp [go_sem]
    apply k3_; clear k3_
    refine Do.seqk fun _ k5_ => ?_
    refine Do.draw [1,3,5,6,8,9] true (by kernel_rfl) ?_
    simp [go_sem, h]
    repeat (refine And.intro (by first | omega | (intros; omega) | (intros; exact And.intro (by assumption) (by omega)) | kernel_rfl | grind) ?_)
    refine DoLD.call true 403 rfl rfl rfl rfl (by first | exact trivial | omega | (simp; done) | (simp; omega)) (hL) rfl (by first | exact .inl rfl | exact .inr rfl) rfl ?_
    simp [go_sem, h]
    repeat (refine And.intro (by first | omega | (intros; omega) | (intros; exact And.intro (by assumption) (by omega)) | kernel_rfl | grind) ?_)
    rw [← hstep]
    try (refine And.intro (by kernel_rfl) ?_)
    apply k5_; clear k5_
    refine Do.seqk fun _ k6_ => ?_
    refine Do.draw [1,3,5,6,8,9,10,11] true (by kernel_rfl) ?_
    simp [go_sem, h]
    repeat (refine And.intro (by first | omega | (intros; omega) | (intros; exact And.intro (by assumption) (by omega)) | kernel_rfl | grind) ?_)
    refine DoLD.call true 506 rfl rfl rfl rfl (by first | exact trivial | omega | (simp; done) | (simp; omega)) (hS) rfl (by first | exact .inl rfl | exact .inr rfl) rfl ?_
    simp [go_sem, h]
    refine DoLD.call true 507 rfl rfl rfl rfl (by first | exact trivial | omega | (simp; done) | (simp; omega)) (hR) rfl (by first | exact .inl rfl | exact .inr rfl) rfl ?_
    simp [go_sem, h]
    try (refine And.intro (by kernel_rfl) ?_)
    apply k6_; clear k6_
    refine Do.seqk fun _ k7_ => ?_
    refine Do.block ?_
    refine Do.seqk fun _ k8_ => ?_
    refine Do.draw [1,3,5,6,8,9,10,11,42] true (by kernel_rfl) ?_
    simp [go_sem, h]
    refine DoLD.call true 602 rfl rfl rfl rfl (by first | exact trivial | omega | (simp; done) | (simp; omega)) (hQ) rfl (by first | exact .inl rfl | exact .inr rfl) rfl ?_
    simp [go_sem, h]
    repeat (refine And.intro (by first | omega | (intros; omega) | (intros; exact And.intro (by assumption) (by omega)) | kernel_rfl | grind) ?_)
    refine DoLD.call true 606 rfl rfl rfl rfl (by first | exact trivial | omega | (simp; done) | (simp; omega)) (hG) rfl (by first | exact .inl rfl | exact .inr rfl) rfl ?_
    simp [go_sem, h]
    repeat (refine And.intro (by first | omega | (intros; omega) | (intros; exact And.intro (by assumption) (by omega)) | kernel_rfl | grind) ?_)
    try (refine And.intro (by kernel_rfl) ?_)
    apply k8_; clear k8_
    refine Do.cond [1,3,5,6,8,9,10,11] rfl (fun h2 => ?_) (fun h2 => ?_) <;> simp [go_sem, h] at h2 ⊢
    · refine Do.seqk fun _ k9_ => ?_
      refine Do.region [6,7] true ?_
      simp [go_sem, h]
      repeat (refine And.intro (by first | omega | (intros; omega) | (intros; exact And.intro (by assumption) (by omega)) | grind) ?_)
      refine DoL.call true 705 rfl rfl rfl rfl (by first | exact trivial | omega | (simp; done) | (simp; omega)) (hB) rfl (by first | exact .inl rfl | exact .inr rfl) rfl ?_
      simp [go_sem, h]
      repeat (refine And.intro (by first | omega | (intros; omega) | (intros; exact And.intro (by assumption) (by omega)) | grind) ?_)
      apply k9_; clear k9_
      refine Do.ret ?_
      simp [endQ, rets, ret1, go_sem, h]
      repeat (refine And.intro (by first | omega | (intros; omega) | (intros; exact And.intro (by assumption) (by omega)) | grind) ?_)
      rw [← hz, if_pos (by omega), ← hbey]
      exact TLe.refl _
    · refine Do.seqk fun _ k10_ => ?_
      refine Do.region [3,5,6,8,9,10,11,56] true ?_
      simp [go_sem, h]
      refine DoL.call true 802 rfl rfl rfl rfl (by first | exact trivial | omega | (simp; done) | (simp; omega)) (hZ) rfl (by first | exact .inl rfl | exact .inr rfl) rfl ?_
      simp [go_sem, h]
      apply k10_; clear k10_
      refine Do.cond [3,5,6,8,9,10,11] rfl (fun h3 => ?_) (fun h3 => ?_) <;> simp [go_sem, h] at h3 ⊢
      · refine Do.seqk fun _ k11_ => ?_
        refine Do.region [6,7] true ?_
        simp [go_sem, h]
        repeat (refine And.intro (by first | omega | (intros; omega) | (intros; exact And.intro (by assumption) (by omega)) | grind) ?_)
        apply k11_; clear k11_
        refine Do.ret ?_
        simp [endQ, rets, ret1, go_sem, h]
        repeat (refine And.intro (by first | omega | (intros; omega) | (intros; exact And.intro (by assumption) (by omega)) | grind) ?_)
        have hE0 : E < 1 - g := by
          apply Classical.byContradiction
          intro hn
          have := hlen (by omega)
          rw [h3, bl_zero] at this
          omega
        rw [← hz, if_neg (by omega), if_neg (hcz (by omega)), if_pos hE0, h3, mkP, if_pos rfl]
        exact TLe.t (.cons (PLe.flw (ret_zw rfl)) (.cons (PLe.refl _) .nil))
      · have hrc : rcanon ⟨1, n, u, q⟩ = mkP n q u := by simp [rcanon, mkP, h3]
        rw [hrc] at hC
        rw [if_neg (show ¬ g < u + bl q - 1 by omega)] at hz
        refine Do.skip ?_
        simp [go_sem]
        apply k7_; clear k7_
        refine Do.seqk fun _ k12_ => ?_
        refine Do.region [3,6,8,11,12] true ?_
        simp [go_sem, h]
        repeat (refine And.intro (by first | omega | (intros; omega) | (intros; exact And.intro (by assumption) (by omega)) | grind) ?_)
        refine DoL.call true 1006 rfl rfl rfl rfl (by first | exact trivial | omega | (simp; done) | (simp; omega)) (hC) rfl (by first | exact .inl rfl | exact .inr rfl) rfl ?_
        simp [go_sem, h]
        repeat (refine And.intro (by first | omega | (intros; omega) | (intros; exact And.intro (by assumption) (by omega)) | grind) ?_)
        apply k12_; clear k12_
        refine Do.seqk fun _ k13_ => ?_
        refine Do.block ?_
        refine Do.seqk fun _ k14_ => ?_
        refine Do.region [3,6,8,12,68] true ?_
        simp [go_sem, h]
        apply k14_; clear k14_
        refine Do.cond [3,6,8,12] rfl (fun h4 => ?_) (fun h4 => ?_) <;> simp [go_sem, h] at h4 ⊢
        · refine Do.seqk fun _ k15_ => ?_
          refine Do.region [6,7] true ?_
          simp [go_sem, h]
          repeat (refine And.intro (by first | omega | (intros; omega) | (intros; exact And.intro (by assumption) (by omega)) | grind) ?_)
          apply k15_; clear k15_
          refine Do.ret ?_
          simp [endQ, rets, ret1, go_sem, h]
          repeat (refine And.intro (by first | omega | (intros; omega) | (intros; exact And.intro (by assumption) (by omega)) | grind) ?_)
          rw [← hz, if_pos h4]
          exact TLe.refl _
        · refine Do.seqk fun _ k16_ => ?_
          refine Do.region [6,12,71] true ?_
          simp [go_sem, h]
          repeat (refine And.intro (by first | omega | (intros; omega) | (intros; exact And.intro (by assumption) (by omega)) | grind) ?_)
          refine DoL.call true 1303 rfl rfl rfl rfl (by first | exact trivial | omega | (simp; done) | (simp; omega)) (hL) rfl (by first | exact .inl rfl | exact .inr rfl) rfl ?_
          simp [go_sem, h]
          apply k16_; clear k16_
          refine Do.cond [6,12] rfl (fun h5 => ?_) (fun h5 => ?_) <;> simp [go_sem, h] at h5 ⊢
          · refine Do.seqk fun _ k17_ => ?_
            refine Do.region [6,7] true ?_
            simp [go_sem, h]
            repeat (refine And.intro (by first | omega | (intros; omega) | (intros; exact And.intro (by assumption) (by omega)) | grind) ?_)
            apply k17_; clear k17_
            refine Do.ret ?_
            simp [endQ, rets, ret1, go_sem, h]
            repeat (refine And.intro (by first | omega | (intros; omega) | (intros; exact And.intro (by assumption) (by omega)) | grind) ?_)
            rw [← hz, if_neg h4, if_pos h5]
            exact TLe.refl _
          · refine Do.skip ?_
            simp [go_sem]
            apply k13_; clear k13_
            refine Do.seqk fun _ k18_ => ?_
            refine Do.region [6,7] true ?_
            simp [go_sem, h]
            repeat (refine And.intro (by first | omega | (intros; omega) | (intros; exact And.intro (by assumption) (by omega)) | grind) ?_)
            apply k18_; clear k18_
            refine Do.ret ?_
            simp [endQ, rets, ret1, go_sem, h]
            repeat (refine And.intro (by first | omega | (intros; omega) | (intros; exact And.intro (by assumption) (by omega)) | grind) ?_)
            rw [← hz, if_neg h4, if_neg (by omega)]
            exact TLe.refl _
end Go.Proofs.YthpkhmbjmnhmoaaGreatDoor
/- Many equal products, plain; a rational number rounded. No condition. -/
namespace Go.Proofs.YthpkhmbjmnhmoaaGreatDoor
set_option linter.unusedVariables false
set_option linter.unusedSimpArgs false
variable {G : Gl}
set_option maxHeartbeats 8000000
set_option maxRecDepth 10000
theorem RRatQ {f p r : Int} (hf : fmOk f p = true) (hr : 0 ≤ r) (hr' : r ≤ 4) {K : Nat} {z w : Int} {d : Nat} (h : Dq K z d w) (hw : 0 < w) (hK : K ≤ 4000000) (hb : bl w.natAbs ≤ 4000000) : Does Tryz.prog G 22 [Fm f p, .c (.i .i64 r), Qv z d, .c (.b false)] (.t [(roundP f p r false w.natAbs (-(K : Int)) false).1.pw, .c (.i .i64 (roundP f p r false w.natAbs (-(K : Int)) false).2)]) := by
  obtain ⟨s1, s2, s3⟩ := h.small
  have hS := @QSign G K z w d h (by omega)
  have hsg := h.sign
  have hz : 0 < z := by
    have : 0 < z.sign := by rw [hsg]; exact Int.sign_pos_iff.2 hw
    exact Int.sign_pos_iff.1 this
  have hdv : d ∣ 2 ^ K := by
    have e := congrArg Int.natAbs h.eq
    rw [Int.natAbs_mul, Int.natAbs_mul, Int.natAbs_natCast, Int.natAbs_natCast] at e
    have hc : Nat.Coprime d z.natAbs := by rw [Nat.coprime_iff_gcd_eq_one, Nat.gcd_comm]; exact h.cop
    exact hc.dvd_of_dvd_mul_left ⟨w.natAbs, by rw [e, Nat.mul_comm]⟩
  obtain ⟨t, ht, rfl⟩ := two_dvd18 hdv
  have e : w.natAbs = z.natAbs * 2 ^ (K - t) := by
    have h1 := h.eq
    rw [show K = (K - t) + t by omega, Nat.pow_add, Int.natCast_mul, ← Int.mul_assoc] at h1
    have h2 := Int.eq_of_mul_eq_mul_right (pow_ne t) h1
    rw [← h2, Int.natAbs_mul, Int.natAbs_natCast]
  have hsc := @roundP_scale f p r false z.natAbs (K - t) (-(t : Int)) (by omega)
  rw [show -(t : Int) - ((K - t : Nat) : Int) = -(K : Int) by omega, ← e] at hsc
  rw [hsc]
  have hl := len_bl (show bl z.natAbs ≤ 4000000 by omega)
  have hlt := len_bl (show bl (2 ^ t) ≤ 4000001 by rw [bl_twoQ]; omega)
  have hT1 := @RTrim_does G (nat z.natAbs) (by omega) (nat_ws _)
  have hT2 := @RTrim_does G (nat (2 ^ t)) (by omega) (nat_ws _)
  rw [val_nat] at hT1 hT2
  have hsn : decide (w.sign < 0) = false := by
    rw [Int.sign_eq_one_of_pos hw]; rfl
  have hs0 : (w.sign == 0) = false := by
    rw [Int.sign_eq_one_of_pos hw]; rfl
  have hzn : decide (z < 0) = false := by simp; omega
  have hO : Does Tryz.prog G 52 [Qv z (2 ^ t)] (.v (RlQ false z.natAbs t)) := by
    generalize w.sign = sg at *
    refine Does.of (nt := 14) Tryz.func52 rfl rfl rfl (by simp) ?_
    simp only [argTm, PV.ext, Ce.ext]
    refine Do.seqk fun _ k1_ => ?_
    refine Do.region [1,2] true ?_
    simp [go_sem]
    apply k1_; clear k1_
    refine Do.seqk fun _ k2_ => ?_
    refine Do.draw [2] true (by kernel_rfl) ?_
    simp [go_sem]
    repeat (refine And.intro (by first | omega | (intros; omega) | (intros; exact And.intro (by assumption) (by omega)) | kernel_rfl | grind) ?_)
    refine DoLD.call true 102 rfl rfl rfl rfl (by first | exact trivial | omega | (simp; done) | (simp; omega)) (hS) rfl (by first | exact .inl rfl | exact .inr rfl) rfl ?_
    simp [go_sem]
    repeat (refine And.intro (by first | omega | (intros; omega) | (intros; exact And.intro (by assumption) (by omega)) | kernel_rfl | grind) ?_)
    refine DoLD.call true 107 rfl rfl rfl rfl (by first | exact trivial | omega | (simp; done) | (simp; omega)) (hT1) rfl (by first | exact .inl rfl | exact .inr rfl) rfl ?_
    simp [go_sem, hsn]
    repeat (refine And.intro (by first | omega | (intros; omega) | (intros; exact And.intro (by assumption) (by omega)) | kernel_rfl | grind) ?_)
    refine DoLD.call true 110 rfl rfl rfl rfl (by first | exact trivial | omega | (simp; done) | (simp; omega)) (hT2) rfl (by first | exact .inl rfl | exact .inr rfl) rfl ?_
    simp [go_sem, hsn]
    repeat (refine And.intro (by first | omega | (intros; omega) | (intros; exact And.intro (by assumption) (by omega)) | kernel_rfl | grind) ?_)
    try (refine And.intro (by kernel_rfl) ?_)
    apply k2_; clear k2_
    refine Do.ret ?_
    simp [endQ, rets, ret1, go_sem, hsn]
    repeat (refine And.intro (by first | omega | (intros; omega) | (intros; exact And.intro (by assumption) (by omega)) | grind) ?_)
    exact TLe.v (PLe.agg (.cons (PLe.refl _) (.cons (PLe.ext (.c (.w true _))) (.cons (PLe.ext (.c (.w true _))) (.cons (PLe.refl _) (.cons (PLe.refl _) .nil))))))
  have hR := @RoundQ_new G f p r hf hr hr' false z.natAbs t (-(t : Int)) rfl (by omega) (by omega) (by omega)
  generalize roundP f p r false z.natAbs (-(t : Int)) false = y at *
  generalize w.sign = sg at *
  refine Does.of (nt := 22) Tryz.func22 rfl rfl rfl (by simp) ?_
  simp only [argTm, PV.ext, Ce.ext]
  refine Do.seqk fun _ k1_ => ?_
  refine Do.region [1,3,4,6,8] true ?_
  simp [go_sem]
  apply k1_; clear k1_
  refine Do.seqk fun _ k2_ => ?_
  refine Do.seqk fun _ k3_ => ?_
  refine Do.region [1,3,4,6,8,12] true ?_
  simp [go_sem]
  repeat (refine And.intro (by first | omega | (intros; omega) | (intros; exact And.intro (by assumption) (by omega)) | grind) ?_)
  refine DoL.call true 102 rfl rfl rfl rfl (by first | exact trivial | omega | (simp; done) | (simp; omega)) (hS) rfl (by first | exact .inl rfl | exact .inr rfl) rfl ?_
  simp [go_sem]
  apply k3_; clear k3_
  refine Do.cond [1,3,4,6,8] rfl (fun g => ?_) (fun g => ?_) <;> simp [go_sem, hs0] at g ⊢
  refine Do.skip ?_
  simp [go_sem]
  apply k2_; clear k2_
  refine Do.seqk fun _ k4_ => ?_
  refine Do.draw [8,9] true (by kernel_rfl) ?_
  simp [go_sem, hs0]
  repeat (refine And.intro (by first | omega | (intros; omega) | (intros; exact And.intro (by assumption) (by omega)) | kernel_rfl | grind) ?_)
  refine DoLD.call true 304 rfl rfl rfl rfl (by first | exact trivial | omega | (simp; done) | (simp; omega)) (hO) rfl (by first | exact .inl rfl | exact .inr rfl) rfl ?_
  simp [go_sem, hs0]
  refine DoLD.call true 305 rfl rfl rfl rfl (by first | exact trivial | omega | (simp; done) | (simp; omega)) (hR) rfl (by first | exact .inl rfl | exact .inr rfl) rfl ?_
  simp [go_sem, hs0]
  repeat (refine And.intro (by first | omega | (intros; omega) | (intros; exact And.intro (by assumption) (by omega)) | kernel_rfl | grind) ?_)
  try (refine And.intro (by kernel_rfl) ?_)
  apply k4_; clear k4_
  refine Do.ret ?_
  simp [endQ, rets, ret1, go_sem, hs0]
  repeat (refine And.intro (by first | omega | (intros; omega) | (intros; exact And.intro (by assumption) (by omega)) | grind) ?_)
  exact TLe.refl _
theorem ps_rep (a : Flt) (n : Nat) : psOf (List.replicate n (a, a)) = List.replicate n (prodF a a) := by
  unfold psOf
  rw [List.map_replicate]
theorem svs_rep18 (z : Int) (a : Flt) (n : Nat) : svs z (List.replicate n a) = n * fv z a := by
  rw [svs_fv]
  induction n with
  | zero => simp
  | succ n ih =>
    rw [List.replicate_succ, List.map_cons, List.sum_cons, ih, Int.natCast_add, Int.add_mul]; simp; omega
theorem dot_many {f p r : Int} {a : Flt} {n : Nat} (h4 : a.k = 0 ∨ a.k = 1 ∨ a.k = 2 ∨ a.k = 3) (ha : n = 0 ∨ a.k ≠ 1) : dotR f p r (List.replicate n (a, a)) ⟨0, false, 0, 0⟩ = dotR f p r (List.replicate (min n 2) (a, a)) ⟨0, false, 0, 0⟩ := by
  rcases ha with h | h
  · subst h; rfl
  · by_cases hn : n = 0
    · subst hn; rfl
    · have hn2 : min n 2 ≠ 0 := by omega
      have hk : (rcanon (prodF a a).1).k ≠ 1 := by
        rw [rcanon_k]
        unfold prodF
        split
        · simp
        · split
          · simp
          · split
            · simp
            · split
              · simp
              · rename_i h1 h2 h3 h5
                simp only []
                omega
      unfold dotR
      rw [ps_rep, ps_rep]
      simp only [List.any_replicate, if_neg hn, if_neg hn2, List.map_replicate]
      have h1 : ∀ m : Nat, ∀ x ∈ rcanon ⟨0, false, 0, 0⟩ :: List.replicate m (rcanon (prodF a a).1), x.k = 1 → (0 : Int) ≤ x.e := fun m x hx hk1 => by
        rcases List.mem_cons.1 hx with rfl | hx
        · cases hk1
        · rw [List.eq_of_mem_replicate hx] at hk1; exact absurd hk1 hk
      have h0 : fv 0 (rcanon (prodF a a).1) = 0 := by unfold fv; rw [if_neg hk]
      have hs : ∀ m, svs 0 (rcanon ⟨0, false, 0, 0⟩ :: List.replicate m (rcanon (prodF a a).1)) = 0 := fun m => by
        show fv 0 (rcanon ⟨0, false, 0, 0⟩) + svs 0 (List.replicate m (rcanon (prodF a a).1)) = 0
        rw [svs_rep18, h0]
        rfl
      have hfl := float_is (gather_is (Int.le_refl _) (h1 n)) (gather_is (Int.le_refl _) (h1 (min n 2))) (by rw [hs, hs]) (fun q => by
        rw [List.any_cons, List.any_cons, List.any_replicate, List.any_replicate, if_neg hn, if_neg hn2]) f p r
      rw [hfl]
theorem dot_times {f p r : Int} {a : Flt} (hk : a.k = 1) (hv : a.v ≠ 0) (hfx : rcanon a = a) {n : Nat} (hn : n ≠ 0) : dotR f p r (List.replicate n (a, a)) ⟨0, false, 0, 0⟩ = roundP f p r false (a.v * a.v * n) (a.e + a.e) false := by
  have hp : prodF a a = (⟨1, false, a.e + a.e, a.v * a.v⟩, true) := by
    unfold prodF
    rw [if_neg (by omega), if_neg (by omega), if_neg (by omega), if_neg (by omega), hfx, show (!a.n == a.n) = false by cases a.n <;> rfl]
  unfold dotR
  rw [ps_rep, hp]
  simp only [List.any_replicate, if_neg hn, List.map_replicate]
  rw [if_neg (by simp), if_neg (by simp)]
  obtain ⟨c, hc⟩ : ∃ c, rcanon ⟨1, false, a.e + a.e, a.v * a.v⟩ = c := ⟨_, rfl⟩
  have ek : c.k = 1 := by rw [← hc, rcanon_k]
  have ee : a.e + a.e ≤ c.e := by rw [← hc]; simp only [rcanon, if_true]; omega
  obtain ⟨z, hz0, hz1⟩ : ∃ z : Int, z ≤ 0 ∧ z ≤ a.e + a.e := by
    by_cases h : a.e + a.e < 0
    · exact ⟨a.e + a.e, by omega, Int.le_refl _⟩
    · exact ⟨0, Int.le_refl _, by omega⟩
  have hcv : fv z c = fv z ⟨1, false, a.e + a.e, a.v * a.v⟩ := by rw [← hc]; exact fv_rcan (fun _ => hz1)
  rw [hc]
  have hG := gather_is (z := z) hz0 (l := rcanon ⟨0, false, 0, 0⟩ :: List.replicate n c) fun y hy hy1 => by
    rcases List.mem_cons.1 hy with rfl | hy
    · cases hy1
    · rw [List.eq_of_mem_replicate hy]; omega
  have h1 := hG.nan
  have h2 := hG.plus
  have h3 := hG.minus
  rw [List.any_cons, List.any_replicate, if_neg hn, ek] at h1 h2 h3
  have h1 : (gatherP (rcanon ⟨0, false, 0, 0⟩ :: List.replicate n c)).nan = false := h1
  have h2 : (gatherP (rcanon ⟨0, false, 0, 0⟩ :: List.replicate n c)).plus = false := h2
  have h3 : (gatherP (rcanon ⟨0, false, 0, 0⟩ :: List.replicate n c)).minus = false := h3
  unfold Ga.float
  rw [h1, h2, h3, hG.inv]
  simp only [Bool.or_self, Bool.false_and, Bool.false_eq_true, if_false]
  have hV : a.v * a.v * n ≠ 0 := Nat.mul_ne_zero (Nat.mul_ne_zero hv hv) hn
  rw [Nu.round_sv hG.low (b := ⟨false, a.v * a.v * n, a.e + a.e⟩) hz1]
  · rw [Nu.round, if_neg hV]
  · rw [hG.sum]
    show fv z (rcanon ⟨0, false, 0, 0⟩) + svs z (List.replicate n c) = _
    rw [svs_rep18, hcv]
    have e0 : fv z (rcanon ⟨0, false, 0, 0⟩) = 0 := rfl
    rw [e0, Int.zero_add]
    unfold fv Nu.sv
    simp only [if_true, Bool.false_eq_true, if_false]
    rw [← Int.natCast_mul]
    congr 1
    ac_rfl
end Go.Proofs.YthpkhmbjmnhmoaaGreatDoor
/- The law ProductMany. No condition. -/
namespace Go.Proofs.YthpkhmbjmnhmoaaGreatDoor
set_option linter.unusedVariables false
set_option linter.unusedSimpArgs false
set_option maxHeartbeats 8000000
set_option maxRecDepth 10000
theorem argsE_many18 {f p r : Int} {l : List Fla} (hr : ∀ u ∈ l, u.m.length ≤ 40) : argsE f p r true l = 1 := by
  have h : anyLarge l = false := by
    unfold anyLarge
    rw [List.any_eq_false]
    intro u hu
    have := hr u hu
    simp; omega
  rw [argsE, h]
  simp
theorem dot_rep {f p r : Int} {x : Fla} {n : Nat} : dotR f p r (((List.replicate n x).map fun x => rcanon x.flt).zip ((List.replicate n x).map fun x => rcanon x.flt)) (rcanon (⟨0, false, 0, []⟩ : Fla).flt) = dotR f p r (List.replicate n (rcanon x.flt, rcanon x.flt)) ⟨0, false, 0, 0⟩ := by
  rw [List.map_replicate, List.zip_replicate']
  rfl
theorem zero_holds18 {f p : Int} : holdsP f p (⟨0, false, 0, []⟩ : Fla).flt = (⟨0, false, 0, 0⟩, true) := by
  unfold holdsP
  have hc : canon (⟨0, false, 0, []⟩ : Fla).flt = (⟨0, false, 0, 0⟩, true) := by
    unfold canon
    simp [Fla.flt, val]
  rw [hc]
  simp
theorem argsE_more18 {f p r : Int} {l m : List Fla} (h : argsE f p r false l = 0) (hs : ∀ u ∈ m, u ∈ l ∨ ((holdsP f p u.flt).2 = true ∧ u.m.length ≤ 4096)) : argsE f p r false m = 0 := by
  obtain ⟨h1, h2, h3, h4, h5, h6⟩ := argsE_zero h
  rw [argsE, if_neg, if_neg (by simp; omega), if_neg (by rw [h5]; decide), if_neg]
  · rw [allHold, Bool.not_eq_false, List.all_eq_true]
    intro x hx
    rcases hs x hx with h | h
    · exact List.all_eq_true.1 h6 x h
    · exact h.1
  · rw [anyLarge, List.any_eq_true]
    rintro ⟨x, hx, hl⟩
    simp only [decide_eq_true_eq] at hl
    rcases hs x hx with h | h
    · have := h1 x h; omega
    · have := h.2; omega
theorem many_rat {f p r : Int} {a : Flt} (ka : a.k = 1) (hl : -20000 ≤ a.e) {n : Nat} (hv : 0 < a.v * a.v * n) : roundP f p r false (fv (-(20000 : Nat)) a * fv (-(20000 : Nat)) a * n).natAbs (-((20000 + 20000 + 0 : Nat) : Int)) false = roundP f p r false (a.v * a.v * n) (a.e + a.e) false := by
  have h1 := @prod_fv a a ka ka 20000 (by omega) (by omega)
  obtain ⟨E, hE⟩ : ∃ E, (a.e + a.e + ((20000 + 20000 : Nat) : Int)).toNat = E := ⟨_, rfl⟩
  rw [hE] at h1
  rw [h1, Int.natAbs_mul, sgn_abs, Int.natAbs_natCast]
  have h2 := @roundP_scale f p r false (a.v * a.v * n) E (a.e + a.e) hv
  rw [show a.e + a.e - (E : Int) = -((20000 + 20000 + 0 : Nat) : Int) by omega] at h2
  rw [← h2]
  rw [show a.v * a.v * n * 2 ^ E = a.v * a.v * 2 ^ E * n by ac_rfl]
theorem ProductMany_does {f p r k : Int} {x : Fla} (hx : Ws x.m) (ex : I64 x.e) (hk : 0 ≤ k ∧ k < 65536) : Does Tryz.prog Gv 6 [Fm f p, .c (.i .i64 r), Fl x.k x.n x.e x.m, .c (.i .u16 k)] (.v (.c (.b true))) := by
  have hS : Does Tryz.prog Gv 10 [.s false [x.cs]] (.v (.c (.b (shortP [x])))) := Short15_does (l := [x]) (by simp)
  obtain ⟨n, hn⟩ : ∃ n : Nat, k % 1003 = n := ⟨(k % 1003).toNat, by omega⟩
  have hn2 : n ≤ 1002 := by omega
  cases hs : shortP [x] with
  | false =>
    rw [hs] at hS
    refine Does.of (nt := 130) Tryz.func6 rfl rfl rfl (by simp) ?_
    simp only [argTm, PV.ext, Ce.ext]
    refine Do.seqk fun _ k1_ => ?_
    refine Do.region [1,3,4,6] true ?_
    simp [go_sem, hn]
    apply k1_; clear k1_
    refine Do.seqk fun _ k2_ => ?_
    refine Do.region [1,4,6,9] true ?_
    simp [go_sem, hn]
    repeat (refine And.intro (by first | omega | (intros; omega) | (intros; exact And.intro (by assumption) (by omega)) | grind) ?_)
    apply k2_; clear k2_
    refine Do.seqk fun _ k3_ => ?_
    refine Do.seqk fun _ k4_ => ?_
    refine Do.region [1,4,6,9,33] true ?_
    simp [go_sem, hn]
    repeat (refine And.intro (by first | omega | (intros; omega) | (intros; exact And.intro (by assumption) (by omega)) | grind) ?_)
    refine DoL.sealS true 202 201 rfl ?_
    simp [go_sem]
    refine DoL.call true 203 rfl rfl rfl rfl (by first | exact trivial | omega | (simp; done) | (simp; omega)) (hS) rfl (by first | exact .inl rfl | exact .inr rfl) rfl ?_
    simp [go_sem, hn]
    repeat (refine And.intro (by first | omega | (intros; omega) | (intros; exact And.intro (by assumption) (by omega)) | grind) ?_)
    refine DoL.gOff true 209 rfl rfl (.v (.s true [x.cs])) rfl ?_
    simp [go_sem]
    refine DoL.gOff true 210 rfl rfl (.int .i64 0) rfl ?_
    simp [go_sem, hn]
    apply k4_; clear k4_
    refine Do.cond [1,4,6,9] rfl (fun h => ?_) (fun h => ?_) <;> simp [go_sem, hn] at h ⊢
    refine Do.seqk fun _ k5_ => ?_
    refine Do.region [8] true ?_
    simp [go_sem, hn]
    refine DoL.call true 301 rfl rfl rfl rfl (by first | exact trivial | omega | (simp; done) | (simp; omega)) (awake18_does) rfl (by first | exact .inl rfl | exact .inr rfl) rfl ?_
    simp [go_sem, hn]
    apply k5_; clear k5_
    refine Do.ret ?_
    simp [endQ, rets, ret1, go_sem, hn]
    repeat (refine And.intro (by first | omega | (intros; omega) | (intros; exact And.intro (by assumption) (by omega)) | grind) ?_)
    exact TLe.refl _
  | true =>
    rw [hs] at hS
    have hsx : x.m.length ≤ 40 := by simpa [shortP] using hs
    have ox : x.Ok := ⟨by simp [Sh]; omega, hx, ex⟩
    have oz : (⟨0, false, 0, []⟩ : Fla).Ok := ⟨by simp [Sh], fun w hw => by simp at hw, by constructor <;> simp⟩
    have hA : Does Tryz.prog Gv 13 [Fm f p, .c (.i .i64 r), .s false [x.cs]] (.int .i64 (argsE f p r false [x])) := @KArgs_does Gv f p r [x] (by simp) (by simp [ox])
    have hor : ∀ m, ∀ u ∈ List.replicate m x, u.Ok := fun m u hu => by rw [List.eq_of_mem_replicate hu]; exact ox
    have ho : ∀ m, ∀ u ∈ List.replicate m x ++ List.replicate m x ++ [(⟨0, false, 0, []⟩ : Fla)], u.Ok := fun m u hu => by
      simp only [List.mem_append, List.mem_singleton] at hu
      rcases hu with (hu | hu) | rfl
      · exact hor m u hu
      · exact hor m u hu
      · exact oz
    have hT := PDot_does (f := f) (p := p) (r := r) (xs := List.replicate n x) (ys := List.replicate n x) (z := ⟨0, false, 0, []⟩) (by simp; omega) (by simp; omega) (hor n) (hor n) oz
    have hRows : ∀ m, Rows (List.replicate m x) = .s false (List.replicate m x.cs) := fun m => by simp [Rows]
    have hT := hT.weak (.cons (PLe.refl _) (.cons (PLe.refl _) (.cons (PLe.refl _) (.cons (PLe.refl _) (.cons (PLe.flt (PLe.z false)) .nil)))))
    rw [hRows] at hT
    by_cases he : argsE f p r false [x] = 0
    case neg =>
      generalize argsE f p r false [x] = ae at *
      refine Does.of (nt := 130) Tryz.func6 rfl rfl rfl (by simp) ?_
      simp only [argTm, PV.ext, Ce.ext]
      refine Do.seqk fun _ k1_ => ?_
      refine Do.region [1,3,4,6] true ?_
      simp [go_sem, hn]
      apply k1_; clear k1_
      refine Do.seqk fun _ k2_ => ?_
      refine Do.region [1,4,6,9] true ?_
      simp [go_sem, hn]
      repeat (refine And.intro (by first | omega | (intros; omega) | (intros; exact And.intro (by assumption) (by omega)) | grind) ?_)
      apply k2_; clear k2_
      refine Do.seqk fun _ k3_ => ?_
      refine Do.seqk fun _ k4_ => ?_
      refine Do.region [1,4,6,9,33] true ?_
      simp [go_sem, hn]
      repeat (refine And.intro (by first | omega | (intros; omega) | (intros; exact And.intro (by assumption) (by omega)) | grind) ?_)
      refine DoL.sealS true 202 201 rfl ?_
      simp [go_sem]
      refine DoL.call true 203 rfl rfl rfl rfl (by first | exact trivial | omega | (simp; done) | (simp; omega)) (hS) rfl (by first | exact .inl rfl | exact .inr rfl) rfl ?_
      simp [go_sem, hn]
      repeat (refine And.intro (by first | omega | (intros; omega) | (intros; exact And.intro (by assumption) (by omega)) | grind) ?_)
      refine DoL.gOn true 208 rfl rfl [29] (by simp [go_sem]) ?_
      simp [go_sem]
      refine DoL.sealS true 209 208 rfl ?_
      simp [go_sem]
      refine DoL.callg true 210 rfl rfl rfl rfl rfl (by simp [go_sem] <;> omega) (fun _ => hA) rfl (by first | exact .inl rfl | exact .inr rfl) rfl ?_
      simp [go_sem, hn]
      apply k4_; clear k4_
      refine Do.cond [1,4,6,9] rfl (fun h5 => ?_) (fun h5 => ?_) <;> simp [go_sem, hn] at h5 ⊢
      · refine Do.seqk fun _ k5_ => ?_
        refine Do.region [8] true ?_
        simp [go_sem, hn]
        refine DoL.call true 301 rfl rfl rfl rfl (by first | exact trivial | omega | (simp; done) | (simp; omega)) (awake18_does) rfl (by first | exact .inl rfl | exact .inr rfl) rfl ?_
        simp [go_sem, hn]
        apply k5_; clear k5_
        refine Do.ret ?_
        simp [endQ, rets, ret1, go_sem, hn]
        repeat (refine And.intro (by first | omega | (intros; omega) | (intros; exact And.intro (by assumption) (by omega)) | grind) ?_)
        exact TLe.refl _
      · exact absurd h5 he
    rw [he] at hA
    by_cases h1000 : 1000 < n
    case pos =>
      have d1 : (1000 : Int) < n := by omega
      have e1 : dotE f p r (List.replicate n x) (List.replicate n x) ⟨0, false, 0, []⟩ = 1 := by
        unfold dotE
        rw [List.length_replicate, show ((n : Int) != n || decide ((1000 : Int) < n)) = true by simp; omega]
        refine argsE_many18 fun u hu => ?_
        simp only [List.mem_append, List.mem_singleton] at hu
        rcases hu with (hu | hu) | rfl
        · rw [List.eq_of_mem_replicate hu]; exact hsx
        · rw [List.eq_of_mem_replicate hu]; exact hsx
        · simp
      have hF := @Fits_none 0 0 false [] 0 1 ⟨rfl, rfl, rfl, rfl⟩ (by decide) 1
      rw [dotA, e1, if_neg (by decide)] at hT
      have hT : Does Tryz.prog Gv 20 [Fm f p, .c (.i .i64 r), .s false (List.replicate n x.cs), .s false (List.replicate n x.cs), .a [.i .i64 0, .b false, .i .i64 0, .z]] (.t [Fl 0 false 0 (nat 0), .c (.i .i64 0), .c (.i .i64 1)]) := hT
      rw [nat_zero] at hT
      refine Does.of (nt := 130) Tryz.func6 rfl rfl rfl (by simp) ?_
      simp only [argTm, PV.ext, Ce.ext]
      refine Do.seqk fun _ k1_ => ?_
      refine Do.region [1,3,4,6] true ?_
      simp [go_sem, hn]
      apply k1_; clear k1_
      refine Do.seqk fun _ k2_ => ?_
      refine Do.region [1,4,6,9] true ?_
      simp [go_sem, hn]
      repeat (refine And.intro (by first | omega | (intros; omega) | (intros; exact And.intro (by assumption) (by omega)) | grind) ?_)
      apply k2_; clear k2_
      refine Do.seqk fun _ k3_ => ?_
      refine Do.seqk fun _ k4_ => ?_
      refine Do.region [1,4,6,9,33] true ?_
      simp [go_sem, hn]
      repeat (refine And.intro (by first | omega | (intros; omega) | (intros; exact And.intro (by assumption) (by omega)) | grind) ?_)
      refine DoL.sealS true 202 201 rfl ?_
      simp [go_sem]
      refine DoL.call true 203 rfl rfl rfl rfl (by first | exact trivial | omega | (simp; done) | (simp; omega)) (hS) rfl (by first | exact .inl rfl | exact .inr rfl) rfl ?_
      simp [go_sem, hn]
      repeat (refine And.intro (by first | omega | (intros; omega) | (intros; exact And.intro (by assumption) (by omega)) | grind) ?_)
      refine DoL.gOn true 208 rfl rfl [29] (by simp [go_sem]) ?_
      simp [go_sem]
      refine DoL.sealS true 209 208 rfl ?_
      simp [go_sem]
      refine DoL.callg true 210 rfl rfl rfl rfl rfl (by simp [go_sem] <;> omega) (fun _ => hA) rfl (by first | exact .inl rfl | exact .inr rfl) rfl ?_
      simp [go_sem, hn]
      apply k4_; clear k4_
      refine Do.cond [1,4,6,9] rfl (fun h => ?_) (fun h => ?_) <;> simp [go_sem, hn] at h ⊢
      refine Do.skip ?_
      simp [go_sem]
      apply k3_; clear k3_
      refine Do.seqk fun _ k5_ => ?_
      refine Do.region [1,4,6,9,10] true ?_
      simp [go_sem, hn]
      repeat (refine And.intro (by first | omega | (intros; omega) | (intros; exact And.intro (by assumption) (by omega)) | grind) ?_)
      apply k5_; clear k5_
      refine Do.seqk fun _ k6_ => ?_
      refine Do.seqk fun _ k7_ => ?_
      refine Do.region [1,4,6,9,10,11] true ?_
      simp [go_sem, hn]
      apply k7_; clear k7_
      refine Do.block ?_
      refine Do.loopF [1,4,6,9,10,11] (fun (i : Nat) => [(11, .int .i64 i)]) (fun (i : Nat) => [(401, .sr 4 (List.replicate i x.cs ++ List.replicate (n - i) [.i .i64 0, .b false, .i .i64 0, .z]))]) (fun (i : Nat) => i ≤ n) (fun (i : Nat) => n - i) (0) (fun _ => by first | (simp [go_sem, mixS]; done) | (simp [go_sem, mixS]; rfl)) (St.le_of (by first | rfl | simp [keep]) (by first | rfl | simp [keep])) (Nat.zero_le _) ?_
      intro i hi
      refine Do.seqk fun _ k8_ => ?_
      refine Do.seqk fun _ k9_ => ?_
      refine Do.region [1,4,6,9,10,11,39] true ?_
      simp [go_sem, hn]
      apply k9_; clear k9_
      refine Do.cond [1,4,6,9,10,11] rfl (fun h2 => ?_) (fun h2 => ?_) <;> simp [go_sem, hn] at h2 ⊢
      · obtain ⟨d, hd⟩ : ∃ d, n - i = d + 1 := ⟨n - i - 1, by omega⟩
        have hd2 : n - (i + 1) = d := by omega
        refine Do.skip ?_
        simp [go_sem]
        apply k8_; clear k8_
        refine Do.seqk fun _ k10_ => ?_
        refine Do.block ?_
        refine Do.region [1,4,6,9,10,11] true ?_
        simp [go_sem, hn, hd, List.replicate_succ]
        repeat (refine And.intro (by first | omega | (intros; omega) | (intros; exact And.intro (by assumption) (by omega)) | grind) ?_)
        apply k10_; clear k10_
        refine Do.region [1,4,6,9,10,11] true ?_
        simp [go_sem, hn, hd, List.replicate_succ]
        repeat (refine And.intro (by first | omega | (intros; omega) | (intros; exact And.intro (by assumption) (by omega)) | grind) ?_)
        refine ⟨i + 1, St.le_of rfl (by simp [keep, hd2, List.replicate_succ']), by omega, by simp; omega⟩
      · obtain rfl : i = n := by omega
        simp only [Nat.sub_self, List.replicate_zero, List.append_nil]
        refine Do.exit ?_
        simp [go_sem]
        apply k6_; clear k6_
        refine Do.seqk fun _ k11_ => ?_
        refine Do.region [1,4,6,9,10,12,13,14] true ?_
        simp [go_sem, hn, d1]
        repeat (refine And.intro (by first | omega | (intros; omega) | (intros; exact And.intro (by assumption) (by omega)) | grind) ?_)
        refine DoL.sealS true 905 401 rfl ?_
        simp [go_sem]
        refine DoL.call true 906 rfl rfl rfl rfl (by first | exact trivial | omega | (simp; done) | (simp; omega)) (hT) rfl (by first | exact .inl rfl | exact .inr rfl) rfl ?_
        simp [go_sem, hn, d1]
        repeat (refine And.intro (by first | omega | (intros; omega) | (intros; exact And.intro (by assumption) (by omega)) | grind) ?_)
        apply k11_; clear k11_
        refine Do.seqk fun _ k12_ => ?_
        refine Do.seqk fun _ k13_ => ?_
        refine Do.region [1,4,6,9,10,12,13,14,57] true ?_
        simp [go_sem, hn, d1]
        apply k13_; clear k13_
        refine Do.cond [1,4,6,9,10,12,13,14] rfl (fun h3 => ?_) (fun h3 => ?_) <;> simp [go_sem, hn, d1] at h3 ⊢
        refine Do.seqk fun _ k14_ => ?_
        refine Do.region [8] true ?_
        simp [go_sem, hn, d1]
        repeat (refine And.intro (by first | omega | (intros; omega) | (intros; exact And.intro (by assumption) (by omega)) | grind) ?_)
        refine DoL.call true 1105 rfl rfl rfl rfl (by first | exact trivial | omega | (simp; done) | (simp; omega)) (hF) rfl (by first | exact .inl rfl | exact .inr rfl) rfl ?_
        simp [go_sem, hn, d1]
        refine DoL.callg true 1107 rfl rfl rfl rfl rfl (by simp [go_sem] <;> omega) (fun _ => awake18_does) rfl (by first | exact .inl rfl | exact .inr rfl) rfl ?_
        simp [go_sem, hn, d1]
        apply k14_; clear k14_
        refine Do.ret ?_
        simp [endQ, rets, ret1, go_sem, hn, d1]
        repeat (refine And.intro (by first | omega | (intros; omega) | (intros; exact And.intro (by assumption) (by omega)) | grind) ?_)
        exact TLe.refl _
    have d1 : ¬ (1000 : Int) < n := by omega
    have he1 : ∀ m, m ≤ 1000 → dotE f p r (List.replicate m x) (List.replicate m x) ⟨0, false, 0, []⟩ = 0 := fun m hm => by
      unfold dotE
      rw [List.length_replicate, show ((m : Int) != m || decide ((1000 : Int) < m)) = false by simp; omega]
      refine argsE_more18 (l := [x]) he ?_
      intro u hu
      simp only [List.mem_append, List.mem_singleton] at hu ⊢
      rcases hu with (hu | hu) | rfl
      · exact .inl (List.eq_of_mem_replicate hu)
      · exact .inl (List.eq_of_mem_replicate hu)
      · exact .inr ⟨by rw [zero_holds18], by simp⟩
    obtain ⟨⟨h1, h2, h3, h4, h5, h6, h7, h8⟩, hd⟩ := dot_ref (he1 n (by omega)) (ho n)
    obtain ⟨hfx, hfn⟩ := @dotA_fine f p r (List.replicate n x) (List.replicate n x) ⟨0, false, 0, []⟩
    have hh : (holdsP f p x.flt).2 = true := by
      have h6 := (argsE_zero he).2.2.2.2.2
      simpa using List.all_eq_true.1 h6 x (by simp)
    have ca := (held_rcanon hh).1
    have fa := held_fin18 hh
    have hfa := held_cf hh
    obtain ⟨b1, b2, b3, b4⟩ := fmOk_spec h1
    obtain ⟨b5, b6⟩ := gOfE_le b1 b2
    have hxr := held_rt (argsE_zero he).2.2.2.2.2 (by simp [ox]) (by simp; omega) x (by simp)
    have hxs := held_rs h1 hh hxr
    have hxk : (holdsP f p x.flt).1.k = x.k := by rw [← ca, rcanon_k]; rfl
    rw [hd, dot_rep] at hT hfx hfn
    rw [ca] at hT hfx hfn
    have ka := hfa.k
    unfold K4 at ka
    by_cases hc : n = 0 ∨ x.k ≠ 1
    case pos =>
      have hR := @RDot_does Gv f p r h1 h2 h3 (List.replicate (min n 2) x) (List.replicate (min n 2) x) ⟨0, false, 0, []⟩ rfl (by simp; omega) (fun u hu => by rw [List.eq_of_mem_replicate hu]; exact hxs) (fun u hu => by rw [List.eq_of_mem_replicate hu]; exact hxs) h8
      rw [dot_rep, ca, ← dot_many (by omega) (by omega)] at hR
      have hR := hR.weak (.cons (PLe.refl _) (.cons (PLe.refl _) (.cons (PLe.refl _) (.cons (PLe.refl _) (.cons (PLe.flt (PLe.z false)) .nil)))))
      rw [hRows] at hR
      generalize dotR f p r (List.replicate n ((holdsP f p x.flt).1, (holdsP f p x.flt).1)) ⟨0, false, 0, 0⟩ = w at *
      have hF := @Fits_same Gv w.1 w.2 hfn hfx
      have hT : Does Tryz.prog Gv 20 [Fm f p, .c (.i .i64 r), .s false (List.replicate n x.cs), .s false (List.replicate n x.cs), .a [.i .i64 0, .b false, .i .i64 0, .z]] (.t [w.1.pv, .c (.i .i64 w.2), .c (.i .i64 0)]) := hT
      have hR : Does Tryz.prog Gv 19 [Fm f p, .c (.i .i64 r), .s false (List.replicate (min n 2) x.cs), .s false (List.replicate (min n 2) x.cs), .a [.i .i64 0, .b false, .i .i64 0, .z]] (.t [w.1.pw, .c (.i .i64 w.2)]) := hR
      have hTh : Does Tryz.prog Gv 21 [.s false (List.replicate (min n 2) x.cs)] (.v (.s true (List.replicate (min n 2) x.cs))) := by
        have := @Theirs_does Gv (List.replicate (min n 2) x) (by simp; omega)
        simpa [Rows] using this
      refine Does.of (nt := 130) Tryz.func6 rfl rfl rfl (by simp) ?_
      simp only [argTm, PV.ext, Ce.ext]
      refine Do.seqk fun _ k1_ => ?_
      refine Do.region [1,3,4,6] true ?_
      simp [go_sem, hn]
      apply k1_; clear k1_
      refine Do.seqk fun _ k2_ => ?_
      refine Do.region [1,4,6,9] true ?_
      simp [go_sem, hn]
      repeat (refine And.intro (by first | omega | (intros; omega) | (intros; exact And.intro (by assumption) (by omega)) | grind) ?_)
      apply k2_; clear k2_
      refine Do.seqk fun _ k3_ => ?_
      refine Do.seqk fun _ k4_ => ?_
      refine Do.region [1,4,6,9,33] true ?_
      simp [go_sem, hn]
      repeat (refine And.intro (by first | omega | (intros; omega) | (intros; exact And.intro (by assumption) (by omega)) | grind) ?_)
      refine DoL.sealS true 202 201 rfl ?_
      simp [go_sem]
      refine DoL.call true 203 rfl rfl rfl rfl (by first | exact trivial | omega | (simp; done) | (simp; omega)) (hS) rfl (by first | exact .inl rfl | exact .inr rfl) rfl ?_
      simp [go_sem, hn]
      repeat (refine And.intro (by first | omega | (intros; omega) | (intros; exact And.intro (by assumption) (by omega)) | grind) ?_)
      refine DoL.gOn true 208 rfl rfl [29] (by simp [go_sem]) ?_
      simp [go_sem]
      refine DoL.sealS true 209 208 rfl ?_
      simp [go_sem]
      refine DoL.callg true 210 rfl rfl rfl rfl rfl (by simp [go_sem] <;> omega) (fun _ => hA) rfl (by first | exact .inl rfl | exact .inr rfl) rfl ?_
      simp [go_sem, hn]
      apply k4_; clear k4_
      refine Do.cond [1,4,6,9] rfl (fun h => ?_) (fun h => ?_) <;> simp [go_sem, hn] at h ⊢
      refine Do.skip ?_
      simp [go_sem]
      apply k3_; clear k3_
      refine Do.seqk fun _ k5_ => ?_
      refine Do.region [1,4,6,9,10] true ?_
      simp [go_sem, hn]
      repeat (refine And.intro (by first | omega | (intros; omega) | (intros; exact And.intro (by assumption) (by omega)) | grind) ?_)
      apply k5_; clear k5_
      refine Do.seqk fun _ k6_ => ?_
      refine Do.seqk fun _ k7_ => ?_
      refine Do.region [1,4,6,9,10,11] true ?_
      simp [go_sem, hn]
      apply k7_; clear k7_
      refine Do.block ?_
      refine Do.loopF [1,4,6,9,10,11] (fun (i : Nat) => [(11, .int .i64 i)]) (fun (i : Nat) => [(401, .sr 4 (List.replicate i x.cs ++ List.replicate (n - i) [.i .i64 0, .b false, .i .i64 0, .z]))]) (fun (i : Nat) => i ≤ n) (fun (i : Nat) => n - i) (0) (fun _ => by first | (simp [go_sem, mixS]; done) | (simp [go_sem, mixS]; rfl)) (St.le_of (by first | rfl | simp [keep]) (by first | rfl | simp [keep])) (Nat.zero_le _) ?_
      intro i hi
      refine Do.seqk fun _ k8_ => ?_
      refine Do.seqk fun _ k9_ => ?_
      refine Do.region [1,4,6,9,10,11,39] true ?_
      simp [go_sem, hn]
      apply k9_; clear k9_
      refine Do.cond [1,4,6,9,10,11] rfl (fun h2 => ?_) (fun h2 => ?_) <;> simp [go_sem, hn] at h2 ⊢
      · obtain ⟨d, hd⟩ : ∃ d, n - i = d + 1 := ⟨n - i - 1, by omega⟩
        have hd2 : n - (i + 1) = d := by omega
        refine Do.skip ?_
        simp [go_sem]
        apply k8_; clear k8_
        refine Do.seqk fun _ k10_ => ?_
        refine Do.block ?_
        refine Do.region [1,4,6,9,10,11] true ?_
        simp [go_sem, hn, hd, List.replicate_succ]
        repeat (refine And.intro (by first | omega | (intros; omega) | (intros; exact And.intro (by assumption) (by omega)) | grind) ?_)
        apply k10_; clear k10_
        refine Do.region [1,4,6,9,10,11] true ?_
        simp [go_sem, hn, hd, List.replicate_succ]
        repeat (refine And.intro (by first | omega | (intros; omega) | (intros; exact And.intro (by assumption) (by omega)) | grind) ?_)
        refine ⟨i + 1, St.le_of rfl (by simp [keep, hd2, List.replicate_succ']), by omega, by simp; omega⟩
      · obtain rfl : i = n := by omega
        simp only [Nat.sub_self, List.replicate_zero, List.append_nil]
        refine Do.exit ?_
        simp [go_sem]
        apply k6_; clear k6_
        refine Do.seqk fun _ k11_ => ?_
        refine Do.region [1,4,6,9,10,12,13,14] true ?_
        simp [go_sem, hn, d1]
        repeat (refine And.intro (by first | omega | (intros; omega) | (intros; exact And.intro (by assumption) (by omega)) | grind) ?_)
        refine DoL.sealS true 905 401 rfl ?_
        simp [go_sem]
        refine DoL.call true 906 rfl rfl rfl rfl (by first | exact trivial | omega | (simp; done) | (simp; omega)) (hT) rfl (by first | exact .inl rfl | exact .inr rfl) rfl ?_
        simp [go_sem, hn, d1]
        repeat (refine And.intro (by first | omega | (intros; omega) | (intros; exact And.intro (by assumption) (by omega)) | grind) ?_)
        apply k11_; clear k11_
        refine Do.seqk fun _ k12_ => ?_
        refine Do.seqk fun _ k13_ => ?_
        refine Do.region [1,4,6,9,10,12,13,14,57] true ?_
        simp [go_sem, hn, d1]
        apply k13_; clear k13_
        refine Do.cond [1,4,6,9,10,12,13,14] rfl (fun h3 => ?_) (fun h3 => ?_) <;> simp [go_sem, hn, d1] at h3 ⊢
        refine Do.skip ?_
        simp [go_sem]
        apply k12_; clear k12_
        refine Do.seqk fun _ k14_ => ?_
        refine Do.seqk fun _ k15_ => ?_
        refine Do.region [1,4,6,9,10,12,13,14,72] true ?_
        simp [go_sem, hn, d1]
        repeat (refine And.intro (by first | omega | (intros; omega) | (intros; exact And.intro (by assumption) (by omega)) | grind) ?_)
        apply k15_; clear k15_
        refine Do.cond [1,4,6,9,10,12,13,14] rfl (fun h4 => ?_) (fun h4 => ?_) <;> simp [go_sem, hn, d1] at h4 ⊢
        · have hmn : min (if (2 : Int) < i then 2 else (i : Int)).toNat i = min i 2 := by split <;> omega
          refine Do.seqk fun _ k16_ => ?_
          refine Do.draw [12,13,14,15,16] true (by kernel_rfl) ?_
          simp [go_sem, hn, d1, hmn]
          repeat (refine And.intro (by first | omega | (intros; omega) | (intros; exact And.intro (by assumption) (by omega)) | kernel_rfl | grind) ?_)
          refine DoLD.call true 1302 rfl rfl rfl rfl (by first | exact trivial | omega | (simp; done) | (simp; omega)) (Fmt_does) rfl (by first | exact .inl rfl | exact .inr rfl) rfl ?_
          simp [go_sem, hn, d1, hmn]
          repeat (refine And.intro (by first | omega | (intros; omega) | (intros; exact And.intro (by assumption) (by omega)) | kernel_rfl | grind) ?_)
          refine DoLD.call true 1310 rfl rfl rfl rfl (by first | exact trivial | omega | (simp; done) | (simp; omega)) (hTh) rfl (by first | exact .inl rfl | exact .inr rfl) rfl ?_
          simp [go_sem, hn, d1, hmn]
          repeat (refine And.intro (by first | omega | (intros; omega) | (intros; exact And.intro (by assumption) (by omega)) | kernel_rfl | grind) ?_)
          refine DoLD.call true 1317 rfl rfl rfl rfl (by first | exact trivial | omega | (simp; done) | (simp; omega)) (hTh) rfl (by first | exact .inl rfl | exact .inr rfl) rfl ?_
          simp [go_sem, hn, d1, hmn]
          refine DoLD.call true 1319 rfl rfl rfl rfl (by first | exact trivial | omega | (simp; done) | (simp; omega)) (hR) rfl (by first | exact .inl rfl | exact .inr rfl) rfl ?_
          simp [go_sem, hn, d1, hmn]
          repeat (refine And.intro (by first | omega | (intros; omega) | (intros; exact And.intro (by assumption) (by omega)) | kernel_rfl | grind) ?_)
          try (refine And.intro (by kernel_rfl) ?_)
          apply k16_; clear k16_
          refine Do.seqk fun _ k17_ => ?_
          refine Do.region [8] true ?_
          simp [go_sem, hn, d1, hmn]
          repeat (refine And.intro (by first | omega | (intros; omega) | (intros; exact And.intro (by assumption) (by omega)) | grind) ?_)
          refine DoL.call true 1406 rfl rfl rfl rfl (by first | exact trivial | omega | (simp; done) | (simp; omega)) (hF) rfl (by first | exact .inl rfl | exact .inr rfl) rfl ?_
          simp [go_sem, hn, d1, hmn]
          refine DoL.callg true 1408 rfl rfl rfl rfl rfl (by simp [go_sem] <;> omega) (fun _ => awake18_does) rfl (by first | exact .inl rfl | exact .inr rfl) rfl ?_
          simp [go_sem, hn, d1, hmn]
          apply k17_; clear k17_
          refine Do.ret ?_
          simp [endQ, rets, ret1, go_sem, hn, d1, hmn]
          repeat (refine And.intro (by first | omega | (intros; omega) | (intros; exact And.intro (by assumption) (by omega)) | grind) ?_)
          exact TLe.refl _
        · omega
    have hk1 : x.k = 1 := by omega
    have hn0 : n ≠ 0 := by omega
    obtain ⟨zx, dx, rx1, rx2⟩ := @FRat_low Gv x hxr _ ca 20000 1028576 rfl (fun hk => by have := fa hk; omega)
    have hka : (holdsP f p x.flt).1.k = 1 := by omega
    have hlo : -20000 ≤ (holdsP f p x.flt).1.e := by have := fa hka; omega
    have hva : (holdsP f p x.flt).1.v ≠ 0 := hfa.pos hka
    have hid : rcanon (holdsP f p x.flt).1 = (holdsP f p x.flt).1 := by rw [← ca, rcanon_idem]
    have hba : bl (fv (-(20000 : Nat)) (holdsP f p x.flt).1).natAbs ≤ 60000 := by
      have := @fv_abs (-(20000 : Nat)) (holdsP f p x.flt).1 16384 (by decide) (fun hk => by have := fa hk; omega) (by decide)
      omega
    have hdt := @dot_times f p r (holdsP f p x.flt).1 hka hva hid n hn0
    rw [← many_rat hka hlo (Nat.mul_pos (Nat.mul_pos (by omega) (by omega)) (by omega))] at hdt
    have hpf := @prod_fv _ _ hka hka 20000 (by omega) (by omega)
    generalize (holdsP f p x.flt).1 = a at *
    have hbw := bl_mulz (fv (-(20000 : Nat)) a) (fv (-(20000 : Nat)) a)
    obtain ⟨z1, d1', M1, M2⟩ := @QMul Gv _ _ _ _ _ _ _ _ rx2 rx2 (by decide) (by decide) (by omega) (by omega)
    have F1 := @QFrom Gv n (by omega)
    have F2 : Dq 0 (n : Int) 1 (n : Int) := ⟨by simp, by decide, by simp⟩
    have hbn : bl (n : Int).natAbs ≤ 10 := by rw [Int.natAbs_natCast]; exact (bl_lt _ _).2 (by omega)
    obtain ⟨z2, d2, N1, N2⟩ := @QMul Gv _ _ _ _ _ _ _ _ M2 F2 (by decide) (by decide) (by omega) (by omega)
    have hwp : 0 < fv (-(20000 : Nat)) a * fv (-(20000 : Nat)) a * (n : Int) := by
      rw [hpf, show (!a.n == a.n) = false by cases a.n <;> rfl]
      have : 0 < a.v * a.v * 2 ^ (a.e + a.e + ((20000 + 20000 : Nat) : Int)).toNat := Nat.mul_pos (Nat.mul_pos (by omega) (by omega)) (Nat.pow_pos (by decide))
      refine Int.mul_pos ?_ (by omega)
      unfold sgn
      simp only [Bool.false_eq_true, if_false]
      exact Int.natCast_pos.2 this
    have hbw2 := bl_mulz (fv (-(20000 : Nat)) a * fv (-(20000 : Nat)) a) n
    have hRR := @RRatQ Gv f p r h1 h2 h3 _ _ _ _ N2 hwp (by decide) (by omega)
    rw [← hdt] at hRR
    generalize dotR f p r (List.replicate n (a, a)) ⟨0, false, 0, 0⟩ = w at *
    have hF := @Fits_same Gv w.1 w.2 hfn hfx
    have hT : Does Tryz.prog Gv 20 [Fm f p, .c (.i .i64 r), .s false (List.replicate n x.cs), .s false (List.replicate n x.cs), .a [.i .i64 0, .b false, .i .i64 0, .z]] (.t [w.1.pv, .c (.i .i64 w.2), .c (.i .i64 0)]) := hT
    refine Does.of (nt := 130) Tryz.func6 rfl rfl rfl (by simp) ?_
    simp only [argTm, PV.ext, Ce.ext]
    refine Do.seqk fun _ k1_ => ?_
    refine Do.region [1,3,4,6] true ?_
    simp [go_sem, hn]
    apply k1_; clear k1_
    refine Do.seqk fun _ k2_ => ?_
    refine Do.region [1,4,6,9] true ?_
    simp [go_sem, hn]
    repeat (refine And.intro (by first | omega | (intros; omega) | (intros; exact And.intro (by assumption) (by omega)) | grind) ?_)
    apply k2_; clear k2_
    refine Do.seqk fun _ k3_ => ?_
    refine Do.seqk fun _ k4_ => ?_
    refine Do.region [1,4,6,9,33] true ?_
    simp [go_sem, hn]
    repeat (refine And.intro (by first | omega | (intros; omega) | (intros; exact And.intro (by assumption) (by omega)) | grind) ?_)
    refine DoL.sealS true 202 201 rfl ?_
    simp [go_sem]
    refine DoL.call true 203 rfl rfl rfl rfl (by first | exact trivial | omega | (simp; done) | (simp; omega)) (hS) rfl (by first | exact .inl rfl | exact .inr rfl) rfl ?_
    simp [go_sem, hn]
    repeat (refine And.intro (by first | omega | (intros; omega) | (intros; exact And.intro (by assumption) (by omega)) | grind) ?_)
    refine DoL.gOn true 208 rfl rfl [29] (by simp [go_sem]) ?_
    simp [go_sem]
    refine DoL.sealS true 209 208 rfl ?_
    simp [go_sem]
    refine DoL.callg true 210 rfl rfl rfl rfl rfl (by simp [go_sem] <;> omega) (fun _ => hA) rfl (by first | exact .inl rfl | exact .inr rfl) rfl ?_
    simp [go_sem, hn]
    apply k4_; clear k4_
    refine Do.cond [1,4,6,9] rfl (fun h => ?_) (fun h => ?_) <;> simp [go_sem, hn] at h ⊢
    refine Do.skip ?_
    simp [go_sem]
    apply k3_; clear k3_
    refine Do.seqk fun _ k5_ => ?_
    refine Do.region [1,4,6,9,10] true ?_
    simp [go_sem, hn]
    repeat (refine And.intro (by first | omega | (intros; omega) | (intros; exact And.intro (by assumption) (by omega)) | grind) ?_)
    apply k5_; clear k5_
    refine Do.seqk fun _ k6_ => ?_
    refine Do.seqk fun _ k7_ => ?_
    refine Do.region [1,4,6,9,10,11] true ?_
    simp [go_sem, hn]
    apply k7_; clear k7_
    refine Do.block ?_
    refine Do.loopF [1,4,6,9,10,11] (fun (i : Nat) => [(11, .int .i64 i)]) (fun (i : Nat) => [(401, .sr 4 (List.replicate i x.cs ++ List.replicate (n - i) [.i .i64 0, .b false, .i .i64 0, .z]))]) (fun (i : Nat) => i ≤ n) (fun (i : Nat) => n - i) (0) (fun _ => by first | (simp [go_sem, mixS]; done) | (simp [go_sem, mixS]; rfl)) (St.le_of (by first | rfl | simp [keep]) (by first | rfl | simp [keep])) (Nat.zero_le _) ?_
    intro i hi
    refine Do.seqk fun _ k8_ => ?_
    refine Do.seqk fun _ k9_ => ?_
    refine Do.region [1,4,6,9,10,11,39] true ?_
    simp [go_sem, hn]
    apply k9_; clear k9_
    refine Do.cond [1,4,6,9,10,11] rfl (fun h2 => ?_) (fun h2 => ?_) <;> simp [go_sem, hn] at h2 ⊢
    · obtain ⟨d, hd⟩ : ∃ d, n - i = d + 1 := ⟨n - i - 1, by omega⟩
      have hd2 : n - (i + 1) = d := by omega
      refine Do.skip ?_
      simp [go_sem]
      apply k8_; clear k8_
      refine Do.seqk fun _ k10_ => ?_
      refine Do.block ?_
      refine Do.region [1,4,6,9,10,11] true ?_
      simp [go_sem, hn, hd, List.replicate_succ]
      repeat (refine And.intro (by first | omega | (intros; omega) | (intros; exact And.intro (by assumption) (by omega)) | grind) ?_)
      apply k10_; clear k10_
      refine Do.region [1,4,6,9,10,11] true ?_
      simp [go_sem, hn, hd, List.replicate_succ]
      repeat (refine And.intro (by first | omega | (intros; omega) | (intros; exact And.intro (by assumption) (by omega)) | grind) ?_)
      refine ⟨i + 1, St.le_of rfl (by simp [keep, hd2, List.replicate_succ']), by omega, by simp; omega⟩
    · obtain rfl : i = n := by omega
      simp only [Nat.sub_self, List.replicate_zero, List.append_nil]
      refine Do.exit ?_
      simp [go_sem]
      apply k6_; clear k6_
      refine Do.seqk fun _ k11_ => ?_
      refine Do.region [1,4,6,9,10,12,13,14] true ?_
      simp [go_sem, hn, d1]
      repeat (refine And.intro (by first | omega | (intros; omega) | (intros; exact And.intro (by assumption) (by omega)) | grind) ?_)
      refine DoL.sealS true 905 401 rfl ?_
      simp [go_sem]
      refine DoL.call true 906 rfl rfl rfl rfl (by first | exact trivial | omega | (simp; done) | (simp; omega)) (hT) rfl (by first | exact .inl rfl | exact .inr rfl) rfl ?_
      simp [go_sem, hn, d1]
      repeat (refine And.intro (by first | omega | (intros; omega) | (intros; exact And.intro (by assumption) (by omega)) | grind) ?_)
      apply k11_; clear k11_
      refine Do.seqk fun _ k12_ => ?_
      refine Do.seqk fun _ k13_ => ?_
      refine Do.region [1,4,6,9,10,12,13,14,57] true ?_
      simp [go_sem, hn, d1]
      apply k13_; clear k13_
      refine Do.cond [1,4,6,9,10,12,13,14] rfl (fun h3 => ?_) (fun h3 => ?_) <;> simp [go_sem, hn, d1] at h3 ⊢
      refine Do.skip ?_
      simp [go_sem]
      apply k12_; clear k12_
      refine Do.seqk fun _ k14_ => ?_
      refine Do.seqk fun _ k15_ => ?_
      refine Do.region [1,4,6,9,10,12,13,14,72] true ?_
      simp [go_sem, hn, d1]
      repeat (refine And.intro (by first | omega | (intros; omega) | (intros; exact And.intro (by assumption) (by omega)) | grind) ?_)
      apply k15_; clear k15_
      refine Do.cond [1,4,6,9,10,12,13,14] rfl (fun h4 => ?_) (fun h4 => ?_) <;> simp [go_sem, hn, d1] at h4 ⊢
      · omega
      · refine Do.skip ?_
        simp [go_sem]
        apply k14_; clear k14_
        refine Do.seqk fun _ k16_ => ?_
        refine Do.draw [12,13,14,17,18] true (by kernel_rfl) ?_
        simp [go_sem, hn, d1]
        repeat (refine And.intro (by first | omega | (intros; omega) | (intros; exact And.intro (by assumption) (by omega)) | kernel_rfl | grind) ?_)
        refine DoLD.call true 1502 rfl rfl rfl rfl (by first | exact trivial | omega | (simp; done) | (simp; omega)) (Fmt_does) rfl (by first | exact .inl rfl | exact .inr rfl) rfl ?_
        simp [go_sem, hn, d1]
        repeat (refine And.intro (by first | omega | (intros; omega) | (intros; exact And.intro (by assumption) (by omega)) | kernel_rfl | grind) ?_)
        refine DoLD.call true 1505 rfl rfl rfl rfl (by first | exact trivial | omega | (simp; done) | (simp; omega)) (Their_does) rfl (by first | exact .inl rfl | exact .inr rfl) rfl ?_
        simp [go_sem, hn, d1]
        refine DoLD.call true 1506 rfl rfl rfl rfl (by first | exact trivial | omega | (simp; done) | (simp; omega)) (rx1) rfl (by first | exact .inl rfl | exact .inr rfl) rfl ?_
        simp [go_sem, hn, d1]
        repeat (refine And.intro (by first | omega | (intros; omega) | (intros; exact And.intro (by assumption) (by omega)) | kernel_rfl | grind) ?_)
        refine DoLD.call true 1508 rfl rfl rfl rfl (by first | exact trivial | omega | (simp; done) | (simp; omega)) (Their_does) rfl (by first | exact .inl rfl | exact .inr rfl) rfl ?_
        simp [go_sem, hn, d1]
        refine DoLD.call true 1509 rfl rfl rfl rfl (by first | exact trivial | omega | (simp; done) | (simp; omega)) (rx1) rfl (by first | exact .inl rfl | exact .inr rfl) rfl ?_
        simp [go_sem, hn, d1]
        refine DoLD.call true 1510 rfl rfl rfl rfl (by first | exact trivial | omega | (simp; done) | (simp; omega)) (M1) rfl (by first | exact .inl rfl | exact .inr rfl) rfl ?_
        simp [go_sem, hn, d1]
        refine DoLD.call true 1512 rfl rfl rfl rfl (by first | exact trivial | omega | (simp; done) | (simp; omega)) (F1) rfl (by first | exact .inl rfl | exact .inr rfl) rfl ?_
        simp [go_sem, hn, d1]
        refine DoLD.call true 1513 rfl rfl rfl rfl (by first | exact trivial | omega | (simp; done) | (simp; omega)) (N1) rfl (by first | exact .inl rfl | exact .inr rfl) rfl ?_
        simp [go_sem, hn, d1]
        refine DoLD.call true 1514 rfl rfl rfl rfl (by first | exact trivial | omega | (simp; done) | (simp; omega)) (hRR) rfl (by first | exact .inl rfl | exact .inr rfl) rfl ?_
        simp [go_sem, hn, d1]
        repeat (refine And.intro (by first | omega | (intros; omega) | (intros; exact And.intro (by assumption) (by omega)) | kernel_rfl | grind) ?_)
        try (refine And.intro (by kernel_rfl) ?_)
        apply k16_; clear k16_
        refine Do.seqk fun _ k17_ => ?_
        refine Do.region [8] true ?_
        simp [go_sem, hn, d1]
        repeat (refine And.intro (by first | omega | (intros; omega) | (intros; exact And.intro (by assumption) (by omega)) | grind) ?_)
        refine DoL.call true 1606 rfl rfl rfl rfl (by first | exact trivial | omega | (simp; done) | (simp; omega)) (hF) rfl (by first | exact .inl rfl | exact .inr rfl) rfl ?_
        simp [go_sem, hn, d1]
        refine DoL.callg true 1608 rfl rfl rfl rfl rfl (by simp [go_sem] <;> omega) (fun _ => awake18_does) rfl (by first | exact .inl rfl | exact .inr rfl) rfl ?_
        simp [go_sem, hn, d1]
        apply k17_; clear k17_
        refine Do.ret ?_
        simp [endQ, rets, ret1, go_sem, hn, d1]
        repeat (refine And.intro (by first | omega | (intros; omega) | (intros; exact And.intro (by assumption) (by omega)) | grind) ?_)
        exact TLe.refl _
end Go.Proofs.YthpkhmbjmnhmoaaGreatDoor
/- The row of ProductMany. No condition. -/
namespace Go.Proofs.YthpkhmbjmnhmoaaGreatDoor
set_option linter.unusedVariables false
set_option linter.unusedSimpArgs false
open Go.ChangeShapes Go.WideShapes Go.ChangeAt Go.RowKit
set_option maxRecDepth 100000
theorem wf_u16_18 {x : Int} (h : (Lit.int .u16 x).wf = true) : 0 ≤ x ∧ x < 65536 := by
  simp only [Lit.wf, Bool.and_eq_true, decide_eq_true_eq] at h
  have h1 : IntKind.min .u16 = 0 := rfl
  have h2 : IntKind.max .u16 = 65535 := rfl
  rw [h1, h2] at h; omega
namespace productMany
set_option maxRecDepth 100000 in
theorem lifted (os : Os) (started : os.Started) (H : Type) (enc : TypeId × Value → H) :
    ReturnsInHanded {} Tryz.checked os 6 .any (fun w args => (Rows.productManySpec.pre enc Tryz.prog Tryz.f6 [] false w args ∧ laidMetH Tryz.prog laidL w) ∧ sizedMet enc Tryz.prog Tryz.f6 (OpenSpec.ofChange Rows.productManySpec) false w args)
      (Rows.productManySpec.post enc Tryz.prog Tryz.f6 false true false false) := by
  refine returnsInHanded_of_change_and (C := Tryz.checked) (X := fun w _ => laidMetH Tryz.prog laidL w) (fun _ _ _ hh h => h.of_heap hh) own started (by kernel_rfl) Tryz.func6
    (ChangeSpec.witness_shaped (enc := enc) (C := Tryz.checked) (os := os) (X := fun w _ => laidMetH Tryz.prog laidL w) false (World.doorLaid Tryz.prog doorN os) #[.agg #[.int .i64 0, .int .i64 0], .int .i64 0, .agg #[.int .i64 0, .bool false, .int .i64 0, .slice Option.none 0 0], .int .u16 0] doorK rfl (World.shaped_of_RefB (by kernel_rfl) (by kernel_rfl)) (by kernel_rfl) (by kernel_rfl) (by kernel_rfl) (door_met os _)) ?_
  intro W base args ds gs before hval0 hW _ _ hL _
  have hval : ∀ (j : Nat) t v, Tryz.f6.params[j]? = some t → args[j]? = some v → Value.okWide Tryz.prog W .any base t v := hval0
  have hW' := hW
  obtain ⟨p, q, hA0, hV, rfl, hfz, hnd⟩ := hW
  have hA : DataW.TrodAll enc Tryz.prog W 0 (fun _ => true) true Tryz.f6.params.toList args.toList ds p := hA0
  rw [Tryz.params6] at hA hval
  obtain ⟨v0, vs0, d0, ds0, p0, q0, hargs, rfl, rfl, h0, r0⟩ := trodAll_cons hA
  obtain ⟨v1, vs1, d1, ds1, p1, q1, rfl, rfl, rfl, h1, r1⟩ := trodAll_cons r0
  obtain ⟨v2, vs2, d2, ds2, p2, q2, rfl, rfl, rfl, h2, r2⟩ := trodAll_cons r1
  obtain ⟨v3, vs3, d3, ds3, p3, q3, rfl, rfl, rfl, h3, r3⟩ := trodAll_cons r2
  obtain ⟨rfl, rfl, rfl⟩ := trodAll_nil r3
  obtain rfl : args = #[v0, v1, v2, v3] := by cases args; simp_all
  obtain ⟨rfl, rfl⟩ := trodVars_none hV
  have lt0 : ∀ x ∈ p0, x.block < W.heap.size := by obtain ⟨m, hm⟩ := h0; exact DataW.trod_lt m _ _ _ hm
  have lt1 : ∀ x ∈ p1, x.block < W.heap.size := by obtain ⟨m, hm⟩ := h1; exact DataW.trod_lt m _ _ _ hm
  have lt2 : ∀ x ∈ p2, x.block < W.heap.size := by obtain ⟨m, hm⟩ := h2; exact DataW.trod_lt m _ _ _ hm
  have lt3 : ∀ x ∈ p3, x.block < W.heap.size := by obtain ⟨m, hm⟩ := h3; exact DataW.trod_lt m _ _ _ hm
  obtain ⟨f, fp, a0⟩ := arg_fm (hval 0 _ v0 rfl rfl) h0
  have k1 := h1
  obtain ⟨r, rfl, rfl, rfl, w1⟩ := open_int Tryz.underlying24 (hval 1 _ v1 rfl rfl) h1
  obtain ⟨x, wx, ex, a2⟩ := arg_fl (hval 2 _ v2 rfl rfl) h2
  have k3 := h3
  obtain ⟨many, rfl, rfl, rfl, w3⟩ := open_int Tryz.underlying54 (hval 3 _ v3 rfl rfl) h3
  clear hA0 hval0
  refine (law_calls (vals := [v0, .int .i64 r, v2, .int .u16 many]) (ProductMany_does (f := f) (p := fp) (r := r) wx ex (wf_u16_18 w3)) Tryz.func6 rfl rfl (of_laid hL) (.cons a0 (.cons rfl (.cons a2 (.cons rfl .nil))))).mono fun e W' ⟨he, bel⟩ => ?_
  subst he
  exact ⟨_, rfl, _, _, _, [], _, [], hW', trodAll_mk1 (shut_bool Tryz.underlying4 _), (trodAll_cons_mk (Below.trod laidOut (by kernel_rfl) (of_decide_eq_true (by kernel_rfl)) h0 bel lt0) (trodAll_cons_mk (Below.trod laidOut (by kernel_rfl) (of_decide_eq_true (by kernel_rfl)) k1 bel lt1) (trodAll_cons_mk (Below.trod laidOut (by kernel_rfl) (of_decide_eq_true (by kernel_rfl)) h2 bel lt2) (trodAll_mk1 (Below.trod laidOut (by kernel_rfl) (of_decide_eq_true (by kernel_rfl)) k3 bel lt3))))), rfl, bel.frame _, fun h => by cases h⟩
theorem over : Rows.productManyRow.holds Tryz.pinned (OpenSpec.ofChange Rows.productManySpec) :=
  OpenClaim.holds_of_wide 6 Tryz.f6 rfl rfl rfl rfl rfl rfl rfl ⟨rfl, rfl, rfl, rfl, rfl⟩ rfl rfl rfl rfl rfl (by kernel_rfl) Tryz.func6 (by kernel_rfl)
    (of_decide_eq_true (by kernel_rfl)) (by unfold Func.isWrapper; first | (rw [if_pos (by decide +kernel)]; kernel_rfl) | (rw [if_neg (by decide +kernel)]; exact ⟨rfl, rfl⟩))
    (fun os started H enc _ => lifted os started H enc)
end productMany
end Go.Proofs.YthpkhmbjmnhmoaaGreatDoor
/- The law ProductMany holds, for every input: lists of up to 1002 copies of a float of up to 40 words: more than 1000 are an error; otherwise the sum of so many equal products, rounded once. Conditions: the two listed package variables hold what the program's text lays (tied by the card). -/
namespace Go.Proofs.YthpkhmbjmnhmoaaGreatDoor
set_option linter.unusedVariables false
set_option linter.unusedSimpArgs false
open Go
theorem productMany_holds : Rows.ProductManyCardSaid :=
  Claim7.holds_tied_plain_at .later [] [.data, .funcs] true Rows.productManyCard.stood.harness false
    productMany.over (fun _ h => by cases h) (by kernel_rfl) (fun _ h => by cases h) productMany_row_tie rfl ⟨rfl, rfl⟩ (by kernel_rfl) rfl
    (fun f fn hf hfn => by
      obtain rfl : f = 6 := Option.some.inj ((show Tryz.prog.funcNamed "reckoner/reckonerlaw18.ProductMany" = some 6 by kernel_rfl).symm.trans hf) |>.symm
      obtain rfl : fn = Tryz.f6 := (Option.some.inj (Tryz.func6.symm.trans hfn)).symm
      exact ⟨by kernel_rfl, fun j t ht => by
        have hm : t ∈ Tryz.f6.params.toList := by simpa using Array.mem_of_getElem? ht
        have hall : (Tryz.f6.params.toList.all fun u => !Tryz.prog.wantsStandIn u) = true := by kernel_rfl
        exact (show Tryz.prog.wantsStandIn t = false by simpa using List.all_eq_true.1 hall t hm)⟩)
    (by kernel_rfl)
#print axioms productMany_holds
end Go.Proofs.YthpkhmbjmnhmoaaGreatDoor
