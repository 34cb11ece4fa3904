/- The digits of a product, and of a quotient by one digit. No condition. A quotient by one digit; shifts of digits. No condition. Sums, differences, products of the reference's natural numbers. No condition. The integers of the reference. No condition. Sums and differences of the reference's integers. No condition. The lowest bits of a number; a real number of the reference and its exponent. No condition. A real number of the reference: an integer times a power of 2; its exponent. No condition. A real number in steps; a part rounded. No condition. A part rounded; the greatest float; what is beyond it. No condition. The greatest float, what is beyond it. No condition. The reference's rounding is the program's. No condition. Canonical floats, counted. No condition. The exact sum of floats. No condition. The reference's sum is the program's. No condition. The reference's Total. No condition. What the laws of sums compare. No condition. The law SumTotals. No condition. The law SumAdds. No condition. The package variables of the program, as they are laid, and what a law's arguments are. No condition. Rounding to the nearest: how near, and when exactly. No condition. What a rounded sum drops is a float of the format. No condition. Functions whose one result is a row of the caller's. No condition. The reference's Rest: what sums leave, as a float. No condition. A box under another label; a pointer to cells, taken as one, within a region. No condition. Pairs of floats: the rounded sum, and what it drops. No condition. The law SumPairs. No condition. -/
import Derived.Test.YtdaecibpkhcllaaGreatDoorMh
import Derived.Test.YtdaecibpkhcllaaGreatDoorMf
import Derived.Test.YtdaecibpkhcllaaGreatDoorMe
import Derived.KernelRfl
import Derived.Test.YtdaecibpkhcllaaGreatDoorRows
import Derived.LaidMore
import Derived.LaidHandle
import Derived.Stop.Joined
import Derived.Carry
import Derived.OpenShut
import Derived.Test.YtdaecibpkhcllaaGreatDoorMd
import Derived.Test.YtdaecibpkhcllaaGreatDoorMg
/- The digits of a product, and of a quotient by one digit. No condition. -/
namespace Go.Proofs.YtdaecibpkhcllaaGreatDoor
set_option linter.unusedVariables false
set_option linter.unusedSimpArgs false
variable {G : Gl}
set_option maxHeartbeats 2000000
/-- The product with the digits below i. -/
def tp (a b i : Nat) : Nat := a % 4294967296 ^ i * b
/-- What holds within the row i, at the digit t: the number Q stands in the result, c is carried. -/
def TimesI (a b k i t Q c : Nat) : Prop := Q + c * 4294967296 ^ (i + t) = tp a b i + dig a i * 4294967296 ^ i * (b % 4294967296 ^ t) ∧ Q < 4294967296 ^ (i + k) ∧ c < 4294967296
theorem TimesI.start {a b k i : Nat} (hb : b < 4294967296 ^ k) : TimesI a b k i 0 (tp a b i) 0 := by
  refine ⟨by simp [Nat.mod_one], ?_, by omega⟩
  unfold tp
  rw [Nat.pow_add]
  exact Nat.mul_lt_mul_of_lt_of_le (Nat.mod_lt _ (Hpos i)) (Nat.le_of_lt hb) (Hpos k)
theorem mul_lt_sq {x y : Nat} (hx : x < 4294967296) (hy : y < 4294967296) : x * y ≤ 18446744065119617025 := by
  have := Nat.mul_le_mul (show x ≤ 4294967295 by omega) (show y ≤ 4294967295 by omega)
  omega
theorem TimesI.next {a b j k i t Q c : Nat} (h : TimesI a b k i t Q c) (hi : i < j) (ht : t < k) : c + dig Q (i + t) + dig a i * dig b t < 18446744073709551616 ∧ ∃ Q', (dg Q (j + k)).set (i + t) ((c + dig Q (i + t) + dig a i * dig b t) % 4294967296) = dg Q' (j + k) ∧ TimesI a b k i (t + 1) Q' ((c + dig Q (i + t) + dig a i * dig b t) / 4294967296) := by
  obtain ⟨h1, h2, h3⟩ := h
  have l1 := dig_lt Q (i + t)
  have l2 := mul_lt_sq (dig_lt a i) (dig_lt b t)
  refine ⟨by omega, ?_⟩
  obtain ⟨Q', e1, e2, e3⟩ := @dg_set Q (j + k) (i + t) ((c + dig Q (i + t) + dig a i * dig b t) % 4294967296) (by omega) (Nat.mod_lt _ (by decide))
  refine ⟨Q', e1, ?_, e3 _ (by omega) h2, by omega⟩
  have hs := Nat.div_add_mod' (c + dig Q (i + t) + dig a i * dig b t) 4294967296
  have hm : (c + dig Q (i + t) + dig a i * dig b t) / 4294967296 * 4294967296 ^ (i + (t + 1)) = (c + dig Q (i + t) + dig a i * dig b t) / 4294967296 * 4294967296 * 4294967296 ^ (i + t) := by
    rw [show i + (t + 1) = i + t + 1 by omega, Nat.pow_succ, Nat.mul_comm (4294967296 ^ (i + t)), Nat.mul_assoc]
  rw [hm, low_step b t, Nat.mul_add, ← Nat.add_assoc, ← h1]
  have hd : dig a i * 4294967296 ^ i * (dig b t * 4294967296 ^ t) = dig a i * dig b t * 4294967296 ^ (i + t) := by
    rw [Nat.pow_add]; ac_rfl
  rw [hd]
  have hk : ∀ x y z : Nat, x / 4294967296 * 4294967296 + x % 4294967296 = x := fun x _ _ => Nat.div_add_mod' x _
  generalize 4294967296 ^ (i + t) = M at *
  generalize dig a i * dig b t = p at *
  generalize dig Q (i + t) = q at *
  have e4 : (c + q + p) / 4294967296 * 4294967296 * M + (c + q + p) % 4294967296 * M = (c + q + p) * M := by rw [← Nat.add_mul, hk _ 0 0]
  rw [Nat.add_mul, Nat.add_mul] at e4
  omega
theorem TimesI.out {a b j k i Q c : Nat} (h : TimesI a b k i k Q c) (hb : b < 4294967296 ^ k) (hi : i < j) : (dg Q (j + k)).set (i + k) c = dg (tp a b (i + 1)) (j + k) := by
  obtain ⟨h1, h2, h3⟩ := h
  obtain ⟨Q', e1, e2, _⟩ := @dg_set Q (j + k) (i + k) c (by omega) h3
  rw [dig_none h2 (Nat.le_refl _), Nat.zero_mul, Nat.add_zero, h1, Nat.mod_eq_of_lt hb] at e2
  rw [e1, e2]
  unfold tp
  rw [low_step a i, Nat.add_mul]
theorem tp_zero (a b : Nat) : tp a b 0 = 0 := by simp [tp, Nat.mod_one]
theorem tp_end {a b j : Nat} (ha : a < 4294967296 ^ j) : tp a b j = a * b := by rw [tp, Nat.mod_eq_of_lt ha]
theorem Times_does {a b j k : Nat} (ha : a < 4294967296 ^ j) (hb : b < 4294967296 ^ k) (hj : j ≤ 4294967296) (hk : k ≤ 4294967296) : Does Tryz.prog G 130 [Wd (dg a j), Wd (dg b k)] (.v (Wn (dg (a * b) (j + k)))) := by
  have hend := @tp_end a b j ha
  have hst := fun i => @TimesI.start a b k i hb
  have hout := fun i Q c (h : TimesI a b k i k Q c) hi => @TimesI.out a b j k i Q c h hb hi
  clear ha hb
  refine Does.of (nt := 62) Tryz.func130 rfl rfl rfl (by simp) ?_
  simp only [argTm, PV.ext, Ce.ext]
  refine Do.seqk fun _ k1_ => ?_
  refine Do.region [0,1] true ?_
  simp [go_sem, -List.reduceReplicate]
  apply k1_; clear k1_
  refine Do.seqk fun _ k2_ => ?_
  refine Do.region [0,1,5] true ?_
  simp [go_sem, -List.reduceReplicate]
  repeat (refine And.intro (by first | omega | (intros; omega) | (intros; exact And.intro (by assumption) (by omega)) | grind) ?_)
  apply k2_; clear k2_
  refine Do.seqk fun _ k3_ => ?_
  refine Do.seqk fun _ k4_ => ?_
  refine Do.region [0,1,5,6] true ?_
  simp [go_sem, -List.reduceReplicate]
  apply k4_; clear k4_
  refine Do.block ?_
  rw [show ((j : Int) + k).toNat = j + k by omega, dg_zero]
  refine Do.loopF [0,1,5,6] (fun (i : Nat) => [(6, .int .i64 i)]) (fun (i : Nat) => [(105, .wr (dg (tp a b i) (j + k)))]) (fun (i : Nat) => i ≤ j) (fun (i : Nat) => j - i) (0) (fun _ => by first | (simp [go_sem, mixS]; done) | (simp [go_sem, mixS]; rfl)) (St.le_of (by simp [keep, tp_zero]) (by simp [keep, tp_zero])) (Nat.zero_le _) ?_
  intro i hi
  refine Do.seqk fun _ k5_ => ?_
  refine Do.seqk fun _ k6_ => ?_
  refine Do.region [0,1,5,6,18] true ?_
  simp [go_sem, -List.reduceReplicate]
  repeat (refine And.intro (by first | omega | (intros; omega) | (intros; exact And.intro (by assumption) (by omega)) | grind) ?_)
  apply k6_; clear k6_
  refine Do.cond [0,1,5,6] rfl (fun h => ?_) (fun h => ?_) <;> simp [go_sem, -List.reduceReplicate] at h ⊢
  · refine Do.skip ?_
    simp [go_sem]
    apply k5_; clear k5_
    refine Do.seqk fun _ k7_ => ?_
    refine Do.block ?_
    refine Do.seqk fun _ k8_ => ?_
    refine Do.region [0,1,5,6,7] true ?_
    simp [go_sem, -List.reduceReplicate]
    apply k8_; clear k8_
    refine Do.seqk fun _ k9_ => ?_
    refine Do.seqk fun _ k10_ => ?_
    refine Do.region [0,1,5,6,7,8] true ?_
    simp [go_sem, -List.reduceReplicate]
    apply k10_; clear k10_
    refine Do.block ?_
    refine Do.loopF [0,1,5,6,7,8] (fun (s : Nat × Nat × Nat) => [(7, .v (.c (.n s.2.2))), (8, .int .i64 s.1)]) (fun (s : Nat × Nat × Nat) => [(105, .wr (dg s.2.1 (j + k)))]) (fun (s : Nat × Nat × Nat) => s.1 ≤ k ∧ TimesI a b k i s.1 s.2.1 s.2.2) (fun (s : Nat × Nat × Nat) => k - s.1) ((0, tp a b i, 0)) (fun _ => by first | (simp [go_sem, mixS]; done) | (simp [go_sem, mixS]; rfl)) (St.le_of (by first | rfl | simp [keep]) (by first | rfl | simp [keep])) (⟨Nat.zero_le _, hst i⟩) ?_
    rintro ⟨t, Q, c⟩ ⟨ht, hI⟩
    simp only at ht hI
    refine Do.seqk fun _ k11_ => ?_
    refine Do.seqk fun _ k12_ => ?_
    refine Do.region [0,1,5,6,7,8,24] true ?_
    simp [go_sem, -List.reduceReplicate]
    repeat (refine And.intro (by first | omega | (intros; omega) | (intros; exact And.intro (by assumption) (by omega)) | grind) ?_)
    apply k12_; clear k12_
    refine Do.cond [0,1,5,6,7,8] rfl (fun h2 => ?_) (fun h2 => ?_) <;> simp [go_sem, -List.reduceReplicate] at h2 ⊢
    · obtain ⟨hb1, Q', e1, hI'⟩ := hI.next h h2
      have g1 := @dg_dig (j + k) Q (i + t) (by omega)
      have g2 := @dg_dig j a i h
      have g3 := @dg_dig k b t h2
      have l1 := dig_lt Q (i + t)
      have l2 := mul_lt_sq (dig_lt a i) (dig_lt b t)
      have hc := hI.2.2
      have b1 : c + dig Q (i + t) + dig a i * dig b t < M64 := hb1
      have b2 : c + dig Q (i + t) < M64 := by unfold M64; omega
      have b3 : dig a i * dig b t < M64 := by unfold M64; omega
      refine Do.skip ?_
      simp [go_sem]
      apply k11_; clear k11_
      refine Do.seqk fun _ k13_ => ?_
      refine Do.block ?_
      refine Do.seqk fun _ k14_ => ?_
      refine Do.draw [0,1,5,6,7,8] true (by kernel_rfl) ?_
      simp [go_sem, g1, g2, g3, b1, b2, b3, show ((i : Int) + t).toNat = i + t by omega]
      repeat (refine And.intro (by first | omega | (intros; omega) | (intros; exact And.intro (by assumption) (by omega)) | kernel_rfl | grind) ?_)
      try (refine And.intro (by kernel_rfl) ?_)
      apply k14_; clear k14_
      refine Do.seqk fun _ k15_ => ?_
      refine Do.region [0,1,5,6,7,8] true ?_
      simp [go_sem, g1, g2, g3, b1, b2, b3, show ((i : Int) + t).toNat = i + t by omega]
      repeat (refine And.intro (by first | omega | (intros; omega) | (intros; exact And.intro (by assumption) (by omega)) | grind) ?_)
      apply k15_; clear k15_
      refine Do.region [0,1,5,6,7,8] true ?_
      simp [go_sem, g1, g2, g3, b1, b2, b3, show ((i : Int) + t).toNat = i + t by omega]
      repeat (refine And.intro (by first | omega | (intros; omega) | (intros; exact And.intro (by assumption) (by omega)) | grind) ?_)
      apply k13_; clear k13_
      refine Do.region [0,1,5,6,7,8] true ?_
      simp [go_sem, g1, g2, g3, b1, b2, b3, show ((i : Int) + t).toNat = i + t by omega]
      repeat (refine And.intro (by first | omega | (intros; omega) | (intros; exact And.intro (by assumption) (by omega)) | grind) ?_)
      refine ⟨(t + 1, Q', (c + dig Q (i + t) + dig a i * dig b t) / 4294967296), St.le_of rfl (by simp [keep, e1]), ⟨by omega, hI'⟩, by simp; omega⟩
    · obtain rfl : t = k := by omega
      have ho := hout i Q c hI h
      refine Do.exit ?_
      simp [go_sem]
      apply k9_; clear k9_
      refine Do.region [0,1,5,6] true ?_
      simp [go_sem, show ((i : Int) + t).toNat = i + t by omega]
      repeat (refine And.intro (by first | omega | (intros; omega) | (intros; exact And.intro (by assumption) (by omega)) | grind) ?_)
      apply k7_; clear k7_
      refine Do.region [0,1,5,6] true ?_
      simp [go_sem, show ((i : Int) + t).toNat = i + t by omega]
      repeat (refine And.intro (by first | omega | (intros; omega) | (intros; exact And.intro (by assumption) (by omega)) | grind) ?_)
      refine ⟨i + 1, St.le_of rfl (by simp [keep, ho]), by omega, by simp; omega⟩
  · refine Do.exit ?_
    simp [go_sem]
    apply k3_; clear k3_
    refine Do.seqk fun _ k16_ => ?_
    refine Do.region [4] true ?_
    simp [go_sem, -List.reduceReplicate]
    apply k16_; clear k16_
    refine Do.ret ?_
    simp [endQ, rets, ret1, go_sem, -List.reduceReplicate]
    repeat (refine And.intro (by first | omega | (intros; omega) | (intros; exact And.intro (by assumption) (by omega)) | grind) ?_)
    obtain rfl : i = j := by omega
    rw [hend]
    exact TLe.refl _
end Go.Proofs.YtdaecibpkhcllaaGreatDoor
/- A quotient by one digit; shifts of digits. No condition. -/
namespace Go.Proofs.YtdaecibpkhcllaaGreatDoor
set_option linter.unusedVariables false
set_option linter.unusedSimpArgs false
variable {G : Gl}
set_option maxHeartbeats 2000000
set_option maxRecDepth 10000
/-- The quotient of the digits from i on, at its place. -/
def qf (a w i : Nat) : Nat := hgh a i / w * 4294967296 ^ i
theorem qf_zero (a w : Nat) : qf a w 0 = a / w := by simp [qf, hi_zero]
theorem qf_step {a w j i : Nat} (h : i < j) (hw : 0 < w) (hw' : w < 4294967296) : hgh a (i + 1) % w * 4294967296 + dig a i < 18446744073709551616 ∧ (dg (qf a w (i + 1)) j).set i ((hgh a (i + 1) % w * 4294967296 + dig a i) / w) = dg (qf a w i) j ∧ (hgh a (i + 1) % w * 4294967296 + dig a i) % w = hgh a i % w := by
  have l1 := dig_lt a i
  have l2 := Nat.mod_lt (hgh a (i + 1)) hw
  have e0 := Nat.div_add_mod (hgh a (i + 1)) w
  have e1 := hi_step a i
  have l3 : (hgh a (i + 1) % w * 4294967296 + dig a i) / w < 4294967296 := by
    rw [Nat.div_lt_iff_lt_mul hw]
    have : (hgh a (i + 1) % w + 1) * 4294967296 ≤ w * 4294967296 := Nat.mul_le_mul_right _ l2
    omega
  obtain ⟨Q', e2, e3, _⟩ := @dg_set (qf a w (i + 1)) j i _ h l3
  have e4 : hgh a i = hgh a (i + 1) % w * 4294967296 + dig a i + w * (hgh a (i + 1) / w * 4294967296) := by
    rw [e1]
    conv => lhs; rw [← e0]
    rw [Nat.add_mul, Nat.mul_assoc]; omega
  refine ⟨by omega, ?_, by rw [e4, Nat.add_mul_mod_self_left]⟩
  rw [e2]
  congr 1
  have e5 : dig (qf a w (i + 1)) i = 0 := by
    rw [qf, Nat.pow_succ, ← Nat.mul_assoc, Nat.mul_right_comm]
    unfold dig
    rw [Nat.mul_div_cancel _ (Hpos i), Nat.mul_mod_left]
  rw [e5, Nat.zero_mul, Nat.add_zero] at e3
  rw [e3, qf, qf, e4, Nat.add_mul_div_left _ _ hw, Nat.add_mul, Nat.pow_succ]
  have : hgh a (i + 1) / w * (4294967296 ^ i * 4294967296) = hgh a (i + 1) / w * 4294967296 * 4294967296 ^ i := by ac_rfl
  omega
theorem qf_top {a w j : Nat} (ha : a < 4294967296 ^ j) : qf a w j = 0 := by rw [qf, hi_none ha (Nat.le_refl _)]; simp
theorem one_does {a w j : Nat} (ha : a < 4294967296 ^ j) (hw : 0 < w) (hw' : w < 4294967296) (hj : j ≤ 4294967296) : Does Tryz.prog G 169 [Wd (dg a j), .c (.n w)] (.t [Wn (dg (a / w) j), Wn [a % w]]) := by
  have htop := @qf_top a w j ha
  have hz := @hi_none a j ha j (Nat.le_refl _)
  have h00 := qf_zero a w
  have h01 := hi_zero a
  have hst := fun i (h : i < j) => @qf_step a w j i h hw hw'
  clear ha
  refine Does.of (nt := 38) Tryz.func169 rfl rfl rfl (by simp) ?_
  simp only [argTm, PV.ext, Ce.ext]
  refine Do.seqk fun _ k1_ => ?_
  refine Do.region [0,1] true ?_
  simp [go_sem, -List.reduceReplicate]
  apply k1_; clear k1_
  refine Do.seqk fun _ k2_ => ?_
  refine Do.region [0,1,6] true ?_
  simp [go_sem, -List.reduceReplicate]
  repeat (refine And.intro (by first | omega | (intros; omega) | (intros; exact And.intro (by assumption) (by omega)) | grind) ?_)
  apply k2_; clear k2_
  refine Do.seqk fun _ k3_ => ?_
  refine Do.region [0,1,6,7] true ?_
  simp [go_sem, -List.reduceReplicate]
  apply k3_; clear k3_
  refine Do.seqk fun _ k4_ => ?_
  refine Do.seqk fun _ k5_ => ?_
  refine Do.region [0,1,6,7,8] true ?_
  simp [go_sem, -List.reduceReplicate]
  repeat (refine And.intro (by first | omega | (intros; omega) | (intros; exact And.intro (by assumption) (by omega)) | grind) ?_)
  apply k5_; clear k5_
  refine Do.block ?_
  rw [dg_zero]
  refine Do.loopF [0,1,6,7,8] (fun (i : Nat) => [(7, .v (.c (.n (hgh a i % w)))), (8, .int .i64 ((i : Int) - 1))]) (fun (i : Nat) => [(102, .wr (dg (qf a w i) j))]) (fun (i : Nat) => i ≤ j) (fun (i : Nat) => i) (j) (fun _ => by first | (simp [go_sem, mixS]; done) | (simp [go_sem, mixS]; rfl)) (St.le_of (by simp [keep, htop, hz]) (by simp [keep, htop, hz])) (Nat.le_refl _) ?_
  intro i hi
  refine Do.seqk fun _ k6_ => ?_
  refine Do.seqk fun _ k7_ => ?_
  refine Do.region [0,1,6,7,8,16] true ?_
  simp [go_sem, -List.reduceReplicate]
  apply k7_; clear k7_
  refine Do.cond [0,1,6,7,8] rfl (fun h => ?_) (fun h => ?_) <;> simp [go_sem, -List.reduceReplicate] at h ⊢
  · obtain ⟨i, rfl⟩ : ∃ x, i = x + 1 := ⟨i - 1, by omega⟩
    rw [show ((i + 1 : Nat) : Int) - 1 = i by omega]
    have hs := hst i (by omega)
    have g1 := @dg_dig j a i (by omega)
    have b1 : hgh a (i + 1) % w * 4294967296 + dig a i < M64 := hs.1
    have b2 : hgh a (i + 1) % w * 4294967296 < M64 := Nat.lt_of_le_of_lt (Nat.le_add_right _ _) b1
    refine Do.skip ?_
    simp [go_sem]
    apply k6_; clear k6_
    refine Do.seqk fun _ k8_ => ?_
    refine Do.block ?_
    refine Do.seqk fun _ k9_ => ?_
    refine Do.region [0,1,6,7,8] true ?_
    simp [go_sem, g1, b1, b2, Nat.ne_of_gt hw]
    repeat (refine And.intro (by first | omega | (intros; omega) | (intros; exact And.intro (by assumption) (by omega)) | grind) ?_)
    apply k9_; clear k9_
    refine Do.seqk fun _ k10_ => ?_
    refine Do.region [0,1,6,7,8] true ?_
    simp [go_sem, g1, b1, b2, Nat.ne_of_gt hw]
    repeat (refine And.intro (by first | omega | (intros; omega) | (intros; exact And.intro (by assumption) (by omega)) | grind) ?_)
    apply k10_; clear k10_
    refine Do.region [0,1,6,7,8] true ?_
    simp [go_sem, g1, b1, b2, Nat.ne_of_gt hw]
    repeat (refine And.intro (by first | omega | (intros; omega) | (intros; exact And.intro (by assumption) (by omega)) | grind) ?_)
    apply k8_; clear k8_
    refine Do.region [0,1,6,7,8] true ?_
    simp [go_sem, g1, b1, b2, Nat.ne_of_gt hw]
    repeat (refine And.intro (by first | omega | (intros; omega) | (intros; exact And.intro (by assumption) (by omega)) | grind) ?_)
    refine ⟨i, St.le_of (by simp [keep, hs.2.2]) (by simp [keep, hs.2.1]), by omega, by simp⟩
  · refine Do.exit ?_
    simp [go_sem]
    apply k4_; clear k4_
    refine Do.seqk fun _ k11_ => ?_
    refine Do.region [4,5] true ?_
    simp [go_sem, -List.reduceReplicate]
    apply k11_; clear k11_
    refine Do.ret ?_
    simp [endQ, rets, ret1, go_sem, -List.reduceReplicate]
    repeat (refine And.intro (by first | omega | (intros; omega) | (intros; exact And.intro (by assumption) (by omega)) | grind) ?_)
    obtain rfl : i = 0 := by omega
    rw [h00, h01]
    exact TLe.refl _
theorem Left01_does {x : List Nat} {s : Nat} (hx : x.length ≤ 1073741823) (hw : Ws x) (hs : s < 64) : ∃ row hig, Does Tryz.prog G 132 [Wd x, .c (.i .i64 s)] (.t [Wn row, .c (.n hig)]) ∧ Ws row ∧ hig < 18446744073709551616 ∧ row.length = x.length ∧ val row + 18446744073709551616 ^ x.length * hig = val x * 2 ^ s := by
  have hv := val_lt hw
  have h2 : 2 ^ s < 18446744073709551616 := Nat.lt_of_lt_of_le (Nat.pow_lt_pow_right (by decide) hs) (by decide)
  have hN : val x * 2 ^ s < 18446744073709551616 ^ (x.length + 1) := by
    rw [Nat.pow_succ]
    exact Nat.mul_lt_mul_of_lt_of_le hv (Nat.le_of_lt h2) (by decide)
  have hT := @Times_does G (val x) (2 ^ s) (2 * x.length) 2 (by rwa [← HB]) (show 2 ^ s < 4294967296 ^ 2 from h2) (by omega) (by omega)
  have hC := @Cut_does G (val x * 2 ^ s) (2 * x.length + 2) x.length (by omega) (by omega) (by rw [show 2 * x.length + 2 = 2 * (x.length + 1) by omega, ← HB]; exact hN)
  have hD := @Digits_does G x (by omega) hw
  have hW := @Word_does G (2 ^ s) h2
  refine ⟨wds (val x * 2 ^ s) x.length, val x * 2 ^ s / 18446744073709551616 ^ x.length % 18446744073709551616, ?_, wds_ws _ _, Nat.mod_lt _ (by decide), wds_len _ _, ?_⟩
  · generalize val x * 2 ^ s / 18446744073709551616 ^ x.length % 18446744073709551616 = z at *
    generalize val x * 2 ^ s = N at *
    clear hN hv
    refine Does.of (nt := 17) Tryz.func132 rfl rfl rfl (by simp) ?_
    simp only [argTm, PV.ext, Ce.ext]
    refine Do.seqk fun _ k1_ => ?_
    refine Do.region [0,1] true ?_
    simp [go_sem, show 2 ^ s % M64 = 2 ^ s from Nat.mod_eq_of_lt h2]
    apply k1_; clear k1_
    refine Do.seqk fun _ k2_ => ?_
    refine Do.draw [4,5] true (by kernel_rfl) ?_
    simp [go_sem, show 2 ^ s % M64 = 2 ^ s from Nat.mod_eq_of_lt h2]
    refine DoLD.call true 102 rfl rfl rfl rfl (by first | exact trivial | omega | (simp; done) | (simp; omega)) (hD) rfl (by first | exact .inl rfl | exact .inr rfl) rfl ?_
    simp [go_sem, show 2 ^ s % M64 = 2 ^ s from Nat.mod_eq_of_lt h2]
    repeat (refine And.intro (by first | omega | (intros; omega) | (intros; exact And.intro (by assumption) (by omega)) | kernel_rfl | grind) ?_)
    refine DoLD.call true 105 rfl rfl rfl rfl (by first | exact trivial | omega | (simp; done) | (simp; omega)) (hW) rfl (by first | exact .inl rfl | exact .inr rfl) rfl ?_
    simp [go_sem, show 2 ^ s % M64 = 2 ^ s from Nat.mod_eq_of_lt h2]
    refine DoLD.call true 106 rfl rfl rfl rfl (by first | exact trivial | omega | (simp; done) | (simp; omega)) (hT) rfl (by first | exact .inl rfl | exact .inr rfl) rfl ?_
    simp [go_sem, show 2 ^ s % M64 = 2 ^ s from Nat.mod_eq_of_lt h2]
    repeat (refine And.intro (by first | omega | (intros; omega) | (intros; exact And.intro (by assumption) (by omega)) | kernel_rfl | grind) ?_)
    refine DoLD.call true 109 rfl rfl rfl rfl (by first | exact trivial | omega | (simp; done) | (simp; omega)) (hC) rfl (by first | exact .inl rfl | exact .inr rfl) rfl ?_
    simp [go_sem, show 2 ^ s % M64 = 2 ^ s from Nat.mod_eq_of_lt h2]
    try (refine And.intro (by kernel_rfl) ?_)
    apply k2_; clear k2_
    refine Do.ret ?_
    simp [endQ, rets, ret1, go_sem, show 2 ^ s % M64 = 2 ^ s from Nat.mod_eq_of_lt h2]
    repeat (refine And.intro (by first | omega | (intros; omega) | (intros; exact And.intro (by assumption) (by omega)) | grind) ?_)
    exact TLe.refl _
  · rw [val_wds, Nat.add_comm]
    have := Nat.div_add_mod (val x * 2 ^ s) (18446744073709551616 ^ x.length)
    rw [Nat.mod_eq_of_lt (show val x * 2 ^ s / 18446744073709551616 ^ x.length < 18446744073709551616 by
      rw [Nat.div_lt_iff_lt_mul (Nat.pow_pos (by decide))]; rw [Nat.pow_succ, Nat.mul_comm (18446744073709551616 ^ _)] at hN; exact hN)]
    exact this
theorem RLeft_does {x : List Nat} {s : Nat} (hx : x.length ≤ 536870912) (hw : Ws x) (hs : s ≤ 4294967296) : Does Tryz.prog G 89 [Wd x, .c (.i .i64 s)] (.v (Wn (nat (val x * 2 ^ s)))) := by
  obtain ⟨row, hig, hD, h1, h2, h3, h4⟩ := @Left01_does G x (s % 64) (by omega) hw (Nat.mod_lt _ (by decide))
  have hT := @RTrim_does G (List.replicate (s / 64) 0 ++ row ++ [hig]) (by simp; omega) (by
    intro w hw
    simp only [List.mem_append, List.mem_replicate, List.mem_singleton] at hw
    rcases hw with (hw | hw) | hw
    · omega
    · exact h1 w hw
    · omega)
  have hv : val (List.replicate (s / 64) 0 ++ row ++ [hig]) = val x * 2 ^ s := by
    rw [List.append_assoc, val_append, val_zeros, val_append, h3, List.length_replicate, Nat.zero_add, show val [hig] = hig by simp [val], h4, B64_pow, Nat.mul_left_comm, ← Nat.pow_add, show 64 * (s / 64) + s % 64 = s by omega]
  rw [hv] at hT
  generalize val x * 2 ^ s = N at *
  rw [List.append_assoc] at hT
  refine Does.of (nt := 26) Tryz.func89 rfl rfl rfl (by simp) ?_
  simp only [argTm, PV.ext, Ce.ext]
  refine Do.seqk fun _ k1_ => ?_
  refine Do.region [0,1] true ?_
  simp [go_sem, -List.reduceReplicate, show ((s : Int) / 64).toNat = s / 64 by omega]
  apply k1_; clear k1_
  refine Do.seqk fun _ k2_ => ?_
  refine Do.region [1,5,6] true ?_
  simp [go_sem, -List.reduceReplicate, show ((s : Int) / 64).toNat = s / 64 by omega]
  repeat (refine And.intro (by first | omega | (intros; omega) | (intros; exact And.intro (by assumption) (by omega)) | grind) ?_)
  refine DoL.call true 104 rfl rfl rfl rfl (by first | exact trivial | omega | (simp; done) | (simp; omega)) (hD) rfl (by first | exact .inl rfl | exact .inr rfl) rfl ?_
  simp [go_sem, -List.reduceReplicate, show ((s : Int) / 64).toNat = s / 64 by omega]
  apply k2_; clear k2_
  refine Do.seqk fun _ k3_ => ?_
  refine Do.region [5,6,7] true ?_
  simp [go_sem, -List.reduceReplicate, show ((s : Int) / 64).toNat = s / 64 by omega]
  repeat (refine And.intro (by first | omega | (intros; omega) | (intros; exact And.intro (by assumption) (by omega)) | grind) ?_)
  apply k3_; clear k3_
  refine Do.seqk fun _ k4_ => ?_
  refine Do.region [6,7] true ?_
  simp [go_sem, -List.reduceReplicate, show ((s : Int) / 64).toNat = s / 64 by omega]
  repeat (refine And.intro (by first | omega | (intros; omega) | (intros; exact And.intro (by assumption) (by omega)) | grind) ?_)
  apply k4_; clear k4_
  refine Do.seqk fun _ k5_ => ?_
  refine Do.region [4] true ?_
  simp [go_sem, -List.reduceReplicate, show ((s : Int) / 64).toNat = s / 64 by omega]
  repeat (refine And.intro (by first | omega | (intros; omega) | (intros; exact And.intro (by assumption) (by omega)) | grind) ?_)
  refine DoL.frz true 404 202 rfl ?_
  simp [go_sem]
  refine DoL.call true 405 rfl rfl rfl rfl (by first | exact trivial | omega | (simp; done) | (simp; omega)) (hT) rfl (by first | exact .inl rfl | exact .inr rfl) rfl ?_
  simp [go_sem, -List.reduceReplicate, show ((s : Int) / 64).toNat = s / 64 by omega]
  apply k5_; clear k5_
  refine Do.ret ?_
  simp [endQ, rets, ret1, go_sem, -List.reduceReplicate, show ((s : Int) / 64).toNat = s / 64 by omega]
  repeat (refine And.intro (by first | omega | (intros; omega) | (intros; exact And.intro (by assumption) (by omega)) | grind) ?_)
  exact TLe.refl _
end Go.Proofs.YtdaecibpkhcllaaGreatDoor
/- Sums, differences, products of the reference's natural numbers. No condition. -/
namespace Go.Proofs.YtdaecibpkhcllaaGreatDoor
set_option linter.unusedVariables false
set_option linter.unusedSimpArgs false
variable {G : Gl}
set_option maxHeartbeats 2000000
theorem ws_dg {x : List Nat} (hw : Ws x) : val x < 4294967296 ^ (2 * x.length) := by rw [← HB]; exact val_lt hw
theorem sum_lt {a b j k : Nat} (ha : a < 4294967296 ^ j) (hb : b < 4294967296 ^ k) : a + b < 4294967296 ^ ((if j < k then k else j) + 1) := by
  have h1 : a < 4294967296 ^ (if j < k then k else j) := Nat.lt_of_lt_of_le ha (Nat.pow_le_pow_right (by decide) (by split <;> omega))
  have h2 : b < 4294967296 ^ (if j < k then k else j) := Nat.lt_of_lt_of_le hb (Nat.pow_le_pow_right (by decide) (by split <;> omega))
  rw [Nat.pow_succ]; omega
theorem mul_lt {a b j k : Nat} (ha : a < 4294967296 ^ j) (hb : b < 4294967296 ^ k) : a * b < 4294967296 ^ (j + k) := by
  rw [Nat.pow_add]; exact Nat.mul_lt_mul_of_lt_of_le ha (Nat.le_of_lt hb) (Hpos k)
theorem RAdd_does {x y : List Nat} (hx : x.length ≤ 536870912) (wx : Ws x) (hy : y.length ≤ 536870912) (wy : Ws y) : Does Tryz.prog G 111 [Wd x, Wd y] (.v (Wn (nat (val x + val y)))) := by
  have hP := @Plus_r_does G (val x) (val y) (2 * x.length) (2 * y.length) _ (ws_dg wx) (ws_dg wy) (by omega) (by omega) rfl
  have hn := @rnat_does G (val x + val y) ((if 2 * x.length < 2 * y.length then 2 * y.length else 2 * x.length) + 1) (by split <;> omega) (sum_lt (ws_dg wx) (ws_dg wy))
  generalize (if 2 * x.length < 2 * y.length then 2 * y.length else 2 * x.length) + 1 = m at *
  generalize val x + val y = N at *
  have hA := @Digits_does G x (by omega) wx
  have hB := @Digits_does G y (by omega) wy
  refine Does.of (nt := 11) Tryz.func111 rfl rfl rfl (by simp) ?_
  simp only [argTm, PV.ext, Ce.ext]
  refine Do.seqk fun _ k1_ => ?_
  refine Do.region [0,1] true ?_
  simp [go_sem]
  apply k1_; clear k1_
  refine Do.seqk fun _ k2_ => ?_
  refine Do.region [4] true ?_
  simp [go_sem]
  refine DoL.call true 102 rfl rfl rfl rfl (by first | exact trivial | omega | (simp; done) | (simp; omega)) (hA) rfl (by first | exact .inl rfl | exact .inr rfl) rfl ?_
  simp [go_sem]
  refine DoL.call true 104 rfl rfl rfl rfl (by first | exact trivial | omega | (simp; done) | (simp; omega)) (hB) rfl (by first | exact .inl rfl | exact .inr rfl) rfl ?_
  simp [go_sem]
  refine DoL.call true 105 rfl rfl rfl rfl (by first | exact trivial | omega | (simp; done) | (simp; omega)) (hP) rfl (by first | exact .inl rfl | exact .inr rfl) rfl ?_
  simp [go_sem]
  refine DoL.call true 106 rfl rfl rfl rfl (by first | exact trivial | omega | (simp; done) | (simp; omega)) (hn) rfl (by first | exact .inl rfl | exact .inr rfl) rfl ?_
  simp [go_sem]
  apply k2_; clear k2_
  refine Do.ret ?_
  simp [endQ, rets, ret1, go_sem]
  repeat (refine And.intro (by first | omega | (intros; omega) | (intros; exact And.intro (by assumption) (by omega)) | grind) ?_)
  exact TLe.refl _
theorem RSub_does {x y : List Nat} (hx : x.length ≤ 536870912) (wx : Ws x) (hy : y.length ≤ 536870912) (wy : Ws y) (h : val y ≤ val x) : Does Tryz.prog G 149 [Wd x, Wd y] (.v (Wn (nat (val x - val y)))) := by
  have l1 := ws_dg wx
  obtain ⟨d, hd, he⟩ := less_ex l1 (Nat.lt_of_le_of_lt h l1)
  have he := he h
  subst he
  have hu : decide (val x < val y) = false := by simp; omega
  rw [hu] at hd
  have hl : (nat (val y)).length ≤ y.length := nat_len_le wy (Nat.le_refl _)
  have hb := @Digits_does G (nat (val y)) (by omega) (nat_ws _)
  rw [val_nat] at hb
  have hM := @Minus_r_does G (val x) (val y) (val x - val y) (2 * x.length) (2 * (nat (val y)).length) false (by have := ws_dg (nat_ws (val y)); rwa [val_nat] at this) hd (by omega)
  have hn := @rnat_does G (val x - val y) (2 * x.length) (by omega) hd.2.2.2
  have hA := @Digits_does G x (by omega) wx
  have hT := @RTrim_does G y (by omega) wy
  clear hd h hu l1
  generalize 2 * (nat (val y)).length = m at *
  generalize val x - val y = N at *
  refine Does.of (nt := 18) Tryz.func149 rfl rfl rfl (by simp) ?_
  simp only [argTm, PV.ext, Ce.ext]
  refine Do.seqk fun _ k1_ => ?_
  refine Do.region [0,1] true ?_
  simp [go_sem]
  apply k1_; clear k1_
  refine Do.seqk fun _ k2_ => ?_
  refine Do.region [5] true ?_
  simp [go_sem]
  refine DoL.call true 102 rfl rfl rfl rfl (by first | exact trivial | omega | (simp; done) | (simp; omega)) (hA) rfl (by first | exact .inl rfl | exact .inr rfl) rfl ?_
  simp [go_sem]
  refine DoL.call true 104 rfl rfl rfl rfl (by first | exact trivial | omega | (simp; done) | (simp; omega)) (hT) rfl (by first | exact .inl rfl | exact .inr rfl) rfl ?_
  simp [go_sem]
  refine DoL.call true 105 rfl rfl rfl rfl (by first | exact trivial | omega | (simp; done) | (simp; omega)) (hb) rfl (by first | exact .inl rfl | exact .inr rfl) rfl ?_
  simp [go_sem]
  refine DoL.call true 106 rfl rfl rfl rfl (by first | exact trivial | omega | (simp; done) | (simp; omega)) (hM) rfl (by first | exact .inl rfl | exact .inr rfl) rfl ?_
  simp [go_sem]
  apply k2_; clear k2_
  refine Do.seqk fun _ k3_ => ?_
  refine Do.region [4] true ?_
  simp [go_sem]
  refine DoL.call true 202 rfl rfl rfl rfl (by first | exact trivial | omega | (simp; done) | (simp; omega)) (hn) rfl (by first | exact .inl rfl | exact .inr rfl) rfl ?_
  simp [go_sem]
  apply k3_; clear k3_
  refine Do.ret ?_
  simp [endQ, rets, ret1, go_sem]
  repeat (refine And.intro (by first | omega | (intros; omega) | (intros; exact And.intro (by assumption) (by omega)) | grind) ?_)
  exact TLe.refl _
theorem RMul_does {x y : List Nat} (hx : x.length ≤ 536870912) (wx : Ws x) (hy : y.length ≤ 536870912) (wy : Ws y) : Does Tryz.prog G 87 [Wd x, Wd y] (.v (Wn (nat (val x * val y)))) := by
  have hP := @Times_does G (val x) (val y) (2 * x.length) (2 * y.length) (ws_dg wx) (ws_dg wy) (by omega) (by omega)
  have hn := @rnat_does G (val x * val y) (2 * x.length + 2 * y.length) (by omega) (mul_lt (ws_dg wx) (ws_dg wy))
  generalize val x * val y = N at *
  have hA := @Digits_does G x (by omega) wx
  have hB := @Digits_does G y (by omega) wy
  refine Does.of (nt := 11) Tryz.func87 rfl rfl rfl (by simp) ?_
  simp only [argTm, PV.ext, Ce.ext]
  refine Do.seqk fun _ k1_ => ?_
  refine Do.region [0,1] true ?_
  simp [go_sem]
  apply k1_; clear k1_
  refine Do.seqk fun _ k2_ => ?_
  refine Do.region [4] true ?_
  simp [go_sem]
  refine DoL.call true 102 rfl rfl rfl rfl (by first | exact trivial | omega | (simp; done) | (simp; omega)) (hA) rfl (by first | exact .inl rfl | exact .inr rfl) rfl ?_
  simp [go_sem]
  refine DoL.call true 104 rfl rfl rfl rfl (by first | exact trivial | omega | (simp; done) | (simp; omega)) (hB) rfl (by first | exact .inl rfl | exact .inr rfl) rfl ?_
  simp [go_sem]
  refine DoL.call true 105 rfl rfl rfl rfl (by first | exact trivial | omega | (simp; done) | (simp; omega)) (hP) rfl (by first | exact .inl rfl | exact .inr rfl) rfl ?_
  simp [go_sem]
  refine DoL.call true 106 rfl rfl rfl rfl (by first | exact trivial | omega | (simp; done) | (simp; omega)) (hn) rfl (by first | exact .inl rfl | exact .inr rfl) rfl ?_
  simp [go_sem]
  apply k2_; clear k2_
  refine Do.ret ?_
  simp [endQ, rets, ret1, go_sem]
  repeat (refine And.intro (by first | omega | (intros; omega) | (intros; exact And.intro (by assumption) (by omega)) | grind) ?_)
  exact TLe.refl _
theorem RCmp_does {x y : List Nat} (hx : x.length ≤ 536870912) (wx : Ws x) (hy : y.length ≤ 536870912) (wy : Ws y) : Does Tryz.prog G 116 [Wd x, Wd y] (.int .i64 (cmpP (val x) (val y))) := by
  have hP := @Compare_does G (val x) (val y) (2 * x.length) (2 * y.length) (ws_dg wx) (ws_dg wy) (by omega) (by omega)
  have hA := @Digits_does G x (by omega) wx
  have hB := @Digits_does G y (by omega) wy
  refine Does.of (nt := 10) Tryz.func116 rfl rfl rfl (by simp) ?_
  simp only [argTm, PV.ext, Ce.ext]
  refine Do.seqk fun _ k1_ => ?_
  refine Do.region [0,1] true ?_
  simp [go_sem]
  apply k1_; clear k1_
  refine Do.seqk fun _ k2_ => ?_
  refine Do.region [4] true ?_
  simp [go_sem]
  refine DoL.call true 102 rfl rfl rfl rfl (by first | exact trivial | omega | (simp; done) | (simp; omega)) (hA) rfl (by first | exact .inl rfl | exact .inr rfl) rfl ?_
  simp [go_sem]
  refine DoL.call true 104 rfl rfl rfl rfl (by first | exact trivial | omega | (simp; done) | (simp; omega)) (hB) rfl (by first | exact .inl rfl | exact .inr rfl) rfl ?_
  simp [go_sem]
  refine DoL.call true 105 rfl rfl rfl rfl (by first | exact trivial | omega | (simp; done) | (simp; omega)) (hP) rfl (by first | exact .inl rfl | exact .inr rfl) rfl ?_
  simp [go_sem]
  apply k2_; clear k2_
  refine Do.ret ?_
  simp [endQ, rets, ret1, go_sem]
  repeat (refine And.intro (by first | omega | (intros; omega) | (intros; exact And.intro (by assumption) (by omega)) | grind) ?_)
  exact TLe.refl _
theorem RWord_does {w : Nat} (hw : w < 18446744073709551616) : Does Tryz.prog G 78 [.c (.n w)] (.v (Wn (nat w))) := by
  have hn := @rnat_does G w 2 (by omega) (show w < 4294967296 ^ 2 from hw)
  refine Does.of (nt := 6) Tryz.func78 rfl rfl rfl (by simp) ?_
  simp only [argTm, PV.ext, Ce.ext]
  refine Do.seqk fun _ k1_ => ?_
  refine Do.region [0] true ?_
  simp [go_sem]
  apply k1_; clear k1_
  refine Do.seqk fun _ k2_ => ?_
  refine Do.region [2] true ?_
  simp [go_sem]
  refine DoL.call true 102 rfl rfl rfl rfl (by first | exact trivial | omega | (simp; done) | (simp; omega)) (Word_does hw) rfl (by first | exact .inl rfl | exact .inr rfl) rfl ?_
  simp [go_sem]
  refine DoL.call true 103 rfl rfl rfl rfl (by first | exact trivial | omega | (simp; done) | (simp; omega)) (hn) rfl (by first | exact .inl rfl | exact .inr rfl) rfl ?_
  simp [go_sem]
  apply k2_; clear k2_
  refine Do.ret ?_
  simp [endQ, rets, ret1, go_sem]
  repeat (refine And.intro (by first | omega | (intros; omega) | (intros; exact And.intro (by assumption) (by omega)) | grind) ?_)
  exact TLe.refl _
end Go.Proofs.YtdaecibpkhcllaaGreatDoor
/- The integers of the reference. No condition. -/
namespace Go.Proofs.YtdaecibpkhcllaaGreatDoor
set_option linter.unusedVariables false
set_option linter.unusedSimpArgs false
variable {G : Gl}
set_option maxHeartbeats 2000000
set_option maxRecDepth 10000
/-- An integer's fields. -/
abbrev Ig (n : Bool) (m : List Nat) : PV := .a [.b n, .w false m]
/-- A canonical integer. -/
abbrev Iv (z : Int) : PV := Ig (decide (z < 0)) (nat z.natAbs)
/-- The value of a sign and a size. -/
def sgn (n : Bool) (v : Nat) : Int := if n then -(v : Int) else v
theorem sgn_abs (n : Bool) (v : Nat) : (sgn n v).natAbs = v := by unfold sgn; split <;> omega
theorem sgn_of (z : Int) : sgn (decide (z < 0)) z.natAbs = z := by unfold sgn; split <;> rename_i h <;> simp at h <;> omega
theorem nat_len_zero (v : Nat) : 0 < (nat v).length ↔ v ≠ 0 := by
  constructor
  · intro h h0; subst h0; rw [nat_zero] at h; simp at h
  · intro h
    apply Classical.byContradiction
    intro hn
    have : nat v = [] := List.length_eq_zero_iff.1 (by omega)
    have h2 := val_nat v
    rw [this] at h2
    simp [val] at h2
    omega
theorem PLe.ig {n : Bool} {c : Ce} {m : List Nat} (h : PLe (.c c) (.c (.w false m))) : PLe (.a [.b n, c]) (Ig n m) := by
  rintro E v ⟨vs, h1, h2⟩
  refine ⟨vs, h1, ?_⟩
  obtain ⟨v1, r1, e1, a1, h2⟩ := h2.cons_iff
  obtain ⟨v2, r2, e2, a2, h2⟩ := h2.cons_iff
  rw [e1, e2]
  exact .cons a1 (.cons (h _ _ a2) h2)
theorem IMake_does {n : Bool} {m : List Nat} (hm : m.length ≤ 1073741824) (wm : Ws m) : Does Tryz.prog G 80 [.c (.b n), Wd m] (.v (Iv (sgn n (val m)))) := by
  have hT := @RTrim_does G m hm wm
  have hz := nat_len_zero (val m)
  generalize hv : val m = v at *
  refine Does.of (nt := 15) Tryz.func80 rfl rfl rfl (by simp) ?_
  simp only [argTm, PV.ext, Ce.ext]
  refine Do.seqk fun _ k1_ => ?_
  refine Do.region [0,1,4] true ?_
  simp [go_sem]
  apply k1_; clear k1_
  refine Do.seqk fun _ k2_ => ?_
  refine Do.region [0,1,4] true ?_
  simp [go_sem]
  refine DoL.call true 102 rfl rfl rfl rfl (by first | exact trivial | omega | (simp; done) | (simp; omega)) (hT) rfl (by first | exact .inl rfl | exact .inr rfl) rfl ?_
  simp [go_sem]
  apply k2_; clear k2_
  refine Do.seqk fun _ k3_ => ?_
  refine Do.region [4] true ?_
  simp [go_sem]
  repeat (refine And.intro (by first | omega | (intros; omega) | (intros; exact And.intro (by assumption) (by omega)) | grind) ?_)
  apply k3_; clear k3_
  refine Do.ret ?_
  simp [endQ, rets, ret1, go_sem]
  repeat (refine And.intro (by first | omega | (intros; omega) | (intros; exact And.intro (by assumption) (by omega)) | grind) ?_)
  have e : (n && decide (0 < (nat v).length)) = decide (sgn n v < 0) := by
    by_cases h : v = 0
    · have h2 : ¬ 0 < (nat v).length := fun hh => hz.1 hh h
      have h4 : nat 0 = [] := nat_zero
      subst h
      cases n <;> simp [h4, sgn]
    · have h3 := hz.2 h
      cases n <;> simp only [sgn, h3, decide_true, Bool.and_true, Bool.false_and, if_true, if_false, Bool.false_eq_true] <;> simp <;> omega
  rw [e]
  show TLe _ (.v (Ig (decide (sgn n v < 0)) (nat (sgn n v).natAbs)))
  rw [sgn_abs]
  exact TLe.v (PLe.ig (PLe.ext (.c (.w true _))))
theorem ITrim_does {n : Bool} {m : List Nat} (hm : m.length ≤ 1073741824) (wm : Ws m) : Does Tryz.prog G 137 [Ig n m] (.v (Iv (sgn n (val m)))) := by
  have hM := @IMake_does G n m hm wm
  generalize sgn n (val m) = z at *
  refine Does.of (nt := 8) Tryz.func137 rfl rfl rfl (by simp) ?_
  simp only [argTm, PV.ext, Ce.ext]
  refine Do.seqk fun _ k1_ => ?_
  refine Do.region [1,2] true ?_
  simp [go_sem]
  apply k1_; clear k1_
  refine Do.seqk fun _ k2_ => ?_
  refine Do.region [2] true ?_
  simp [go_sem]
  repeat (refine And.intro (by first | omega | (intros; omega) | (intros; exact And.intro (by assumption) (by omega)) | grind) ?_)
  refine DoL.call true 105 rfl rfl rfl rfl (by first | exact trivial | omega | (simp; done) | (simp; omega)) (hM) rfl (by first | exact .inl rfl | exact .inr rfl) rfl ?_
  simp [go_sem]
  repeat (refine And.intro (by first | omega | (intros; omega) | (intros; exact And.intro (by assumption) (by omega)) | grind) ?_)
  apply k2_; clear k2_
  refine Do.ret ?_
  simp [endQ, rets, ret1, go_sem]
  repeat (refine And.intro (by first | omega | (intros; omega) | (intros; exact And.intro (by assumption) (by omega)) | grind) ?_)
  exact TLe.refl _
theorem ISign3_does {n : Bool} {m : List Nat} (hm : m.length ≤ 1073741824) (wm : Ws m) : Does Tryz.prog G 98 [Ig n m] (.int .i64 (sgn n (val m)).sign) := by
  have hM := @ITrim_does G n m hm wm
  generalize sgn n (val m) = z at *
  have hz := nat_len_zero z.natAbs
  refine Does.of (nt := 13) Tryz.func98 rfl rfl rfl (by simp) ?_
  simp only [argTm, PV.ext, Ce.ext]
  refine Do.seqk fun _ k1_ => ?_
  refine Do.region [1] true ?_
  simp [go_sem]
  apply k1_; clear k1_
  refine Do.seqk fun _ k2_ => ?_
  refine Do.seqk fun _ k3_ => ?_
  refine Do.region [1] true ?_
  simp [go_sem]
  repeat (refine And.intro (by first | omega | (intros; omega) | (intros; exact And.intro (by assumption) (by omega)) | grind) ?_)
  refine DoL.call true 102 rfl rfl rfl rfl (by first | exact trivial | omega | (simp; done) | (simp; omega)) (hM) rfl (by first | exact .inl rfl | exact .inr rfl) rfl ?_
  simp [go_sem]
  repeat (refine And.intro (by first | omega | (intros; omega) | (intros; exact And.intro (by assumption) (by omega)) | grind) ?_)
  apply k3_; clear k3_
  refine Do.block ?_
  refine Do.seqk fun _ k4_ => ?_
  refine Do.region [1,5] true ?_
  simp [go_sem]
  repeat (refine And.intro (by first | omega | (intros; omega) | (intros; exact And.intro (by assumption) (by omega)) | grind) ?_)
  apply k4_; clear k4_
  refine Do.cond [1] rfl (fun h => ?_) (fun h => ?_) <;> simp [go_sem] at h ⊢
  · refine Do.seqk fun _ k5_ => ?_
    refine Do.region [2] true ?_
    simp [go_sem]
    apply k5_; clear k5_
    refine Do.ret ?_
    simp [endQ, rets, ret1, go_sem]
    repeat (refine And.intro (by first | omega | (intros; omega) | (intros; exact And.intro (by assumption) (by omega)) | grind) ?_)
    exact ret_i (by rw [Int.sign_eq_neg_one_of_neg h])
  · refine Do.seqk fun _ k6_ => ?_
    refine Do.region [8] true ?_
    simp [go_sem]
    repeat (refine And.intro (by first | omega | (intros; omega) | (intros; exact And.intro (by assumption) (by omega)) | grind) ?_)
    apply k6_; clear k6_
    refine Do.cond [] rfl (fun h2 => ?_) (fun h2 => ?_) <;> simp [go_sem] at h2 ⊢
    · refine Do.seqk fun _ k7_ => ?_
      refine Do.region [2] true ?_
      simp [go_sem]
      apply k7_; clear k7_
      refine Do.ret ?_
      simp [endQ, rets, ret1, go_sem]
      repeat (refine And.intro (by first | omega | (intros; omega) | (intros; exact And.intro (by assumption) (by omega)) | grind) ?_)
      refine ret_i ?_
      rw [Int.sign_eq_one_of_pos]
      have := hz.1 h2
      omega
    · refine Do.skip ?_
      simp [go_sem]
      apply k2_; clear k2_
      refine Do.seqk fun _ k8_ => ?_
      refine Do.region [2] true ?_
      simp [go_sem]
      apply k8_; clear k8_
      refine Do.ret ?_
      simp [endQ, rets, ret1, go_sem]
      repeat (refine And.intro (by first | omega | (intros; omega) | (intros; exact And.intro (by assumption) (by omega)) | grind) ?_)
      refine ret_i ?_
      have : z = 0 := by
        apply Classical.byContradiction
        intro hn
        have h3 := hz.2 (by omega)
        simp only [h2] at h3
        simp at h3
      rw [this]; rfl
theorem ISign_does {n : Bool} {m : List Nat} (hm : m.length ≤ 1073741824) (wm : Ws m) : Does Tryz.prog G 54 [Ig n m] (.int .i64 (sgn n (val m)).sign) := by
  have hM := @ISign3_does G n m hm wm
  generalize sgn n (val m) = z at *
  refine Does.of (nt := 5) Tryz.func54 rfl rfl rfl (by simp) ?_
  simp only [argTm, PV.ext, Ce.ext]
  refine Do.seqk fun _ k1_ => ?_
  refine Do.region [1] true ?_
  simp [go_sem]
  apply k1_; clear k1_
  refine Do.seqk fun _ k2_ => ?_
  refine Do.region [2] true ?_
  simp [go_sem]
  repeat (refine And.intro (by first | omega | (intros; omega) | (intros; exact And.intro (by assumption) (by omega)) | grind) ?_)
  refine DoL.call true 102 rfl rfl rfl rfl (by first | exact trivial | omega | (simp; done) | (simp; omega)) (hM) rfl (by first | exact .inl rfl | exact .inr rfl) rfl ?_
  simp [go_sem]
  apply k2_; clear k2_
  refine Do.ret ?_
  simp [endQ, rets, ret1, go_sem]
  repeat (refine And.intro (by first | omega | (intros; omega) | (intros; exact And.intro (by assumption) (by omega)) | grind) ?_)
  exact TLe.refl _
theorem IMake11_does {n : Bool} {m : List Nat} (hm : m.length ≤ 1073741824) (wm : Ws m) : Does Tryz.prog G 33 [.c (.b n), Wd m] (.v (Iv (sgn n (val m)))) := by
  have hM := @IMake_does G n m hm wm
  generalize sgn n (val m) = z at *
  refine Does.of (nt := 8) Tryz.func33 rfl rfl rfl (by simp) ?_
  simp only [argTm, PV.ext, Ce.ext]
  refine Do.seqk fun _ k1_ => ?_
  refine Do.region [0,1,4] true ?_
  simp [go_sem]
  apply k1_; clear k1_
  refine Do.seqk fun _ k2_ => ?_
  refine Do.region [4] true ?_
  simp [go_sem]
  refine DoL.call true 103 rfl rfl rfl rfl (by first | exact trivial | omega | (simp; done) | (simp; omega)) (hM) rfl (by first | exact .inl rfl | exact .inr rfl) rfl ?_
  simp [go_sem]
  repeat (refine And.intro (by first | omega | (intros; omega) | (intros; exact And.intro (by assumption) (by omega)) | grind) ?_)
  apply k2_; clear k2_
  refine Do.ret ?_
  simp [endQ, rets, ret1, go_sem]
  repeat (refine And.intro (by first | omega | (intros; omega) | (intros; exact And.intro (by assumption) (by omega)) | grind) ?_)
  exact TLe.refl _
theorem INeg_does {n : Bool} {m : List Nat} (hm : m.length ≤ 1073741824) (wm : Ws m) : Does Tryz.prog G 162 [Ig n m] (.v (Iv (-sgn n (val m)))) := by
  have hM := @IMake_does G (!n) m hm wm
  rw [show sgn (!n) (val m) = -sgn n (val m) by cases n <;> simp [sgn]] at hM
  generalize -sgn n (val m) = z at *
  refine Does.of (nt := 9) Tryz.func162 rfl rfl rfl (by simp) ?_
  simp only [argTm, PV.ext, Ce.ext]
  refine Do.seqk fun _ k1_ => ?_
  refine Do.region [1,2] true ?_
  simp [go_sem]
  apply k1_; clear k1_
  refine Do.seqk fun _ k2_ => ?_
  refine Do.region [2] true ?_
  simp [go_sem]
  repeat (refine And.intro (by first | omega | (intros; omega) | (intros; exact And.intro (by assumption) (by omega)) | grind) ?_)
  refine DoL.call true 106 rfl rfl rfl rfl (by first | exact trivial | omega | (simp; done) | (simp; omega)) (hM) rfl (by first | exact .inl rfl | exact .inr rfl) rfl ?_
  simp [go_sem]
  repeat (refine And.intro (by first | omega | (intros; omega) | (intros; exact And.intro (by assumption) (by omega)) | grind) ?_)
  apply k2_; clear k2_
  refine Do.ret ?_
  simp [endQ, rets, ret1, go_sem]
  repeat (refine And.intro (by first | omega | (intros; omega) | (intros; exact And.intro (by assumption) (by omega)) | grind) ?_)
  exact TLe.refl _
theorem IMul3_does {n n' : Bool} {m m' : List Nat} (hm : m.length ≤ 536870912) (wm : Ws m) (hm' : m'.length ≤ 268435456) (wm' : Ws m') : Does Tryz.prog G 79 [Ig n m, Ig n' m'] (.v (Iv (sgn n (val m) * sgn n' (val m')))) := by
  have hl : (nat (val m * val m')).length ≤ m.length + m'.length := nat_len (by
    have h1 := val_lt wm
    have h2 := val_lt wm'
    rw [B64_pow] at h1 h2
    rw [show 64 * (m.length + m'.length) = 64 * m.length + 64 * m'.length by omega, Nat.pow_add]
    exact Nat.mul_lt_mul_of_lt_of_le h1 (Nat.le_of_lt h2) (Nat.pow_pos (by decide)))
  have hX := @RMul_does G m m' hm wm (by omega) wm'
  have hM := @IMake_does G (n != n') (nat (val m * val m')) (by omega) (nat_ws _)
  rw [val_nat, show sgn (n != n') (val m * val m') = sgn n (val m) * sgn n' (val m') by cases n <;> cases n' <;> simp [sgn, Int.natCast_mul, Int.mul_neg, Int.neg_mul]] at hM
  clear hl
  generalize sgn n (val m) * sgn n' (val m') = z at *
  generalize val m * val m' = N at *
  refine Does.of (nt := 16) Tryz.func79 rfl rfl rfl (by simp) ?_
  simp only [argTm, PV.ext, Ce.ext]
  refine Do.seqk fun _ k1_ => ?_
  refine Do.region [2,3,4] true ?_
  simp [go_sem]
  apply k1_; clear k1_
  refine Do.seqk fun _ k2_ => ?_
  refine Do.draw [4] true (by kernel_rfl) ?_
  simp [go_sem]
  repeat (refine And.intro (by first | omega | (intros; omega) | (intros; exact And.intro (by assumption) (by omega)) | kernel_rfl | grind) ?_)
  refine DoLD.call true 110 rfl rfl rfl rfl (by first | exact trivial | omega | (simp; done) | (simp; omega)) (hX) rfl (by first | exact .inl rfl | exact .inr rfl) rfl ?_
  simp [go_sem]
  refine DoLD.call true 111 rfl rfl rfl rfl (by first | exact trivial | omega | (simp; done) | (simp; omega)) (hM) rfl (by first | exact .inl rfl | exact .inr rfl) rfl ?_
  simp [go_sem]
  repeat (refine And.intro (by first | omega | (intros; omega) | (intros; exact And.intro (by assumption) (by omega)) | kernel_rfl | grind) ?_)
  try (refine And.intro (by kernel_rfl) ?_)
  apply k2_; clear k2_
  refine Do.ret ?_
  simp [endQ, rets, ret1, go_sem]
  repeat (refine And.intro (by first | omega | (intros; omega) | (intros; exact And.intro (by assumption) (by omega)) | grind) ?_)
  exact TLe.refl _
end Go.Proofs.YtdaecibpkhcllaaGreatDoor
/- Sums and differences of the reference's integers. No condition. -/
namespace Go.Proofs.YtdaecibpkhcllaaGreatDoor
set_option linter.unusedVariables false
set_option linter.unusedSimpArgs false
variable {G : Gl}
set_option maxHeartbeats 4000000
set_option maxRecDepth 10000
theorem bl_le_ws {m : List Nat} (wm : Ws m) : bl (val m) ≤ 64 * m.length := bl_le_len wm (Nat.le_refl _)
theorem nat_len_of {v k : Nat} (h : bl v ≤ k) : (nat v).length ≤ k := Nat.le_trans (nat_len_bl v) h
theorem cmpP_ge (a b : Nat) : (0 ≤ cmpP a b) = (b ≤ a) := by
  unfold cmpP
  apply propext
  split
  · constructor <;> intro <;> omega
  · split <;> constructor <;> intro <;> omega
theorem IAdd3_does {n n' : Bool} {m m' : List Nat} (hm : m.length ≤ 8388608) (wm : Ws m) (hm' : m'.length ≤ 8388608) (wm' : Ws m') : Does Tryz.prog G 129 [Ig n m, Ig n' m'] (.v (Iv (sgn n (val m) + sgn n' (val m')))) := by
  have hA := @RAdd_does G m m' (by omega) wm (by omega) wm'
  have hC := @RCmp_does G m m' (by omega) wm (by omega) wm'
  have hS1 := fun h => @RSub_does G m m' (by omega) wm (by omega) wm' h
  have hS2 := fun h => @RSub_does G m' m (by omega) wm' (by omega) wm h
  have b1 := bl_le_ws wm
  have b2 := bl_le_ws wm'
  have b3 := bl_add_le (val m) (val m') 536870912 (by omega) (by omega)
  have hM := fun (b : Bool) v (h : (nat v).length ≤ 1073741824) => @IMake_does G b (nat v) h (nat_ws v)
  simp only [val_nat] at hM
  have hge := cmpP_ge (val m) (val m')
  have m1 : bl (val m - val m') ≤ bl (val m) := bl_mono (Nat.sub_le _ _)
  have m2 : bl (val m' - val m) ≤ bl (val m') := bl_mono (Nat.sub_le _ _)
  generalize cmpP (val m) (val m') = c at *
  generalize val m = a at *
  generalize val m' = b at *
  by_cases hn : n = n'
  · have hMM := hM n (a + b) (nat_len_of (by omega))
    subst hn
    rw [show sgn n (a + b) = sgn n a + sgn n b by cases n <;> simp [sgn] <;> omega] at hMM
    generalize sgn n a + sgn n b = z at *
    refine Does.of (nt := 42) Tryz.func129 rfl rfl rfl (by simp) ?_
    simp only [argTm, PV.ext, Ce.ext]
    refine Do.seqk fun _ k1_ => ?_
    refine Do.region [2,3,4] true ?_
    simp [go_sem]
    apply k1_; clear k1_
    refine Do.seqk fun _ k2_ => ?_
    refine Do.block ?_
    refine Do.seqk fun _ k3_ => ?_
    refine Do.region [2,3,4,5] true ?_
    simp [go_sem]
    repeat (refine And.intro (by first | omega | (intros; omega) | (intros; exact And.intro (by assumption) (by omega)) | grind) ?_)
    apply k3_; clear k3_
    refine Do.cond [2,3,4] rfl (fun h => ?_) (fun h => ?_) <;> simp [go_sem] at h ⊢
    refine Do.seqk fun _ k4_ => ?_
    refine Do.draw [4] true (by kernel_rfl) ?_
    simp [go_sem]
    repeat (refine And.intro (by first | omega | (intros; omega) | (intros; exact And.intro (by assumption) (by omega)) | kernel_rfl | grind) ?_)
    refine DoLD.call true 207 rfl rfl rfl rfl (by first | exact trivial | omega | (simp; done) | (simp; omega)) (hA) rfl (by first | exact .inl rfl | exact .inr rfl) rfl ?_
    simp [go_sem]
    refine DoLD.call true 208 rfl rfl rfl rfl (by first | exact trivial | omega | (simp; done) | (simp; omega)) (hMM) rfl (by first | exact .inl rfl | exact .inr rfl) rfl ?_
    simp [go_sem]
    repeat (refine And.intro (by first | omega | (intros; omega) | (intros; exact And.intro (by assumption) (by omega)) | kernel_rfl | grind) ?_)
    try (refine And.intro (by kernel_rfl) ?_)
    apply k4_; clear k4_
    refine Do.ret ?_
    simp [endQ, rets, ret1, go_sem]
    repeat (refine And.intro (by first | omega | (intros; omega) | (intros; exact And.intro (by assumption) (by omega)) | grind) ?_)
    exact TLe.refl _
  · by_cases h : b ≤ a
    · have hc : 0 ≤ c := by rw [hge]; exact h
      have hMM := hM n (a - b) (nat_len_of (by omega))
      have hSS := hS1 h
      rw [show sgn n (a - b) = sgn n a + sgn n' b by cases n <;> cases n' <;> simp [sgn] at hn ⊢ <;> omega] at hMM
      generalize sgn n a + sgn n' b = z at *
      refine Does.of (nt := 42) Tryz.func129 rfl rfl rfl (by simp) ?_
      simp only [argTm, PV.ext, Ce.ext]
      refine Do.seqk fun _ k1_ => ?_
      refine Do.region [2,3,4] true ?_
      simp [go_sem, show (n == n') = false from beq_false_of_ne hn, hc]
      apply k1_; clear k1_
      refine Do.seqk fun _ k2_ => ?_
      refine Do.block ?_
      refine Do.seqk fun _ k3_ => ?_
      refine Do.region [2,3,4,5] true ?_
      simp [go_sem, show (n == n') = false from beq_false_of_ne hn, hc]
      repeat (refine And.intro (by first | omega | (intros; omega) | (intros; exact And.intro (by assumption) (by omega)) | grind) ?_)
      apply k3_; clear k3_
      refine Do.cond [2,3,4] rfl (fun h1 => ?_) (fun h1 => ?_) <;> simp [go_sem, show (n == n') = false from beq_false_of_ne hn, hc] at h1 ⊢
      refine Do.seqk fun _ k4_ => ?_
      refine Do.region [2,3,4,19] true ?_
      simp [go_sem, show (n == n') = false from beq_false_of_ne hn, hc]
      repeat (refine And.intro (by first | omega | (intros; omega) | (intros; exact And.intro (by assumption) (by omega)) | grind) ?_)
      refine DoL.call true 305 rfl rfl rfl rfl (by first | exact trivial | omega | (simp; done) | (simp; omega)) (hC) rfl (by first | exact .inl rfl | exact .inr rfl) rfl ?_
      simp [go_sem, show (n == n') = false from beq_false_of_ne hn, hc]
      apply k4_; clear k4_
      refine Do.cond [2,3,4] rfl (fun h2 => ?_) (fun h2 => ?_) <;> simp [go_sem, show (n == n') = false from beq_false_of_ne hn, hc] at h2 ⊢
      refine Do.seqk fun _ k5_ => ?_
      refine Do.draw [4] true (by kernel_rfl) ?_
      simp [go_sem, show (n == n') = false from beq_false_of_ne hn, hc]
      repeat (refine And.intro (by first | omega | (intros; omega) | (intros; exact And.intro (by assumption) (by omega)) | kernel_rfl | grind) ?_)
      refine DoLD.call true 407 rfl rfl rfl rfl (by first | exact trivial | omega | (simp; done) | (simp; omega)) (hSS) rfl (by first | exact .inl rfl | exact .inr rfl) rfl ?_
      simp [go_sem, show (n == n') = false from beq_false_of_ne hn, hc]
      refine DoLD.call true 408 rfl rfl rfl rfl (by first | exact trivial | omega | (simp; done) | (simp; omega)) (hMM) rfl (by first | exact .inl rfl | exact .inr rfl) rfl ?_
      simp [go_sem, show (n == n') = false from beq_false_of_ne hn, hc]
      repeat (refine And.intro (by first | omega | (intros; omega) | (intros; exact And.intro (by assumption) (by omega)) | kernel_rfl | grind) ?_)
      try (refine And.intro (by kernel_rfl) ?_)
      apply k5_; clear k5_
      refine Do.ret ?_
      simp [endQ, rets, ret1, go_sem, show (n == n') = false from beq_false_of_ne hn, hc]
      repeat (refine And.intro (by first | omega | (intros; omega) | (intros; exact And.intro (by assumption) (by omega)) | grind) ?_)
      exact TLe.refl _
    · have hc : ¬ 0 ≤ c := by rw [hge]; exact h
      have hMM := hM n' (b - a) (nat_len_of (by omega))
      have hSS := hS2 (by omega)
      rw [show sgn n' (b - a) = sgn n a + sgn n' b by cases n <;> cases n' <;> simp [sgn] at hn ⊢ <;> omega] at hMM
      generalize sgn n a + sgn n' b = z at *
      refine Does.of (nt := 42) Tryz.func129 rfl rfl rfl (by simp) ?_
      simp only [argTm, PV.ext, Ce.ext]
      refine Do.seqk fun _ k1_ => ?_
      refine Do.region [2,3,4] true ?_
      simp [go_sem, show (n == n') = false from beq_false_of_ne hn, hc]
      apply k1_; clear k1_
      refine Do.seqk fun _ k2_ => ?_
      refine Do.block ?_
      refine Do.seqk fun _ k3_ => ?_
      refine Do.region [2,3,4,5] true ?_
      simp [go_sem, show (n == n') = false from beq_false_of_ne hn, hc]
      repeat (refine And.intro (by first | omega | (intros; omega) | (intros; exact And.intro (by assumption) (by omega)) | grind) ?_)
      apply k3_; clear k3_
      refine Do.cond [2,3,4] rfl (fun h1 => ?_) (fun h1 => ?_) <;> simp [go_sem, show (n == n') = false from beq_false_of_ne hn, hc] at h1 ⊢
      refine Do.seqk fun _ k4_ => ?_
      refine Do.region [2,3,4,19] true ?_
      simp [go_sem, show (n == n') = false from beq_false_of_ne hn, hc]
      repeat (refine And.intro (by first | omega | (intros; omega) | (intros; exact And.intro (by assumption) (by omega)) | grind) ?_)
      refine DoL.call true 305 rfl rfl rfl rfl (by first | exact trivial | omega | (simp; done) | (simp; omega)) (hC) rfl (by first | exact .inl rfl | exact .inr rfl) rfl ?_
      simp [go_sem, show (n == n') = false from beq_false_of_ne hn, hc]
      apply k4_; clear k4_
      refine Do.cond [2,3,4] rfl (fun h2 => ?_) (fun h2 => ?_) <;> simp [go_sem, show (n == n') = false from beq_false_of_ne hn, hc] at h2 ⊢
      refine Do.skip ?_
      simp [go_sem]
      apply k2_; clear k2_
      refine Do.seqk fun _ k5_ => ?_
      refine Do.draw [4] true (by kernel_rfl) ?_
      simp [go_sem, show (n == n') = false from beq_false_of_ne hn, hc]
      repeat (refine And.intro (by first | omega | (intros; omega) | (intros; exact And.intro (by assumption) (by omega)) | kernel_rfl | grind) ?_)
      refine DoLD.call true 507 rfl rfl rfl rfl (by first | exact trivial | omega | (simp; done) | (simp; omega)) (hSS) rfl (by first | exact .inl rfl | exact .inr rfl) rfl ?_
      simp [go_sem, show (n == n') = false from beq_false_of_ne hn, hc]
      refine DoLD.call true 508 rfl rfl rfl rfl (by first | exact trivial | omega | (simp; done) | (simp; omega)) (hMM) rfl (by first | exact .inl rfl | exact .inr rfl) rfl ?_
      simp [go_sem, show (n == n') = false from beq_false_of_ne hn, hc]
      repeat (refine And.intro (by first | omega | (intros; omega) | (intros; exact And.intro (by assumption) (by omega)) | kernel_rfl | grind) ?_)
      try (refine And.intro (by kernel_rfl) ?_)
      apply k5_; clear k5_
      refine Do.ret ?_
      simp [endQ, rets, ret1, go_sem, show (n == n') = false from beq_false_of_ne hn, hc]
      repeat (refine And.intro (by first | omega | (intros; omega) | (intros; exact And.intro (by assumption) (by omega)) | grind) ?_)
      exact TLe.refl _
theorem IAdd_does {n n' : Bool} {m m' : List Nat} (hm : m.length ≤ 8388608) (wm : Ws m) (hm' : m'.length ≤ 8388608) (wm' : Ws m') : Does Tryz.prog G 86 [Ig n m, Ig n' m'] (.v (Iv (sgn n (val m) + sgn n' (val m')))) := by
  have hM := @IAdd3_does G n n' m m' hm wm hm' wm'
  generalize sgn n (val m) + sgn n' (val m') = z at *
  refine Does.of (nt := 8) Tryz.func86 rfl rfl rfl (by simp) ?_
  simp only [argTm, PV.ext, Ce.ext]
  refine Do.seqk fun _ k1_ => ?_
  refine Do.region [2,3,4] true ?_
  simp [go_sem]
  apply k1_; clear k1_
  refine Do.seqk fun _ k2_ => ?_
  refine Do.region [4] true ?_
  simp [go_sem]
  repeat (refine And.intro (by first | omega | (intros; omega) | (intros; exact And.intro (by assumption) (by omega)) | grind) ?_)
  refine DoL.call true 103 rfl rfl rfl rfl (by first | exact trivial | omega | (simp; done) | (simp; omega)) (hM) rfl (by first | exact .inl rfl | exact .inr rfl) rfl ?_
  simp [go_sem]
  repeat (refine And.intro (by first | omega | (intros; omega) | (intros; exact And.intro (by assumption) (by omega)) | grind) ?_)
  apply k2_; clear k2_
  refine Do.ret ?_
  simp [endQ, rets, ret1, go_sem]
  repeat (refine And.intro (by first | omega | (intros; omega) | (intros; exact And.intro (by assumption) (by omega)) | grind) ?_)
  exact TLe.refl _
theorem IMul_does {n n' : Bool} {m m' : List Nat} (hm : m.length ≤ 536870912) (wm : Ws m) (hm' : m'.length ≤ 268435456) (wm' : Ws m') : Does Tryz.prog G 32 [Ig n m, Ig n' m'] (.v (Iv (sgn n (val m) * sgn n' (val m')))) := by
  have hM := @IMul3_does G n n' m m' hm wm hm' wm'
  generalize sgn n (val m) * sgn n' (val m') = z at *
  refine Does.of (nt := 8) Tryz.func32 rfl rfl rfl (by simp) ?_
  simp only [argTm, PV.ext, Ce.ext]
  refine Do.seqk fun _ k1_ => ?_
  refine Do.region [2,3,4] true ?_
  simp [go_sem]
  apply k1_; clear k1_
  refine Do.seqk fun _ k2_ => ?_
  refine Do.region [4] true ?_
  simp [go_sem]
  repeat (refine And.intro (by first | omega | (intros; omega) | (intros; exact And.intro (by assumption) (by omega)) | grind) ?_)
  refine DoL.call true 103 rfl rfl rfl rfl (by first | exact trivial | omega | (simp; done) | (simp; omega)) (hM) rfl (by first | exact .inl rfl | exact .inr rfl) rfl ?_
  simp [go_sem]
  repeat (refine And.intro (by first | omega | (intros; omega) | (intros; exact And.intro (by assumption) (by omega)) | grind) ?_)
  apply k2_; clear k2_
  refine Do.ret ?_
  simp [endQ, rets, ret1, go_sem]
  repeat (refine And.intro (by first | omega | (intros; omega) | (intros; exact And.intro (by assumption) (by omega)) | grind) ?_)
  exact TLe.refl _
theorem IFrom3_does {k : Nat} (hk : k < 9223372036854775808) : Does Tryz.prog G 81 [.c (.i .i64 k)] (.v (Iv k)) := by
  have hW := @RWord_does G k (by omega)
  have hM := @IMake_does G false (nat k) (by have := nat_len_of (v := k) (k := 64) ((bl_lt _ _).2 (by omega)); omega) (nat_ws k)
  rw [val_nat, show sgn false k = (k : Int) from rfl] at hM
  refine Does.of (nt := 14) Tryz.func81 rfl rfl rfl (by simp) ?_
  simp only [argTm, PV.ext, Ce.ext]
  refine Do.seqk fun _ k1_ => ?_
  refine Do.region [0,2] true ?_
  simp [go_sem, show ¬ (k : Int) < 0 by omega]
  apply k1_; clear k1_
  refine Do.seqk fun _ k2_ => ?_
  refine Do.seqk fun _ k3_ => ?_
  refine Do.region [0,2,4] true ?_
  simp [go_sem, show ¬ (k : Int) < 0 by omega]
  apply k3_; clear k3_
  refine Do.cond [0,2] rfl (fun h => ?_) (fun h => ?_) <;> simp [go_sem, show ¬ (k : Int) < 0 by omega] at h ⊢
  refine Do.skip ?_
  simp [go_sem]
  apply k2_; clear k2_
  refine Do.seqk fun _ k4_ => ?_
  refine Do.region [2] true ?_
  simp [go_sem, show ¬ (k : Int) < 0 by omega]
  repeat (refine And.intro (by first | omega | (intros; omega) | (intros; exact And.intro (by assumption) (by omega)) | grind) ?_)
  refine DoL.call true 303 rfl rfl rfl rfl (by first | exact trivial | omega | (simp; done) | (simp; omega)) (hW) rfl (by first | exact .inl rfl | exact .inr rfl) rfl ?_
  simp [go_sem, show ¬ (k : Int) < 0 by omega]
  refine DoL.call true 304 rfl rfl rfl rfl (by first | exact trivial | omega | (simp; done) | (simp; omega)) (hM) rfl (by first | exact .inl rfl | exact .inr rfl) rfl ?_
  simp [go_sem, show ¬ (k : Int) < 0 by omega]
  repeat (refine And.intro (by first | omega | (intros; omega) | (intros; exact And.intro (by assumption) (by omega)) | grind) ?_)
  apply k4_; clear k4_
  refine Do.ret ?_
  simp [endQ, rets, ret1, go_sem, show ¬ (k : Int) < 0 by omega]
  repeat (refine And.intro (by first | omega | (intros; omega) | (intros; exact And.intro (by assumption) (by omega)) | grind) ?_)
  exact TLe.refl _
theorem IFrom_does {k : Nat} (hk : k < 9223372036854775808) : Does Tryz.prog G 34 [.c (.i .i64 k)] (.v (Iv k)) := by
  have hM := @IFrom3_does G k hk
  refine Does.of (nt := 5) Tryz.func34 rfl rfl rfl (by simp) ?_
  simp only [argTm, PV.ext, Ce.ext]
  refine Do.seqk fun _ k1_ => ?_
  refine Do.region [0,2] true ?_
  simp [go_sem]
  apply k1_; clear k1_
  refine Do.seqk fun _ k2_ => ?_
  refine Do.region [2] true ?_
  simp [go_sem]
  refine DoL.call true 102 rfl rfl rfl rfl (by first | exact trivial | omega | (simp; done) | (simp; omega)) (hM) rfl (by first | exact .inl rfl | exact .inr rfl) rfl ?_
  simp [go_sem]
  repeat (refine And.intro (by first | omega | (intros; omega) | (intros; exact And.intro (by assumption) (by omega)) | grind) ?_)
  apply k2_; clear k2_
  refine Do.ret ?_
  simp [endQ, rets, ret1, go_sem]
  repeat (refine And.intro (by first | omega | (intros; omega) | (intros; exact And.intro (by assumption) (by omega)) | grind) ?_)
  exact TLe.refl _
end Go.Proofs.YtdaecibpkhcllaaGreatDoor
/- The lowest bits of a number; a real number of the reference and its exponent. No condition. -/
namespace Go.Proofs.YtdaecibpkhcllaaGreatDoor
set_option linter.unusedVariables false
set_option linter.unusedSimpArgs false
variable {G : Gl}
set_option maxHeartbeats 4000000
set_option maxRecDepth 10000
theorem PLe.agg {l l' : List Ce} (h : All2 (fun c d => PLe (.c c) (.c d)) l l') : PLe (.a l) (.a l') := by
  rintro E v ⟨vs, h1, h2⟩
  refine ⟨vs, h1, ?_⟩
  clear h1
  generalize vs.toList = ws at *
  induction h generalizing ws with
  | nil => exact h2
  | cons g _ ih =>
    obtain ⟨w, r, rfl, a, b⟩ := h2.cons_iff
    exact .cons (g _ _ a) (ih _ b)
end Go.Proofs.YtdaecibpkhcllaaGreatDoor
/- A real number of the reference: an integer times a power of 2; its exponent. No condition. -/
namespace Go.Proofs.YtdaecibpkhcllaaGreatDoor
set_option linter.unusedVariables false
set_option linter.unusedSimpArgs false
variable {G : Gl}
set_option maxHeartbeats 4000000
set_option maxRecDepth 10000
end Go.Proofs.YtdaecibpkhcllaaGreatDoor
/- A real number in steps; a part rounded. No condition. -/
namespace Go.Proofs.YtdaecibpkhcllaaGreatDoor
set_option linter.unusedVariables false
set_option linter.unusedSimpArgs false
variable {G : Gl}
set_option maxHeartbeats 4000000
set_option maxRecDepth 10000
end Go.Proofs.YtdaecibpkhcllaaGreatDoor
/- A part rounded; the greatest float; what is beyond it. No condition. -/
namespace Go.Proofs.YtdaecibpkhcllaaGreatDoor
set_option linter.unusedVariables false
set_option linter.unusedSimpArgs false
variable {G : Gl}
set_option maxHeartbeats 4000000
set_option maxRecDepth 10000
end Go.Proofs.YtdaecibpkhcllaaGreatDoor
/- The greatest float, what is beyond it. No condition. -/
namespace Go.Proofs.YtdaecibpkhcllaaGreatDoor
set_option linter.unusedVariables false
set_option linter.unusedSimpArgs false
variable {G : Gl}
set_option maxHeartbeats 4000000
set_option maxRecDepth 10000
theorem Does.mono {P : Program} {G : Gl} {f : FuncId} {args : List PV} {ret ret' : TV} (h : Does P G f args ret) (hle : TLe ret ret') : Does P G f args ret' := by
  intro W ok vals hok hgl hargs
  rcases h W ok vals hok hgl hargs with ⟨h1, h2⟩ | ⟨v, h1, h2⟩
  · exact .inl ⟨h1, h2.mono fun e W' ⟨v, q1, q2, q3⟩ => ⟨v, q1, q2, hle _ _ q3⟩⟩
  · exact .inr ⟨v, h1, hle _ _ h2⟩
end Go.Proofs.YtdaecibpkhcllaaGreatDoor
/- The reference's rounding is the program's. No condition. -/
namespace Go.Proofs.YtdaecibpkhcllaaGreatDoor
set_option linter.unusedVariables false
set_option linter.unusedSimpArgs false
variable {G : Gl}
set_option maxHeartbeats 4000000
set_option maxRecDepth 10000
theorem bl_div (v k : Nat) : bl (v / 2 ^ k) = bl v - k := by
  have h : ∀ j, j < bl (v / 2 ^ k) ↔ j + k < bl v := fun j => by
    rw [bl_le, bl_le, Nat.le_div_iff_mul_le (Nat.pow_pos (by decide)), ← Nat.pow_add]
  apply Nat.le_antisymm
  · apply Nat.le_of_not_lt
    intro hl
    have := (h (bl v - k)).1 hl
    omega
  · apply Nat.le_of_not_lt
    intro hl
    have := (h (bl (v / 2 ^ k))).2 (by omega)
    omega
end Go.Proofs.YtdaecibpkhcllaaGreatDoor
/- Canonical floats, counted. No condition. -/
namespace Go.Proofs.YtdaecibpkhcllaaGreatDoor
set_option linter.unusedVariables false
set_option linter.unusedSimpArgs false
variable {G : Gl}
set_option maxHeartbeats 4000000
set_option maxRecDepth 10000
end Go.Proofs.YtdaecibpkhcllaaGreatDoor
/- The exact sum of floats. No condition. -/
namespace Go.Proofs.YtdaecibpkhcllaaGreatDoor
set_option linter.unusedVariables false
set_option linter.unusedSimpArgs false
variable {G : Gl}
set_option maxHeartbeats 4000000
set_option maxRecDepth 10000
theorem svs_bound {z : Int} {M : Nat} : ∀ {l : List Flt}, (∀ x ∈ l, x.k = 1 → x.v * 2 ^ (x.e - z).toNat ≤ M) → (svs z l).natAbs ≤ l.length * M
  | [], _ => by simp [svs]
  | x :: l, h => by
    have ih := svs_bound (l := l) fun y hy => h y (List.mem_cons_of_mem _ hy)
    have hx := h x (by simp)
    simp only [svs, List.length_cons, Nat.add_mul, Nat.one_mul]
    split
    · rename_i hk
      have := hx hk
      unfold Nu.sv
      simp only []
      generalize x.v * 2 ^ (x.e - z).toNat = w at *
      generalize l.length * M = y at *
      split <;> omega
    · generalize l.length * M = y at *
      omega
theorem len_bl {v k : Nat} (h : bl v ≤ k) : (nat v).length ≤ (k + 63) / 64 := by rw [natlen]; omega
/-- Bounds under which exact sums stay small. -/
def Tame (l : List Flt) : Prop := l.length < 1099511627776 ∧ ∀ x ∈ l, (x.k = 1 → -1048576 ≤ x.e ∧ x.e ≤ 1048576 ∧ bl x.v ≤ 1048576)
theorem Tame.term {l : List Flt} (h : Tame l) {z : Int} (hz : -1048576 ≤ z) {x : Flt} (hx : x ∈ l) (hk : x.k = 1) (hze : z ≤ x.e) : bl (x.v * 2 ^ (x.e - z).toNat) ≤ 3145728 := by
  obtain ⟨h1, h2, h3⟩ := h.2 x hx hk
  by_cases h0 : x.v = 0
  · rw [h0]; simp [bl_zero]
  · rw [bl_mul_pow _ _ (by omega)]; omega
theorem Tame.sum {l : List Flt} (h : Tame l) {z : Int} (hz : -1048576 ≤ z) (hl : ∀ x ∈ l, x.k = 1 → z ≤ x.e) (i : Nat) : bl (svs z (l.take i)).natAbs ≤ 3145768 := by
  obtain ⟨K, hK⟩ : ∃ K, K = 3145728 := ⟨_, rfl⟩
  have hb := @svs_bound z (2 ^ K) (l.take i) fun x hx hk => Nat.le_of_lt ((bl_lt _ _).1 (by rw [hK]; exact h.term hz (List.mem_of_mem_take hx) hk (hl x (List.mem_of_mem_take hx) hk)))
  have h1 : (l.take i).length < 2 ^ 40 := Nat.lt_of_le_of_lt (List.length_take_le' i l) h.1
  have h2 : bl (svs z (l.take i)).natAbs ≤ 40 + K := by
    rw [bl_lt]
    refine Nat.lt_of_le_of_lt hb ?_
    rw [Nat.pow_add]
    exact Nat.mul_lt_mul_of_pos_right h1 (Nat.pow_pos (by decide))
  omega
end Go.Proofs.YtdaecibpkhcllaaGreatDoor
/- The reference's sum is the program's. No condition. -/
namespace Go.Proofs.YtdaecibpkhcllaaGreatDoor
set_option linter.unusedVariables false
set_option linter.unusedSimpArgs false
variable {G : Gl}
set_option maxHeartbeats 4000000
set_option maxRecDepth 10000
end Go.Proofs.YtdaecibpkhcllaaGreatDoor
/- The reference's Total. No condition. -/
namespace Go.Proofs.YtdaecibpkhcllaaGreatDoor
set_option linter.unusedVariables false
set_option linter.unusedSimpArgs false
variable {G : Gl}
set_option maxHeartbeats 4000000
set_option maxRecDepth 10000
end Go.Proofs.YtdaecibpkhcllaaGreatDoor
/- What the laws of sums compare. No condition. -/
namespace Go.Proofs.YtdaecibpkhcllaaGreatDoor
set_option linter.unusedVariables false
set_option linter.unusedSimpArgs false
variable {G : Gl}
set_option maxHeartbeats 4000000
set_option maxRecDepth 10000
theorem rcanon_idem (x : Flt) : rcanon (rcanon x) = rcanon x := by
  unfold rcanon
  by_cases h : x.k = 1
  · have : tz (x.v / 2 ^ tz x.v) = 0 := by
      by_cases h0 : x.v = 0
      · simp [h0, tz_zero]
      · exact tz_rest (by omega)
    simp [h, this]
  · simp [h]
theorem mkP_fix {n : Bool} {q : Nat} {u : Int} : rcanon (mkP n q u) = mkP n q u := by
  unfold mkP
  split
  · rfl
  · have h : rcanon ⟨1, n, u, q⟩ = ⟨1, n, u + tz q, q / 2 ^ tz q⟩ := by simp [rcanon]
    rw [← h]
    exact rcanon_idem _
theorem roundP_fix {f p r : Int} (hf : fmOk f p = true) {n : Bool} {v : Nat} {e : Int} {st : Bool} : rcanon (roundP f p r n v e st).1 = (roundP f p r n v e st).1 := by
  obtain ⟨b1, b2, b3, b4⟩ := fmOk_spec hf
  unfold roundP
  simp only []
  split
  · split
    · obtain ⟨m, hm⟩ : ∃ m, p.toNat = m + 1 := ⟨p.toNat - 1, by omega⟩
      have h2 : 2 ^ p.toNat = 2 * 2 ^ m := by rw [hm, Nat.pow_succ']
      have h3 : 0 < 2 ^ m := Nat.pow_pos (by decide)
      have h4 : tz (2 ^ p.toNat - 1) = 0 := tz_odd1 (by omega)
      simp [rcanon, h4]
    · rfl
  · exact mkP_fix
abbrev Flt.fla (x : Flt) : Fla := ⟨x.k, x.n, x.e, nat x.v⟩
theorem Flt.fla_flt (x : Flt) : x.fla.flt = x := by simp [Fla.flt, val_nat]
theorem held_rcanon {f p : Int} {x : Flt} (h : (holdsP f p x).2 = true) : rcanon x = (holdsP f p x).1 ∧ (canon x).2 = true := by
  have hg : (canon x).2 = true := by
    have := @holds_good f p x
    rw [h, Bool.and_eq_true] at this
    exact this.1
  refine ⟨?_, hg⟩
  rw [rcanon_good hg]
  unfold holdsP
  split <;> rfl
/-- Floats of the reference: right ones. -/
structure Rt (x : Fla) : Prop where
  can : (canon x.flt).2 = true
  ws : Ws x.m
  len : x.m.length ≤ 4096
theorem Rt.md {x : Fla} (h : Rt x) : Md x.e := good_md h.can
theorem canon_one {x : Flt} (h : (canon x).2 = true) (hk : x.k = 1) : -1048576 ≤ x.e ∧ x.e + tz x.v ≤ 1048576 ∧ x.v ≠ 0 := by
  unfold canon at h
  rw [if_neg (by omega), if_neg (by omega), if_pos hk] at h
  split at h
  · cases h
  · simp at h; omega
theorem canon_kind {x : Flt} (h : (canon x).2 = true) : (x.k = 0 ∨ x.k = 1 ∨ x.k = 2 ∨ x.k = 3) ∧ (x.k = 3 → x.n = false) := by
  unfold canon at h
  split at h
  · omega
  · split at h
    · simp at h; exact ⟨by omega, fun _ => h.1.1⟩
    · split at h
      · omega
      · cases h
theorem rcanon_k (x : Flt) : (rcanon x).k = x.k := by unfold rcanon; split <;> simp_all
theorem held_rt {f p : Int} {l : List Fla} (h : allHold f p l = true) (ho : ∀ x ∈ l, x.Ok) (hm : ∀ x ∈ l, x.m.length ≤ 4096) : ∀ x ∈ l, Rt x := fun x hx =>
  ⟨(held_rcanon (by simpa using List.all_eq_true.1 h x hx)).2, (ho x hx).ws, hm x hx⟩
end Go.Proofs.YtdaecibpkhcllaaGreatDoor
/- The law SumTotals. No condition. -/
namespace Go.Proofs.YtdaecibpkhcllaaGreatDoor
set_option linter.unusedVariables false
set_option linter.unusedSimpArgs false
set_option maxHeartbeats 4000000
set_option maxRecDepth 10000
end Go.Proofs.YtdaecibpkhcllaaGreatDoor
/- The law SumAdds. No condition. -/
namespace Go.Proofs.YtdaecibpkhcllaaGreatDoor
set_option linter.unusedVariables false
set_option linter.unusedSimpArgs false
set_option maxHeartbeats 4000000
set_option maxRecDepth 10000
end Go.Proofs.YtdaecibpkhcllaaGreatDoor
/- The package variables of the program, as they are laid, and what a law's arguments are. No condition. -/
namespace Go.Proofs.YtdaecibpkhcllaaGreatDoor
set_option linter.unusedVariables false
set_option linter.unusedSimpArgs false
open Go.ChangeShapes Go.WideShapes Go.ChangeAt Go.RowKit
theorem own : ownKnob Tryz.prog.godebug = Option.none := by kernel_rfl
theorem laidOut : laidOutB Tryz.prog = true := by kernel_rfl
theorem g0_name : Tryz.prog.globalNamed "math/bits.deBruijn64tab" = some 1 := by kernel_rfl
theorem g1_name : Tryz.prog.globalNamed "reckoner/fin.more" = some 0 := by kernel_rfl
/-- What is listed. -/
abbrev laidL : List (String × DataW Unit) := [("math/bits.deBruijn64tab", Rows.laid_math_bits_deBruijn64tab), ("reckoner/fin.more", Rows.laid_reckoner_fin_more)]
section
variable {H : Type} {enc : TypeId × Value → H} {P : Program} {W : World} {base : Nat} {sp : Nat → Bool} {held : Bool}
theorem array_at {t e : TypeId} {n fuel : Nat} {cs : List Value} {ds : List (DataW H)} {p : List MemPlace} (ht : P.underlying t = some (.array n e)) (hc : P.cellsOf e = 1) (h : DataW.trod enc P W base sp held fuel t cs = some (.agg ds, p)) {i : Nat} {d : DataW H} (hd : ds[i]? = some d) : ∃ v m q, cs[i]? = some v ∧ DataW.trod enc P W base sp held m e [v] = some (d, q) := by
  obtain ⟨xs, m, rfl, hx, hl, hn, hel⟩ := DataW.trod_array ht h
  simp only [Prod.mk.injEq, DataW.agg.injEq] at hx
  obtain ⟨rfl, _⟩ := hx
  rw [List.getElem?_map] at hd
  cases hxi : xs[i]? with
  | none => simp [hxi] at hd
  | some y =>
    rw [hxi] at hd
    simp only [Option.map_some, Option.some.injEq] at hd
    have hi : i < n := by rw [← hn]; exact (List.getElem?_eq_some_iff.1 hxi).1
    have h1 := hel i hi
    rw [hc, Nat.mul_one, hxi] at h1
    have hil : i < cs.length := by
      apply Classical.byContradiction
      intro hge
      rw [List.drop_of_length_le (by omega)] at h1
      cases m with
      | zero => simp [DataW.trod] at h1
      | succ m =>
        have : P.cellsOf e = 1 := hc
        cases hu : P.underlying e with
        | none => simp [DataW.trod, hu] at h1
        | some k => cases k <;> simp [DataW.trod, hu] at h1 <;> (try omega)
    rw [List.drop_eq_getElem_cons hil] at h1
    simp only [List.take_succ_cons, List.take_zero] at h1
    exact ⟨cs[i], m, y.2, List.getElem?_eq_getElem hil, by rw [h1, ← hd]⟩
theorem laidMetH.plain {l : List (String × DataW Unit)} (h : laidMetH P l W) (hne : (l.filter fun x => x.2.handleName?.isSome).isEmpty = false) : laidMet P (l.filter fun x => x.2.handleName?.isNone) W := by
  unfold laidMetH at h
  generalize (l.filter fun x => x.2.handleName?.isSome) = fl at h hne
  cases fl with
  | nil => cases hne
  | cons a r => exact h.1
end
/-- The door's own heap meets the condition. -/
abbrev doorN : Nat := 19
abbrev doorK : Nat := 8
theorem door_met (os : Os) (args : Array Value) : laidMetH Tryz.prog laidL ((World.doorLaid Tryz.prog doorN os).forCall (fun _ _ => 0) ⟨#[], args, []⟩).memory :=
  laidMetH_of_parts3 (fuel := 8) (laidMet_of_run' 8 (by kernel_rfl) (by kernel_rfl)) (by kernel_rfl) (by kernel_rfl)
theorem of_laid {W : World} (h : laidMetH Tryz.prog laidL W) : GlOk Gv W := by
  have h0 : laidMet Tryz.prog [("math/bits.deBruijn64tab", Rows.laid_math_bits_deBruijn64tab)] W := laidMetH.plain h (by kernel_rfl)
  obtain ⟨ps, ⟨g0, t0, cs0, f0, p0, q0, hg0, ht0, hv0, hd0, _⟩, _, _⟩ := h0
  obtain ⟨g1, t1, cs1, f1, p1, hg1, ht1, hv1, hd1⟩ := h.funcs (d := .agg [.iface "func" (.lit (.string [114, 101, 99, 107, 111, 110, 101, 114, 47, 102, 105, 110, 46, 109, 111, 114, 101, 36, 49])), .iface "func" (.lit (.string [114, 101, 99, 107, 111, 110, 101, 114, 47, 102, 105, 110, 46, 109, 111, 114, 101, 36, 50])), .iface "func" (.lit (.string [114, 101, 99, 107, 111, 110, 101, 114, 47, 102, 105, 110, 46, 109, 111, 114, 101, 36, 51])), .iface "func" (.lit (.string [114, 101, 99, 107, 111, 110, 101, 114, 47, 102, 105, 110, 46, 109, 111, 114, 101, 36, 52])), .iface "func" (.lit (.string [114, 101, 99, 107, 111, 110, 101, 114, 47, 102, 105, 110, 46, 109, 111, 114, 101, 36, 53]))]) (n := "reckoner/fin.more") (List.mem_cons_of_mem _ (List.mem_singleton.2 rfl))
  obtain rfl := Option.some.inj (g0_name.symm.trans hg0)
  obtain rfl := Option.some.inj (g1_name.symm.trans hg1)
  have e0 : (Rows.laid_math_bits_deBruijn64tab : DataW Unit) = .agg (Lib.deBruijn64tab.map fun k => .lit (.int .u8 (k : Nat))) := by kernel_rfl
  rw [e0] at hd0
  obtain rfl := Option.some.inj ((show (Tryz.prog.globals[1]?).map (·.type) = some 190 by kernel_rfl).symm.trans ht0)
  obtain rfl := Option.some.inj ((show (Tryz.prog.globals[0]?).map (·.type) = some 184 by kernel_rfl).symm.trans ht1)
  intro b off x hx
  match b, hx with
  | 1, hx =>
    simp only [Gv, List.getElem?_map] at hx
    cases hk : Lib.deBruijn64tab[off]? with
    | none => simp [hk] at hx
    | some k =>
      simp only [hk, Option.map_some, Option.some.injEq] at hx; subst hx
      obtain ⟨v, m, q, h1, h2⟩ := array_at Tryz.underlying190 (by kernel_rfl) hd0 (i := off) (d := .lit (.int .u8 (k : Nat))) (by simp [hk])
      obtain ⟨z, h3, h4, _⟩ := DataW.trod_int Tryz.underlying5 h2
      simp only [List.cons.injEq, and_true, Prod.mk.injEq, DataW.lit.injEq, Lit.int.injEq, true_and] at h3 h4
      subst h3
      refine ⟨rfl, .int .u8 z, ?_, fun E => ?_⟩
      · rw [World.var?_cell hg0 hv0 off]; simpa using h1
      · show Value.int .u8 z = .int .u8 (k : Nat)
        rw [h4.1]
  | 0, hx =>
    have hd1 : DataW.trod (funcToken Tryz.prog) Tryz.prog W 0 (fun _ => true) true f1 184 cs1.toList = some (.agg [.held [114, 101, 99, 107, 111, 110, 101, 114, 47, 102, 105, 110, 46, 109, 111, 114, 101, 36, 49], .held [114, 101, 99, 107, 111, 110, 101, 114, 47, 102, 105, 110, 46, 109, 111, 114, 101, 36, 50], .held [114, 101, 99, 107, 111, 110, 101, 114, 47, 102, 105, 110, 46, 109, 111, 114, 101, 36, 51], .held [114, 101, 99, 107, 111, 110, 101, 114, 47, 102, 105, 110, 46, 109, 111, 114, 101, 36, 52], .held [114, 101, 99, 107, 111, 110, 101, 114, 47, 102, 105, 110, 46, 109, 111, 114, 101, 36, 53]], p1) := hd1
    have hF : ∀ {i : Nat} {by_ : UInt8} {r : List UInt8} {f0 : FuncId}, (([DataW.held (H := List UInt8) [114, 101, 99, 107, 111, 110, 101, 114, 47, 102, 105, 110, 46, 109, 111, 114, 101, 36, 49], .held [114, 101, 99, 107, 111, 110, 101, 114, 47, 102, 105, 110, 46, 109, 111, 114, 101, 36, 50], .held [114, 101, 99, 107, 111, 110, 101, 114, 47, 102, 105, 110, 46, 109, 111, 114, 101, 36, 51], .held [114, 101, 99, 107, 111, 110, 101, 114, 47, 102, 105, 110, 46, 109, 111, 114, 101, 36, 52], .held [114, 101, 99, 107, 111, 110, 101, 114, 47, 102, 105, 110, 46, 109, 111, 114, 101, 36, 53]]))[i]? = some (.held (by_ :: r)) → ((List.range Tryz.prog.funcs.size).filter fun f => (Tryz.prog.funcs[f]?).any (·.name.toUTF8.data.toList == by_ :: r)) = [f0] → (Ce.f f0).pure = true ∧ ∃ v, W.cell? ⟨0, i, Option.none⟩ = some v ∧ ∀ E, RC E (.f f0) v := fun {i by_ r f0} hi hone => by
      obtain ⟨v, m, q, h1, h2⟩ := array_at Tryz.underlying184 (by kernel_rfl) hd1 hi
      obtain rfl := func_of_trod (f0 := f0) Tryz.underlying183 hone h2
      refine ⟨rfl, .func (.func f0) #[] #[], ?_, fun E => rfl⟩
      rw [World.var?_cell hg1 hv1 i]; simpa using h1
    rcases off with _ | _ | _ | _ | _ | off
    · simp only [Gv] at hx
      obtain rfl : Ce.f 188 = x := Option.some.inj hx
      exact hF (i := 0) rfl (by kernel_rfl)
    · simp only [Gv] at hx
      obtain rfl : Ce.f 189 = x := Option.some.inj hx
      exact hF (i := 1) rfl (by kernel_rfl)
    · simp only [Gv] at hx
      obtain rfl : Ce.f 190 = x := Option.some.inj hx
      exact hF (i := 2) rfl (by kernel_rfl)
    · simp only [Gv] at hx
      obtain rfl : Ce.f 191 = x := Option.some.inj hx
      exact hF (i := 3) rfl (by kernel_rfl)
    · simp only [Gv] at hx
      obtain rfl : Ce.f 192 = x := Option.some.inj hx
      exact hF (i := 4) rfl (by kernel_rfl)
    · simp [Gv] at hx
  | b + 2, hx => simp [Gv] at hx
set_option maxRecDepth 100000
/-- A format among the arguments. -/
theorem arg_fm {H : Type} {enc : TypeId × Value → H} {W : World} {b0 : Nat} {sp : Nat → Bool} {held : Bool} {v : Value} {d : DataW H} {ps : List MemPlace} (hval : Value.okWide Tryz.prog W .any b0 23 v) (h : DataW.Trod enc Tryz.prog W 0 sp held 23 v d ps) : ∃ f p, RP (enA W fun b => b < W.heap.size) (Fm f p) v := by
  obtain ⟨ces, h1, h2⟩ := open_struct (ok := fun b => b < W.heap.size) (f := 2) (cts := [.i .i64, .i .i64]) (fun _ h => h) Tryz.underlying23 (by kernel_rfl) hval h
  cases h2 with | cons g h2 => cases h2 with | cons g' h2 => cases h2 with | nil =>
  obtain ⟨e, rfl, _⟩ := g
  obtain ⟨p, rfl, _⟩ := g'
  exact ⟨e, p, h1⟩
theorem cells_fl {ces : List Ce} (h2 : All2 CtIs [.i .i64, .b, .i .i64, .w] ces) : ∃ x : Fla, x.cs = ces ∧ Ws x.m ∧ I64 x.e := by
  cases h2 with | cons g1 h2 => cases h2 with | cons g2 h2 => cases h2 with | cons g3 h2 => cases h2 with | cons g4 h2 => cases h2 with | nil =>
  obtain ⟨k, rfl, _⟩ := g1
  obtain ⟨n, rfl⟩ := g2
  obtain ⟨e, rfl, he⟩ := g3
  obtain ⟨m, rfl, hm⟩ := g4
  exact ⟨⟨k, n, e, m⟩, rfl, hm, wf_i64 he⟩
/-- Floats among the arguments. -/
theorem arg_fls {H : Type} {enc : TypeId × Value → H} {W : World} {b0 : Nat} {sp : Nat → Bool} {held : Bool} {v : Value} {d : DataW H} {ps : List MemPlace} (hval : Value.okWide Tryz.prog W .any b0 48 v) (h : DataW.Trod enc Tryz.prog W 0 sp held 48 v d ps) : ∃ l : List Fla, (∀ x ∈ l, Ws x.m ∧ I64 x.e) ∧ RP (enA W fun b => b < W.heap.size) (Rows l) v := by
  obtain ⟨rows, h1, h2⟩ := open_structs (ok := fun b => b < W.heap.size) (f := 2) (cts := [.i .i64, .b, .i .i64, .w]) (fun _ h => h) Tryz.underlying48 (by kernel_rfl) (by kernel_rfl) (by decide) hval h
  have : ∃ l : List Fla, l.map Fla.cs = rows ∧ ∀ x ∈ l, Ws x.m ∧ I64 x.e := by
    clear h1
    induction rows with
    | nil => exact ⟨[], rfl, by simp⟩
    | cons r rows ih =>
      obtain ⟨l, e, hl⟩ := ih fun r hr => h2 r (List.mem_cons_of_mem _ hr)
      have hr := h2 r (by simp)
      obtain ⟨y, rfl, hy⟩ := cells_fl hr
      exact ⟨y :: l, by simp [e], fun x hx => by
          rcases List.mem_cons.1 hx with rfl | hx
          · exact hy
          · exact hl x hx⟩
  obtain ⟨l, rfl, hl⟩ := this
  exact ⟨l, hl, h1⟩
/-- What a law that returns true leaves. -/
theorem law_calls {f : FuncId} {fn : Func} {c : Code} {args : List PV} {W : World} {vals : List Value} (h : Does Tryz.prog Gv f args (.v (.c (.b true)))) (hf : Tryz.prog.funcs[f]? = some fn) (hname : (fn.name == "runtime.NumGoroutine") = false) (hb : fn.body = some c) (hg : GlOk Gv W) (ha : All2 (RP (enA W fun b => b < W.heap.size)) args vals) :
    Calls Tryz.prog f vals.toArray W (fun e W' => e = .returned (.bool true) ∧ Below W.heap.size W W') :=
  (h.toCalls hf hname hb (fun _ h => h) hg ha).mono fun e W' ⟨v, he, hb, hr⟩ => by
    have : v = .bool true := hr
    subst this
    exact ⟨he, hb⟩
end Go.Proofs.YtdaecibpkhcllaaGreatDoor
/- Rounding to the nearest: how near, and when exactly. No condition. -/
namespace Go.Proofs.YtdaecibpkhcllaaGreatDoor
set_option linter.unusedVariables false
set_option linter.unusedSimpArgs false
set_option maxHeartbeats 4000000
set_option maxRecDepth 10000
theorem near_cut (v k : Nat) (n : Bool) {q : Nat} (hq : upP 0 n (cutP v ((k : Int) + 1) false).1 (cutP v ((k : Int) + 1) false).2 = q) : 2 * v ≤ 2 * (q * 2 ^ (k + 1)) + 2 ^ (k + 1) ∧ 2 * (q * 2 ^ (k + 1)) ≤ 2 * v + 2 ^ (k + 1) := by
  have e1 : ((k : Int) + 1).toNat = k + 1 := by omega
  have e2 : ((k : Int) + 1 - 1).toNat = k := by omega
  rw [cutP, if_neg (by omega), e1, e2] at hq
  simp only [Bool.false_or] at hq
  have h1 : v / 2 ^ k = 2 * (v / 2 ^ (k + 1)) + v / 2 ^ k % 2 := by
    have := Nat.div_add_mod (v / 2 ^ k) 2
    rw [Nat.div_div_eq_div_mul, ← Nat.pow_succ] at this
    exact this.symm
  have h2 := Nat.div_add_mod v (2 ^ k)
  have h3 := Nat.mod_lt v (Nat.pow_pos (n := k) (show 0 < 2 by decide))
  have hP : 2 ^ (k + 1) = 2 * 2 ^ k := Nat.pow_succ'
  generalize v / 2 ^ (k + 1) = c at *
  have h4 : v / 2 ^ k % 2 = 0 ∨ v / 2 ^ k % 2 = 1 := by omega
  generalize v / 2 ^ k % 2 = b at *
  generalize v / 2 ^ k = d at *
  generalize v % 2 ^ k = l at *
  rw [hP]
  generalize 2 ^ k = H at *
  have key : v = 2 * (c * H) + b * H + l := by
    rw [← h2, h1, Nat.mul_add, Nat.mul_comm H b, ← Nat.mul_assoc, Nat.mul_comm H 2, Nat.mul_assoc, Nat.mul_comm H c]
  have hup : ∀ x, upP 0 n c x = c ∨ upP 0 n c x = c + 1 := fun x => by unfold upP; split <;> simp
  have hc : q = c ∨ q = c + 1 := by rw [← hq]; exact hup _
  have m0 : c * (2 * H) = 2 * (c * H) := by rw [← Nat.mul_assoc, Nat.mul_comm c 2, Nat.mul_assoc]
  have m1 : (c + 1) * (2 * H) = 2 * (c * H) + 2 * H := by rw [Nat.add_mul, m0, Nat.one_mul]
  rcases h4 with rfl | rfl
  · have : q = c := by rw [← hq]; by_cases hl : l = 0 <;> simp [upP, moreP, hl]
    subst this
    rw [m0]
    generalize q * H = X at *
    omega
  · by_cases hl : l = 0
    · rcases hc with rfl | rfl
      · rw [m0]
        generalize q * H = X at *
        omega
      · rw [m1]
        generalize c * H = X at *
        omega
    · have : q = c + 1 := by rw [← hq]; simp [upP, moreP, hl]
      subst this
      rw [m1]
      generalize c * H = X at *
      omega
theorem upP_none (r : Int) (n : Bool) (q : Nat) : upP r n q 0 = q := by simp [upP, moreP]
/-- How near a rounded number is. -/
theorem roundP_near {f p : Int} (hf : fmOk f p = true) {n : Bool} {V : Nat} {z : Int} (hz : z ≤ 1 - gOfE f - (p - 1)) (hV : 0 < V) (hk : (roundP f p 0 n V z false).1.k ≠ 2) : ∃ q j : Nat, 1 - gOfE f - (p - 1) ≤ z + j ∧ (z + j = 1 - gOfE f - (p - 1) ∨ 2 ^ (p.toNat - 1) * 2 ^ j ≤ V) ∧ 2 * V ≤ 2 * (q * 2 ^ j) + 2 ^ j ∧ 2 * (q * 2 ^ j) ≤ 2 * V + 2 ^ j ∧ (roundP f p 0 n V z false).1 = mkP n q (z + j) := by
  obtain ⟨b1, b2, b3, b4⟩ := fmOk_spec hf
  have hp := bl_pos hV
  have hlow : 2 ^ (bl V - 1) ≤ V := (bl_le _ _).1 (by omega)
  have hu : 1 - gOfE f - (p - 1) ≤ stepP f p (z + bl V - 1) ∧ (stepP f p (z + bl V - 1) = 1 - gOfE f - (p - 1) ∨ stepP f p (z + bl V - 1) = z + bl V - 1 - p + 1) := by unfold stepP; split <;> omega
  unfold roundP at hk ⊢
  simp only [] at hk ⊢
  generalize stepP f p (z + bl V - 1) = u at *
  obtain ⟨j, hj⟩ : ∃ j : Nat, u - z = j := ⟨(u - z).toNat, by omega⟩
  have hg : grP 0 n = false := rfl
  have hno : ¬ gOfE f < u + bl (upP 0 n (cutP V (u - z) false).1 (cutP V (u - z) false).2) - 1 := by
    intro h
    rw [if_pos h, hg] at hk
    exact hk rfl
  rw [if_neg hno]
  refine ⟨upP 0 n (cutP V (u - z) false).1 (cutP V (u - z) false).2, j, by omega, ?_, ?_, ?_, by rw [show z + (j : Int) = u by omega]⟩
  · rcases hu.2 with h | h
    · exact .inl (by omega)
    · right
      rw [← Nat.pow_add, show p.toNat - 1 + j = bl V - 1 by omega]
      exact hlow
  · rw [hj]
    cases j with
    | zero =>
      rw [show cutP V ((0 : Nat) : Int) false = (V, 0) by simp [cutP]]
      simp only [upP_none]; omega
    | succ k => exact (near_cut V k n rfl).1
  · rw [hj]
    cases j with
    | zero =>
      rw [show cutP V ((0 : Nat) : Int) false = (V, 0) by simp [cutP]]
      simp only [upP_none]; omega
    | succ k => exact (near_cut V k n rfl).2
/-- A number over a low exponent, with few enough digits for the format. -/
structure OfF (f p z : Int) (A : Int) (w : Nat) (k : Int) : Prop where
  low : 1 - gOfE f - (p - 1) ≤ k
  few : (bl w : Int) ≤ p
  top : k + bl w ≤ gOfE f + 1
  abs : A.natAbs = w * 2 ^ (k - z).toNat
end Go.Proofs.YtdaecibpkhcllaaGreatDoor
/- What a rounded sum drops is a float of the format. No condition. -/
namespace Go.Proofs.YtdaecibpkhcllaaGreatDoor
set_option linter.unusedVariables false
set_option linter.unusedSimpArgs false
set_option maxHeartbeats 4000000
set_option maxRecDepth 10000
/-- The least exponent. -/
abbrev tiny (f p : Int) : Int := 1 - gOfE f - (p - 1)
theorem OfF.mul {f p z A : Int} {w : Nat} {k : Int} (h : OfF f p z A w k) {m : Int} (h1 : z ≤ m) (h2 : m ≤ k) : ∃ a : Int, A = a * ((2 ^ (m - z).toNat : Nat) : Int) := by
  have e : w * 2 ^ (k - z).toNat = w * 2 ^ (k - m).toNat * 2 ^ (m - z).toNat := by rw [pow_split h1 h2, Nat.mul_assoc]
  have h3 := h.abs
  rw [e] at h3
  rcases Int.natAbs_eq A with h | h
  · exact ⟨(w * 2 ^ (k - m).toNat : Nat), by rw [← Int.natCast_mul, ← h3]; exact h⟩
  · exact ⟨-((w * 2 ^ (k - m).toNat : Nat) : Int), by rw [Int.neg_mul, ← Int.natCast_mul, ← h3]; exact h⟩
/-- A rounding to the nearest: V becomes q 2^j. -/
structure Near (f p z : Int) (V q j : Nat) : Prop where
  low : tiny f p ≤ z + j
  big : z + j = tiny f p ∨ 2 ^ (p.toNat - 1) * 2 ^ j ≤ V
  up : 2 * V ≤ 2 * (q * 2 ^ j) + 2 ^ j
  down : 2 * (q * 2 ^ j) ≤ 2 * V + 2 ^ j
/-- The value of a float over a low exponent. -/
def fv (z : Int) (x : Flt) : Int := if x.k = 1 then Nu.sv z ⟨x.n, x.v, x.e⟩ else 0
theorem mkP_fv {n : Bool} {q j : Nat} {z : Int} : fv z (mkP n q (z + j)) = sgn n (q * 2 ^ j) := by
  unfold mkP fv
  by_cases hq : q = 0
  · simp [hq, sgn]
  · rw [if_neg hq]
    simp only [if_true]
    have hv : q / 2 ^ tz q * 2 ^ (z + j + tz q - z).toNat = q * 2 ^ j := by
      obtain ⟨m, hm⟩ := tz_form (show 0 < q by omega)
      have e1 : q / 2 ^ tz q = 2 * m + 1 := by
        conv => lhs; arg 1; rw [hm]
        exact Nat.mul_div_cancel_left _ (Nat.pow_pos (by decide))
      rw [e1, show (z + (j : Int) + tz q - z).toNat = tz q + j by omega, Nat.pow_add, ← Nat.mul_assoc]
      congr 1
      conv => rhs; rw [hm]
      exact Nat.mul_comm _ _
    unfold Nu.sv sgn
    simp only [hv]
end Go.Proofs.YtdaecibpkhcllaaGreatDoor
/- Functions whose one result is a row of the caller's. No condition. -/
namespace Go.Proofs.YtdaecibpkhcllaaGreatDoor
set_option linter.unusedVariables false
set_option linter.unusedSimpArgs false
section
variable {P : Program} {G : Gl} {nt : Nat} {st : St} {cx : Cx} {a : Act} {W W' : World} {m : Nat → Option Nat} {QE : Exit → St → Prop} {ops l : List Oper} {Q : St → Prop}
/-- What a call computes whose one result is a row that its caller alone holds. -/
def DoesQ (P : Program) (G : Gl) (f : FuncId) (args : List PV) (sz : Nat) (rows : List (List Ce)) : Prop :=
  ∀ (W : World) (ok : Nat → Prop) (vals : List Value), (∀ b, ok b → b < W.heap.size) → GlOk G W → All2 (RP (enA W ok)) args vals →
    (callFunc f vals.toArray).run P W = .ok (.enter f vals.toArray) W ∧ Calls P f vals.toArray W (fun e W' => ∃ sv bo, e = .returned sv ∧ RowKit.Below W.heap.size W W' ∧ (∀ b, bo = some b → W.heap.size ≤ b ∧ b < W'.heap.size) ∧
      RC (enO W W' ok bo (.sr sz rows)) (.r 0 rows.length) sv ∧ RO (enO W W' ok bo (.sr sz rows)) 0 (.sr sz rows))
def endOne (sz : Nat) (rows : List (List Ce)) (rs : List ResultVar) (e : Exit) (s : St) : Prop :=
  (e = .ret ∨ e = .normal) ∧ match rs with
    | [.tmp t] => (match lk t s.tm with
      | some (.v (.c (.r j n))) => n = rows.length ∧ lk j s.ob = some (.sr sz rows)
      | _ => False)
    | _ => False
theorem DoesQ.of {f : FuncId} {fn : Func} {c : Code} {args : List PV} {sz : Nat} {rows : List (List Ce)} (hf : P.funcs[f]? = some fn) (hname : (fn.name == "runtime.NumGoroutine") = false) (hb : fn.body = some c) (hnt : fn.ntmps = nt) (hal : args.length ≤ nt)
    (h : Do P G nt c ⟨argTm 0 args, []⟩ (endOne sz rows fn.results.toList)) : DoesQ P G f args sz rows := by
  intro W ok vals hok hgl hargs
  refine ⟨?_, ?_⟩
  · have hn' : fn.name ≠ "runtime.NumGoroutine" := by simpa using hname
    simp [callFunc, hf, hn', hb]
  · refine calls_of_wp hf hb ?_
    refine Code.wp_mono (fun e a' W' ⟨s, hq, m', hs⟩ => ?_) (h _ _ W rfl ⟨_, start_rel hok hgl hargs hal hnt⟩)
    obtain ⟨he, hret⟩ := hq
    split at hret
    case h_2 => exact hret.elim
    rename_i t hrs
    split at hret
    case h_2 => exact hret.elim
    rename_i j n ht
    obtain ⟨rfl, hj⟩ := hret
    obtain ⟨sv, hv, hrt⟩ := hs.tm t _ ht
    have hg : a'.tmps.getD t undef = sv := by simp [hv]
    have hres : (results fn a'.tmps).run P W' = .ok sv W' := by
      have hfun : results fn a'.tmps = (do let vs ← fn.results.mapM (resOf a'.tmps); pure (if h : vs.size = 1 then vs[0] else .tuple vs)) := by
        unfold results
        congr 1
      rw [hfun]
      have h1 : (resOf a'.tmps (.tmp t)).run P W' = .ok sv W' := by simp [resOf, hg]
      simp only [Sem.run_bind, Array.mapM_eq_mapM_toList, Sem.run_map, hrs, List.mapM_cons, List.mapM_nil, h1, Result.andThen_ok, Sem.run_pure]
      simp
    have hbelow : RowKit.Below W.heap.size W W' := ⟨hs.os, hs.tape, hs.output, hs.size, fun k hk => hs.keep k hk id⟩
    have hown : ∀ b, m' j = some b → W.heap.size ≤ b ∧ b < W'.heap.size := fun b hb => by
      obtain ⟨q1, q2⟩ := hs.own j _ b hj hb
      exact ⟨q2.elim id fun e => e.1.elim, q1⟩
    have hle : EnLe (fun _ => False) (en ⟨W.heap.size, W, ok, fun _ => False, nt⟩ m' s.ob W') (enO W W' ok (m' j) (.sr sz rows)) :=
      ⟨fun b ⟨q1, q2, q3⟩ => ⟨⟨q1, q2⟩, q3 j _ hj⟩, fun _ _ => rfl, Nat.le_refl _, fun _ hF => hF.elim⟩
    have hO : ∃ bo, (∀ b, bo = some b → W.heap.size ≤ b ∧ b < W'.heap.size) ∧ RC (enO W W' ok bo (.sr sz rows)) (.r 0 rows.length) sv ∧ RO (enO W W' ok bo (.sr sz rows)) 0 (.sr sz rows) := by
      refine ⟨m' j, hown, ⟨hrt.1, fun o' ho' hle' => ?_⟩, ?_⟩
      · obtain rfl : Ob.sr sz rows = o' := by simpa [enO] using ho'
        obtain ⟨_, k2⟩ := hrt.2 _ hj (Nat.le_refl _)
        exact ⟨rfl, k2⟩
      · rcases hs.ob j _ hj with ⟨y1, y2⟩ | ⟨b', vs, e2, r1, r2, r3⟩
        · exact .inl ⟨y1, y2⟩
        · exact .inr ⟨b', vs, e2, r1, r2, fun i cs hi => let ⟨k1, us', k2, k3⟩ := r3 i cs hi; ⟨k1, us', k2.mono hle, k3⟩⟩
    obtain ⟨bo, k1, k2, k3⟩ := hO
    have hfin : ∃ sv' bo, (Ending.returned sv) = .returned sv' ∧ RowKit.Below W.heap.size W W' ∧ (∀ b, bo = some b → W.heap.size ≤ b ∧ b < W'.heap.size) ∧
      RC (enO W W' ok bo (.sr sz rows)) (.r 0 rows.length) sv' ∧ RO (enO W W' ok bo (.sr sz rows)) 0 (.sr sz rows) :=
      ⟨sv, bo, rfl, hbelow, k1, k2, k3⟩
    rcases he with rfl | rfl
    · exact ⟨hs.df, _, hres, hfin⟩
    · exact ⟨hs.df, _, hres, hfin⟩
end
end Go.Proofs.YtdaecibpkhcllaaGreatDoor
/- The reference's Rest: what sums leave, as a float. No condition. -/
namespace Go.Proofs.YtdaecibpkhcllaaGreatDoor
set_option linter.unusedVariables false
set_option linter.unusedSimpArgs false
variable {G : Gl}
set_option maxHeartbeats 4000000
set_option maxRecDepth 10000
theorem Tame.rest {A B : List Flt} (ha : Tame A) (hb : Tame B) (hl : A.length + B.length < 1099511627776) : Tame (A ++ B.map Flt.neg) := by
  refine ⟨by simpa using hl, fun x hx hk => ?_⟩
  rcases List.mem_append.1 hx with hx | hx
  · exact ha.2 x hx hk
  · obtain ⟨y, hy, rfl⟩ := List.mem_map.1 hx
    exact hb.2 y hy hk
end Go.Proofs.YtdaecibpkhcllaaGreatDoor
/- A box under another label; a pointer to cells, taken as one, within a region. No condition. -/
namespace Go.Proofs.YtdaecibpkhcllaaGreatDoor
set_option linter.unusedVariables false
set_option linter.unusedSimpArgs false
section
variable {P : Program} {G : Gl} {nt : Nat} {st : St} {cx : Cx} {a : Act} {W W' : World} {m : Nat → Option Nat} {QE : Exit → St → Prop} {ops l : List Oper} {Q : St → Prop}
theorem lk_all {α : Type} {p : Nat × α → Bool} {j : Nat} {x : α} : ∀ {l : List (Nat × α)}, l.all p = true → lk j l = some x → p (j, x) = true
  | [], _, h => by simp [lk] at h
  | (k, y) :: r, ha, h => by
    simp only [List.all_cons, Bool.and_eq_true] at ha
    simp only [lk] at h
    split at h
    · rename_i e; injection h with h; subst h; subst e; exact ha.1
    · exact lk_all ha.2 h
/-- A box under another label. -/
theorem RelM.rename (h : RelM G cx m st a W) {la lb t : Nat} {cs : List Ce} (ht : lk t st.tm = some (.v (.c (.p la 0)))) (ha : lk la st.ob = some (.box cs)) (hf : st.free lb = true) (h1 : ((del t st.tm).all fun x => !x.2.labs.contains la) = true) (h2 : (st.ob.all fun x => !x.2.labs.contains la) = true) (hp : la ≠ 7777777) :
    RelM G cx (upd m lb (m la)) ⟨put t (.v (.c (.p lb 0))) st.tm, put lb (.box cs) (del la st.ob)⟩ a W := by
  obtain ⟨f1, f2, f3⟩ := St.free_spec hf
  have hlb : lk lb st.ob = none := f2
  have hne : la ≠ lb := fun e => by rw [e, hlb] at ha; cases ha
  have hd : ∀ k o, lk k (put lb (.box cs) (del la st.ob)) = some o → (k = lb ∧ o = .box cs) ∨ (k ≠ lb ∧ k ≠ la ∧ lk k st.ob = some o) := fun k o hk => by
    rw [lk_put] at hk
    split at hk
    · rename_i e; injection hk with hk; exact .inl ⟨e, hk.symm⟩
    · rename_i e
      rw [lk_del] at hk
      split at hk
      · cases hk
      · rename_i e2; exact .inr ⟨e, e2, hk⟩
  have he : EnLe (fun j => j ≠ la ∧ j ≠ lb) (en cx m st.ob W) (en cx (upd m lb (m la)) (put lb (.box cs) (del la st.ob)) W) := by
    refine ⟨fun b ⟨g1, g2, g3⟩ => ⟨g1, g2, fun j o hj => ?_⟩, fun _ _ => rfl, Nat.le_refl _, fun j hj o' ho' => ?_⟩
    · rcases hd j o hj with ⟨rfl, rfl⟩ | ⟨k1, k2, k3⟩
      · rw [upd_self]; exact g3 la _ ha
      · rw [upd_ne _ _ k1]; exact g3 j o k3
    · rcases hd j o' ho' with ⟨e, _⟩ | ⟨k1, k2, k3⟩
      · exact absurd e hj.2
      · exact ⟨o', k3, rfl, rfl, Nat.le_refl _, fun _ => ⟨upd_ne _ _ k1, fun _ _ => rfl⟩⟩
  have hlab : ∀ j o, lk j st.ob = some o → ∀ k ∈ o.labs, k ≠ la ∧ k ≠ lb := fun j o hj k hk => by
    refine ⟨fun e => ?_, fun e => f3 j o hj (e ▸ hk)⟩
    have := lk_all h2 hj
    subst e
    simp at this; exact this hk
  have hro := h.ob la _ ha
  refine { h with tm := fun s x hx => ?_, ob := fun j o hj => ?_, inj := fun j j' o o' b g1 g2 g3 g4 => ?_, own := fun j o b g1 g2 => ?_, pin := fun o ho => ?_ }
  · rw [lk_put] at hx
    split at hx
    · rename_i e
      injection hx with hx; subst hx; subst e
      obtain ⟨v, hv, q1, q2⟩ := h.tm _ _ ht
      refine ⟨v, hv, q1, fun cs' hcs' => ?_⟩
      obtain ⟨b, q3, q4⟩ := q2 cs ha
      exact ⟨b, by show upd m lb (m la) lb = some b; rw [upd_self]; exact q3, q4⟩
    · rename_i e
      obtain ⟨v, hv, hr⟩ := h.tm s x hx
      refine ⟨v, hv, RT.mono he (fun j hj => ⟨fun e2 => ?_, fun e2 => f1 s x hx (e2 ▸ hj)⟩) hr⟩
      have hx2 : lk s (del t st.tm) = some x := by rw [lk_del, if_neg e]; exact hx
      have := lk_all h1 hx2
      subst e2
      simp at this; exact this hj
  · rcases hd j o hj with ⟨rfl, rfl⟩ | ⟨k1, k2, k3⟩
    · obtain ⟨b, vs, e, q1, q2, q3⟩ := hro
      refine ⟨b, vs, e, by show upd m j (m la) j = some b; rw [upd_self]; exact q1, q2, q3.mono' fun c hc v hv => RC.mono he (fun k hk => hlab la _ ha k ?_) hv⟩
      exact List.mem_flatMap.2 ⟨c, hc, hk⟩
    · exact RO.mono he (hlab j o k3) (upd_ne _ _ k1) (fun _ _ => rfl) (h.ob j o k3)
  · rcases hd j o g1 with ⟨rfl, rfl⟩ | ⟨k1, k2, k3⟩ <;> rcases hd j' o' g2 with ⟨rfl, rfl⟩ | ⟨u1, u2, u3⟩
    · rfl
    · rw [upd_self] at g3; rw [upd_ne _ _ u1] at g4
      exact absurd (h.inj la j' _ _ b ha u3 g3 g4) (Ne.symm u2)
    · rw [upd_self] at g4; rw [upd_ne _ _ k1] at g3
      exact absurd (h.inj j la _ _ b k3 ha g3 g4) k2
    · rw [upd_ne _ _ k1] at g3; rw [upd_ne _ _ u1] at g4
      exact h.inj j j' o o' b k3 u3 g3 g4
  · rcases hd j o g1 with ⟨rfl, rfl⟩ | ⟨k1, k2, k3⟩
    · rw [upd_self] at g2
      have := h.own la _ b ha g2
      exact ⟨this.1, this.2.elim .inl fun e => absurd e.2.2 hp⟩
    · rw [upd_ne _ _ k1] at g2; exact h.own j o b k3 g2
  · rcases hd _ o ho with ⟨e, _⟩ | ⟨k1, k2, k3⟩
    · exact absurd e.symm (St.free_pin hf)
    · obtain ⟨g1, b, g2, g3, g4⟩ := h.pin o k3
      exact ⟨g1, b, by rw [upd_ne _ _ k1]; exact g2, g3, g4⟩
theorem Do.rename {c : Code} (la lb t : Nat) {cs : List Ce} (ht : lk t st.tm = some (.v (.c (.p la 0)))) (ha : lk la st.ob = some (.box cs)) (hf : st.free lb = true) (h1 : ((del t st.tm).all fun x => !x.2.labs.contains la) = true) (h2 : (st.ob.all fun x => !x.2.labs.contains la) = true) (hp : la ≠ 7777777) (h : Do P G nt c ⟨put t (.v (.c (.p lb 0))) st.tm, put lb (.box cs) (del la st.ob)⟩ QE) : Do P G nt c st QE :=
  fun cx a W hn ⟨_, hr⟩ => h cx a W hn ⟨_, hr.rename ht ha hf h1 h2 hp⟩
/-- An object that nobody asks for any more. -/
theorem Do.drop {c : Code} (la : Nat) (h : Do P G nt c ⟨st.tm, del la st.ob⟩ QE) : Do P G nt c st QE :=
  fun cx a W hn ⟨m, hr⟩ => h cx a W hn ⟨m, hr.fewer (del la st.ob) fun j o hj => by
    rw [lk_del] at hj
    split at hj
    · cases hj
    · exact hj⟩
/-- A pointer to cells, taken as one. -/
theorem DoL.turn (md : Bool) (lab t : Nat) {cs : List Ce} (ht : lk t st.tm = some (.v (.c (.x (PtrSx cs))))) (h : runs P G nt md ops Q lab l ⟨put t (.e cs) st.tm, st.ob⟩) : DoL P G nt ops l st Q := by
  intro cx a W hn ⟨m, hr⟩
  refine DoL.run h cx a W hn ⟨m, { hr with tm := fun s x hx => ?_ }⟩
  rcases lk_le_put s x st.tm hx with ⟨rfl, rfl⟩ | ⟨_, hx⟩
  · obtain ⟨v, hv, ad, h1, h2, vs, h3, h4⟩ := hr.tm _ _ ht
    exact ⟨v, hv, ad, h1, h2, vs, RCs.same (E := enA W (okOf cx m st.ob W)) (E' := en cx m st.ob W) (fun _ h => h) rfl h3, h4⟩
  · exact hr.tm s x hx
end
end Go.Proofs.YtdaecibpkhcllaaGreatDoor
/- Pairs of floats: the rounded sum, and what it drops. No condition. -/
namespace Go.Proofs.YtdaecibpkhcllaaGreatDoor
set_option linter.unusedVariables false
set_option linter.unusedSimpArgs false
set_option maxHeartbeats 4000000
set_option maxRecDepth 10000
theorem tiny_le {f p : Int} (hf : fmOk f p = true) : tiny f p ≤ 0 ∧ -100000 ≤ tiny f p := by
  obtain ⟨b1, b2, b3, b4⟩ := fmOk_spec hf
  obtain ⟨b5, b6⟩ := gOfE_le b1 b2
  show 1 - gOfE f - (p - 1) ≤ 0 ∧ -100000 ≤ 1 - gOfE f - (p - 1)
  omega
theorem sv_abs (z D : Int) : Nu.sv z ⟨decide (D < 0), D.natAbs, z⟩ = D := by
  unfold Nu.sv
  simp only [Int.sub_self, Int.toNat_zero, Nat.pow_zero, Nat.mul_one]
  split <;> rename_i h <;> simp at h <;> omega
/-- What a step of rounding leaves. -/
theorem round_step {f p : Int} (hf : fmOk f p = true) {R : Int} (hR : R ≠ 0) (hk : (roundP f p 0 (decide (R < 0)) R.natAbs (tiny f p) false).1.k ≠ 2) : ∃ q j : Nat, Near f p (tiny f p) R.natAbs q j ∧ (roundP f p 0 (decide (R < 0)) R.natAbs (tiny f p) false).1 = mkP (decide (R < 0)) q (tiny f p + j) ∧ fv (tiny f p) (roundP f p 0 (decide (R < 0)) R.natAbs (tiny f p) false).1 = sgn (decide (R < 0)) (q * 2 ^ j) := by
  obtain ⟨q, j, h1, h2, h3, h4, h5⟩ := roundP_near hf (Int.le_refl _) (show 0 < R.natAbs by omega) hk
  exact ⟨q, j, ⟨h1, h2, h3, h4⟩, h5, by rw [h5]; exact mkP_fv⟩
theorem float_number {f p : Int} (hf : fmOk f p = true) {L : List Flt} (hL : ∀ x ∈ L, x.k = 1 → tiny f p ≤ x.e) (hk : ((gatherP L).float f p 0).1.k = 0 ∨ ((gatherP L).float f p 0).1.k = 1) : (∀ x ∈ L, x.k ≠ 2 ∧ x.k ≠ 3) ∧ (svs (tiny f p) L = 0 → ∃ n, ((gatherP L).float f p 0).1 = ⟨0, n, 0, 0⟩) ∧ (svs (tiny f p) L ≠ 0 → ((gatherP L).float f p 0).1 = (roundP f p 0 (decide (svs (tiny f p) L < 0)) (svs (tiny f p) L).natAbs (tiny f p) false).1) := by
  have hG := gather_is (tiny_le hf).1 hL
  have hr := fun q => Nu.round_sv hG.low (b := ⟨decide (svs (tiny f p) L < 0), (svs (tiny f p) L).natAbs, tiny f p⟩) (Int.le_refl _) (by rw [hG.sum, sv_abs]) f p 0 q
  unfold Ga.float at hk ⊢
  have hn := hG.nan
  have hp := hG.plus
  have hm := hG.minus
  cases h3 : (gatherP L).nan with
  | true => rw [h3] at hk; simp at hk
  | false =>
    cases h2 : (gatherP L).plus with
    | true =>
      exfalso
      rw [h3, h2, hG.inv] at hk
      cases h1 : (gatherP L).minus with
      | true => rw [h1] at hk; simp at hk
      | false => rw [h1] at hk; simp at hk
    | false =>
      cases h1 : (gatherP L).minus with
      | true => rw [h3, h2, h1, hG.inv] at hk; simp at hk
      | false =>
        rw [h3] at hn
        rw [h2] at hp
        rw [h1] at hm
        refine ⟨fun x hx => ⟨fun e => ?_, fun e => ?_⟩, fun hS => ?_, fun hS => ?_⟩
        · have q1 := List.any_eq_false.1 hp.symm x hx
          have q2 := List.any_eq_false.1 hm.symm x hx
          simp [e] at q1 q2
          rw [q1] at q2; cases q2
        · have q1 := List.any_eq_false.1 hn.symm x hx
          simp [e] at q1
        · simp only [hG.inv, Bool.or_self, Bool.false_and, Bool.false_eq_true, if_false, hr]
          exact ⟨_, by rw [Nu.round, if_pos (by simp only []; omega)]⟩
        · simp only [hG.inv, Bool.or_self, Bool.false_and, Bool.false_eq_true, if_false, hr]
          rw [Nu.round, if_neg (by simp only []; omega)]
/-- A canonical float that is a number. -/
def Numb (x : Flt) : Prop := x.k = 1 ∨ (x.k = 0 ∧ x.e = 0 ∧ x.v = 0)
theorem Numb.sv {x : Flt} (h : Numb x) (z : Int) : Nu.sv z ⟨x.n, x.v, x.e⟩ = fv z x := by
  unfold fv
  rcases h with h | ⟨h1, h2, h3⟩
  · rw [if_pos h]
  · rw [if_neg (by omega), h3]; simp [Nu.sv]
theorem Numb.neg_sv {x : Flt} (h : Numb x) (z : Int) : Nu.sv z ⟨!x.n, x.v, x.e⟩ = -fv z x := by
  rw [← h.sv]; unfold Nu.sv; cases x.n <;> simp
theorem number_does {G : Gl} {k e : Int} {n : Bool} {m : List Nat} : Does Tryz.prog G 56 [Fl k n e m] (.v (.c (.b (decide (k = 1) || decide (k = 0))))) := by
  refine Does.of (nt := 11) Tryz.func56 rfl rfl rfl (by simp) ?_
  simp only [argTm, PV.ext, Ce.ext]
  refine Do.seqk fun _ k1_ => ?_
  refine Do.region [1] true ?_
  simp [go_sem]
  apply k1_; clear k1_
  refine Do.seqk fun _ k2_ => ?_
  refine Do.region [2] true ?_
  simp [go_sem]
  repeat (refine And.intro (by first | omega | (intros; omega) | (intros; exact And.intro (by assumption) (by omega)) | grind) ?_)
  apply k2_; clear k2_
  refine Do.ret ?_
  simp [endQ, rets, ret1, go_sem]
  repeat (refine And.intro (by first | omega | (intros; omega) | (intros; exact And.intro (by assumption) (by omega)) | grind) ?_)
  exact ret_b (by grind)
theorem Fine.ok {x : Flt} (h : Fine x) (hn : Numb x) (n : Bool) : (⟨n, x.v, x.e⟩ : Nu).Ok := by
  have h1 := h.v
  rcases hn with hk | ⟨hk, h2, h3⟩
  · have := canon_one h.can hk
    exact ⟨by simp only []; omega, by simp only []; omega⟩
  · exact ⟨by simp only []; omega, by simp only []; omega⟩
end Go.Proofs.YtdaecibpkhcllaaGreatDoor
/- The law SumPairs. No condition. -/
namespace Go.Proofs.YtdaecibpkhcllaaGreatDoor
set_option linter.unusedVariables false
set_option linter.unusedSimpArgs false
set_option maxHeartbeats 4000000
set_option maxRecDepth 10000
theorem held_low {f p : Int} {x : Flt} (h : (holdsP f p x).2 = true) (hk : (holdsP f p x).1.k = 1) : tiny f p ≤ (holdsP f p x).1.e := by
  unfold holdsP at *
  split at h
  · rename_i hc
    rw [if_pos hc] at hk
    rcases hc with hc | hc
    · rw [h] at hc; cases hc
    · exact absurd hk hc
  · rename_i hc
    rw [if_neg hc]
    simp only [Bool.and_eq_true, decide_eq_true_eq] at h
    exact h.1.2
section
variable {f p : Int} {x y : Fla}
end
end Go.Proofs.YtdaecibpkhcllaaGreatDoor
