/- The digits of a product, and of a quotient by one digit. No condition. A quotient by one digit; shifts of digits. No condition. Sums, differences, products of the reference's natural numbers. No condition. The integers of the reference. No condition. Sums and differences of the reference's integers. No condition. The lowest bits of a number; a real number of the reference and its exponent. No condition. A real number of the reference: an integer times a power of 2; its exponent. No condition. A real number in steps; a part rounded. No condition. -/
import Derived.Test.YthpkhmbjmnhmoaaGreatDoorMh
import Derived.Test.YthpkhmbjmnhmoaaGreatDoorMf
import Derived.Test.YthpkhmbjmnhmoaaGreatDoorMe
import Derived.KernelRfl
/- The digits of a product, and of a quotient by one digit. No condition. -/
namespace Go.Proofs.YthpkhmbjmnhmoaaGreatDoor
set_option linter.unusedVariables false
set_option linter.unusedSimpArgs false
variable {G : Gl}
set_option maxHeartbeats 2000000
/-- The product with the digits below i. -/
def tp (a b i : Nat) : Nat := a % 4294967296 ^ i * b
/-- What holds within the row i, at the digit t: the number Q stands in the result, c is carried. -/
def TimesI (a b k i t Q c : Nat) : Prop := Q + c * 4294967296 ^ (i + t) = tp a b i + dig a i * 4294967296 ^ i * (b % 4294967296 ^ t) ∧ Q < 4294967296 ^ (i + k) ∧ c < 4294967296
theorem TimesI.start {a b k i : Nat} (hb : b < 4294967296 ^ k) : TimesI a b k i 0 (tp a b i) 0 := by
  refine ⟨by simp [Nat.mod_one], ?_, by omega⟩
  unfold tp
  rw [Nat.pow_add]
  exact Nat.mul_lt_mul_of_lt_of_le (Nat.mod_lt _ (Hpos i)) (Nat.le_of_lt hb) (Hpos k)
theorem mul_lt_sq {x y : Nat} (hx : x < 4294967296) (hy : y < 4294967296) : x * y ≤ 18446744065119617025 := by
  have := Nat.mul_le_mul (show x ≤ 4294967295 by omega) (show y ≤ 4294967295 by omega)
  omega
theorem TimesI.next {a b j k i t Q c : Nat} (h : TimesI a b k i t Q c) (hi : i < j) (ht : t < k) : c + dig Q (i + t) + dig a i * dig b t < 18446744073709551616 ∧ ∃ Q', (dg Q (j + k)).set (i + t) ((c + dig Q (i + t) + dig a i * dig b t) % 4294967296) = dg Q' (j + k) ∧ TimesI a b k i (t + 1) Q' ((c + dig Q (i + t) + dig a i * dig b t) / 4294967296) := by
  obtain ⟨h1, h2, h3⟩ := h
  have l1 := dig_lt Q (i + t)
  have l2 := mul_lt_sq (dig_lt a i) (dig_lt b t)
  refine ⟨by omega, ?_⟩
  obtain ⟨Q', e1, e2, e3⟩ := @dg_set Q (j + k) (i + t) ((c + dig Q (i + t) + dig a i * dig b t) % 4294967296) (by omega) (Nat.mod_lt _ (by decide))
  refine ⟨Q', e1, ?_, e3 _ (by omega) h2, by omega⟩
  have hs := Nat.div_add_mod' (c + dig Q (i + t) + dig a i * dig b t) 4294967296
  have hm : (c + dig Q (i + t) + dig a i * dig b t) / 4294967296 * 4294967296 ^ (i + (t + 1)) = (c + dig Q (i + t) + dig a i * dig b t) / 4294967296 * 4294967296 * 4294967296 ^ (i + t) := by
    rw [show i + (t + 1) = i + t + 1 by omega, Nat.pow_succ, Nat.mul_comm (4294967296 ^ (i + t)), Nat.mul_assoc]
  rw [hm, low_step b t, Nat.mul_add, ← Nat.add_assoc, ← h1]
  have hd : dig a i * 4294967296 ^ i * (dig b t * 4294967296 ^ t) = dig a i * dig b t * 4294967296 ^ (i + t) := by
    rw [Nat.pow_add]; ac_rfl
  rw [hd]
  have hk : ∀ x y z : Nat, x / 4294967296 * 4294967296 + x % 4294967296 = x := fun x _ _ => Nat.div_add_mod' x _
  generalize 4294967296 ^ (i + t) = M at *
  generalize dig a i * dig b t = p at *
  generalize dig Q (i + t) = q at *
  have e4 : (c + q + p) / 4294967296 * 4294967296 * M + (c + q + p) % 4294967296 * M = (c + q + p) * M := by rw [← Nat.add_mul, hk _ 0 0]
  rw [Nat.add_mul, Nat.add_mul] at e4
  omega
theorem TimesI.out {a b j k i Q c : Nat} (h : TimesI a b k i k Q c) (hb : b < 4294967296 ^ k) (hi : i < j) : (dg Q (j + k)).set (i + k) c = dg (tp a b (i + 1)) (j + k) := by
  obtain ⟨h1, h2, h3⟩ := h
  obtain ⟨Q', e1, e2, _⟩ := @dg_set Q (j + k) (i + k) c (by omega) h3
  rw [dig_none h2 (Nat.le_refl _), Nat.zero_mul, Nat.add_zero, h1, Nat.mod_eq_of_lt hb] at e2
  rw [e1, e2]
  unfold tp
  rw [low_step a i, Nat.add_mul]
theorem tp_zero (a b : Nat) : tp a b 0 = 0 := by simp [tp, Nat.mod_one]
theorem tp_end {a b j : Nat} (ha : a < 4294967296 ^ j) : tp a b j = a * b := by rw [tp, Nat.mod_eq_of_lt ha]
theorem Times_does {a b j k : Nat} (ha : a < 4294967296 ^ j) (hb : b < 4294967296 ^ k) (hj : j ≤ 4294967296) (hk : k ≤ 4294967296) : Does Tryz.prog G 101 [Wd (dg a j), Wd (dg b k)] (.v (Wn (dg (a * b) (j + k)))) := by
  have hend := @tp_end a b j ha
  have hst := fun i => @TimesI.start a b k i hb
  have hout := fun i Q c (h : TimesI a b k i k Q c) hi => @TimesI.out a b j k i Q c h hb hi
  clear ha hb
  refine Does.of (nt := 62) Tryz.func101 rfl rfl rfl (by simp) ?_
  simp only [argTm, PV.ext, Ce.ext]
  refine Do.seqk fun _ k1_ => ?_
  refine Do.region [0,1] true ?_
  simp [go_sem, -List.reduceReplicate]
  apply k1_; clear k1_
  refine Do.seqk fun _ k2_ => ?_
  refine Do.region [0,1,5] true ?_
  simp [go_sem, -List.reduceReplicate]
  repeat (refine And.intro (by first | omega | (intros; omega) | (intros; exact And.intro (by assumption) (by omega)) | grind) ?_)
  apply k2_; clear k2_
  refine Do.seqk fun _ k3_ => ?_
  refine Do.seqk fun _ k4_ => ?_
  refine Do.region [0,1,5,6] true ?_
  simp [go_sem, -List.reduceReplicate]
  apply k4_; clear k4_
  refine Do.block ?_
  rw [show ((j : Int) + k).toNat = j + k by omega, dg_zero]
  refine Do.loopF [0,1,5,6] (fun (i : Nat) => [(6, .int .i64 i)]) (fun (i : Nat) => [(105, .wr (dg (tp a b i) (j + k)))]) (fun (i : Nat) => i ≤ j) (fun (i : Nat) => j - i) (0) (fun _ => by first | (simp [go_sem, mixS]; done) | (simp [go_sem, mixS]; rfl)) (St.le_of (by simp [keep, tp_zero]) (by simp [keep, tp_zero])) (Nat.zero_le _) ?_
  intro i hi
  refine Do.seqk fun _ k5_ => ?_
  refine Do.seqk fun _ k6_ => ?_
  refine Do.region [0,1,5,6,18] true ?_
  simp [go_sem, -List.reduceReplicate]
  repeat (refine And.intro (by first | omega | (intros; omega) | (intros; exact And.intro (by assumption) (by omega)) | grind) ?_)
  apply k6_; clear k6_
  refine Do.cond [0,1,5,6] rfl (fun h => ?_) (fun h => ?_) <;> simp [go_sem, -List.reduceReplicate] at h ⊢
  · refine Do.skip ?_
    simp [go_sem]
    apply k5_; clear k5_
    refine Do.seqk fun _ k7_ => ?_
    refine Do.block ?_
    refine Do.seqk fun _ k8_ => ?_
    refine Do.region [0,1,5,6,7] true ?_
    simp [go_sem, -List.reduceReplicate]
    apply k8_; clear k8_
    refine Do.seqk fun _ k9_ => ?_
    refine Do.seqk fun _ k10_ => ?_
    refine Do.region [0,1,5,6,7,8] true ?_
    simp [go_sem, -List.reduceReplicate]
    apply k10_; clear k10_
    refine Do.block ?_
    refine Do.loopF [0,1,5,6,7,8] (fun (s : Nat × Nat × Nat) => [(7, .v (.c (.n s.2.2))), (8, .int .i64 s.1)]) (fun (s : Nat × Nat × Nat) => [(105, .wr (dg s.2.1 (j + k)))]) (fun (s : Nat × Nat × Nat) => s.1 ≤ k ∧ TimesI a b k i s.1 s.2.1 s.2.2) (fun (s : Nat × Nat × Nat) => k - s.1) ((0, tp a b i, 0)) (fun _ => by first | (simp [go_sem, mixS]; done) | (simp [go_sem, mixS]; rfl)) (St.le_of (by first | rfl | simp [keep]) (by first | rfl | simp [keep])) (⟨Nat.zero_le _, hst i⟩) ?_
    rintro ⟨t, Q, c⟩ ⟨ht, hI⟩
    simp only at ht hI
    refine Do.seqk fun _ k11_ => ?_
    refine Do.seqk fun _ k12_ => ?_
    refine Do.region [0,1,5,6,7,8,24] true ?_
    simp [go_sem, -List.reduceReplicate]
    repeat (refine And.intro (by first | omega | (intros; omega) | (intros; exact And.intro (by assumption) (by omega)) | grind) ?_)
    apply k12_; clear k12_
    refine Do.cond [0,1,5,6,7,8] rfl (fun h2 => ?_) (fun h2 => ?_) <;> simp [go_sem, -List.reduceReplicate] at h2 ⊢
    · obtain ⟨hb1, Q', e1, hI'⟩ := hI.next h h2
      have g1 := @dg_dig (j + k) Q (i + t) (by omega)
      have g2 := @dg_dig j a i h
      have g3 := @dg_dig k b t h2
      have l1 := dig_lt Q (i + t)
      have l2 := mul_lt_sq (dig_lt a i) (dig_lt b t)
      have hc := hI.2.2
      have b1 : c + dig Q (i + t) + dig a i * dig b t < M64 := hb1
      have b2 : c + dig Q (i + t) < M64 := by unfold M64; omega
      have b3 : dig a i * dig b t < M64 := by unfold M64; omega
      refine Do.skip ?_
      simp [go_sem]
      apply k11_; clear k11_
      refine Do.seqk fun _ k13_ => ?_
      refine Do.block ?_
      refine Do.seqk fun _ k14_ => ?_
      refine Do.draw [0,1,5,6,7,8] true (by kernel_rfl) ?_
      simp [go_sem, g1, g2, g3, b1, b2, b3, show ((i : Int) + t).toNat = i + t by omega]
      repeat (refine And.intro (by first | omega | (intros; omega) | (intros; exact And.intro (by assumption) (by omega)) | kernel_rfl | grind) ?_)
      try (refine And.intro (by kernel_rfl) ?_)
      apply k14_; clear k14_
      refine Do.seqk fun _ k15_ => ?_
      refine Do.region [0,1,5,6,7,8] true ?_
      simp [go_sem, g1, g2, g3, b1, b2, b3, show ((i : Int) + t).toNat = i + t by omega]
      repeat (refine And.intro (by first | omega | (intros; omega) | (intros; exact And.intro (by assumption) (by omega)) | grind) ?_)
      apply k15_; clear k15_
      refine Do.region [0,1,5,6,7,8] true ?_
      simp [go_sem, g1, g2, g3, b1, b2, b3, show ((i : Int) + t).toNat = i + t by omega]
      repeat (refine And.intro (by first | omega | (intros; omega) | (intros; exact And.intro (by assumption) (by omega)) | grind) ?_)
      apply k13_; clear k13_
      refine Do.region [0,1,5,6,7,8] true ?_
      simp [go_sem, g1, g2, g3, b1, b2, b3, show ((i : Int) + t).toNat = i + t by omega]
      repeat (refine And.intro (by first | omega | (intros; omega) | (intros; exact And.intro (by assumption) (by omega)) | grind) ?_)
      refine ⟨(t + 1, Q', (c + dig Q (i + t) + dig a i * dig b t) / 4294967296), St.le_of rfl (by simp [keep, e1]), ⟨by omega, hI'⟩, by simp; omega⟩
    · obtain rfl : t = k := by omega
      have ho := hout i Q c hI h
      refine Do.exit ?_
      simp [go_sem]
      apply k9_; clear k9_
      refine Do.region [0,1,5,6] true ?_
      simp [go_sem, show ((i : Int) + t).toNat = i + t by omega]
      repeat (refine And.intro (by first | omega | (intros; omega) | (intros; exact And.intro (by assumption) (by omega)) | grind) ?_)
      apply k7_; clear k7_
      refine Do.region [0,1,5,6] true ?_
      simp [go_sem, show ((i : Int) + t).toNat = i + t by omega]
      repeat (refine And.intro (by first | omega | (intros; omega) | (intros; exact And.intro (by assumption) (by omega)) | grind) ?_)
      refine ⟨i + 1, St.le_of rfl (by simp [keep, ho]), by omega, by simp; omega⟩
  · refine Do.exit ?_
    simp [go_sem]
    apply k3_; clear k3_
    refine Do.seqk fun _ k16_ => ?_
    refine Do.region [4] true ?_
    simp [go_sem, -List.reduceReplicate]
    apply k16_; clear k16_
    refine Do.ret ?_
    simp [endQ, rets, ret1, go_sem, -List.reduceReplicate]
    repeat (refine And.intro (by first | omega | (intros; omega) | (intros; exact And.intro (by assumption) (by omega)) | grind) ?_)
    obtain rfl : i = j := by omega
    rw [hend]
    exact TLe.refl _
end Go.Proofs.YthpkhmbjmnhmoaaGreatDoor
/- A quotient by one digit; shifts of digits. No condition. -/
namespace Go.Proofs.YthpkhmbjmnhmoaaGreatDoor
set_option linter.unusedVariables false
set_option linter.unusedSimpArgs false
variable {G : Gl}
set_option maxHeartbeats 2000000
set_option maxRecDepth 10000
/-- The quotient of the digits from i on, at its place. -/
def qf (a w i : Nat) : Nat := hgh a i / w * 4294967296 ^ i
theorem qf_zero (a w : Nat) : qf a w 0 = a / w := by simp [qf, hi_zero]
theorem qf_step {a w j i : Nat} (h : i < j) (hw : 0 < w) (hw' : w < 4294967296) : hgh a (i + 1) % w * 4294967296 + dig a i < 18446744073709551616 ∧ (dg (qf a w (i + 1)) j).set i ((hgh a (i + 1) % w * 4294967296 + dig a i) / w) = dg (qf a w i) j ∧ (hgh a (i + 1) % w * 4294967296 + dig a i) % w = hgh a i % w := by
  have l1 := dig_lt a i
  have l2 := Nat.mod_lt (hgh a (i + 1)) hw
  have e0 := Nat.div_add_mod (hgh a (i + 1)) w
  have e1 := hi_step a i
  have l3 : (hgh a (i + 1) % w * 4294967296 + dig a i) / w < 4294967296 := by
    rw [Nat.div_lt_iff_lt_mul hw]
    have : (hgh a (i + 1) % w + 1) * 4294967296 ≤ w * 4294967296 := Nat.mul_le_mul_right _ l2
    omega
  obtain ⟨Q', e2, e3, _⟩ := @dg_set (qf a w (i + 1)) j i _ h l3
  have e4 : hgh a i = hgh a (i + 1) % w * 4294967296 + dig a i + w * (hgh a (i + 1) / w * 4294967296) := by
    rw [e1]
    conv => lhs; rw [← e0]
    rw [Nat.add_mul, Nat.mul_assoc]; omega
  refine ⟨by omega, ?_, by rw [e4, Nat.add_mul_mod_self_left]⟩
  rw [e2]
  congr 1
  have e5 : dig (qf a w (i + 1)) i = 0 := by
    rw [qf, Nat.pow_succ, ← Nat.mul_assoc, Nat.mul_right_comm]
    unfold dig
    rw [Nat.mul_div_cancel _ (Hpos i), Nat.mul_mod_left]
  rw [e5, Nat.zero_mul, Nat.add_zero] at e3
  rw [e3, qf, qf, e4, Nat.add_mul_div_left _ _ hw, Nat.add_mul, Nat.pow_succ]
  have : hgh a (i + 1) / w * (4294967296 ^ i * 4294967296) = hgh a (i + 1) / w * 4294967296 * 4294967296 ^ i := by ac_rfl
  omega
theorem qf_top {a w j : Nat} (ha : a < 4294967296 ^ j) : qf a w j = 0 := by rw [qf, hi_none ha (Nat.le_refl _)]; simp
theorem one_does {a w j : Nat} (ha : a < 4294967296 ^ j) (hw : 0 < w) (hw' : w < 4294967296) (hj : j ≤ 4294967296) : Does Tryz.prog G 170 [Wd (dg a j), .c (.n w)] (.t [Wn (dg (a / w) j), Wn [a % w]]) := by
  have htop := @qf_top a w j ha
  have hz := @hi_none a j ha j (Nat.le_refl _)
  have h00 := qf_zero a w
  have h01 := hi_zero a
  have hst := fun i (h : i < j) => @qf_step a w j i h hw hw'
  clear ha
  refine Does.of (nt := 38) Tryz.func170 rfl rfl rfl (by simp) ?_
  simp only [argTm, PV.ext, Ce.ext]
  refine Do.seqk fun _ k1_ => ?_
  refine Do.region [0,1] true ?_
  simp [go_sem, -List.reduceReplicate]
  apply k1_; clear k1_
  refine Do.seqk fun _ k2_ => ?_
  refine Do.region [0,1,6] true ?_
  simp [go_sem, -List.reduceReplicate]
  repeat (refine And.intro (by first | omega | (intros; omega) | (intros; exact And.intro (by assumption) (by omega)) | grind) ?_)
  apply k2_; clear k2_
  refine Do.seqk fun _ k3_ => ?_
  refine Do.region [0,1,6,7] true ?_
  simp [go_sem, -List.reduceReplicate]
  apply k3_; clear k3_
  refine Do.seqk fun _ k4_ => ?_
  refine Do.seqk fun _ k5_ => ?_
  refine Do.region [0,1,6,7,8] true ?_
  simp [go_sem, -List.reduceReplicate]
  repeat (refine And.intro (by first | omega | (intros; omega) | (intros; exact And.intro (by assumption) (by omega)) | grind) ?_)
  apply k5_; clear k5_
  refine Do.block ?_
  rw [dg_zero]
  refine Do.loopF [0,1,6,7,8] (fun (i : Nat) => [(7, .v (.c (.n (hgh a i % w)))), (8, .int .i64 ((i : Int) - 1))]) (fun (i : Nat) => [(102, .wr (dg (qf a w i) j))]) (fun (i : Nat) => i ≤ j) (fun (i : Nat) => i) (j) (fun _ => by first | (simp [go_sem, mixS]; done) | (simp [go_sem, mixS]; rfl)) (St.le_of (by simp [keep, htop, hz]) (by simp [keep, htop, hz])) (Nat.le_refl _) ?_
  intro i hi
  refine Do.seqk fun _ k6_ => ?_
  refine Do.seqk fun _ k7_ => ?_
  refine Do.region [0,1,6,7,8,16] true ?_
  simp [go_sem, -List.reduceReplicate]
  apply k7_; clear k7_
  refine Do.cond [0,1,6,7,8] rfl (fun h => ?_) (fun h => ?_) <;> simp [go_sem, -List.reduceReplicate] at h ⊢
  · obtain ⟨i, rfl⟩ : ∃ x, i = x + 1 := ⟨i - 1, by omega⟩
    rw [show ((i + 1 : Nat) : Int) - 1 = i by omega]
    have hs := hst i (by omega)
    have g1 := @dg_dig j a i (by omega)
    have b1 : hgh a (i + 1) % w * 4294967296 + dig a i < M64 := hs.1
    have b2 : hgh a (i + 1) % w * 4294967296 < M64 := Nat.lt_of_le_of_lt (Nat.le_add_right _ _) b1
    refine Do.skip ?_
    simp [go_sem]
    apply k6_; clear k6_
    refine Do.seqk fun _ k8_ => ?_
    refine Do.block ?_
    refine Do.seqk fun _ k9_ => ?_
    refine Do.region [0,1,6,7,8] true ?_
    simp [go_sem, g1, b1, b2, Nat.ne_of_gt hw]
    repeat (refine And.intro (by first | omega | (intros; omega) | (intros; exact And.intro (by assumption) (by omega)) | grind) ?_)
    apply k9_; clear k9_
    refine Do.seqk fun _ k10_ => ?_
    refine Do.region [0,1,6,7,8] true ?_
    simp [go_sem, g1, b1, b2, Nat.ne_of_gt hw]
    repeat (refine And.intro (by first | omega | (intros; omega) | (intros; exact And.intro (by assumption) (by omega)) | grind) ?_)
    apply k10_; clear k10_
    refine Do.region [0,1,6,7,8] true ?_
    simp [go_sem, g1, b1, b2, Nat.ne_of_gt hw]
    repeat (refine And.intro (by first | omega | (intros; omega) | (intros; exact And.intro (by assumption) (by omega)) | grind) ?_)
    apply k8_; clear k8_
    refine Do.region [0,1,6,7,8] true ?_
    simp [go_sem, g1, b1, b2, Nat.ne_of_gt hw]
    repeat (refine And.intro (by first | omega | (intros; omega) | (intros; exact And.intro (by assumption) (by omega)) | grind) ?_)
    refine ⟨i, St.le_of (by simp [keep, hs.2.2]) (by simp [keep, hs.2.1]), by omega, by simp⟩
  · refine Do.exit ?_
    simp [go_sem]
    apply k4_; clear k4_
    refine Do.seqk fun _ k11_ => ?_
    refine Do.region [4,5] true ?_
    simp [go_sem, -List.reduceReplicate]
    apply k11_; clear k11_
    refine Do.ret ?_
    simp [endQ, rets, ret1, go_sem, -List.reduceReplicate]
    repeat (refine And.intro (by first | omega | (intros; omega) | (intros; exact And.intro (by assumption) (by omega)) | grind) ?_)
    obtain rfl : i = 0 := by omega
    rw [h00, h01]
    exact TLe.refl _
theorem Left01_does {x : List Nat} {s : Nat} (hx : x.length ≤ 1073741823) (hw : Ws x) (hs : s < 64) : ∃ row hig, Does Tryz.prog G 105 [Wd x, .c (.i .i64 s)] (.t [Wn row, .c (.n hig)]) ∧ Ws row ∧ hig < 18446744073709551616 ∧ row.length = x.length ∧ val row + 18446744073709551616 ^ x.length * hig = val x * 2 ^ s := by
  have hv := val_lt hw
  have h2 : 2 ^ s < 18446744073709551616 := Nat.lt_of_lt_of_le (Nat.pow_lt_pow_right (by decide) hs) (by decide)
  have hN : val x * 2 ^ s < 18446744073709551616 ^ (x.length + 1) := by
    rw [Nat.pow_succ]
    exact Nat.mul_lt_mul_of_lt_of_le hv (Nat.le_of_lt h2) (by decide)
  have hT := @Times_does G (val x) (2 ^ s) (2 * x.length) 2 (by rwa [← HB]) (show 2 ^ s < 4294967296 ^ 2 from h2) (by omega) (by omega)
  have hC := @Cut_does G (val x * 2 ^ s) (2 * x.length + 2) x.length (by omega) (by omega) (by rw [show 2 * x.length + 2 = 2 * (x.length + 1) by omega, ← HB]; exact hN)
  have hD := @Digits_does G x (by omega) hw
  have hW := @Word_does G (2 ^ s) h2
  refine ⟨wds (val x * 2 ^ s) x.length, val x * 2 ^ s / 18446744073709551616 ^ x.length % 18446744073709551616, ?_, wds_ws _ _, Nat.mod_lt _ (by decide), wds_len _ _, ?_⟩
  · generalize val x * 2 ^ s / 18446744073709551616 ^ x.length % 18446744073709551616 = z at *
    generalize val x * 2 ^ s = N at *
    clear hN hv
    refine Does.of (nt := 17) Tryz.func105 rfl rfl rfl (by simp) ?_
    simp only [argTm, PV.ext, Ce.ext]
    refine Do.seqk fun _ k1_ => ?_
    refine Do.region [0,1] true ?_
    simp [go_sem, show 2 ^ s % M64 = 2 ^ s from Nat.mod_eq_of_lt h2]
    apply k1_; clear k1_
    refine Do.seqk fun _ k2_ => ?_
    refine Do.draw [4,5] true (by kernel_rfl) ?_
    simp [go_sem, show 2 ^ s % M64 = 2 ^ s from Nat.mod_eq_of_lt h2]
    refine DoLD.call true 102 rfl rfl rfl rfl (by first | exact trivial | omega | (simp; done) | (simp; omega)) (hD) rfl (by first | exact .inl rfl | exact .inr rfl) rfl ?_
    simp [go_sem, show 2 ^ s % M64 = 2 ^ s from Nat.mod_eq_of_lt h2]
    repeat (refine And.intro (by first | omega | (intros; omega) | (intros; exact And.intro (by assumption) (by omega)) | kernel_rfl | grind) ?_)
    refine DoLD.call true 105 rfl rfl rfl rfl (by first | exact trivial | omega | (simp; done) | (simp; omega)) (hW) rfl (by first | exact .inl rfl | exact .inr rfl) rfl ?_
    simp [go_sem, show 2 ^ s % M64 = 2 ^ s from Nat.mod_eq_of_lt h2]
    refine DoLD.call true 106 rfl rfl rfl rfl (by first | exact trivial | omega | (simp; done) | (simp; omega)) (hT) rfl (by first | exact .inl rfl | exact .inr rfl) rfl ?_
    simp [go_sem, show 2 ^ s % M64 = 2 ^ s from Nat.mod_eq_of_lt h2]
    repeat (refine And.intro (by first | omega | (intros; omega) | (intros; exact And.intro (by assumption) (by omega)) | kernel_rfl | grind) ?_)
    refine DoLD.call true 109 rfl rfl rfl rfl (by first | exact trivial | omega | (simp; done) | (simp; omega)) (hC) rfl (by first | exact .inl rfl | exact .inr rfl) rfl ?_
    simp [go_sem, show 2 ^ s % M64 = 2 ^ s from Nat.mod_eq_of_lt h2]
    try (refine And.intro (by kernel_rfl) ?_)
    apply k2_; clear k2_
    refine Do.ret ?_
    simp [endQ, rets, ret1, go_sem, show 2 ^ s % M64 = 2 ^ s from Nat.mod_eq_of_lt h2]
    repeat (refine And.intro (by first | omega | (intros; omega) | (intros; exact And.intro (by assumption) (by omega)) | grind) ?_)
    exact TLe.refl _
  · rw [val_wds, Nat.add_comm]
    have := Nat.div_add_mod (val x * 2 ^ s) (18446744073709551616 ^ x.length)
    rw [Nat.mod_eq_of_lt (show val x * 2 ^ s / 18446744073709551616 ^ x.length < 18446744073709551616 by
      rw [Nat.div_lt_iff_lt_mul (Nat.pow_pos (by decide))]; rw [Nat.pow_succ, Nat.mul_comm (18446744073709551616 ^ _)] at hN; exact hN)]
    exact this
theorem RLeft_does {x : List Nat} {s : Nat} (hx : x.length ≤ 536870912) (hw : Ws x) (hs : s ≤ 4294967296) : Does Tryz.prog G 58 [Wd x, .c (.i .i64 s)] (.v (Wn (nat (val x * 2 ^ s)))) := by
  obtain ⟨row, hig, hD, h1, h2, h3, h4⟩ := @Left01_does G x (s % 64) (by omega) hw (Nat.mod_lt _ (by decide))
  have hT := @RTrim_does G (List.replicate (s / 64) 0 ++ row ++ [hig]) (by simp; omega) (by
    intro w hw
    simp only [List.mem_append, List.mem_replicate, List.mem_singleton] at hw
    rcases hw with (hw | hw) | hw
    · omega
    · exact h1 w hw
    · omega)
  have hv : val (List.replicate (s / 64) 0 ++ row ++ [hig]) = val x * 2 ^ s := by
    rw [List.append_assoc, val_append, val_zeros, val_append, h3, List.length_replicate, Nat.zero_add, show val [hig] = hig by simp [val], h4, B64_pow, Nat.mul_left_comm, ← Nat.pow_add, show 64 * (s / 64) + s % 64 = s by omega]
  rw [hv] at hT
  generalize val x * 2 ^ s = N at *
  rw [List.append_assoc] at hT
  refine Does.of (nt := 26) Tryz.func58 rfl rfl rfl (by simp) ?_
  simp only [argTm, PV.ext, Ce.ext]
  refine Do.seqk fun _ k1_ => ?_
  refine Do.region [0,1] true ?_
  simp [go_sem, -List.reduceReplicate, show ((s : Int) / 64).toNat = s / 64 by omega]
  apply k1_; clear k1_
  refine Do.seqk fun _ k2_ => ?_
  refine Do.region [1,5,6] true ?_
  simp [go_sem, -List.reduceReplicate, show ((s : Int) / 64).toNat = s / 64 by omega]
  repeat (refine And.intro (by first | omega | (intros; omega) | (intros; exact And.intro (by assumption) (by omega)) | grind) ?_)
  refine DoL.call true 104 rfl rfl rfl rfl (by first | exact trivial | omega | (simp; done) | (simp; omega)) (hD) rfl (by first | exact .inl rfl | exact .inr rfl) rfl ?_
  simp [go_sem, -List.reduceReplicate, show ((s : Int) / 64).toNat = s / 64 by omega]
  apply k2_; clear k2_
  refine Do.seqk fun _ k3_ => ?_
  refine Do.region [5,6,7] true ?_
  simp [go_sem, -List.reduceReplicate, show ((s : Int) / 64).toNat = s / 64 by omega]
  repeat (refine And.intro (by first | omega | (intros; omega) | (intros; exact And.intro (by assumption) (by omega)) | grind) ?_)
  apply k3_; clear k3_
  refine Do.seqk fun _ k4_ => ?_
  refine Do.region [6,7] true ?_
  simp [go_sem, -List.reduceReplicate, show ((s : Int) / 64).toNat = s / 64 by omega]
  repeat (refine And.intro (by first | omega | (intros; omega) | (intros; exact And.intro (by assumption) (by omega)) | grind) ?_)
  apply k4_; clear k4_
  refine Do.seqk fun _ k5_ => ?_
  refine Do.region [4] true ?_
  simp [go_sem, -List.reduceReplicate, show ((s : Int) / 64).toNat = s / 64 by omega]
  repeat (refine And.intro (by first | omega | (intros; omega) | (intros; exact And.intro (by assumption) (by omega)) | grind) ?_)
  refine DoL.frz true 404 202 rfl ?_
  simp [go_sem]
  refine DoL.call true 405 rfl rfl rfl rfl (by first | exact trivial | omega | (simp; done) | (simp; omega)) (hT) rfl (by first | exact .inl rfl | exact .inr rfl) rfl ?_
  simp [go_sem, -List.reduceReplicate, show ((s : Int) / 64).toNat = s / 64 by omega]
  apply k5_; clear k5_
  refine Do.ret ?_
  simp [endQ, rets, ret1, go_sem, -List.reduceReplicate, show ((s : Int) / 64).toNat = s / 64 by omega]
  repeat (refine And.intro (by first | omega | (intros; omega) | (intros; exact And.intro (by assumption) (by omega)) | grind) ?_)
  exact TLe.refl _
end Go.Proofs.YthpkhmbjmnhmoaaGreatDoor
/- Sums, differences, products of the reference's natural numbers. No condition. -/
namespace Go.Proofs.YthpkhmbjmnhmoaaGreatDoor
set_option linter.unusedVariables false
set_option linter.unusedSimpArgs false
variable {G : Gl}
set_option maxHeartbeats 2000000
theorem ws_dg {x : List Nat} (hw : Ws x) : val x < 4294967296 ^ (2 * x.length) := by rw [← HB]; exact val_lt hw
theorem sum_lt {a b j k : Nat} (ha : a < 4294967296 ^ j) (hb : b < 4294967296 ^ k) : a + b < 4294967296 ^ ((if j < k then k else j) + 1) := by
  have h1 : a < 4294967296 ^ (if j < k then k else j) := Nat.lt_of_lt_of_le ha (Nat.pow_le_pow_right (by decide) (by split <;> omega))
  have h2 : b < 4294967296 ^ (if j < k then k else j) := Nat.lt_of_lt_of_le hb (Nat.pow_le_pow_right (by decide) (by split <;> omega))
  rw [Nat.pow_succ]; omega
theorem mul_lt {a b j k : Nat} (ha : a < 4294967296 ^ j) (hb : b < 4294967296 ^ k) : a * b < 4294967296 ^ (j + k) := by
  rw [Nat.pow_add]; exact Nat.mul_lt_mul_of_lt_of_le ha (Nat.le_of_lt hb) (Hpos k)
theorem RAdd_does {x y : List Nat} (hx : x.length ≤ 536870912) (wx : Ws x) (hy : y.length ≤ 536870912) (wy : Ws y) : Does Tryz.prog G 139 [Wd x, Wd y] (.v (Wn (nat (val x + val y)))) := by
  have hP := @Plus_r_does G (val x) (val y) (2 * x.length) (2 * y.length) _ (ws_dg wx) (ws_dg wy) (by omega) (by omega) rfl
  have hn := @rnat_does G (val x + val y) ((if 2 * x.length < 2 * y.length then 2 * y.length else 2 * x.length) + 1) (by split <;> omega) (sum_lt (ws_dg wx) (ws_dg wy))
  generalize (if 2 * x.length < 2 * y.length then 2 * y.length else 2 * x.length) + 1 = m at *
  generalize val x + val y = N at *
  have hA := @Digits_does G x (by omega) wx
  have hB := @Digits_does G y (by omega) wy
  refine Does.of (nt := 11) Tryz.func139 rfl rfl rfl (by simp) ?_
  simp only [argTm, PV.ext, Ce.ext]
  refine Do.seqk fun _ k1_ => ?_
  refine Do.region [0,1] true ?_
  simp [go_sem]
  apply k1_; clear k1_
  refine Do.seqk fun _ k2_ => ?_
  refine Do.region [4] true ?_
  simp [go_sem]
  refine DoL.call true 102 rfl rfl rfl rfl (by first | exact trivial | omega | (simp; done) | (simp; omega)) (hA) rfl (by first | exact .inl rfl | exact .inr rfl) rfl ?_
  simp [go_sem]
  refine DoL.call true 104 rfl rfl rfl rfl (by first | exact trivial | omega | (simp; done) | (simp; omega)) (hB) rfl (by first | exact .inl rfl | exact .inr rfl) rfl ?_
  simp [go_sem]
  refine DoL.call true 105 rfl rfl rfl rfl (by first | exact trivial | omega | (simp; done) | (simp; omega)) (hP) rfl (by first | exact .inl rfl | exact .inr rfl) rfl ?_
  simp [go_sem]
  refine DoL.call true 106 rfl rfl rfl rfl (by first | exact trivial | omega | (simp; done) | (simp; omega)) (hn) rfl (by first | exact .inl rfl | exact .inr rfl) rfl ?_
  simp [go_sem]
  apply k2_; clear k2_
  refine Do.ret ?_
  simp [endQ, rets, ret1, go_sem]
  repeat (refine And.intro (by first | omega | (intros; omega) | (intros; exact And.intro (by assumption) (by omega)) | grind) ?_)
  exact TLe.refl _
theorem RSub_does {x y : List Nat} (hx : x.length ≤ 536870912) (wx : Ws x) (hy : y.length ≤ 536870912) (wy : Ws y) (h : val y ≤ val x) : Does Tryz.prog G 155 [Wd x, Wd y] (.v (Wn (nat (val x - val y)))) := by
  have l1 := ws_dg wx
  obtain ⟨d, hd, he⟩ := less_ex l1 (Nat.lt_of_le_of_lt h l1)
  have he := he h
  subst he
  have hu : decide (val x < val y) = false := by simp; omega
  rw [hu] at hd
  have hl : (nat (val y)).length ≤ y.length := nat_len_le wy (Nat.le_refl _)
  have hb := @Digits_does G (nat (val y)) (by omega) (nat_ws _)
  rw [val_nat] at hb
  have hM := @Minus_r_does G (val x) (val y) (val x - val y) (2 * x.length) (2 * (nat (val y)).length) false (by have := ws_dg (nat_ws (val y)); rwa [val_nat] at this) hd (by omega)
  have hn := @rnat_does G (val x - val y) (2 * x.length) (by omega) hd.2.2.2
  have hA := @Digits_does G x (by omega) wx
  have hT := @RTrim_does G y (by omega) wy
  clear hd h hu l1
  generalize 2 * (nat (val y)).length = m at *
  generalize val x - val y = N at *
  refine Does.of (nt := 18) Tryz.func155 rfl rfl rfl (by simp) ?_
  simp only [argTm, PV.ext, Ce.ext]
  refine Do.seqk fun _ k1_ => ?_
  refine Do.region [0,1] true ?_
  simp [go_sem]
  apply k1_; clear k1_
  refine Do.seqk fun _ k2_ => ?_
  refine Do.region [5] true ?_
  simp [go_sem]
  refine DoL.call true 102 rfl rfl rfl rfl (by first | exact trivial | omega | (simp; done) | (simp; omega)) (hA) rfl (by first | exact .inl rfl | exact .inr rfl) rfl ?_
  simp [go_sem]
  refine DoL.call true 104 rfl rfl rfl rfl (by first | exact trivial | omega | (simp; done) | (simp; omega)) (hT) rfl (by first | exact .inl rfl | exact .inr rfl) rfl ?_
  simp [go_sem]
  refine DoL.call true 105 rfl rfl rfl rfl (by first | exact trivial | omega | (simp; done) | (simp; omega)) (hb) rfl (by first | exact .inl rfl | exact .inr rfl) rfl ?_
  simp [go_sem]
  refine DoL.call true 106 rfl rfl rfl rfl (by first | exact trivial | omega | (simp; done) | (simp; omega)) (hM) rfl (by first | exact .inl rfl | exact .inr rfl) rfl ?_
  simp [go_sem]
  apply k2_; clear k2_
  refine Do.seqk fun _ k3_ => ?_
  refine Do.region [4] true ?_
  simp [go_sem]
  refine DoL.call true 202 rfl rfl rfl rfl (by first | exact trivial | omega | (simp; done) | (simp; omega)) (hn) rfl (by first | exact .inl rfl | exact .inr rfl) rfl ?_
  simp [go_sem]
  apply k3_; clear k3_
  refine Do.ret ?_
  simp [endQ, rets, ret1, go_sem]
  repeat (refine And.intro (by first | omega | (intros; omega) | (intros; exact And.intro (by assumption) (by omega)) | grind) ?_)
  exact TLe.refl _
theorem RMul_does {x y : List Nat} (hx : x.length ≤ 536870912) (wx : Ws x) (hy : y.length ≤ 536870912) (wy : Ws y) : Does Tryz.prog G 55 [Wd x, Wd y] (.v (Wn (nat (val x * val y)))) := by
  have hP := @Times_does G (val x) (val y) (2 * x.length) (2 * y.length) (ws_dg wx) (ws_dg wy) (by omega) (by omega)
  have hn := @rnat_does G (val x * val y) (2 * x.length + 2 * y.length) (by omega) (mul_lt (ws_dg wx) (ws_dg wy))
  generalize val x * val y = N at *
  have hA := @Digits_does G x (by omega) wx
  have hB := @Digits_does G y (by omega) wy
  refine Does.of (nt := 11) Tryz.func55 rfl rfl rfl (by simp) ?_
  simp only [argTm, PV.ext, Ce.ext]
  refine Do.seqk fun _ k1_ => ?_
  refine Do.region [0,1] true ?_
  simp [go_sem]
  apply k1_; clear k1_
  refine Do.seqk fun _ k2_ => ?_
  refine Do.region [4] true ?_
  simp [go_sem]
  refine DoL.call true 102 rfl rfl rfl rfl (by first | exact trivial | omega | (simp; done) | (simp; omega)) (hA) rfl (by first | exact .inl rfl | exact .inr rfl) rfl ?_
  simp [go_sem]
  refine DoL.call true 104 rfl rfl rfl rfl (by first | exact trivial | omega | (simp; done) | (simp; omega)) (hB) rfl (by first | exact .inl rfl | exact .inr rfl) rfl ?_
  simp [go_sem]
  refine DoL.call true 105 rfl rfl rfl rfl (by first | exact trivial | omega | (simp; done) | (simp; omega)) (hP) rfl (by first | exact .inl rfl | exact .inr rfl) rfl ?_
  simp [go_sem]
  refine DoL.call true 106 rfl rfl rfl rfl (by first | exact trivial | omega | (simp; done) | (simp; omega)) (hn) rfl (by first | exact .inl rfl | exact .inr rfl) rfl ?_
  simp [go_sem]
  apply k2_; clear k2_
  refine Do.ret ?_
  simp [endQ, rets, ret1, go_sem]
  repeat (refine And.intro (by first | omega | (intros; omega) | (intros; exact And.intro (by assumption) (by omega)) | grind) ?_)
  exact TLe.refl _
theorem RCmp_does {x y : List Nat} (hx : x.length ≤ 536870912) (wx : Ws x) (hy : y.length ≤ 536870912) (wy : Ws y) : Does Tryz.prog G 143 [Wd x, Wd y] (.int .i64 (cmpP (val x) (val y))) := by
  have hP := @Compare_does G (val x) (val y) (2 * x.length) (2 * y.length) (ws_dg wx) (ws_dg wy) (by omega) (by omega)
  have hA := @Digits_does G x (by omega) wx
  have hB := @Digits_does G y (by omega) wy
  refine Does.of (nt := 10) Tryz.func143 rfl rfl rfl (by simp) ?_
  simp only [argTm, PV.ext, Ce.ext]
  refine Do.seqk fun _ k1_ => ?_
  refine Do.region [0,1] true ?_
  simp [go_sem]
  apply k1_; clear k1_
  refine Do.seqk fun _ k2_ => ?_
  refine Do.region [4] true ?_
  simp [go_sem]
  refine DoL.call true 102 rfl rfl rfl rfl (by first | exact trivial | omega | (simp; done) | (simp; omega)) (hA) rfl (by first | exact .inl rfl | exact .inr rfl) rfl ?_
  simp [go_sem]
  refine DoL.call true 104 rfl rfl rfl rfl (by first | exact trivial | omega | (simp; done) | (simp; omega)) (hB) rfl (by first | exact .inl rfl | exact .inr rfl) rfl ?_
  simp [go_sem]
  refine DoL.call true 105 rfl rfl rfl rfl (by first | exact trivial | omega | (simp; done) | (simp; omega)) (hP) rfl (by first | exact .inl rfl | exact .inr rfl) rfl ?_
  simp [go_sem]
  apply k2_; clear k2_
  refine Do.ret ?_
  simp [endQ, rets, ret1, go_sem]
  repeat (refine And.intro (by first | omega | (intros; omega) | (intros; exact And.intro (by assumption) (by omega)) | grind) ?_)
  exact TLe.refl _
theorem RWord_does {w : Nat} (hw : w < 18446744073709551616) : Does Tryz.prog G 59 [.c (.n w)] (.v (Wn (nat w))) := by
  have hn := @rnat_does G w 2 (by omega) (show w < 4294967296 ^ 2 from hw)
  refine Does.of (nt := 6) Tryz.func59 rfl rfl rfl (by simp) ?_
  simp only [argTm, PV.ext, Ce.ext]
  refine Do.seqk fun _ k1_ => ?_
  refine Do.region [0] true ?_
  simp [go_sem]
  apply k1_; clear k1_
  refine Do.seqk fun _ k2_ => ?_
  refine Do.region [2] true ?_
  simp [go_sem]
  refine DoL.call true 102 rfl rfl rfl rfl (by first | exact trivial | omega | (simp; done) | (simp; omega)) (Word_does hw) rfl (by first | exact .inl rfl | exact .inr rfl) rfl ?_
  simp [go_sem]
  refine DoL.call true 103 rfl rfl rfl rfl (by first | exact trivial | omega | (simp; done) | (simp; omega)) (hn) rfl (by first | exact .inl rfl | exact .inr rfl) rfl ?_
  simp [go_sem]
  apply k2_; clear k2_
  refine Do.ret ?_
  simp [endQ, rets, ret1, go_sem]
  repeat (refine And.intro (by first | omega | (intros; omega) | (intros; exact And.intro (by assumption) (by omega)) | grind) ?_)
  exact TLe.refl _
theorem Divide_one {a j : Nat} (ha : a < 4294967296 ^ j) (hj : j ≤ 4294967296) : Does Tryz.prog G 162 [Wd (dg a j), Wd [1, 0]] (.t [Wn (dg a j), Wn [0]]) := by
  have hS : Does Tryz.prog G 145 [Wd [1, 0]] (.v (Wd [1])) := @Short_does G 1 2 (by decide) (by decide)
  have ho := @one_does G a 1 j ha (by decide) (by decide) hj
  rw [Nat.div_one, Nat.mod_one] at ho
  refine Does.of (nt := 163) Tryz.func162 rfl rfl rfl (by simp) ?_
  simp only [argTm, PV.ext, Ce.ext]
  refine Do.seqk fun _ k1_ => ?_
  refine Do.region [0,1] true ?_
  simp [go_sem]
  apply k1_; clear k1_
  refine Do.seqk fun _ k2_ => ?_
  refine Do.region [0,1] true ?_
  simp [go_sem]
  refine DoL.call true 102 rfl rfl rfl rfl (by first | exact trivial | omega | (simp; done) | (simp; omega)) (hS) rfl (by first | exact .inl rfl | exact .inr rfl) rfl ?_
  simp [go_sem]
  apply k2_; clear k2_
  refine Do.seqk fun _ k3_ => ?_
  refine Do.seqk fun _ k4_ => ?_
  refine Do.region [0,1,24] true ?_
  simp [go_sem]
  repeat (refine And.intro (by first | omega | (intros; omega) | (intros; exact And.intro (by assumption) (by omega)) | grind) ?_)
  apply k4_; clear k4_
  refine Do.cond [0,1] rfl (fun h => ?_) (fun h => ?_) <;> simp [go_sem] at h ⊢
  refine Do.seqk fun _ k5_ => ?_
  refine Do.region [4,5] true ?_
  simp [go_sem]
  repeat (refine And.intro (by first | omega | (intros; omega) | (intros; exact And.intro (by assumption) (by omega)) | grind) ?_)
  refine DoL.call true 305 rfl rfl rfl rfl (by first | exact trivial | omega | (simp; done) | (simp; omega)) (ho) rfl (by first | exact .inl rfl | exact .inr rfl) rfl ?_
  simp [go_sem]
  apply k5_; clear k5_
  refine Do.ret ?_
  simp [endQ, rets, ret1, go_sem]
  repeat (refine And.intro (by first | omega | (intros; omega) | (intros; exact And.intro (by assumption) (by omega)) | grind) ?_)
  exact TLe.refl _
theorem DivMod_one {x : List Nat} (hx : x.length ≤ 536870912) (wx : Ws x) : Does Tryz.prog G 140 [Wd x, Wd (nat 1)] (.t [Wn (nat (val x)), Wn (nat 0)]) := by
  have hA := @Digits_does G x (by omega) wx
  have hB : Does Tryz.prog G 102 [Wd (nat 1)] (.v (Wn [1, 0])) := by rw [nat_one]; exact @Digits_does G [1] (by decide) (by simp [Ws])
  have hD := @Divide_one G (val x) (2 * x.length) (ws_dg wx) (by omega)
  have hn := @rnat_does G (val x) (2 * x.length) (by omega) (ws_dg wx)
  have h0 : Does Tryz.prog G 100 [Wd [0]] (.v (Wn (nat 0))) := @rnat_does G 0 1 (by decide) (by decide)
  refine Does.of (nt := 20) Tryz.func140 rfl rfl rfl (by simp) ?_
  simp only [argTm, PV.ext, Ce.ext]
  refine Do.seqk fun _ k1_ => ?_
  refine Do.region [0,1] true ?_
  simp [go_sem]
  apply k1_; clear k1_
  refine Do.seqk fun _ k2_ => ?_
  refine Do.region [6,7] true ?_
  simp [go_sem]
  refine DoL.call true 102 rfl rfl rfl rfl (by first | exact trivial | omega | (simp; done) | (simp; omega)) (hA) rfl (by first | exact .inl rfl | exact .inr rfl) rfl ?_
  simp [go_sem]
  refine DoL.call true 104 rfl rfl rfl rfl (by first | exact trivial | omega | (simp; done) | (simp; omega)) (hB) rfl (by first | exact .inl rfl | exact .inr rfl) rfl ?_
  simp [go_sem]
  refine DoL.call true 105 rfl rfl rfl rfl (by first | exact trivial | omega | (simp; done) | (simp; omega)) (hD) rfl (by first | exact .inl rfl | exact .inr rfl) rfl ?_
  simp [go_sem]
  apply k2_; clear k2_
  refine Do.seqk fun _ k3_ => ?_
  refine Do.region [4,5] true ?_
  simp [go_sem]
  refine DoL.call true 202 rfl rfl rfl rfl (by first | exact trivial | omega | (simp; done) | (simp; omega)) (hn) rfl (by first | exact .inl rfl | exact .inr rfl) rfl ?_
  simp [go_sem]
  refine DoL.call true 204 rfl rfl rfl rfl (by first | exact trivial | omega | (simp; done) | (simp; omega)) (h0) rfl (by first | exact .inl rfl | exact .inr rfl) rfl ?_
  simp [go_sem]
  apply k3_; clear k3_
  refine Do.ret ?_
  simp [endQ, rets, ret1, go_sem]
  repeat (refine And.intro (by first | omega | (intros; omega) | (intros; exact And.intro (by assumption) (by omega)) | grind) ?_)
  exact TLe.refl _
end Go.Proofs.YthpkhmbjmnhmoaaGreatDoor
/- The integers of the reference. No condition. -/
namespace Go.Proofs.YthpkhmbjmnhmoaaGreatDoor
set_option linter.unusedVariables false
set_option linter.unusedSimpArgs false
variable {G : Gl}
set_option maxHeartbeats 2000000
set_option maxRecDepth 10000
/-- An integer's fields. -/
abbrev Ig (n : Bool) (m : List Nat) : PV := .a [.b n, .w false m]
/-- A canonical integer. -/
abbrev Iv (z : Int) : PV := Ig (decide (z < 0)) (nat z.natAbs)
/-- The value of a sign and a size. -/
def sgn (n : Bool) (v : Nat) : Int := if n then -(v : Int) else v
theorem sgn_abs (n : Bool) (v : Nat) : (sgn n v).natAbs = v := by unfold sgn; split <;> omega
theorem sgn_of (z : Int) : sgn (decide (z < 0)) z.natAbs = z := by unfold sgn; split <;> rename_i h <;> simp at h <;> omega
theorem nat_len_zero (v : Nat) : 0 < (nat v).length ↔ v ≠ 0 := by
  constructor
  · intro h h0; subst h0; rw [nat_zero] at h; simp at h
  · intro h
    apply Classical.byContradiction
    intro hn
    have : nat v = [] := List.length_eq_zero_iff.1 (by omega)
    have h2 := val_nat v
    rw [this] at h2
    simp [val] at h2
    omega
theorem PLe.ig {n : Bool} {c : Ce} {m : List Nat} (h : PLe (.c c) (.c (.w false m))) : PLe (.a [.b n, c]) (Ig n m) := by
  rintro E v ⟨vs, h1, h2⟩
  refine ⟨vs, h1, ?_⟩
  obtain ⟨v1, r1, e1, a1, h2⟩ := h2.cons_iff
  obtain ⟨v2, r2, e2, a2, h2⟩ := h2.cons_iff
  rw [e1, e2]
  exact .cons a1 (.cons (h _ _ a2) h2)
theorem IMake_does {n : Bool} {m : List Nat} (hm : m.length ≤ 1073741824) (wm : Ws m) : Does Tryz.prog G 104 [.c (.b n), Wd m] (.v (Iv (sgn n (val m)))) := by
  have hT := @RTrim_does G m hm wm
  have hz := nat_len_zero (val m)
  generalize hv : val m = v at *
  refine Does.of (nt := 15) Tryz.func104 rfl rfl rfl (by simp) ?_
  simp only [argTm, PV.ext, Ce.ext]
  refine Do.seqk fun _ k1_ => ?_
  refine Do.region [0,1,4] true ?_
  simp [go_sem]
  apply k1_; clear k1_
  refine Do.seqk fun _ k2_ => ?_
  refine Do.region [0,1,4] true ?_
  simp [go_sem]
  refine DoL.call true 102 rfl rfl rfl rfl (by first | exact trivial | omega | (simp; done) | (simp; omega)) (hT) rfl (by first | exact .inl rfl | exact .inr rfl) rfl ?_
  simp [go_sem]
  apply k2_; clear k2_
  refine Do.seqk fun _ k3_ => ?_
  refine Do.region [4] true ?_
  simp [go_sem]
  repeat (refine And.intro (by first | omega | (intros; omega) | (intros; exact And.intro (by assumption) (by omega)) | grind) ?_)
  apply k3_; clear k3_
  refine Do.ret ?_
  simp [endQ, rets, ret1, go_sem]
  repeat (refine And.intro (by first | omega | (intros; omega) | (intros; exact And.intro (by assumption) (by omega)) | grind) ?_)
  have e : (n && decide (0 < (nat v).length)) = decide (sgn n v < 0) := by
    by_cases h : v = 0
    · have h2 : ¬ 0 < (nat v).length := fun hh => hz.1 hh h
      have h4 : nat 0 = [] := nat_zero
      subst h
      cases n <;> simp [h4, sgn]
    · have h3 := hz.2 h
      cases n <;> simp only [sgn, h3, decide_true, Bool.and_true, Bool.false_and, if_true, if_false, Bool.false_eq_true] <;> simp <;> omega
  rw [e]
  show TLe _ (.v (Ig (decide (sgn n v < 0)) (nat (sgn n v).natAbs)))
  rw [sgn_abs]
  exact TLe.v (PLe.ig (PLe.ext (.c (.w true _))))
theorem ITrim_does {n : Bool} {m : List Nat} (hm : m.length ≤ 1073741824) (wm : Ws m) : Does Tryz.prog G 148 [Ig n m] (.v (Iv (sgn n (val m)))) := by
  have hM := @IMake_does G n m hm wm
  generalize sgn n (val m) = z at *
  refine Does.of (nt := 8) Tryz.func148 rfl rfl rfl (by simp) ?_
  simp only [argTm, PV.ext, Ce.ext]
  refine Do.seqk fun _ k1_ => ?_
  refine Do.region [1,2] true ?_
  simp [go_sem]
  apply k1_; clear k1_
  refine Do.seqk fun _ k2_ => ?_
  refine Do.region [2] true ?_
  simp [go_sem]
  repeat (refine And.intro (by first | omega | (intros; omega) | (intros; exact And.intro (by assumption) (by omega)) | grind) ?_)
  refine DoL.call true 105 rfl rfl rfl rfl (by first | exact trivial | omega | (simp; done) | (simp; omega)) (hM) rfl (by first | exact .inl rfl | exact .inr rfl) rfl ?_
  simp [go_sem]
  repeat (refine And.intro (by first | omega | (intros; omega) | (intros; exact And.intro (by assumption) (by omega)) | grind) ?_)
  apply k2_; clear k2_
  refine Do.ret ?_
  simp [endQ, rets, ret1, go_sem]
  repeat (refine And.intro (by first | omega | (intros; omega) | (intros; exact And.intro (by assumption) (by omega)) | grind) ?_)
  exact TLe.refl _
theorem ISign3_does {n : Bool} {m : List Nat} (hm : m.length ≤ 1073741824) (wm : Ws m) : Does Tryz.prog G 135 [Ig n m] (.int .i64 (sgn n (val m)).sign) := by
  have hM := @ITrim_does G n m hm wm
  generalize sgn n (val m) = z at *
  have hz := nat_len_zero z.natAbs
  refine Does.of (nt := 13) Tryz.func135 rfl rfl rfl (by simp) ?_
  simp only [argTm, PV.ext, Ce.ext]
  refine Do.seqk fun _ k1_ => ?_
  refine Do.region [1] true ?_
  simp [go_sem]
  apply k1_; clear k1_
  refine Do.seqk fun _ k2_ => ?_
  refine Do.seqk fun _ k3_ => ?_
  refine Do.region [1] true ?_
  simp [go_sem]
  repeat (refine And.intro (by first | omega | (intros; omega) | (intros; exact And.intro (by assumption) (by omega)) | grind) ?_)
  refine DoL.call true 102 rfl rfl rfl rfl (by first | exact trivial | omega | (simp; done) | (simp; omega)) (hM) rfl (by first | exact .inl rfl | exact .inr rfl) rfl ?_
  simp [go_sem]
  repeat (refine And.intro (by first | omega | (intros; omega) | (intros; exact And.intro (by assumption) (by omega)) | grind) ?_)
  apply k3_; clear k3_
  refine Do.block ?_
  refine Do.seqk fun _ k4_ => ?_
  refine Do.region [1,5] true ?_
  simp [go_sem]
  repeat (refine And.intro (by first | omega | (intros; omega) | (intros; exact And.intro (by assumption) (by omega)) | grind) ?_)
  apply k4_; clear k4_
  refine Do.cond [1] rfl (fun h => ?_) (fun h => ?_) <;> simp [go_sem] at h ⊢
  · refine Do.seqk fun _ k5_ => ?_
    refine Do.region [2] true ?_
    simp [go_sem]
    apply k5_; clear k5_
    refine Do.ret ?_
    simp [endQ, rets, ret1, go_sem]
    repeat (refine And.intro (by first | omega | (intros; omega) | (intros; exact And.intro (by assumption) (by omega)) | grind) ?_)
    exact ret_i (by rw [Int.sign_eq_neg_one_of_neg h])
  · refine Do.seqk fun _ k6_ => ?_
    refine Do.region [8] true ?_
    simp [go_sem]
    repeat (refine And.intro (by first | omega | (intros; omega) | (intros; exact And.intro (by assumption) (by omega)) | grind) ?_)
    apply k6_; clear k6_
    refine Do.cond [] rfl (fun h2 => ?_) (fun h2 => ?_) <;> simp [go_sem] at h2 ⊢
    · refine Do.seqk fun _ k7_ => ?_
      refine Do.region [2] true ?_
      simp [go_sem]
      apply k7_; clear k7_
      refine Do.ret ?_
      simp [endQ, rets, ret1, go_sem]
      repeat (refine And.intro (by first | omega | (intros; omega) | (intros; exact And.intro (by assumption) (by omega)) | grind) ?_)
      refine ret_i ?_
      rw [Int.sign_eq_one_of_pos]
      have := hz.1 h2
      omega
    · refine Do.skip ?_
      simp [go_sem]
      apply k2_; clear k2_
      refine Do.seqk fun _ k8_ => ?_
      refine Do.region [2] true ?_
      simp [go_sem]
      apply k8_; clear k8_
      refine Do.ret ?_
      simp [endQ, rets, ret1, go_sem]
      repeat (refine And.intro (by first | omega | (intros; omega) | (intros; exact And.intro (by assumption) (by omega)) | grind) ?_)
      refine ret_i ?_
      have : z = 0 := by
        apply Classical.byContradiction
        intro hn
        have h3 := hz.2 (by omega)
        simp only [h2] at h3
        simp at h3
      rw [this]; rfl
theorem ISign_does {n : Bool} {m : List Nat} (hm : m.length ≤ 1073741824) (wm : Ws m) : Does Tryz.prog G 90 [Ig n m] (.int .i64 (sgn n (val m)).sign) := by
  have hM := @ISign3_does G n m hm wm
  generalize sgn n (val m) = z at *
  refine Does.of (nt := 5) Tryz.func90 rfl rfl rfl (by simp) ?_
  simp only [argTm, PV.ext, Ce.ext]
  refine Do.seqk fun _ k1_ => ?_
  refine Do.region [1] true ?_
  simp [go_sem]
  apply k1_; clear k1_
  refine Do.seqk fun _ k2_ => ?_
  refine Do.region [2] true ?_
  simp [go_sem]
  repeat (refine And.intro (by first | omega | (intros; omega) | (intros; exact And.intro (by assumption) (by omega)) | grind) ?_)
  refine DoL.call true 102 rfl rfl rfl rfl (by first | exact trivial | omega | (simp; done) | (simp; omega)) (hM) rfl (by first | exact .inl rfl | exact .inr rfl) rfl ?_
  simp [go_sem]
  apply k2_; clear k2_
  refine Do.ret ?_
  simp [endQ, rets, ret1, go_sem]
  repeat (refine And.intro (by first | omega | (intros; omega) | (intros; exact And.intro (by assumption) (by omega)) | grind) ?_)
  exact TLe.refl _
theorem IMake11_does {n : Bool} {m : List Nat} (hm : m.length ≤ 1073741824) (wm : Ws m) : Does Tryz.prog G 57 [.c (.b n), Wd m] (.v (Iv (sgn n (val m)))) := by
  have hM := @IMake_does G n m hm wm
  generalize sgn n (val m) = z at *
  refine Does.of (nt := 8) Tryz.func57 rfl rfl rfl (by simp) ?_
  simp only [argTm, PV.ext, Ce.ext]
  refine Do.seqk fun _ k1_ => ?_
  refine Do.region [0,1,4] true ?_
  simp [go_sem]
  apply k1_; clear k1_
  refine Do.seqk fun _ k2_ => ?_
  refine Do.region [4] true ?_
  simp [go_sem]
  refine DoL.call true 103 rfl rfl rfl rfl (by first | exact trivial | omega | (simp; done) | (simp; omega)) (hM) rfl (by first | exact .inl rfl | exact .inr rfl) rfl ?_
  simp [go_sem]
  repeat (refine And.intro (by first | omega | (intros; omega) | (intros; exact And.intro (by assumption) (by omega)) | grind) ?_)
  apply k2_; clear k2_
  refine Do.ret ?_
  simp [endQ, rets, ret1, go_sem]
  repeat (refine And.intro (by first | omega | (intros; omega) | (intros; exact And.intro (by assumption) (by omega)) | grind) ?_)
  exact TLe.refl _
theorem IMul3_does {n n' : Bool} {m m' : List Nat} (hm : m.length ≤ 536870912) (wm : Ws m) (hm' : m'.length ≤ 268435456) (wm' : Ws m') : Does Tryz.prog G 99 [Ig n m, Ig n' m'] (.v (Iv (sgn n (val m) * sgn n' (val m')))) := by
  have hl : (nat (val m * val m')).length ≤ m.length + m'.length := nat_len (by
    have h1 := val_lt wm
    have h2 := val_lt wm'
    rw [B64_pow] at h1 h2
    rw [show 64 * (m.length + m'.length) = 64 * m.length + 64 * m'.length by omega, Nat.pow_add]
    exact Nat.mul_lt_mul_of_lt_of_le h1 (Nat.le_of_lt h2) (Nat.pow_pos (by decide)))
  have hX := @RMul_does G m m' hm wm (by omega) wm'
  have hM := @IMake_does G (n != n') (nat (val m * val m')) (by omega) (nat_ws _)
  rw [val_nat, show sgn (n != n') (val m * val m') = sgn n (val m) * sgn n' (val m') by cases n <;> cases n' <;> simp [sgn, Int.natCast_mul, Int.mul_neg, Int.neg_mul]] at hM
  clear hl
  generalize sgn n (val m) * sgn n' (val m') = z at *
  generalize val m * val m' = N at *
  refine Does.of (nt := 16) Tryz.func99 rfl rfl rfl (by simp) ?_
  simp only [argTm, PV.ext, Ce.ext]
  refine Do.seqk fun _ k1_ => ?_
  refine Do.region [2,3,4] true ?_
  simp [go_sem]
  apply k1_; clear k1_
  refine Do.seqk fun _ k2_ => ?_
  refine Do.draw [4] true (by kernel_rfl) ?_
  simp [go_sem]
  repeat (refine And.intro (by first | omega | (intros; omega) | (intros; exact And.intro (by assumption) (by omega)) | kernel_rfl | grind) ?_)
  refine DoLD.call true 110 rfl rfl rfl rfl (by first | exact trivial | omega | (simp; done) | (simp; omega)) (hX) rfl (by first | exact .inl rfl | exact .inr rfl) rfl ?_
  simp [go_sem]
  refine DoLD.call true 111 rfl rfl rfl rfl (by first | exact trivial | omega | (simp; done) | (simp; omega)) (hM) rfl (by first | exact .inl rfl | exact .inr rfl) rfl ?_
  simp [go_sem]
  repeat (refine And.intro (by first | omega | (intros; omega) | (intros; exact And.intro (by assumption) (by omega)) | kernel_rfl | grind) ?_)
  try (refine And.intro (by kernel_rfl) ?_)
  apply k2_; clear k2_
  refine Do.ret ?_
  simp [endQ, rets, ret1, go_sem]
  repeat (refine And.intro (by first | omega | (intros; omega) | (intros; exact And.intro (by assumption) (by omega)) | grind) ?_)
  exact TLe.refl _
end Go.Proofs.YthpkhmbjmnhmoaaGreatDoor
/- Sums and differences of the reference's integers. No condition. -/
namespace Go.Proofs.YthpkhmbjmnhmoaaGreatDoor
set_option linter.unusedVariables false
set_option linter.unusedSimpArgs false
variable {G : Gl}
set_option maxHeartbeats 4000000
set_option maxRecDepth 10000
theorem bl_le_ws {m : List Nat} (wm : Ws m) : bl (val m) ≤ 64 * m.length := bl_le_len wm (Nat.le_refl _)
theorem nat_len_of {v k : Nat} (h : bl v ≤ k) : (nat v).length ≤ k := Nat.le_trans (nat_len_bl v) h
theorem cmpP_ge (a b : Nat) : (0 ≤ cmpP a b) = (b ≤ a) := by
  unfold cmpP
  apply propext
  split
  · constructor <;> intro <;> omega
  · split <;> constructor <;> intro <;> omega
theorem IAdd3_does {n n' : Bool} {m m' : List Nat} (hm : m.length ≤ 8388608) (wm : Ws m) (hm' : m'.length ≤ 8388608) (wm' : Ws m') : Does Tryz.prog G 126 [Ig n m, Ig n' m'] (.v (Iv (sgn n (val m) + sgn n' (val m')))) := by
  have hA := @RAdd_does G m m' (by omega) wm (by omega) wm'
  have hC := @RCmp_does G m m' (by omega) wm (by omega) wm'
  have hS1 := fun h => @RSub_does G m m' (by omega) wm (by omega) wm' h
  have hS2 := fun h => @RSub_does G m' m (by omega) wm' (by omega) wm h
  have b1 := bl_le_ws wm
  have b2 := bl_le_ws wm'
  have b3 := bl_add_le (val m) (val m') 536870912 (by omega) (by omega)
  have hM := fun (b : Bool) v (h : (nat v).length ≤ 1073741824) => @IMake_does G b (nat v) h (nat_ws v)
  simp only [val_nat] at hM
  have hge := cmpP_ge (val m) (val m')
  have m1 : bl (val m - val m') ≤ bl (val m) := bl_mono (Nat.sub_le _ _)
  have m2 : bl (val m' - val m) ≤ bl (val m') := bl_mono (Nat.sub_le _ _)
  generalize cmpP (val m) (val m') = c at *
  generalize val m = a at *
  generalize val m' = b at *
  by_cases hn : n = n'
  · have hMM := hM n (a + b) (nat_len_of (by omega))
    subst hn
    rw [show sgn n (a + b) = sgn n a + sgn n b by cases n <;> simp [sgn] <;> omega] at hMM
    generalize sgn n a + sgn n b = z at *
    refine Does.of (nt := 42) Tryz.func126 rfl rfl rfl (by simp) ?_
    simp only [argTm, PV.ext, Ce.ext]
    refine Do.seqk fun _ k1_ => ?_
    refine Do.region [2,3,4] true ?_
    simp [go_sem]
    apply k1_; clear k1_
    refine Do.seqk fun _ k2_ => ?_
    refine Do.block ?_
    refine Do.seqk fun _ k3_ => ?_
    refine Do.region [2,3,4,5] true ?_
    simp [go_sem]
    repeat (refine And.intro (by first | omega | (intros; omega) | (intros; exact And.intro (by assumption) (by omega)) | grind) ?_)
    apply k3_; clear k3_
    refine Do.cond [2,3,4] rfl (fun h => ?_) (fun h => ?_) <;> simp [go_sem] at h ⊢
    refine Do.seqk fun _ k4_ => ?_
    refine Do.draw [4] true (by kernel_rfl) ?_
    simp [go_sem]
    repeat (refine And.intro (by first | omega | (intros; omega) | (intros; exact And.intro (by assumption) (by omega)) | kernel_rfl | grind) ?_)
    refine DoLD.call true 207 rfl rfl rfl rfl (by first | exact trivial | omega | (simp; done) | (simp; omega)) (hA) rfl (by first | exact .inl rfl | exact .inr rfl) rfl ?_
    simp [go_sem]
    refine DoLD.call true 208 rfl rfl rfl rfl (by first | exact trivial | omega | (simp; done) | (simp; omega)) (hMM) rfl (by first | exact .inl rfl | exact .inr rfl) rfl ?_
    simp [go_sem]
    repeat (refine And.intro (by first | omega | (intros; omega) | (intros; exact And.intro (by assumption) (by omega)) | kernel_rfl | grind) ?_)
    try (refine And.intro (by kernel_rfl) ?_)
    apply k4_; clear k4_
    refine Do.ret ?_
    simp [endQ, rets, ret1, go_sem]
    repeat (refine And.intro (by first | omega | (intros; omega) | (intros; exact And.intro (by assumption) (by omega)) | grind) ?_)
    exact TLe.refl _
  · by_cases h : b ≤ a
    · have hc : 0 ≤ c := by rw [hge]; exact h
      have hMM := hM n (a - b) (nat_len_of (by omega))
      have hSS := hS1 h
      rw [show sgn n (a - b) = sgn n a + sgn n' b by cases n <;> cases n' <;> simp [sgn] at hn ⊢ <;> omega] at hMM
      generalize sgn n a + sgn n' b = z at *
      refine Does.of (nt := 42) Tryz.func126 rfl rfl rfl (by simp) ?_
      simp only [argTm, PV.ext, Ce.ext]
      refine Do.seqk fun _ k1_ => ?_
      refine Do.region [2,3,4] true ?_
      simp [go_sem, show (n == n') = false from beq_false_of_ne hn, hc]
      apply k1_; clear k1_
      refine Do.seqk fun _ k2_ => ?_
      refine Do.block ?_
      refine Do.seqk fun _ k3_ => ?_
      refine Do.region [2,3,4,5] true ?_
      simp [go_sem, show (n == n') = false from beq_false_of_ne hn, hc]
      repeat (refine And.intro (by first | omega | (intros; omega) | (intros; exact And.intro (by assumption) (by omega)) | grind) ?_)
      apply k3_; clear k3_
      refine Do.cond [2,3,4] rfl (fun h1 => ?_) (fun h1 => ?_) <;> simp [go_sem, show (n == n') = false from beq_false_of_ne hn, hc] at h1 ⊢
      refine Do.seqk fun _ k4_ => ?_
      refine Do.region [2,3,4,19] true ?_
      simp [go_sem, show (n == n') = false from beq_false_of_ne hn, hc]
      repeat (refine And.intro (by first | omega | (intros; omega) | (intros; exact And.intro (by assumption) (by omega)) | grind) ?_)
      refine DoL.call true 305 rfl rfl rfl rfl (by first | exact trivial | omega | (simp; done) | (simp; omega)) (hC) rfl (by first | exact .inl rfl | exact .inr rfl) rfl ?_
      simp [go_sem, show (n == n') = false from beq_false_of_ne hn, hc]
      apply k4_; clear k4_
      refine Do.cond [2,3,4] rfl (fun h2 => ?_) (fun h2 => ?_) <;> simp [go_sem, show (n == n') = false from beq_false_of_ne hn, hc] at h2 ⊢
      refine Do.seqk fun _ k5_ => ?_
      refine Do.draw [4] true (by kernel_rfl) ?_
      simp [go_sem, show (n == n') = false from beq_false_of_ne hn, hc]
      repeat (refine And.intro (by first | omega | (intros; omega) | (intros; exact And.intro (by assumption) (by omega)) | kernel_rfl | grind) ?_)
      refine DoLD.call true 407 rfl rfl rfl rfl (by first | exact trivial | omega | (simp; done) | (simp; omega)) (hSS) rfl (by first | exact .inl rfl | exact .inr rfl) rfl ?_
      simp [go_sem, show (n == n') = false from beq_false_of_ne hn, hc]
      refine DoLD.call true 408 rfl rfl rfl rfl (by first | exact trivial | omega | (simp; done) | (simp; omega)) (hMM) rfl (by first | exact .inl rfl | exact .inr rfl) rfl ?_
      simp [go_sem, show (n == n') = false from beq_false_of_ne hn, hc]
      repeat (refine And.intro (by first | omega | (intros; omega) | (intros; exact And.intro (by assumption) (by omega)) | kernel_rfl | grind) ?_)
      try (refine And.intro (by kernel_rfl) ?_)
      apply k5_; clear k5_
      refine Do.ret ?_
      simp [endQ, rets, ret1, go_sem, show (n == n') = false from beq_false_of_ne hn, hc]
      repeat (refine And.intro (by first | omega | (intros; omega) | (intros; exact And.intro (by assumption) (by omega)) | grind) ?_)
      exact TLe.refl _
    · have hc : ¬ 0 ≤ c := by rw [hge]; exact h
      have hMM := hM n' (b - a) (nat_len_of (by omega))
      have hSS := hS2 (by omega)
      rw [show sgn n' (b - a) = sgn n a + sgn n' b by cases n <;> cases n' <;> simp [sgn] at hn ⊢ <;> omega] at hMM
      generalize sgn n a + sgn n' b = z at *
      refine Does.of (nt := 42) Tryz.func126 rfl rfl rfl (by simp) ?_
      simp only [argTm, PV.ext, Ce.ext]
      refine Do.seqk fun _ k1_ => ?_
      refine Do.region [2,3,4] true ?_
      simp [go_sem, show (n == n') = false from beq_false_of_ne hn, hc]
      apply k1_; clear k1_
      refine Do.seqk fun _ k2_ => ?_
      refine Do.block ?_
      refine Do.seqk fun _ k3_ => ?_
      refine Do.region [2,3,4,5] true ?_
      simp [go_sem, show (n == n') = false from beq_false_of_ne hn, hc]
      repeat (refine And.intro (by first | omega | (intros; omega) | (intros; exact And.intro (by assumption) (by omega)) | grind) ?_)
      apply k3_; clear k3_
      refine Do.cond [2,3,4] rfl (fun h1 => ?_) (fun h1 => ?_) <;> simp [go_sem, show (n == n') = false from beq_false_of_ne hn, hc] at h1 ⊢
      refine Do.seqk fun _ k4_ => ?_
      refine Do.region [2,3,4,19] true ?_
      simp [go_sem, show (n == n') = false from beq_false_of_ne hn, hc]
      repeat (refine And.intro (by first | omega | (intros; omega) | (intros; exact And.intro (by assumption) (by omega)) | grind) ?_)
      refine DoL.call true 305 rfl rfl rfl rfl (by first | exact trivial | omega | (simp; done) | (simp; omega)) (hC) rfl (by first | exact .inl rfl | exact .inr rfl) rfl ?_
      simp [go_sem, show (n == n') = false from beq_false_of_ne hn, hc]
      apply k4_; clear k4_
      refine Do.cond [2,3,4] rfl (fun h2 => ?_) (fun h2 => ?_) <;> simp [go_sem, show (n == n') = false from beq_false_of_ne hn, hc] at h2 ⊢
      refine Do.skip ?_
      simp [go_sem]
      apply k2_; clear k2_
      refine Do.seqk fun _ k5_ => ?_
      refine Do.draw [4] true (by kernel_rfl) ?_
      simp [go_sem, show (n == n') = false from beq_false_of_ne hn, hc]
      repeat (refine And.intro (by first | omega | (intros; omega) | (intros; exact And.intro (by assumption) (by omega)) | kernel_rfl | grind) ?_)
      refine DoLD.call true 507 rfl rfl rfl rfl (by first | exact trivial | omega | (simp; done) | (simp; omega)) (hSS) rfl (by first | exact .inl rfl | exact .inr rfl) rfl ?_
      simp [go_sem, show (n == n') = false from beq_false_of_ne hn, hc]
      refine DoLD.call true 508 rfl rfl rfl rfl (by first | exact trivial | omega | (simp; done) | (simp; omega)) (hMM) rfl (by first | exact .inl rfl | exact .inr rfl) rfl ?_
      simp [go_sem, show (n == n') = false from beq_false_of_ne hn, hc]
      repeat (refine And.intro (by first | omega | (intros; omega) | (intros; exact And.intro (by assumption) (by omega)) | kernel_rfl | grind) ?_)
      try (refine And.intro (by kernel_rfl) ?_)
      apply k5_; clear k5_
      refine Do.ret ?_
      simp [endQ, rets, ret1, go_sem, show (n == n') = false from beq_false_of_ne hn, hc]
      repeat (refine And.intro (by first | omega | (intros; omega) | (intros; exact And.intro (by assumption) (by omega)) | grind) ?_)
      exact TLe.refl _
theorem IAdd_does {n n' : Bool} {m m' : List Nat} (hm : m.length ≤ 8388608) (wm : Ws m) (hm' : m'.length ≤ 8388608) (wm' : Ws m') : Does Tryz.prog G 79 [Ig n m, Ig n' m'] (.v (Iv (sgn n (val m) + sgn n' (val m')))) := by
  have hM := @IAdd3_does G n n' m m' hm wm hm' wm'
  generalize sgn n (val m) + sgn n' (val m') = z at *
  refine Does.of (nt := 8) Tryz.func79 rfl rfl rfl (by simp) ?_
  simp only [argTm, PV.ext, Ce.ext]
  refine Do.seqk fun _ k1_ => ?_
  refine Do.region [2,3,4] true ?_
  simp [go_sem]
  apply k1_; clear k1_
  refine Do.seqk fun _ k2_ => ?_
  refine Do.region [4] true ?_
  simp [go_sem]
  repeat (refine And.intro (by first | omega | (intros; omega) | (intros; exact And.intro (by assumption) (by omega)) | grind) ?_)
  refine DoL.call true 103 rfl rfl rfl rfl (by first | exact trivial | omega | (simp; done) | (simp; omega)) (hM) rfl (by first | exact .inl rfl | exact .inr rfl) rfl ?_
  simp [go_sem]
  repeat (refine And.intro (by first | omega | (intros; omega) | (intros; exact And.intro (by assumption) (by omega)) | grind) ?_)
  apply k2_; clear k2_
  refine Do.ret ?_
  simp [endQ, rets, ret1, go_sem]
  repeat (refine And.intro (by first | omega | (intros; omega) | (intros; exact And.intro (by assumption) (by omega)) | grind) ?_)
  exact TLe.refl _
theorem IMul_does {n n' : Bool} {m m' : List Nat} (hm : m.length ≤ 536870912) (wm : Ws m) (hm' : m'.length ≤ 268435456) (wm' : Ws m') : Does Tryz.prog G 54 [Ig n m, Ig n' m'] (.v (Iv (sgn n (val m) * sgn n' (val m')))) := by
  have hM := @IMul3_does G n n' m m' hm wm hm' wm'
  generalize sgn n (val m) * sgn n' (val m') = z at *
  refine Does.of (nt := 8) Tryz.func54 rfl rfl rfl (by simp) ?_
  simp only [argTm, PV.ext, Ce.ext]
  refine Do.seqk fun _ k1_ => ?_
  refine Do.region [2,3,4] true ?_
  simp [go_sem]
  apply k1_; clear k1_
  refine Do.seqk fun _ k2_ => ?_
  refine Do.region [4] true ?_
  simp [go_sem]
  repeat (refine And.intro (by first | omega | (intros; omega) | (intros; exact And.intro (by assumption) (by omega)) | grind) ?_)
  refine DoL.call true 103 rfl rfl rfl rfl (by first | exact trivial | omega | (simp; done) | (simp; omega)) (hM) rfl (by first | exact .inl rfl | exact .inr rfl) rfl ?_
  simp [go_sem]
  repeat (refine And.intro (by first | omega | (intros; omega) | (intros; exact And.intro (by assumption) (by omega)) | grind) ?_)
  apply k2_; clear k2_
  refine Do.ret ?_
  simp [endQ, rets, ret1, go_sem]
  repeat (refine And.intro (by first | omega | (intros; omega) | (intros; exact And.intro (by assumption) (by omega)) | grind) ?_)
  exact TLe.refl _
theorem IFrom3_does {k : Nat} (hk : k < 9223372036854775808) : Does Tryz.prog G 108 [.c (.i .i64 k)] (.v (Iv k)) := by
  have hW := @RWord_does G k (by omega)
  have hM := @IMake_does G false (nat k) (by have := nat_len_of (v := k) (k := 64) ((bl_lt _ _).2 (by omega)); omega) (nat_ws k)
  rw [val_nat, show sgn false k = (k : Int) from rfl] at hM
  refine Does.of (nt := 14) Tryz.func108 rfl rfl rfl (by simp) ?_
  simp only [argTm, PV.ext, Ce.ext]
  refine Do.seqk fun _ k1_ => ?_
  refine Do.region [0,2] true ?_
  simp [go_sem, show ¬ (k : Int) < 0 by omega]
  apply k1_; clear k1_
  refine Do.seqk fun _ k2_ => ?_
  refine Do.seqk fun _ k3_ => ?_
  refine Do.region [0,2,4] true ?_
  simp [go_sem, show ¬ (k : Int) < 0 by omega]
  apply k3_; clear k3_
  refine Do.cond [0,2] rfl (fun h => ?_) (fun h => ?_) <;> simp [go_sem, show ¬ (k : Int) < 0 by omega] at h ⊢
  refine Do.skip ?_
  simp [go_sem]
  apply k2_; clear k2_
  refine Do.seqk fun _ k4_ => ?_
  refine Do.region [2] true ?_
  simp [go_sem, show ¬ (k : Int) < 0 by omega]
  repeat (refine And.intro (by first | omega | (intros; omega) | (intros; exact And.intro (by assumption) (by omega)) | grind) ?_)
  refine DoL.call true 303 rfl rfl rfl rfl (by first | exact trivial | omega | (simp; done) | (simp; omega)) (hW) rfl (by first | exact .inl rfl | exact .inr rfl) rfl ?_
  simp [go_sem, show ¬ (k : Int) < 0 by omega]
  refine DoL.call true 304 rfl rfl rfl rfl (by first | exact trivial | omega | (simp; done) | (simp; omega)) (hM) rfl (by first | exact .inl rfl | exact .inr rfl) rfl ?_
  simp [go_sem, show ¬ (k : Int) < 0 by omega]
  repeat (refine And.intro (by first | omega | (intros; omega) | (intros; exact And.intro (by assumption) (by omega)) | grind) ?_)
  apply k4_; clear k4_
  refine Do.ret ?_
  simp [endQ, rets, ret1, go_sem, show ¬ (k : Int) < 0 by omega]
  repeat (refine And.intro (by first | omega | (intros; omega) | (intros; exact And.intro (by assumption) (by omega)) | grind) ?_)
  exact TLe.refl _
theorem IFrom_does {k : Nat} (hk : k < 9223372036854775808) : Does Tryz.prog G 61 [.c (.i .i64 k)] (.v (Iv k)) := by
  have hM := @IFrom3_does G k hk
  refine Does.of (nt := 5) Tryz.func61 rfl rfl rfl (by simp) ?_
  simp only [argTm, PV.ext, Ce.ext]
  refine Do.seqk fun _ k1_ => ?_
  refine Do.region [0,2] true ?_
  simp [go_sem]
  apply k1_; clear k1_
  refine Do.seqk fun _ k2_ => ?_
  refine Do.region [2] true ?_
  simp [go_sem]
  refine DoL.call true 102 rfl rfl rfl rfl (by first | exact trivial | omega | (simp; done) | (simp; omega)) (hM) rfl (by first | exact .inl rfl | exact .inr rfl) rfl ?_
  simp [go_sem]
  repeat (refine And.intro (by first | omega | (intros; omega) | (intros; exact And.intro (by assumption) (by omega)) | grind) ?_)
  apply k2_; clear k2_
  refine Do.ret ?_
  simp [endQ, rets, ret1, go_sem]
  repeat (refine And.intro (by first | omega | (intros; omega) | (intros; exact And.intro (by assumption) (by omega)) | grind) ?_)
  exact TLe.refl _
end Go.Proofs.YthpkhmbjmnhmoaaGreatDoor
/- The lowest bits of a number; a real number of the reference and its exponent. No condition. -/
namespace Go.Proofs.YthpkhmbjmnhmoaaGreatDoor
set_option linter.unusedVariables false
set_option linter.unusedSimpArgs false
variable {G : Gl}
set_option maxHeartbeats 4000000
set_option maxRecDepth 10000
theorem PLe.agg {l l' : List Ce} (h : All2 (fun c d => PLe (.c c) (.c d)) l l') : PLe (.a l) (.a l') := by
  rintro E v ⟨vs, h1, h2⟩
  refine ⟨vs, h1, ?_⟩
  clear h1
  generalize vs.toList = ws at *
  induction h generalizing ws with
  | nil => exact h2
  | cons g _ ih =>
    obtain ⟨w, r, rfl, a, b⟩ := h2.cons_iff
    exact .cons (g _ _ a) (ih _ b)
/-- The i-th word of what s bits hold. -/
theorem low_word {n s i : Nat} (h : 64 * i < s) : n % 2 ^ s / 18446744073709551616 ^ i % 18446744073709551616 = if s - 64 * i < 64 then n / 18446744073709551616 ^ i % 18446744073709551616 % 2 ^ (s - 64 * i) else n / 18446744073709551616 ^ i % 18446744073709551616 := by
  obtain ⟨q, rfl⟩ : ∃ q, s = 64 * i + q := ⟨s - 64 * i, by omega⟩
  rw [B64_pow, Nat.pow_add, Nat.mod_mul_right_div_self, show 64 * i + q - 64 * i = q by omega]
  generalize n / 2 ^ (64 * i) = m
  split
  · rename_i hq
    have e : (18446744073709551616 : Nat) = 2 ^ q * 2 ^ (64 - q) := by rw [← Nat.pow_add, show q + (64 - q) = 64 by omega]
    have l1 : m % 2 ^ q < 18446744073709551616 := by
      have := Nat.mod_lt m (Nat.pow_pos (n := q) (show 0 < 2 by decide))
      have : 2 ^ q < 2 ^ 64 := Nat.pow_lt_pow_right (by decide) hq
      omega
    rw [Nat.mod_eq_of_lt l1, e, Nat.mod_mul_right_mod]
  · rename_i hq
    obtain ⟨t, rfl⟩ : ∃ t, q = 64 + t := ⟨q - 64, by omega⟩
    rw [Nat.pow_add, show (2 : Nat) ^ 64 = 18446744073709551616 from rfl, Nat.mod_mul_right_mod]
theorem RLow_does {x : List Nat} {s : Nat} (hx : x.length ≤ 1073741824) (hw : Ws x) (hs : s < 4611686018427387904) : Does Tryz.prog G 141 [Wd x, .c (.i .i64 s)] (.v (Wn (nat (val x % 2 ^ s)))) := by
  have hT := fun i (hi : i ≤ 1073741824) => @RTrim_does G (wds (val x % 2 ^ s) i) (by rw [wds_len]; exact hi) (wds_ws _ _)
  have hlw := fun i h => @low_word (val x) s i h
  have hend : ∀ i, i ≤ x.length → (x.length ≤ i ∨ s ≤ 64 * i) → val (wds (val x % 2 ^ s) i) = val x % 2 ^ s := fun i hi h => by
    rw [val_wds, Nat.mod_eq_of_lt]
    rcases h with h | h
    · have := val_lt hw
      rw [show i = x.length by omega]
      exact Nat.lt_of_le_of_lt (Nat.mod_le _ _) this
    · rw [B64_pow]
      exact Nat.lt_of_lt_of_le (Nat.mod_lt _ (Nat.pow_pos (by decide))) (Nat.pow_le_pow_right (by decide) h)
  have hget := fun i hi => @ws_get x hw i hi
  have hsn := fun i => wds_snoc i (val x % 2 ^ s)
  have hz : wds (val x % 2 ^ s) 0 = [] := rfl
  generalize val x % 2 ^ s = N at *
  obtain ⟨X, hX⟩ : ∃ X : Nat → Nat, ∀ i, X i = val x / 18446744073709551616 ^ i % 18446744073709551616 := ⟨fun i => _, fun _ => rfl⟩
  simp only [← hX] at hget hlw
  obtain ⟨Y, hY⟩ : ∃ Y : Nat → Nat, ∀ i, Y i = N / 18446744073709551616 ^ i % 18446744073709551616 := ⟨fun i => _, fun _ => rfl⟩
  simp only [← hY] at hsn hlw
  refine Does.of (nt := 42) Tryz.func141 rfl rfl rfl (by simp) ?_
  simp only [argTm, PV.ext, Ce.ext]
  refine Do.seqk fun _ k1_ => ?_
  refine Do.region [0,1] true ?_
  simp [go_sem]
  apply k1_; clear k1_
  refine Do.seqk fun _ k2_ => ?_
  refine Do.region [0,1,5] true ?_
  simp [go_sem]
  apply k2_; clear k2_
  refine Do.seqk fun _ k3_ => ?_
  refine Do.seqk fun _ k4_ => ?_
  refine Do.region [0,1,5,6] true ?_
  simp [go_sem]
  apply k4_; clear k4_
  refine Do.block ?_
  refine Do.ownW 5 900 rfl rfl (by decide) ?_
  simp [go_sem]
  refine Do.loopF [0,1,5,6] (fun (i : Nat) => [(5, .v (.c (.r 900 i))), (6, .int .i64 i)]) (fun (i : Nat) => [(900, .wr (wds N i))]) (fun (i : Nat) => i ≤ x.length) (fun (i : Nat) => x.length - i) (0) (fun _ => by first | (simp [go_sem, mixS]; done) | (simp [go_sem, mixS]; rfl)) (St.le_of (by simp [keep]) (by simp [keep, hz])) (Nat.zero_le _) ?_
  intro i hi
  refine Do.seqk fun _ k5_ => ?_
  refine Do.seqk fun _ k6_ => ?_
  refine Do.region [0,1,5,6,17] true ?_
  simp [go_sem]
  repeat (refine And.intro (by first | omega | (intros; omega) | (intros; exact And.intro (by assumption) (by omega)) | grind) ?_)
  apply k6_; clear k6_
  refine Do.cond [0,1,5,6] rfl (fun h => ?_) (fun h => ?_) <;> simp [go_sem] at h ⊢
  · have hg := hget i h.1
    have hl := hlw i (by omega)
    refine Do.skip ?_
    simp [go_sem]
    apply k5_; clear k5_
    refine Do.seqk fun _ k7_ => ?_
    refine Do.block ?_
    refine Do.seqk fun _ k8_ => ?_
    refine Do.region [0,1,5,6,7] true ?_
    simp [go_sem, hg]
    repeat (refine And.intro (by first | omega | (intros; omega) | (intros; exact And.intro (by assumption) (by omega)) | grind) ?_)
    apply k8_; clear k8_
    refine Do.seqk fun _ k9_ => ?_
    refine Do.seqk fun _ k10_ => ?_
    refine Do.region [0,1,5,6,7,28] true ?_
    simp [go_sem, hg]
    repeat (refine And.intro (by first | omega | (intros; omega) | (intros; exact And.intro (by assumption) (by omega)) | grind) ?_)
    apply k10_; clear k10_
    refine Do.cond [0,1,5,6,7] rfl (fun h2 => ?_) (fun h2 => ?_) <;> simp [go_sem, hg] at h2 ⊢
    · have e1 : ((s : Int) - 64 * i).toNat = s - 64 * i := by omega
      have e2 : 2 ^ (s - 64 * i) % M64 = 2 ^ (s - 64 * i) := Nat.mod_eq_of_lt (show _ < 18446744073709551616 from Nat.lt_of_lt_of_le (Nat.pow_lt_pow_right (by decide) (show s - 64 * i < 64 by omega)) (by decide))
      rw [if_pos (by omega)] at hl
      have e3 : 0 < 2 ^ (s - 64 * i) := Nat.pow_pos (by decide)
      refine Do.region [0,1,5,6,7] true ?_
      simp [go_sem, e1, e2, e3]
      repeat (refine And.intro (by first | omega | (intros; omega) | (intros; exact And.intro (by assumption) (by omega)) | grind) ?_)
      apply k9_; clear k9_
      refine Do.region [0,1,5,6] true ?_
      simp [go_sem, e1, e2, e3]
      repeat (refine And.intro (by first | omega | (intros; omega) | (intros; exact And.intro (by assumption) (by omega)) | grind) ?_)
      apply k7_; clear k7_
      refine Do.region [0,1,5,6] true ?_
      simp [go_sem, e1, e2, e3]
      repeat (refine And.intro (by first | omega | (intros; omega) | (intros; exact And.intro (by assumption) (by omega)) | grind) ?_)
      refine ⟨i + 1, St.le_of rfl (by simp [keep, hsn, hl]), by omega, by simp; omega⟩
    · rw [if_neg (by omega)] at hl
      refine Do.skip ?_
      simp [go_sem]
      apply k9_; clear k9_
      refine Do.region [0,1,5,6] true ?_
      simp [go_sem, hg]
      repeat (refine And.intro (by first | omega | (intros; omega) | (intros; exact And.intro (by assumption) (by omega)) | grind) ?_)
      apply k7_; clear k7_
      refine Do.region [0,1,5,6] true ?_
      simp [go_sem, hg]
      repeat (refine And.intro (by first | omega | (intros; omega) | (intros; exact And.intro (by assumption) (by omega)) | grind) ?_)
      refine ⟨i + 1, St.le_of rfl (by simp [keep, hsn, hl]), by omega, by simp; omega⟩
  · have hv := hend i hi (by omega)
    have ht := hT i (by omega)
    rw [hv] at ht
    refine Do.exit ?_
    simp [go_sem]
    apply k3_; clear k3_
    refine Do.seqk fun _ k11_ => ?_
    refine Do.region [4] true ?_
    simp [go_sem]
    refine DoL.frz true 901 900 rfl ?_
    simp [go_sem]
    refine DoL.call true 902 rfl rfl rfl rfl (by first | exact trivial | omega | (simp; done) | (simp; omega)) (ht) rfl (by first | exact .inl rfl | exact .inr rfl) rfl ?_
    simp [go_sem]
    apply k11_; clear k11_
    refine Do.ret ?_
    simp [endQ, rets, ret1, go_sem]
    repeat (refine And.intro (by first | omega | (intros; omega) | (intros; exact And.intro (by assumption) (by omega)) | grind) ?_)
    exact TLe.refl _
end Go.Proofs.YthpkhmbjmnhmoaaGreatDoor
/- A real number of the reference: an integer times a power of 2; its exponent. No condition. -/
namespace Go.Proofs.YthpkhmbjmnhmoaaGreatDoor
set_option linter.unusedVariables false
set_option linter.unusedSimpArgs false
variable {G : Gl}
set_option maxHeartbeats 4000000
set_option maxRecDepth 10000
/-- The real number v 2^e with a sign. -/
abbrev Rl (n : Bool) (v : Nat) (e : Int) : PV := .a [.b n, .w false (nat v), .w false (nat 1), .i .i64 e, .i .i64 1]
theorem Scaled_does {n : Bool} {m : List Nat} {e : Int} (hm : m.length ≤ 1073741824) (wm : Ws m) : Does Tryz.prog G 83 [Ig n m, .c (.i .i64 e)] (.v (Rl (decide (sgn n (val m) < 0)) (val m) e)) := by
  have hS := @ISign_does G n m hm wm
  have hT := @RTrim_does G m hm wm
  have hW := @RWord_does G 1 (by decide)
  generalize sgn n (val m) = z at *
  refine Does.of (nt := 14) Tryz.func83 rfl rfl rfl (by simp) ?_
  simp only [argTm, PV.ext, Ce.ext]
  refine Do.seqk fun _ k1_ => ?_
  refine Do.region [1,2,4] true ?_
  simp [go_sem]
  apply k1_; clear k1_
  refine Do.seqk fun _ k2_ => ?_
  refine Do.draw [4] true (by kernel_rfl) ?_
  simp [go_sem]
  repeat (refine And.intro (by first | omega | (intros; omega) | (intros; exact And.intro (by assumption) (by omega)) | kernel_rfl | grind) ?_)
  refine DoLD.call true 102 rfl rfl rfl rfl (by first | exact trivial | omega | (simp; done) | (simp; omega)) (hS) rfl (by first | exact .inl rfl | exact .inr rfl) rfl ?_
  simp [go_sem]
  repeat (refine And.intro (by first | omega | (intros; omega) | (intros; exact And.intro (by assumption) (by omega)) | kernel_rfl | grind) ?_)
  refine DoLD.call true 106 rfl rfl rfl rfl (by first | exact trivial | omega | (simp; done) | (simp; omega)) (hT) rfl (by first | exact .inl rfl | exact .inr rfl) rfl ?_
  simp [go_sem]
  refine DoLD.call true 107 rfl rfl rfl rfl (by first | exact trivial | omega | (simp; done) | (simp; omega)) (hW) rfl (by first | exact .inl rfl | exact .inr rfl) rfl ?_
  simp [go_sem]
  repeat (refine And.intro (by first | omega | (intros; omega) | (intros; exact And.intro (by assumption) (by omega)) | kernel_rfl | grind) ?_)
  try (refine And.intro (by kernel_rfl) ?_)
  apply k2_; clear k2_
  refine Do.ret ?_
  simp [endQ, rets, ret1, go_sem]
  repeat (refine And.intro (by first | omega | (intros; omega) | (intros; exact And.intro (by assumption) (by omega)) | grind) ?_)
  exact TLe.v (PLe.agg (.cons (PLe.refl _) (.cons (PLe.ext (.c (.w true _))) (.cons (PLe.ext (.c (.w true _))) (.cons (PLe.refl _) (.cons (PLe.refl _) .nil))))))
theorem floor_does {a : Int} (ha : I64 a) : Does Tryz.prog G 136 [.c (.i .i64 a), .c (.i .i64 1)] (.int .i64 a) := by
  have hw : IntKind.i64.wrap a = a := wrap_in (by rw [inK_i64]; exact ha)
  refine Does.of (nt := 16) Tryz.func136 rfl rfl rfl (by simp) ?_
  simp only [argTm, PV.ext, Ce.ext]
  refine Do.seqk fun _ k1_ => ?_
  refine Do.region [0,1] true ?_
  simp [go_sem, hw, Int.tdiv_one, Int.tmod_one]
  apply k1_; clear k1_
  refine Do.seqk fun _ k2_ => ?_
  refine Do.region [0,1,5] false ?_
  simp [go_sem, hw, Int.tdiv_one, Int.tmod_one]
  repeat (refine And.intro (by first | omega | (intros; omega) | (intros; exact And.intro (by assumption) (by omega)) | grind) ?_)
  apply k2_; clear k2_
  refine Do.seqk fun _ k3_ => ?_
  refine Do.seqk fun _ k4_ => ?_
  refine Do.region [5,12] false ?_
  simp [go_sem, hw, Int.tdiv_one, Int.tmod_one]
  repeat (refine And.intro (by first | omega | (intros; omega) | (intros; exact And.intro (by assumption) (by omega)) | grind) ?_)
  apply k4_; clear k4_
  refine Do.cond [5] rfl (fun h => ?_) (fun h => ?_) <;> simp [go_sem, hw, Int.tdiv_one, Int.tmod_one] at h ⊢
  refine Do.skip ?_
  simp [go_sem]
  apply k3_; clear k3_
  refine Do.seqk fun _ k5_ => ?_
  refine Do.region [4] true ?_
  simp [go_sem, hw, Int.tdiv_one, Int.tmod_one]
  apply k5_; clear k5_
  refine Do.ret ?_
  simp [endQ, rets, ret1, go_sem, hw, Int.tdiv_one, Int.tmod_one]
  repeat (refine And.intro (by first | omega | (intros; omega) | (intros; exact And.intro (by assumption) (by omega)) | grind) ?_)
  exact TLe.refl _
theorem RLog_does {v : Nat} {e : Int} (hv : 0 < v) (hb : bl v ≤ 16777216) (he : Md e) : Does Tryz.prog G 137 [Wd (nat v), Wd (nat 1), .c (.i .i64 e)] (.int .i64 (bl v - 1 + e)) := by
  have hl : (nat v).length ≤ 16777216 := nat_len_of hb
  have h1 := @RLen_does G (nat v) (by omega) (nat_ws _)
  have h2 := @RLen_does G (nat 1) (by rw [nat_one]; decide) (nat_ws _)
  rw [val_nat] at h1 h2
  have hb1 : bl 1 = 1 := by decide
  rw [hb1] at h2
  have hp := bl_pos hv
  obtain ⟨d, hd⟩ : ∃ d, bl v = d + 1 := ⟨bl v - 1, by omega⟩
  have hlow : 2 ^ d ≤ v := (bl_le _ _).1 (by omega)
  have hbl : bl (2 ^ d) ≤ bl v := bl_mono hlow
  rw [hd] at h1 hb hbl ⊢
  rw [show ((d + 1 : Nat) : Int) = (d : Int) + 1 by omega] at h1 ⊢
  have h3 := @RLeft_does G (nat 1) d (by rw [nat_one]; decide) (nat_ws _) (by omega)
  rw [val_nat, Nat.one_mul] at h3
  have h3' := @RLeft_does G (nat v) 0 (by omega) (nat_ws _) (by omega)
  rw [val_nat, Nat.pow_zero, Nat.mul_one] at h3'
  have h4 := @RCmp_does G (nat v) (nat (2 ^ d)) (by omega) (nat_ws _) (by have := nat_len_of hbl; omega) (nat_ws _)
  rw [val_nat, val_nat] at h4
  have h5 : 0 ≤ cmpP v (2 ^ d) := by rw [cmpP_ge]; exact hlow
  have h6 : d = 0 → 2 ^ d = 1 := fun h => by rw [h]
  generalize cmpP v (2 ^ d) = c at *
  generalize 2 ^ d = p at *
  have h9 : ¬ c < 0 := by omega
  have e9 : (d : Int) + 1 - 1 = d := by omega
  by_cases h7 : d = 0
  · obtain rfl := h6 h7
    subst h7
    refine Does.of (nt := 35) Tryz.func137 rfl rfl rfl (by simp) ?_
    simp only [argTm, PV.ext, Ce.ext]
    refine Do.seqk fun _ k1_ => ?_
    refine Do.region [0,1,2] true ?_
    simp [go_sem, h9]
    apply k1_; clear k1_
    refine Do.seqk fun _ k2_ => ?_
    refine Do.region [0,1,2,7] true ?_
    simp [go_sem, h9]
    refine DoL.call true 102 rfl rfl rfl rfl (by first | exact trivial | omega | (simp; done) | (simp; omega)) (h1) rfl (by first | exact .inl rfl | exact .inr rfl) rfl ?_
    simp [go_sem, h9]
    refine DoL.call true 104 rfl rfl rfl rfl (by first | exact trivial | omega | (simp; done) | (simp; omega)) (h2) rfl (by first | exact .inl rfl | exact .inr rfl) rfl ?_
    simp [go_sem, h9]
    repeat (refine And.intro (by first | omega | (intros; omega) | (intros; exact And.intro (by assumption) (by omega)) | grind) ?_)
    apply k2_; clear k2_
    refine Do.seqk fun _ k3_ => ?_
    refine Do.region [0,1,2,7,8,9] true ?_
    simp [go_sem, h9]
    apply k3_; clear k3_
    refine Do.seqk fun _ k4_ => ?_
    refine Do.seqk fun _ k5_ => ?_
    refine Do.region [0,1,2,7,8,9,18] true ?_
    simp [go_sem, h9]
    apply k5_; clear k5_
    refine Do.cond [0,1,2,7,8,9] rfl (fun h => ?_) (fun h => ?_) <;> simp [go_sem, h9] at h ⊢
    refine Do.region [2,7,8,9] true ?_
    simp [go_sem, h9]
    repeat (refine And.intro (by first | omega | (intros; omega) | (intros; exact And.intro (by assumption) (by omega)) | grind) ?_)
    refine DoL.call true 504 rfl rfl rfl rfl (by first | exact trivial | omega | (simp; done) | (simp; omega)) (h3') rfl (by first | exact .inl rfl | exact .inr rfl) rfl ?_
    simp [go_sem, h9]
    apply k4_; clear k4_
    refine Do.seqk fun _ k6_ => ?_
    refine Do.seqk fun _ k7_ => ?_
    refine Do.region [2,7,29] true ?_
    simp [go_sem, h9]
    refine DoL.call true 603 rfl rfl rfl rfl (by first | exact trivial | omega | (simp; done) | (simp; omega)) (h4) rfl (by first | exact .inl rfl | exact .inr rfl) rfl ?_
    simp [go_sem, h9]
    apply k7_; clear k7_
    refine Do.cond [2,7] rfl (fun h => ?_) (fun h => ?_) <;> simp [go_sem, h9] at h ⊢
    refine Do.skip ?_
    simp [go_sem]
    apply k6_; clear k6_
    refine Do.seqk fun _ k8_ => ?_
    refine Do.region [6] true ?_
    simp [go_sem, h9]
    repeat (refine And.intro (by first | omega | (intros; omega) | (intros; exact And.intro (by assumption) (by omega)) | grind) ?_)
    apply k8_; clear k8_
    refine Do.ret ?_
    simp [endQ, rets, ret1, go_sem, h9]
    repeat (refine And.intro (by first | omega | (intros; omega) | (intros; exact And.intro (by assumption) (by omega)) | grind) ?_)
    exact ret_i (by omega)
  · have h8 : 0 < d := by omega
    refine Does.of (nt := 35) Tryz.func137 rfl rfl rfl (by simp) ?_
    simp only [argTm, PV.ext, Ce.ext]
    refine Do.seqk fun _ k1_ => ?_
    refine Do.region [0,1,2] true ?_
    simp [go_sem, h9, e9, h8]
    apply k1_; clear k1_
    refine Do.seqk fun _ k2_ => ?_
    refine Do.region [0,1,2,7] true ?_
    simp [go_sem, h9, e9, h8]
    refine DoL.call true 102 rfl rfl rfl rfl (by first | exact trivial | omega | (simp; done) | (simp; omega)) (h1) rfl (by first | exact .inl rfl | exact .inr rfl) rfl ?_
    simp [go_sem, h9, e9, h8]
    refine DoL.call true 104 rfl rfl rfl rfl (by first | exact trivial | omega | (simp; done) | (simp; omega)) (h2) rfl (by first | exact .inl rfl | exact .inr rfl) rfl ?_
    simp [go_sem, h9, e9, h8]
    repeat (refine And.intro (by first | omega | (intros; omega) | (intros; exact And.intro (by assumption) (by omega)) | grind) ?_)
    apply k2_; clear k2_
    refine Do.seqk fun _ k3_ => ?_
    refine Do.region [0,1,2,7,8,9] true ?_
    simp [go_sem, h9, e9, h8]
    apply k3_; clear k3_
    refine Do.seqk fun _ k4_ => ?_
    refine Do.seqk fun _ k5_ => ?_
    refine Do.region [0,1,2,7,8,9,18] true ?_
    simp [go_sem, h9, e9, h8]
    apply k5_; clear k5_
    refine Do.cond [0,1,2,7,8,9] rfl (fun h => ?_) (fun h => ?_) <;> simp [go_sem, h9, e9, h8] at h ⊢
    refine Do.region [2,7,8,9] true ?_
    simp [go_sem, h9, e9, h8]
    refine DoL.call true 403 rfl rfl rfl rfl (by first | exact trivial | omega | (simp; done) | (simp; omega)) (h3) rfl (by first | exact .inl rfl | exact .inr rfl) rfl ?_
    simp [go_sem, h9, e9, h8]
    apply k4_; clear k4_
    refine Do.seqk fun _ k6_ => ?_
    refine Do.seqk fun _ k7_ => ?_
    refine Do.region [2,7,29] true ?_
    simp [go_sem, h9, e9, h8]
    refine DoL.call true 603 rfl rfl rfl rfl (by first | exact trivial | omega | (simp; done) | (simp; omega)) (h4) rfl (by first | exact .inl rfl | exact .inr rfl) rfl ?_
    simp [go_sem, h9, e9, h8]
    apply k7_; clear k7_
    refine Do.cond [2,7] rfl (fun h => ?_) (fun h => ?_) <;> simp [go_sem, h9, e9, h8] at h ⊢
    refine Do.skip ?_
    simp [go_sem]
    apply k6_; clear k6_
    refine Do.seqk fun _ k8_ => ?_
    refine Do.region [6] true ?_
    simp [go_sem, h9, e9, h8]
    repeat (refine And.intro (by first | omega | (intros; omega) | (intros; exact And.intro (by assumption) (by omega)) | grind) ?_)
    apply k8_; clear k8_
    refine Do.ret ?_
    simp [endQ, rets, ret1, go_sem, h9, e9, h8]
    repeat (refine And.intro (by first | omega | (intros; omega) | (intros; exact And.intro (by assumption) (by omega)) | grind) ?_)
    exact ret_i (by omega)
theorem Exponent_does {n : Bool} {v : Nat} {e : Int} (hv : 0 < v) (hb : bl v ≤ 16777216) (he : Md e) : Does Tryz.prog G 91 [Rl n v e] (.int .i64 (bl v - 1 + e)) := by
  have h1 := @RLog_does G v e hv hb he
  have h2 := @floor_does G (bl v - 1 + e) ⟨by omega, by omega⟩
  generalize (bl v : Int) - 1 + e = E at *
  refine Does.of (nt := 13) Tryz.func91 rfl rfl rfl (by simp) ?_
  simp only [argTm, PV.ext, Ce.ext]
  refine Do.seqk fun _ k1_ => ?_
  refine Do.region [1] true ?_
  simp [go_sem]
  apply k1_; clear k1_
  refine Do.seqk fun _ k2_ => ?_
  refine Do.draw [2] true (by kernel_rfl) ?_
  simp [go_sem]
  repeat (refine And.intro (by first | omega | (intros; omega) | (intros; exact And.intro (by assumption) (by omega)) | kernel_rfl | grind) ?_)
  refine DoLD.call true 107 rfl rfl rfl rfl (by first | exact trivial | omega | (simp; done) | (simp; omega)) (h1) rfl (by first | exact .inl rfl | exact .inr rfl) rfl ?_
  simp [go_sem]
  repeat (refine And.intro (by first | omega | (intros; omega) | (intros; exact And.intro (by assumption) (by omega)) | kernel_rfl | grind) ?_)
  refine DoLD.call true 110 rfl rfl rfl rfl (by first | exact trivial | omega | (simp; done) | (simp; omega)) (h2) rfl (by first | exact .inl rfl | exact .inr rfl) rfl ?_
  simp [go_sem]
  try (refine And.intro (by kernel_rfl) ?_)
  apply k2_; clear k2_
  refine Do.ret ?_
  simp [endQ, rets, ret1, go_sem]
  repeat (refine And.intro (by first | omega | (intros; omega) | (intros; exact And.intro (by assumption) (by omega)) | grind) ?_)
  exact TLe.refl _
end Go.Proofs.YthpkhmbjmnhmoaaGreatDoor
/- A real number in steps; a part rounded. No condition. -/
namespace Go.Proofs.YthpkhmbjmnhmoaaGreatDoor
set_option linter.unusedVariables false
set_option linter.unusedSimpArgs false
variable {G : Gl}
set_option maxHeartbeats 4000000
set_option maxRecDepth 10000
/-- A part: an integer, a half, a rest. -/
abbrev Pt (N : Nat) (h r : Bool) : PV := .a [.w false (nat N), .b h, .b r]
theorem pt_le {N : Nat} {h r : Bool} {c : Ce} (hc : PLe (.c c) (.c (.w false (nat N)))) : TLe (tvOf [.a [c, .b h, .b r]]) (.v (Pt N h r)) :=
  TLe.v (PLe.agg (.cons hc (.cons (PLe.refl _) (.cons (PLe.refl _) .nil))))
theorem Steps_up {n : Bool} {v : Nat} {e s : Int} {k : Nat} (hk : e - (s - 1) = k) (hb : bl v ≤ 16777216) (hk' : k ≤ 16777216) (he : Md e) (hs : Md s) : Does Tryz.prog G 95 [Rl n v e, .c (.i .i64 s)] (.v (Pt (v * 2 ^ k / 2) (decide (v * 2 ^ k % 2 = 1)) false)) := by
  have hl : (nat v).length ≤ 16777216 := nat_len_of hb
  have h1 := @RLeft_does G (nat v) k (by omega) (nat_ws _) (by omega)
  rw [val_nat] at h1
  have hb2 : bl (v * 2 ^ k) ≤ 33554432 := by
    by_cases h0 : v = 0
    · subst h0; simp [bl_zero]
    · rw [bl_mul_pow _ _ (by omega)]; omega
  have hl2 := nat_len_of hb2
  have h2 := @DivMod_one G (nat (v * 2 ^ k)) (by omega) (nat_ws _)
  have h3 := @IsZero_does G (nat 0) (by rw [nat_zero]; decide) (nat_ws _)
  have h4 := @RRight_does G (nat (v * 2 ^ k)) 1 (by omega) (nat_ws _) (by decide)
  have h5 := @RBit_does G (nat (v * 2 ^ k)) (by omega) (nat_ws _) 0 (by constructor <;> decide)
  rw [val_nat] at h2 h3 h4 h5
  simp only [Nat.pow_one, Int.toNat_zero, Nat.pow_zero, Nat.div_one, decide_true, Bool.true_and, Int.le_refl] at h3 h4 h5
  generalize v * 2 ^ k = q at *
  have hmul : (1 : Int) * (s - 1) = s - 1 := Int.one_mul _
  refine Does.of (nt := 82) Tryz.func95 rfl rfl rfl (by simp) ?_
  simp only [argTm, PV.ext, Ce.ext]
  refine Do.seqk fun _ k1_ => ?_
  refine Do.region [1,2,4] true ?_
  simp [go_sem, hmul, hk]
  apply k1_; clear k1_
  refine Do.seqk fun _ k2_ => ?_
  refine Do.region [2,4,5] true ?_
  simp [go_sem, hmul, hk]
  repeat (refine And.intro (by first | omega | (intros; omega) | (intros; exact And.intro (by assumption) (by omega)) | grind) ?_)
  apply k2_; clear k2_
  refine Do.seqk fun _ k3_ => ?_
  refine Do.region [2,4,5] true ?_
  simp [go_sem, hmul, hk]
  apply k3_; clear k3_
  refine Do.seqk fun _ k4_ => ?_
  refine Do.region [2,4,5] true ?_
  simp [go_sem, hmul, hk]
  apply k4_; clear k4_
  refine Do.seqk fun _ k5_ => ?_
  refine Do.seqk fun _ k6_ => ?_
  refine Do.region [2,4,5,22] true ?_
  simp [go_sem, hmul, hk]
  apply k6_; clear k6_
  refine Do.cond [2,4,5] rfl (fun h => ?_) (fun h => ?_) <;> simp [go_sem, hmul, hk] at h ⊢
  refine Do.seqk fun _ k7_ => ?_
  refine Do.draw [2,4,8,9] true (by kernel_rfl) ?_
  simp [go_sem, hmul, hk]
  repeat (refine And.intro (by first | omega | (intros; omega) | (intros; exact And.intro (by assumption) (by omega)) | kernel_rfl | grind) ?_)
  refine DoLD.call true 504 rfl rfl rfl rfl (by first | exact trivial | omega | (simp; done) | (simp; omega)) (h1) rfl (by first | exact .inl rfl | exact .inr rfl) rfl ?_
  simp [go_sem, hmul, hk]
  repeat (refine And.intro (by first | omega | (intros; omega) | (intros; exact And.intro (by assumption) (by omega)) | kernel_rfl | grind) ?_)
  refine DoLD.call true 507 rfl rfl rfl rfl (by first | exact trivial | omega | (simp; done) | (simp; omega)) (h2) rfl (by first | exact .inl rfl | exact .inr rfl) rfl ?_
  simp [go_sem, hmul, hk]
  try (refine And.intro (by kernel_rfl) ?_)
  apply k7_; clear k7_
  refine Do.region [2,4,6,7] true ?_
  simp [go_sem, hmul, hk]
  refine DoL.call true 603 rfl rfl rfl rfl (by first | exact trivial | omega | (simp; done) | (simp; omega)) (h3) rfl (by first | exact .inl rfl | exact .inr rfl) rfl ?_
  simp [go_sem, hmul, hk]
  apply k5_; clear k5_
  refine Do.seqk fun _ k8_ => ?_
  refine Do.seqk fun _ k9_ => ?_
  refine Do.region [2,4,6,7,59] true ?_
  simp [go_sem, hmul, hk]
  repeat (refine And.intro (by first | omega | (intros; omega) | (intros; exact And.intro (by assumption) (by omega)) | grind) ?_)
  apply k9_; clear k9_
  refine Do.cond [2,4,6,7] rfl (fun h => ?_) (fun h => ?_) <;> simp [go_sem, hmul, hk] at h ⊢
  refine Do.skip ?_
  simp [go_sem]
  apply k8_; clear k8_
  refine Do.seqk fun _ k10_ => ?_
  refine Do.region [4] true ?_
  simp [go_sem, hmul, hk]
  refine DoL.call true 1402 rfl rfl rfl rfl (by first | exact trivial | omega | (simp; done) | (simp; omega)) (h4) rfl (by first | exact .inl rfl | exact .inr rfl) rfl ?_
  simp [go_sem, hmul, hk]
  refine DoL.call true 1404 rfl rfl rfl rfl (by first | exact trivial | omega | (simp; done) | (simp; omega)) (h5) rfl (by first | exact .inl rfl | exact .inr rfl) rfl ?_
  simp [go_sem, hmul, hk]
  repeat (refine And.intro (by first | omega | (intros; omega) | (intros; exact And.intro (by assumption) (by omega)) | grind) ?_)
  apply k10_; clear k10_
  refine Do.ret ?_
  simp [endQ, rets, ret1, go_sem, hmul, hk]
  repeat (refine And.intro (by first | omega | (intros; omega) | (intros; exact And.intro (by assumption) (by omega)) | grind) ?_)
  exact pt_le (PLe.ext (.c (.w true _)))
theorem Steps_down {n : Bool} {v : Nat} {e s : Int} {k : Nat} (hk : e - (s - 1) = -(k : Int)) (hk0 : 0 < k) (hk' : k < 4611686018427387904) (hb : bl v ≤ 16777216) (he : Md e) (hs : Md s) : Does Tryz.prog G 95 [Rl n v e, .c (.i .i64 s)] (.v (Pt (v / 2 ^ k / 2) (decide (v / 2 ^ k % 2 = 1)) (!decide (v % 2 ^ k = 0)))) := by
  have hl : (nat v).length ≤ 16777216 := nat_len_of hb
  have h1 := @RRight_does G (nat v) k (by omega) (nat_ws _) (by omega)
  rw [val_nat] at h1
  have hl2 : (nat (v / 2 ^ k)).length ≤ 16777216 := nat_len_of (Nat.le_trans (bl_mono (Nat.div_le_self _ _)) hb)
  have hl3 : (nat (v % 2 ^ k)).length ≤ 16777216 := nat_len_of (Nat.le_trans (bl_mono (Nat.mod_le _ _)) hb)
  have h2 := @DivMod_one G (nat v) (by omega) (nat_ws _)
  have h3 := @IsZero_does G (nat 0) (by rw [nat_zero]; decide) (nat_ws _)
  have h4 := @RRight_does G (nat (v / 2 ^ k)) 1 (by omega) (nat_ws _) (by decide)
  have h5 := @RBit_does G (nat (v / 2 ^ k)) (by omega) (nat_ws _) 0 (by constructor <;> decide)
  have h6 := @RLow_does G (nat v) k (by omega) (nat_ws _) (by omega)
  have h7 := @IsZero_does G (nat (v % 2 ^ k)) (by omega) (nat_ws _)
  rw [val_nat] at h2 h3 h4 h5 h6 h7
  simp only [Nat.pow_one, Int.toNat_zero, Nat.pow_zero, Nat.div_one, decide_true, Bool.true_and, Int.le_refl] at h3 h4 h5
  generalize v / 2 ^ k = q at *
  generalize v % 2 ^ k = w at *
  have hmul : (1 : Int) * (s - 1) = s - 1 := Int.one_mul _
  have hneg : ¬ (k : Int) ≤ 0 := by omega
  have hneg2 : ¬ k = 0 := by omega
  have hneg3 : ¬ 0 ≤ -(k : Int) := by omega
  refine Does.of (nt := 82) Tryz.func95 rfl rfl rfl (by simp) ?_
  simp only [argTm, PV.ext, Ce.ext]
  refine Do.seqk fun _ k1_ => ?_
  refine Do.region [1,2,4] true ?_
  simp [go_sem, hmul, hk, hneg, hneg2, hneg3]
  apply k1_; clear k1_
  refine Do.seqk fun _ k2_ => ?_
  refine Do.region [2,4,5] true ?_
  simp [go_sem, hmul, hk, hneg, hneg2, hneg3]
  repeat (refine And.intro (by first | omega | (intros; omega) | (intros; exact And.intro (by assumption) (by omega)) | grind) ?_)
  apply k2_; clear k2_
  refine Do.seqk fun _ k3_ => ?_
  refine Do.region [2,4,5] true ?_
  simp [go_sem, hmul, hk, hneg, hneg2, hneg3]
  apply k3_; clear k3_
  refine Do.seqk fun _ k4_ => ?_
  refine Do.region [2,4,5] true ?_
  simp [go_sem, hmul, hk, hneg, hneg2, hneg3]
  apply k4_; clear k4_
  refine Do.seqk fun _ k5_ => ?_
  refine Do.seqk fun _ k6_ => ?_
  refine Do.region [2,4,5,22] true ?_
  simp [go_sem, hmul, hk, hneg, hneg2, hneg3]
  apply k6_; clear k6_
  refine Do.cond [2,4,5] rfl (fun h => ?_) (fun h => ?_) <;> simp [go_sem, hmul, hk, hneg, hneg2, hneg3] at h ⊢
  refine Do.seqk fun _ k7_ => ?_
  refine Do.region [2,4,5,10,11] true ?_
  simp [go_sem, hmul, hk, hneg, hneg2, hneg3]
  repeat (refine And.intro (by first | omega | (intros; omega) | (intros; exact And.intro (by assumption) (by omega)) | grind) ?_)
  refine DoL.call true 705 rfl rfl rfl rfl (by first | exact trivial | omega | (simp; done) | (simp; omega)) (h2) rfl (by first | exact .inl rfl | exact .inr rfl) rfl ?_
  simp [go_sem, hmul, hk, hneg, hneg2, hneg3]
  apply k7_; clear k7_
  refine Do.seqk fun _ k8_ => ?_
  refine Do.region [2,4,5,6,10,11] true ?_
  simp [go_sem, hmul, hk, hneg, hneg2, hneg3]
  repeat (refine And.intro (by first | omega | (intros; omega) | (intros; exact And.intro (by assumption) (by omega)) | grind) ?_)
  refine DoL.call true 804 rfl rfl rfl rfl (by first | exact trivial | omega | (simp; done) | (simp; omega)) (h1) rfl (by first | exact .inl rfl | exact .inr rfl) rfl ?_
  simp [go_sem, hmul, hk, hneg, hneg2, hneg3]
  apply k8_; clear k8_
  refine Do.region [2,4,6,7] true ?_
  simp [go_sem, hmul, hk, hneg, hneg2, hneg3]
  refine DoL.call true 902 rfl rfl rfl rfl (by first | exact trivial | omega | (simp; done) | (simp; omega)) (h3) rfl (by first | exact .inl rfl | exact .inr rfl) rfl ?_
  simp [go_sem, hmul, hk, hneg, hneg2, hneg3]
  repeat (refine And.intro (by first | omega | (intros; omega) | (intros; exact And.intro (by assumption) (by omega)) | grind) ?_)
  refine DoL.callg true 907 rfl rfl rfl rfl rfl (by simp [go_sem] <;> omega) (fun _ => h6) rfl (by first | exact .inl rfl | exact .inr rfl) rfl ?_
  simp [go_sem, hmul, hk, hneg, hneg2, hneg3]
  refine DoL.callg true 908 rfl rfl rfl rfl rfl (by simp [go_sem] <;> omega) (fun _ => h7) rfl (by first | exact .inl rfl | exact .inr rfl) rfl ?_
  simp [go_sem, hmul, hk, hneg, hneg2, hneg3]
  apply k5_; clear k5_
  refine Do.seqk fun _ k9_ => ?_
  refine Do.seqk fun _ k10_ => ?_
  refine Do.region [2,4,6,7,59] true ?_
  simp [go_sem, hmul, hk, hneg, hneg2, hneg3]
  repeat (refine And.intro (by first | omega | (intros; omega) | (intros; exact And.intro (by assumption) (by omega)) | grind) ?_)
  apply k10_; clear k10_
  refine Do.cond [2,4,6,7] rfl (fun h => ?_) (fun h => ?_) <;> simp [go_sem, hmul, hk, hneg, hneg2, hneg3] at h ⊢
  refine Do.skip ?_
  simp [go_sem]
  apply k9_; clear k9_
  refine Do.seqk fun _ k11_ => ?_
  refine Do.region [4] true ?_
  simp [go_sem, hmul, hk, hneg, hneg2, hneg3]
  refine DoL.call true 1402 rfl rfl rfl rfl (by first | exact trivial | omega | (simp; done) | (simp; omega)) (h4) rfl (by first | exact .inl rfl | exact .inr rfl) rfl ?_
  simp [go_sem, hmul, hk, hneg, hneg2, hneg3]
  refine DoL.call true 1404 rfl rfl rfl rfl (by first | exact trivial | omega | (simp; done) | (simp; omega)) (h5) rfl (by first | exact .inl rfl | exact .inr rfl) rfl ?_
  simp [go_sem, hmul, hk, hneg, hneg2, hneg3]
  repeat (refine And.intro (by first | omega | (intros; omega) | (intros; exact And.intro (by assumption) (by omega)) | grind) ?_)
  apply k11_; clear k11_
  refine Do.ret ?_
  simp [endQ, rets, ret1, go_sem, hmul, hk, hneg, hneg2, hneg3]
  repeat (refine And.intro (by first | omega | (intros; omega) | (intros; exact And.intro (by assumption) (by omega)) | grind) ?_)
  exact pt_le (PLe.ext (.c (.w true _)))
end Go.Proofs.YthpkhmbjmnhmoaaGreatDoor
