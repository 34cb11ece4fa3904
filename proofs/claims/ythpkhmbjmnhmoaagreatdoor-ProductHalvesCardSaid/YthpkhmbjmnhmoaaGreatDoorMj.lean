/- The program's product of natural numbers. No condition. A rounding without flags: the number is one of the format. No condition. The reference's products. No condition. The program's products. No condition. The product of two floats, by the program and by the reference. No condition. Sums of products, by the program. No condition. Sums of products, by the reference. No condition. The program awake: products. No condition. The law ProductMuls. No condition. The law ProductFused. No condition. The law ProductDots. No condition. The parts of a product. No condition. The law ProductParts. No condition. -/
import Derived.Test.YthpkhmbjmnhmoaaGreatDoorMi
import Derived.Test.YthpkhmbjmnhmoaaGreatDoorMd
import Derived.Test.YthpkhmbjmnhmoaaGreatDoorMf
import Derived.Lib.Mul64
import Derived.Test.YthpkhmbjmnhmoaaGreatDoorMh
/- The program's product of natural numbers. No condition. -/
namespace Go.Proofs.YthpkhmbjmnhmoaaGreatDoor
set_option linter.unusedVariables false
set_option linter.unusedSimpArgs false
variable {G : Gl}
set_option maxHeartbeats 4000000
set_option maxRecDepth 10000
theorem mask32 (a : Nat) : a &&& 4294967295 = a % 4294967296 := Nat.and_two_pow_sub_one_eq_mod a 32
theorem Mul64_does {x y : Nat} (hx : x < 18446744073709551616) (hy : y < 18446744073709551616) : Does Tryz.prog G 160 [.c (.n x), .c (.n y)] (.t [.c (.n (x * y / 18446744073709551616)), .c (.n (x * y % 18446744073709551616))]) := by
  obtain ⟨bd, bt, bw, hhi⟩ := Lib.mul64_hi x y hx hy
  have ba := Lib.half_mul_le (a := x / 4294967296) (b := y / 4294967296) (by omega) (by omega)
  have bb := Lib.half_mul_le (a := x / 4294967296) (b := y % 4294967296) (by omega) (by omega)
  have bc := Lib.half_mul_le (a := x % 4294967296) (b := y / 4294967296) (by omega) (by omega)
  generalize hxl : x % 4294967296 = xl at *
  generalize hxh : x / 4294967296 = xh at *
  generalize hyl : y % 4294967296 = yl at *
  generalize hyh : y / 4294967296 = yh at *
  have bx : x < M64 := hx
  have hy64 : y < M64 := hy
  have b0 : xl * yl < M64 := bd
  have b1 : xh * yl < M64 := by unfold M64; omega
  have b2 : xh * yl + xl * yl / 4294967296 < M64 := bt
  have b3 : xl * yh < M64 := by unfold M64; omega
  have b4 : (xh * yl + xl * yl / 4294967296) % 4294967296 + xl * yh < M64 := bw
  have b5 : xh * yh < M64 := by unfold M64; omega
  have b6 : xh * yh + (xh * yl + xl * yl / 4294967296) / 4294967296 < M64 := by unfold M64; omega
  have b7 : xh * yh + (xh * yl + xl * yl / 4294967296) / 4294967296 + ((xh * yl + xl * yl / 4294967296) % 4294967296 + xl * yh) / 4294967296 < M64 := by unfold M64; omega
  refine Does.of (nt := 51) Tryz.func160 rfl rfl rfl (by simp) ?_
  simp only [argTm, PV.ext, Ce.ext]
  refine Do.seqk fun _ k1_ => ?_
  refine Do.region [0,1] true ?_
  simp [go_sem, mask32, bx, hy64, hxl, hxh, hyl, hyh, b0, b1, b2, b3, b4, b5, b6, b7]
  apply k1_; clear k1_
  refine Do.seqk fun _ k2_ => ?_
  refine Do.region [0,1,6] true ?_
  simp [go_sem, mask32, bx, hy64, hxl, hxh, hyl, hyh, b0, b1, b2, b3, b4, b5, b6, b7]
  apply k2_; clear k2_
  refine Do.seqk fun _ k3_ => ?_
  refine Do.region [0,1,6,7] true ?_
  simp [go_sem, mask32, bx, hy64, hxl, hxh, hyl, hyh, b0, b1, b2, b3, b4, b5, b6, b7]
  repeat (refine And.intro (by first | omega | (intros; omega) | (intros; exact And.intro (by assumption) (by omega)) | grind) ?_)
  apply k3_; clear k3_
  refine Do.seqk fun _ k4_ => ?_
  refine Do.region [0,1,6,7,8] true ?_
  simp [go_sem, mask32, bx, hy64, hxl, hxh, hyl, hyh, b0, b1, b2, b3, b4, b5, b6, b7]
  apply k4_; clear k4_
  refine Do.seqk fun _ k5_ => ?_
  refine Do.region [0,1,6,7,8,9] true ?_
  simp [go_sem, mask32, bx, hy64, hxl, hxh, hyl, hyh, b0, b1, b2, b3, b4, b5, b6, b7]
  repeat (refine And.intro (by first | omega | (intros; omega) | (intros; exact And.intro (by assumption) (by omega)) | grind) ?_)
  apply k5_; clear k5_
  refine Do.seqk fun _ k6_ => ?_
  refine Do.region [0,1,6,7,8,9,10] true ?_
  simp [go_sem, mask32, bx, hy64, hxl, hxh, hyl, hyh, b0, b1, b2, b3, b4, b5, b6, b7]
  repeat (refine And.intro (by first | omega | (intros; omega) | (intros; exact And.intro (by assumption) (by omega)) | grind) ?_)
  apply k6_; clear k6_
  refine Do.seqk fun _ k7_ => ?_
  refine Do.region [0,1,6,7,9,11] true ?_
  simp [go_sem, mask32, bx, hy64, hxl, hxh, hyl, hyh, b0, b1, b2, b3, b4, b5, b6, b7]
  repeat (refine And.intro (by first | omega | (intros; omega) | (intros; exact And.intro (by assumption) (by omega)) | grind) ?_)
  apply k7_; clear k7_
  refine Do.seqk fun _ k8_ => ?_
  refine Do.region [0,1,6,7,9,11,12] true ?_
  simp [go_sem, mask32, bx, hy64, hxl, hxh, hyl, hyh, b0, b1, b2, b3, b4, b5, b6, b7]
  apply k8_; clear k8_
  refine Do.seqk fun _ k9_ => ?_
  refine Do.region [0,1,6,7,9,12,13] true ?_
  simp [go_sem, mask32, bx, hy64, hxl, hxh, hyl, hyh, b0, b1, b2, b3, b4, b5, b6, b7]
  repeat (refine And.intro (by first | omega | (intros; omega) | (intros; exact And.intro (by assumption) (by omega)) | grind) ?_)
  apply k9_; clear k9_
  refine Do.seqk fun _ k10_ => ?_
  refine Do.region [0,1,7,9,12,13] true ?_
  simp [go_sem, mask32, bx, hy64, hxl, hxh, hyl, hyh, b0, b1, b2, b3, b4, b5, b6, b7]
  repeat (refine And.intro (by first | omega | (intros; omega) | (intros; exact And.intro (by assumption) (by omega)) | grind) ?_)
  apply k10_; clear k10_
  refine Do.seqk fun _ k11_ => ?_
  refine Do.region [0,1,4] true ?_
  simp [go_sem, mask32, bx, hy64, hxl, hxh, hyl, hyh, b0, b1, b2, b3, b4, b5, b6, b7]
  repeat (refine And.intro (by first | omega | (intros; omega) | (intros; exact And.intro (by assumption) (by omega)) | grind) ?_)
  apply k11_; clear k11_
  refine Do.seqk fun _ k12_ => ?_
  refine Do.region [4,5] false ?_
  simp [go_sem, mask32, bx, hy64, hxl, hxh, hyl, hyh, b0, b1, b2, b3, b4, b5, b6, b7]
  repeat (refine And.intro (by first | omega | (intros; omega) | (intros; exact And.intro (by assumption) (by omega)) | grind) ?_)
  apply k12_; clear k12_
  refine Do.ret ?_
  simp [endQ, rets, ret1, go_sem, mask32, bx, hy64, hxl, hxh, hyl, hyh, b0, b1, b2, b3, b4, b5, b6, b7]
  repeat (refine And.intro (by first | omega | (intros; omega) | (intros; exact And.intro (by assumption) (by omega)) | grind) ?_)
  rw [hhi]
  exact TLe.refl _
theorem mul_step {p q c hi lo l1 c1 l2 c2 : Nat} (hp : p ≤ 340282366920938463426481119284349108225) (hq : q < 18446744073709551616) (hc : c < 18446744073709551616)
    (e1 : p / 18446744073709551616 = hi) (e2 : p % 18446744073709551616 = lo) (e3 : (lo + q + 0) % 18446744073709551616 = l1) (e4 : (lo + q + 0) / 18446744073709551616 = c1) (e5 : (l1 + c + 0) % 18446744073709551616 = l2) (e6 : (l1 + c + 0) / 18446744073709551616 = c2) :
    (c + q + p) % 18446744073709551616 = l2 ∧ (c + q + p) / 18446744073709551616 = hi + c1 + c2 ∧ hi + c1 < 18446744073709551616 ∧ hi + c1 + c2 < 18446744073709551616 := by omega
theorem WMul_does {x y : List Nat} (hx : x.length < 536870912) (hy : y.length < 536870912) (wx : Ws x) (wy : Ws y) : Does Tryz.prog G 134 [Wd x, Wd y] (.v (Wn (nat (val x * val y)))) := by
  have hvx := @view_does G x (by unfold Sh; omega)
  have hvy := @view_does G y (by unfold Sh; omega)
  have hlx := norm_length x
  have hly := norm_length y
  have ltx := val_lt (norm_ws wx)
  have lty := val_lt (norm_ws wy)
  rw [val_norm] at ltx lty
  obtain ⟨j, hj⟩ : ∃ j, (norm x).length = j := ⟨_, rfl⟩
  obtain ⟨k, hk⟩ : ∃ k, (norm y).length = k := ⟨_, rfl⟩
  have ea : norm x = wds (val x) j := by rw [← hj, ← val_norm x]; exact (wds_of (norm_ws wx)).symm
  have eb : norm y = wds (val y) k := by rw [← hk, ← val_norm y]; exact (wds_of (norm_ws wy)).symm
  rw [hj] at ltx hlx
  rw [hk] at lty hly
  rw [ea] at hvx
  rw [eb] at hvy
  clear ea eb hj hk
  generalize val x = A at *
  generalize val y = B at *
  have hend := @tpw_end A B j ltx
  have hst := fun i => @TimesW.start A B k i lty
  have hout := fun i Q c (h : TimesW A B k i k Q c) hi => @TimesW.out A B j k i Q c h lty hi
  have hT := @Trim_does G (wds (A * B) (j + k)) (by unfold Sh; rw [wds_len]; omega) (wds_ws _ _)
  rw [val_wds, Nat.mod_eq_of_lt (by rw [Nat.pow_add]; exact Nat.mul_lt_mul'' ltx lty)] at hT
  have hz : j = 0 ∨ k = 0 → A * B = 0 := by
    rintro (h | h)
    · subst h; have : A = 0 := by simpa using ltx
      rw [this, Nat.zero_mul]
    · subst h; have : B = 0 := by simpa using lty
      rw [this, Nat.mul_zero]
  clear ltx lty
  refine Does.of (nt := 93) Tryz.func134 rfl rfl rfl (by simp) ?_
  simp only [argTm, PV.ext, Ce.ext]
  refine Do.seqk fun _ k1_ => ?_
  refine Do.region [0,1] true ?_
  simp [go_sem, wds_len, -List.reduceReplicate]
  apply k1_; clear k1_
  refine Do.seqk fun _ k2_ => ?_
  refine Do.region [0,1] true ?_
  simp [go_sem, wds_len, -List.reduceReplicate]
  refine DoL.call true 102 rfl rfl rfl rfl (by first | exact trivial | omega | (simp; done) | (simp; omega)) (hvx) rfl (by first | exact .inl rfl | exact .inr rfl) rfl ?_
  simp [go_sem, wds_len, -List.reduceReplicate]
  refine DoL.call true 104 rfl rfl rfl rfl (by first | exact trivial | omega | (simp; done) | (simp; omega)) (hvy) rfl (by first | exact .inl rfl | exact .inr rfl) rfl ?_
  simp [go_sem, wds_len, -List.reduceReplicate]
  apply k2_; clear k2_
  refine Do.seqk fun _ k3_ => ?_
  refine Do.seqk fun _ k4_ => ?_
  refine Do.region [0,1,25] true ?_
  simp [go_sem, wds_len, -List.reduceReplicate]
  repeat (refine And.intro (by first | omega | (intros; omega) | (intros; exact And.intro (by assumption) (by omega)) | grind) ?_)
  apply k4_; clear k4_
  refine Do.cond [0,1] rfl (fun h0 => ?_) (fun h0 => ?_) <;> simp [go_sem, wds_len, -List.reduceReplicate] at h0 ⊢
  · refine Do.seqk fun _ k5_ => ?_
    refine Do.region [4] true ?_
    simp [go_sem, wds_len, -List.reduceReplicate]
    apply k5_; clear k5_
    refine Do.ret ?_
    simp [endQ, rets, ret1, go_sem, wds_len, -List.reduceReplicate]
    repeat (refine And.intro (by first | omega | (intros; omega) | (intros; exact And.intro (by assumption) (by omega)) | grind) ?_)
    rw [hz (by omega), nat_zero]
    exact TLe.v (PLe.z true)
  · refine Do.skip ?_
    simp [go_sem]
    apply k3_; clear k3_
    refine Do.seqk fun _ k6_ => ?_
    refine Do.region [0,1,5] true ?_
    simp [go_sem, wds_len, -List.reduceReplicate]
    repeat (refine And.intro (by first | omega | (intros; omega) | (intros; exact And.intro (by assumption) (by omega)) | grind) ?_)
    apply k6_; clear k6_
    refine Do.seqk fun _ k7_ => ?_
    refine Do.seqk fun _ k8_ => ?_
    refine Do.region [1,5,32,33,34] true ?_
    simp [go_sem, wds_len, -List.reduceReplicate]
    repeat (refine And.intro (by first | omega | (intros; omega) | (intros; exact And.intro (by assumption) (by omega)) | grind) ?_)
    apply k8_; clear k8_
    refine Do.block ?_
    rw [show ((j : Int) + k).toNat = j + k by omega, wds_zero]
    refine Do.loopF [1,5,32,33,34] (fun (i : Nat) => [(34, .int .i64 i)]) (fun (i : Nat) => [(405, .wr (wds (tpw A B i) (j + k)))]) (fun (i : Nat) => i ≤ j) (fun (i : Nat) => j - i) (0) (fun _ => by first | (simp [go_sem, mixS]; done) | (simp [go_sem, mixS]; rfl)) (St.le_of (by simp [keep, tpw_zero]) (by simp [keep, tpw_zero])) (Nat.zero_le _) ?_
    intro i hi
    refine Do.seqk fun _ k9_ => ?_
    refine Do.region [1,5,32,33,34,35] true ?_
    simp [go_sem, wds_len, -List.reduceReplicate]
    apply k9_; clear k9_
    refine Do.seqk fun _ k10_ => ?_
    refine Do.cond [1,5,32,33,34] rfl (fun h => ?_) (fun h => ?_) <;> simp [go_sem, wds_len, -List.reduceReplicate] at h ⊢
    · have g2 := @wds_dgw j A i h
      have la := dgw_lt A i
      refine Do.skip ?_
      simp [go_sem]
      apply k10_; clear k10_
      refine Do.seqk fun _ k11_ => ?_
      refine Do.block ?_
      refine Do.seqk fun _ k12_ => ?_
      refine Do.region [1,5,6,7,32,33,34] true ?_
      simp [go_sem, g2, wds_len]
      repeat (refine And.intro (by first | omega | (intros; omega) | (intros; exact And.intro (by assumption) (by omega)) | grind) ?_)
      apply k12_; clear k12_
      refine Do.seqk fun _ k13_ => ?_
      refine Do.region [1,5,6,7,8,32,33,34] true ?_
      simp [go_sem, g2, wds_len]
      apply k13_; clear k13_
      refine Do.seqk fun _ k14_ => ?_
      refine Do.seqk fun _ k15_ => ?_
      refine Do.region [1,5,6,7,8,32,33,34,39,40,41] true ?_
      simp [go_sem, g2, wds_len]
      repeat (refine And.intro (by first | omega | (intros; omega) | (intros; exact And.intro (by assumption) (by omega)) | grind) ?_)
      apply k15_; clear k15_
      refine Do.block ?_
      refine Do.loopF [1,5,6,7,8,32,33,34,39,40,41] (fun (s : Nat × Nat × Nat) => [(8, .v (.c (.n s.2.2))), (41, .int .i64 s.1)]) (fun (s : Nat × Nat × Nat) => [(405, .wr (wds s.2.1 (j + k)))]) (fun (s : Nat × Nat × Nat) => s.1 ≤ k ∧ TimesW A B k i s.1 s.2.1 s.2.2) (fun (s : Nat × Nat × Nat) => k - s.1) ((0, tpw A B i, 0)) (fun _ => by first | (simp [go_sem, mixS]; done) | (simp [go_sem, mixS]; rfl)) (St.le_of (by first | rfl | simp [keep]) (by first | rfl | simp [keep])) (⟨Nat.zero_le _, hst i⟩) ?_
      rintro ⟨t, Q, c⟩ ⟨ht, hI⟩
      simp only at ht hI
      refine Do.seqk fun _ k16_ => ?_
      refine Do.region [1,5,6,7,8,32,33,34,39,40,41,42] true ?_
      simp [go_sem, g2, wds_len]
      apply k16_; clear k16_
      refine Do.seqk fun _ k17_ => ?_
      refine Do.cond [1,5,6,7,8,32,33,34,39,40,41] rfl (fun h2 => ?_) (fun h2 => ?_) <;> simp [go_sem, g2, wds_len] at h2 ⊢
      · obtain ⟨hb1, Q', e1, hI'⟩ := hI.next h h2
        have g1 := @wds_dgw (j + k) Q (i + t) (by omega)
        have g3 := @wds_dgw k B t h2
        have lq := dgw_lt Q (i + t)
        have lb := dgw_lt B t
        have l2 := mul_lt_sqW (dgw_lt A i) (dgw_lt B t)
        have hc := hI.2.2
        have hM := @Mul64_does G _ _ la lb
        obtain ⟨hh, eh⟩ : ∃ h, dgw A i * dgw B t / 18446744073709551616 = h := ⟨_, rfl⟩
        obtain ⟨lo, el⟩ : ∃ h, dgw A i * dgw B t % 18446744073709551616 = h := ⟨_, rfl⟩
        have hA1 := @Add64_does G lo (dgw Q (i + t)) 0 (Nat.zero_le _)
        obtain ⟨l1, e3⟩ : ∃ h, (lo + dgw Q (i + t) + 0) % 18446744073709551616 = h := ⟨_, rfl⟩
        obtain ⟨c1, e4⟩ : ∃ h, (lo + dgw Q (i + t) + 0) / 18446744073709551616 = h := ⟨_, rfl⟩
        have hA2 := @Add64_does G l1 c 0 (Nat.zero_le _)
        obtain ⟨w2, e5⟩ : ∃ h, (l1 + c + 0) % 18446744073709551616 = h := ⟨_, rfl⟩
        obtain ⟨c2, e6⟩ : ∃ h, (l1 + c + 0) / 18446744073709551616 = h := ⟨_, rfl⟩
        obtain ⟨s1, s2, s3, s4⟩ := mul_step l2 lq hc eh el e3 e4 e5 e6
        rw [eh, el] at hM
        rw [e3, e4] at hA1
        rw [e5, e6] at hA2
        rw [s1] at e1
        rw [s2] at hI'
        have b1 : hh + c1 < M64 := s3
        have b2 : hh + c1 + c2 < M64 := s4
        refine Do.skip ?_
        simp [go_sem]
        apply k17_; clear k17_
        refine Do.seqk fun _ k18_ => ?_
        refine Do.block ?_
        refine Do.seqk fun _ k19_ => ?_
        refine Do.region [1,5,6,7,8,9,10,32,33,34,39,40,41] true ?_
        simp [go_sem, g1, g2, g3, wds_len, b1, b2, show ((i : Int) + t).toNat = i + t by omega]
        repeat (refine And.intro (by first | omega | (intros; omega) | (intros; exact And.intro (by assumption) (by omega)) | grind) ?_)
        apply k19_; clear k19_
        refine Do.seqk fun _ k20_ => ?_
        refine Do.region [1,5,6,7,8,9,11,12,32,33,34,39,40,41] true ?_
        simp [go_sem, g1, g2, g3, wds_len, b1, b2, show ((i : Int) + t).toNat = i + t by omega]
        refine DoL.call true 1203 rfl rfl rfl rfl (by first | exact trivial | omega | (simp; done) | (simp; omega)) (hM) rfl (by first | exact .inl rfl | exact .inr rfl) rfl ?_
        simp [go_sem, g1, g2, g3, wds_len, b1, b2, show ((i : Int) + t).toNat = i + t by omega]
        apply k20_; clear k20_
        refine Do.seqk fun _ k21_ => ?_
        refine Do.region [1,5,6,7,8,9,11,12,32,33,34,39,40,41] true ?_
        simp [go_sem, g1, g2, g3, wds_len, b1, b2, show ((i : Int) + t).toNat = i + t by omega]
        apply k21_; clear k21_
        refine Do.seqk fun _ k22_ => ?_
        refine Do.region [1,5,6,7,8,9,11,12,13,32,33,34,39,40,41] true ?_
        simp [go_sem, g1, g2, g3, wds_len, b1, b2, show ((i : Int) + t).toNat = i + t by omega]
        repeat (refine And.intro (by first | omega | (intros; omega) | (intros; exact And.intro (by assumption) (by omega)) | grind) ?_)
        refine DoL.call true 1408 rfl rfl rfl rfl (by first | exact trivial | omega | (simp; done) | (simp; omega)) (hA1) rfl (by first | exact .inl rfl | exact .inr rfl) rfl ?_
        simp [go_sem, g1, g2, g3, wds_len, b1, b2, show ((i : Int) + t).toNat = i + t by omega]
        apply k22_; clear k22_
        refine Do.seqk fun _ k23_ => ?_
        refine Do.region [1,5,6,7,8,9,11,12,32,33,34,39,40,41] true ?_
        simp [go_sem, g1, g2, g3, wds_len, b1, b2, show ((i : Int) + t).toNat = i + t by omega]
        repeat (refine And.intro (by first | omega | (intros; omega) | (intros; exact And.intro (by assumption) (by omega)) | grind) ?_)
        apply k23_; clear k23_
        refine Do.seqk fun _ k24_ => ?_
        refine Do.region [1,5,6,7,9,11,12,13,32,33,34,39,40,41] true ?_
        simp [go_sem, g1, g2, g3, wds_len, b1, b2, show ((i : Int) + t).toNat = i + t by omega]
        refine DoL.call true 1603 rfl rfl rfl rfl (by first | exact trivial | omega | (simp; done) | (simp; omega)) (hA2) rfl (by first | exact .inl rfl | exact .inr rfl) rfl ?_
        simp [go_sem, g1, g2, g3, wds_len, b1, b2, show ((i : Int) + t).toNat = i + t by omega]
        apply k24_; clear k24_
        refine Do.seqk fun _ k25_ => ?_
        refine Do.region [1,5,6,7,9,11,12,32,33,34,39,40,41] true ?_
        simp [go_sem, g1, g2, g3, wds_len, b1, b2, show ((i : Int) + t).toNat = i + t by omega]
        repeat (refine And.intro (by first | omega | (intros; omega) | (intros; exact And.intro (by assumption) (by omega)) | grind) ?_)
        apply k25_; clear k25_
        refine Do.region [1,5,6,7,8,32,33,34,39,40,41] true ?_
        simp [go_sem, g1, g2, g3, wds_len, b1, b2, show ((i : Int) + t).toNat = i + t by omega]
        repeat (refine And.intro (by first | omega | (intros; omega) | (intros; exact And.intro (by assumption) (by omega)) | grind) ?_)
        apply k18_; clear k18_
        refine Do.region [1,5,6,7,8,32,33,34,39,40,41] true ?_
        simp [go_sem, g1, g2, g3, wds_len, b1, b2, show ((i : Int) + t).toNat = i + t by omega]
        repeat (refine And.intro (by first | omega | (intros; omega) | (intros; exact And.intro (by assumption) (by omega)) | grind) ?_)
        refine ⟨(t + 1, Q', hh + c1 + c2), St.le_of rfl (by simp [keep, e1]), ⟨by omega, hI'⟩, by simp; omega⟩
      · obtain rfl : t = k := by omega
        have ho := hout i Q c hI h
        refine Do.exit ?_
        simp [go_sem]
        apply k14_; clear k14_
        refine Do.region [1,5,32,33,34] true ?_
        simp [go_sem, wds_len, show ((i : Int) + t).toNat = i + t by omega]
        repeat (refine And.intro (by first | omega | (intros; omega) | (intros; exact And.intro (by assumption) (by omega)) | grind) ?_)
        apply k11_; clear k11_
        refine Do.region [1,5,32,33,34] true ?_
        simp [go_sem, wds_len, show ((i : Int) + t).toNat = i + t by omega]
        repeat (refine And.intro (by first | omega | (intros; omega) | (intros; exact And.intro (by assumption) (by omega)) | grind) ?_)
        refine ⟨i + 1, St.le_of rfl (by simp [keep, ho]), by omega, by simp; omega⟩
    · obtain rfl : i = j := by omega
      rw [hend]
      refine Do.exit ?_
      simp [go_sem]
      apply k7_; clear k7_
      refine Do.seqk fun _ k26_ => ?_
      refine Do.frz 405 rfl ?_
      simp [go_sem, wds_len]
      refine Do.region [4] true ?_
      simp [go_sem, wds_len, -List.reduceReplicate]
      refine DoL.call true 2202 rfl rfl rfl rfl (by first | exact trivial | omega | (simp; done) | (simp; omega)) (hT) rfl (by first | exact .inl rfl | exact .inr rfl) rfl ?_
      simp [go_sem, wds_len, -List.reduceReplicate]
      apply k26_; clear k26_
      refine Do.ret ?_
      simp [endQ, rets, ret1, go_sem, wds_len, -List.reduceReplicate]
      repeat (refine And.intro (by first | omega | (intros; omega) | (intros; exact And.intro (by assumption) (by omega)) | grind) ?_)
      exact TLe.refl _
theorem NTimes_does {a b : Nu} (ha : (nat a.v).length < 536870912) (hb : (nat b.v).length < 536870912) (h1 : -4294967296 ≤ a.e ∧ a.e ≤ 4294967296) (h2 : -4294967296 ≤ b.e ∧ b.e ≤ 4294967296) : Does Tryz.prog G 86 [a.pv, b.pv] (.v (Nm (!a.n == b.n) (nat (a.v * b.v)) (a.e + b.e))) := by
  obtain ⟨an, av, ae⟩ := a
  obtain ⟨bn, bv, be⟩ := b
  have hM := @WMul_does G (nat av) (nat bv) ha hb (nat_ws _) (nat_ws _)
  rw [val_nat, val_nat] at hM
  generalize av * bv = cv at *
  refine Does.of (nt := 21) Tryz.func86 rfl rfl rfl (by simp) ?_
  simp only [argTm, PV.ext, Ce.ext]
  refine Do.seqk fun _ k1_ => ?_
  refine Do.region [2,3,4] true ?_
  simp [go_sem]
  apply k1_; clear k1_
  refine Do.seqk fun _ k2_ => ?_
  refine Do.draw [4] true (by kernel_rfl) ?_
  simp [go_sem]
  repeat (refine And.intro (by first | omega | (intros; omega) | (intros; exact And.intro (by assumption) (by omega)) | kernel_rfl | grind) ?_)
  refine DoLD.call true 110 rfl rfl rfl rfl (by first | exact trivial | omega | (simp; done) | (simp; omega)) (hM) rfl (by first | exact .inl rfl | exact .inr rfl) rfl ?_
  simp [go_sem]
  repeat (refine And.intro (by first | omega | (intros; omega) | (intros; exact And.intro (by assumption) (by omega)) | kernel_rfl | grind) ?_)
  try (refine And.intro (by kernel_rfl) ?_)
  apply k2_; clear k2_
  refine Do.ret ?_
  simp [endQ, rets, ret1, go_sem]
  repeat (refine And.intro (by first | omega | (intros; omega) | (intros; exact And.intro (by assumption) (by omega)) | grind) ?_)
  exact TLe.v (PLe.nu (PLe.ext _))
end Go.Proofs.YthpkhmbjmnhmoaaGreatDoor
/- A rounding without flags: the number is one of the format. No condition. -/
namespace Go.Proofs.YthpkhmbjmnhmoaaGreatDoor
set_option linter.unusedVariables false
set_option linter.unusedSimpArgs false
set_option maxHeartbeats 4000000
set_option maxRecDepth 10000
theorem round_rcanon2 {f p r : Int} {n : Bool} {v : Nat} {e : Int} (hv : 0 < v) : roundP f p r n (rcanon ⟨1, n, e, v⟩).v (rcanon ⟨1, n, e, v⟩).e false = roundP f p r n v e false := by
  obtain ⟨m, hm⟩ := tz_form hv
  have e1 : v / 2 ^ tz v = 2 * m + 1 := by
    conv => lhs; arg 1; rw [hm]
    exact Nat.mul_div_cancel_left _ (Nat.pow_pos (by decide))
  have e2 : rcanon ⟨1, n, e, v⟩ = ⟨1, n, e + tz v, v / 2 ^ tz v⟩ := by simp [rcanon]
  rw [e2]
  simp only []
  have h := @roundP_scale f p r n (v / 2 ^ tz v) (tz v) (e + tz v) (by omega)
  rw [← h, show e + (tz v : Int) - (tz v : Nat) = e by omega]
  congr 1
  rw [e1, Nat.mul_comm]
  exact hm.symm
theorem cutP_exact {V : Nat} {s : Int} (h : (cutP V s false).2 = 0) : ∃ a b : Nat, V * 2 ^ a = (cutP V s false).1 * 2 ^ b ∧ (b : Int) - a = s := by
  unfold cutP at h ⊢
  by_cases hs : s ≤ 0
  · rw [if_pos hs]
    exact ⟨(-s).toNat, 0, by simp, by omega⟩
  · rw [if_neg hs] at h ⊢
    simp only [Bool.false_or] at h ⊢
    refine ⟨0, s.toNat, ?_, by omega⟩
    obtain ⟨k, hk⟩ : ∃ k : Nat, s = k + 1 := ⟨(s - 1).toNat, by omega⟩
    have e1 : (s - 1).toNat = k := by omega
    have e2 : s.toNat = k + 1 := by omega
    rw [e1] at h
    rw [e2]
    have h1 : V / 2 ^ k % 2 ≠ 1 := by
      intro h1
      rw [if_pos h1] at h
      split at h <;> simp at h
    rw [if_neg h1] at h
    have h2 : V % 2 ^ k = 0 := by
      apply Classical.byContradiction
      intro h2
      simp [h2] at h
    have h3 := Nat.div_add_mod V (2 ^ k)
    have h4 := Nat.div_add_mod (V / 2 ^ k) 2
    rw [Nat.div_div_eq_div_mul, ← Nat.pow_succ] at h4
    rw [h2] at h3
    have h5 : V / 2 ^ k % 2 = 0 := by omega
    rw [h5] at h4
    simp only [Nat.pow_zero, Nat.mul_one, Nat.add_zero] at h3 h4 ⊢
    conv => lhs; rw [← h3, ← h4]
    rw [← Nat.mul_assoc, ← Nat.pow_succ, Nat.mul_comm]
theorem roundP_flags {f p r : Int} (hf : fmOk f p = true) {n : Bool} {V : Nat} {z : Int} (hV : 0 < V) (h : (roundP f p r n V z false).2 = 0) : inP f p ⟨1, n, z, V⟩ = true ∧ (roundP f p r n V z false).1 = rcanon ⟨1, n, z, V⟩ := by
  obtain ⟨b1, b2, b3, b4⟩ := fmOk_spec hf
  obtain ⟨b5, b6⟩ := gOfE_le b1 b2
  have hp := bl_pos hV
  have hu : 1 - gOfE f - (p - 1) ≤ stepP f p (z + bl V - 1) ∧ z + bl V - stepP f p (z + bl V - 1) ≤ p := by unfold stepP; split <;> omega
  unfold roundP at h ⊢
  simp only [] at h ⊢
  generalize stepP f p (z + bl V - 1) = u at *
  split at h
  · simp at h
  · rename_i hno
    rw [if_neg hno]
    have hc : (cutP V (u - z) false).2 = 0 := by
      apply Classical.byContradiction
      intro hn
      simp only [] at h
      rw [if_neg hn] at h
      split at h <;> simp at h
    obtain ⟨a, b, h1, h2⟩ := cutP_exact hc
    rw [hc, upP_none] at hno ⊢
    simp only []
    generalize (cutP V (u - z) false).1 = q at *
    have hq : 0 < q := by
      rcases Nat.eq_zero_or_pos q with h0 | h0
      · exfalso
        rw [h0, Nat.zero_mul] at h1
        have := Nat.mul_pos hV (Nat.pow_pos (n := a) (show 0 < 2 by decide))
        omega
      · exact h0
    have hb : a + bl V = b + bl q := by rw [← bl_mul_pow V a hV, ← bl_mul_pow q b hq, h1]
    have he : rcanon ⟨1, n, u, q⟩ = rcanon ⟨1, n, z, V⟩ := by
      rw [← rcanon_scale n hV z a, ← rcanon_scale n hq u b, h1, show u - (b : Int) = z - a by omega]
    refine ⟨?_, by rw [mkP_rcanon (by omega), he]⟩
    have hin : inP f p ⟨1, n, z, V⟩ = inP f p ⟨1, n, u, q⟩ := by
      unfold inP
      simp only [if_true]
      rw [he]
    rw [hin]
    have e2 : rcanon ⟨1, n, u, q⟩ = ⟨1, n, u + tz q, q / 2 ^ tz q⟩ := by simp [rcanon]
    unfold inP
    simp only [if_true]
    rw [e2]
    simp only [bl_div]
    have := tz_lt_bl hq
    simp only [Bool.and_eq_true, decide_eq_true_eq]
    omega
/-- Is what is left of the format, by the reference? -/
theorem inP_flags {f p : Int} (hf : fmOk f p = true) {z D : Int} {y : Nu} (hy : z ≤ y.e) (hs : y.sv z = D) : (inP f p (restP z D) = true → y.round f p 0 false = (restP z D, 0)) ∧ ((y.round f p 0 false).2 = 0 → inP f p (restP z D) = true) := by
  obtain ⟨b1, b2, b3, b4⟩ := fmOk_spec hf
  have hr := Nu.round_sv hy (b := ⟨decide (D < 0), D.natAbs, z⟩) (Int.le_refl _) (by rw [sv_abs, hs]) f p 0 false
  rw [hr]
  unfold Nu.round restP
  simp only []
  by_cases hD : D = 0
  · rw [if_pos (show D.natAbs = 0 by omega), if_pos hD]
    exact ⟨fun _ => rfl, fun _ => by simp [inP]⟩
  · rw [if_neg (show ¬ D.natAbs = 0 by omega), if_neg hD]
    have hV : 0 < D.natAbs := by omega
    have e2 : rcanon ⟨1, decide (D < 0), z, D.natAbs⟩ = ⟨1, decide (D < 0), z + tz D.natAbs, D.natAbs / 2 ^ tz D.natAbs⟩ := by simp [rcanon]
    refine ⟨fun h => ?_, fun h => ?_⟩
    · have h1 := @round_rcanon2 f p 0 (decide (D < 0)) D.natAbs z hV
      unfold inP at h
      rw [rcanon_idem, e2] at h
      rw [e2] at h1 ⊢
      simp only [if_true, Bool.and_eq_true, decide_eq_true_eq] at h
      have hpos : 0 < D.natAbs / 2 ^ tz D.natAbs := Nat.div_pos ((bl_le _ _).1 (tz_lt_bl hV)) (Nat.pow_pos (by decide))
      rw [← h1]
      simp only []
      rw [roundP_exact hf hpos h.1.2 h.1.1 (by omega)]
      congr 1
      rw [← e2]
      have := rcanon_idem ⟨1, decide (D < 0), z, D.natAbs⟩
      rw [e2] at this ⊢
      exact this
    · have h1 := (roundP_flags hf hV h).1
      unfold inP at h1 ⊢
      rw [rcanon_idem, rcanon_k]
      exact h1
end Go.Proofs.YthpkhmbjmnhmoaaGreatDoor
/- The reference's products. No condition. -/
namespace Go.Proofs.YthpkhmbjmnhmoaaGreatDoor
set_option linter.unusedVariables false
set_option linter.unusedSimpArgs false
variable {G : Gl}
set_option maxHeartbeats 4000000
set_option maxRecDepth 10000
theorem Rt.rc {x : Fla} (h : Rt x) : bl (rcanon x.flt).v ≤ 262144 ∧ (x.k = 1 → -1048576 ≤ (rcanon x.flt).e ∧ (rcanon x.flt).e ≤ 1048576 ∧ (rcanon x.flt).v ≠ 0) := by
  refine ⟨?_, fun hk => ?_⟩
  · have hb := bl_le_len h.ws (rv_le (k := x.k) (n := x.n) (e := x.e))
    have := h.len
    show bl (rcanon ⟨x.k, x.n, x.e, val x.m⟩).v ≤ 262144
    omega
  · have h1 := canon_one h.can hk
    refine ⟨?_, ?_, (Cf.of h.can).pos (by rw [rcanon_k]; exact hk)⟩
    · simp only [rcanon, show x.flt.k = 1 from hk, if_true]; omega
    · simp only [rcanon, show x.flt.k = 1 from hk, if_true]; omega
theorem bl_mul_le (x y : Nat) : bl (x * y) ≤ bl x + bl y := by
  rw [bl_lt, Nat.pow_add]
  rcases Nat.eq_zero_or_pos y with h | h
  · subst h; rw [Nat.mul_zero]; exact Nat.mul_pos (Nat.pow_pos (by decide)) (Nat.pow_pos (by decide))
  · exact Nat.mul_lt_mul'' (bl_self x) (bl_self y)
end Go.Proofs.YthpkhmbjmnhmoaaGreatDoor
/- The program's products. No condition. -/
namespace Go.Proofs.YthpkhmbjmnhmoaaGreatDoor
set_option linter.unusedVariables false
set_option linter.unusedSimpArgs false
set_option maxHeartbeats 4000000
set_option maxRecDepth 10000
/-- A term as cells. -/
abbrev Tp (t : Bool × Int × Nu) : PV := .a [.b t.1, .i .i64 t.2.1, .b t.2.2.n, .w false (nat t.2.2.v), .i .i64 t.2.2.e]
theorem PLe.tp {t : Bool × Int × Nu} {a : Bool} {k : Int} {n : Bool} {c : Ce} {e : Int} (h : PLe (.c c) (.c (.w false (nat t.2.2.v)))) (h1 : (a, k, n, e) = (t.1, t.2.1, t.2.2.n, t.2.2.e)) : PLe (.a [.b a, .i .i64 k, .b n, c, .i .i64 e]) (Tp t) := by
  simp only [Prod.mk.injEq] at h1
  obtain ⟨rfl, rfl, rfl, rfl⟩ := h1
  exact PLe.agg (.cons (PLe.refl _) (.cons (PLe.refl _) (.cons (PLe.refl _) (.cons h (.cons (PLe.refl _) .nil)))))
theorem times_does {G : Gl} {x y : Flt} (hx : (nat x.v).length < 536870912) (hy : (nat y.v).length < 536870912) (h1 : -4294967296 ≤ x.e ∧ x.e ≤ 4294967296) (h2 : -4294967296 ≤ y.e ∧ y.e ≤ 4294967296) : Does Tryz.prog G 40 [x.pv, y.pv] (.v (Tp (timesP x y))) := by
  have hT := @NTimes_does G ⟨x.n, x.v, x.e⟩ ⟨y.n, y.v, y.e⟩ hx hy h1 h2
  have hz : timesP x y = timesP x y := rfl
  conv at hz => rhs; unfold timesP
  obtain ⟨xk, xn, xe, xv⟩ := x
  obtain ⟨yk, yn, ye, yv⟩ := y
  simp only [] at hz hT
  generalize timesP ⟨xk, xn, xe, xv⟩ ⟨yk, yn, ye, yv⟩ = z at *
  generalize xv * yv = p at *
  refine Does.of (nt := 59) Tryz.func40 rfl rfl rfl (by simp) ?_
  simp only [argTm, PV.ext, Ce.ext]
  refine Do.seqk fun _ k1_ => ?_
  refine Do.region [2,3,4] true ?_
  simp [go_sem]
  apply k1_; clear k1_
  refine Do.seqk fun _ k2_ => ?_
  refine Do.region [2,3,4,5] true ?_
  simp [go_sem]
  repeat (refine And.intro (by first | omega | (intros; omega) | (intros; exact And.intro (by assumption) (by omega)) | grind) ?_)
  apply k2_; clear k2_
  refine Do.seqk fun _ k3_ => ?_
  refine Do.block ?_
  refine Do.seqk fun _ k4_ => ?_
  refine Do.region [2,3,4,5,13] true ?_
  simp [go_sem]
  repeat (refine And.intro (by first | omega | (intros; omega) | (intros; exact And.intro (by assumption) (by omega)) | grind) ?_)
  apply k4_; clear k4_
  refine Do.cond [2,3,4,5] rfl (fun h1 => ?_) (fun h1 => ?_) <;> simp [go_sem] at h1 ⊢
  · refine Do.region [4,5] true ?_
    simp [go_sem]
    repeat (refine And.intro (by first | omega | (intros; omega) | (intros; exact And.intro (by assumption) (by omega)) | grind) ?_)
    apply k3_; clear k3_
    refine Do.seqk fun _ k5_ => ?_
    refine Do.region [4] true ?_
    simp [go_sem]
    repeat (refine And.intro (by first | omega | (intros; omega) | (intros; exact And.intro (by assumption) (by omega)) | grind) ?_)
    apply k5_; clear k5_
    refine Do.ret ?_
    simp [endQ, rets, ret1, go_sem]
    repeat (refine And.intro (by first | omega | (intros; omega) | (intros; exact And.intro (by assumption) (by omega)) | grind) ?_)
    rw [if_pos h1] at hz
    subst hz
    exact TLe.v (PLe.tp (ret_z rfl) rfl)
  · refine Do.seqk fun _ k6_ => ?_
    refine Do.region [2,3,4,5,23] true ?_
    simp [go_sem]
    repeat (refine And.intro (by first | omega | (intros; omega) | (intros; exact And.intro (by assumption) (by omega)) | grind) ?_)
    apply k6_; clear k6_
    refine Do.cond [2,3,4,5] rfl (fun h2 => ?_) (fun h2 => ?_) <;> simp [go_sem] at h2 ⊢
    · refine Do.seqk fun _ k7_ => ?_
      refine Do.region [2,3,4,5] true ?_
      simp [go_sem]
      repeat (refine And.intro (by first | omega | (intros; omega) | (intros; exact And.intro (by assumption) (by omega)) | grind) ?_)
      apply k7_; clear k7_
      refine Do.region [4,5] true ?_
      simp [go_sem]
      repeat (refine And.intro (by first | omega | (intros; omega) | (intros; exact And.intro (by assumption) (by omega)) | grind) ?_)
      apply k3_; clear k3_
      refine Do.seqk fun _ k8_ => ?_
      refine Do.region [4] true ?_
      simp [go_sem]
      repeat (refine And.intro (by first | omega | (intros; omega) | (intros; exact And.intro (by assumption) (by omega)) | grind) ?_)
      apply k8_; clear k8_
      refine Do.ret ?_
      simp [endQ, rets, ret1, go_sem]
      repeat (refine And.intro (by first | omega | (intros; omega) | (intros; exact And.intro (by assumption) (by omega)) | grind) ?_)
      rw [if_neg (by omega), if_pos h2] at hz
      subst hz
      exact TLe.v (PLe.tp (ret_z rfl) rfl)
    · refine Do.seqk fun _ k9_ => ?_
      refine Do.region [2,3,4,5,42] true ?_
      simp [go_sem]
      repeat (refine And.intro (by first | omega | (intros; omega) | (intros; exact And.intro (by assumption) (by omega)) | grind) ?_)
      apply k9_; clear k9_
      refine Do.cond [2,3,4,5] rfl (fun h3 => ?_) (fun h3 => ?_) <;> simp [go_sem] at h3 ⊢
      · refine Do.draw [4,5] true (by kernel_rfl) ?_
        simp [go_sem]
        repeat (refine And.intro (by first | omega | (intros; omega) | (intros; exact And.intro (by assumption) (by omega)) | kernel_rfl | grind) ?_)
        refine DoLD.call true 802 rfl rfl rfl rfl (by first | exact trivial | omega | (simp; done) | (simp; omega)) (Of_does) rfl (by first | exact .inl rfl | exact .inr rfl) rfl ?_
        simp [go_sem]
        repeat (refine And.intro (by first | omega | (intros; omega) | (intros; exact And.intro (by assumption) (by omega)) | kernel_rfl | grind) ?_)
        refine DoLD.call true 804 rfl rfl rfl rfl (by first | exact trivial | omega | (simp; done) | (simp; omega)) (Of_does) rfl (by first | exact .inl rfl | exact .inr rfl) rfl ?_
        simp [go_sem]
        refine DoLD.call true 805 rfl rfl rfl rfl (by first | exact trivial | omega | (simp; done) | (simp; omega)) (hT) rfl (by first | exact .inl rfl | exact .inr rfl) rfl ?_
        simp [go_sem]
        repeat (refine And.intro (by first | omega | (intros; omega) | (intros; exact And.intro (by assumption) (by omega)) | kernel_rfl | grind) ?_)
        try (refine And.intro (by kernel_rfl) ?_)
        apply k3_; clear k3_
        refine Do.seqk fun _ k10_ => ?_
        refine Do.region [4] true ?_
        simp [go_sem]
        repeat (refine And.intro (by first | omega | (intros; omega) | (intros; exact And.intro (by assumption) (by omega)) | grind) ?_)
        apply k10_; clear k10_
        refine Do.ret ?_
        simp [endQ, rets, ret1, go_sem]
        repeat (refine And.intro (by first | omega | (intros; omega) | (intros; exact And.intro (by assumption) (by omega)) | grind) ?_)
        rw [if_neg (by omega), if_neg (by omega), if_pos h3] at hz
        subst hz
        exact TLe.refl _
      · refine Do.skip ?_
        simp [go_sem]
        apply k3_; clear k3_
        refine Do.seqk fun _ k11_ => ?_
        refine Do.region [4] true ?_
        simp [go_sem]
        repeat (refine And.intro (by first | omega | (intros; omega) | (intros; exact And.intro (by assumption) (by omega)) | grind) ?_)
        apply k11_; clear k11_
        refine Do.ret ?_
        simp [endQ, rets, ret1, go_sem]
        repeat (refine And.intro (by first | omega | (intros; omega) | (intros; exact And.intro (by assumption) (by omega)) | grind) ?_)
        rw [if_neg (by omega), if_neg (by omega), if_neg (by omega)] at hz
        subst hz
        exact TLe.v (PLe.tp (ret_z rfl) rfl)
theorem round_does {f p r : Int} (hf : fmOk f p = true) (hr : 0 ≤ r) (hr' : r ≤ 4) {t : Bool × Int × Nu} (ht : t.2.1 = 1 → t.2.2.Ok) : Does Tryz.prog Gv 41 [Tp t, Fm f p, .c (.i .i64 r)] (.t [(roundT t f p r).1.pv, .c (.i .i64 (roundT t f p r).2)]) := by
  have hF := fun h => @NFloat_does f p r hf hr hr' t.2.2 false (ht h)
  have hz : roundT t f p r = roundT t f p r := rfl
  conv at hz => rhs; unfold roundT
  obtain ⟨a, k, n, v, e⟩ := t
  simp only [] at hz hF ht
  generalize roundT (a, k, ⟨n, v, e⟩) f p r = z at *
  refine Does.of (nt := 34) Tryz.func41 rfl rfl rfl (by simp) ?_
  simp only [argTm, PV.ext, Ce.ext]
  refine Do.seqk fun _ k1_ => ?_
  refine Do.region [2,3,4,6] true ?_
  simp [go_sem]
  apply k1_; clear k1_
  refine Do.seqk fun _ k2_ => ?_
  refine Do.block ?_
  refine Do.seqk fun _ k3_ => ?_
  refine Do.region [2,3,4,6,8] true ?_
  simp [go_sem]
  repeat (refine And.intro (by first | omega | (intros; omega) | (intros; exact And.intro (by assumption) (by omega)) | grind) ?_)
  apply k3_; clear k3_
  refine Do.cond [2,3,4,6] rfl (fun h1 => ?_) (fun h1 => ?_) <;> simp [go_sem] at h1 ⊢
  · refine Do.seqk fun _ k4_ => ?_
    refine Do.region [6,7] true ?_
    simp [go_sem]
    repeat (refine And.intro (by first | omega | (intros; omega) | (intros; exact And.intro (by assumption) (by omega)) | grind) ?_)
    apply k4_; clear k4_
    refine Do.ret ?_
    simp [endQ, rets, ret1, go_sem]
    repeat (refine And.intro (by first | omega | (intros; omega) | (intros; exact And.intro (by assumption) (by omega)) | grind) ?_)
    rw [if_pos h1] at hz
    subst hz
    exact TLe.t (.cons (PLe.flt (ret_z rfl)) (.cons (PLe.refl _) .nil))
  · refine Do.seqk fun _ k5_ => ?_
    refine Do.region [2,3,4,6,12] true ?_
    simp [go_sem]
    repeat (refine And.intro (by first | omega | (intros; omega) | (intros; exact And.intro (by assumption) (by omega)) | grind) ?_)
    apply k5_; clear k5_
    refine Do.cond [2,3,4,6] rfl (fun h2 => ?_) (fun h2 => ?_) <;> simp [go_sem] at h2 ⊢
    · refine Do.seqk fun _ k6_ => ?_
      refine Do.region [6,7] true ?_
      simp [go_sem]
      repeat (refine And.intro (by first | omega | (intros; omega) | (intros; exact And.intro (by assumption) (by omega)) | grind) ?_)
      apply k6_; clear k6_
      refine Do.ret ?_
      simp [endQ, rets, ret1, go_sem]
      repeat (refine And.intro (by first | omega | (intros; omega) | (intros; exact And.intro (by assumption) (by omega)) | grind) ?_)
      rw [if_neg (by simp [h1]), if_pos h2] at hz
      subst hz
      exact TLe.t (.cons (PLe.flt (ret_z rfl)) (.cons (PLe.refl _) .nil))
    · refine Do.seqk fun _ k7_ => ?_
      refine Do.region [2,3,4,6,17] true ?_
      simp [go_sem]
      repeat (refine And.intro (by first | omega | (intros; omega) | (intros; exact And.intro (by assumption) (by omega)) | grind) ?_)
      apply k7_; clear k7_
      refine Do.cond [2,3,4,6] rfl (fun h3 => ?_) (fun h3 => ?_) <;> simp [go_sem] at h3 ⊢
      · refine Do.seqk fun _ k8_ => ?_
        refine Do.region [6,7] true ?_
        simp [go_sem]
        repeat (refine And.intro (by first | omega | (intros; omega) | (intros; exact And.intro (by assumption) (by omega)) | grind) ?_)
        apply k8_; clear k8_
        refine Do.ret ?_
        simp [endQ, rets, ret1, go_sem]
        repeat (refine And.intro (by first | omega | (intros; omega) | (intros; exact And.intro (by assumption) (by omega)) | grind) ?_)
        rw [if_neg (by simp [h1]), if_neg h2, if_pos h3] at hz
        subst hz
        exact TLe.t (.cons (PLe.flt (ret_z rfl)) (.cons (PLe.refl _) .nil))
      · refine Do.skip ?_
        simp [go_sem]
        apply k2_; clear k2_
        refine Do.seqk fun _ k9_ => ?_
        refine Do.region [6,7] true ?_
        simp [go_sem]
        repeat (refine And.intro (by first | omega | (intros; omega) | (intros; exact And.intro (by assumption) (by omega)) | grind) ?_)
        refine DoL.call true 705 rfl rfl rfl rfl (by first | exact trivial | omega | (simp; done) | (simp; omega)) (hF (by omega)) rfl (by first | exact .inl rfl | exact .inr rfl) rfl ?_
        simp [go_sem]
        repeat (refine And.intro (by first | omega | (intros; omega) | (intros; exact And.intro (by assumption) (by omega)) | grind) ?_)
        apply k9_; clear k9_
        refine Do.ret ?_
        simp [endQ, rets, ret1, go_sem]
        repeat (refine And.intro (by first | omega | (intros; omega) | (intros; exact And.intro (by assumption) (by omega)) | grind) ?_)
        rw [if_neg (by simp [h1]), if_neg h2, if_neg (by omega)] at hz
        subst hz
        exact TLe.refl _
end Go.Proofs.YthpkhmbjmnhmoaaGreatDoor
/- The product of two floats, by the program and by the reference. No condition. -/
namespace Go.Proofs.YthpkhmbjmnhmoaaGreatDoor
set_option linter.unusedVariables false
set_option linter.unusedSimpArgs false
set_option maxHeartbeats 4000000
set_option maxRecDepth 10000
/-- What Mul answers. -/
def mulP (f p r : Int) (x y : Fla) : Flt × Int × Int :=
  if argsE f p r false [x, y] = 0 then ((roundT (timesP (holdsP f p x.flt).1 (holdsP f p y.flt).1) f p r).1, (roundT (timesP (holdsP f p x.flt).1 (holdsP f p y.flt).1) f p r).2, 0) else (⟨0, false, 0, 0⟩, 0, argsE f p r false [x, y])
theorem held_cf {f p : Int} {x : Flt} (h : (holdsP f p x).2 = true) : Cf (holdsP f p x).1 := by
  rw [← (held_rcanon h).1]
  exact Cf.of (held_rcanon h).2
/-- Bounds of a float that is held. -/
theorem held_small {f p : Int} (hf : fmOk f p = true) {x : Flt} (h : (holdsP f p x).2 = true) : -100000 ≤ (holdsP f p x).1.e ∧ (holdsP f p x).1.e ≤ 100000 ∧ bl (holdsP f p x).1.v ≤ 256 ∧ ((holdsP f p x).1.k = 1 → (holdsP f p x).1.e + bl (holdsP f p x).1.v ≤ 16384) := by
  obtain ⟨b1, b2, b3, b4⟩ := fmOk_spec hf
  obtain ⟨b5, b6⟩ := gOfE_le b1 b2
  have hc := held_cf h
  unfold holdsP at h hc ⊢
  split at h
  · rename_i hh
    rw [if_pos hh] at hc ⊢
    have hk : (canon x).1.k ≠ 1 := by
      rcases hh with hh | hh
      · rw [h] at hh; cases hh
      · exact hh
    have hfx := hc.fix
    unfold rcanon at hfx
    rw [if_neg hk] at hfx
    have he : (canon x).1.e = 0 := by rw [← hfx]
    have hv : (canon x).1.v = 0 := by rw [← hfx]
    rw [he, hv, bl_zero]
    exact ⟨by omega, by omega, by omega, fun h => absurd h hk⟩
  · rename_i hh
    rw [if_neg hh] at hc ⊢
    simp only [Bool.and_eq_true, decide_eq_true_eq] at h
    simp only []
    simp only [not_or, Decidable.not_not] at hh
    have := bl_pos (show 0 < (canon x).1.v by have := hc.pos hh.2; simp only [] at this; omega)
    omega
theorem timesP_ok {x y : Flt} (hx : -100000 ≤ x.e ∧ x.e ≤ 100000 ∧ bl x.v ≤ 256) (hy : -100000 ≤ y.e ∧ y.e ≤ 100000 ∧ bl y.v ≤ 256) : (timesP x y).2.2.Ok ∧ -200000 ≤ (timesP x y).2.2.e ∧ (timesP x y).2.2.e + bl (timesP x y).2.2.v ≤ 300000 := by
  have hm := bl_mul_le x.v y.v
  have key : -200000 ≤ (timesP x y).2.2.e ∧ (timesP x y).2.2.e + bl (timesP x y).2.2.v ≤ 300000 := by
    unfold timesP
    split
    · simp [bl_zero]
    · split
      · simp [bl_zero]
      · split
        · simp only []; omega
        · simp [bl_zero]
  exact ⟨⟨by omega, by omega⟩, key⟩
theorem PMul_does {f p r : Int} {x y : Fla} (hx : x.Ok) (hy : y.Ok) : Does Tryz.prog Gv 12 [Fm f p, .c (.i .i64 r), Fl x.k x.n x.e x.m, Fl y.k y.n y.e y.m] (Res (mulP f p r x y)) := by
  generalize hz : mulP f p r x y = z
  unfold mulP at hz
  have hl : [x, y].length < 1099511627776 := by simp
  have ho : ∀ u ∈ [x, y], u.Ok := by simp [hx, hy]
  by_cases he : argsE f p r false [x, y] = 0
  · rw [if_pos he] at hz
    have hA : DoesO Tryz.prog Gv 39 [Fm f p, .c (.i .i64 r), .c (.b false), .s false [x.cs, y.cs]] 4 [(holdsP f p x.flt).1.cs, (holdsP f p y.flt).1.cs] [.c (.i .i64 0)] := Args_own hl ho he
    obtain ⟨h1, h2, h3, h4, h5, h6⟩ := argsE_zero he
    have sx := held_small h5 (x := x.flt) (by simpa using List.all_eq_true.1 h6 x (by simp))
    have sy := held_small h5 (x := y.flt) (by simpa using List.all_eq_true.1 h6 y (by simp))
    generalize (holdsP f p x.flt).1 = u at *
    generalize (holdsP f p y.flt).1 = v at *
    have hT := @times_does Gv u v (by have := nat_len_bl u.v; omega) (by have := nat_len_bl v.v; omega) (by omega) (by omega)
    have hok := timesP_ok (x := u) (y := v) ⟨sx.1, sx.2.1, sx.2.2.1⟩ ⟨sy.1, sy.2.1, sy.2.2.1⟩
    have hR := @round_does f p r h5 h2 h3 (timesP u v) (fun _ => hok.1)
    generalize timesP u v = t at *
    refine Does.of (nt := 43) Tryz.func12 rfl rfl rfl (by simp) ?_
    simp only [argTm, PV.ext, Ce.ext]
    refine Do.seqk fun _ k1_ => ?_
    refine Do.region [1,4,6,7,8] true ?_
    simp [go_sem]
    apply k1_; clear k1_
    refine Do.seqk fun _ k2_ => ?_
    refine Do.region [1,4,8,11,12] true ?_
    simp [go_sem]
    repeat (refine And.intro (by first | omega | (intros; omega) | (intros; exact And.intro (by assumption) (by omega)) | grind) ?_)
    refine DoL.sealS true 105 104 rfl ?_
    simp [go_sem]
    refine DoL.callO true 106 3000 rfl rfl rfl rfl (by first | exact trivial | omega | (simp; done) | (simp; omega)) (hA) rfl rfl rfl ?_
    simp [go_sem]
    apply k2_; clear k2_
    refine Do.seqk fun _ k3_ => ?_
    refine Do.seqk fun _ k4_ => ?_
    refine Do.region [1,4,8,11,12,25] true ?_
    simp [go_sem]
    apply k4_; clear k4_
    refine Do.cond [1,4,8,11,12] rfl (fun h => ?_) (fun h => ?_) <;> simp [go_sem] at h ⊢
    refine Do.skip ?_
    simp [go_sem]
    apply k3_; clear k3_
    refine Do.seqk fun _ k5_ => ?_
    refine Do.sealS 3000 rfl ?_
    simp [go_sem]
    refine Do.draw [8,13,14] true (by kernel_rfl) ?_
    simp [go_sem]
    repeat (refine And.intro (by first | omega | (intros; omega) | (intros; exact And.intro (by assumption) (by omega)) | kernel_rfl | grind) ?_)
    refine DoLD.call true 407 rfl rfl rfl rfl (by first | exact trivial | omega | (simp; done) | (simp; omega)) (hT) rfl (by first | exact .inl rfl | exact .inr rfl) rfl ?_
    simp [go_sem]
    repeat (refine And.intro (by first | omega | (intros; omega) | (intros; exact And.intro (by assumption) (by omega)) | kernel_rfl | grind) ?_)
    refine DoLD.call true 410 rfl rfl rfl rfl (by first | exact trivial | omega | (simp; done) | (simp; omega)) (hR) rfl (by first | exact .inl rfl | exact .inr rfl) rfl ?_
    simp [go_sem]
    repeat (refine And.intro (by first | omega | (intros; omega) | (intros; exact And.intro (by assumption) (by omega)) | kernel_rfl | grind) ?_)
    try (refine And.intro (by kernel_rfl) ?_)
    apply k5_; clear k5_
    refine Do.seqk fun _ k6_ => ?_
    refine Do.region [8,9,10] true ?_
    simp [go_sem]
    repeat (refine And.intro (by first | omega | (intros; omega) | (intros; exact And.intro (by assumption) (by omega)) | grind) ?_)
    apply k6_; clear k6_
    refine Do.ret ?_
    simp [endQ, rets, ret1, go_sem]
    repeat (refine And.intro (by first | omega | (intros; omega) | (intros; exact And.intro (by assumption) (by omega)) | grind) ?_)
    subst hz
    exact TLe.refl _
  · rw [if_neg he] at hz
    have hA : Does Tryz.prog Gv 39 [Fm f p, .c (.i .i64 r), .c (.b false), .s false [x.cs, y.cs]] (.t [.c .z, .c (.i .i64 (argsE f p r false [x, y]))]) := Args_err hl ho he
    refine Does.of (nt := 43) Tryz.func12 rfl rfl rfl (by simp) ?_
    simp only [argTm, PV.ext, Ce.ext]
    refine Do.seqk fun _ k1_ => ?_
    refine Do.region [1,4,6,7,8] true ?_
    simp [go_sem]
    apply k1_; clear k1_
    refine Do.seqk fun _ k2_ => ?_
    refine Do.region [1,4,8,11,12] true ?_
    simp [go_sem]
    repeat (refine And.intro (by first | omega | (intros; omega) | (intros; exact And.intro (by assumption) (by omega)) | grind) ?_)
    refine DoL.sealS true 105 104 rfl ?_
    simp [go_sem]
    refine DoL.call true 106 rfl rfl rfl rfl (by first | exact trivial | omega | (simp; done) | (simp; omega)) (hA) rfl (by first | exact .inl rfl | exact .inr rfl) rfl ?_
    simp [go_sem]
    apply k2_; clear k2_
    refine Do.seqk fun _ k3_ => ?_
    refine Do.seqk fun _ k4_ => ?_
    refine Do.region [1,4,8,11,12,25] true ?_
    simp [go_sem]
    apply k4_; clear k4_
    refine Do.cond [1,4,8,11,12] rfl (fun h => ?_) (fun h => ?_) <;> simp [go_sem] at h ⊢
    · refine Do.seqk fun _ k5_ => ?_
      refine Do.region [8,9,10] true ?_
      simp [go_sem]
      repeat (refine And.intro (by first | omega | (intros; omega) | (intros; exact And.intro (by assumption) (by omega)) | grind) ?_)
      apply k5_; clear k5_
      refine Do.ret ?_
      simp [endQ, rets, ret1, go_sem]
      repeat (refine And.intro (by first | omega | (intros; omega) | (intros; exact And.intro (by assumption) (by omega)) | grind) ?_)
      subst hz
      exact ret_res (ret_z rfl) rfl
    · exact absurd h he
end Go.Proofs.YthpkhmbjmnhmoaaGreatDoor
/- Sums of products, by the program. No condition. -/
namespace Go.Proofs.YthpkhmbjmnhmoaaGreatDoor
set_option linter.unusedVariables false
set_option linter.unusedSimpArgs false
set_option maxHeartbeats 4000000
set_option maxRecDepth 10000
theorem dot_bound {ts : List (Bool × Int × Nu)} (h : ∀ t ∈ ts, -200000 ≤ t.2.2.e ∧ t.2.2.e + bl t.2.2.v ≤ 300000) : ∀ i, -4194304 ≤ (dotG (ts.take i)).sum.e ∧ (dotG (ts.take i)).sum.e + bl (dotG (ts.take i)).sum.v ≤ 300000 + min i ts.length := by
  intro i
  induction i with
  | zero => simp [dotG, Ga.zero, bl_zero]
  | succ i ih =>
    cases hx : ts[i]? with
    | none =>
      have hl : ts.length ≤ i := List.getElem?_eq_none_iff.1 hx
      rw [List.take_of_length_le (by omega)] at ih ⊢
      omega
    | some t =>
      have hi : i < ts.length := (List.getElem?_eq_some_iff.1 hx).1
      rw [dotG_take hx]
      generalize dotG (ts.take i) = g at *
      have hk := h t (List.mem_of_getElem? hx)
      unfold dotStep Ga.put
      split
      · simp only []; omega
      · split
        · simp only []; omega
        · split
          · have := Nu.plus_ok (a := g.sum) (b := t.2.2) (c := 300000 + min i ts.length) ih (by omega)
            simp only []; omega
          · simp only []; omega
/-- The error of a list of products. -/
def dotE (f p r : Int) (xs ys : List Fla) (z : Fla) : Int := argsE f p r ((xs.length : Int) != ys.length || decide ((1000 : Int) < xs.length)) (xs ++ ys ++ [z])
/-- What Dot answers. -/
def dotA (f p r : Int) (xs ys : List Fla) (z : Fla) : Flt × Int × Int :=
  if dotE f p r xs ys z = 0 then ((dotP f p r (tsOf ((heldL f p xs).zip (heldL f p ys))) (holdsP f p z.flt).1).1, (dotP f p r (tsOf ((heldL f p xs).zip (heldL f p ys))) (holdsP f p z.flt).1).2, 0) else (⟨0, false, 0, 0⟩, 0, dotE f p r xs ys z)
theorem PDot_does {f p r : Int} {xs ys : List Fla} {z : Fla} (hxl : xs.length < 1000000) (hyl : ys.length < 1000000) (hx : ∀ x ∈ xs, x.Ok) (hy : ∀ x ∈ ys, x.Ok) (hz : z.Ok) : Does Tryz.prog Gv 20 [Fm f p, .c (.i .i64 r), Rows xs, Rows ys, Fl z.k z.n z.e z.m] (Res (dotA f p r xs ys z)) := by
  generalize hw : dotA f p r xs ys z = w
  unfold dotA at hw
  have hl : (xs ++ ys ++ [z]).length < 1099511627776 := by simp; omega
  have ho : ∀ u ∈ xs ++ ys ++ [z], u.Ok := by
    intro u hu
    simp only [List.mem_append, List.mem_singleton] at hu
    rcases hu with (hu | hu) | rfl
    · exact hx u hu
    · exact hy u hu
    · exact hz
  by_cases he : dotE f p r xs ys z = 0
  · rw [if_pos he] at hw
    have hA := Args_own hl ho he
    obtain ⟨h1, h2, h3, h4, h5, h6⟩ := argsE_zero he
    rw [show heldL f p (xs ++ ys ++ [z]) = heldL f p xs ++ heldL f p ys ++ [(holdsP f p z.flt).1] by simp [heldL]] at hA
    rw [show Rows (xs ++ ys ++ [z]) = .s false (xs.map Fla.cs ++ (ys.map Fla.cs ++ [z.cs])) by simp [Rows]] at hA
    have hlen : xs.length = ys.length ∧ xs.length ≤ 1000 := by simp at h4; omega
    rw [h4] at hA
    have d1 : ¬ (1000 : Int) < ys.length := by omega
    have hux : (heldL f p xs).length = xs.length := by simp [heldL]
    have huy : (heldL f p ys).length = ys.length := by simp [heldL]
    have hall : ∀ x ∈ xs ++ ys ++ [z], (holdsP f p x.flt).2 = true := fun x hx => by simpa using List.all_eq_true.1 h6 x hx
    have sx : ∀ u ∈ heldL f p xs, -100000 ≤ u.e ∧ u.e ≤ 100000 ∧ bl u.v ≤ 256 := fun u hu => by
      obtain ⟨x, hx, rfl⟩ := List.mem_map.1 hu
      have := held_small h5 (hall x (by simp [hx]))
      exact ⟨this.1, this.2.1, this.2.2.1⟩
    have sy : ∀ u ∈ heldL f p ys, -100000 ≤ u.e ∧ u.e ≤ 100000 ∧ bl u.v ≤ 256 := fun u hu => by
      obtain ⟨x, hx, rfl⟩ := List.mem_map.1 hu
      have := held_small h5 (hall x (by simp [hx]))
      exact ⟨this.1, this.2.1, this.2.2.1⟩
    have sz := held_small h5 (hall z (by simp))
    generalize (holdsP f p z.flt).1 = c at *
    generalize heldL f p xs = as_ at *
    generalize heldL f p ys = bs at *
    have hts : ∀ t ∈ tsOf (as_.zip bs), -200000 ≤ t.2.2.e ∧ t.2.2.e + bl t.2.2.v ≤ 300000 := fun t ht => by
      obtain ⟨q, hq, rfl⟩ := List.mem_map.1 ht
      obtain ⟨q1, q2⟩ := q
      exact (timesP_ok (sx _ (List.of_mem_zip hq).1) (sy _ (List.of_mem_zip hq).2)).2
    have hbd := dot_bound hts
    have hget : ∀ (i : Nat) (a b : Flt), as_[i]? = some a → bs[i]? = some b → (tsOf (as_.zip bs))[i]? = some (timesP a b) := fun i a b h1 h2 => by
      have : (as_.zip bs)[i]? = some (a, b) := List.getElem?_zip_eq_some.2 ⟨h1, h2⟩
      rw [tsOf, List.getElem?_map, this]; rfl
    have htl : (tsOf (as_.zip bs)).length = ys.length := by simp [tsOf]; omega
    have hwz : dotP f p r (tsOf (as_.zip bs)) c = ((dotG (tsOf (as_.zip bs))).put c.k ⟨c.n, c.v, c.e⟩).float f p r := rfl
    rw [hwz] at hw
    generalize tsOf (as_.zip bs) = ts at *
    have hn : xs.length = ys.length := hlen.1
    have hrow1 : ∀ (i : Nat) (a : Flt), as_[i]? = some a → (as_.map Flt.cs ++ bs.map Flt.cs ++ [c.cs])[i]? = some a.cs := fun i a h => by
      have hi := (List.getElem?_eq_some_iff.1 h).1
      rw [List.append_assoc, List.getElem?_append_left (by simpa using hi)]; simp [h]
    have hrow2 : ∀ (i : Nat) (a : Flt), bs[i]? = some a → (as_.map Flt.cs ++ bs.map Flt.cs ++ [c.cs])[ys.length + i]? = some a.cs := fun i a h => by
      have hi := (List.getElem?_eq_some_iff.1 h).1
      rw [List.append_assoc, List.getElem?_append_right (by simp; omega), List.getElem?_append_left (by simp; omega)]
      simp only [List.length_map]
      rw [show ys.length + i - as_.length = i by omega]; simp [h]
    have hrow3 : (as_.map Flt.cs ++ bs.map Flt.cs ++ [c.cs])[ys.length + ys.length]? = some c.cs := by
      rw [List.getElem?_append_right (by simp; omega)]
      simp only [List.length_append, List.length_map]
      rw [show ys.length + ys.length - (as_.length + bs.length) = 0 by omega]; rfl
    have hrl : (as_.map Flt.cs ++ bs.map Flt.cs ++ [c.cs]).length = ys.length + ys.length + 1 := by simp; omega
    rw [show (as_ ++ bs ++ [c]).map Flt.cs = as_.map Flt.cs ++ bs.map Flt.cs ++ [c.cs] by simp] at hA
    generalize as_.map Flt.cs ++ bs.map Flt.cs ++ [c.cs] = rows at *
    refine Does.of (nt := 108) Tryz.func20 rfl rfl rfl (by simp) ?_
    simp only [argTm, PV.ext, Ce.ext]
    refine Do.seqk fun _ k1_ => ?_
    refine Do.region [1,2,3,5,9,10] true ?_
    simp [go_sem, hn, d1]
    apply k1_; clear k1_
    refine Do.seqk fun _ k2_ => ?_
    refine Do.draw [1,2,3,5,9,10,13] true (by kernel_rfl) ?_
    simp [go_sem, hn, d1]
    repeat (refine And.intro (by first | omega | (intros; omega) | (intros; exact And.intro (by assumption) (by omega)) | kernel_rfl | grind) ?_)
    try (refine And.intro (by kernel_rfl) ?_)
    apply k2_; clear k2_
    refine Do.seqk fun _ k3_ => ?_
    refine Do.region [1,2,5,9,10,14,15] true ?_
    simp [go_sem, hn, d1]
    repeat (refine And.intro (by first | omega | (intros; omega) | (intros; exact And.intro (by assumption) (by omega)) | grind) ?_)
    refine DoL.sealS true 213 100 rfl ?_
    simp [go_sem, hn, d1]
    refine DoL.callO true 214 3000 rfl rfl rfl rfl (by first | exact trivial | omega | (simp; done) | (simp; omega)) (hA) rfl rfl rfl ?_
    simp [go_sem, hn, d1]
    apply k3_; clear k3_
    refine Do.seqk fun _ k4_ => ?_
    refine Do.seqk fun _ k5_ => ?_
    refine Do.region [1,2,5,9,10,14,15,47] true ?_
    simp [go_sem, hn, d1]
    apply k5_; clear k5_
    refine Do.cond [1,2,5,9,10,14,15] rfl (fun h => ?_) (fun h => ?_) <;> simp [go_sem, hn, d1] at h ⊢
    refine Do.skip ?_
    simp [go_sem]
    apply k4_; clear k4_
    refine Do.seqk fun _ k6_ => ?_
    refine Do.region [1,2,5,9,10,14,16] true ?_
    simp [go_sem, hn, d1]
    apply k6_; clear k6_
    refine Do.seqk fun _ k7_ => ?_
    refine Do.seqk fun _ k8_ => ?_
    refine Do.sealS 3000 rfl ?_
    simp [go_sem]
    refine Do.weakB 501 Ga.zero.cs rfl (.cons (PLe.refl _) (.cons (ret_z rfl) (.cons (PLe.refl _) (.cons (PLe.refl _) (.cons (PLe.refl _) (.cons (PLe.refl _) (.cons (PLe.refl _) (.cons (PLe.refl _) (.cons (PLe.refl _) (.cons (PLe.refl _) .nil)))))))))) ?_
    simp [go_sem, put]
    refine Do.region [1,2,5,9,10,14,16,53,54] true ?_
    simp [go_sem, hn, d1]
    repeat (refine And.intro (by first | omega | (intros; omega) | (intros; exact And.intro (by assumption) (by omega)) | grind) ?_)
    apply k8_; clear k8_
    refine Do.block ?_
    refine Do.loopF [1,2,5,9,10,14,16,53,54] (fun (i : Nat) => [(54, .int .i64 i)]) (fun (i : Nat) => [(501, .box (dotG (ts.take i)).cs)]) (fun (i : Nat) => i ≤ ys.length) (fun (i : Nat) => ys.length - i) (0) (fun _ => by first | (simp [go_sem, mixS]; done) | (simp [go_sem, mixS]; rfl)) (St.le_of (by first | rfl | simp [keep]) (by first | rfl | simp [keep])) (Nat.zero_le _) ?_
    intro i hi
    refine Do.seqk fun _ k9_ => ?_
    refine Do.region [1,2,5,9,10,14,16,53,54,55] true ?_
    simp [go_sem, hn, d1]
    apply k9_; clear k9_
    refine Do.seqk fun _ k10_ => ?_
    refine Do.cond [1,2,5,9,10,14,16,53,54] rfl (fun h2 => ?_) (fun h2 => ?_) <;> simp [go_sem, hn, d1] at h2 ⊢
    · obtain ⟨a, ha⟩ : ∃ a, as_[i]? = some a := ⟨_, List.getElem?_eq_getElem (by omega)⟩
      obtain ⟨b, hb⟩ : ∃ b, bs[i]? = some b := ⟨_, List.getElem?_eq_getElem (by omega)⟩
      have r1 := hrow1 i a ha
      have r2 := hrow2 i b hb
      have rt := hget i a b ha hb
      have ka := sx a (List.mem_of_getElem? ha)
      have kb := sy b (List.mem_of_getElem? hb)
      have hT := @times_does Gv a b (by have := nat_len_bl a.v; omega) (by have := nat_len_bl b.v; omega) (by omega) (by omega)
      have ht2 := hts _ (List.mem_of_getElem? rt)
      have hst := dotG_take rt
      have hgb := hbd i
      generalize timesP a b = t at *
      generalize dotG (ts.take i) = g at *
      have hP := @Put_does ({ g with inv := g.inv || t.1 } : Ga) t.2.1 t.2.2 (fun _ => ⟨⟨hgb.1, by simp only []; omega⟩, ⟨by omega, by omega⟩⟩)
      rw [show ({ g with inv := g.inv || t.1 } : Ga).put t.2.1 t.2.2 = dotStep g t from rfl, ← hst] at hP
      refine Do.skip ?_
      simp [go_sem]
      apply k10_; clear k10_
      refine Do.seqk fun _ k11_ => ?_
      refine Do.block ?_
      refine Do.seqk fun _ k12_ => ?_
      refine Do.region [1,2,5,9,10,14,16,17,53,54] true ?_
      simp [go_sem, hn, r1, r2, hrl, show ((ys.length : Int) + i).toNat = ys.length + i by omega]
      apply k12_; clear k12_
      refine Do.seqk fun _ k13_ => ?_
      refine Do.draw [1,2,5,9,10,14,16,18,53,54] true (by kernel_rfl) ?_
      simp [go_sem, hn, r1, r2, hrl, show ((ys.length : Int) + i).toNat = ys.length + i by omega]
      repeat (refine And.intro (by first | omega | (intros; omega) | (intros; exact And.intro (by assumption) (by omega)) | kernel_rfl | grind) ?_)
      refine DoLD.call true 912 rfl rfl rfl rfl (by first | exact trivial | omega | (simp; done) | (simp; omega)) (hT) rfl (by first | exact .inl rfl | exact .inr rfl) rfl ?_
      simp [go_sem, hn, r1, r2, hrl, show ((ys.length : Int) + i).toNat = ys.length + i by omega]
      repeat (refine And.intro (by first | omega | (intros; omega) | (intros; exact And.intro (by assumption) (by omega)) | kernel_rfl | grind) ?_)
      try (refine And.intro (by kernel_rfl) ?_)
      apply k13_; clear k13_
      refine Do.seqk fun _ k14_ => ?_
      refine Do.region [1,2,5,9,10,14,16,18,53,54] true ?_
      simp [go_sem, hn, r1, r2, hrl, show ((ys.length : Int) + i).toNat = ys.length + i by omega]
      repeat (refine And.intro (by first | omega | (intros; omega) | (intros; exact And.intro (by assumption) (by omega)) | grind) ?_)
      apply k14_; clear k14_
      refine Do.region [1,2,5,9,10,14,16,53,54] true ?_
      simp [go_sem, hn, r1, r2, hrl, show ((ys.length : Int) + i).toNat = ys.length + i by omega]
      repeat (refine And.intro (by first | omega | (intros; omega) | (intros; exact And.intro (by assumption) (by omega)) | grind) ?_)
      refine DoL.callP2 true 1106 rfl rfl rfl rfl rfl rfl (by first | exact trivial | omega | (simp; done) | (simp; omega)) (hP) rfl rfl rfl ?_
      simp [go_sem, hn, r1, r2, hrl, show ((ys.length : Int) + i).toNat = ys.length + i by omega]
      apply k11_; clear k11_
      refine Do.region [1,2,5,9,10,14,16,53,54] true ?_
      simp [go_sem, hn, r1, r2, hrl, show ((ys.length : Int) + i).toNat = ys.length + i by omega]
      repeat (refine And.intro (by first | omega | (intros; omega) | (intros; exact And.intro (by assumption) (by omega)) | grind) ?_)
      refine ⟨i + 1, St.le_of (by first | rfl | simp [keep]) (by first | rfl | simp [keep]), by omega, by simp; omega⟩
    · obtain rfl : i = ys.length := by omega
      rw [List.take_of_length_le (by omega)]
      have hgb := hbd ts.length
      rw [List.take_length] at hgb
      generalize dotG ts = g at *
      have hP := @Put_does g c.k ⟨c.n, c.v, c.e⟩ (fun _ => ⟨⟨hgb.1, by omega⟩, ⟨by simp only []; omega, by simp only []; omega⟩⟩)
      have hgs : (g.put c.k ⟨c.n, c.v, c.e⟩).sum.Ok := by
        have h7 := @Nu.plus_ok g.sum ⟨c.n, c.v, c.e⟩ 400000 ⟨hgb.1, by omega⟩ ⟨by simp only []; omega, by simp only []; omega⟩
        unfold Ga.put
        split
        · exact ⟨hgb.1, by simp only []; omega⟩
        · split
          · exact ⟨hgb.1, by simp only []; omega⟩
          · split
            · exact ⟨h7.1, by simp only []; omega⟩
            · exact ⟨hgb.1, by simp only []; omega⟩
      have hF := @GFloat_does f p r h5 (by assumption) h3 _ hgs
      generalize g.put c.k ⟨c.n, c.v, c.e⟩ = g2 at *
      have hrow3b : ∀ h, rows[ys.length + ys.length]'h = c.cs := fun h => by
        rw [List.getElem?_eq_getElem h] at hrow3; exact Option.some.inj hrow3
      refine Do.exit ?_
      simp [go_sem]
      apply k7_; clear k7_
      refine Do.seqk fun _ k15_ => ?_
      refine Do.region [1,5,9,10,16] true ?_
      simp [go_sem, hn, hrow3, hrow3b, hrl, show ((ys.length : Int) + ys.length).toNat = ys.length + ys.length by omega]
      repeat (refine And.intro (by first | omega | (intros; omega) | (intros; exact And.intro (by assumption) (by omega)) | grind) ?_)
      apply k15_; clear k15_
      refine Do.seqk fun _ k16_ => ?_
      refine Do.draw [1,5,10,16] true (by kernel_rfl) ?_
      simp [go_sem, hn, hrow3, hrow3b, hrl, show ((ys.length : Int) + ys.length).toNat = ys.length + ys.length by omega]
      repeat (refine And.intro (by first | omega | (intros; omega) | (intros; exact And.intro (by assumption) (by omega)) | kernel_rfl | grind) ?_)
      refine DoLD.call true 1405 rfl rfl rfl rfl (by first | exact trivial | omega | (simp; done) | (simp; omega)) (Of_does) rfl (by first | exact .inl rfl | exact .inr rfl) rfl ?_
      simp [go_sem, hn, hrow3, hrow3b, hrl, show ((ys.length : Int) + ys.length).toNat = ys.length + ys.length by omega]
      refine DoLD.callP2 true 1406 rfl rfl rfl rfl rfl rfl (by first | exact trivial | omega | (simp; done) | (simp; omega)) (hP) rfl rfl rfl ?_
      simp [go_sem, hn, hrow3, hrow3b, hrl, show ((ys.length : Int) + ys.length).toNat = ys.length + ys.length by omega]
      try (refine And.intro (by kernel_rfl) ?_)
      apply k16_; clear k16_
      refine Do.seqk fun _ k17_ => ?_
      refine Do.region [10,19,20] true ?_
      simp [go_sem, hn, hrow3, hrow3b, hrl, show ((ys.length : Int) + ys.length).toNat = ys.length + ys.length by omega]
      repeat (refine And.intro (by first | omega | (intros; omega) | (intros; exact And.intro (by assumption) (by omega)) | grind) ?_)
      refine DoL.lend true 1503 100 501 rfl rfl rfl (by decide) ?_
      simp [go_sem, put, del]
      refine DoL.call true 1504 rfl rfl rfl rfl (by first | exact trivial | omega | (simp; done) | (simp; omega)) (hF) rfl (by first | exact .inl rfl | exact .inr rfl) rfl ?_
      simp [go_sem, hn, hrow3, hrow3b, hrl, show ((ys.length : Int) + ys.length).toNat = ys.length + ys.length by omega]
      repeat (refine And.intro (by first | omega | (intros; omega) | (intros; exact And.intro (by assumption) (by omega)) | grind) ?_)
      apply k17_; clear k17_
      refine Do.seqk fun _ k18_ => ?_
      refine Do.region [10,11,12] true ?_
      simp [go_sem, hn, hrow3, hrow3b, hrl, show ((ys.length : Int) + ys.length).toNat = ys.length + ys.length by omega]
      repeat (refine And.intro (by first | omega | (intros; omega) | (intros; exact And.intro (by assumption) (by omega)) | grind) ?_)
      apply k18_; clear k18_
      refine Do.ret ?_
      simp [endQ, rets, ret1, go_sem, hn, hrow3, hrow3b, hrl, show ((ys.length : Int) + ys.length).toNat = ys.length + ys.length by omega]
      repeat (refine And.intro (by first | omega | (intros; omega) | (intros; exact And.intro (by assumption) (by omega)) | grind) ?_)
      subst hw
      exact TLe.refl _
  · rw [if_neg he] at hw
    have hA := Args_err hl ho he
    rw [show Rows (xs ++ ys ++ [z]) = .s false (xs.map Fla.cs ++ (ys.map Fla.cs ++ [z.cs])) by simp [Rows]] at hA
    unfold dotE at hw he
    generalize argsE f p r ((xs.length : Int) != ys.length || decide ((1000 : Int) < xs.length)) (xs ++ ys ++ [z]) = ae at *
    refine Does.of (nt := 108) Tryz.func20 rfl rfl rfl (by simp) ?_
    simp only [argTm, PV.ext, Ce.ext]
    refine Do.seqk fun _ k1_ => ?_
    refine Do.region [1,2,3,5,9,10] true ?_
    simp [go_sem]
    apply k1_; clear k1_
    refine Do.seqk fun _ k2_ => ?_
    refine Do.draw [1,2,3,5,9,10,13] true (by kernel_rfl) ?_
    simp [go_sem]
    repeat (refine And.intro (by first | omega | (intros; omega) | (intros; exact And.intro (by assumption) (by omega)) | kernel_rfl | grind) ?_)
    try (refine And.intro (by kernel_rfl) ?_)
    apply k2_; clear k2_
    refine Do.seqk fun _ k3_ => ?_
    refine Do.region [1,2,5,9,10,14,15] true ?_
    simp [go_sem]
    repeat (refine And.intro (by first | omega | (intros; omega) | (intros; exact And.intro (by assumption) (by omega)) | grind) ?_)
    refine DoL.sealS true 213 100 rfl ?_
    simp [go_sem]
    refine DoL.call true 214 rfl rfl rfl rfl (by first | exact trivial | omega | (simp; done) | (simp; omega)) (hA) rfl (by first | exact .inl rfl | exact .inr rfl) rfl ?_
    simp [go_sem]
    apply k3_; clear k3_
    refine Do.seqk fun _ k4_ => ?_
    refine Do.seqk fun _ k5_ => ?_
    refine Do.region [1,2,5,9,10,14,15,47] true ?_
    simp [go_sem]
    apply k5_; clear k5_
    refine Do.cond [1,2,5,9,10,14,15] rfl (fun h => ?_) (fun h => ?_) <;> simp [go_sem] at h ⊢
    · refine Do.seqk fun _ k6_ => ?_
      refine Do.region [10,11,12] true ?_
      simp [go_sem]
      repeat (refine And.intro (by first | omega | (intros; omega) | (intros; exact And.intro (by assumption) (by omega)) | grind) ?_)
      apply k6_; clear k6_
      refine Do.ret ?_
      simp [endQ, rets, ret1, go_sem]
      repeat (refine And.intro (by first | omega | (intros; omega) | (intros; exact And.intro (by assumption) (by omega)) | grind) ?_)
      subst hw
      exact ret_res (ret_z rfl) rfl
    · exact absurd h he
end Go.Proofs.YthpkhmbjmnhmoaaGreatDoor
/- Sums of products, by the reference. No condition. -/
namespace Go.Proofs.YthpkhmbjmnhmoaaGreatDoor
set_option linter.unusedVariables false
set_option linter.unusedSimpArgs false
set_option maxHeartbeats 4000000
set_option maxRecDepth 10000
end Go.Proofs.YthpkhmbjmnhmoaaGreatDoor
/- The program awake: products. No condition. -/
namespace Go.Proofs.YthpkhmbjmnhmoaaGreatDoor
set_option linter.unusedVariables false
set_option linter.unusedSimpArgs false
set_option maxHeartbeats 4000000
set_option maxRecDepth 10000
theorem PFused_does {f p r : Int} {x y z : Fla} (hx : x.Ok) (hy : y.Ok) (hz : z.Ok) : Does Tryz.prog Gv 18 [Fm f p, .c (.i .i64 r), Fl x.k x.n x.e x.m, Fl y.k y.n y.e y.m, Fl z.k z.n z.e z.m] (Res (dotA f p r [x] [y] z)) := by
  have hD : Does Tryz.prog Gv 20 [Fm f p, .c (.i .i64 r), .s false [x.cs], .s false [y.cs], Fl z.k z.n z.e z.m] (Res (dotA f p r [x] [y] z)) := PDot_does (xs := [x]) (ys := [y]) (by simp) (by simp) (by simp [hx]) (by simp [hy]) hz
  generalize dotA f p r [x] [y] z = w at *
  refine Does.of (nt := 24) Tryz.func18 rfl rfl rfl (by simp) ?_
  simp only [argTm, PV.ext, Ce.ext]
  refine Do.seqk fun _ k1_ => ?_
  refine Do.region [1,5,7,8,9,10] true ?_
  simp [go_sem]
  apply k1_; clear k1_
  refine Do.seqk fun _ k2_ => ?_
  refine Do.region [10,11,12] true ?_
  simp [go_sem]
  repeat (refine And.intro (by first | omega | (intros; omega) | (intros; exact And.intro (by assumption) (by omega)) | grind) ?_)
  refine DoL.sealS true 107 103 rfl ?_
  simp [go_sem]
  refine DoL.sealS true 107 105 rfl ?_
  simp [go_sem]
  refine DoL.call true 108 rfl rfl rfl rfl (by first | exact trivial | omega | (simp; done) | (simp; omega)) (hD) rfl (by first | exact .inl rfl | exact .inr rfl) rfl ?_
  simp [go_sem]
  repeat (refine And.intro (by first | omega | (intros; omega) | (intros; exact And.intro (by assumption) (by omega)) | grind) ?_)
  apply k2_; clear k2_
  refine Do.ret ?_
  simp [endQ, rets, ret1, go_sem]
  repeat (refine And.intro (by first | omega | (intros; omega) | (intros; exact And.intro (by assumption) (by omega)) | grind) ?_)
  exact TLe.refl _
theorem awk_mul : mulP 5 11 0 ⟨1, false, 0, [33]⟩ ⟨1, false, 0, [63]⟩ = (⟨1, false, 5, 65⟩, 1, 0) := by kernel_rfl
theorem awk_dot : dotA 5 11 0 [⟨1, false, 0, [33]⟩] [⟨1, false, 0, [63]⟩] ⟨1, false, 0, [1]⟩ = (⟨1, false, 5, 65⟩, 0, 0) := by kernel_rfl
theorem awk_inf : mulP 5 11 0 ⟨0, false, 0, []⟩ ⟨2, false, 0, []⟩ = (⟨3, false, 0, 0⟩, 16, 0) := by kernel_rfl
theorem awk_same18 : sameP ⟨1, false, 5, 65⟩ ⟨1, false, 5, 65⟩ = true := by kernel_rfl
theorem nat_word' {n : Nat} (h0 : n ≠ 0) (h : n < 18446744073709551616) : nat n = [n] := by
  unfold nat; rw [dif_neg h0]; rw [show n / 18446744073709551616 = 0 by omega, nat_zero, Nat.mod_eq_of_lt h]
theorem awake18_does : Does Tryz.prog Gv 11 [] (.v (.c (.b true))) := by
  have o1 : (Fla.mk 1 false 0 [33]).Ok := ⟨by simp [Sh], fun w hw => by simp at hw; omega, by constructor <;> simp⟩
  have o2 : (Fla.mk 1 false 0 [63]).Ok := ⟨by simp [Sh], fun w hw => by simp at hw; omega, by constructor <;> simp⟩
  have o3 : (Fla.mk 1 false 0 [1]).Ok := ⟨by simp [Sh], fun w hw => by simp at hw; omega, by constructor <;> simp⟩
  have o4 : (Fla.mk 0 false 0 []).Ok := ⟨by simp [Sh], fun w hw => by simp at hw, by constructor <;> simp⟩
  have o5 : (Fla.mk 2 false 0 []).Ok := ⟨by simp [Sh], fun w hw => by simp at hw, by constructor <;> simp⟩
  have h1 := PMul_does (f := 5) (p := 11) (r := 0) o1 o2
  have h2 := PFused_does (f := 5) (p := 11) (r := 0) o1 o2 o3
  have h3 := PMul_does (f := 5) (p := 11) (r := 0) o4 o5
  have h4 := @Same_does 1 false 5 [65] 1 false 5 [65] (by simp [Sh]) (fun w hw => by simp at hw; omega) (by constructor <;> omega) (by simp [Sh]) (fun w hw => by simp at hw; omega) (by constructor <;> omega)
  rw [awk_mul] at h1
  rw [awk_dot] at h2
  rw [awk_inf] at h3
  rw [show val [65] = 65 from rfl, awk_same18] at h4
  have h1 : Does Tryz.prog Gv 12 [Fm 5 11, .c (.i .i64 0), Fl 1 false 0 [33], Fl 1 false 0 [63]] (.t [Fl 1 false 5 (nat 65), .c (.i .i64 1), .c (.i .i64 0)]) := h1
  have h2 : Does Tryz.prog Gv 18 [Fm 5 11, .c (.i .i64 0), Fl 1 false 0 [33], Fl 1 false 0 [63], Fl 1 false 0 [1]] (.t [Fl 1 false 5 (nat 65), .c (.i .i64 0), .c (.i .i64 0)]) := h2
  have h3 : Does Tryz.prog Gv 12 [Fm 5 11, .c (.i .i64 0), .a [.i .i64 0, .b false, .i .i64 0, .z], .a [.i .i64 2, .b false, .i .i64 0, .z]] (.t [Fl 3 false 0 (nat 0), .c (.i .i64 16), .c (.i .i64 0)]) :=
    h3.weak (.cons (PLe.refl _) (.cons (PLe.refl _) (.cons (PLe.flt (PLe.z false)) (.cons (PLe.flt (PLe.z false)) .nil))))
  rw [nat_word' (by decide) (by decide)] at h1 h2
  rw [nat_zero] at h3
  refine Does.of (nt := 101) Tryz.func11 rfl rfl rfl (by simp) ?_
  simp only [argTm, PV.ext, Ce.ext]
  refine Do.seqk fun _ k1_ => ?_
  refine Do.region [] true ?_
  simp [go_sem]
  apply k1_; clear k1_
  refine Do.seqk fun _ k2_ => ?_
  refine Do.region [1] true ?_
  simp [go_sem]
  repeat (refine And.intro (by first | omega | (intros; omega) | (intros; exact And.intro (by assumption) (by omega)) | grind) ?_)
  apply k2_; clear k2_
  refine Do.seqk fun _ k3_ => ?_
  refine Do.region [1,2] true ?_
  simp [go_sem]
  repeat (refine And.intro (by first | omega | (intros; omega) | (intros; exact And.intro (by assumption) (by omega)) | grind) ?_)
  apply k3_; clear k3_
  refine Do.seqk fun _ k4_ => ?_
  refine Do.region [1,2,3] true ?_
  simp [go_sem]
  repeat (refine And.intro (by first | omega | (intros; omega) | (intros; exact And.intro (by assumption) (by omega)) | grind) ?_)
  apply k4_; clear k4_
  refine Do.seqk fun _ k5_ => ?_
  refine Do.region [1,2,3,4] true ?_
  simp [go_sem]
  repeat (refine And.intro (by first | omega | (intros; omega) | (intros; exact And.intro (by assumption) (by omega)) | grind) ?_)
  apply k5_; clear k5_
  refine Do.seqk fun _ k6_ => ?_
  refine Do.frz 200 rfl ?_
  refine Do.frz 300 rfl ?_
  refine Do.frz 400 rfl ?_
  refine Do.region [1,2,3,4,5,6,7] true ?_
  simp [go_sem]
  repeat (refine And.intro (by first | omega | (intros; omega) | (intros; exact And.intro (by assumption) (by omega)) | grind) ?_)
  refine DoL.call true 504 rfl rfl rfl rfl (by first | exact trivial | omega | (simp; done) | (simp; omega)) (h1) rfl (by first | exact .inl rfl | exact .inr rfl) rfl ?_
  simp [go_sem]
  repeat (refine And.intro (by first | omega | (intros; omega) | (intros; exact And.intro (by assumption) (by omega)) | grind) ?_)
  apply k6_; clear k6_
  refine Do.seqk fun _ k7_ => ?_
  refine Do.region [1,5,6,7,8,9,10] true ?_
  simp [go_sem]
  repeat (refine And.intro (by first | omega | (intros; omega) | (intros; exact And.intro (by assumption) (by omega)) | grind) ?_)
  refine DoL.call true 605 rfl rfl rfl rfl (by first | exact trivial | omega | (simp; done) | (simp; omega)) (h2) rfl (by first | exact .inl rfl | exact .inr rfl) rfl ?_
  simp [go_sem]
  repeat (refine And.intro (by first | omega | (intros; omega) | (intros; exact And.intro (by assumption) (by omega)) | grind) ?_)
  apply k7_; clear k7_
  refine Do.seqk fun _ k8_ => ?_
  refine Do.region [5,6,7,8,9,10,11,12,13] true ?_
  simp [go_sem]
  repeat (refine And.intro (by first | omega | (intros; omega) | (intros; exact And.intro (by assumption) (by omega)) | grind) ?_)
  refine DoL.call true 704 rfl rfl rfl rfl (by first | exact trivial | omega | (simp; done) | (simp; omega)) (h3) rfl (by first | exact .inl rfl | exact .inr rfl) rfl ?_
  simp [go_sem]
  repeat (refine And.intro (by first | omega | (intros; omega) | (intros; exact And.intro (by assumption) (by omega)) | grind) ?_)
  apply k8_; clear k8_
  refine Do.seqk fun _ k9_ => ?_
  refine Do.region [0] true ?_
  simp [go_sem]
  repeat (refine And.intro (by first | omega | (intros; omega) | (intros; exact And.intro (by assumption) (by omega)) | grind) ?_)
  refine DoL.callg true 841 rfl rfl rfl rfl rfl (by simp [go_sem] <;> omega) (fun _ => h4) rfl (by first | exact .inl rfl | exact .inr rfl) rfl ?_
  simp [go_sem]
  repeat (refine And.intro (by first | omega | (intros; omega) | (intros; exact And.intro (by assumption) (by omega)) | grind) ?_)
  apply k9_; clear k9_
  refine Do.ret ?_
  simp [endQ, rets, ret1, go_sem]
  repeat (refine And.intro (by first | omega | (intros; omega) | (intros; exact And.intro (by assumption) (by omega)) | grind) ?_)
  exact TLe.refl _
theorem timesP_k (x y : Flt) : (timesP x y).2.1 = 0 ∨ (timesP x y).2.1 = 1 ∨ (timesP x y).2.1 = 2 ∨ (timesP x y).2.1 = 3 := by
  unfold timesP
  split
  · simp
  · split
    · simp
    · split <;> simp
theorem roundT_fine {f p r : Int} (hf : fmOk f p = true) {t : Bool × Int × Nu} (ht : t.2.1 = 0 ∨ t.2.1 = 1 ∨ t.2.1 = 2 ∨ t.2.1 = 3) : rcanon (roundT t f p r).1 = (roundT t f p r).1 ∧ Fine (roundT t f p r).1 := by
  unfold roundT
  split
  · exact ⟨rfl, fine_nan⟩
  · split
    · exact ⟨rfl, fine_nan⟩
    · split
      · rename_i h1 h2
        rcases ht with h | h | h | h
        · rw [h]; exact ⟨rfl, fine_zero⟩
        · exact absurd h h2
        · rw [h]; exact ⟨rfl, fine_inf⟩
        · exact absurd h h1
      · unfold Nu.round
        split
        · exact ⟨rfl, fine_zero⟩
        · exact ⟨roundP_fix hf, roundP_fine hf⟩
end Go.Proofs.YthpkhmbjmnhmoaaGreatDoor
/- The law ProductMuls. No condition. -/
namespace Go.Proofs.YthpkhmbjmnhmoaaGreatDoor
set_option linter.unusedVariables false
set_option linter.unusedSimpArgs false
set_option maxHeartbeats 4000000
set_option maxRecDepth 10000
end Go.Proofs.YthpkhmbjmnhmoaaGreatDoor
/- The law ProductFused. No condition. -/
namespace Go.Proofs.YthpkhmbjmnhmoaaGreatDoor
set_option linter.unusedVariables false
set_option linter.unusedSimpArgs false
set_option maxHeartbeats 4000000
set_option maxRecDepth 10000
end Go.Proofs.YthpkhmbjmnhmoaaGreatDoor
/- The law ProductDots. No condition. -/
namespace Go.Proofs.YthpkhmbjmnhmoaaGreatDoor
set_option linter.unusedVariables false
set_option linter.unusedSimpArgs false
set_option maxHeartbeats 4000000
set_option maxRecDepth 10000
end Go.Proofs.YthpkhmbjmnhmoaaGreatDoor
/- The parts of a product. No condition. -/
namespace Go.Proofs.YthpkhmbjmnhmoaaGreatDoor
set_option linter.unusedVariables false
set_option linter.unusedSimpArgs false
set_option maxHeartbeats 4000000
set_option maxRecDepth 10000
theorem round_top {f p r : Int} (hf : fmOk f p = true) {n : Bool} {V : Nat} {z : Int} {st : Bool} (hk : (roundP f p r n V z st).1.k = 1) : tiny f p ≤ (roundP f p r n V z st).1.e ∧ (roundP f p r n V z st).1.e + bl (roundP f p r n V z st).1.v ≤ gOfE f + 1 := by
  obtain ⟨b1, b2, b3, b4⟩ := fmOk_spec hf
  obtain ⟨b5, b6⟩ := gOfE_le b1 b2
  have htn : tiny f p = 1 - gOfE f - (p - 1) := rfl
  have hu : 1 - gOfE f - (p - 1) ≤ stepP f p (z + bl V - 1) := by unfold stepP; split <;> omega
  unfold roundP at hk ⊢
  simp only [] at hk ⊢
  generalize stepP f p (z + bl V - 1) = u at *
  generalize upP r n (cutP V (u - z) st).1 (cutP V (u - z) st).2 = q at *
  split at hk
  · rename_i h
    rw [if_pos h]
    split at hk
    · rename_i h2
      rw [if_pos h2]
      simp only []
      have : bl (2 ^ p.toNat - 1) ≤ p.toNat := (bl_lt _ _).2 (by have := Nat.pow_pos (n := p.toNat) (show 0 < 2 by decide); omega)
      omega
    · simp at hk
  · rename_i h
    rw [if_neg h]
    simp only [] at hk ⊢
    unfold mkP at hk ⊢
    split at hk
    · simp at hk
    · rename_i hq
      rw [if_neg hq]
      simp only [bl_div]
      have := tz_lt_bl (show 0 < q by omega)
      omega
theorem roundT_low {f p r : Int} (hf : fmOk f p = true) {t : Bool × Int × Nu} (hk : (roundT t f p r).1.k = 1) : tiny f p ≤ (roundT t f p r).1.e ∧ (roundT t f p r).1.e + bl (roundT t f p r).1.v ≤ gOfE f + 1 := by
  unfold roundT at hk ⊢
  split at hk
  · simp at hk
  · rename_i h1
    rw [if_neg h1]
    split at hk
    · simp at hk
    · rename_i h2
      rw [if_neg h2]
      split at hk
      · rename_i h3; exact absurd hk h3
      · rename_i h3
        rw [if_neg h3]
        unfold Nu.round at hk ⊢
        split at hk
        · simp at hk
        · rename_i h4
          rw [if_neg h4]
          exact round_top hf hk
abbrev Z0 : Int := -1048576
/-- What is left of a product. -/
def leftT (t : Bool × Int × Nu) (s : Flt) : Int := fv Z0 (tFlt t) - fv Z0 s
theorem sv_natAbs' (z : Int) (y : Nu) : (y.sv z).natAbs = y.v * 2 ^ (y.e - z).toNat := by
  unfold Nu.sv
  split
  · rw [Int.natAbs_neg, Int.natAbs_natCast]
  · rw [Int.natAbs_natCast]
theorem fv_abs {z : Int} {x : Flt} {c : Int} (hz : z ≤ 0) (h : x.k = 1 → x.e + bl x.v ≤ c ∧ z ≤ x.e) (hc : 0 ≤ c) : bl (fv z x).natAbs ≤ (c - z).toNat := by
  unfold fv
  split
  · rename_i hk
    obtain ⟨h1, h2⟩ := h hk
    rw [sv_natAbs']
    simp only []
    rcases Nat.eq_zero_or_pos x.v with h0 | h0
    · rw [h0, Nat.zero_mul, bl_zero]; omega
    · rw [bl_mul_pow _ _ h0]; omega
  · simp [bl_zero]
section
variable {f p : Int} {x y : Fla}
theorem PParts_does (hx : x.Ok) (hy : y.Ok) (he : argsE f p 0 false [x, y] = 0) {a b s : Flt} {t : Bool × Int × Nu} (ea : (holdsP f p x.flt).1 = a) (eb : (holdsP f p y.flt).1 = b) (et : timesP a b = t) (es : (roundT t f p 0).1 = s) :
    ((s.k = 0 ∨ s.k = 1) → inP f p (restP Z0 (leftT t s)) = true → Does Tryz.prog Gv 26 [Fm f p, Fl x.k x.n x.e x.m, Fl y.k y.n y.e y.m] (.t [s.pv, (restP Z0 (leftT t s)).pv, .c (.i .i64 0)])) ∧
    (¬ ((s.k = 0 ∨ s.k = 1) ∧ inP f p (restP Z0 (leftT t s)) = true) → Does Tryz.prog Gv 26 [Fm f p, Fl x.k x.n x.e x.m, Fl y.k y.n y.e y.m] (.t [Flt.pv ⟨0, false, 0, 0⟩, Flt.pv ⟨0, false, 0, 0⟩, .c (.i .i64 4)])) := by
  have hl : [x, y].length < 1099511627776 := by simp
  have ho : ∀ u ∈ [x, y], u.Ok := by simp [hx, hy]
  have hA : DoesO Tryz.prog Gv 39 [Fm f p, .c (.i .i64 0), .c (.b false), .s false [x.cs, y.cs]] 4 [(holdsP f p x.flt).1.cs, (holdsP f p y.flt).1.cs] [.c (.i .i64 0)] := Args_own hl ho he
  obtain ⟨h1, h2, h3, h4, h5, h6⟩ := argsE_zero he
  have sx := held_small h5 (x := x.flt) (by simpa using List.all_eq_true.1 h6 x (by simp))
  have sy := held_small h5 (x := y.flt) (by simpa using List.all_eq_true.1 h6 y (by simp))
  rw [ea] at hA sx
  rw [eb] at hA sy
  have hT := @times_does Gv a b (by have := nat_len_bl a.v; omega) (by have := nat_len_bl b.v; omega) (by omega) (by omega)
  have hok := timesP_ok (x := a) (y := b) ⟨sx.1, sx.2.1, sx.2.2.1⟩ ⟨sy.1, sy.2.1, sy.2.2.1⟩
  have hkt := timesP_k a b
  have hzero : (timesP a b).2.1 = 0 → (timesP a b).2.2.v = 0 := by
    unfold timesP
    split
    · simp
    · split
      · simp
      · split <;> simp
  rw [et] at hT hok hkt hzero
  clear ea eb et
  have hR := @round_does f p 0 h5 (by decide) (by decide) t (fun _ => hok.1)
  obtain ⟨hsx, hsf⟩ := @roundT_fine f p 0 h5 t hkt
  have hlow := @roundT_low f p 0 h5 t
  have hsk : (roundT t f p 0).1.k = 0 ∨ (roundT t f p 0).1.k = 1 → t.1 = false ∧ (t.2.1 = 0 ∨ t.2.1 = 1) := by
    unfold roundT
    split
    · simp
    · rename_i h1
      split
      · simp
      · rename_i h2
        split
        · rename_i h3; intro h; exact ⟨by simpa using h1, h⟩
        · rename_i h3; intro _; exact ⟨by simpa using h1, by omega⟩
  rw [es] at hR hsx hsf hlow hsk
  generalize (roundT t f p 0).2 = fl at *
  obtain ⟨t0, t1⟩ := tiny_le h5
  obtain ⟨g1, g2⟩ : 1 ≤ gOfE f ∧ gOfE f ≤ 16383 := by
    obtain ⟨b1, b2, b3, b4⟩ := fmOk_spec h5
    exact gOfE_le b1 b2
  by_cases hk : s.k = 0 ∨ s.k = 1
  · obtain ⟨hn, htk⟩ := hsk hk
    have ns := rcanon_numb hsx hk
    have oks : -4194304 ≤ s.e ∧ s.e + bl s.v ≤ 1148576 ∧ Z0 ≤ s.e := by
      have hz : (Z0 : Int) = -1048576 := rfl
      rcases ns with h | ⟨_, h, h'⟩
      · have := hlow h; omega
      · rw [h, h', bl_zero]; omega
    have p2 := @Nu.plus_sv Z0 t.2.2 ⟨!s.n, s.v, s.e⟩ (by have hz : (Z0 : Int) = -1048576 := rfl; omega) oks.2.2
    have q2 := @Nu.plus_ok t.2.2 ⟨!s.n, s.v, s.e⟩ 1148577 (by omega) (by simp only []; omega)
    have P2 := @Plus_does Gv t.2.2 ⟨!s.n, s.v, s.e⟩ hok.1 ⟨oks.1, by simp only []; omega⟩
    generalize t.2.2.plus ⟨!s.n, s.v, s.e⟩ = y2 at *
    have hsv : y2.sv Z0 = leftT t s := by
      rw [p2.1, ns.neg_sv, leftT]
      have : fv Z0 (tFlt t) = Nu.sv Z0 t.2.2 := by
        unfold fv tFlt
        simp only []
        rcases htk with h | h
        · rw [if_neg (by omega)]
          unfold Nu.sv
          rw [hzero h]; simp
        · rw [if_pos h]
      omega
    obtain ⟨c1, c2⟩ := inP_flags h5 p2.2 hsv
    have hF := @NFloat_does f p 0 h5 (by decide) (by decide) y2 false ⟨q2.1, by omega⟩
    by_cases hin : inP f p (restP Z0 (leftT t s)) = true
    · rw [c1 hin] at hF
      refine ⟨fun _ _ => ?_, fun hno => absurd ⟨hk, hin⟩ hno⟩
      generalize restP Z0 (leftT t s) = u at *
      refine Does.of (nt := 64) Tryz.func26 rfl rfl rfl (by simp) ?_
      simp only [argTm, PV.ext, Ce.ext]
      refine Do.seqk fun _ k1_ => ?_
      refine Do.region [3,4,5,6,7] true ?_
      simp [go_sem]
      apply k1_; clear k1_
      refine Do.seqk fun _ k2_ => ?_
      refine Do.region [3,6,7,8,9] true ?_
      simp [go_sem]
      repeat (refine And.intro (by first | omega | (intros; omega) | (intros; exact And.intro (by assumption) (by omega)) | grind) ?_)
      refine DoL.sealS true 104 103 rfl ?_
      simp [go_sem]
      refine DoL.callO true 105 3000 rfl rfl rfl rfl (by first | exact trivial | omega | (simp; done) | (simp; omega)) (hA) rfl rfl rfl ?_
      simp [go_sem]
      apply k2_; clear k2_
      refine Do.seqk fun _ k3_ => ?_
      refine Do.seqk fun _ k4_ => ?_
      refine Do.region [3,6,7,8,9,22] true ?_
      simp [go_sem]
      apply k4_; clear k4_
      refine Do.cond [3,6,7,8,9] rfl (fun h => ?_) (fun h => ?_) <;> simp [go_sem] at h ⊢
      refine Do.skip ?_
      simp [go_sem]
      apply k3_; clear k3_
      refine Do.seqk fun _ k5_ => ?_
      refine Do.sealS 3000 rfl ?_
      simp [go_sem]
      refine Do.draw [3,6,7,10] true (by kernel_rfl) ?_
      simp [go_sem]
      repeat (refine And.intro (by first | omega | (intros; omega) | (intros; exact And.intro (by assumption) (by omega)) | kernel_rfl | grind) ?_)
      refine DoLD.call true 407 rfl rfl rfl rfl (by first | exact trivial | omega | (simp; done) | (simp; omega)) (hT) rfl (by first | exact .inl rfl | exact .inr rfl) rfl ?_
      simp [go_sem]
      repeat (refine And.intro (by first | omega | (intros; omega) | (intros; exact And.intro (by assumption) (by omega)) | kernel_rfl | grind) ?_)
      try (refine And.intro (by kernel_rfl) ?_)
      apply k5_; clear k5_
      refine Do.seqk fun _ k6_ => ?_
      refine Do.region [3,6,7,10] true ?_
      simp [go_sem]
      repeat (refine And.intro (by first | omega | (intros; omega) | (intros; exact And.intro (by assumption) (by omega)) | grind) ?_)
      refine DoL.call true 503 rfl rfl rfl rfl (by first | exact trivial | omega | (simp; done) | (simp; omega)) (hR) rfl (by first | exact .inl rfl | exact .inr rfl) rfl ?_
      simp [go_sem]
      repeat (refine And.intro (by first | omega | (intros; omega) | (intros; exact And.intro (by assumption) (by omega)) | grind) ?_)
      apply k6_; clear k6_
      refine Do.seqk fun _ k7_ => ?_
      refine Do.seqk fun _ k8_ => ?_
      refine Do.region [3,6,7,10,46] true ?_
      simp [go_sem]
      repeat (refine And.intro (by first | omega | (intros; omega) | (intros; exact And.intro (by assumption) (by omega)) | grind) ?_)
      apply k8_; clear k8_
      refine Do.cond [3,6,7,10] rfl (fun h7 => ?_) (fun h7 => ?_) <;> simp [go_sem] at h7 ⊢
      · refine Do.seqk fun _ k9_ => ?_
        refine Do.draw [6,7,11,12] true (by kernel_rfl) ?_
        simp [go_sem]
        repeat (refine And.intro (by first | omega | (intros; omega) | (intros; exact And.intro (by assumption) (by omega)) | kernel_rfl | grind) ?_)
        refine DoLD.call true 704 rfl rfl rfl rfl (by first | exact trivial | omega | (simp; done) | (simp; omega)) (Of_does) rfl (by first | exact .inl rfl | exact .inr rfl) rfl ?_
        simp [go_sem]
        refine DoLD.call true 705 rfl rfl rfl rfl (by first | exact trivial | omega | (simp; done) | (simp; omega)) (Minus_does) rfl (by first | exact .inl rfl | exact .inr rfl) rfl ?_
        simp [go_sem]
        refine DoLD.call true 706 rfl rfl rfl rfl (by first | exact trivial | omega | (simp; done) | (simp; omega)) (P2) rfl (by first | exact .inl rfl | exact .inr rfl) rfl ?_
        simp [go_sem]
        repeat (refine And.intro (by first | omega | (intros; omega) | (intros; exact And.intro (by assumption) (by omega)) | kernel_rfl | grind) ?_)
        refine DoLD.call true 708 rfl rfl rfl rfl (by first | exact trivial | omega | (simp; done) | (simp; omega)) (hF) rfl (by first | exact .inl rfl | exact .inr rfl) rfl ?_
        simp [go_sem]
        repeat (refine And.intro (by first | omega | (intros; omega) | (intros; exact And.intro (by assumption) (by omega)) | kernel_rfl | grind) ?_)
        try (refine And.intro (by kernel_rfl) ?_)
        apply k9_; clear k9_
        refine Do.seqk fun _ k10_ => ?_
        refine Do.region [6,7,11,59] true ?_
        simp [go_sem]
        apply k10_; clear k10_
        refine Do.cond [6,7,11] rfl (fun h8 => ?_) (fun h8 => ?_) <;> simp [go_sem] at h8 ⊢
        refine Do.seqk fun _ k11_ => ?_
        refine Do.draw [6,7,8] true (by kernel_rfl) ?_
        simp [go_sem]
        repeat (refine And.intro (by first | omega | (intros; omega) | (intros; exact And.intro (by assumption) (by omega)) | kernel_rfl | grind) ?_)
        try (refine And.intro (by kernel_rfl) ?_)
        apply k11_; clear k11_
        refine Do.ret ?_
        simp [endQ, rets, ret1, go_sem]
        repeat (refine And.intro (by first | omega | (intros; omega) | (intros; exact And.intro (by assumption) (by omega)) | grind) ?_)
        exact TLe.refl _
      · omega
    · have hfl : (y2.round f p 0 false).2 ≠ 0 := fun h => hin (c2 h)
      refine ⟨fun _ h => absurd h hin, fun _ => ?_⟩
      generalize y2.round f p 0 false = u at *
      refine Does.of (nt := 64) Tryz.func26 rfl rfl rfl (by simp) ?_
      simp only [argTm, PV.ext, Ce.ext]
      refine Do.seqk fun _ k1_ => ?_
      refine Do.region [3,4,5,6,7] true ?_
      simp [go_sem]
      apply k1_; clear k1_
      refine Do.seqk fun _ k2_ => ?_
      refine Do.region [3,6,7,8,9] true ?_
      simp [go_sem]
      repeat (refine And.intro (by first | omega | (intros; omega) | (intros; exact And.intro (by assumption) (by omega)) | grind) ?_)
      refine DoL.sealS true 104 103 rfl ?_
      simp [go_sem]
      refine DoL.callO true 105 3000 rfl rfl rfl rfl (by first | exact trivial | omega | (simp; done) | (simp; omega)) (hA) rfl rfl rfl ?_
      simp [go_sem]
      apply k2_; clear k2_
      refine Do.seqk fun _ k3_ => ?_
      refine Do.seqk fun _ k4_ => ?_
      refine Do.region [3,6,7,8,9,22] true ?_
      simp [go_sem]
      apply k4_; clear k4_
      refine Do.cond [3,6,7,8,9] rfl (fun h => ?_) (fun h => ?_) <;> simp [go_sem] at h ⊢
      refine Do.skip ?_
      simp [go_sem]
      apply k3_; clear k3_
      refine Do.seqk fun _ k5_ => ?_
      refine Do.sealS 3000 rfl ?_
      simp [go_sem]
      refine Do.draw [3,6,7,10] true (by kernel_rfl) ?_
      simp [go_sem]
      repeat (refine And.intro (by first | omega | (intros; omega) | (intros; exact And.intro (by assumption) (by omega)) | kernel_rfl | grind) ?_)
      refine DoLD.call true 407 rfl rfl rfl rfl (by first | exact trivial | omega | (simp; done) | (simp; omega)) (hT) rfl (by first | exact .inl rfl | exact .inr rfl) rfl ?_
      simp [go_sem]
      repeat (refine And.intro (by first | omega | (intros; omega) | (intros; exact And.intro (by assumption) (by omega)) | kernel_rfl | grind) ?_)
      try (refine And.intro (by kernel_rfl) ?_)
      apply k5_; clear k5_
      refine Do.seqk fun _ k6_ => ?_
      refine Do.region [3,6,7,10] true ?_
      simp [go_sem]
      repeat (refine And.intro (by first | omega | (intros; omega) | (intros; exact And.intro (by assumption) (by omega)) | grind) ?_)
      refine DoL.call true 503 rfl rfl rfl rfl (by first | exact trivial | omega | (simp; done) | (simp; omega)) (hR) rfl (by first | exact .inl rfl | exact .inr rfl) rfl ?_
      simp [go_sem]
      repeat (refine And.intro (by first | omega | (intros; omega) | (intros; exact And.intro (by assumption) (by omega)) | grind) ?_)
      apply k6_; clear k6_
      refine Do.seqk fun _ k7_ => ?_
      refine Do.seqk fun _ k8_ => ?_
      refine Do.region [3,6,7,10,46] true ?_
      simp [go_sem]
      repeat (refine And.intro (by first | omega | (intros; omega) | (intros; exact And.intro (by assumption) (by omega)) | grind) ?_)
      apply k8_; clear k8_
      refine Do.cond [3,6,7,10] rfl (fun h7 => ?_) (fun h7 => ?_) <;> simp [go_sem] at h7 ⊢
      · refine Do.seqk fun _ k9_ => ?_
        refine Do.draw [6,7,11,12] true (by kernel_rfl) ?_
        simp [go_sem]
        repeat (refine And.intro (by first | omega | (intros; omega) | (intros; exact And.intro (by assumption) (by omega)) | kernel_rfl | grind) ?_)
        refine DoLD.call true 704 rfl rfl rfl rfl (by first | exact trivial | omega | (simp; done) | (simp; omega)) (Of_does) rfl (by first | exact .inl rfl | exact .inr rfl) rfl ?_
        simp [go_sem]
        refine DoLD.call true 705 rfl rfl rfl rfl (by first | exact trivial | omega | (simp; done) | (simp; omega)) (Minus_does) rfl (by first | exact .inl rfl | exact .inr rfl) rfl ?_
        simp [go_sem]
        refine DoLD.call true 706 rfl rfl rfl rfl (by first | exact trivial | omega | (simp; done) | (simp; omega)) (P2) rfl (by first | exact .inl rfl | exact .inr rfl) rfl ?_
        simp [go_sem]
        repeat (refine And.intro (by first | omega | (intros; omega) | (intros; exact And.intro (by assumption) (by omega)) | kernel_rfl | grind) ?_)
        refine DoLD.call true 708 rfl rfl rfl rfl (by first | exact trivial | omega | (simp; done) | (simp; omega)) (hF) rfl (by first | exact .inl rfl | exact .inr rfl) rfl ?_
        simp [go_sem]
        repeat (refine And.intro (by first | omega | (intros; omega) | (intros; exact And.intro (by assumption) (by omega)) | kernel_rfl | grind) ?_)
        try (refine And.intro (by kernel_rfl) ?_)
        apply k9_; clear k9_
        refine Do.seqk fun _ k10_ => ?_
        refine Do.region [6,7,11,59] true ?_
        simp [go_sem]
        apply k10_; clear k10_
        refine Do.cond [6,7,11] rfl (fun h8 => ?_) (fun h8 => ?_) <;> simp [go_sem] at h8 ⊢
        · exact absurd h8 hfl
        · refine Do.skip ?_
          simp [go_sem]
          apply k7_; clear k7_
          refine Do.seqk fun _ k11_ => ?_
          refine Do.region [6,7,8] true ?_
          simp [go_sem]
          repeat (refine And.intro (by first | omega | (intros; omega) | (intros; exact And.intro (by assumption) (by omega)) | grind) ?_)
          apply k11_; clear k11_
          refine Do.ret ?_
          simp [endQ, rets, ret1, go_sem]
          repeat (refine And.intro (by first | omega | (intros; omega) | (intros; exact And.intro (by assumption) (by omega)) | grind) ?_)
          exact TLe.t (.cons (PLe.flt (ret_z rfl)) (.cons (PLe.flt (ret_z rfl)) (.cons (PLe.refl _) .nil)))
      · omega
  · refine ⟨fun h => absurd h hk, fun _ => ?_⟩
    refine Does.of (nt := 64) Tryz.func26 rfl rfl rfl (by simp) ?_
    simp only [argTm, PV.ext, Ce.ext]
    refine Do.seqk fun _ k1_ => ?_
    refine Do.region [3,4,5,6,7] true ?_
    simp [go_sem]
    apply k1_; clear k1_
    refine Do.seqk fun _ k2_ => ?_
    refine Do.region [3,6,7,8,9] true ?_
    simp [go_sem]
    repeat (refine And.intro (by first | omega | (intros; omega) | (intros; exact And.intro (by assumption) (by omega)) | grind) ?_)
    refine DoL.sealS true 104 103 rfl ?_
    simp [go_sem]
    refine DoL.callO true 105 3000 rfl rfl rfl rfl (by first | exact trivial | omega | (simp; done) | (simp; omega)) (hA) rfl rfl rfl ?_
    simp [go_sem]
    apply k2_; clear k2_
    refine Do.seqk fun _ k3_ => ?_
    refine Do.seqk fun _ k4_ => ?_
    refine Do.region [3,6,7,8,9,22] true ?_
    simp [go_sem]
    apply k4_; clear k4_
    refine Do.cond [3,6,7,8,9] rfl (fun h => ?_) (fun h => ?_) <;> simp [go_sem] at h ⊢
    refine Do.skip ?_
    simp [go_sem]
    apply k3_; clear k3_
    refine Do.seqk fun _ k5_ => ?_
    refine Do.sealS 3000 rfl ?_
    simp [go_sem]
    refine Do.draw [3,6,7,10] true (by kernel_rfl) ?_
    simp [go_sem]
    repeat (refine And.intro (by first | omega | (intros; omega) | (intros; exact And.intro (by assumption) (by omega)) | kernel_rfl | grind) ?_)
    refine DoLD.call true 407 rfl rfl rfl rfl (by first | exact trivial | omega | (simp; done) | (simp; omega)) (hT) rfl (by first | exact .inl rfl | exact .inr rfl) rfl ?_
    simp [go_sem]
    repeat (refine And.intro (by first | omega | (intros; omega) | (intros; exact And.intro (by assumption) (by omega)) | kernel_rfl | grind) ?_)
    try (refine And.intro (by kernel_rfl) ?_)
    apply k5_; clear k5_
    refine Do.seqk fun _ k6_ => ?_
    refine Do.region [3,6,7,10] true ?_
    simp [go_sem]
    repeat (refine And.intro (by first | omega | (intros; omega) | (intros; exact And.intro (by assumption) (by omega)) | grind) ?_)
    refine DoL.call true 503 rfl rfl rfl rfl (by first | exact trivial | omega | (simp; done) | (simp; omega)) (hR) rfl (by first | exact .inl rfl | exact .inr rfl) rfl ?_
    simp [go_sem]
    repeat (refine And.intro (by first | omega | (intros; omega) | (intros; exact And.intro (by assumption) (by omega)) | grind) ?_)
    apply k6_; clear k6_
    refine Do.seqk fun _ k7_ => ?_
    refine Do.seqk fun _ k8_ => ?_
    refine Do.region [3,6,7,10,46] true ?_
    simp [go_sem]
    repeat (refine And.intro (by first | omega | (intros; omega) | (intros; exact And.intro (by assumption) (by omega)) | grind) ?_)
    apply k8_; clear k8_
    refine Do.cond [3,6,7,10] rfl (fun h7 => ?_) (fun h7 => ?_) <;> simp [go_sem] at h7 ⊢
    · omega
    · refine Do.skip ?_
      simp [go_sem]
      apply k7_; clear k7_
      refine Do.seqk fun _ k9_ => ?_
      refine Do.region [6,7,8] true ?_
      simp [go_sem]
      repeat (refine And.intro (by first | omega | (intros; omega) | (intros; exact And.intro (by assumption) (by omega)) | grind) ?_)
      apply k9_; clear k9_
      refine Do.ret ?_
      simp [endQ, rets, ret1, go_sem]
      repeat (refine And.intro (by first | omega | (intros; omega) | (intros; exact And.intro (by assumption) (by omega)) | grind) ?_)
      exact TLe.t (.cons (PLe.flt (ret_z rfl)) (.cons (PLe.flt (ret_z rfl)) (.cons (PLe.refl _) .nil)))
end
end Go.Proofs.YthpkhmbjmnhmoaaGreatDoor
/- The law ProductParts. No condition. -/
namespace Go.Proofs.YthpkhmbjmnhmoaaGreatDoor
set_option linter.unusedVariables false
set_option linter.unusedSimpArgs false
set_option maxHeartbeats 4000000
set_option maxRecDepth 10000
section
variable {f p : Int} {x y : Fla}
end
end Go.Proofs.YthpkhmbjmnhmoaaGreatDoor
