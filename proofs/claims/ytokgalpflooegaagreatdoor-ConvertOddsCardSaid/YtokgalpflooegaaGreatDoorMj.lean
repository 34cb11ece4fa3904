/- Division by the schoolbook. No condition. Division, and the greatest common divisor. No condition. Rational numbers with a power of 2 below. No condition. The rational numbers of the reference. No condition. Operations under a test whose outcome is known, in a region whose order is open. No condition. A float as a rational number; Holds. No condition. What the floats of a pair add up to, plain. No condition. Division by 1; a ratio by 1, rounded. No condition. -/
import Derived.Test.YtokgalpflooegaaGreatDoorMi
import Derived.Test.YtokgalpflooegaaGreatDoorMh
import Derived.Test.YtokgalpflooegaaGreatDoorMf
import Derived.Test.YtokgalpflooegaaGreatDoorMg
import Derived.Test.YtokgalpflooegaaGreatDoorMd
/- Division by the schoolbook. No condition. -/
namespace Go.Proofs.YtokgalpflooegaaGreatDoor
set_option linter.unusedVariables false
set_option linter.unusedSimpArgs false
variable {G : Gl}
set_option maxHeartbeats 4000000
set_option maxRecDepth 10000
theorem Times_w {a b j k : Nat} (ha : a < 4294967296 ^ j) (hb : b < 4294967296 ^ k) (hj : j ≤ 4294967296) (hk : k ≤ 4294967296) : DoesW Tryz.prog G 164 [Wd (dg a j), Wd (dg b k)] (dg (a * b) (j + k)) := by
  have hend := @tp_end a b j ha
  have hst := fun i => @TimesI.start a b k i hb
  have hout := fun i Q c (h : TimesI a b k i k Q c) hi => @TimesI.out a b j k i Q c h hb hi
  clear ha hb
  refine DoesW.of (nt := 62) Tryz.func164 rfl rfl rfl (by simp) ?_
  simp only [argTm, PV.ext, Ce.ext]
  refine Do.seqk fun _ k1_ => ?_
  refine Do.region [0,1] true ?_
  simp [go_sem, -List.reduceReplicate]
  apply k1_; clear k1_
  refine Do.seqk fun _ k2_ => ?_
  refine Do.region [0,1,5] true ?_
  simp [go_sem, -List.reduceReplicate]
  repeat (refine And.intro (by first | omega | (intros; omega) | grind) ?_)
  apply k2_; clear k2_
  refine Do.seqk fun _ k3_ => ?_
  refine Do.seqk fun _ k4_ => ?_
  refine Do.region [0,1,5,6] true ?_
  simp [go_sem, -List.reduceReplicate]
  apply k4_; clear k4_
  refine Do.block ?_
  rw [show ((j : Int) + k).toNat = j + k by omega, dg_zero]
  refine Do.loopF [0,1,5,6] (fun (i : Nat) => [(6, .int .i64 i)]) (fun (i : Nat) => [(105, .wr (dg (tp a b i) (j + k)))]) (fun (i : Nat) => i ≤ j) (fun (i : Nat) => j - i) (0) (fun _ => by first | (simp [go_sem, mixS]; done) | (simp [go_sem, mixS]; rfl)) (St.le_of (by simp [keep, tp_zero]) (by simp [keep, tp_zero])) (Nat.zero_le _) ?_
  intro i hi
  refine Do.seqk fun _ k5_ => ?_
  refine Do.seqk fun _ k6_ => ?_
  refine Do.region [0,1,5,6,18] true ?_
  simp [go_sem, -List.reduceReplicate]
  repeat (refine And.intro (by first | omega | (intros; omega) | grind) ?_)
  apply k6_; clear k6_
  refine Do.cond [0,1,5,6] rfl (fun h => ?_) (fun h => ?_) <;> simp [go_sem, -List.reduceReplicate] at h ⊢
  · refine Do.skip ?_
    simp [go_sem]
    apply k5_; clear k5_
    refine Do.seqk fun _ k7_ => ?_
    refine Do.block ?_
    refine Do.seqk fun _ k8_ => ?_
    refine Do.region [0,1,5,6,7] true ?_
    simp [go_sem, -List.reduceReplicate]
    apply k8_; clear k8_
    refine Do.seqk fun _ k9_ => ?_
    refine Do.seqk fun _ k10_ => ?_
    refine Do.region [0,1,5,6,7,8] true ?_
    simp [go_sem, -List.reduceReplicate]
    apply k10_; clear k10_
    refine Do.block ?_
    refine Do.loopF [0,1,5,6,7,8] (fun (s : Nat × Nat × Nat) => [(7, .v (.c (.n s.2.2))), (8, .int .i64 s.1)]) (fun (s : Nat × Nat × Nat) => [(105, .wr (dg s.2.1 (j + k)))]) (fun (s : Nat × Nat × Nat) => s.1 ≤ k ∧ TimesI a b k i s.1 s.2.1 s.2.2) (fun (s : Nat × Nat × Nat) => k - s.1) ((0, tp a b i, 0)) (fun _ => by first | (simp [go_sem, mixS]; done) | (simp [go_sem, mixS]; rfl)) (St.le_of (by first | rfl | simp [keep]) (by first | rfl | simp [keep])) (⟨Nat.zero_le _, hst i⟩) ?_
    rintro ⟨t, Q, c⟩ ⟨ht, hI⟩
    simp only at ht hI
    refine Do.seqk fun _ k11_ => ?_
    refine Do.seqk fun _ k12_ => ?_
    refine Do.region [0,1,5,6,7,8,24] true ?_
    simp [go_sem, -List.reduceReplicate]
    repeat (refine And.intro (by first | omega | (intros; omega) | grind) ?_)
    apply k12_; clear k12_
    refine Do.cond [0,1,5,6,7,8] rfl (fun h2 => ?_) (fun h2 => ?_) <;> simp [go_sem, -List.reduceReplicate] at h2 ⊢
    · obtain ⟨hb1, Q', e1, hI'⟩ := hI.next h h2
      have g1 := @dg_dig (j + k) Q (i + t) (by omega)
      have g2 := @dg_dig j a i h
      have g3 := @dg_dig k b t h2
      have l1 := dig_lt Q (i + t)
      have l2 := mul_lt_sq (dig_lt a i) (dig_lt b t)
      have hc := hI.2.2
      have b1 : c + dig Q (i + t) + dig a i * dig b t < M64 := hb1
      have b2 : c + dig Q (i + t) < M64 := by unfold M64; omega
      have b3 : dig a i * dig b t < M64 := by unfold M64; omega
      refine Do.skip ?_
      simp [go_sem]
      apply k11_; clear k11_
      refine Do.seqk fun _ k13_ => ?_
      refine Do.block ?_
      refine Do.seqk fun _ k14_ => ?_
      refine Do.draw [0,1,5,6,7,8] true (by kernel_rfl) ?_
      simp [go_sem, g1, g2, g3, b1, b2, b3, show ((i : Int) + t).toNat = i + t by omega]
      repeat (refine And.intro (by first | omega | (intros; omega) | kernel_rfl | grind) ?_)
      try (refine And.intro (by kernel_rfl) ?_)
      apply k14_; clear k14_
      refine Do.seqk fun _ k15_ => ?_
      refine Do.region [0,1,5,6,7,8] true ?_
      simp [go_sem, g1, g2, g3, b1, b2, b3, show ((i : Int) + t).toNat = i + t by omega]
      repeat (refine And.intro (by first | omega | (intros; omega) | grind) ?_)
      apply k15_; clear k15_
      refine Do.region [0,1,5,6,7,8] true ?_
      simp [go_sem, g1, g2, g3, b1, b2, b3, show ((i : Int) + t).toNat = i + t by omega]
      repeat (refine And.intro (by first | omega | (intros; omega) | grind) ?_)
      apply k13_; clear k13_
      refine Do.region [0,1,5,6,7,8] true ?_
      simp [go_sem, g1, g2, g3, b1, b2, b3, show ((i : Int) + t).toNat = i + t by omega]
      repeat (refine And.intro (by first | omega | (intros; omega) | grind) ?_)
      refine ⟨(t + 1, Q', (c + dig Q (i + t) + dig a i * dig b t) / 4294967296), St.le_of rfl (by simp [keep, e1]), ⟨by omega, hI'⟩, by simp; omega⟩
    · obtain rfl : t = k := by omega
      have ho := hout i Q c hI h
      refine Do.exit ?_
      simp [go_sem]
      apply k9_; clear k9_
      refine Do.region [0,1,5,6] true ?_
      simp [go_sem, show ((i : Int) + t).toNat = i + t by omega]
      repeat (refine And.intro (by first | omega | (intros; omega) | grind) ?_)
      apply k7_; clear k7_
      refine Do.region [0,1,5,6] true ?_
      simp [go_sem, show ((i : Int) + t).toNat = i + t by omega]
      repeat (refine And.intro (by first | omega | (intros; omega) | grind) ?_)
      refine ⟨i + 1, St.le_of rfl (by simp [keep, ho]), by omega, by simp; omega⟩
  · refine Do.exit ?_
    simp [go_sem]
    apply k3_; clear k3_
    refine Do.seqk fun _ k16_ => ?_
    refine Do.region [4] true ?_
    simp [go_sem, -List.reduceReplicate]
    apply k16_; clear k16_
    refine Do.ret ?_
    simp [endRow, rets, ret1, go_sem, -List.reduceReplicate]
    repeat (refine And.intro (by first | omega | (intros; omega) | grind) ?_)
    obtain rfl : i = j := by omega
    rw [hend]
theorem Divide_does {a b j k : Nat} (ha : a < 4294967296 ^ j) (hb : b < 4294967296 ^ k) (hb0 : 0 < b) (hj : j ≤ 4294967000) (hk : k ≤ 4294967000) : ∃ jq jr, Does Tryz.prog G 172 [Wd (dg a j), Wd (dg b k)] (.t [Wn (dg (a / b) jq), Wn (dg (a % b) jr)]) ∧ a / b < 4294967296 ^ jq ∧ a % b < 4294967296 ^ jr ∧ jq ≤ j + 2 ∧ jr ≤ j + 2 := by
  have hS := @Short_does G b k (by omega) hb
  obtain ⟨d0, d1, d2⟩ := dl_pow hb0
  have dk : dl b ≤ k := dl_lt.2 hb
  have dt : dig b (dl b - 1) ≠ 0 := dl_top d0
  by_cases h1 : dl b = 1
  · have hb1 : b < 4294967296 := by rw [h1, Nat.pow_one] at d2; exact d2
    have ho := @one_does G a b j ha hb0 hb1 (by omega)
    refine ⟨j, 1, ?_, ?_, ?_, by omega, by omega⟩
    · have hg : dg b 1 = [b] := by simp only [dg]; rw [Nat.mod_eq_of_lt hb1]
      have hg2 : dg (a % b) 1 = [a % b] := by simp only [dg]; rw [Nat.mod_eq_of_lt (Nat.lt_trans (Nat.mod_lt _ hb0) hb1)]
      rw [h1, hg] at hS
      rw [hg2]
      refine Does.of (nt := 163) Tryz.func172 rfl rfl rfl (by simp) ?_
      simp only [argTm, PV.ext, Ce.ext]
      refine Do.seqk fun _ k1_ => ?_
      refine Do.region [0,1] true ?_
      simp [go_sem]
      apply k1_; clear k1_
      refine Do.seqk fun _ k2_ => ?_
      refine Do.region [0,1] true ?_
      simp [go_sem]
      refine DoL.call true 102 rfl rfl rfl rfl (by first | exact trivial | omega | (simp; done) | (simp; omega)) (hS) rfl (by first | exact .inl rfl | exact .inr rfl) rfl ?_
      simp [go_sem]
      apply k2_; clear k2_
      refine Do.seqk fun _ k3_ => ?_
      refine Do.seqk fun _ k4_ => ?_
      refine Do.region [0,1,24] true ?_
      simp [go_sem]
      repeat (refine And.intro (by first | omega | (intros; omega) | grind) ?_)
      apply k4_; clear k4_
      refine Do.cond [0,1] rfl (fun h => ?_) (fun h => ?_) <;> simp [go_sem] at h ⊢
      refine Do.seqk fun _ k5_ => ?_
      refine Do.region [4,5] true ?_
      simp [go_sem]
      repeat (refine And.intro (by first | omega | (intros; omega) | grind) ?_)
      refine DoL.call true 305 rfl rfl rfl rfl (by first | exact trivial | omega | (simp; done) | (simp; omega)) (ho) rfl (by first | exact .inl rfl | exact .inr rfl) rfl ?_
      simp [go_sem]
      apply k5_; clear k5_
      refine Do.ret ?_
      simp [endQ, rets, ret1, go_sem]
      repeat (refine And.intro (by first | omega | (intros; omega) | grind) ?_)
      exact TLe.refl _
    · exact Nat.lt_of_le_of_lt (Nat.div_le_self _ _) ha
    · rw [Nat.pow_one]; exact Nat.lt_trans (Nat.mod_lt _ hb0) hb1
  · obtain ⟨t, ht⟩ : ∃ t, dig b (dl b - 1) = t := ⟨_, rfl⟩
    obtain ⟨E, hE⟩ : ∃ E, E = 32 - bl t := ⟨_, rfl⟩
    have htB : t < 4294967296 := by rw [← ht]; exact dig_lt _ _
    have hbt : bl t ≤ 32 := (bl_lt _ _).2 (by simpa using htB)
    have hbt0 : 0 < bl t := bl_pos (by omega)
    have htl : t < 2 ^ bl t := (bl_lt _ _).1 (Nat.le_refl _)
    have htg : 2 ^ (bl t - 1) ≤ t := Nat.le_of_not_lt fun h => by
      have := (bl_lt t (bl t - 1)).2 h
      omega
    have hlt : ∀ e, e ≤ E → t * 2 ^ e < 4294967296 := fun e he => by
      have h1 : t * 2 ^ e < 2 ^ bl t * 2 ^ e := Nat.mul_lt_mul_of_pos_right htl (Nat.pow_pos (by decide))
      rw [← Nat.pow_add] at h1
      have h2 : 2 ^ (bl t + e) ≤ 2 ^ 32 := Nat.pow_le_pow_right (by decide) (by omega)
      omega
    have htest : ∀ e, e ≤ E → (t * 2 ^ e < 2147483648 ↔ e < E) := fun e he => by
      constructor
      · intro h
        refine Nat.lt_of_le_of_ne he fun hee => ?_
        have h1 : 2 ^ (bl t - 1) * 2 ^ e ≤ t * 2 ^ e := Nat.mul_le_mul_right _ htg
        rw [← Nat.pow_add] at h1
        have h2 : 2 ^ 31 ≤ 2 ^ (bl t - 1 + e) := Nat.pow_le_pow_right (by decide) (by omega)
        omega
      · intro h
        have h1 : t * 2 ^ e < 2 ^ bl t * 2 ^ e := Nat.mul_lt_mul_of_pos_right htl (Nat.pow_pos (by decide))
        rw [← Nat.pow_add] at h1
        have h2 : 2 ^ (bl t + e) ≤ 2 ^ 31 := Nat.pow_le_pow_right (by decide) (by omega)
        omega
    have hpe : ∀ e, e ≤ E → 2 ^ e < 4294967296 := fun e he => by
      have h2 : 2 ^ e ≤ 2 ^ 31 := Nat.pow_le_pow_right (by decide) (by omega)
      omega
    obtain ⟨s, hs⟩ : ∃ s, 2 ^ E = s := ⟨_, rfl⟩
    have hs0 : 0 < s := by rw [← hs]; exact Nat.pow_pos (by decide)
    have hsB : s < 4294967296 := by rw [← hs]; exact hpe E (Nat.le_refl _)
    have g1 : ∀ g, g < 4294967296 → dg g 1 = [g] := fun g hg => by simp only [dg]; rw [Nat.mod_eq_of_lt hg]
    have hs1 : s < 4294967296 ^ 1 := by rw [Nat.pow_one]; exact hsB
    have T1 := @Times_w G a s j 1 ha hs1 (by omega) (by decide)
    have T2 := @Times_does G b s (dl b) 1 d2 hs1 (by omega) (by decide)
    have hbs : b * s < 4294967296 ^ (dl b + 1) := mul_lt d2 hs1
    have S2 := @Short_does G (b * s) (dl b + 1) (by omega) hbs
    rw [g1 s hsB] at T1 T2
    have hA0 : a * s < 4294967296 ^ (j + 1) := mul_lt ha hs1
    obtain ⟨n0, n1, n2⟩ := dl_pow (Nat.mul_pos hb0 hs0)
    have nt : dig (b * s) (dl (b * s) - 1) ≠ 0 := dl_top n0
    have nk : dl (b * s) ≤ dl b + 1 := dl_lt.2 hbs
    have hq : a / b = a * s / (b * s) := (Nat.mul_div_mul_right _ _ hs0).symm
    have hr : a % b = a * s % (b * s) / s := by rw [Nat.mul_mod_mul_right, Nat.mul_div_cancel _ hs0]
    have hrl : a * s % (b * s) < 4294967296 ^ dl (a * s % (b * s)) := dl_lt.1 (Nat.le_refl _)
    have hrj : dl (a * s % (b * s)) ≤ j + 1 := dl_lt.2 (Nat.lt_of_le_of_lt (Nat.mod_le _ _) hA0)
    have happ : dg (a * s) (j + 1) ++ [0] = dg (a * s) (j + 2) := by rw [dg_add (a * s) (j + 1), dig_none hA0 (Nat.le_refl _)]
    have hst : DivI (a * s) (b * s) (j + 2) (j + 2 - dl (b * s)) (a * s) 0 := DivI.start hA0 n0 (by omega) n1
    have hS3 := @Short_does G (a * s % (b * s)) (j + 2) (by omega) (Nat.lt_of_le_of_lt (Nat.mod_le _ _) (Nat.lt_trans hA0 (Nat.pow_lt_pow_right (by decide) (by omega))))
    have hbs0 : 0 < b * s := Nat.mul_pos hb0 hs0
    refine ⟨j + 2 - dl (b * s), dl (a * s % (b * s)), ?_, ?_, ?_, by omega, by omega⟩
    · rw [hq, hr]
      have gt := @dg_dig (dl b) b (dl b - 1) (by omega)
      rw [ht] at gt
      have gb := @dg_dig (dl (b * s)) (b * s) (dl (b * s) - 1) (by omega)
      have hX := fun A Q i (h : DivI (a * s) (b * s) (j + 2) (i + 1) A Q) => h.part n0 n2
      have hN := fun A Q i d (h : DivI (a * s) (b * s) (j + 2) (i + 1) A Q) hi hd hdb => h.next (d := d) n0 n2 hi hd hdb
      have hG := fun X q (h1 : X < 4294967296 ^ (dl (b * s) + 1)) h2 h3 => @guess_ge X (b * s) (dl (b * s)) q n0 h1 n2 nt h2 h3
      have hT := fun g (hg : g < 4294967296) => @Times_does G (b * s) g (dl (b * s)) 1 n2 (by rw [Nat.pow_one]; exact hg) (by omega) (by decide)
      have hM := fun X g (h1 : X < 4294967296 ^ (dl (b * s) + 1)) (hg : g < 4294967296) => @less_ex X (b * s * g) (dl (b * s) + 1) h1 (mul_lt n2 (by rw [Nat.pow_one]; exact hg))
      have hMd := fun X g d u (h : Less X (b * s * g) d (dl (b * s) + 1) u) => @Minus_r_does G X (b * s * g) d (dl (b * s) + 1) (dl (b * s) + 1) u h.2.2.1 h (by omega)
      generalize dl (b * s) = n at *
      generalize b * s = v at *
      generalize hA0e : a * s = A0 at *
      have hmx : (if (n : Int) < (j : Int) + 2 then (j : Int) + 2 - n else 0).toNat = j + 2 - n := by split <;> omega
      refine Does.of (nt := 163) Tryz.func172 rfl rfl rfl (by simp) ?_
      simp only [argTm, PV.ext, Ce.ext]
      refine Do.seqk fun _ k1_ => ?_
      refine Do.region [0,1] true ?_
      simp [go_sem, h1, gt, happ, dg_len, -List.reduceReplicate]
      apply k1_; clear k1_
      refine Do.seqk fun _ k2_ => ?_
      refine Do.region [0,1] true ?_
      simp [go_sem, h1, gt, happ, dg_len, -List.reduceReplicate]
      refine DoL.call true 102 rfl rfl rfl rfl (by first | exact trivial | omega | (simp; done) | (simp; omega)) (hS) rfl (by first | exact .inl rfl | exact .inr rfl) rfl ?_
      simp [go_sem, h1, gt, happ, dg_len, -List.reduceReplicate]
      apply k2_; clear k2_
      refine Do.seqk fun _ k3_ => ?_
      refine Do.seqk fun _ k4_ => ?_
      refine Do.region [0,1,24] true ?_
      simp [go_sem, h1, gt, happ, dg_len, -List.reduceReplicate]
      repeat (refine And.intro (by first | omega | (intros; omega) | grind) ?_)
      apply k4_; clear k4_
      refine Do.cond [0,1] rfl (fun h => ?_) (fun h => ?_) <;> simp [go_sem, h1, gt, happ, dg_len, -List.reduceReplicate] at h ⊢
      · omega
      · refine Do.skip ?_
        simp [go_sem]
        apply k3_; clear k3_
        refine Do.seqk fun _ k5_ => ?_
        refine Do.region [0,1,6] true ?_
        simp [go_sem, h1, gt, happ, dg_len, -List.reduceReplicate]
        apply k5_; clear k5_
        refine Do.seqk fun _ k6_ => ?_
        refine Do.block ?_
        refine Do.loopF [0,1,6] (fun (e : Nat) => [(6, .v (.c (.n (2 ^ e))))]) (fun (e : Nat) => []) (fun (e : Nat) => e ≤ E) (fun (e : Nat) => E - e) (0) (fun _ => by first | (simp [go_sem, mixS]; done) | (simp [go_sem, mixS]; rfl)) (St.le_of (by first | rfl | simp [keep]) (by first | rfl | simp [keep])) (Nat.zero_le _) ?_
        intro e he
        have e1 := hlt e he
        have e2 : t * 2 ^ e < M64 := by unfold M64; omega
        have e3 := htest e he
        have e4 := hpe e he
        have e5 : 2 * 2 ^ e < M64 := by unfold M64; omega
        refine Do.seqk fun _ k7_ => ?_
        refine Do.seqk fun _ k8_ => ?_
        refine Do.region [0,1,6,40] true ?_
        simp [go_sem, gt, e2, e5, happ, dg_len, hmx, -List.reduceReplicate]
        repeat (refine And.intro (by first | omega | (intros; omega) | grind) ?_)
        apply k8_; clear k8_
        refine Do.cond [0,1,6] rfl (fun h2 => ?_) (fun h2 => ?_) <;> simp [go_sem, gt, e2, e5, happ, dg_len, hmx, -List.reduceReplicate] at h2 ⊢
        · refine Do.skip ?_
          simp [go_sem]
          apply k7_; clear k7_
          refine Do.block ?_
          refine Do.region [0,1,6] true ?_
          simp [go_sem, gt, e2, e5, happ, dg_len, hmx, -List.reduceReplicate]
          repeat (refine And.intro (by first | omega | (intros; omega) | grind) ?_)
          refine ⟨e + 1, St.le_of (by simp [keep, Nat.pow_succ, Nat.mul_comm]) (by simp [keep]), e3.1 h2, by have := e3.1 h2; simp; omega⟩
        · obtain rfl : e = E := by omega
          rw [hs]
          refine Do.exit ?_
          simp [go_sem]
          apply k6_; clear k6_
          refine Do.seqk fun _ k9_ => ?_
          refine Do.region [0,1,6] true ?_
          simp [go_sem, gt, e2, e5, happ, dg_len, hmx, -List.reduceReplicate]
          refine DoL.frz true 703 702 rfl ?_
          simp [go_sem]
          refine DoL.callW true 704 2000 rfl rfl rfl rfl (by first | exact trivial | omega | (simp; done) | (simp; omega)) (T1) rfl rfl ?_
          simp [go_sem, gt, e2, e5, happ, dg_len, hmx, -List.reduceReplicate]
          apply k9_; clear k9_
          refine Do.seqk fun _ k10_ => ?_
          refine Do.region [0,1,6] true ?_
          simp [go_sem, gt, e2, e5, happ, dg_len, hmx, -List.reduceReplicate]
          repeat (refine And.intro (by first | omega | (intros; omega) | grind) ?_)
          apply k10_; clear k10_
          refine Do.seqk fun _ k11_ => ?_
          refine Do.region [0,1,6] true ?_
          simp [go_sem, gt, e2, e5, happ, dg_len, hmx, -List.reduceReplicate]
          refine DoL.frz true 903 902 rfl ?_
          simp [go_sem]
          refine DoL.call true 904 rfl rfl rfl rfl (by first | exact trivial | omega | (simp; done) | (simp; omega)) (T2) rfl (by first | exact .inl rfl | exact .inr rfl) rfl ?_
          simp [go_sem, gt, e2, e5, happ, dg_len, hmx, -List.reduceReplicate]
          refine DoL.call true 905 rfl rfl rfl rfl (by first | exact trivial | omega | (simp; done) | (simp; omega)) (S2) rfl (by first | exact .inl rfl | exact .inr rfl) rfl ?_
          simp [go_sem, gt, e2, e5, happ, dg_len, hmx, -List.reduceReplicate]
          apply k11_; clear k11_
          refine Do.seqk fun _ k12_ => ?_
          refine Do.region [0,1,6,7] true ?_
          simp [go_sem, gt, e2, e5, happ, dg_len, hmx, -List.reduceReplicate]
          repeat (refine And.intro (by first | omega | (intros; omega) | grind) ?_)
          apply k12_; clear k12_
          refine Do.seqk fun _ k13_ => ?_
          refine Do.region [0,1,6,7,8] true ?_
          simp [go_sem, gt, e2, e5, happ, dg_len, hmx, -List.reduceReplicate]
          repeat (refine And.intro (by first | omega | (intros; omega) | grind) ?_)
          apply k13_; clear k13_
          refine Do.seqk fun _ k14_ => ?_
          refine Do.seqk fun _ k15_ => ?_
          refine Do.region [0,1,6,7,8,9] true ?_
          simp [go_sem, gt, e2, e5, happ, dg_len, hmx, -List.reduceReplicate]
          repeat (refine And.intro (by first | omega | (intros; omega) | grind) ?_)
          apply k15_; clear k15_
          refine Do.block ?_
          refine Do.loopF [0,1,6,7,8,9] (fun (z : Int × Nat × Nat) => [(9, .int .i64 z.1)]) (fun (z : Int × Nat × Nat) => [(1105, .wr (dg z.2.2 (j + 2 - n))), (2000, .wr (dg z.2.1 (j + 2)))]) (fun (z : Int × Nat × Nat) => DivI A0 v (j + 2) (z.1 + 1).toNat z.2.1 z.2.2 ∧ (z.1 + n + 1 ≤ j + 2 ∨ z.1 < 0)) (fun (z : Int × Nat × Nat) => (z.1 + 1).toNat) ((((j + 2 : Nat) : Int) - n - 1, A0, 0)) (fun _ => by first | (simp [go_sem, mixS]; done) | (simp [go_sem, mixS]; rfl)) (St.le_of (by simp [keep]) (by simp [keep, ← dg_zero])) (⟨by rw [show (((j + 2 : Nat) : Int) - n - 1 + 1).toNat = j + 2 - n by omega]; exact hst, by omega⟩) ?_
          rintro ⟨i, A, Q⟩ ⟨hI, hi2⟩
          simp only at hI hi2
          refine Do.seqk fun _ k16_ => ?_
          refine Do.seqk fun _ k17_ => ?_
          refine Do.region [0,1,6,7,8,9,69] true ?_
          simp [go_sem, gt, e2, e5, happ, dg_len, hmx, -List.reduceReplicate]
          apply k17_; clear k17_
          refine Do.cond [0,1,6,7,8,9] rfl (fun h3 => ?_) (fun h3 => ?_) <;> simp [go_sem, gt, e2, e5, happ, dg_len, hmx, -List.reduceReplicate] at h3 ⊢
          · obtain ⟨I, rfl⟩ : ∃ I : Nat, i = I := ⟨i.toNat, by omega⟩
            rw [show ((I : Int) + 1).toNat = I + 1 by omega] at hI
            have hiL : I + (n + 1) ≤ j + 2 := by omega
            obtain ⟨x1, x2, x3, x4, x5⟩ := hX A Q I hI
            have xd := fun t => hgh_dig A I t
            have hpart := @dg_part A (j + 2) I (n + 1) hiL
            obtain ⟨ge, gg⟩ := hG (hgh A I) (hgh A I / v) x2 x4 x3
            have hnx := hN A Q I
            generalize hXe : hgh A I = X at *
            have a1 := @dg_dig (j + 2) A (I + n) (by omega)
            have a2 := @dg_dig (j + 2) A (I + (n - 1)) (by omega)
            rw [← xd] at a1 a2
            have l1 := dig_lt X n
            have l2 := dig_lt X (n - 1)
            obtain ⟨f1, f2⟩ := two_dig l1 l2
            refine Do.skip ?_
            simp [go_sem]
            apply k16_; clear k16_
            refine Do.seqk fun _ k18_ => ?_
            refine Do.block ?_
            refine Do.seqk fun _ k19_ => ?_
            refine Do.draw [0,1,6,7,8,9,10] true (by kernel_rfl) ?_
            simp [go_sem, gb, a1, a2, f1, f2, nt, dg_len, show ((I : Int) + n).toNat = I + n by omega, show ((I : Int) + n - 1).toNat = I + (n - 1) by omega, show ((n : Int) - 1).toNat = n - 1 by omega]
            repeat (refine And.intro (by first | omega | (intros; omega) | kernel_rfl | grind) ?_)
            try (refine And.intro (by kernel_rfl) ?_)
            apply k19_; clear k19_
            refine Do.seqk fun _ k20_ => ?_
            refine Do.region [0,1,6,7,8,9,11] true ?_
            simp [go_sem, gb, a1, a2, f1, f2, nt, dg_len, show ((I : Int) + n).toNat = I + n by omega, show ((I : Int) + n - 1).toNat = I + (n - 1) by omega, show ((n : Int) - 1).toNat = n - 1 by omega]
            repeat (refine And.intro (by first | omega | (intros; omega) | grind) ?_)
            refine DoL.minN true 1608 rfl rfl rfl rfl rfl ?_
            simp [go_sem]
            apply k20_; clear k20_
            refine Do.seqk fun _ k21_ => ?_
            refine Do.block ?_
            refine Do.loopF [0,1,6,7,8,9,11] (fun (g : Nat) => [(11, .v (.c (.n g)))]) (fun (g : Nat) => []) (fun (g : Nat) => X / v ≤ g ∧ g ≤ 4294967295) (fun (g : Nat) => g) (min ((dig X n * 4294967296 + dig X (n - 1)) / dig v (n - 1)) 4294967295) (fun _ => by first | (simp [go_sem, mixS]; done) | (simp [go_sem, mixS]; rfl)) (St.le_of (by first | rfl | simp [keep]) (by first | rfl | simp [keep])) (⟨gg, Nat.min_le_right _ _⟩) ?_
            rintro g ⟨g2, g3⟩
            have gB : g < 4294967296 := by omega
            have hTg := hT g gB
            rw [g1 g gB] at hTg
            obtain ⟨d, hLs, hdd⟩ := hM X g x2 gB
            have hMm := hMd X g d _ hLs
            rw [← hpart] at hMm
            have hv0 : 0 < v := hbs0
            have hgq : v * g ≤ X ↔ g ≤ X / v := by rw [Nat.le_div_iff_mul_le hv0, Nat.mul_comm]
            refine Do.block ?_
            refine Do.seqk fun _ k22_ => ?_
            refine Do.region [0,1,6,7,8,9,11,12] true ?_
            simp [go_sem, gb, a1, a2, f1, f2, nt, dg_len, show ((I : Int) + n).toNat = I + n by omega, show ((I : Int) + n - 1).toNat = I + (n - 1) by omega, show ((n : Int) - 1).toNat = n - 1 by omega]
            refine DoL.frz true 1703 1702 rfl ?_
            simp [go_sem]
            refine DoL.call true 1704 rfl rfl rfl rfl (by first | exact trivial | omega | (simp; done) | (simp; omega)) (hTg) rfl (by first | exact .inl rfl | exact .inr rfl) rfl ?_
            simp [go_sem, gb, a1, a2, f1, f2, nt, dg_len, show ((I : Int) + n).toNat = I + n by omega, show ((I : Int) + n - 1).toNat = I + (n - 1) by omega, show ((n : Int) - 1).toNat = n - 1 by omega]
            apply k22_; clear k22_
            refine Do.seqk fun _ k23_ => ?_
            refine Do.seqk fun _ k24_ => ?_
            refine Do.region [0,1,6,7,8,9,11,13,14] true ?_
            simp [go_sem, gb, a1, a2, f1, f2, nt, dg_len, show ((I : Int) + n).toNat = I + n by omega, show ((I : Int) + n - 1).toNat = I + (n - 1) by omega, show ((n : Int) - 1).toNat = n - 1 by omega]
            repeat (refine And.intro (by first | omega | (intros; omega) | grind) ?_)
            refine DoL.part true 1809 rfl rfl rfl (by decide) rfl rfl rfl (by decide) (by decide) rfl rfl rfl rfl rfl rfl rfl rfl rfl rfl rfl rfl (by simp [dg_len] <;> omega) ((show Does _ _ _ [.c (.w false (((dg A (j + 2)).drop (I : Int).toNat).take (((I : Int) + n + 1).toNat - (I : Int).toNat))), _] _ from by rw [show ((I : Int) + n + 1).toNat - (I : Int).toNat = n + 1 by omega, show (I : Int).toNat = I by omega]; exact hMm)) rfl rfl ?_
            simp [go_sem, gb, a1, a2, f1, f2, nt, dg_len, show ((I : Int) + n).toNat = I + n by omega, show ((I : Int) + n - 1).toNat = I + (n - 1) by omega, show ((n : Int) - 1).toNat = n - 1 by omega]
            apply k24_; clear k24_
            refine Do.seqk fun _ k25_ => ?_
            refine Do.region [0,1,6,7,8,9,11,13,112] true ?_
            simp [go_sem, gb, a1, a2, f1, f2, nt, dg_len, show ((I : Int) + n).toNat = I + n by omega, show ((I : Int) + n - 1).toNat = I + (n - 1) by omega, show ((n : Int) - 1).toNat = n - 1 by omega]
            repeat (refine And.intro (by first | omega | (intros; omega) | grind) ?_)
            apply k25_; clear k25_
            refine Do.cond [0,1,6,7,8,9,11,13] rfl (fun h5 => ?_) (fun h5 => ?_) <;> simp [go_sem, gb, a1, a2, f1, f2, nt, dg_len, show ((I : Int) + n).toNat = I + n by omega, show ((I : Int) + n - 1).toNat = I + (n - 1) by omega, show ((n : Int) - 1).toNat = n - 1 by omega] at h5 ⊢
            · have hge : v * g ≤ X := by simpa using h5
              obtain rfl : g = X / v := by have := hgq.1 hge; omega
              have hd1 := hdd hge
              have hmd : d = X % v := by have := Nat.div_add_mod X v; omega
              have hdv : d < v := by rw [hmd]; exact Nat.mod_lt _ hv0
              refine Do.seqk fun _ k26_ => ?_
              refine Do.seqk fun _ k27_ => ?_
              refine Do.region [0,1,6,7,8,9,11,13,15] true ?_
              simp [go_sem, gb, a1, a2, f1, f2, nt, dg_len, show ((I : Int) + n).toNat = I + n by omega, show ((I : Int) + n - 1).toNat = I + (n - 1) by omega, show ((n : Int) - 1).toNat = n - 1 by omega]
              apply k27_; clear k27_
              refine Do.block ?_
              refine Do.loopF [0,1,6,7,8,9,11,13,15] (fun (t2 : Nat) => [(15, .int .i64 t2)]) (fun (t2 : Nat) => [(2000, .wr (dg (cpy A d I t2) (j + 2)))]) (fun (t2 : Nat) => t2 ≤ n + 1) (fun (t2 : Nat) => n + 1 - t2) (0) (fun _ => by first | (simp [go_sem, mixS]; done) | (simp [go_sem, mixS]; rfl)) (St.le_of (by simp [keep]) (by simp [keep, cpy_zero])) (Nat.zero_le _) ?_
              intro t2 ht2
              refine Do.seqk fun _ k28_ => ?_
              refine Do.seqk fun _ k29_ => ?_
              refine Do.region [0,1,6,7,8,9,11,13,15,115] true ?_
              simp [go_sem, gb, a1, a2, f1, f2, nt, dg_len, show ((I : Int) + n).toNat = I + n by omega, show ((I : Int) + n - 1).toNat = I + (n - 1) by omega, show ((n : Int) - 1).toNat = n - 1 by omega]
              apply k29_; clear k29_
              refine Do.cond [0,1,6,7,8,9,11,13,15] rfl (fun h6 => ?_) (fun h6 => ?_) <;> simp [go_sem, gb, a1, a2, f1, f2, nt, dg_len, show ((I : Int) + n).toNat = I + n by omega, show ((I : Int) + n - 1).toNat = I + (n - 1) by omega, show ((n : Int) - 1).toNat = n - 1 by omega] at h6 ⊢
              · have hcs := @cpy_step A d I t2 (j + 2) (by omega)
                have r1 := @dg_dig (n + 1) d t2 (by omega)
                refine Do.skip ?_
                simp [go_sem]
                apply k28_; clear k28_
                refine Do.seqk fun _ k30_ => ?_
                refine Do.block ?_
                refine Do.region [0,1,6,7,8,9,11,13,15] true ?_
                simp [go_sem, r1, dg_len, show ((I : Int) + t2).toNat = I + t2 by omega]
                repeat (refine And.intro (by first | omega | (intros; omega) | grind) ?_)
                apply k30_; clear k30_
                refine Do.region [0,1,6,7,8,9,11,13,15] true ?_
                simp [go_sem, r1, dg_len, show ((I : Int) + t2).toNat = I + t2 by omega]
                repeat (refine And.intro (by first | omega | (intros; omega) | grind) ?_)
                refine ⟨t2 + 1, St.le_of rfl (by simp [keep, hcs]), by omega, by simp; omega⟩
              · obtain rfl : t2 = n + 1 := by omega
                obtain ⟨Q', q1, q2⟩ := hnx d hI hiL (by omega) hdv
                refine Do.exit ?_
                simp [go_sem]
                apply k26_; clear k26_
                refine Do.exit ?_
                simp [go_sem]
                apply k21_; clear k21_
                refine Do.region [0,1,6,7,8,9] true ?_
                simp [go_sem, dg_len]
                repeat (refine And.intro (by first | omega | (intros; omega) | grind) ?_)
                apply k18_; clear k18_
                refine Do.region [0,1,6,7,8,9] true ?_
                simp [go_sem, dg_len]
                repeat (refine And.intro (by first | omega | (intros; omega) | grind) ?_)
                refine ⟨((I : Int) - 1, cpy A d I (n + 1), Q'), St.le_of (by simp [keep]) (by simp [keep, q1]), ⟨by rw [show ((I : Int) - 1 + 1).toNat = I by omega]; exact q2, Or.inl (by show (I : Int) - 1 + n + 1 ≤ (j : Int) + 2; omega)⟩, by show ((I : Int) - 1 + 1).toNat < ((I : Int) + 1).toNat; omega⟩
            · have hlt2 : ¬ v * g ≤ X := by simpa using h5
              have hqg : X / v < g := Nat.lt_of_not_le fun h => hlt2 (hgq.2 h)
              have hg0 : 0 < g := Nat.lt_of_le_of_lt (Nat.zero_le _) hqg
              refine Do.skip ?_
              simp [go_sem]
              apply k23_; clear k23_
              refine Do.region [0,1,6,7,8,9,11] true ?_
              simp [go_sem, gb, a1, a2, f1, f2, nt, dg_len, show ((I : Int) + n).toNat = I + n by omega, show ((I : Int) + n - 1).toNat = I + (n - 1) by omega, show ((n : Int) - 1).toNat = n - 1 by omega]
              repeat (refine And.intro (by first | omega | (intros; omega) | grind) ?_)
              refine ⟨g - 1, St.le_of (by first | rfl | simp [keep]) (by first | rfl | simp [keep]), ⟨Nat.le_sub_one_of_lt hqg, by omega⟩, by simp; omega⟩
          · obtain ⟨rfl, rfl⟩ := (show DivI A0 v (j + 2) 0 A Q by rw [show (i + 1).toNat = 0 by omega] at hI; exact hI).fin hbs0
            refine Do.exit ?_
            simp [go_sem]
            apply k14_; clear k14_
            refine Do.seqk fun _ k31_ => ?_
            refine Do.region [6,8,16] true ?_
            simp [go_sem, gt, e2, e5, happ, dg_len, hmx, -List.reduceReplicate]
            refine DoL.frz true 2601 2000 rfl ?_
            simp [go_sem]
            refine DoL.call true 2602 rfl rfl rfl rfl (by first | exact trivial | omega | (simp; done) | (simp; omega)) (hS3) rfl (by first | exact .inl rfl | exact .inr rfl) rfl ?_
            simp [go_sem, gt, e2, e5, happ, dg_len, hmx, -List.reduceReplicate]
            have htop := @qf_top (A0 % v) s _ hrl
            have hz := @hi_none (A0 % v) _ hrl _ (Nat.le_refl _)
            have h00 := qf_zero (A0 % v) s
            have h01 := hi_zero (A0 % v)
            have hstp := fun i (h : i < dl (A0 % v)) => @qf_step (A0 % v) s _ i h hs0 hsB
            generalize A0 % v = r at *
            apply k31_; clear k31_
            refine Do.seqk fun _ k32_ => ?_
            refine Do.region [6,8,16,17] true ?_
            simp [go_sem, gt, e2, e5, happ, dg_len, hmx, -List.reduceReplicate]
            repeat (refine And.intro (by first | omega | (intros; omega) | grind) ?_)
            apply k32_; clear k32_
            refine Do.seqk fun _ k33_ => ?_
            refine Do.region [6,8,16,17,18] true ?_
            simp [go_sem, gt, e2, e5, happ, dg_len, hmx, -List.reduceReplicate]
            apply k33_; clear k33_
            refine Do.seqk fun _ k34_ => ?_
            refine Do.seqk fun _ k35_ => ?_
            refine Do.region [6,8,16,17,18,19] true ?_
            simp [go_sem, gt, e2, e5, happ, dg_len, hmx, -List.reduceReplicate]
            repeat (refine And.intro (by first | omega | (intros; omega) | grind) ?_)
            apply k35_; clear k35_
            refine Do.block ?_
            refine Do.loopF [6,8,16,17,18,19] (fun (i2 : Nat) => [(18, .v (.c (.n (hgh r i2 % s)))), (19, .int .i64 ((i2 : Int) - 1))]) (fun (i2 : Nat) => [(2702, .wr (dg (qf r s i2) (dl r)))]) (fun (i2 : Nat) => i2 ≤ dl r) (fun (i2 : Nat) => i2) (dl r) (fun _ => by first | (simp [go_sem, mixS]; done) | (simp [go_sem, mixS]; rfl)) (St.le_of (by simp [keep, htop, hz]) (by simp [keep, htop, hz, ← dg_zero])) (Nat.le_refl _) ?_
            intro i2 hi3
            refine Do.seqk fun _ k36_ => ?_
            refine Do.seqk fun _ k37_ => ?_
            refine Do.region [6,8,16,17,18,19,142] true ?_
            simp [go_sem, gt, e2, e5, happ, dg_len, hmx, -List.reduceReplicate]
            apply k37_; clear k37_
            refine Do.cond [6,8,16,17,18,19] rfl (fun h8 => ?_) (fun h8 => ?_) <;> simp [go_sem, gt, e2, e5, happ, dg_len, hmx, -List.reduceReplicate] at h8 ⊢
            · obtain ⟨i2, rfl⟩ : ∃ x, i2 = x + 1 := ⟨i2 - 1, by omega⟩
              rw [show ((i2 + 1 : Nat) : Int) - 1 = i2 by omega]
              have hs9 := hstp i2 (by omega)
              have g19 := @dg_dig (dl r) r i2 (by omega)
              have b1 : hgh r (i2 + 1) % s * 4294967296 + dig r i2 < M64 := hs9.1
              have b2 : hgh r (i2 + 1) % s * 4294967296 < M64 := Nat.lt_of_le_of_lt (Nat.le_add_right _ _) b1
              refine Do.skip ?_
              simp [go_sem]
              apply k36_; clear k36_
              refine Do.seqk fun _ k38_ => ?_
              refine Do.block ?_
              refine Do.seqk fun _ k39_ => ?_
              refine Do.region [6,8,16,17,18,19] true ?_
              simp [go_sem, g19, b1, b2, Nat.ne_of_gt hs0, dg_len]
              repeat (refine And.intro (by first | omega | (intros; omega) | grind) ?_)
              apply k39_; clear k39_
              refine Do.seqk fun _ k40_ => ?_
              refine Do.region [6,8,16,17,18,19] true ?_
              simp [go_sem, g19, b1, b2, Nat.ne_of_gt hs0, dg_len]
              repeat (refine And.intro (by first | omega | (intros; omega) | grind) ?_)
              apply k40_; clear k40_
              refine Do.region [6,8,16,17,18,19] true ?_
              simp [go_sem, g19, b1, b2, Nat.ne_of_gt hs0, dg_len]
              repeat (refine And.intro (by first | omega | (intros; omega) | grind) ?_)
              apply k38_; clear k38_
              refine Do.region [6,8,16,17,18,19] true ?_
              simp [go_sem, g19, b1, b2, Nat.ne_of_gt hs0, dg_len]
              repeat (refine And.intro (by first | omega | (intros; omega) | grind) ?_)
              refine ⟨i2, St.le_of (by simp [keep, hs9.2.2]) (by simp [keep, hs9.2.1]), by omega, by simp⟩
            · refine Do.exit ?_
              simp [go_sem]
              apply k34_; clear k34_
              refine Do.seqk fun _ k41_ => ?_
              refine Do.region [4,5] true ?_
              simp [go_sem, gt, e2, e5, happ, dg_len, hmx, -List.reduceReplicate]
              apply k41_; clear k41_
              refine Do.ret ?_
              simp [endQ, rets, ret1, go_sem, gt, e2, e5, happ, dg_len, hmx, -List.reduceReplicate]
              repeat (refine And.intro (by first | omega | (intros; omega) | grind) ?_)
              obtain rfl : i2 = 0 := by omega
              rw [h00]
              exact TLe.refl _
    · rw [hq]
      rcases Nat.lt_or_ge (j + 1) (dl (b * s)) with h | h
      · rw [Nat.div_eq_of_lt (Nat.lt_of_lt_of_le hA0 (Nat.le_trans (Nat.pow_le_pow_right (by decide) (by omega)) n1))]
        exact Hpos _
      · rw [Nat.div_lt_iff_lt_mul hbs0]
        refine Nat.lt_of_lt_of_le hA0 (Nat.le_trans ?_ (Nat.mul_le_mul_left _ n1))
        rw [← Nat.pow_add]
        exact Nat.pow_le_pow_right (by decide) (by omega)
    · rw [hr]
      exact Nat.lt_of_le_of_lt (Nat.div_le_self _ _) hrl
end Go.Proofs.YtokgalpflooegaaGreatDoor
/- Division, and the greatest common divisor. No condition. -/
namespace Go.Proofs.YtokgalpflooegaaGreatDoor
set_option linter.unusedVariables false
set_option linter.unusedSimpArgs false
variable {G : Gl}
set_option maxHeartbeats 4000000
set_option maxRecDepth 10000
theorem RDivMod_does {x y : List Nat} (hx : x.length ≤ 536870000) (wx : Ws x) (hy : y.length ≤ 536870000) (wy : Ws y) (h0 : 0 < val y) : Does Tryz.prog G 135 [Wd x, Wd y] (.t [Wn (nat (val x / val y)), Wn (nat (val x % val y))]) := by
  have hA := @Digits_does G x (by omega) wx
  have hB := @Digits_does G y (by omega) wy
  obtain ⟨jq, jr, hD, q1, q2, q3, q4⟩ := @Divide_does G (val x) (val y) (2 * x.length) (2 * y.length) (ws_dg wx) (ws_dg wy) h0 (by omega) (by omega)
  have n1 := @rnat_does G _ jq (by omega) q1
  have n2 := @rnat_does G _ jr (by omega) q2
  refine Does.of (nt := 20) Tryz.func135 rfl rfl rfl (by simp) ?_
  simp only [argTm, PV.ext, Ce.ext]
  refine Do.seqk fun _ k1_ => ?_
  refine Do.region [0,1] true ?_
  simp [go_sem]
  apply k1_; clear k1_
  refine Do.seqk fun _ k2_ => ?_
  refine Do.region [6,7] true ?_
  simp [go_sem]
  refine DoL.call true 102 rfl rfl rfl rfl (by first | exact trivial | omega | (simp; done) | (simp; omega)) (hA) rfl (by first | exact .inl rfl | exact .inr rfl) rfl ?_
  simp [go_sem]
  refine DoL.call true 104 rfl rfl rfl rfl (by first | exact trivial | omega | (simp; done) | (simp; omega)) (hB) rfl (by first | exact .inl rfl | exact .inr rfl) rfl ?_
  simp [go_sem]
  refine DoL.call true 105 rfl rfl rfl rfl (by first | exact trivial | omega | (simp; done) | (simp; omega)) (hD) rfl (by first | exact .inl rfl | exact .inr rfl) rfl ?_
  simp [go_sem]
  apply k2_; clear k2_
  refine Do.seqk fun _ k3_ => ?_
  refine Do.region [4,5] true ?_
  simp [go_sem]
  refine DoL.call true 202 rfl rfl rfl rfl (by first | exact trivial | omega | (simp; done) | (simp; omega)) (n1) rfl (by first | exact .inl rfl | exact .inr rfl) rfl ?_
  simp [go_sem]
  refine DoL.call true 204 rfl rfl rfl rfl (by first | exact trivial | omega | (simp; done) | (simp; omega)) (n2) rfl (by first | exact .inl rfl | exact .inr rfl) rfl ?_
  simp [go_sem]
  apply k3_; clear k3_
  refine Do.ret ?_
  simp [endQ, rets, ret1, go_sem]
  repeat (refine And.intro (by first | omega | (intros; omega) | grind) ?_)
  exact TLe.refl _
theorem RDiv_does {x y : List Nat} (hx : x.length ≤ 536870000) (wx : Ws x) (hy : y.length ≤ 536870000) (wy : Ws y) (h0 : 0 < val y) : Does Tryz.prog G 162 [Wd x, Wd y] (.v (Wn (nat (val x / val y)))) := by
  have hD := @RDivMod_does G x y hx wx hy wy h0
  refine Does.of (nt := 14) Tryz.func162 rfl rfl rfl (by simp) ?_
  simp only [argTm, PV.ext, Ce.ext]
  refine Do.seqk fun _ k1_ => ?_
  refine Do.region [0,1] true ?_
  simp [go_sem]
  apply k1_; clear k1_
  refine Do.seqk fun _ k2_ => ?_
  refine Do.region [5] true ?_
  simp [go_sem]
  refine DoL.call true 103 rfl rfl rfl rfl (by first | exact trivial | omega | (simp; done) | (simp; omega)) (hD) rfl (by first | exact .inl rfl | exact .inr rfl) rfl ?_
  simp [go_sem]
  apply k2_; clear k2_
  refine Do.seqk fun _ k3_ => ?_
  refine Do.region [4] true ?_
  simp [go_sem]
  apply k3_; clear k3_
  refine Do.ret ?_
  simp [endQ, rets, ret1, go_sem]
  repeat (refine And.intro (by first | omega | (intros; omega) | grind) ?_)
  exact TLe.refl _
theorem RMod_does {x y : List Nat} (hx : x.length ≤ 536870000) (wx : Ws x) (hy : y.length ≤ 536870000) (wy : Ws y) (h0 : 0 < val y) : Does Tryz.prog G 185 [Wd x, Wd y] (.v (Wn (nat (val x % val y)))) := by
  have hD := @RDivMod_does G x y hx wx hy wy h0
  refine Does.of (nt := 14) Tryz.func185 rfl rfl rfl (by simp) ?_
  simp only [argTm, PV.ext, Ce.ext]
  refine Do.seqk fun _ k1_ => ?_
  refine Do.region [0,1] true ?_
  simp [go_sem]
  apply k1_; clear k1_
  refine Do.seqk fun _ k2_ => ?_
  refine Do.region [6] true ?_
  simp [go_sem]
  refine DoL.call true 103 rfl rfl rfl rfl (by first | exact trivial | omega | (simp; done) | (simp; omega)) (hD) rfl (by first | exact .inl rfl | exact .inr rfl) rfl ?_
  simp [go_sem]
  apply k2_; clear k2_
  refine Do.seqk fun _ k3_ => ?_
  refine Do.region [4] true ?_
  simp [go_sem]
  apply k3_; clear k3_
  refine Do.ret ?_
  simp [endQ, rets, ret1, go_sem]
  repeat (refine And.intro (by first | omega | (intros; omega) | grind) ?_)
  exact TLe.refl _
theorem gcd_step (a b : Nat) : Nat.gcd b (a % b) = Nat.gcd a b := by
  rw [Nat.gcd_comm b, ← Nat.gcd_rec, Nat.gcd_comm]
theorem len_of_le {x : List Nat} (wx : Ws x) {n : Nat} (h : n ≤ val x) : (nat n).length ≤ x.length := nat_len_le wx h
theorem RGcd_does {x y : List Nat} (hx : x.length ≤ 536870000) (wx : Ws x) (hy : y.length ≤ 536870000) (wy : Ws y) : Does Tryz.prog G 161 [Wd x, Wd y] (.v (Wn (nat (Nat.gcd (val x) (val y))))) := by
  obtain ⟨g, hg⟩ : ∃ g, Nat.gcd (val x) (val y) = g := ⟨_, rfl⟩
  rw [hg]
  have hT := @RTrim_does G x (by omega) wx
  have hl0 := @len_of_le x wx (val x) (Nat.le_refl _)
  obtain ⟨a0, ha0⟩ : ∃ a0, val x = a0 := ⟨_, rfl⟩
  rw [ha0] at hg hT hl0
  have hl0 : (nat a0).length ≤ 536870000 := by omega
  clear ha0
  refine Does.of (nt := 16) Tryz.func161 rfl rfl rfl (by simp) ?_
  simp only [argTm, PV.ext, Ce.ext]
  refine Do.seqk fun _ k1_ => ?_
  refine Do.region [0,1] true ?_
  simp [go_sem]
  apply k1_; clear k1_
  refine Do.seqk fun _ k2_ => ?_
  refine Do.seqk fun _ k3_ => ?_
  refine Do.region [0,1] true ?_
  simp [go_sem]
  refine DoL.call true 102 rfl rfl rfl rfl (by first | exact trivial | omega | (simp; done) | (simp; omega)) (hT) rfl (by first | exact .inl rfl | exact .inr rfl) rfl ?_
  simp [go_sem]
  apply k3_; clear k3_
  refine Do.block ?_
  refine Do.loopF [0,1] (fun (z : Nat × List Nat) => [(0, .v (Wn (nat z.1))), (1, .v (Wd z.2))]) (fun (z : Nat × List Nat) => []) (fun (z : Nat × List Nat) => Nat.gcd z.1 (val z.2) = g ∧ (nat z.1).length ≤ 536870000 ∧ z.2.length ≤ 536870000 ∧ Ws z.2) (fun (z : Nat × List Nat) => val z.2) ((a0, y)) (fun _ => by first | (simp [go_sem, mixS]; done) | (simp [go_sem, mixS]; rfl)) (St.le_of (by first | rfl | simp [keep]) (by first | rfl | simp [keep])) (⟨hg, hl0, hy, wy⟩) ?_
  rintro ⟨a, b⟩ ⟨i1, i2, i3, i4⟩
  simp only at i1 i2 i3 i4
  have hz := @IsZero_does G b (by omega) i4
  refine Do.seqk fun _ k4_ => ?_
  refine Do.seqk fun _ k5_ => ?_
  refine Do.region [0,1,9] true ?_
  simp [go_sem]
  refine DoL.call true 202 rfl rfl rfl rfl (by first | exact trivial | omega | (simp; done) | (simp; omega)) (hz) rfl (by first | exact .inl rfl | exact .inr rfl) rfl ?_
  simp [go_sem]
  repeat (refine And.intro (by first | omega | (intros; omega) | grind) ?_)
  apply k5_; clear k5_
  refine Do.cond [0,1] rfl (fun h => ?_) (fun h => ?_) <;> simp [go_sem] at h ⊢
  · have hp : 0 < val b := by omega
    have h1 := @RTrim_does G b (by omega) i4
    have h2 : Does Tryz.prog G 185 [Wd (nat a), Wd b] (.v (Wd (nat (a % val b)))) := by
      have := @RMod_does G (nat a) b i2 (nat_ws _) i3 i4 hp
      rw [val_nat] at this
      exact this.mono (TLe.v (PLe.ext (.c (.w true _))))
    have l1 := len_of_le i4 (Nat.le_refl (val b))
    have l2 := len_of_le i4 (Nat.le_of_lt (Nat.mod_lt a hp))
    refine Do.skip ?_
    simp [go_sem]
    apply k4_; clear k4_
    refine Do.block ?_
    refine Do.region [0,1] true ?_
    simp [go_sem]
    refine DoL.call true 302 rfl rfl rfl rfl (by first | exact trivial | omega | (simp; done) | (simp; omega)) (h1) rfl (by first | exact .inl rfl | exact .inr rfl) rfl ?_
    simp [go_sem]
    refine DoL.call true 305 rfl rfl rfl rfl (by first | exact trivial | omega | (simp; done) | (simp; omega)) (h2) rfl (by first | exact .inl rfl | exact .inr rfl) rfl ?_
    simp [go_sem]
    refine ⟨(val b, nat (a % val b)), St.le_of (by first | rfl | simp [keep]) (by first | rfl | simp [keep]), ⟨by rw [val_nat, gcd_step]; exact i1, by simp only []; omega, by simp only []; omega, nat_ws _⟩, by simp only [val_nat]; exact Nat.mod_lt _ hp⟩
  · refine Do.exit ?_
    simp [go_sem]
    apply k2_; clear k2_
    refine Do.seqk fun _ k6_ => ?_
    refine Do.region [4] true ?_
    simp [go_sem]
    apply k6_; clear k6_
    refine Do.ret ?_
    simp [endQ, rets, ret1, go_sem]
    repeat (refine And.intro (by first | omega | (intros; omega) | grind) ?_)
    have : val b = 0 := by omega
    rw [this, Nat.gcd_zero_right] at i1
    rw [i1]
    exact TLe.refl _
end Go.Proofs.YtokgalpflooegaaGreatDoor
/- Rational numbers with a power of 2 below. No condition. -/
namespace Go.Proofs.YtokgalpflooegaaGreatDoor
set_option linter.unusedVariables false
set_option linter.unusedSimpArgs false
set_option maxHeartbeats 2000000
/-- What is above and below, divided by what both are multiples of. -/
def nz (z : Int) (d : Nat) : Int := z / (Nat.gcd z.natAbs d : Int)
def nd (z : Int) (d : Nat) : Nat := d / Nat.gcd z.natAbs d
theorem gcd_pos {z : Int} {d : Nat} (hd : 0 < d) : 0 < Nat.gcd z.natAbs d := Nat.gcd_pos_of_pos_right _ hd
theorem gcd_dvd_int (z : Int) (d : Nat) : (Nat.gcd z.natAbs d : Int) ∣ z := Int.natAbs_dvd_natAbs.1 (by rw [Int.natAbs_natCast]; exact Nat.gcd_dvd_left _ _)
theorem nz_mul (z : Int) (d : Nat) : nz z d * (Nat.gcd z.natAbs d : Int) = z := Int.ediv_mul_cancel (gcd_dvd_int z d)
theorem nd_mul (z : Int) (d : Nat) : nd z d * Nat.gcd z.natAbs d = d := Nat.div_mul_cancel (Nat.gcd_dvd_right _ _)
theorem nz_abs (z : Int) (d : Nat) : (nz z d).natAbs = z.natAbs / Nat.gcd z.natAbs d := by
  unfold nz
  rw [Int.natAbs_ediv_of_dvd (gcd_dvd_int z d)]; rfl
theorem nz_sgn (z : Int) (d : Nat) : sgn (decide (z < 0)) (z.natAbs / Nat.gcd z.natAbs d) = nz z d := by
  have h := gcd_dvd_int z d
  have h2 : (z.natAbs / Nat.gcd z.natAbs d : Nat) = (z.natAbs : Int) / (Nat.gcd z.natAbs d : Int) := Int.natCast_ediv _ _
  unfold sgn nz
  by_cases hz : z < 0
  · have e : z = -(z.natAbs : Int) := by omega
    simp only [hz, decide_true, if_true]
    rw [h2]
    have h3 : (Nat.gcd z.natAbs d : Int) ∣ (z.natAbs : Int) := Int.natCast_dvd_natCast.2 (Nat.gcd_dvd_left _ _)
    generalize (Nat.gcd z.natAbs d : Int) = g at *
    rw [← Int.neg_ediv_of_dvd h3, ← e]
  · have e : z = (z.natAbs : Int) := by omega
    simp only [hz, decide_false, Bool.false_eq_true, if_false]
    rw [h2]
    generalize (Nat.gcd z.natAbs d : Int) = g at *
    rw [← e]
theorem nd_pos {z : Int} {d : Nat} (hd : 0 < d) : 0 < nd z d := by
  have := nd_mul z d
  rcases Nat.eq_zero_or_pos (nd z d) with h | h
  · rw [h] at this; omega
  · exact h
theorem nz_cop {z : Int} {d : Nat} (hd : 0 < d) : Nat.gcd (nz z d).natAbs (nd z d) = 1 := by
  rw [nz_abs]
  exact Nat.gcd_div_gcd_div_gcd_of_pos_right hd
/-- z / d, in lowest terms, is w / 2^K. -/
structure Dq (K : Nat) (z : Int) (d : Nat) (w : Int) : Prop where
  eq : z * ((2 ^ K : Nat) : Int) = w * (d : Int)
  pos : 0 < d
  cop : Nat.gcd z.natAbs d = 1
theorem pow_ne (K : Nat) : ((2 ^ K : Nat) : Int) ≠ 0 := by
  have := Nat.pow_pos (n := K) (show 0 < 2 by decide)
  omega
theorem pow_gt (K : Nat) : 0 < ((2 ^ K : Nat) : Int) := by
  have := Nat.pow_pos (n := K) (show 0 < 2 by decide)
  omega
theorem Dq.norm {K : Nat} {z w : Int} {d : Nat} (h : z * ((2 ^ K : Nat) : Int) = w * (d : Int)) (hd : 0 < d) : Dq K (nz z d) (nd z d) w := by
  refine ⟨?_, nd_pos hd, nz_cop hd⟩
  have hg := gcd_pos (z := z) hd
  have h1 := nz_mul z d
  have h2 := nd_mul z d
  refine Int.eq_of_mul_eq_mul_right (a := (Nat.gcd z.natAbs d : Int)) (by omega) ?_
  have h3 : (d : Int) = (nd z d : Int) * (Nat.gcd z.natAbs d : Int) := by rw [← Int.natCast_mul, h2]
  have h4 : nz z d * ((2 ^ K : Nat) : Int) * (Nat.gcd z.natAbs d : Int) = nz z d * (Nat.gcd z.natAbs d : Int) * ((2 ^ K : Nat) : Int) := by ac_rfl
  have h5 : w * (nd z d : Int) * (Nat.gcd z.natAbs d : Int) = w * ((nd z d : Int) * (Nat.gcd z.natAbs d : Int)) := by ac_rfl
  rw [h4, h1, h5, ← h3]
  exact h
theorem Dq.small {K : Nat} {z w : Int} {d : Nat} (h : Dq K z d w) : z.natAbs ≤ w.natAbs ∧ bl d ≤ K + 1 ∧ bl z.natAbs ≤ bl w.natAbs := by
  have h1 : z.natAbs * 2 ^ K = w.natAbs * d := by
    have := congrArg Int.natAbs h.eq
    rw [Int.natAbs_mul, Int.natAbs_mul] at this
    exact this
  have h2 : d ∣ 2 ^ K := by
    have hc : Nat.Coprime d z.natAbs := by rw [Nat.coprime_iff_gcd_eq_one, Nat.gcd_comm]; exact h.cop
    exact hc.dvd_of_dvd_mul_left ⟨w.natAbs, by rw [h1, Nat.mul_comm]⟩
  have hp := Nat.pow_pos (n := K) (show 0 < 2 by decide)
  obtain ⟨c, hc⟩ := h2
  have hc0 : 0 < c := by
    rcases Nat.eq_zero_or_pos c with h3 | h3
    · rw [h3] at hc; omega
    · exact h3
  have h3 : z.natAbs * c = w.natAbs := by
    rw [hc, ← Nat.mul_assoc, Nat.mul_right_comm] at h1
    exact Nat.eq_of_mul_eq_mul_right h.pos h1
  have h4 : z.natAbs ≤ w.natAbs := by rw [← h3]; exact Nat.le_mul_of_pos_right _ hc0
  have h5 : d ≤ 2 ^ K := by rw [hc]; exact Nat.le_mul_of_pos_right _ hc0
  refine ⟨h4, ?_, bl_mono h4⟩
  rw [bl_lt, Nat.pow_succ]
  omega
theorem Dq.add_eq {K : Nat} {z1 z2 w1 w2 : Int} {d1 d2 : Nat} (h1 : Dq K z1 d1 w1) (h2 : Dq K z2 d2 w2) : (z1 * d2 + z2 * d1) * ((2 ^ K : Nat) : Int) = (w1 + w2) * ((d1 * d2 : Nat) : Int) := by
  have e1 := h1.eq
  have e2 := h2.eq
  generalize ((2 ^ K : Nat) : Int) = P at *
  rw [Int.natCast_mul, Int.add_mul, Int.add_mul]
  have a1 : z1 * d2 * P = z1 * P * d2 := by ac_rfl
  have a2 : z2 * d1 * P = z2 * P * d1 := by ac_rfl
  rw [a1, a2, e1, e2]
  congr 1 <;> ac_rfl
theorem Dq.neg {K : Nat} {z w : Int} {d : Nat} (h : Dq K z d w) : Dq K (-z) d (-w) :=
  ⟨by rw [Int.neg_mul, Int.neg_mul, h.eq], h.pos, by rw [Int.natAbs_neg]; exact h.cop⟩
theorem Dq.abs {K : Nat} {z w : Int} {d : Nat} (h : Dq K z d w) : Dq K (z.natAbs : Int) d (w.natAbs : Int) :=
  ⟨by
    have := congrArg Int.natAbs h.eq
    rw [Int.natAbs_mul, Int.natAbs_mul] at this
    exact_mod_cast this, h.pos, by rw [Int.natAbs_natCast]; exact h.cop⟩
theorem sign_scale {a b : Int} {P D : Int} (h : a * P = b * D) (hP : 0 < P) (hD : 0 < D) : a.sign = b.sign := by
  have := congrArg Int.sign h
  rw [Int.sign_mul, Int.sign_mul, Int.sign_eq_one_of_pos hP, Int.sign_eq_one_of_pos hD, Int.mul_one, Int.mul_one] at this
  exact this
theorem Dq.sign {K : Nat} {z w : Int} {d : Nat} (h : Dq K z d w) : z.sign = w.sign :=
  sign_scale h.eq (pow_gt K) (by have := h.pos; omega)
theorem Dq.cmp {K : Nat} {z1 z2 w1 w2 : Int} {d1 d2 : Nat} (h1 : Dq K z1 d1 w1) (h2 : Dq K z2 d2 w2) : (z1 * d2 - z2 * d1).sign = (w1 - w2).sign := by
  have := h1.add_eq h2.neg
  rw [Int.neg_mul, ← Int.sub_eq_add_neg, ← Int.sub_eq_add_neg] at this
  exact sign_scale this (pow_gt K) (by
    have := Nat.mul_pos h1.pos h2.pos
    omega)
theorem Dq.up {K J : Nat} {z w : Int} {d : Nat} (h : Dq K z d w) : Dq (K + J) z d (w * ((2 ^ J : Nat) : Int)) :=
  ⟨by
    have e := h.eq
    rw [Nat.pow_add, Int.natCast_mul]
    generalize ((2 ^ K : Nat) : Int) = P at *
    generalize ((2 ^ J : Nat) : Int) = P' at *
    rw [← Int.mul_assoc, e]; ac_rfl, h.pos, h.cop⟩
/-- A float's number, with nothing below or a power of 2. -/
theorem Dq.float {K : Nat} {n : Bool} {v : Nat} {e : Int} (hv : v % 2 = 1) (he : -(K : Int) ≤ e) :
    (e < 0 → Dq K (sgn n v) (2 ^ (-e).toNat) (fv (-K) ⟨1, n, e, v⟩)) ∧ (0 ≤ e → Dq K (sgn n (v * 2 ^ e.toNat)) 1 (fv (-K) ⟨1, n, e, v⟩)) := by
  have e1 : fv (-K) ⟨1, n, e, v⟩ = sgn n (v * 2 ^ (e - -(K : Int)).toNat) := by
    unfold fv Nu.sv sgn
    simp
  rw [e1]
  have hs : ∀ a b : Nat, sgn n a * (b : Int) = sgn n (a * b) := fun a b => by
    unfold sgn
    split
    · rw [Int.natCast_mul, Int.neg_mul]
    · rw [Int.natCast_mul]
  refine ⟨fun h => ⟨?_, Nat.pow_pos (by decide), ?_⟩, fun h => ⟨?_, by decide, ?_⟩⟩
  · rw [hs, hs, Nat.mul_assoc, ← Nat.pow_add]
    congr 3; omega
  · rw [sgn_abs]
    have h2 : Nat.Coprime v 2 := by
      rw [Nat.coprime_comm, Nat.coprime_iff_gcd_eq_one, Nat.gcd_rec, hv]
      decide
    exact h2.pow_right _
  · rw [hs, hs, Nat.mul_assoc, ← Nat.pow_add, Nat.mul_one]
    congr 3; omega
  · exact Nat.gcd_one_right _
theorem Dq.zero (K : Nat) : Dq K 0 1 0 := ⟨by simp, by decide, by decide⟩
end Go.Proofs.YtokgalpflooegaaGreatDoor
/- The rational numbers of the reference. No condition. -/
namespace Go.Proofs.YtokgalpflooegaaGreatDoor
set_option linter.unusedVariables false
set_option linter.unusedSimpArgs false
variable {G : Gl}
set_option maxHeartbeats 4000000
set_option maxRecDepth 10000
/-- An integer of a size that all that is asked of it allows. -/
abbrev Bz (z : Int) : Prop := bl z.natAbs ≤ 100000000
theorem Bz.len {z : Int} (h : Bz z) : (nat z.natAbs).length ≤ 1562501 := by have := len_bl h; omega
theorem IvMake {n : Bool} {v : Nat} (hv : bl v ≤ 200000000) : Does Tryz.prog G 56 [.c (.b n), Wd (nat v)] (.v (Iv (sgn n v))) := by
  have := @IMake11_does G n (nat v) (by have := len_bl hv; omega) (nat_ws _)
  rwa [val_nat] at this
theorem IvMul {a b : Int} (ha : Bz a) (hb : Bz b) : Does Tryz.prog G 105 [Iv a, Iv b] (.v (Iv (a * b))) := by
  have := @IMul_does G (decide (a < 0)) (decide (b < 0)) (nat a.natAbs) (nat b.natAbs) (by have := ha.len; omega) (nat_ws _) (by have := hb.len; omega) (nat_ws _)
  rwa [val_nat, val_nat, sgn_of, sgn_of] at this
theorem IvNeg3 {a : Int} (ha : Bz a) : Does Tryz.prog G 183 [Iv a] (.v (Iv (-a))) := by
  have := @INeg_does G (decide (a < 0)) (nat a.natAbs) (by have := ha.len; omega) (nat_ws _)
  rwa [val_nat, sgn_of] at this
theorem IvSub3 {a b : Int} (ha : Bz a) (hb : Bz b) : Does Tryz.prog G 182 [Iv a, Iv b] (.v (Iv (a - b))) := by
  have h1 := @IvNeg3 G b hb
  have h2 : Does Tryz.prog G 163 [Iv a, Iv (-b)] (.v (Iv (a - b))) := by
    have hb' : Bz (-b) := by unfold Bz; rw [Int.natAbs_neg]; exact hb
    have := @IAdd3_does G (decide (a < 0)) (decide (-b < 0)) (nat a.natAbs) (nat (-b).natAbs) (by have := ha.len; omega) (nat_ws _) (by have := hb'.len; omega) (nat_ws _)
    rwa [val_nat, val_nat, sgn_of, sgn_of, ← Int.sub_eq_add_neg] at this
  generalize a - b = c at *
  generalize -b = b' at *
  refine Does.of (nt := 9) Tryz.func182 rfl rfl rfl (by simp) ?_
  simp only [argTm, PV.ext, Ce.ext]
  refine Do.seqk fun _ k1_ => ?_
  refine Do.region [2,3,4] true ?_
  simp [go_sem]
  apply k1_; clear k1_
  refine Do.seqk fun _ k2_ => ?_
  refine Do.draw [4] true (by kernel_rfl) ?_
  simp [go_sem]
  repeat (refine And.intro (by first | omega | (intros; omega) | kernel_rfl | grind) ?_)
  refine DoLD.call true 103 rfl rfl rfl rfl (by first | exact trivial | omega | (simp; done) | (simp; omega)) (h1) rfl (by first | exact .inl rfl | exact .inr rfl) rfl ?_
  simp [go_sem]
  refine DoLD.call true 104 rfl rfl rfl rfl (by first | exact trivial | omega | (simp; done) | (simp; omega)) (h2) rfl (by first | exact .inl rfl | exact .inr rfl) rfl ?_
  simp [go_sem]
  repeat (refine And.intro (by first | omega | (intros; omega) | kernel_rfl | grind) ?_)
  try (refine And.intro (by kernel_rfl) ?_)
  apply k2_; clear k2_
  refine Do.ret ?_
  simp [endQ, rets, ret1, go_sem]
  repeat (refine And.intro (by first | omega | (intros; omega) | grind) ?_)
  exact TLe.refl _
theorem IvSub {a b : Int} (ha : Bz a) (hb : Bz b) : Does Tryz.prog G 151 [Iv a, Iv b] (.v (Iv (a - b))) := by
  have h := @IvSub3 G a b ha hb
  generalize a - b = c at *
  refine Does.of (nt := 8) Tryz.func151 rfl rfl rfl (by simp) ?_
  simp only [argTm, PV.ext, Ce.ext]
  refine Do.seqk fun _ k1_ => ?_
  refine Do.region [2,3,4] true ?_
  simp [go_sem]
  apply k1_; clear k1_
  refine Do.seqk fun _ k2_ => ?_
  refine Do.region [4] true ?_
  simp [go_sem]
  repeat (refine And.intro (by first | omega | (intros; omega) | grind) ?_)
  refine DoL.call true 103 rfl rfl rfl rfl (by first | exact trivial | omega | (simp; done) | (simp; omega)) (h) rfl (by first | exact .inl rfl | exact .inr rfl) rfl ?_
  simp [go_sem]
  repeat (refine And.intro (by first | omega | (intros; omega) | grind) ?_)
  apply k2_; clear k2_
  refine Do.ret ?_
  simp [endQ, rets, ret1, go_sem]
  repeat (refine And.intro (by first | omega | (intros; omega) | grind) ?_)
  exact TLe.refl _
theorem IvSign {a : Int} (ha : bl a.natAbs ≤ 200000000) : Does Tryz.prog G 117 [Iv a] (.int .i64 a.sign) := by
  have := @ISign_does G (decide (a < 0)) (nat a.natAbs) (by have := len_bl ha; omega) (nat_ws _)
  rwa [val_nat, sgn_of] at this
theorem bl_sub_le (a b : Int) : bl (a - b).natAbs ≤ max (bl a.natAbs) (bl b.natAbs) + 1 := by
  rw [bl_lt, Nat.pow_succ]
  have h1 : a.natAbs < 2 ^ max (bl a.natAbs) (bl b.natAbs) := (bl_lt _ _).1 (Nat.le_max_left _ _)
  have h2 : b.natAbs < 2 ^ max (bl a.natAbs) (bl b.natAbs) := (bl_lt _ _).1 (Nat.le_max_right _ _)
  omega
theorem IvCmp {a b : Int} (ha : Bz a) (hb : Bz b) : Does Tryz.prog G 92 [Iv a, Iv b] (.int .i64 (a - b).sign) := by
  have h := @IvSub G a b ha hb
  have h2 := @IvSign G (a - b) (by have := bl_sub_le a b; unfold Bz at *; omega)
  generalize a - b = c at *
  refine Does.of (nt := 9) Tryz.func92 rfl rfl rfl (by simp) ?_
  simp only [argTm, PV.ext, Ce.ext]
  refine Do.seqk fun _ k1_ => ?_
  refine Do.region [2,3] true ?_
  simp [go_sem]
  apply k1_; clear k1_
  refine Do.seqk fun _ k2_ => ?_
  refine Do.region [4] true ?_
  simp [go_sem]
  repeat (refine And.intro (by first | omega | (intros; omega) | grind) ?_)
  refine DoL.call true 103 rfl rfl rfl rfl (by first | exact trivial | omega | (simp; done) | (simp; omega)) (h) rfl (by first | exact .inl rfl | exact .inr rfl) rfl ?_
  simp [go_sem]
  refine DoL.call true 104 rfl rfl rfl rfl (by first | exact trivial | omega | (simp; done) | (simp; omega)) (h2) rfl (by first | exact .inl rfl | exact .inr rfl) rfl ?_
  simp [go_sem]
  apply k2_; clear k2_
  refine Do.ret ?_
  simp [endQ, rets, ret1, go_sem]
  repeat (refine And.intro (by first | omega | (intros; omega) | grind) ?_)
  exact TLe.refl _
theorem IvTrim {a : Int} (ha : Bz a) : Does Tryz.prog G 147 [Iv a] (.v (Iv a)) := by
  have h := @ITrim_does G (decide (a < 0)) (nat a.natAbs) (by have := ha.len; omega) (nat_ws _)
  rw [val_nat, sgn_of] at h
  refine Does.of (nt := 5) Tryz.func147 rfl rfl rfl (by simp) ?_
  simp only [argTm, PV.ext, Ce.ext]
  refine Do.seqk fun _ k1_ => ?_
  refine Do.region [1,2] true ?_
  simp [go_sem]
  apply k1_; clear k1_
  refine Do.seqk fun _ k2_ => ?_
  refine Do.region [2] true ?_
  simp [go_sem]
  repeat (refine And.intro (by first | omega | (intros; omega) | grind) ?_)
  refine DoL.call true 102 rfl rfl rfl rfl (by first | exact trivial | omega | (simp; done) | (simp; omega)) (h) rfl (by first | exact .inl rfl | exact .inr rfl) rfl ?_
  simp [go_sem]
  repeat (refine And.intro (by first | omega | (intros; omega) | grind) ?_)
  apply k2_; clear k2_
  refine Do.ret ?_
  simp [endQ, rets, ret1, go_sem]
  repeat (refine And.intro (by first | omega | (intros; omega) | grind) ?_)
  exact TLe.refl _
/-- A rational number, as it is laid. -/
abbrev Qv (z : Int) (d : Nat) : PV := .a [.b (decide (z < 0)), .w false (nat z.natAbs), .w false (nat d)]
theorem PLe.qv {c1 c2 : Ce} {z : Int} {d : Nat} {b : Bool} (hb : b = decide (z < 0)) (h1 : PLe (.c c1) (.c (.w false (nat z.natAbs)))) (h2 : PLe (.c c2) (.c (.w false (nat d)))) : PLe (.a [.b b, c1, c2]) (Qv z d) := by
  subst hb
  exact PLe.agg (.cons (PLe.refl _) (.cons h1 (.cons h2 .nil)))
theorem QNorm {z : Int} {d : Nat} (hz : bl z.natAbs ≤ 200000000) (hd : bl d ≤ 200000000) (h0 : 0 < d) : Does Tryz.prog G 106 [Qv z d] (.v (Qv (nz z d) (nd z d))) := by
  have lz : (nat z.natAbs).length ≤ 3125001 := by have := len_bl hz; omega
  have ld : (nat d).length ≤ 3125001 := by have := len_bl hd; omega
  have hg := @RGcd_does G (nat z.natAbs) (nat d) (by omega) (nat_ws _) (by omega) (nat_ws _)
  rw [val_nat, val_nat] at hg
  have gp := gcd_pos (z := z) h0
  have gl : Nat.gcd z.natAbs d ≤ d := Nat.le_of_dvd h0 (Nat.gcd_dvd_right _ _)
  have gb := bl_mono gl
  have lg : (nat (Nat.gcd z.natAbs d)).length ≤ 3125001 := by have := len_bl (Nat.le_trans gb hd); omega
  have d1 := @RDiv_does G (nat z.natAbs) (nat (Nat.gcd z.natAbs d)) (by omega) (nat_ws _) (by omega) (nat_ws _) (by rw [val_nat]; exact gp)
  have d2 := @RDiv_does G (nat d) (nat (Nat.gcd z.natAbs d)) (by omega) (nat_ws _) (by omega) (nat_ws _) (by rw [val_nat]; exact gp)
  rw [val_nat, val_nat] at d1 d2
  have hm := @IvMake G (decide (z < 0)) (z.natAbs / Nat.gcd z.natAbs d) (by have := bl_mono (Nat.div_le_self z.natAbs (Nat.gcd z.natAbs d)); omega)
  rw [nz_sgn] at hm
  have e2 : d / Nat.gcd z.natAbs d = nd z d := rfl
  rw [e2] at d2
  generalize nz z d = z' at *
  generalize nd z d = d' at *
  generalize z.natAbs / Nat.gcd z.natAbs d = u at *
  generalize Nat.gcd z.natAbs d = g at *
  refine Does.of (nt := 24) Tryz.func106 rfl rfl rfl (by simp) ?_
  simp only [argTm, PV.ext, Ce.ext]
  refine Do.seqk fun _ k1_ => ?_
  refine Do.region [1,2] true ?_
  simp [go_sem]
  apply k1_; clear k1_
  refine Do.seqk fun _ k2_ => ?_
  refine Do.region [1,2,3] true ?_
  simp [go_sem]
  repeat (refine And.intro (by first | omega | (intros; omega) | grind) ?_)
  refine DoL.call true 106 rfl rfl rfl rfl (by first | exact trivial | omega | (simp; done) | (simp; omega)) (hg) rfl (by first | exact .inl rfl | exact .inr rfl) rfl ?_
  simp [go_sem]
  apply k2_; clear k2_
  refine Do.seqk fun _ k3_ => ?_
  refine Do.draw [2] true (by kernel_rfl) ?_
  simp [go_sem]
  repeat (refine And.intro (by first | omega | (intros; omega) | kernel_rfl | grind) ?_)
  refine DoLD.call true 208 rfl rfl rfl rfl (by first | exact trivial | omega | (simp; done) | (simp; omega)) (d1) rfl (by first | exact .inl rfl | exact .inr rfl) rfl ?_
  simp [go_sem]
  refine DoLD.call true 209 rfl rfl rfl rfl (by first | exact trivial | omega | (simp; done) | (simp; omega)) (hm) rfl (by first | exact .inl rfl | exact .inr rfl) rfl ?_
  simp [go_sem]
  repeat (refine And.intro (by first | omega | (intros; omega) | kernel_rfl | grind) ?_)
  refine DoLD.call true 213 rfl rfl rfl rfl (by first | exact trivial | omega | (simp; done) | (simp; omega)) (d2) rfl (by first | exact .inl rfl | exact .inr rfl) rfl ?_
  simp [go_sem]
  repeat (refine And.intro (by first | omega | (intros; omega) | kernel_rfl | grind) ?_)
  try (refine And.intro (by kernel_rfl) ?_)
  apply k3_; clear k3_
  refine Do.ret ?_
  simp [endQ, rets, ret1, go_sem]
  repeat (refine And.intro (by first | omega | (intros; omega) | grind) ?_)
  exact TLe.v (PLe.qv rfl (PLe.refl _) (PLe.ext (.c (.w true _))))
theorem QMake {z : Int} {d : Nat} (hz : bl z.natAbs ≤ 200000000) (hd : bl d ≤ 200000000) (h0 : 0 < d) : Does Tryz.prog G 102 [Iv z, Wd (nat d)] (.v (Qv (nz z d) (nd z d))) := by
  have hn := @QNorm G z d hz hd h0
  generalize nz z d = z' at *
  generalize nd z d = d' at *
  refine Does.of (nt := 9) Tryz.func102 rfl rfl rfl (by simp) ?_
  simp only [argTm, PV.ext, Ce.ext]
  refine Do.seqk fun _ k1_ => ?_
  refine Do.region [1,2,4] true ?_
  simp [go_sem]
  apply k1_; clear k1_
  refine Do.seqk fun _ k2_ => ?_
  refine Do.region [4] true ?_
  simp [go_sem]
  repeat (refine And.intro (by first | omega | (intros; omega) | grind) ?_)
  refine DoL.call true 104 rfl rfl rfl rfl (by first | exact trivial | omega | (simp; done) | (simp; omega)) (hn) rfl (by first | exact .inl rfl | exact .inr rfl) rfl ?_
  simp [go_sem]
  repeat (refine And.intro (by first | omega | (intros; omega) | grind) ?_)
  apply k2_; clear k2_
  refine Do.ret ?_
  simp [endQ, rets, ret1, go_sem]
  repeat (refine And.intro (by first | omega | (intros; omega) | grind) ?_)
  exact TLe.refl _
section
variable {K : Nat} {z1 z2 w1 w2 : Int} {d1 d2 : Nat}
theorem sgn_false (v : Nat) : sgn false v = (v : Int) := rfl
theorem bl_mulz (a b : Int) : bl (a * b).natAbs ≤ bl a.natAbs + bl b.natAbs := by
  rw [Int.natAbs_mul]
  rw [bl_lt, Nat.pow_add]
  have h1 := bl_self a.natAbs
  have h2 := bl_self b.natAbs
  exact Nat.mul_lt_mul_of_lt_of_le h1 (Nat.le_of_lt h2) (Nat.pow_pos (by decide))
theorem bl_mulN (a b : Nat) : bl (a * b) ≤ bl a + bl b := by
  rw [bl_lt, Nat.pow_add]
  exact Nat.mul_lt_mul_of_lt_of_le (bl_self a) (Nat.le_of_lt (bl_self b)) (Nat.pow_pos (by decide))
end
/-- Half of 2^64 is not needed: small integers as rational numbers. -/
theorem QFrom {k : Nat} (hk : k < 1000000) : Does Tryz.prog G 41 [.c (.i .i64 k), .c (.i .i64 1)] (.v (Qv k 1)) := by
  have h1 := @IFrom_does G k (by omega)
  have h2 := @RWord_does G 1 (by decide)
  have h3 := @QMake G k 1 (by rw [Int.natAbs_natCast]; have := (bl_lt k 20).2 (by omega); omega) (by decide) (by decide)
  rw [show nz (k : Int) 1 = k by unfold nz; simp, show nd (k : Int) 1 = 1 by unfold nd; simp] at h3
  refine Does.of (nt := 11) Tryz.func41 rfl rfl rfl (by simp) ?_
  simp only [argTm, PV.ext, Ce.ext]
  refine Do.seqk fun _ k1_ => ?_
  refine Do.region [0,1,4] true ?_
  simp [go_sem]
  apply k1_; clear k1_
  refine Do.seqk fun _ k2_ => ?_
  refine Do.region [4] true ?_
  simp [go_sem]
  refine DoL.call true 102 rfl rfl rfl rfl (by first | exact trivial | omega | (simp; done) | (simp; omega)) (h1) rfl (by first | exact .inl rfl | exact .inr rfl) rfl ?_
  simp [go_sem]
  repeat (refine And.intro (by first | omega | (intros; omega) | grind) ?_)
  refine DoL.call true 105 rfl rfl rfl rfl (by first | exact trivial | omega | (simp; done) | (simp; omega)) (h2) rfl (by first | exact .inl rfl | exact .inr rfl) rfl ?_
  simp [go_sem]
  refine DoL.call true 106 rfl rfl rfl rfl (by first | exact trivial | omega | (simp; done) | (simp; omega)) (h3) rfl (by first | exact .inl rfl | exact .inr rfl) rfl ?_
  simp [go_sem]
  repeat (refine And.intro (by first | omega | (intros; omega) | grind) ?_)
  apply k2_; clear k2_
  refine Do.ret ?_
  simp [endQ, rets, ret1, go_sem]
  repeat (refine And.intro (by first | omega | (intros; omega) | grind) ?_)
  exact TLe.refl _
theorem QWhole {z : Int} (hz : Bz z) : Does Tryz.prog G 83 [Iv z] (.v (Qv z 1)) := by
  have h1 := @IvTrim G z hz
  have h2 := @RWord_does G 1 (by decide)
  refine Does.of (nt := 7) Tryz.func83 rfl rfl rfl (by simp) ?_
  simp only [argTm, PV.ext, Ce.ext]
  refine Do.seqk fun _ k1_ => ?_
  refine Do.region [1,2] true ?_
  simp [go_sem]
  apply k1_; clear k1_
  refine Do.seqk fun _ k2_ => ?_
  refine Do.region [2] true ?_
  simp [go_sem]
  repeat (refine And.intro (by first | omega | (intros; omega) | grind) ?_)
  refine DoL.call true 102 rfl rfl rfl rfl (by first | exact trivial | omega | (simp; done) | (simp; omega)) (h1) rfl (by first | exact .inl rfl | exact .inr rfl) rfl ?_
  simp [go_sem]
  refine DoL.call true 103 rfl rfl rfl rfl (by first | exact trivial | omega | (simp; done) | (simp; omega)) (h2) rfl (by first | exact .inl rfl | exact .inr rfl) rfl ?_
  simp [go_sem]
  repeat (refine And.intro (by first | omega | (intros; omega) | grind) ?_)
  apply k2_; clear k2_
  refine Do.ret ?_
  simp [endQ, rets, ret1, go_sem]
  repeat (refine And.intro (by first | omega | (intros; omega) | grind) ?_)
  exact TLe.v (PLe.qv rfl (PLe.refl _) (PLe.ext (.c (.w true _))))
end Go.Proofs.YtokgalpflooegaaGreatDoor
/- Operations under a test whose outcome is known, in a region whose order is open. No condition. -/
namespace Go.Proofs.YtokgalpflooegaaGreatDoor
set_option linter.unusedVariables false
set_option linter.unusedSimpArgs false
section
variable {P : Program} {G : Gl} {nt : Nat} {st st0 : St} {cx : Cx} {a : Act} {W W' : World} {m : Nat → Option Nat} {ops l : List Oper} {acc : List Sm} {Q : List Sm → St → Prop} {o : Oper} {j : Nat} {want g : Bool}
theorem gOf_congr {tm tm' : List (Nat × TV)} (hg : o.guard = some (j, want)) (h : ∀ t ∈ rdOf ops o, lk t tm' = lk t tm) : gOf ops tm' j want = gOf ops tm j want := by
  unfold gOf
  split
  · rename_i d _ _ _ _ _ hj
    rw [h d (by unfold rdOf; simp only [List.mem_append, hg, hj]; exact .inr (by simp))]
  · rfl
theorem DoLD.gOff (md : Bool) (lab : Nat) (hg : o.guard = some (j, want)) (hgo : gOf ops st.tm j want = some false) (x : TV) (hx : x.labs = []) (hd : dstOk nt o.dst = true) (next : runsD P G nt md ops st0 Q lab l (acc ++ [⟨[], [], [], none⟩]) ⟨setv o.dst (some (.gd false x)) st.tm, st.ob⟩) : DoLD P G nt ops st0 Q (o :: l) acc st := by
  have h : OpOk P G nt ops (boxes st0.ob) o st ⟨o.dst, some (.gd false x), .none, 0, []⟩ := by
    refine ⟨rfl, fun cx a W m S hn _ hrd hus hfree hr Q' K hK => ?_⟩
    rw [gOf_spec hr ((gOf_congr hg hrd).trans hgo) hg, if_neg Bool.false_ne_true]
    exact hK _ _ (Rel.put hr hn hd (show RT _ (.gd false x) undef from ⟨(fun e => by cases e), fun _ => rfl⟩))
  refine DoLD.cons h (fun l hl => by simp [Tr.nw, Eff.isNew] at hl) rfl ?_
  have e1 : Tr.sm ⟨o.dst, some (.gd false x), .none, 0, []⟩ = ⟨[], [], [], none⟩ := by
    simp [Tr.sm, Tr.wr, Tr.mn, Tr.nw, Tr.ob, Eff.isNew, TV.labs, hx]
  rw [e1]
  exact DoLD.run next
/-- Slots that hold no more than they did. -/
theorem RelM.less (h : RelM G cx m st a W) {tm' : List (Nat × TV)} (hs : ∀ t y, lk t tm' = some y → ∃ z, lk t st.tm = some z ∧ ∀ E v, RT E z v → RT E y v) : RelM G cx m ⟨tm', st.ob⟩ a W :=
  { h with
    tm := fun t y hy => by
      have ⟨z, hz, hl⟩ := hs t y hy
      have ⟨v, hv, hr⟩ := h.tm t z hz
      exact ⟨v, hv, hl _ _ hr⟩ }
end
end Go.Proofs.YtokgalpflooegaaGreatDoor
/- A float as a rational number; Holds. No condition. -/
namespace Go.Proofs.YtokgalpflooegaaGreatDoor
set_option linter.unusedVariables false
set_option linter.unusedSimpArgs false
set_option maxHeartbeats 4000000
set_option maxRecDepth 10000
theorem tz_half {v : Nat} (h : 0 < v) : v / 2 ^ tz v % 2 = 1 := by
  obtain ⟨c, hc⟩ := tz_form h
  have : v / 2 ^ tz v = 2 * c + 1 := by
    conv => lhs; rw [hc]
    rw [tz_odd]
    exact Nat.mul_div_cancel_left _ (Nat.pow_pos (by decide))
  omega
theorem FRat {G : Gl} {x : Fla} (hx : Rt x) {K : Nat} (hK : K ≤ 8000000) (he : x.k = 1 → -(K : Int) ≤ x.e) : ∃ z d, Does Tryz.prog G 40 [Fl x.k x.n x.e x.m] (.v (Qv z d)) ∧ Dq K z d (fv (-K) x.flt) := by
  have hlen := hx.len
  by_cases hk : x.k = 1
  · have hc := canon_one hx.can hk
    have hv : 0 < val x.m := by have : x.flt.v ≠ 0 := hc.2.2; exact Nat.pos_of_ne_zero this
    have hc1 : -1048576 ≤ x.e := hc.1
    have hc2 : x.e + tz (val x.m) ≤ 1048576 := hc.2.1
    have hkk := he hk
    have ho := @odd_does G x.k x.e x.n x.m (by omega) hx.ws hx.md
    have hbv : bl (val x.m) ≤ 262144 := by have := bl_le_ws hx.ws; omega
    have hbv2 : bl (val x.m / 2 ^ tz (val x.m)) ≤ 262144 := Nat.le_trans (bl_mono (Nat.div_le_self _ _)) hbv
    obtain ⟨f1, f2⟩ := @Dq.float K x.n (val x.m / 2 ^ tz (val x.m)) (x.e + tz (val x.m)) (tz_half hv) (by omega)
    have hfv : fv (-K) ⟨1, x.n, x.e + tz (val x.m), val x.m / 2 ^ tz (val x.m)⟩ = fv (-K) x.flt := by
      have := @fv_rcan x.flt (-(K : Int)) (fun _ => hkk)
      rw [← this]
      unfold rcanon
      rw [if_pos (show x.flt.k = 1 from hk)]
      rfl
    rw [hfv] at f1 f2
    generalize val x.m / 2 ^ tz (val x.m) = v at *
    generalize hE : x.e + tz (val x.m) = E at *
    by_cases h0 : E < 0
    · refine ⟨_, _, ?_, f1 h0⟩
      have i1 := @IvMake G x.n v (by omega)
      have i2 := @RWord_does G 1 (by decide)
      have i3 := @RLeft_does G (nat 1) (-E).toNat (by rw [nat_one]; decide) (nat_ws _) (by omega)
      rw [val_nat, Nat.one_mul, show (((-E).toNat : Nat) : Int) = -E by omega] at i3
      generalize sgn x.n v = z at *
      generalize 2 ^ (-E).toNat = d at *
      refine Does.of (nt := 32) Tryz.func40 rfl rfl rfl (by simp) ?_
      simp only [argTm, PV.ext, Ce.ext]
      refine Do.seqk fun _ k1_ => ?_
      refine Do.region [1,2] true ?_
      simp [go_sem]
      apply k1_; clear k1_
      refine Do.seqk fun _ k2_ => ?_
      refine Do.seqk fun _ k3_ => ?_
      refine Do.region [1,2,7] true ?_
      simp [go_sem]
      repeat (refine And.intro (by first | omega | (intros; omega) | grind) ?_)
      apply k3_; clear k3_
      refine Do.cond [1,2] rfl (fun h1 => ?_) (fun h1 => ?_) <;> simp [go_sem] at h1 ⊢
      · exact absurd hk h1
      · refine Do.skip ?_
        simp [go_sem]
        apply k2_; clear k2_
        refine Do.seqk fun _ k4_ => ?_
        refine Do.region [1,2,3,4] true ?_
        simp [go_sem]
        repeat (refine And.intro (by first | omega | (intros; omega) | grind) ?_)
        refine DoL.call true 302 rfl rfl rfl rfl (by first | exact trivial | omega | (simp; done) | (simp; omega)) (ho) rfl (by first | exact .inl rfl | exact .inr rfl) rfl ?_
        simp [go_sem]
        apply k4_; clear k4_
        refine Do.seqk fun _ k5_ => ?_
        refine Do.seqk fun _ k6_ => ?_
        refine Do.region [1,2,3,4,15] true ?_
        simp [go_sem]
        apply k6_; clear k6_
        refine Do.cond [1,2,3,4] rfl (fun h2 => ?_) (fun h2 => ?_) <;> simp [go_sem] at h2 ⊢
        · refine Do.seqk fun _ k7_ => ?_
          refine Do.region [2] true ?_
          simp [go_sem]
          repeat (refine And.intro (by first | omega | (intros; omega) | grind) ?_)
          refine DoL.call true 504 rfl rfl rfl rfl (by first | exact trivial | omega | (simp; done) | (simp; omega)) (i1) rfl (by first | exact .inl rfl | exact .inr rfl) rfl ?_
          simp [go_sem]
          refine DoL.call true 505 rfl rfl rfl rfl (by first | exact trivial | omega | (simp; done) | (simp; omega)) (i2) rfl (by first | exact .inl rfl | exact .inr rfl) rfl ?_
          simp [go_sem]
          repeat (refine And.intro (by first | omega | (intros; omega) | grind) ?_)
          refine DoL.call true 508 rfl rfl rfl rfl (by first | exact trivial | omega | (simp; done) | (simp; omega)) (i3) rfl (by first | exact .inl rfl | exact .inr rfl) rfl ?_
          simp [go_sem]
          repeat (refine And.intro (by first | omega | (intros; omega) | grind) ?_)
          apply k7_; clear k7_
          refine Do.ret ?_
          simp [endQ, rets, ret1, go_sem]
          repeat (refine And.intro (by first | omega | (intros; omega) | grind) ?_)
          exact TLe.v (PLe.qv rfl (PLe.refl _) (PLe.ext (.c (.w true _))))
        · omega
    · refine ⟨_, _, ?_, f2 (by omega)⟩
      have hbl : bl (v * 2 ^ E.toNat) ≤ 2000000 := by
        have := bl_mulN v (2 ^ E.toNat)
        have h3 : bl (2 ^ E.toNat) ≤ E.toNat + 1 := by rw [bl_lt]; exact Nat.pow_lt_pow_right (by decide) (by omega)
        omega
      have i3 := @RLeft_does G (nat v) E.toNat (by have := len_bl hbv2; omega) (nat_ws _) (by omega)
      rw [val_nat, show ((E.toNat : Nat) : Int) = E by omega] at i3
      have i1 := @IvMake G x.n (v * 2 ^ E.toNat) (by omega)
      have i4 := @QWhole G (sgn x.n (v * 2 ^ E.toNat)) (by unfold Bz; rw [sgn_abs]; omega)
      generalize sgn x.n (v * 2 ^ E.toNat) = z at *
      generalize v * 2 ^ E.toNat = d at *
      refine Does.of (nt := 32) Tryz.func40 rfl rfl rfl (by simp) ?_
      simp only [argTm, PV.ext, Ce.ext]
      refine Do.seqk fun _ k1_ => ?_
      refine Do.region [1,2] true ?_
      simp [go_sem]
      apply k1_; clear k1_
      refine Do.seqk fun _ k2_ => ?_
      refine Do.seqk fun _ k3_ => ?_
      refine Do.region [1,2,7] true ?_
      simp [go_sem]
      repeat (refine And.intro (by first | omega | (intros; omega) | grind) ?_)
      apply k3_; clear k3_
      refine Do.cond [1,2] rfl (fun h1 => ?_) (fun h1 => ?_) <;> simp [go_sem] at h1 ⊢
      · exact absurd hk h1
      · refine Do.skip ?_
        simp [go_sem]
        apply k2_; clear k2_
        refine Do.seqk fun _ k4_ => ?_
        refine Do.region [1,2,3,4] true ?_
        simp [go_sem]
        repeat (refine And.intro (by first | omega | (intros; omega) | grind) ?_)
        refine DoL.call true 302 rfl rfl rfl rfl (by first | exact trivial | omega | (simp; done) | (simp; omega)) (ho) rfl (by first | exact .inl rfl | exact .inr rfl) rfl ?_
        simp [go_sem]
        apply k4_; clear k4_
        refine Do.seqk fun _ k5_ => ?_
        refine Do.seqk fun _ k6_ => ?_
        refine Do.region [1,2,3,4,15] true ?_
        simp [go_sem]
        apply k6_; clear k6_
        refine Do.cond [1,2,3,4] rfl (fun h2 => ?_) (fun h2 => ?_) <;> simp [go_sem] at h2 ⊢
        · omega
        · refine Do.skip ?_
          simp [go_sem]
          apply k5_; clear k5_
          refine Do.seqk fun _ k7_ => ?_
          refine Do.draw [2] true (by kernel_rfl) ?_
          simp [go_sem]
          repeat (refine And.intro (by first | omega | (intros; omega) | kernel_rfl | grind) ?_)
          refine DoLD.call true 605 rfl rfl rfl rfl (by first | exact trivial | omega | (simp; done) | (simp; omega)) (i3) rfl (by first | exact .inl rfl | exact .inr rfl) rfl ?_
          simp [go_sem]
          refine DoLD.call true 606 rfl rfl rfl rfl (by first | exact trivial | omega | (simp; done) | (simp; omega)) (i1) rfl (by first | exact .inl rfl | exact .inr rfl) rfl ?_
          simp [go_sem]
          refine DoLD.call true 607 rfl rfl rfl rfl (by first | exact trivial | omega | (simp; done) | (simp; omega)) (i4) rfl (by first | exact .inl rfl | exact .inr rfl) rfl ?_
          simp [go_sem]
          repeat (refine And.intro (by first | omega | (intros; omega) | kernel_rfl | grind) ?_)
          try (refine And.intro (by kernel_rfl) ?_)
          apply k7_; clear k7_
          refine Do.ret ?_
          simp [endQ, rets, ret1, go_sem]
          repeat (refine And.intro (by first | omega | (intros; omega) | grind) ?_)
          exact TLe.refl _
  · have i1 : Does Tryz.prog G 41 [.c (.i .i64 0), .c (.i .i64 1)] (.v (Qv 0 1)) := @QFrom G 0 (by decide)
    have hz : fv (-K) x.flt = 0 := by unfold fv; rw [if_neg (show ¬ x.flt.k = 1 from hk)]
    rw [hz]
    refine ⟨0, 1, ?_, Dq.zero K⟩
    refine Does.of (nt := 32) Tryz.func40 rfl rfl rfl (by simp) ?_
    simp only [argTm, PV.ext, Ce.ext]
    refine Do.seqk fun _ k1_ => ?_
    refine Do.region [1,2] true ?_
    simp [go_sem]
    apply k1_; clear k1_
    refine Do.seqk fun _ k2_ => ?_
    refine Do.seqk fun _ k3_ => ?_
    refine Do.region [1,2,7] true ?_
    simp [go_sem]
    repeat (refine And.intro (by first | omega | (intros; omega) | grind) ?_)
    apply k3_; clear k3_
    refine Do.cond [1,2] rfl (fun h1 => ?_) (fun h1 => ?_) <;> simp [go_sem] at h1 ⊢
    · refine Do.seqk fun _ k4_ => ?_
      refine Do.region [2] true ?_
      simp [go_sem]
      refine DoL.call true 201 rfl rfl rfl rfl (by first | exact trivial | omega | (simp; done) | (simp; omega)) (i1) rfl (by first | exact .inl rfl | exact .inr rfl) rfl ?_
      simp [go_sem]
      repeat (refine And.intro (by first | omega | (intros; omega) | grind) ?_)
      apply k4_; clear k4_
      refine Do.ret ?_
      simp [endQ, rets, ret1, go_sem]
      repeat (refine And.intro (by first | omega | (intros; omega) | grind) ?_)
      exact TLe.refl _
    · exact absurd (by omega) hk
theorem Fine.rt {x : Flt} (hx : Fine x) : Rt x.fla := ⟨by rw [Flt.fla_flt]; exact hx.can, nat_ws _, by have := len_bl hx.v; show (nat x.v).length ≤ 4096; omega⟩
end Go.Proofs.YtokgalpflooegaaGreatDoor
/- What the floats of a pair add up to, plain. No condition. -/
namespace Go.Proofs.YtokgalpflooegaaGreatDoor
set_option linter.unusedVariables false
set_option linter.unusedSimpArgs false
set_option maxHeartbeats 4000000
set_option maxRecDepth 10000
end Go.Proofs.YtokgalpflooegaaGreatDoor
/- Division by 1; a ratio by 1, rounded. No condition. -/
namespace Go.Proofs.YtokgalpflooegaaGreatDoor
set_option linter.unusedVariables false
set_option linter.unusedSimpArgs false
variable {G : Gl}
set_option maxHeartbeats 4000000
set_option maxRecDepth 10000
theorem Div64_low {lo w : Nat} (hl : lo < 18446744073709551616) (hw : 0 < w) : Does Tryz.prog G 193 [.c (.n 0), .c (.n lo), .c (.n w)] (.t [.c (.n (lo / w)), .c (.n (lo % w))]) := by
  have hw0 : ¬ w = 0 := by omega
  have hw1 : ¬ w ≤ 0 := by omega
  refine Does.of (nt := 135) Tryz.func193 rfl rfl rfl (by simp) ?_
  simp only [argTm, PV.ext, Ce.ext]
  refine Do.seqk fun _ k1_ => ?_
  refine Do.region [0,1,2] true ?_
  simp [go_sem, hw0, hw1]
  apply k1_; clear k1_
  refine Do.seqk fun _ k2_ => ?_
  refine Do.seqk fun _ k3_ => ?_
  refine Do.region [0,1,2,20] true ?_
  simp [go_sem, hw0, hw1]
  apply k3_; clear k3_
  refine Do.cond [0,1,2] rfl (fun h1 => ?_) (fun h1 => ?_) <;> simp [go_sem, hw0, hw1] at h1 ⊢
  refine Do.skip ?_
  simp [go_sem]
  apply k2_; clear k2_
  refine Do.seqk fun _ k4_ => ?_
  refine Do.seqk fun _ k5_ => ?_
  refine Do.region [0,1,2,24] true ?_
  simp [go_sem, hw0, hw1]
  apply k5_; clear k5_
  refine Do.cond [0,1,2] rfl (fun h2 => ?_) (fun h2 => ?_) <;> simp [go_sem, hw0, hw1] at h2 ⊢
  refine Do.skip ?_
  simp [go_sem]
  apply k4_; clear k4_
  refine Do.seqk fun _ k6_ => ?_
  refine Do.seqk fun _ k7_ => ?_
  refine Do.region [0,1,2,27] true ?_
  simp [go_sem, hw0, hw1]
  apply k7_; clear k7_
  refine Do.cond [0,1,2] rfl (fun h3 => ?_) (fun h3 => ?_) <;> simp [go_sem, hw0, hw1] at h3 ⊢
  refine Do.seqk fun _ k8_ => ?_
  refine Do.draw [6,7] true (by kernel_rfl) ?_
  simp [go_sem, hw0, hw1]
  repeat (refine And.intro (by first | omega | (intros; omega) | kernel_rfl | grind) ?_)
  try (refine And.intro (by kernel_rfl) ?_)
  apply k8_; clear k8_
  refine Do.ret ?_
  simp [endQ, rets, ret1, go_sem, hw0, hw1]
  repeat (refine And.intro (by first | omega | (intros; omega) | grind) ?_)
  exact TLe.refl _
theorem drop_set {x : List Nat} {s : Nat} (hs : s < x.length) {w : Nat} (hw : x[s]? = some w) : (List.replicate (s + 1) 0 ++ x.drop (s + 1)).set s w = List.replicate s 0 ++ x.drop s := by
  rw [List.replicate_succ', List.append_assoc, List.set_append_right _ _ (by simp)]
  simp only [List.length_replicate, Nat.sub_self, List.cons_append, List.nil_append, List.set_cons_zero]
  rw [List.drop_eq_getElem_cons hs]
  congr 2
  rw [List.getElem?_eq_getElem hs] at hw
  exact (Option.some.inj hw).symm
theorem divWord_one {x : List Nat} (hx : x.length < 1073741824) (wx : Ws x) : Does Tryz.prog G 186 [Wd x, .c (.n 1)] (.t [Wn (nat (val x)), .c (.n 0)]) := by
  have hT := @Trim_does G x (by unfold Sh; omega) wx
  have hlen : ∀ s, s ≤ x.length → (List.replicate s 0 ++ x.drop s).length = x.length := fun s hs => by simp; omega
  refine Does.of (nt := 35) Tryz.func186 rfl rfl rfl (by simp) ?_
  simp only [argTm, PV.ext, Ce.ext]
  refine Do.seqk fun _ k1_ => ?_
  refine Do.region [0,1] true ?_
  simp [go_sem, -List.reduceReplicate]
  apply k1_; clear k1_
  refine Do.seqk fun _ k2_ => ?_
  refine Do.region [0,1,6] true ?_
  simp [go_sem, -List.reduceReplicate]
  repeat (refine And.intro (by first | omega | (intros; omega) | grind) ?_)
  apply k2_; clear k2_
  refine Do.seqk fun _ k3_ => ?_
  refine Do.region [0,1,6,7] true ?_
  simp [go_sem, -List.reduceReplicate]
  apply k3_; clear k3_
  refine Do.seqk fun _ k4_ => ?_
  refine Do.seqk fun _ k5_ => ?_
  refine Do.region [0,1,6,7,8] true ?_
  simp [go_sem, -List.reduceReplicate]
  repeat (refine And.intro (by first | omega | (intros; omega) | grind) ?_)
  apply k5_; clear k5_
  refine Do.block ?_
  refine Do.loopF [0,1,6,7,8] (fun (s : Nat) => [(7, .v (.c (.n 0))), (8, .int .i64 ((s : Int) - 1))]) (fun (s : Nat) => [(102, .wr (List.replicate s 0 ++ x.drop s))]) (fun (s : Nat) => s ≤ x.length) (fun (s : Nat) => s) (x.length) (fun _ => by first | (simp [go_sem, mixS]; done) | (simp [go_sem, mixS]; rfl)) (St.le_of (by simp [keep]) (by simp [keep])) (Nat.le_refl _) ?_
  intro s hs
  refine Do.seqk fun _ k6_ => ?_
  refine Do.seqk fun _ k7_ => ?_
  refine Do.region [0,1,6,7,8,16] true ?_
  simp [go_sem, -List.reduceReplicate]
  apply k7_; clear k7_
  refine Do.cond [0,1,6,7,8] rfl (fun h => ?_) (fun h => ?_) <;> simp [go_sem, -List.reduceReplicate] at h ⊢
  · obtain ⟨j, rfl⟩ : ∃ j, s = j + 1 := ⟨s - 1, by omega⟩
    obtain ⟨w, hw⟩ : ∃ w, x[j]? = some w := ⟨_, List.getElem?_eq_getElem (by omega)⟩
    have hwl := wx w (List.mem_of_getElem? hw)
    have hD := @Div64_low G w 1 hwl (by decide)
    rw [Nat.div_one, Nat.mod_one] at hD
    have hset := drop_set (show j < x.length by omega) hw
    have hl := hlen (j + 1) hs
    refine Do.skip ?_
    simp [go_sem]
    apply k6_; clear k6_
    refine Do.seqk fun _ k8_ => ?_
    refine Do.block ?_
    refine Do.region [0,1,6,7,8] true ?_
    simp [go_sem, show ((j : Int) + 1 - 1) = j by omega, hw, hl, -List.reduceReplicate]
    repeat (refine And.intro (by first | omega | (intros; omega) | grind) ?_)
    refine DoL.call true 609 rfl rfl rfl rfl (by first | exact trivial | omega | (simp; done) | (simp; omega)) (hD) rfl (by first | exact .inl rfl | exact .inr rfl) rfl ?_
    simp [go_sem, show ((j : Int) + 1 - 1) = j by omega, hw, hl, -List.reduceReplicate]
    repeat (refine And.intro (by first | omega | (intros; omega) | grind) ?_)
    apply k8_; clear k8_
    refine Do.region [0,1,6,7,8] true ?_
    simp [go_sem, show ((j : Int) + 1 - 1) = j by omega, hw, hl, -List.reduceReplicate]
    repeat (refine And.intro (by first | omega | (intros; omega) | grind) ?_)
    refine ⟨j, St.le_of rfl (by simp [keep, ← hset, List.set_append_left]), by omega, by simp⟩
  · obtain rfl : s = 0 := by omega
    refine Do.exit ?_
    simp [go_sem]
    apply k4_; clear k4_
    refine Do.seqk fun _ k9_ => ?_
    refine Do.frz 102 rfl ?_
    simp [go_sem]
    refine Do.region [4,5] true ?_
    simp [go_sem, -List.reduceReplicate]
    refine DoL.call true 702 rfl rfl rfl rfl (by first | exact trivial | omega | (simp; done) | (simp; omega)) (hT) rfl (by first | exact .inl rfl | exact .inr rfl) rfl ?_
    simp [go_sem, -List.reduceReplicate]
    apply k9_; clear k9_
    refine Do.ret ?_
    simp [endQ, rets, ret1, go_sem, -List.reduceReplicate]
    repeat (refine And.intro (by first | omega | (intros; omega) | grind) ?_)
    exact TLe.refl _
theorem WWord_zero : Does Tryz.prog G 187 [.c (.n 0)] (.v (Wn (nat 0))) := by
  have hT := @Trim_does G [0] (by decide) (fun w hw => by simp at hw; omega)
  refine Does.of (nt := 6) Tryz.func187 rfl rfl rfl (by simp) ?_
  simp only [argTm, PV.ext, Ce.ext]
  refine Do.seqk fun _ k1_ => ?_
  refine Do.region [0] true ?_
  simp [go_sem]
  apply k1_; clear k1_
  refine Do.seqk fun _ k2_ => ?_
  refine Do.region [2] true ?_
  simp [go_sem]
  refine DoL.frz true 102 101 rfl ?_
  simp [go_sem]
  refine DoL.call true 103 rfl rfl rfl rfl (by first | exact trivial | omega | (simp; done) | (simp; omega)) (hT) rfl (by first | exact .inl rfl | exact .inr rfl) rfl ?_
  simp [go_sem]
  apply k2_; clear k2_
  refine Do.ret ?_
  simp [endQ, rets, ret1, go_sem]
  repeat (refine And.intro (by first | omega | (intros; omega) | grind) ?_)
  exact TLe.refl _
theorem WDivMod_one {x : List Nat} (hx : x.length < 1073741824) (wx : Ws x) (h0 : 0 < val x) : Does Tryz.prog G 168 [Wd x, Wd [1]] (.t [Wn (nat (val x)), Wn (nat 0)]) := by
  have w1 : Ws [1] := fun w hw => by simp at hw; omega
  have h1 := @view_does G x (by unfold Sh; omega)
  have h2 : Does Tryz.prog G 125 [Wd [1]] (.v (Wd [1])) := @view_does G [1] (by decide)
  have hn := norm_length x
  have h3 := @Cmp_does G (norm x) [1] (by unfold Sh; omega) (by decide) (norm_ws wx) w1
  rw [val_norm, show val [1] = 1 from rfl, if_neg (by omega)] at h3
  have h4 := @divWord_one G (norm x) (by omega) (norm_ws wx)
  rw [val_norm] at h4
  have h5 : ¬ (if 1 < val x then (1 : Int) else 0) < 0 := by split <;> omega
  refine Does.of (nt := 127) Tryz.func168 rfl rfl rfl (by simp) ?_
  simp only [argTm, PV.ext, Ce.ext]
  refine Do.seqk fun _ k1_ => ?_
  refine Do.region [0,1] true ?_
  simp [go_sem]
  apply k1_; clear k1_
  refine Do.seqk fun _ k2_ => ?_
  refine Do.region [0,1] true ?_
  simp [go_sem]
  refine DoL.call true 102 rfl rfl rfl rfl (by first | exact trivial | omega | (simp; done) | (simp; omega)) (h1) rfl (by first | exact .inl rfl | exact .inr rfl) rfl ?_
  simp [go_sem]
  refine DoL.call true 104 rfl rfl rfl rfl (by first | exact trivial | omega | (simp; done) | (simp; omega)) (h2) rfl (by first | exact .inl rfl | exact .inr rfl) rfl ?_
  simp [go_sem]
  apply k2_; clear k2_
  refine Do.seqk fun _ k3_ => ?_
  refine Do.seqk fun _ k4_ => ?_
  refine Do.region [0,1,22] true ?_
  simp [go_sem, h5]
  refine DoL.call true 203 rfl rfl rfl rfl (by first | exact trivial | omega | (simp; done) | (simp; omega)) (h3) rfl (by first | exact .inl rfl | exact .inr rfl) rfl ?_
  simp [go_sem, h5]
  apply k4_; clear k4_
  refine Do.cond [0,1] rfl (fun g1 => ?_) (fun g1 => ?_) <;> simp [go_sem, h5] at g1 ⊢
  refine Do.skip ?_
  simp [go_sem]
  apply k3_; clear k3_
  refine Do.seqk fun _ k5_ => ?_
  refine Do.seqk fun _ k6_ => ?_
  refine Do.region [0,1,27] true ?_
  simp [go_sem, h5]
  repeat (refine And.intro (by first | omega | (intros; omega) | grind) ?_)
  apply k6_; clear k6_
  refine Do.cond [0,1] rfl (fun g2 => ?_) (fun g2 => ?_) <;> simp [go_sem, h5] at g2 ⊢
  refine Do.seqk fun _ k7_ => ?_
  refine Do.region [6,7] true ?_
  simp [go_sem, h5]
  repeat (refine And.intro (by first | omega | (intros; omega) | grind) ?_)
  refine DoL.call true 505 rfl rfl rfl rfl (by first | exact trivial | omega | (simp; done) | (simp; omega)) (h4) rfl (by first | exact .inl rfl | exact .inr rfl) rfl ?_
  simp [go_sem, h5]
  apply k7_; clear k7_
  refine Do.seqk fun _ k8_ => ?_
  refine Do.region [4,5] true ?_
  simp [go_sem, h5]
  refine DoL.call true 603 rfl rfl rfl rfl (by first | exact trivial | omega | (simp; done) | (simp; omega)) (WWord_zero) rfl (by first | exact .inl rfl | exact .inr rfl) rfl ?_
  simp [go_sem, h5]
  apply k8_; clear k8_
  refine Do.ret ?_
  simp [endQ, rets, ret1, go_sem, h5]
  repeat (refine And.intro (by first | omega | (intros; omega) | grind) ?_)
  exact TLe.refl _
theorem Ratio_one {f p r : Int} (hf : fmOk f p = true) (hr : 0 ≤ r) (hr' : r ≤ 4) {n : Bool} {m : List Nat} (hm : m.length ≤ 4096) (wm : Ws m) (h0 : 0 < val m) : Does Tryz.prog Gv 122 [Fm f p, .c (.i .i64 r), .c (.b n), Wd m, Wd [1], .c (.i .i64 0)] (.t [(roundP f p r n (val m) 0 false).1.pv, .c (.i .i64 (roundP f p r n (val m) 0 false).2)]) := by
  obtain ⟨b1, b2, b3, b4⟩ := fmOk_spec hf
  obtain ⟨b5, b6⟩ := gOfE_le b1 b2
  have w1 : Ws [1] := fun w hw => by simp at hw; omega
  have hb : bl (val m) ≤ 64 * m.length := bl_le_len wm (Nat.le_refl _)
  have hL := @Len_does Gv m (by unfold Sh; omega) wm
  have hL1 : Does Tryz.prog Gv 62 [Wd [1]] (.int .i64 1) := @Len_does Gv [1] (by decide) w1
  by_cases hs : p + 3 - bl (val m) + 1 > 0
  · obtain ⟨s, hs'⟩ : ∃ s : Nat, p + 3 - bl (val m) + 1 = s := ⟨(p + 3 - bl (val m) + 1).toNat, by omega⟩
    have hS := @Shl_does Gv m (by unfold Sh; omega) wm s (by omega)
    have hpos : 0 < val m * 2 ^ s := Nat.mul_pos h0 (Nat.pow_pos (by decide))
    have hbl : bl (val m * 2 ^ s) = s + bl (val m) := bl_mul_pow _ _ h0
    have hD := @WDivMod_one Gv (nat (val m * 2 ^ s)) (by have := nat_len_bl (val m * 2 ^ s); omega) (nat_ws _) (by rw [val_nat]; exact hpos)
    rw [val_nat] at hD
    have hZ := @Zero_does Gv (nat 0) (by rw [nat_zero]; decide)
    rw [val_nat] at hZ
    have hF := @Float_does f p r hf hr hr' n (val m * 2 ^ s) (0 - (s : Int)) false (by omega) (by omega)
    rw [roundP_scale s h0] at hF
    generalize roundP f p r n (val m) 0 false = z at *
    generalize val m * 2 ^ s = u at *
    rw [Int.zero_sub] at hF
    refine Does.of (nt := 50) Tryz.func122 rfl rfl rfl (by simp) ?_
    simp only [argTm, PV.ext, Ce.ext]
    refine Do.seqk fun _ k1_ => ?_
    refine Do.region [1,2,3,4,5,6,12] true ?_
    simp [go_sem]
    apply k1_; clear k1_
    refine Do.seqk fun _ k2_ => ?_
    refine Do.draw [1,2,3,4,5,6,12,14] true (by kernel_rfl) ?_
    simp [go_sem]
    repeat (refine And.intro (by first | omega | (intros; omega) | kernel_rfl | grind) ?_)
    refine DoLD.call true 105 rfl rfl rfl rfl (by first | exact trivial | omega | (simp; done) | (simp; omega)) (hL) rfl (by first | exact .inl rfl | exact .inr rfl) rfl ?_
    simp [go_sem]
    repeat (refine And.intro (by first | omega | (intros; omega) | kernel_rfl | grind) ?_)
    refine DoLD.call true 108 rfl rfl rfl rfl (by first | exact trivial | omega | (simp; done) | (simp; omega)) (hL1) rfl (by first | exact .inl rfl | exact .inr rfl) rfl ?_
    simp [go_sem]
    repeat (refine And.intro (by first | omega | (intros; omega) | kernel_rfl | grind) ?_)
    try (refine And.intro (by kernel_rfl) ?_)
    apply k2_; clear k2_
    refine Do.seqk fun _ k3_ => ?_
    refine Do.seqk fun _ k4_ => ?_
    refine Do.region [1,2,3,4,5,6,12,14,27] true ?_
    simp [go_sem, hs']
    apply k4_; clear k4_
    refine Do.cond [1,2,3,4,5,6,12,14] rfl (fun g1 => ?_) (fun g1 => ?_) <;> simp [go_sem, hs'] at g1 ⊢
    · refine Do.region [1,2,3,4,5,6,12,14] true ?_
      simp [go_sem, hs']
      refine DoL.call true 303 rfl rfl rfl rfl (by first | exact trivial | omega | (simp; done) | (simp; omega)) (hS) rfl (by first | exact .inl rfl | exact .inr rfl) rfl ?_
      simp [go_sem, hs']
      apply k3_; clear k3_
      refine Do.seqk fun _ k5_ => ?_
      refine Do.region [1,2,5,6,12,14,15,16] true ?_
      simp [go_sem, hs']
      refine DoL.call true 503 rfl rfl rfl rfl (by first | exact trivial | omega | (simp; done) | (simp; omega)) (hD) rfl (by first | exact .inl rfl | exact .inr rfl) rfl ?_
      simp [go_sem, hs']
      apply k5_; clear k5_
      refine Do.seqk fun _ k6_ => ?_
      refine Do.draw [12,13] true (by kernel_rfl) ?_
      simp [go_sem, hs']
      repeat (refine And.intro (by first | omega | (intros; omega) | kernel_rfl | grind) ?_)
      refine DoLD.call true 609 rfl rfl rfl rfl (by first | exact trivial | omega | (simp; done) | (simp; omega)) (hZ) rfl (by first | exact .inl rfl | exact .inr rfl) rfl ?_
      simp [go_sem, hs']
      repeat (refine And.intro (by first | omega | (intros; omega) | kernel_rfl | grind) ?_)
      refine DoLD.call true 611 rfl rfl rfl rfl (by first | exact trivial | omega | (simp; done) | (simp; omega)) (hF) rfl (by first | exact .inl rfl | exact .inr rfl) rfl ?_
      simp [go_sem, hs']
      repeat (refine And.intro (by first | omega | (intros; omega) | kernel_rfl | grind) ?_)
      try (refine And.intro (by kernel_rfl) ?_)
      apply k6_; clear k6_
      refine Do.ret ?_
      simp [endQ, rets, ret1, go_sem, hs']
      repeat (refine And.intro (by first | omega | (intros; omega) | grind) ?_)
      exact TLe.refl _
    · omega
  · have hD := @WDivMod_one Gv m (by omega) wm h0
    have hZ := @Zero_does Gv (nat 0) (by rw [nat_zero]; decide)
    rw [val_nat] at hZ
    have hF := @Float_does f p r hf hr hr' n (val m) 0 false (by omega) (by omega)
    generalize roundP f p r n (val m) 0 false = z at *
    generalize hv : val m = v at *
    refine Does.of (nt := 50) Tryz.func122 rfl rfl rfl (by simp) ?_
    simp only [argTm, PV.ext, Ce.ext]
    refine Do.seqk fun _ k1_ => ?_
    refine Do.region [1,2,3,4,5,6,12] true ?_
    simp [go_sem]
    apply k1_; clear k1_
    refine Do.seqk fun _ k2_ => ?_
    refine Do.draw [1,2,3,4,5,6,12,14] true (by kernel_rfl) ?_
    simp [go_sem]
    repeat (refine And.intro (by first | omega | (intros; omega) | kernel_rfl | grind) ?_)
    refine DoLD.call true 105 rfl rfl rfl rfl (by first | exact trivial | omega | (simp; done) | (simp; omega)) (hL) rfl (by first | exact .inl rfl | exact .inr rfl) rfl ?_
    simp [go_sem]
    repeat (refine And.intro (by first | omega | (intros; omega) | kernel_rfl | grind) ?_)
    refine DoLD.call true 108 rfl rfl rfl rfl (by first | exact trivial | omega | (simp; done) | (simp; omega)) (hL1) rfl (by first | exact .inl rfl | exact .inr rfl) rfl ?_
    simp [go_sem]
    repeat (refine And.intro (by first | omega | (intros; omega) | kernel_rfl | grind) ?_)
    try (refine And.intro (by kernel_rfl) ?_)
    apply k2_; clear k2_
    refine Do.seqk fun _ k3_ => ?_
    refine Do.seqk fun _ k4_ => ?_
    refine Do.region [1,2,3,4,5,6,12,14,27] true ?_
    simp [go_sem]
    apply k4_; clear k4_
    refine Do.cond [1,2,3,4,5,6,12,14] rfl (fun g1 => ?_) (fun g1 => ?_) <;> simp [go_sem] at g1 ⊢
    · exact absurd g1 (by omega)
    · refine Do.region [1,2,3,4,5,6,12,14] true ?_
      simp [go_sem]
      apply k3_; clear k3_
      refine Do.seqk fun _ k5_ => ?_
      refine Do.region [1,2,5,6,12,14,15,16] true ?_
      simp [go_sem]
      refine DoL.call true 503 rfl rfl rfl rfl (by first | exact trivial | omega | (simp; done) | (simp; omega)) (hD) rfl (by first | exact .inl rfl | exact .inr rfl) rfl ?_
      simp [go_sem]
      apply k5_; clear k5_
      refine Do.seqk fun _ k6_ => ?_
      refine Do.draw [12,13] true (by kernel_rfl) ?_
      simp [go_sem]
      repeat (refine And.intro (by first | omega | (intros; omega) | kernel_rfl | grind) ?_)
      refine DoLD.call true 609 rfl rfl rfl rfl (by first | exact trivial | omega | (simp; done) | (simp; omega)) (hZ) rfl (by first | exact .inl rfl | exact .inr rfl) rfl ?_
      simp [go_sem]
      repeat (refine And.intro (by first | omega | (intros; omega) | kernel_rfl | grind) ?_)
      refine DoLD.call true 611 rfl rfl rfl rfl (by first | exact trivial | omega | (simp; done) | (simp; omega)) (hF) rfl (by first | exact .inl rfl | exact .inr rfl) rfl ?_
      simp [go_sem]
      repeat (refine And.intro (by first | omega | (intros; omega) | kernel_rfl | grind) ?_)
      try (refine And.intro (by kernel_rfl) ?_)
      apply k6_; clear k6_
      refine Do.ret ?_
      simp [endQ, rets, ret1, go_sem]
      repeat (refine And.intro (by first | omega | (intros; omega) | grind) ?_)
      exact TLe.refl _
end Go.Proofs.YtokgalpflooegaaGreatDoor
