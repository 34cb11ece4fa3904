/- A digit of a quotient, guessed. No condition. Division by the schoolbook, of words: what its loops hold. No condition. So many times one number taken from another, plain. No condition. -/
import Derived.Test.YtokgalpflooegaaDoorMi
/- A digit of a quotient, guessed. No condition. -/
namespace Go.Proofs.YtokgalpflooegaaDoor
set_option linter.unusedVariables false
set_option linter.unusedSimpArgs false
variable {G : Gl}
set_option maxHeartbeats 8000000
set_option maxRecDepth 10000
/-- The digit that is guessed: of the three highest words by the two highest ones. -/
def guessP (a b c v w : Nat) : Nat := min (((a * 18446744073709551616 + b) * 18446744073709551616 + c) / (v * 18446744073709551616 + w)) 18446744073709551615
theorem guessP_le (a b c v w : Nat) : guessP a b c v w ≤ 18446744073709551615 := Nat.min_le_right _ _
/-- The state of the loop. -/
structure GuI (a b c v w q r : Nat) : Prop where
  eq : q * v + r = a * 18446744073709551616 + b
  ge : guessP a b c v w ≤ q
  le : q ≤ 18446744073709551615
theorem gu_big {a b c v w q r : Nat} (h : q * v + r = a * 18446744073709551616 + b) (hq : r * 18446744073709551616 + c < q * w) : (a * 18446744073709551616 + b) * 18446744073709551616 + c < q * (v * 18446744073709551616 + w) := by
  rw [Nat.mul_add, ← Nat.mul_assoc, ← h, Nat.add_mul, Nat.add_assoc]
  exact Nat.add_lt_add_left hq _
theorem gu_small {a b c v w q r : Nat} (h : q * v + r = a * 18446744073709551616 + b) (hq : q * w ≤ r * 18446744073709551616 + c) : q * (v * 18446744073709551616 + w) ≤ (a * 18446744073709551616 + b) * 18446744073709551616 + c := by
  rw [Nat.mul_add, ← Nat.mul_assoc, ← h, Nat.add_mul, Nat.add_assoc]
  exact Nat.add_le_add_left hq _
theorem GuI.fin {a b c v w q r : Nat} (h : GuI a b c v w q r) (hv : 0 < v) (hq : q * w ≤ r * 18446744073709551616 + c) : q = guessP a b c v w := by
  refine Nat.le_antisymm ?_ h.ge
  refine Nat.le_min.2 ⟨?_, h.le⟩
  rw [Nat.le_div_iff_mul_le (by omega)]
  exact gu_small h.eq hq
theorem GuI.dec {a b c v w q r : Nat} (h : GuI a b c v w q r) (hv : 0 < v) (hq : r * 18446744073709551616 + c < q * w) : 1 ≤ q ∧ GuI a b c v w (q - 1) (r + v) := by
  have h1 := gu_big h.eq hq
  have h2 : ((a * 18446744073709551616 + b) * 18446744073709551616 + c) / (v * 18446744073709551616 + w) < q := (Nat.div_lt_iff_lt_mul (by omega)).2 h1
  have h3 := h.eq
  have h4 := h.le
  have h5 : guessP a b c v w ≤ ((a * 18446744073709551616 + b) * 18446744073709551616 + c) / (v * 18446744073709551616 + w) := Nat.min_le_left _ _
  obtain ⟨j, rfl⟩ : ∃ j, q = j + 1 := ⟨q - 1, by omega⟩
  rw [Nat.add_mul] at h3
  exact ⟨by omega, by simp only [Nat.add_sub_cancel]; omega, by simp only [Nat.add_sub_cancel]; omega, by omega⟩
theorem GuI.over {a b c v w q r : Nat} (h : GuI a b c v w q r) (hv : 0 < v) (hw : w < 18446744073709551616) (hr : 18446744073709551616 ≤ r) : q = guessP a b c v w := by
  refine h.fin hv ?_
  have h1 : q * w ≤ 18446744073709551615 * 18446744073709551615 := Nat.mul_le_mul h.le (by omega)
  omega
theorem GuI.div {a b c v w : Nat} (hv : 0 < v) (ha : a < v) (hb : b < 18446744073709551616) (hc : c < 18446744073709551616) : GuI a b c v w ((a * 18446744073709551616 + b) / v) ((a * 18446744073709551616 + b) % v) := by
  have e := Nat.div_add_mod (a * 18446744073709551616 + b) v
  refine ⟨by rw [Nat.mul_comm]; exact e, ?_, ?_⟩
  · refine Nat.le_trans (Nat.min_le_left _ _) ?_
    rw [Nat.le_div_iff_mul_le hv]
    have h2 := Nat.div_mul_le_self ((a * 18446744073709551616 + b) * 18446744073709551616 + c) (v * 18446744073709551616 + w)
    obtain ⟨Q, hQ⟩ : ∃ Q, ((a * 18446744073709551616 + b) * 18446744073709551616 + c) / (v * 18446744073709551616 + w) = Q := ⟨_, rfl⟩
    rw [hQ] at h2 ⊢
    rw [Nat.mul_add, ← Nat.mul_assoc] at h2
    clear e hQ
    obtain ⟨u, hu⟩ : ∃ u, Q * v = u := ⟨_, rfl⟩
    rw [hu] at h2 ⊢
    omega
  · have : (a * 18446744073709551616 + b) / v < 18446744073709551616 := by
      rw [Nat.div_lt_iff_lt_mul hv]
      have := Nat.mul_le_mul_right 18446744073709551616 (show a + 1 ≤ v from ha)
      omega
    omega
theorem GuI.same {b c v w : Nat} : GuI v b c v w 18446744073709551615 (b + v) := ⟨by omega, guessP_le _ _ _ _ _, Nat.le_refl _⟩
theorem hi_lo {x r c : Nat} (hc : c < 18446744073709551616) : (x / 18446744073709551616 < r ∨ x / 18446744073709551616 = r ∧ x % 18446744073709551616 ≤ c) ↔ x ≤ r * 18446744073709551616 + c := by omega
theorem not_hi_lo {x r c : Nat} (h : r ≤ x / 18446744073709551616 ∧ (x / 18446744073709551616 = r → c < x % 18446744073709551616)) : ¬ (x / 18446744073709551616 < r ∨ x / 18446744073709551616 = r ∧ x % 18446744073709551616 ≤ c) := by
  rintro (h1 | ⟨h1, h2⟩)
  · omega
  · have := h.2 h1; omega
theorem gu_next {a b c v w q r : Nat} (h : GuI a b c v w q (r + v)) (hv : 0 < v) (hw : w < 18446744073709551616) (hr : r < 18446744073709551616) (hv2 : v < 18446744073709551616) :
    (((r + v) / 18446744073709551616 == 1) = false → GuI a b c v w q ((r + v) % 18446744073709551616) ∧ (r + v) % 18446744073709551616 < 18446744073709551616) ∧ (((r + v) / 18446744073709551616 == 1) = true → q = guessP a b c v w) := by
  constructor
  · intro h1
    have h1 : ¬ (r + v) / 18446744073709551616 = 1 := by simpa using h1
    rw [show (r + v) % 18446744073709551616 = r + v by omega]
    exact ⟨h, by omega⟩
  · intro h1
    have h1 : (r + v) / 18446744073709551616 = 1 := by simpa using h1
    exact h.over hv hw (by omega)
theorem guess_does {a b c v w : Nat} (hv : 0 < v) (ha : a ≤ v) (va : v < 18446744073709551616) (hb : b < 18446744073709551616) (hc : c < 18446744073709551616) (hw : w < 18446744073709551616) : Does Tryd.prog G 113 [.c (.n a), .c (.n b), .c (.n c), .c (.n v), .c (.n w)] (.v (.c (.n (guessP a b c v w)))) := by
  have hna : ¬ v < a := by omega
  by_cases hav : a = v
  · subst hav
    have hA := @Add64_does G b a 0 (Nat.zero_le _)
    have hst := @GuI.same b c a w
    refine Does.of (nt := 71) Tryd.func113 rfl rfl rfl (by simp) ?_
    simp only [argTm, PV.ext, Ce.ext]
    refine Do.seqk fun _ k1_ => ?_
    refine Do.region [0,1,2,3,4] true ?_
    simp [go_sem, hna]
    apply k1_; clear k1_
    refine Do.seqk fun _ k2_ => ?_
    refine Do.seqk fun _ k3_ => ?_
    refine Do.region [0,1,2,3,4,20] true ?_
    simp [go_sem, hna]
    apply k3_; clear k3_
    refine Do.cond [0,1,2,3,4] rfl (fun g1 => ?_) (fun g1 => ?_) <;> simp [go_sem, hna] at g1 ⊢
    refine Do.skip ?_
    simp [go_sem]
    apply k2_; clear k2_
    refine Do.seqk fun _ k4_ => ?_
    refine Do.region [0,1,2,3,4] true ?_
    simp [go_sem, hna]
    apply k4_; clear k4_
    refine Do.seqk fun _ k5_ => ?_
    refine Do.region [0,1,2,3,4,13] true ?_
    simp [go_sem, hna]
    apply k5_; clear k5_
    refine Do.seqk fun _ k6_ => ?_
    refine Do.seqk fun _ k7_ => ?_
    refine Do.region [0,1,2,3,4,13,23] true ?_
    simp [go_sem, hna]
    apply k7_; clear k7_
    refine Do.cond [0,1,2,3,4,13] rfl (fun g2 => ?_) (fun g2 => ?_) <;> simp [go_sem, hna] at g2 ⊢
    refine Do.seqk fun _ k8_ => ?_
    refine Do.region [1,2,3,4,11] true ?_
    simp [go_sem, hna]
    apply k8_; clear k8_
    refine Do.seqk fun _ k9_ => ?_
    refine Do.region [1,2,3,4,11] true ?_
    simp [go_sem, hna]
    apply k9_; clear k9_
    refine Do.seqk fun _ k10_ => ?_
    refine Do.region [2,3,4,11,12,14] true ?_
    simp [go_sem, hna]
    refine DoL.call true 803 rfl rfl rfl rfl (by first | exact trivial | omega | (simp; done) | (simp; omega)) (hA) rfl (by first | exact .inl rfl | exact .inr rfl) rfl ?_
    simp [go_sem, hna]
    apply k10_; clear k10_
    refine Do.region [2,3,4,11,12,13] true ?_
    simp [go_sem, hna]
    apply k6_; clear k6_
    refine Do.seqk fun _ k11_ => ?_
    refine Do.block ?_
    refine Do.loopF [2,3,4,11,12,13] (fun (s : Nat × Nat × Bool) => [(11, .v (.c (.n s.1))), (12, .v (.c (.n s.2.1))), (13, .v (.c (.b s.2.2)))]) (fun (s : Nat × Nat × Bool) => []) (fun (s : Nat × Nat × Bool) => (s.2.2 = false → GuI a b c a w s.1 s.2.1 ∧ s.2.1 < 18446744073709551616) ∧ (s.2.2 = true → s.1 = guessP a b c a w)) (fun (s : Nat × Nat × Bool) => s.1) ((18446744073709551615, (b + a) % 18446744073709551616, (b + a) / 18446744073709551616 == 1)) (fun _ => by first | (simp [go_sem, mixS]; done) | (simp [go_sem, mixS]; rfl)) (St.le_of (by simp [keep]) rfl) (gu_next hst hv hw hb va) ?_
    rintro ⟨q, r, o⟩ ⟨h1, h2⟩
    simp only at h1 h2
    refine Do.seqk fun _ k12_ => ?_
    refine Do.seqk fun _ k13_ => ?_
    refine Do.region [2,3,4,11,12,40] true ?_
    simp [go_sem, hna]
    repeat (refine And.intro (by first | omega | (intros; omega) | grind) ?_)
    apply k13_; clear k13_
    refine Do.cond [2,3,4,11,12] rfl (fun g3 => ?_) (fun g3 => ?_) <;> simp [go_sem, hna] at g3 ⊢
    · obtain ⟨hI, hr⟩ := h1 (by simpa using g3)
      have hl := hI.le
      have hM := @Mul64_does G q w (by omega) hw
      have hAd := @Add64_does G r a 0 (Nat.zero_le _)
      have hiff := @hi_lo (q * w) r c hc
      have hnot := @not_hi_lo (q * w) r c
      obtain ⟨hh, eh⟩ : ∃ h, q * w / 18446744073709551616 = h := ⟨_, rfl⟩
      obtain ⟨lo, el⟩ : ∃ h, q * w % 18446744073709551616 = h := ⟨_, rfl⟩
      rw [eh, el] at hM hiff hnot
      refine Do.skip ?_
      simp [go_sem]
      apply k12_; clear k12_
      refine Do.block ?_
      refine Do.seqk fun _ k14_ => ?_
      refine Do.region [2,3,4,11,12,15,16] true ?_
      simp [go_sem, hna]
      refine DoL.call true 1203 rfl rfl rfl rfl (by first | exact trivial | omega | (simp; done) | (simp; omega)) (hM) rfl (by first | exact .inl rfl | exact .inr rfl) rfl ?_
      simp [go_sem, hna]
      apply k14_; clear k14_
      refine Do.seqk fun _ k15_ => ?_
      refine Do.seqk fun _ k16_ => ?_
      refine Do.region [2,3,4,11,12,59] true ?_
      simp [go_sem, hna]
      repeat (refine And.intro (by first | omega | (intros; omega) | grind) ?_)
      apply k16_; clear k16_
      refine Do.cond [2,3,4,11,12] rfl (fun g4 => ?_) (fun g4 => ?_) <;> simp [go_sem, hna] at g4 ⊢
      · have hq := hI.fin hv (hiff.1 g4)
        refine Do.exit ?_
        simp [go_sem]
        apply k11_; clear k11_
        refine Do.seqk fun _ k17_ => ?_
        refine Do.region [10] true ?_
        simp [go_sem, hna]
        apply k17_; clear k17_
        refine Do.ret ?_
        simp [endQ, rets, ret1, go_sem, hna]
        repeat (refine And.intro (by first | omega | (intros; omega) | grind) ?_)
        rw [hq]
        exact TLe.refl _
      · obtain ⟨d1, i2⟩ := hI.dec hv (Nat.lt_of_not_le fun h8 => hnot g4 (hiff.2 h8))
        have d2 : q < M64 := by unfold M64; omega
        refine Do.skip ?_
        simp [go_sem]
        apply k15_; clear k15_
        refine Do.seqk fun _ k18_ => ?_
        refine Do.region [2,3,4,11,12] true ?_
        simp [go_sem, d1, d2]
        repeat (refine And.intro (by first | omega | (intros; omega) | grind) ?_)
        apply k18_; clear k18_
        refine Do.seqk fun _ k19_ => ?_
        refine Do.region [2,3,4,11,12] true ?_
        simp [go_sem, d1, d2]
        apply k19_; clear k19_
        refine Do.seqk fun _ k20_ => ?_
        refine Do.region [2,3,4,11,12,17] true ?_
        simp [go_sem, d1, d2]
        refine DoL.call true 1603 rfl rfl rfl rfl (by first | exact trivial | omega | (simp; done) | (simp; omega)) (hAd) rfl (by first | exact .inl rfl | exact .inr rfl) rfl ?_
        simp [go_sem, d1, d2]
        apply k20_; clear k20_
        refine Do.region [2,3,4,11,12,13] true ?_
        simp [go_sem, d1, d2]
        refine ⟨(q - 1, (r + a) % 18446744073709551616, (r + a) / 18446744073709551616 == 1), St.le_of (by simp [keep]) rfl, gu_next i2 hv hw hr va, by simp; omega⟩
    · have hq := h2 (by simpa using g3)
      refine Do.exit ?_
      simp [go_sem]
      apply k11_; clear k11_
      refine Do.seqk fun _ k21_ => ?_
      refine Do.region [10] true ?_
      simp [go_sem, hna]
      apply k21_; clear k21_
      refine Do.ret ?_
      simp [endQ, rets, ret1, go_sem, hna]
      repeat (refine And.intro (by first | omega | (intros; omega) | grind) ?_)
      rw [hq]
      exact TLe.refl _
  · have hD := @Div64_does G a b v hb va (by omega)
    have hst := @GuI.div a b c v w hv (by omega) hb hc
    have hrl := Nat.mod_lt (a * 18446744073709551616 + b) hv
    refine Does.of (nt := 71) Tryd.func113 rfl rfl rfl (by simp) ?_
    simp only [argTm, PV.ext, Ce.ext]
    refine Do.seqk fun _ k1_ => ?_
    refine Do.region [0,1,2,3,4] true ?_
    simp [go_sem, hna, hav]
    apply k1_; clear k1_
    refine Do.seqk fun _ k2_ => ?_
    refine Do.seqk fun _ k3_ => ?_
    refine Do.region [0,1,2,3,4,20] true ?_
    simp [go_sem, hna, hav]
    apply k3_; clear k3_
    refine Do.cond [0,1,2,3,4] rfl (fun g1 => ?_) (fun g1 => ?_) <;> simp [go_sem, hna, hav] at g1 ⊢
    refine Do.skip ?_
    simp [go_sem]
    apply k2_; clear k2_
    refine Do.seqk fun _ k4_ => ?_
    refine Do.region [0,1,2,3,4] true ?_
    simp [go_sem, hna, hav]
    apply k4_; clear k4_
    refine Do.seqk fun _ k5_ => ?_
    refine Do.region [0,1,2,3,4,13] true ?_
    simp [go_sem, hna, hav]
    apply k5_; clear k5_
    refine Do.seqk fun _ k6_ => ?_
    refine Do.seqk fun _ k7_ => ?_
    refine Do.region [0,1,2,3,4,13,23] true ?_
    simp [go_sem, hna, hav]
    apply k7_; clear k7_
    refine Do.cond [0,1,2,3,4,13] rfl (fun g2 => ?_) (fun g2 => ?_) <;> simp [go_sem, hna, hav] at g2 ⊢
    refine Do.region [2,3,4,11,12,13] true ?_
    simp [go_sem, hna, hav]
    refine DoL.call true 1004 rfl rfl rfl rfl (by first | exact trivial | omega | (simp; done) | (simp; omega)) (hD) rfl (by first | exact .inl rfl | exact .inr rfl) rfl ?_
    simp [go_sem, hna, hav]
    apply k6_; clear k6_
    refine Do.seqk fun _ k8_ => ?_
    refine Do.block ?_
    refine Do.loopF [2,3,4,11,12,13] (fun (s : Nat × Nat × Bool) => [(11, .v (.c (.n s.1))), (12, .v (.c (.n s.2.1))), (13, .v (.c (.b s.2.2)))]) (fun (s : Nat × Nat × Bool) => []) (fun (s : Nat × Nat × Bool) => (s.2.2 = false → GuI a b c v w s.1 s.2.1 ∧ s.2.1 < 18446744073709551616) ∧ (s.2.2 = true → s.1 = guessP a b c v w)) (fun (s : Nat × Nat × Bool) => s.1) (((a * 18446744073709551616 + b) / v, (a * 18446744073709551616 + b) % v, false)) (fun _ => by first | (simp [go_sem, mixS]; done) | (simp [go_sem, mixS]; rfl)) (St.le_of (by simp [keep]) rfl) (⟨fun _ => ⟨hst, Nat.lt_trans hrl va⟩, fun h => by cases h⟩) ?_
    rintro ⟨q, r, o⟩ ⟨h1, h2⟩
    simp only at h1 h2
    refine Do.seqk fun _ k9_ => ?_
    refine Do.seqk fun _ k10_ => ?_
    refine Do.region [2,3,4,11,12,40] true ?_
    simp [go_sem, hna, hav]
    repeat (refine And.intro (by first | omega | (intros; omega) | grind) ?_)
    apply k10_; clear k10_
    refine Do.cond [2,3,4,11,12] rfl (fun g3 => ?_) (fun g3 => ?_) <;> simp [go_sem, hna, hav] at g3 ⊢
    · obtain ⟨hI, hr⟩ := h1 (by simpa using g3)
      have hl := hI.le
      have hM := @Mul64_does G q w (by omega) hw
      have hAd := @Add64_does G r v 0 (Nat.zero_le _)
      have hiff := @hi_lo (q * w) r c hc
      have hnot := @not_hi_lo (q * w) r c
      obtain ⟨hh, eh⟩ : ∃ h, q * w / 18446744073709551616 = h := ⟨_, rfl⟩
      obtain ⟨lo, el⟩ : ∃ h, q * w % 18446744073709551616 = h := ⟨_, rfl⟩
      rw [eh, el] at hM hiff hnot
      refine Do.skip ?_
      simp [go_sem]
      apply k9_; clear k9_
      refine Do.block ?_
      refine Do.seqk fun _ k11_ => ?_
      refine Do.region [2,3,4,11,12,15,16] true ?_
      simp [go_sem, hna, hav]
      refine DoL.call true 1203 rfl rfl rfl rfl (by first | exact trivial | omega | (simp; done) | (simp; omega)) (hM) rfl (by first | exact .inl rfl | exact .inr rfl) rfl ?_
      simp [go_sem, hna, hav]
      apply k11_; clear k11_
      refine Do.seqk fun _ k12_ => ?_
      refine Do.seqk fun _ k13_ => ?_
      refine Do.region [2,3,4,11,12,59] true ?_
      simp [go_sem, hna, hav]
      repeat (refine And.intro (by first | omega | (intros; omega) | grind) ?_)
      apply k13_; clear k13_
      refine Do.cond [2,3,4,11,12] rfl (fun g4 => ?_) (fun g4 => ?_) <;> simp [go_sem, hna, hav] at g4 ⊢
      · have hq := hI.fin hv (hiff.1 g4)
        refine Do.exit ?_
        simp [go_sem]
        apply k8_; clear k8_
        refine Do.seqk fun _ k14_ => ?_
        refine Do.region [10] true ?_
        simp [go_sem, hna, hav]
        apply k14_; clear k14_
        refine Do.ret ?_
        simp [endQ, rets, ret1, go_sem, hna, hav]
        repeat (refine And.intro (by first | omega | (intros; omega) | grind) ?_)
        rw [hq]
        exact TLe.refl _
      · obtain ⟨d1, i2⟩ := hI.dec hv (Nat.lt_of_not_le fun h8 => hnot g4 (hiff.2 h8))
        have d2 : q < M64 := by unfold M64; omega
        refine Do.skip ?_
        simp [go_sem]
        apply k12_; clear k12_
        refine Do.seqk fun _ k15_ => ?_
        refine Do.region [2,3,4,11,12] true ?_
        simp [go_sem, d1, d2]
        repeat (refine And.intro (by first | omega | (intros; omega) | grind) ?_)
        apply k15_; clear k15_
        refine Do.seqk fun _ k16_ => ?_
        refine Do.region [2,3,4,11,12] true ?_
        simp [go_sem, d1, d2]
        apply k16_; clear k16_
        refine Do.seqk fun _ k17_ => ?_
        refine Do.region [2,3,4,11,12,17] true ?_
        simp [go_sem, d1, d2]
        refine DoL.call true 1603 rfl rfl rfl rfl (by first | exact trivial | omega | (simp; done) | (simp; omega)) (hAd) rfl (by first | exact .inl rfl | exact .inr rfl) rfl ?_
        simp [go_sem, d1, d2]
        apply k17_; clear k17_
        refine Do.region [2,3,4,11,12,13] true ?_
        simp [go_sem, d1, d2]
        refine ⟨(q - 1, (r + v) % 18446744073709551616, (r + v) / 18446744073709551616 == 1), St.le_of (by simp [keep]) rfl, gu_next i2 hv hw hr va, by simp; omega⟩
    · have hq := h2 (by simpa using g3)
      refine Do.exit ?_
      simp [go_sem]
      apply k8_; clear k8_
      refine Do.seqk fun _ k18_ => ?_
      refine Do.region [10] true ?_
      simp [go_sem, hna, hav]
      apply k18_; clear k18_
      refine Do.ret ?_
      simp [endQ, rets, ret1, go_sem, hna, hav]
      repeat (refine And.intro (by first | omega | (intros; omega) | grind) ?_)
      rw [hq]
      exact TLe.refl _
end Go.Proofs.YtokgalpflooegaaDoor
/- Division by the schoolbook, of words: what its loops hold. No condition. -/
namespace Go.Proofs.YtokgalpflooegaaDoor
set_option linter.unusedVariables false
set_option linter.unusedSimpArgs false
set_option maxHeartbeats 4000000
set_option maxRecDepth 10000
theorem dgw_top {n k : Nat} (h : n < 18446744073709551616 ^ (k + 1)) : dgw n k = n / 18446744073709551616 ^ k := by
  unfold dgw
  rw [Nat.mod_eq_of_lt]
  rw [Nat.div_lt_iff_lt_mul (HposW k), Nat.mul_comm, ← Nat.pow_succ]; exact h
/-- The carry into digit i of a sum. -/
def cyW (a b i : Nat) : Nat := (a % 18446744073709551616 ^ i + b % 18446744073709551616 ^ i) / 18446744073709551616 ^ i
theorem cyW_zero (a b : Nat) : cyW a b 0 = 0 := by simp [cyW, Nat.mod_one]
theorem plus_stepW (a b i : Nat) : (cyW a b i + dgw a i + dgw b i) % 18446744073709551616 = dgw (a + b) i ∧ (cyW a b i + dgw a i + dgw b i) / 18446744073709551616 = cyW a b (i + 1) ∧ cyW a b i ≤ 1 := by
  have h1 : cyW a b (i + 1) = (cyW a b i + dgw a i + dgw b i) / 18446744073709551616 := by
    unfold cyW
    rw [low_stepW, low_stepW, Nat.pow_succ, ← Nat.div_div_eq_div_mul]
    rw [show a % 18446744073709551616 ^ i + dgw a i * 18446744073709551616 ^ i + (b % 18446744073709551616 ^ i + dgw b i * 18446744073709551616 ^ i) = a % 18446744073709551616 ^ i + b % 18446744073709551616 ^ i + (dgw a i + dgw b i) * 18446744073709551616 ^ i by rw [Nat.add_mul]; omega, Nat.add_mul_div_right _ _ (HposW i), Nat.add_assoc]
  have h2 : dgw (a + b) i = (cyW a b i + dgw a i + dgw b i) % 18446744073709551616 := by
    unfold dgw cyW
    have e : a + b = a % 18446744073709551616 ^ i + b % 18446744073709551616 ^ i + (a / 18446744073709551616 ^ i + b / 18446744073709551616 ^ i) * 18446744073709551616 ^ i := by
      have := Nat.div_add_mod' a (18446744073709551616 ^ i)
      have := Nat.div_add_mod' b (18446744073709551616 ^ i)
      rw [Nat.add_mul]; omega
    conv => lhs; rw [e, Nat.add_mul_div_right _ _ (HposW i)]
    omega
  refine ⟨h2.symm, h1.symm, ?_⟩
  unfold cyW
  have h3 := Nat.mod_lt a (HposW i)
  have h4 := Nat.mod_lt b (HposW i)
  exact Nat.le_of_lt_succ ((Nat.div_lt_iff_lt_mul (HposW i)).2 (by omega))
/-- The higher part. -/
def hghW (n i : Nat) : Nat := n / 18446744073709551616 ^ i
theorem hi_stepW (n i : Nat) : hghW n i = hghW n (i + 1) * 18446744073709551616 + dgw n i := high_stepW n i
theorem hi_zeroW (n : Nat) : hghW n 0 = n := by simp [hghW]
theorem hi_noneW {n k : Nat} (h : n < 18446744073709551616 ^ k) {i : Nat} (hi' : k ≤ i) : hghW n i = 0 := Nat.div_eq_of_lt (Nat.lt_of_lt_of_le h (Nat.pow_le_pow_right (by decide) hi'))
theorem hgh_digW (A i t : Nat) : dgw (hghW A i) t = dgw A (i + t) := by
  unfold dgw hghW
  rw [Nat.pow_add, Nat.div_div_eq_div_mul]
theorem hgh_hghW (A i t : Nat) : hghW (hghW A i) t = hghW A (i + t) := by
  unfold hghW
  rw [Nat.pow_add, Nat.div_div_eq_div_mul]
/-- The rest of a part, written k digits far. -/
def cpyW (A d i k : Nat) : Nat := A % 18446744073709551616 ^ i + d % 18446744073709551616 ^ k * 18446744073709551616 ^ i + hghW A (i + k) * 18446744073709551616 ^ (i + k)
theorem cpyW_zero (A d i : Nat) : cpyW A d i 0 = A := by
  unfold cpyW hghW
  rw [Nat.pow_zero, Nat.mod_one, Nat.zero_mul, Nat.add_zero, Nat.add_zero, Nat.mod_add_div']
theorem cpyW_low (A d i k : Nat) : A % 18446744073709551616 ^ i + d % 18446744073709551616 ^ k * 18446744073709551616 ^ i < 18446744073709551616 ^ (i + k) := by
  have h1 := Nat.mod_lt A (HposW i)
  have h2 := Nat.mod_lt d (HposW k)
  rw [Nat.pow_add, Nat.mul_comm (18446744073709551616 ^ i)]
  have h3 : (d % 18446744073709551616 ^ k + 1) * 18446744073709551616 ^ i ≤ 18446744073709551616 ^ k * 18446744073709551616 ^ i := Nat.mul_le_mul_right _ h2
  rw [Nat.add_mul] at h3
  omega
theorem cpyW_dig (A d i k : Nat) : dgw (cpyW A d i k) (i + k) = dgw A (i + k) := by
  have h := cpyW_low A d i k
  unfold dgw cpyW hghW
  rw [Nat.add_mul_div_right _ _ (HposW _), Nat.div_eq_of_lt h, Nat.zero_add]
theorem cpyW_step {A d i k L : Nat} (h : i + k < L) : (wds (cpyW A d i k) L).set (i + k) (dgw d k) = wds (cpyW A d i (k + 1)) L := by
  obtain ⟨Q', e1, e2, _⟩ := @wds_set (cpyW A d i k) L (i + k) (dgw d k) h (dgw_lt _ _)
  rw [e1]
  congr 1
  rw [cpyW_dig] at e2
  have e3 := hi_stepW A (i + k)
  have e4 := low_stepW d k
  unfold cpyW at e2 ⊢
  rw [e3] at e2
  rw [e4]
  rw [show i + (k + 1) = i + k + 1 by omega]
  have e5 : dgw d k * 18446744073709551616 ^ (i + k) = dgw d k * 18446744073709551616 ^ k * 18446744073709551616 ^ i := by rw [Nat.pow_add]; ac_rfl
  rw [e5] at e2
  have e6 : 18446744073709551616 ^ (i + k + 1) = 18446744073709551616 * 18446744073709551616 ^ (i + k) := by rw [Nat.pow_succ, Nat.mul_comm]
  rw [e6, Nat.add_mul]
  rw [Nat.add_mul] at e2
  have e7 : hghW A (i + k + 1) * (18446744073709551616 * 18446744073709551616 ^ (i + k)) = hghW A (i + k + 1) * 18446744073709551616 * 18446744073709551616 ^ (i + k) := by rw [Nat.mul_assoc]
  rw [e7]
  omega
theorem cpyW_end {A d i n : Nat} (hd : d < 18446744073709551616 ^ n) (hh : hghW A (i + n) = 0) : cpyW A d i n = A % 18446744073709551616 ^ i + d * 18446744073709551616 ^ i := by
  unfold cpyW
  rw [hh, Nat.zero_mul, Nat.add_zero, Nat.mod_eq_of_lt hd]
/-- What holds before the digit below c of the quotient is found. -/
structure DivIW (A0 b L c A Q : Nat) : Prop where
  lt : A < 18446744073709551616 ^ L
  top : hghW A c < b
  eq : A + b * Q = A0
  low : Q % 18446744073709551616 ^ c = 0
theorem DivIW.start {A0 b L n : Nat} (h : A0 < 18446744073709551616 ^ (L - 1)) (hn : 0 < n) (hL : 0 < L) (hb : 18446744073709551616 ^ (n - 1) ≤ b) : DivIW A0 b L (L - n) A0 0 := by
  refine ⟨Nat.lt_of_lt_of_le h (Nat.pow_le_pow_right (by decide) (by omega)), ?_, by simp, by simp⟩
  refine Nat.lt_of_lt_of_le ?_ hb
  unfold hghW
  rw [Nat.div_lt_iff_lt_mul (HposW _), ← Nat.pow_add]
  exact Nat.lt_of_lt_of_le h (Nat.pow_le_pow_right (by decide) (by omega))
/-- The part that a digit of the quotient divides. -/
theorem DivIW.part {A0 b L i A Q n : Nat} (h : DivIW A0 b L (i + 1) A Q) (hn : 0 < n) (hb : b < 18446744073709551616 ^ n) : hghW A i < b * 18446744073709551616 ∧ hghW A i < 18446744073709551616 ^ (n + 1) ∧ hghW A i / b ≤ 18446744073709551615 ∧ hghW A i / b * b ≤ hghW A i ∧ hghW A (i + (n + 1)) = 0 := by
  have h1 := hi_stepW A i
  have h2 := dgw_lt A i
  have h3 : hghW A i < b * 18446744073709551616 := by
    have : (hghW A (i + 1) + 1) * 18446744073709551616 ≤ b * 18446744073709551616 := Nat.mul_le_mul_right _ h.top
    omega
  have h4 : hghW A i < 18446744073709551616 ^ (n + 1) := by
    refine Nat.lt_of_lt_of_le h3 ?_
    rw [Nat.pow_succ]
    exact Nat.mul_le_mul_right _ (Nat.le_of_lt hb)
  refine ⟨h3, h4, ?_, Nat.div_mul_le_self _ _, ?_⟩
  · have : hghW A i / b < 18446744073709551616 := (Nat.div_lt_iff_lt_mul (Nat.lt_of_le_of_lt (Nat.zero_le _) h.top)).2 (by rw [Nat.mul_comm]; exact h3)
    omega
  · rw [← hgh_hghW]
    exact hi_noneW h4 (Nat.le_refl _)
theorem DivIW.next {A0 b L i A Q n d : Nat} (h : DivIW A0 b L (i + 1) A Q) (hn : 0 < n) (hb : b < 18446744073709551616 ^ n) (hi : i + (n + 1) ≤ L) (hd : d + b * (hghW A i / b) = hghW A i) (hdb : d < b) :
    ∃ Q', (wds Q (L - n)).set i (hghW A i / b) = wds Q' (L - n) ∧ DivIW A0 b L i (cpyW A d i (n + 1)) Q' := by
  obtain ⟨p1, p2, p3, p4, p5⟩ := h.part hn hb
  obtain ⟨Q', e1, e2, _⟩ := @wds_set Q (L - n) i (hghW A i / b) (by omega) (by omega)
  have hdn : d < 18446744073709551616 ^ (n + 1) := Nat.lt_trans (Nat.lt_trans hdb hb) (Nat.pow_lt_pow_right (by decide) (by omega))
  have hc := @cpyW_end A d i (n + 1) hdn p5
  have hdi : dgw Q i = 0 := by
    have := h.low
    rw [low_stepW] at this
    have h5 := HposW i
    have h6 : dgw Q i * 18446744073709551616 ^ i = 0 := by omega
    rcases Nat.mul_eq_zero.1 h6 with h6 | h6
    · exact h6
    · omega
  have hql : Q % 18446744073709551616 ^ i = 0 := by
    have := h.low
    rw [low_stepW] at this
    omega
  rw [hdi, Nat.zero_mul, Nat.add_zero] at e2
  refine ⟨Q', e1, ?_, ?_, ?_, ?_⟩
  · rw [hc]
    have h1 := Nat.mod_lt A (HposW i)
    have h2 : (d + 1) * 18446744073709551616 ^ i ≤ 18446744073709551616 ^ n * 18446744073709551616 ^ i := Nat.mul_le_mul_right _ (by omega)
    rw [← Nat.pow_add, Nat.add_mul] at h2
    have h3 : 18446744073709551616 ^ (n + i) ≤ 18446744073709551616 ^ L := Nat.pow_le_pow_right (by decide) (by omega)
    omega
  · rw [hc]
    unfold hghW
    rw [Nat.add_mul_div_right _ _ (HposW i), Nat.div_eq_of_lt (Nat.mod_lt _ (HposW i)), Nat.zero_add]
    exact hdb
  · rw [hc, e2, ← h.eq]
    have h1 : A = A % 18446744073709551616 ^ i + hghW A i * 18446744073709551616 ^ i := by unfold hghW; rw [Nat.mod_add_div']
    conv => rhs; rw [h1, ← hd]
    rw [Nat.mul_add, Nat.add_mul]
    have : b * (hghW A i / b * 18446744073709551616 ^ i) = b * (hghW A i / b) * 18446744073709551616 ^ i := by rw [Nat.mul_assoc]
    omega
  · rw [e2, Nat.add_mul_mod_self_right, hql]
theorem DivIW.fin {A0 b L A Q : Nat} (h : DivIW A0 b L 0 A Q) (hb : 0 < b) : Q = A0 / b ∧ A = A0 % b := by
  have h1 := h.top
  rw [hi_zeroW] at h1
  rw [← h.eq]
  rw [Nat.add_mul_div_left _ _ hb, Nat.add_mul_mod_self_left, Nat.div_eq_of_lt h1, Nat.mod_eq_of_lt h1]
  omega
end Go.Proofs.YtokgalpflooegaaDoor
/- So many times one number taken from another, plain. No condition. -/
namespace Go.Proofs.YtokgalpflooegaaDoor
set_option linter.unusedVariables false
set_option linter.unusedSimpArgs false
set_option maxHeartbeats 4000000
set_option maxRecDepth 10000
/-- The carry into digit i of q times V. -/
def cqW (q V i : Nat) : Nat := q * (V % 18446744073709551616 ^ i) / 18446744073709551616 ^ i
theorem cqW_zero (q V : Nat) : cqW q V 0 = 0 := by simp [cqW, Nat.mod_one]
theorem cqW_lt {q V i : Nat} (hq : q < 18446744073709551616) : cqW q V i ≤ 18446744073709551615 := by
  have h : cqW q V i < 18446744073709551616 := by
    unfold cqW
    rw [Nat.div_lt_iff_lt_mul (HposW i)]
    have h1 := Nat.mod_lt V (HposW i)
    have h2 : q * (V % 18446744073709551616 ^ i) ≤ q * 18446744073709551616 ^ i := Nat.mul_le_mul_left _ (Nat.le_of_lt h1)
    have h3 : (q + 1) * 18446744073709551616 ^ i ≤ 18446744073709551616 * 18446744073709551616 ^ i := Nat.mul_le_mul_right _ hq
    rw [Nat.add_mul] at h3
    have := HposW i
    omega
  omega
theorem cqW_step (q V i : Nat) : (q * dgw V i + cqW q V i) % 18446744073709551616 = dgw (q * V) i ∧ (q * dgw V i + cqW q V i) / 18446744073709551616 = cqW q V (i + 1) := by
  constructor
  · have e : q * V = q * (V % 18446744073709551616 ^ i) + q * (V / 18446744073709551616 ^ i) * 18446744073709551616 ^ i := by
      rw [Nat.mul_assoc, ← Nat.mul_add]
      congr 1
      exact (Nat.mod_add_div' V _).symm
    unfold dgw cqW
    conv => rhs; rw [e, Nat.add_mul_div_right _ _ (HposW i)]
    rw [Nat.add_mod, Nat.mul_mod, Nat.mod_mod, ← Nat.mul_mod, ← Nat.add_mod, Nat.add_comm]
  · unfold cqW
    rw [low_stepW, Nat.mul_add, ← Nat.mul_assoc, Nat.pow_succ, ← Nat.div_div_eq_div_mul, Nat.add_mul_div_right _ _ (HposW i), Nat.add_comm]
theorem cqW_end {q V n : Nat} (hq : q < 18446744073709551616) (hV : V < 18446744073709551616 ^ n) : cqW q V n = dgw (q * V) n := by
  have h : q * V < 18446744073709551616 ^ (n + 1) := by
    rw [Nat.pow_succ, Nat.mul_comm]
    exact Nat.mul_lt_mul'' hV hq
  rw [dgw_top h]
  unfold cqW
  rw [Nat.mod_eq_of_lt hV]
/-- d is X less P; above n + 1 digits one was borrowed, if X is less. -/
structure SubW (X P d n : Nat) : Prop where
  eq : d + P = X + (if X < P then 18446744073709551616 ^ (n + 1) else 0)
  x : X < 18446744073709551616 ^ (n + 1)
  p : P < 18446744073709551616 ^ (n + 1)
  d : d < 18446744073709551616 ^ (n + 1)
theorem SubW.step {X P d n : Nat} (h : SubW X P d n) {i : Nat} (hi : i ≤ n) : (dgw X i + 18446744073709551616 - dgw P i - cyW d P i) % 18446744073709551616 = dgw d i ∧ (if dgw X i < dgw P i + cyW d P i then 1 else 0) = cyW d P (i + 1) := by
  obtain ⟨h1, h2, h3⟩ := plus_stepW d P i
  have h4 : dgw (d + P) i = dgw X i := by
    rw [h.eq]
    split
    · rw [← dgw_low (show i < n + 1 by omega), Nat.add_mod_right, dgw_low (show i < n + 1 by omega)]
    · rfl
  rw [h4] at h1
  have := dgw_lt X i
  have := dgw_lt P i
  have := dgw_lt d i
  rw [← h2]
  constructor
  · omega
  · split <;> omega
theorem SubW.fin {X P d n : Nat} (h : SubW X P d n) : cyW d P (n + 1) = if X < P then 1 else 0 := by
  unfold cyW
  rw [Nat.mod_eq_of_lt h.d, Nat.mod_eq_of_lt h.p, h.eq]
  split
  · rw [Nat.add_div_right _ (HposW _), Nat.div_eq_of_lt h.x]
  · rw [Nat.add_zero, Nat.div_eq_of_lt h.x]
theorem SubW.mk' {X P n : Nat} (hX : X < 18446744073709551616 ^ (n + 1)) (hP : P < 18446744073709551616 ^ (n + 1)) : ∃ d, SubW X P d n := by
  by_cases h : X < P
  · exact ⟨X + 18446744073709551616 ^ (n + 1) - P, by rw [if_pos h]; omega, hX, hP, by omega⟩
  · exact ⟨X - P, by rw [if_neg h]; omega, hX, hP, by omega⟩
theorem cpyW_get {A d j k i : Nat} (h : i < k) : dgw (cpyW A d j k) (j + i) = dgw d i := by
  have e : cpyW A d j k = A % 18446744073709551616 ^ j + (d % 18446744073709551616 ^ k + hghW A (j + k) * 18446744073709551616 ^ k) * 18446744073709551616 ^ j := by
    unfold cpyW
    rw [Nat.add_mul, Nat.mul_assoc (hghW A (j + k)), ← Nat.pow_add, Nat.add_comm k j, Nat.add_assoc]
  rw [e, ← hgh_digW]
  unfold hghW
  rw [Nat.add_mul_div_right _ _ (HposW j), Nat.div_eq_of_lt (Nat.mod_lt _ (HposW j)), Nat.zero_add, ← dgw_low h, Nat.add_mul_mod_self_right, Nat.mod_mod, dgw_low h]
theorem cpyW_twice {A d e j n : Nat} (hd : d < 18446744073709551616 ^ n) (hh : hghW A (j + n) = 0) : hghW (cpyW A d j n) (j + n) = 0 ∧ cpyW (cpyW A d j n) e j n = cpyW A e j n := by
  have h0 : hghW (cpyW A d j n) (j + n) = 0 := by
    have h1 := cpyW_low A d j n
    unfold cpyW hghW at *
    rw [hh, Nat.zero_mul, Nat.add_zero]
    exact Nat.div_eq_of_lt h1
  refine ⟨h0, ?_⟩
  have h2 : cpyW A d j n % 18446744073709551616 ^ j = A % 18446744073709551616 ^ j := by
    rw [cpyW_end hd hh, Nat.add_mul_mod_self_right, Nat.mod_mod]
  obtain ⟨A1, hA1⟩ : ∃ A1, cpyW A d j n = A1 := ⟨_, rfl⟩
  rw [hA1] at h0 h2 ⊢
  unfold cpyW
  rw [h0, h2, hh]
/-- A digit once too great, put right. -/
theorem put_back {X V q d n : Nat} (hV : 0 < V) (hVn : V < 18446744073709551616 ^ n) (h : SubW X (q * V) d n) (hq : X / V ≤ q) (hq2 : q ≤ X / V + 1) :
    (X < q * V → q = X / V + 1 ∧ (d + V) % 18446744073709551616 ^ (n + 1) = X % V) ∧ (¬ X < q * V → q = X / V ∧ d = X % V) := by
  have e := Nat.div_add_mod X V
  have l := Nat.mod_lt X hV
  obtain ⟨Q, hQ⟩ : ∃ Q, X / V = Q := ⟨_, rfl⟩
  obtain ⟨R, hR⟩ : ∃ R, X % V = R := ⟨_, rfl⟩
  rw [hQ, hR] at e
  rw [hR] at l
  rw [hQ] at hq hq2 ⊢
  rw [hR]
  have heq := h.eq
  have h1 : 18446744073709551616 ^ n ≤ 18446744073709551616 ^ (n + 1) := Nat.pow_le_pow_right (by decide) (by omega)
  rw [Nat.mul_comm] at e
  constructor
  · intro hlt
    have hq3 : q = Q + 1 := by
      apply Classical.byContradiction
      intro hn
      obtain rfl : q = Q := by omega
      omega
    refine ⟨hq3, ?_⟩
    rw [if_pos hlt] at heq
    subst hq3
    rw [Nat.add_mul] at heq
    rw [show d + V = R + 18446744073709551616 ^ (n + 1) by omega, Nat.add_mod_right, Nat.mod_eq_of_lt (by omega)]
  · intro hlt
    have hq3 : q = Q := by
      apply Classical.byContradiction
      intro hn
      obtain rfl : q = Q + 1 := by omega
      rw [Nat.add_mul] at hlt
      omega
    subst hq3
    rw [if_neg hlt] at heq
    exact ⟨rfl, by omega⟩
end Go.Proofs.YtokgalpflooegaaDoor
