/- So many times one number taken from another, plain. No condition. -/
import Derived.Test.YtbhokdhkfodpfaaDoorMi
/- So many times one number taken from another, plain. No condition. -/
namespace Go.Proofs.YtbhokdhkfodpfaaDoor
set_option linter.unusedVariables false
set_option linter.unusedSimpArgs false
set_option maxHeartbeats 4000000
set_option maxRecDepth 10000
/-- The carry into digit i of q times V. -/
def cqW (q V i : Nat) : Nat := q * (V % 18446744073709551616 ^ i) / 18446744073709551616 ^ i
theorem cqW_zero (q V : Nat) : cqW q V 0 = 0 := by simp [cqW, Nat.mod_one]
theorem cqW_lt {q V i : Nat} (hq : q < 18446744073709551616) : cqW q V i ≤ 18446744073709551615 := by
  have h : cqW q V i < 18446744073709551616 := by
    unfold cqW
    rw [Nat.div_lt_iff_lt_mul (HposW i)]
    have h1 := Nat.mod_lt V (HposW i)
    have h2 : q * (V % 18446744073709551616 ^ i) ≤ q * 18446744073709551616 ^ i := Nat.mul_le_mul_left _ (Nat.le_of_lt h1)
    have h3 : (q + 1) * 18446744073709551616 ^ i ≤ 18446744073709551616 * 18446744073709551616 ^ i := Nat.mul_le_mul_right _ hq
    rw [Nat.add_mul] at h3
    have := HposW i
    omega
  omega
theorem cqW_step (q V i : Nat) : (q * dgw V i + cqW q V i) % 18446744073709551616 = dgw (q * V) i ∧ (q * dgw V i + cqW q V i) / 18446744073709551616 = cqW q V (i + 1) := by
  constructor
  · have e : q * V = q * (V % 18446744073709551616 ^ i) + q * (V / 18446744073709551616 ^ i) * 18446744073709551616 ^ i := by
      rw [Nat.mul_assoc, ← Nat.mul_add]
      congr 1
      exact (Nat.mod_add_div' V _).symm
    unfold dgw cqW
    conv => rhs; rw [e, Nat.add_mul_div_right _ _ (HposW i)]
    rw [Nat.add_mod, Nat.mul_mod, Nat.mod_mod, ← Nat.mul_mod, ← Nat.add_mod, Nat.add_comm]
  · unfold cqW
    rw [low_stepW, Nat.mul_add, ← Nat.mul_assoc, Nat.pow_succ, ← Nat.div_div_eq_div_mul, Nat.add_mul_div_right _ _ (HposW i), Nat.add_comm]
theorem cqW_end {q V n : Nat} (hq : q < 18446744073709551616) (hV : V < 18446744073709551616 ^ n) : cqW q V n = dgw (q * V) n := by
  have h : q * V < 18446744073709551616 ^ (n + 1) := by
    rw [Nat.pow_succ, Nat.mul_comm]
    exact Nat.mul_lt_mul'' hV hq
  rw [dgw_top h]
  unfold cqW
  rw [Nat.mod_eq_of_lt hV]
/-- d is X less P; above n + 1 digits one was borrowed, if X is less. -/
structure SubW (X P d n : Nat) : Prop where
  eq : d + P = X + (if X < P then 18446744073709551616 ^ (n + 1) else 0)
  x : X < 18446744073709551616 ^ (n + 1)
  p : P < 18446744073709551616 ^ (n + 1)
  d : d < 18446744073709551616 ^ (n + 1)
theorem SubW.step {X P d n : Nat} (h : SubW X P d n) {i : Nat} (hi : i ≤ n) : (dgw X i + 18446744073709551616 - dgw P i - cyW d P i) % 18446744073709551616 = dgw d i ∧ (if dgw X i < dgw P i + cyW d P i then 1 else 0) = cyW d P (i + 1) := by
  obtain ⟨h1, h2, h3⟩ := plus_stepW d P i
  have h4 : dgw (d + P) i = dgw X i := by
    rw [h.eq]
    split
    · rw [← dgw_low (show i < n + 1 by omega), Nat.add_mod_right, dgw_low (show i < n + 1 by omega)]
    · rfl
  rw [h4] at h1
  have := dgw_lt X i
  have := dgw_lt P i
  have := dgw_lt d i
  rw [← h2]
  constructor
  · omega
  · split <;> omega
theorem SubW.fin {X P d n : Nat} (h : SubW X P d n) : cyW d P (n + 1) = if X < P then 1 else 0 := by
  unfold cyW
  rw [Nat.mod_eq_of_lt h.d, Nat.mod_eq_of_lt h.p, h.eq]
  split
  · rw [Nat.add_div_right _ (HposW _), Nat.div_eq_of_lt h.x]
  · rw [Nat.add_zero, Nat.div_eq_of_lt h.x]
theorem SubW.mk' {X P n : Nat} (hX : X < 18446744073709551616 ^ (n + 1)) (hP : P < 18446744073709551616 ^ (n + 1)) : ∃ d, SubW X P d n := by
  by_cases h : X < P
  · exact ⟨X + 18446744073709551616 ^ (n + 1) - P, by rw [if_pos h]; omega, hX, hP, by omega⟩
  · exact ⟨X - P, by rw [if_neg h]; omega, hX, hP, by omega⟩
theorem cpyW_get {A d j k i : Nat} (h : i < k) : dgw (cpyW A d j k) (j + i) = dgw d i := by
  have e : cpyW A d j k = A % 18446744073709551616 ^ j + (d % 18446744073709551616 ^ k + hghW A (j + k) * 18446744073709551616 ^ k) * 18446744073709551616 ^ j := by
    unfold cpyW
    rw [Nat.add_mul, Nat.mul_assoc (hghW A (j + k)), ← Nat.pow_add, Nat.add_comm k j, Nat.add_assoc]
  rw [e, ← hgh_digW]
  unfold hghW
  rw [Nat.add_mul_div_right _ _ (HposW j), Nat.div_eq_of_lt (Nat.mod_lt _ (HposW j)), Nat.zero_add, ← dgw_low h, Nat.add_mul_mod_self_right, Nat.mod_mod, dgw_low h]
theorem cpyW_twice {A d e j n : Nat} (hd : d < 18446744073709551616 ^ n) (hh : hghW A (j + n) = 0) : hghW (cpyW A d j n) (j + n) = 0 ∧ cpyW (cpyW A d j n) e j n = cpyW A e j n := by
  have h0 : hghW (cpyW A d j n) (j + n) = 0 := by
    have h1 := cpyW_low A d j n
    unfold cpyW hghW at *
    rw [hh, Nat.zero_mul, Nat.add_zero]
    exact Nat.div_eq_of_lt h1
  refine ⟨h0, ?_⟩
  have h2 : cpyW A d j n % 18446744073709551616 ^ j = A % 18446744073709551616 ^ j := by
    rw [cpyW_end hd hh, Nat.add_mul_mod_self_right, Nat.mod_mod]
  obtain ⟨A1, hA1⟩ : ∃ A1, cpyW A d j n = A1 := ⟨_, rfl⟩
  rw [hA1] at h0 h2 ⊢
  unfold cpyW
  rw [h0, h2, hh]
/-- A digit once too great, put right. -/
theorem put_back {X V q d n : Nat} (hV : 0 < V) (hVn : V < 18446744073709551616 ^ n) (h : SubW X (q * V) d n) (hq : X / V ≤ q) (hq2 : q ≤ X / V + 1) :
    (X < q * V → q = X / V + 1 ∧ (d + V) % 18446744073709551616 ^ (n + 1) = X % V) ∧ (¬ X < q * V → q = X / V ∧ d = X % V) := by
  have e := Nat.div_add_mod X V
  have l := Nat.mod_lt X hV
  obtain ⟨Q, hQ⟩ : ∃ Q, X / V = Q := ⟨_, rfl⟩
  obtain ⟨R, hR⟩ : ∃ R, X % V = R := ⟨_, rfl⟩
  rw [hQ, hR] at e
  rw [hR] at l
  rw [hQ] at hq hq2 ⊢
  rw [hR]
  have heq := h.eq
  have h1 : 18446744073709551616 ^ n ≤ 18446744073709551616 ^ (n + 1) := Nat.pow_le_pow_right (by decide) (by omega)
  rw [Nat.mul_comm] at e
  constructor
  · intro hlt
    have hq3 : q = Q + 1 := by
      apply Classical.byContradiction
      intro hn
      obtain rfl : q = Q := by omega
      omega
    refine ⟨hq3, ?_⟩
    rw [if_pos hlt] at heq
    subst hq3
    rw [Nat.add_mul] at heq
    rw [show d + V = R + 18446744073709551616 ^ (n + 1) by omega, Nat.add_mod_right, Nat.mod_eq_of_lt (by omega)]
  · intro hlt
    have hq3 : q = Q := by
      apply Classical.byContradiction
      intro hn
      obtain rfl : q = Q + 1 := by omega
      rw [Nat.add_mul] at hlt
      omega
    subst hq3
    rw [if_neg hlt] at heq
    exact ⟨rfl, by omega⟩
end Go.Proofs.YtbhokdhkfodpfaaDoor
