/- Division of two words by one: the walk. No condition. Functions that write words into a part of a row of their caller's. No condition. A part of a row of words of the call's own, given to a call that writes it. No condition. A digit of a quotient, guessed. No condition. Division by the schoolbook, of words: what its loops hold. No condition. So many times one number taken from another, plain. No condition. -/
import Derived.Test.YtbhokdhkfodpfaaGreatDoorMj
/- Division of two words by one: the walk. No condition. -/
namespace Go.Proofs.YtbhokdhkfodpfaaGreatDoor
set_option linter.unusedVariables false
set_option linter.unusedSimpArgs false
variable {G : Gl}
set_option maxHeartbeats 8000000
set_option maxRecDepth 10000
theorem div_parts {hi lo y s : Nat} (hs : s ≤ 64) (hl : lo < 18446744073709551616) (hh : hi < y) (n1 : y * 2 ^ s < 18446744073709551616) (n2 : 9223372036854775808 ≤ y * 2 ^ s) :
    ∃ D v1 v0 A U c1 c0, y * 2 ^ s % M64 = D ∧ D / 4294967296 = v1 ∧ D &&& 4294967295 = v0 ∧ (hi * 2 ^ s % M64) ||| (lo / 2 ^ (64 - s)) = A ∧ lo * 2 ^ s % M64 = U ∧ U / 4294967296 = c1 ∧ U &&& 4294967295 = c0 ∧
    D = v1 * 4294967296 + v0 ∧ 2147483648 ≤ v1 ∧ v1 < 4294967296 ∧ v0 < 4294967296 ∧ c1 < 4294967296 ∧ c0 < 4294967296 ∧ A < D ∧ U < M64 ∧ D = y * 2 ^ s ∧ (A * 4294967296 + c1) * 4294967296 + c0 = (hi * 18446744073709551616 + lo) * 2 ^ s := by
  have hP : 2 ^ (64 - s) * 2 ^ s = 18446744073709551616 := by rw [← Nat.pow_add, show 64 - s + s = 64 by omega]
  have hp1 : 0 < 2 ^ s := Nat.pow_pos (by decide)
  have hp2 : 0 < 2 ^ (64 - s) := Nat.pow_pos (by decide)
  have hhs : (hi + 1) * 2 ^ s ≤ y * 2 ^ s := Nat.mul_le_mul_right _ hh
  have hlq : lo / 2 ^ (64 - s) < 2 ^ s := by rw [Nat.div_lt_iff_lt_mul hp2, Nat.mul_comm, hP]; exact hl
  have e1 : hi * 2 ^ s % M64 = hi * 2 ^ s := Nat.mod_eq_of_lt (by unfold M64; rw [Nat.add_mul] at hhs; omega)
  have e2 : (hi * 2 ^ s % M64) ||| (lo / 2 ^ (64 - s)) = lo / 2 ^ (64 - s) + hi * 2 ^ s := by
    rw [e1, Nat.or_comm, or_add hlq (Nat.mul_mod_left _ _)]
  have e3 : lo * 2 ^ s % M64 = lo % 2 ^ (64 - s) * 2 ^ s := by
    have h1 : lo * 2 ^ s = lo % 2 ^ (64 - s) * 2 ^ s + lo / 2 ^ (64 - s) * 18446744073709551616 := by
      rw [← hP, ← Nat.mul_assoc, ← Nat.add_mul, Nat.mul_comm (lo / _), Nat.mod_add_div]
    have h2 : lo % 2 ^ (64 - s) * 2 ^ s < 2 ^ (64 - s) * 2 ^ s := Nat.mul_lt_mul_of_pos_right (Nat.mod_lt _ hp2) hp1
    rw [hP] at h2
    rw [h1]
    unfold M64
    omega
  refine ⟨_, _, _, _, _, _, _, rfl, rfl, rfl, rfl, rfl, rfl, rfl, ?_⟩
  rw [e2, mask32, mask32, Nat.mod_eq_of_lt (show y * 2 ^ s < M64 from n1)]
  have e4 : lo * 2 ^ s % M64 < M64 := Nat.mod_lt _ (by decide)
  refine ⟨by omega, by omega, by omega, by omega, by unfold M64 at e4 ⊢; omega, by omega, ?_, e4, rfl, ?_⟩
  · rw [Nat.add_mul] at hhs; omega
  · rw [e3]
    have h3 : (hi * 18446744073709551616 + lo) * 2 ^ s = hi * 2 ^ s * 18446744073709551616 + lo * 2 ^ s := by rw [Nat.add_mul, Nat.mul_right_comm]
    have h1 : lo * 2 ^ s = lo % 2 ^ (64 - s) * 2 ^ s + lo / 2 ^ (64 - s) * 18446744073709551616 := by
      rw [← hP, ← Nat.mul_assoc, ← Nat.add_mul, Nat.mul_comm (lo / _), Nat.mod_add_div]
    rw [h3, h1]
    generalize lo % 2 ^ (64 - s) * 2 ^ s = u at *
    generalize lo / 2 ^ (64 - s) = w at *
    generalize hi * 2 ^ s = x at *
    omega
theorem cond_yes {q rh v0 c : Nat} (hr : rh < 4294967296) (h0 : v0 < 4294967296) (hc : c < 4294967296) (g : 4294967296 ≤ q ∨ (4294967296 * rh + c) % M64 < q * v0 % M64) : 4294967296 ≤ q ∨ rh * 4294967296 + c < q * v0 := by
  rcases g with g | g
  · exact .inl g
  · by_cases hq : 4294967296 ≤ q
    · exact .inl hq
    · refine .inr ?_
      have h1 : q * v0 ≤ 4294967295 * 4294967295 := Nat.mul_le_mul (by omega) (by omega)
      unfold M64 at g
      generalize q * v0 = w at *
      omega
theorem cond_no {q rh v0 c : Nat} (hr : rh < 4294967296) (h0 : v0 < 4294967296) (hc : c < 4294967296) (g : q < 4294967296 ∧ q * v0 % M64 ≤ (4294967296 * rh + c) % M64) : q * v0 ≤ rh * 4294967296 + c := by
  obtain ⟨g1, g2⟩ := g
  have h1 : q * v0 ≤ 4294967295 * 4294967295 := Nat.mul_le_mul (by omega) (by omega)
  unfold M64 at g2
  generalize q * v0 = w at *
  omega
theorem start_r {A v1 : Nat} (h : 0 < v1) (h2 : v1 < 4294967296) : A - A / v1 * v1 < 4294967296 := by
  have h := Nat.mod_lt A h
  rw [Nat.mul_comm, ← Nat.mod_eq_sub_mul_div]
  exact Nat.lt_trans h h2
theorem Div64_big {hi lo y : Nat} (h00 : 0 < hi) (hl : lo < 18446744073709551616) (hy : y < 18446744073709551616) (hh : hi < y) : Does Tryz.prog G 158 [.c (.n hi), .c (.n lo), .c (.n y)] (.t [.c (.n ((hi * 18446744073709551616 + lo) / y)), .c (.n ((hi * 18446744073709551616 + lo) % y))]) := by
  obtain ⟨s, hs⟩ : ∃ s, s = 64 - bl y := ⟨_, rfl⟩
  have hL := @Lz_does G y hy
  have hb := bl_word hy
  have hp := bl_pos (show 0 < y by omega)
  obtain ⟨n1, n2⟩ := norm_word (by omega) hs hy
  have hy0 : ¬ y = 0 := by omega
  have hy1 : ¬ y ≤ hi := by omega
  have hi0 : ¬ hi = 0 := by omega
  rw [show (64 - (bl y : Int)) = s by omega] at hL
  obtain ⟨D, v1, v0, A, U, c1, c0, f1, f2, f3, f4, f5, f6, f7, hD, hv1, hv2, hv0, hc1, hc0, hA, hU, hDy, hN⟩ := div_parts (show s ≤ 64 by omega) hl hh n1 n2
  have g1 : s ≤ 64 := by omega
  have g2 : lo < M64 := hl
  have g3 : hi * 2 ^ s % M64 < M64 := Nat.mod_lt _ (by decide)
  have g4 : lo / 2 ^ (64 - s) < M64 := Nat.lt_of_le_of_lt (Nat.div_le_self _ _) hl
  have g5 : D < M64 := by unfold M64; omega
  have g6 : 0 < v1 := by omega
  have g7 : A < M64 := by omega
  have g8 := Nat.div_mul_le_self A v1
  have g9 : A / v1 * v1 < M64 := by omega
  have e18 : ((A * 4294967296 + c1) * 4294967296 + c0) / D = (hi * 18446744073709551616 + lo) / y := by
    rw [hN, hDy, Nat.mul_div_mul_right _ _ (Nat.pow_pos (by decide))]
  have e19 : ((A * 4294967296 + c1) * 4294967296 + c0) % D / 2 ^ s = (hi * 18446744073709551616 + lo) % y := by
    rw [hN, hDy, Nat.mul_mod_mul_right, Nat.mul_div_cancel _ (Nat.pow_pos (by decide))]
  have st1 := HalfI.start hv1 hv0 (hD ▸ hA) hc1
  have st1r := @start_r A v1 g6 hv2
  obtain ⟨H1, H2⟩ := @halves (A * 4294967296 + c1) c0 D (by omega)
  have hRD := Nat.mod_lt (A * 4294967296 + c1) (show 0 < D by omega)
  have hQB := half_q hA hc1
  have hdm := Nat.div_add_mod (A * 4294967296 + c1) D
  rw [← e18, ← e19, H1, H2]
  rw [Nat.mul_comm] at hdm
  clear e18 e19 H1 H2 hN
  obtain ⟨Q, hQ⟩ : ∃ Q, (A * 4294967296 + c1) / D = Q := ⟨_, rfl⟩
  obtain ⟨R, hR'⟩ : ∃ R, (A * 4294967296 + c1) % D = R := ⟨_, rfl⟩
  rw [hQ, hR'] at hdm
  rw [hR'] at hRD
  rw [hQ] at hQB
  rw [hQ, hR']
  have hR : R < D := hRD
  have st2 := HalfI.start hv1 hv0 (hD ▸ hR) hc0
  have st2r := @start_r R v1 g6 hv2
  have hRD0 := Nat.mod_lt (R * 4294967296 + c0) (show 0 < D by omega)
  have hQB0 := half_q hR hc0
  have hdm0 := Nat.div_add_mod (R * 4294967296 + c0) D
  rw [Nat.mul_comm] at hdm0
  obtain ⟨Q0, hQ0⟩ : ∃ Q0, (R * 4294967296 + c0) / D = Q0 := ⟨_, rfl⟩
  obtain ⟨R0, hR0⟩ : ∃ R0, (R * 4294967296 + c0) % D = R0 := ⟨_, rfl⟩
  rw [hQ0, hR0] at hdm0
  rw [hR0] at hRD0
  rw [hQ0] at hQB0
  rw [hQ0, hR0]
  have h21 := take_off hdm.symm (show R < M64 by omega)
  have h28 := take_off hdm0.symm (show R0 < M64 by omega)
  have h27 : (Q * 4294967296 + Q0) % M64 = Q * 4294967296 + Q0 := two_lim hQB hQB0
  have g10 : R < M64 := by omega
  have g11 := Nat.div_mul_le_self R v1
  have g12 : R / v1 * v1 < M64 := by omega
  have g13 : R0 < M64 := by omega
  have g14 : Q * D % M64 ≤ M64 := Nat.le_of_lt (Nat.mod_lt _ (by decide))
  have g15 : Q0 * D % M64 ≤ M64 := Nat.le_of_lt (Nat.mod_lt _ (by decide))
  refine Does.of (nt := 135) Tryz.func158 rfl rfl rfl (by simp) ?_
  simp only [argTm, PV.ext, Ce.ext]
  refine Do.seqk fun _ k1_ => ?_
  refine Do.region [0,1,2] true ?_
  simp [go_sem, hy0, hy1, hi0, g1, g2, g3, g4, g5, g6, g7, g8, g9, f1, f2, f3, f4, f5, f6, f7, hU]
  apply k1_; clear k1_
  refine Do.seqk fun _ k2_ => ?_
  refine Do.seqk fun _ k3_ => ?_
  refine Do.region [0,1,2,20] true ?_
  simp [go_sem, hy0, hy1, hi0, g1, g2, g3, g4, g5, g6, g7, g8, g9, f1, f2, f3, f4, f5, f6, f7, hU]
  apply k3_; clear k3_
  refine Do.cond [0,1,2] rfl (fun h1 => ?_) (fun h1 => ?_) <;> simp [go_sem, hy0, hy1, hi0, g1, g2, g3, g4, g5, g6, g7, g8, g9, f1, f2, f3, f4, f5, f6, f7, hU] at h1 ⊢
  refine Do.skip ?_
  simp [go_sem]
  apply k2_; clear k2_
  refine Do.seqk fun _ k4_ => ?_
  refine Do.seqk fun _ k5_ => ?_
  refine Do.region [0,1,2,24] true ?_
  simp [go_sem, hy0, hy1, hi0, g1, g2, g3, g4, g5, g6, g7, g8, g9, f1, f2, f3, f4, f5, f6, f7, hU]
  apply k5_; clear k5_
  refine Do.cond [0,1,2] rfl (fun h2 => ?_) (fun h2 => ?_) <;> simp [go_sem, hy0, hy1, hi0, g1, g2, g3, g4, g5, g6, g7, g8, g9, f1, f2, f3, f4, f5, f6, f7, hU] at h2 ⊢
  refine Do.skip ?_
  simp [go_sem]
  apply k4_; clear k4_
  refine Do.seqk fun _ k6_ => ?_
  refine Do.seqk fun _ k7_ => ?_
  refine Do.region [0,1,2,27] true ?_
  simp [go_sem, hy0, hy1, hi0, g1, g2, g3, g4, g5, g6, g7, g8, g9, f1, f2, f3, f4, f5, f6, f7, hU]
  apply k7_; clear k7_
  refine Do.cond [0,1,2] rfl (fun h3 => ?_) (fun h3 => ?_) <;> simp [go_sem, hy0, hy1, hi0, g1, g2, g3, g4, g5, g6, g7, g8, g9, f1, f2, f3, f4, f5, f6, f7, hU] at h3 ⊢
  refine Do.skip ?_
  simp [go_sem]
  apply k6_; clear k6_
  refine Do.seqk fun _ k8_ => ?_
  refine Do.region [0,1,2,8] true ?_
  simp [go_sem, hy0, hy1, hi0, g1, g2, g3, g4, g5, g6, g7, g8, g9, f1, f2, f3, f4, f5, f6, f7, hU]
  refine DoL.call true 702 rfl rfl rfl rfl (by first | exact trivial | omega | (simp; done) | (simp; omega)) (hL) rfl (by first | exact .inl rfl | exact .inr rfl) rfl ?_
  simp [go_sem, hy0, hy1, hi0, g1, g2, g3, g4, g5, g6, g7, g8, g9, f1, f2, f3, f4, f5, f6, f7, hU]
  repeat (refine And.intro (by first | omega | (intros; omega) | grind) ?_)
  apply k8_; clear k8_
  refine Do.seqk fun _ k9_ => ?_
  refine Do.region [0,1,2,8] true ?_
  simp [go_sem, hy0, hy1, hi0, g1, g2, g3, g4, g5, g6, g7, g8, g9, f1, f2, f3, f4, f5, f6, f7, hU]
  repeat (refine And.intro (by first | omega | (intros; omega) | grind) ?_)
  apply k9_; clear k9_
  refine Do.seqk fun _ k10_ => ?_
  refine Do.region [0,1,2,8,9] true ?_
  simp [go_sem, hy0, hy1, hi0, g1, g2, g3, g4, g5, g6, g7, g8, g9, f1, f2, f3, f4, f5, f6, f7, hU]
  repeat (refine And.intro (by first | omega | (intros; omega) | grind) ?_)
  apply k10_; clear k10_
  refine Do.seqk fun _ k11_ => ?_
  refine Do.region [0,1,2,8,9,10] true ?_
  simp [go_sem, hy0, hy1, hi0, g1, g2, g3, g4, g5, g6, g7, g8, g9, f1, f2, f3, f4, f5, f6, f7, hU]
  apply k11_; clear k11_
  refine Do.seqk fun _ k12_ => ?_
  refine Do.region [1,2,8,9,10,11] true ?_
  simp [go_sem, hy0, hy1, hi0, g1, g2, g3, g4, g5, g6, g7, g8, g9, f1, f2, f3, f4, f5, f6, f7, hU]
  repeat (refine And.intro (by first | omega | (intros; omega) | grind) ?_)
  apply k12_; clear k12_
  refine Do.seqk fun _ k13_ => ?_
  refine Do.region [2,8,9,10,11,12] true ?_
  simp [go_sem, hy0, hy1, hi0, g1, g2, g3, g4, g5, g6, g7, g8, g9, f1, f2, f3, f4, f5, f6, f7, hU]
  repeat (refine And.intro (by first | omega | (intros; omega) | grind) ?_)
  apply k13_; clear k13_
  refine Do.seqk fun _ k14_ => ?_
  refine Do.region [2,8,9,10,11,12,13] true ?_
  simp [go_sem, hy0, hy1, hi0, g1, g2, g3, g4, g5, g6, g7, g8, g9, f1, f2, f3, f4, f5, f6, f7, hU]
  repeat (refine And.intro (by first | omega | (intros; omega) | grind) ?_)
  apply k14_; clear k14_
  refine Do.seqk fun _ k15_ => ?_
  refine Do.region [2,8,9,10,11,13,14] true ?_
  simp [go_sem, hy0, hy1, hi0, g1, g2, g3, g4, g5, g6, g7, g8, g9, f1, f2, f3, f4, f5, f6, f7, hU]
  apply k15_; clear k15_
  refine Do.seqk fun _ k16_ => ?_
  refine Do.region [2,8,9,10,11,13,14,15] true ?_
  simp [go_sem, hy0, hy1, hi0, g1, g2, g3, g4, g5, g6, g7, g8, g9, f1, f2, f3, f4, f5, f6, f7, hU]
  repeat (refine And.intro (by first | omega | (intros; omega) | grind) ?_)
  apply k16_; clear k16_
  refine Do.seqk fun _ k17_ => ?_
  refine Do.region [2,8,9,10,11,13,14,15,16] true ?_
  simp [go_sem, hy0, hy1, hi0, g1, g2, g3, g4, g5, g6, g7, g8, g9, f1, f2, f3, f4, f5, f6, f7, hU]
  repeat (refine And.intro (by first | omega | (intros; omega) | grind) ?_)
  apply k17_; clear k17_
  refine Do.seqk fun _ k18_ => ?_
  refine Do.block ?_
  refine Do.loopF [2,8,9,10,11,13,14,15,16] (fun (t : Nat × Nat) => [(15, .v (.c (.n t.1))), (16, .v (.c (.n t.2)))]) (fun (t : Nat × Nat) => []) (fun (t : Nat × Nat) => HalfI A c1 v1 v0 t.1 t.2 ∧ t.2 < 4294967296) (fun (t : Nat × Nat) => t.1) ((A / v1, A - A / v1 * v1)) (fun _ => by first | (simp [go_sem, mixS]; done) | (simp [go_sem, mixS]; rfl)) (St.le_of (by first | rfl | simp [keep]) (by first | rfl | simp [keep])) (⟨st1, st1r⟩) ?_
  rintro ⟨qa, ra⟩ ⟨hIa, hra⟩
  simp only at hIa hra
  refine Do.seqk fun _ k19_ => ?_
  refine Do.seqk fun _ k20_ => ?_
  refine Do.region [2,8,9,10,11,13,14,15,16,78] false ?_
  simp [go_sem, hy0, hy1, hi0, g1, g2, g3, g4, g5, g6, g7, g8, g9, f1, f2, f3, f4, f5, f6, f7, hU]
  repeat (refine And.intro (by first | omega | (intros; omega) | grind) ?_)
  apply k20_; clear k20_
  refine Do.cond [2,8,9,10,11,13,14,15,16] rfl (fun ga => ?_) (fun ga => ?_) <;> simp [go_sem, hy0, hy1, hi0, g1, g2, g3, g4, g5, g6, g7, g8, g9, f1, f2, f3, f4, f5, f6, f7, hU] at ga ⊢
  · obtain ⟨da, ia⟩ := hIa.dec (hD ▸ hA) hc1 (cond_yes hra hv0 hc1 ga)
    have la := hIa.le
    have ma : ra + v1 < M64 := by unfold M64; omega
    have na : qa < M64 := by unfold M64; omega
    refine Do.skip ?_
    simp [go_sem]
    apply k19_; clear k19_
    refine Do.block ?_
    refine Do.seqk fun _ k21_ => ?_
    refine Do.region [2,8,9,10,11,13,14,15,16] true ?_
    simp [go_sem, da, ma, na]
    repeat (refine And.intro (by first | omega | (intros; omega) | grind) ?_)
    apply k21_; clear k21_
    refine Do.seqk fun _ k22_ => ?_
    refine Do.region [2,8,9,10,11,13,14,15,16] true ?_
    simp [go_sem, da, ma, na]
    repeat (refine And.intro (by first | omega | (intros; omega) | grind) ?_)
    apply k22_; clear k22_
    refine Do.seqk fun _ k23_ => ?_
    refine Do.region [2,8,9,10,11,13,14,15,16,85] true ?_
    simp [go_sem, da, ma, na]
    apply k23_; clear k23_
    refine Do.cond [2,8,9,10,11,13,14,15,16] rfl (fun ba => ?_) (fun ba => ?_) <;> simp [go_sem, da, ma, na] at ba ⊢
    · have ea : qa - 1 = Q := by rw [ia.brk g6 hv0 (by omega) ba, ← hD]; exact hQ
      skip
      refine Do.exit ?_
      simp [go_sem]
      apply k18_; clear k18_
      refine Do.seqk fun _ k24_ => ?_
      refine Do.region [2,8,9,10,14,15,17] false ?_
      simp [go_sem, ea, h21, h28, h27, g5, g6, g10, g11, g12, g13, g14, g15]
      repeat (refine And.intro (by first | omega | (intros; omega) | grind) ?_)
      apply k24_; clear k24_
      refine Do.seqk fun _ k25_ => ?_
      refine Do.region [2,8,9,10,14,15,17,18] true ?_
      simp [go_sem, ea, h21, h28, h27, g5, g6, g10, g11, g12, g13, g14, g15]
      repeat (refine And.intro (by first | omega | (intros; omega) | grind) ?_)
      apply k25_; clear k25_
      refine Do.seqk fun _ k26_ => ?_
      refine Do.region [2,8,9,10,14,15,16,17,18] true ?_
      simp [go_sem, ea, h21, h28, h27, g5, g6, g10, g11, g12, g13, g14, g15]
      repeat (refine And.intro (by first | omega | (intros; omega) | grind) ?_)
      apply k26_; clear k26_
      refine Do.seqk fun _ k27_ => ?_
      refine Do.block ?_
      refine Do.loopF [2,8,9,10,14,15,16,17,18] (fun (w : Nat × Nat) => [(16, .v (.c (.n w.2))), (18, .v (.c (.n w.1)))]) (fun (w : Nat × Nat) => []) (fun (w : Nat × Nat) => HalfI R c0 v1 v0 w.1 w.2 ∧ w.2 < 4294967296) (fun (w : Nat × Nat) => w.1) ((R / v1, R - R / v1 * v1)) (fun _ => by first | (simp [go_sem, mixS]; done) | (simp [go_sem, mixS]; rfl)) (St.le_of (by first | rfl | simp [keep]) (by first | rfl | simp [keep])) (⟨st2, st2r⟩) ?_
      rintro ⟨qb, rb⟩ ⟨hIb, hrb⟩
      simp only at hIb hrb
      refine Do.seqk fun _ k28_ => ?_
      refine Do.seqk fun _ k29_ => ?_
      refine Do.region [2,8,9,10,14,15,16,17,18,113] false ?_
      simp [go_sem, ea, h21, h28, h27, g5, g6, g10, g11, g12, g13, g14, g15]
      repeat (refine And.intro (by first | omega | (intros; omega) | grind) ?_)
      apply k29_; clear k29_
      refine Do.cond [2,8,9,10,14,15,16,17,18] rfl (fun gb => ?_) (fun gb => ?_) <;> simp [go_sem, ea, h21, h28, h27, g5, g6, g10, g11, g12, g13, g14, g15] at gb ⊢
      · obtain ⟨db, ib⟩ := hIb.dec (hD ▸ hR) hc0 (cond_yes hrb hv0 hc0 gb)
        have lb := hIb.le
        have mb : rb + v1 < M64 := by unfold M64; omega
        have nb : qb < M64 := by unfold M64; omega
        refine Do.skip ?_
        simp [go_sem]
        apply k28_; clear k28_
        refine Do.block ?_
        refine Do.seqk fun _ k30_ => ?_
        refine Do.region [2,8,9,10,14,15,16,17,18] true ?_
        simp [go_sem, db, mb, nb]
        repeat (refine And.intro (by first | omega | (intros; omega) | grind) ?_)
        apply k30_; clear k30_
        refine Do.seqk fun _ k31_ => ?_
        refine Do.region [2,8,9,10,14,15,16,17,18] true ?_
        simp [go_sem, db, mb, nb]
        repeat (refine And.intro (by first | omega | (intros; omega) | grind) ?_)
        apply k31_; clear k31_
        refine Do.seqk fun _ k32_ => ?_
        refine Do.region [2,8,9,10,14,15,16,17,18,120] true ?_
        simp [go_sem, db, mb, nb]
        apply k32_; clear k32_
        refine Do.cond [2,8,9,10,14,15,16,17,18] rfl (fun bb => ?_) (fun bb => ?_) <;> simp [go_sem, db, mb, nb] at bb ⊢
        · have eb : qb - 1 = Q0 := by rw [ib.brk g6 hv0 (by omega) bb, ← hD]; exact hQ0
          refine Do.exit ?_
          simp [go_sem]
          apply k27_; clear k27_
          refine Do.seqk fun _ k33_ => ?_
          refine Do.region [6,7] false ?_
          simp [go_sem, eb, h21, h28, h27, g5, g6, g10, g11, g12, g13, g14, g15]
          repeat (refine And.intro (by first | omega | (intros; omega) | grind) ?_)
          apply k33_; clear k33_
          refine Do.ret ?_
          simp [endQ, rets, ret1, go_sem, eb, h21, h28, h27, g5, g6, g10, g11, g12, g13, g14, g15]
          repeat (refine And.intro (by first | omega | (intros; omega) | grind) ?_)
          exact TLe.refl _
        · refine Do.skip ?_
          simp [go_sem]
          refine ⟨(qb - 1, rb + v1), St.le_of (by simp [keep]) rfl, ⟨ib, by omega⟩, by simp; omega⟩
      · have eb : qb = Q0 := by rw [hIb.fin g6 (cond_no hrb hv0 hc0 gb), ← hD]; exact hQ0
        refine Do.exit ?_
        simp [go_sem]
        apply k27_; clear k27_
        refine Do.seqk fun _ k34_ => ?_
        refine Do.region [6,7] false ?_
        simp [go_sem, eb, h21, h28, h27, g5, g6, g10, g11, g12, g13, g14, g15]
        repeat (refine And.intro (by first | omega | (intros; omega) | grind) ?_)
        apply k34_; clear k34_
        refine Do.ret ?_
        simp [endQ, rets, ret1, go_sem, eb, h21, h28, h27, g5, g6, g10, g11, g12, g13, g14, g15]
        repeat (refine And.intro (by first | omega | (intros; omega) | grind) ?_)
        exact TLe.refl _
    · refine Do.skip ?_
      simp [go_sem]
      refine ⟨(qa - 1, ra + v1), St.le_of (by simp [keep]) rfl, ⟨ia, by omega⟩, by simp; omega⟩
  · have ea : qa = Q := by rw [hIa.fin g6 (cond_no hra hv0 hc1 ga), ← hD]; exact hQ
    skip
    refine Do.exit ?_
    simp [go_sem]
    apply k18_; clear k18_
    refine Do.seqk fun _ k35_ => ?_
    refine Do.region [2,8,9,10,14,15,17] false ?_
    simp [go_sem, ea, h21, h28, h27, g5, g6, g10, g11, g12, g13, g14, g15]
    repeat (refine And.intro (by first | omega | (intros; omega) | grind) ?_)
    apply k35_; clear k35_
    refine Do.seqk fun _ k36_ => ?_
    refine Do.region [2,8,9,10,14,15,17,18] true ?_
    simp [go_sem, ea, h21, h28, h27, g5, g6, g10, g11, g12, g13, g14, g15]
    repeat (refine And.intro (by first | omega | (intros; omega) | grind) ?_)
    apply k36_; clear k36_
    refine Do.seqk fun _ k37_ => ?_
    refine Do.region [2,8,9,10,14,15,16,17,18] true ?_
    simp [go_sem, ea, h21, h28, h27, g5, g6, g10, g11, g12, g13, g14, g15]
    repeat (refine And.intro (by first | omega | (intros; omega) | grind) ?_)
    apply k37_; clear k37_
    refine Do.seqk fun _ k38_ => ?_
    refine Do.block ?_
    refine Do.loopF [2,8,9,10,14,15,16,17,18] (fun (w : Nat × Nat) => [(16, .v (.c (.n w.2))), (18, .v (.c (.n w.1)))]) (fun (w : Nat × Nat) => []) (fun (w : Nat × Nat) => HalfI R c0 v1 v0 w.1 w.2 ∧ w.2 < 4294967296) (fun (w : Nat × Nat) => w.1) ((R / v1, R - R / v1 * v1)) (fun _ => by first | (simp [go_sem, mixS]; done) | (simp [go_sem, mixS]; rfl)) (St.le_of (by first | rfl | simp [keep]) (by first | rfl | simp [keep])) (⟨st2, st2r⟩) ?_
    rintro ⟨qb, rb⟩ ⟨hIb, hrb⟩
    simp only at hIb hrb
    refine Do.seqk fun _ k39_ => ?_
    refine Do.seqk fun _ k40_ => ?_
    refine Do.region [2,8,9,10,14,15,16,17,18,113] false ?_
    simp [go_sem, ea, h21, h28, h27, g5, g6, g10, g11, g12, g13, g14, g15]
    repeat (refine And.intro (by first | omega | (intros; omega) | grind) ?_)
    apply k40_; clear k40_
    refine Do.cond [2,8,9,10,14,15,16,17,18] rfl (fun gb => ?_) (fun gb => ?_) <;> simp [go_sem, ea, h21, h28, h27, g5, g6, g10, g11, g12, g13, g14, g15] at gb ⊢
    · obtain ⟨db, ib⟩ := hIb.dec (hD ▸ hR) hc0 (cond_yes hrb hv0 hc0 gb)
      have lb := hIb.le
      have mb : rb + v1 < M64 := by unfold M64; omega
      have nb : qb < M64 := by unfold M64; omega
      refine Do.skip ?_
      simp [go_sem]
      apply k39_; clear k39_
      refine Do.block ?_
      refine Do.seqk fun _ k41_ => ?_
      refine Do.region [2,8,9,10,14,15,16,17,18] true ?_
      simp [go_sem, db, mb, nb]
      repeat (refine And.intro (by first | omega | (intros; omega) | grind) ?_)
      apply k41_; clear k41_
      refine Do.seqk fun _ k42_ => ?_
      refine Do.region [2,8,9,10,14,15,16,17,18] true ?_
      simp [go_sem, db, mb, nb]
      repeat (refine And.intro (by first | omega | (intros; omega) | grind) ?_)
      apply k42_; clear k42_
      refine Do.seqk fun _ k43_ => ?_
      refine Do.region [2,8,9,10,14,15,16,17,18,120] true ?_
      simp [go_sem, db, mb, nb]
      apply k43_; clear k43_
      refine Do.cond [2,8,9,10,14,15,16,17,18] rfl (fun bb => ?_) (fun bb => ?_) <;> simp [go_sem, db, mb, nb] at bb ⊢
      · have eb : qb - 1 = Q0 := by rw [ib.brk g6 hv0 (by omega) bb, ← hD]; exact hQ0
        refine Do.exit ?_
        simp [go_sem]
        apply k38_; clear k38_
        refine Do.seqk fun _ k44_ => ?_
        refine Do.region [6,7] false ?_
        simp [go_sem, eb, h21, h28, h27, g5, g6, g10, g11, g12, g13, g14, g15]
        repeat (refine And.intro (by first | omega | (intros; omega) | grind) ?_)
        apply k44_; clear k44_
        refine Do.ret ?_
        simp [endQ, rets, ret1, go_sem, eb, h21, h28, h27, g5, g6, g10, g11, g12, g13, g14, g15]
        repeat (refine And.intro (by first | omega | (intros; omega) | grind) ?_)
        exact TLe.refl _
      · refine Do.skip ?_
        simp [go_sem]
        refine ⟨(qb - 1, rb + v1), St.le_of (by simp [keep]) rfl, ⟨ib, by omega⟩, by simp; omega⟩
    · have eb : qb = Q0 := by rw [hIb.fin g6 (cond_no hrb hv0 hc0 gb), ← hD]; exact hQ0
      refine Do.exit ?_
      simp [go_sem]
      apply k38_; clear k38_
      refine Do.seqk fun _ k45_ => ?_
      refine Do.region [6,7] false ?_
      simp [go_sem, eb, h21, h28, h27, g5, g6, g10, g11, g12, g13, g14, g15]
      repeat (refine And.intro (by first | omega | (intros; omega) | grind) ?_)
      apply k45_; clear k45_
      refine Do.ret ?_
      simp [endQ, rets, ret1, go_sem, eb, h21, h28, h27, g5, g6, g10, g11, g12, g13, g14, g15]
      repeat (refine And.intro (by first | omega | (intros; omega) | grind) ?_)
      exact TLe.refl _
theorem Div64_does {hi lo y : Nat} (hl : lo < 18446744073709551616) (hy : y < 18446744073709551616) (hh : hi < y) : Does Tryz.prog G 158 [.c (.n hi), .c (.n lo), .c (.n y)] (.t [.c (.n ((hi * 18446744073709551616 + lo) / y)), .c (.n ((hi * 18446744073709551616 + lo) % y))]) := by
  by_cases h : 0 < hi
  · exact Div64_big h hl hy hh
  · obtain rfl : hi = 0 := by omega
    rw [Nat.zero_mul, Nat.zero_add]
    exact Div64_low hl (by omega)
end Go.Proofs.YtbhokdhkfodpfaaGreatDoor
/- Functions that write words into a part of a row of their caller's. No condition. -/
namespace Go.Proofs.YtbhokdhkfodpfaaGreatDoor
set_option linter.unusedVariables false
set_option linter.unusedSimpArgs false
/-- Words that lie in a block. -/
def Win (W : World) (b : Nat) (l : List Nat) : Prop := ∃ (vs : Array Value) (e : TypeId), W.heap[b]? = some (.cells vs e (0, 0)) ∧ ∀ (i x : Nat), l[i]? = some x → vs[i]? = some (Value.int .u64 (x : Nat))
/-- Two worlds that differ in a block's cells alone. -/
structure Ex (b : Nat) (W W' : World) : Prop where
  os : W'.os = W.os
  tape : W'.tape = W.tape
  output : W'.output = W.output
  size : W'.heap.size = W.heap.size
  block : ∀ k, k ≠ b → W'.heap[k]? = W.heap[k]?
  shape : W'.shape? b = W.shape? b
theorem Ex.refl (b : Nat) (W : World) : Ex b W W := ⟨rfl, rfl, rfl, rfl, fun _ _ => rfl, rfl⟩
theorem Ex.trans {b : Nat} {W1 W2 W3 : World} (h : Ex b W1 W2) (k : Ex b W2 W3) : Ex b W1 W3 :=
  ⟨k.os.trans h.os, k.tape.trans h.tape, k.output.trans h.output, k.size.trans h.size, fun c hc => (k.block c hc).trans (h.block c hc), k.shape.trans h.shape⟩
theorem Ex.setRow {b : Nat} {W : World} {old vs : Array Value} {e : TypeId} (hh : W.heap[b]? = some (.cells old e (0, 0))) (hs : vs.size = old.size) : Ex b W (W.setRow b vs) :=
  ⟨rfl, rfl, rfl, by simp, fun k hk => setRow_other W b k vs hk, by simp [World.shape?, setRow_heap W b old vs e (0, 0) hh, hh, hs]⟩
def Cx.at (cx : Cx) (W0 : World) : Cx := ⟨cx.B, W0, cx.okIn, cx.bo, cx.nt⟩
/-- A block of somebody else's. -/
structure Fr (G : Gl) (cx : Cx) (b : Nat) : Prop where
  bo : ∀ k, ¬ cx.bo k
  lt : b < cx.B
  no : ¬ cx.okIn b
  gl : ∀ (k off : Nat) (x : Ce), (G k)[off]? = some x → k ≠ b
/-- A part of the block, as a slice. -/
def winS (b off n : Nat) : Sx := ⟨fun _ _ v => ∃ cap, v = .slice (some ⟨b, off, none⟩) n cap, fun _ _ _ h => by obtain ⟨_, h⟩ := h; subst h; rfl, fun _ _ _ _ _ _ _ h => h⟩
/-- The address of one of its cells. -/
def ptrS (b c : Nat) : Sx := ⟨fun _ _ v => v = .pointer (some ⟨b, c, none⟩), fun _ _ _ h => by subst h; rfl, fun _ _ _ _ _ _ _ h => h⟩
/-- What a piece of code does that writes into the block, too. -/
def DoX (P : Program) (G : Gl) (nt b : Nat) (c : Code) (st : St) (l : List Nat) (Q : Exit → St → List Nat → Prop) : Prop :=
  ∀ (cx : Cx) (a : Act) (W : World), cx.nt = nt → Fr G cx b → Rel G cx st a W → Win W b l → c.wp P (fun e a' W' => ∃ W0 st' l', Ex b cx.W0 W0 ∧ Q e st' l' ∧ Rel G (cx.at W0) st' a' W' ∧ Win W' b l') a W
def DoLX (P : Program) (G : Gl) (nt b : Nat) (ops : List Oper) (k : List Oper) (st : St) (l : List Nat) (Q : St → List Nat → Prop) : Prop :=
  ∀ (cx : Cx) (a : Act) (W : World), cx.nt = nt → Fr G cx b → Rel G cx st a W → Win W b l → ∀ Q' : Exit → Act → World → Prop, (∀ W0 st' l' a' W', Ex b cx.W0 W0 → Q st' l' → Rel G (cx.at W0) st' a' W' → Win W' b l' → Q' .normal a' W') → wpList P ops.toArray Q' k a W
def runsX (P : Program) (G : Gl) (nt b : Nat) (md : Bool) (ops : List Oper) (Q : St → List Nat → Prop) : Nat → List Oper → St → List Nat → Prop
  | _, [], st, l => Q st l
  | lab, o :: k, st, l => match stepO P G nt md ops lab st o with
    | some (p, st') => p ∧ runsX P G nt b md ops Q (lab + 1) k st' l
    | none => DoLX P G nt b ops (o :: k) st l Q
def thenX (K : St → List Nat → Prop) (Q : Exit → St → List Nat → Prop) : Exit → St → List Nat → Prop
  | .normal, s, l => K s l
  | e, s, l => Q e s l
def blockX (id : Nat) (Q : Exit → St → List Nat → Prop) : Exit → St → List Nat → Prop
  | .exit i, s, l => if i = id then Q .normal s l else Q (.exit i) s l
  | e, s, l => Q e s l
section
variable {P : Program} {G : Gl} {nt b : Nat} {st : St} {cx : Cx} {a a' : Act} {W W' : World} {m m' : Nat → Option Nat} {l : List Nat} {ops k : List Oper} {Q : St → List Nat → Prop} {QE : Exit → St → List Nat → Prop}
theorem win_keep {st' : St} (hf : Fr G cx b) (hr : Rel G cx st a W) (hr' : Rel G cx st' a' W') (h : Win W b l) : Win W' b l := by
  obtain ⟨_, hr⟩ := hr
  obtain ⟨_, hr'⟩ := hr'
  obtain ⟨vs, e, h1, h2⟩ := h
  exact ⟨vs, e, by rw [hr'.keep b hf.lt (hf.bo b), ← hr.keep b hf.lt (hf.bo b)]; exact h1, h2⟩
theorem Fr.at (hf : Fr G cx b) (W0 : World) : Fr G (cx.at W0) b := ⟨hf.bo, hf.lt, hf.no, hf.gl⟩
theorem RelM.swap (h : RelM G cx m st a W) (hf : Fr G cx b) {old vs : Array Value} {e : TypeId} (hh : W.heap[b]? = some (.cells old e (0, 0))) (hs : vs.size = old.size) : RelM G (cx.at (cx.W0.setRow b vs)) m st a (W.setRow b vs) := by
  have hh0 : cx.W0.heap[b]? = some (.cells old e (0, 0)) := by rw [← h.keep b hf.lt (hf.bo b)]; exact hh
  have hown : ∀ j o c, lk j st.ob = some o → m j = some c → c ≠ b := fun j o c hj hc e => by
    rcases (h.own j o c hj hc).2 with g | g
    · have := hf.lt; omega
    · exact hf.bo c g.1
  have hlab : ∀ c, W.heap[c]? ≠ none → c ≠ b → (W.setRow b vs).shape? c = W.shape? c := fun c _ hc => shape_of_heap (setRow_other W b c vs hc)
  have he : EnLe (fun _ => True) (en cx m st.ob W) (en (cx.at (cx.W0.setRow b vs)) m st.ob (W.setRow b vs)) := by
    refine ⟨fun c ⟨g1, g2, g3⟩ => ⟨g1, by simpa using g2, g3⟩, fun c ⟨g1, g2, g3⟩ => setRow_other W b c vs (fun e => ?_), Nat.le_refl _, fun j _ o ho => ⟨o, ho, rfl, rfl, Nat.le_refl _, fun _ => ⟨rfl, fun c hc => shape_of_heap (setRow_other W b c vs (hown j o c ho hc))⟩⟩⟩
    subst e
    rcases g1 with g1 | g1
    · exact hf.no g1
    · have := hf.lt; omega
  exact {
    size := by simpa [Cx.at] using h.size
    os := h.os
    tape := h.tape
    output := h.output
    keep := fun c hc hn => by
      by_cases hcb : c = b
      · subst hcb; rw [setRow_heap W c old vs e (0, 0) hh]; exact (setRow_heap cx.W0 c old vs e (0, 0) hh0).symm
      · rw [setRow_other W b c vs hcb]; exact (h.keep c hc hn).trans (setRow_other cx.W0 b c vs hcb).symm
    df := h.df
    nt := h.nt
    tm := fun t x hx => let ⟨v, hv, hr⟩ := h.tm t x hx; ⟨v, hv, RT.mono he (fun _ _ => trivial) hr⟩
    ob := fun j o hj => RO.mono he (fun _ _ => trivial) rfl (fun c hc => setRow_other W b c vs (hown j o c hj hc)) (h.ob j o hj)
    inj := h.inj
    own := fun j o c hj hc => by obtain ⟨g1, g2⟩ := h.own j o c hj hc; exact ⟨by simpa using g1, g2⟩
    gl := fun c off x hx => by
      obtain ⟨g1, g2, g3, v, g4, g5⟩ := h.gl c off x hx
      exact ⟨g1, g2, g3, v, (cell_setRow_other cx.W0 b vs ⟨c, off, none⟩ (hf.gl c off x hx)).trans g4, g5⟩
    okIn := h.okIn
    pin := fun o ho => by obtain ⟨_, c, _, g, _⟩ := h.pin o ho; exact (hf.bo c g).elim }
theorem DoX.lift {c : Code} (h : Do P G nt c st (fun e s => QE e s l)) : DoX P G nt b c st l QE := fun cx a W hn hf hr hw =>
  Code.wp_mono (fun e a' W' ⟨s, h1, h2⟩ => ⟨cx.W0, s, l, Ex.refl _ _, h1, h2, win_keep hf hr h2 hw⟩) (h cx a W hn hr)
theorem DoX.seqL {x y : Code} (h : Do P G nt x st (thenQ (fun s => DoX P G nt b y s l QE) (fun e s => QE e s l))) : DoX P G nt b (.seq x y) st l QE :=
  fun cx a W hn hf hr hw => wp_seq (Code.wp_mono (fun e a' W' ⟨s, h1, h2⟩ => by
    cases e with
    | normal => exact h1 cx a' W' hn hf h2 (win_keep hf hr h2 hw)
    | _ => exact ⟨cx.W0, s, l, Ex.refl _ _, h1, h2, win_keep hf hr h2 hw⟩) (h cx a W hn hr))
theorem DoX.seq {x y : Code} (h : DoX P G nt b x st l (thenX (fun s l' => DoX P G nt b y s l' QE) QE)) : DoX P G nt b (.seq x y) st l QE :=
  fun cx a W hn hf hr hw => wp_seq (Code.wp_mono (fun e a' W' ⟨W0, s, l', h0, h1, h2, h3⟩ => by
    cases e with
    | normal =>
      refine Code.wp_mono (fun e a2 W2 ⟨W0', s', l2, g0, g1, g2, g3⟩ => ⟨W0', s', l2, h0.trans g0, g1, g2, g3⟩) (h1 (cx.at W0) a' W' hn (hf.at W0) h2 h3)
    | _ => exact ⟨W0, s, l', h0, h1, h2, h3⟩) (h cx a W hn hf hr hw))
theorem DoX.le {c : Code} {s t : St} (hl : s.le t) (h : DoX P G nt b c s l QE) : DoX P G nt b c t l QE :=
  fun cx a W hn hf hr hw => h cx a W hn hf (hr.le hl) hw
theorem DoX.cond {c : Operand} {x y : Code} {t : Bool} (ks : List Nat) (hc : opv st.tm c = some (.v (.c (.b t)))) (ht : t = true → DoX P G nt b x (st.only ks) l QE) (hfl : t = false → DoX P G nt b y (st.only ks) l QE) : DoX P G nt b (.cond c x y) st l QE := by
  intro cx a W hn hf hr hw
  have hr' := hr
  obtain ⟨m, hm⟩ := hr
  have hv : a.eval c = .bool t := hm.opv hc
  exact wp_cond_split hv (fun e => ht e cx a W hn hf (Rel.le hr' (St.only_le ks st)) hw) (fun e => hfl e cx a W hn hf (Rel.le hr' (St.only_le ks st)) hw)
theorem DoX.block {id : Nat} {c : Code} (h : DoX P G nt b c st l (blockX id QE)) : DoX P G nt b (.block id c) st l QE :=
  fun cx a W hn hf hr hw => wp_block (Code.wp_mono (fun e a' W' ⟨W0, s, l', h0, h1, h2, h3⟩ => by
    cases e with
    | exit i =>
      simp only [blockX] at h1
      simp only [Exit.inBlock]
      split
      · rename_i hi; rw [if_pos hi] at h1; exact ⟨W0, s, l', h0, h1, h2, h3⟩
      · rename_i hi; rw [if_neg hi] at h1; exact ⟨W0, s, l', h0, h1, h2, h3⟩
    | _ => exact ⟨W0, s, l', h0, h1, h2, h3⟩) (h cx a W hn hf hr hw))
theorem DoX.loop {α : Type} {c : Code} (S : α → St) (L : α → List Nat) (I : α → Prop) (μ : α → Nat) (x : α) (h0 : (S x).le st) (hl : l = L x) (hI : I x)
    (hround : ∀ x, I x → DoX P G nt b c (S x) (L x) (thenX (fun s l' => ∃ y, (S y).le s ∧ l' = L y ∧ I y ∧ μ y < μ x) QE)) : DoX P G nt b (.loop c) st l QE := by
  subst hl
  intro cx a W hn hf hr hw bb k cs
  have key : ∀ n x, μ x = n → I x → ∀ W0 a W, Ex b cx.W0 W0 → Rel G (cx.at W0) (S x) a W → Win W b (L x) → ∃ e a' w', (∃ W0 st' l', Ex b cx.W0 W0 ∧ QE e st' l' ∧ Rel G (cx.at W0) st' a' w' ∧ Win w' b l') ∧ Arrives P (lone (bb.at a (.code c :: .inLoop c :: k)) cs W) bb k cs e a' w' := by
    intro n
    induction n using Nat.strongRecOn with
    | _ n ih =>
      intro x hx hI W0 a W hE hr hw
      obtain ⟨e, a₁, w₁, ⟨W1, s, l', g0, hq, hs, hw1⟩, harr⟩ := hround x hI (cx.at W0) a W hn (hf.at W0) hr hw bb (.inLoop c :: k) cs
      have hE1 := hE.trans g0
      have hs : Rel G (cx.at W1) s a₁ w₁ := hs
      cases e with
      | normal =>
        obtain ⟨y, h1, rfl, h2, h3⟩ := hq
        obtain ⟨e₂, a₂, w₂, hq₂, harr₂⟩ := ih (μ y) (hx ▸ h3) y rfl h2 W1 a₁ w₁ hE1 (hs.le h1) hw1
        exact ⟨e₂, a₂, w₂, hq₂, .of_steps (Steps.trans harr (.one step_inLoop)) harr₂⟩
      | exit id => exact ⟨_, a₁, w₁, ⟨W1, s, l', hE1, hq, hs, hw1⟩, .pass (x := .inLoop c) rfl (fun _ _ => .inl (by simp)) harr⟩
      | goto l => exact ⟨_, a₁, w₁, ⟨W1, s, l', hE1, hq, hs, hw1⟩, .pass (x := .inLoop c) rfl (fun _ _ => .inl (by simp)) harr⟩
      | ret => exact ⟨_, a₁, w₁, ⟨W1, s, l', hE1, hq, hs, hw1⟩, .pass (x := .inLoop c) rfl (fun _ _ => .inl (by simp)) harr⟩
      | panic ch => exact ⟨_, a₁, w₁, ⟨W1, s, l', hE1, hq, hs, hw1⟩, .pass (x := .inLoop c) rfl (fun _ _ => .inl (by simp)) harr⟩
      | outgrown => exact ⟨_, a₁, w₁, ⟨W1, s, l', hE1, hq, hs, hw1⟩, .pass (x := .inLoop c) rfl (fun _ _ => .inl (by simp)) harr⟩
  obtain ⟨e, a', w', hq, harr⟩ := key _ x rfl hI cx.W0 a W (Ex.refl _ _) (hr.le h0) hw
  exact ⟨e, a', w', hq, .of_steps (.one step_loop) harr⟩
theorem DoX.region0 {id : Nat} {k : List Oper} (ks : List Nat) (h : DoLX P G nt b k k st l (fun s l' => QE .normal (s.only ks) l')) : DoX P G nt b (.region id k.toArray false) st l QE :=
  fun cx a W hn hf hr hw => wp_region_lit (h cx a W hn hf hr hw _ fun W0 s l' a' W' h0 h1 h2 h3 => ⟨W0, _, l', h0, h1, h2.le (St.only_le ks s), h3⟩)
theorem DoLX.nil (h : Q st l) : DoLX P G nt b ops [] st l Q := fun cx a W hn hf hr hw Q' hQ => wpList_nil (hQ cx.W0 st l a W (Ex.refl _ _) h hr hw)
theorem DoLX.step {md : Bool} {lab : Nat} {o : Oper} {p : Prop} {st' : St} (h : stepO P G nt md ops lab st o = some (p, st')) (hp : p) (next : DoLX P G nt b ops k st' l Q) : DoLX P G nt b ops (o :: k) st l Q :=
  fun cx a W hn hf hr hw Q' hQ => wpList_step fun K hK => by
    obtain ⟨m, hr'⟩ := id hr
    exact step1_core h hp hn hr' Q' K fun a' W' hs => hK _ _ (next cx _ _ hn hf hs (win_keep hf hr hs hw) Q' hQ)
theorem DoLX.run {md : Bool} : ∀ {k : List Oper} {lab : Nat} {st : St}, runsX P G nt b md ops Q lab k st l → DoLX P G nt b ops k st l Q
  | [], lab, st, h => DoLX.nil h
  | o :: k, lab, st, h => by
    simp only [runsX] at h
    split at h
    · rename_i p st' he
      exact DoLX.step he h.1 (DoLX.run h.2)
    · exact h
theorem DoX.seqk {x y : Code} (h : ∀ K : St → List Nat → Prop, (∀ s l', DoX P G nt b y s l' QE → K s l') → DoX P G nt b x st l (thenX K QE)) : DoX P G nt b (.seq x y) st l QE := DoX.seq (h _ fun _ _ h => h)
theorem DoX.seqLk {x y : Code} (h : ∀ K : St → Prop, (∀ s, DoX P G nt b y s l QE → K s) → Do P G nt x st (thenQ K (fun e s => QE e s l))) : DoX P G nt b (.seq x y) st l QE := DoX.seqL (h _ fun _ h => h)
theorem DoX.skip (h : QE .normal st l) : DoX P G nt b .skip st l QE := DoX.lift (Do.skip h)
theorem DoX.ret (h : QE .ret st l) : DoX P G nt b .ret st l QE := DoX.lift (Do.ret h)
theorem DoX.exit {id : Nat} (h : QE (.exit id) st l) : DoX P G nt b (.exit id) st l QE := DoX.lift (Do.exit h)
theorem DoX.region {id : Nat} {k : List Oper} (ks : List Nat) (md : Bool) (h : runsX P G nt b md k (fun s l' => QE .normal (s.only ks) l') (id * 100) k st l) : DoX P G nt b (.region id k.toArray false) st l QE := DoX.region0 ks (DoLX.run h)
theorem wp_mono2 {o : Oper} {a : Act} {w : World} {K K' : Act → World → Prop} {Q Q' : Exit → Act → World → Prop} (h : ∀ a w, K a w → K' a w) (hq : ∀ e a w, e ≠ .normal → Q e a w → Q' e a w) (hh : o.wp P a w K Q) : o.wp P a w K' Q' := by
  unfold Oper.wp at *
  generalize (execOp a.eval o).run P w = r at *
  cases r with
  | ok n w' =>
    cases n <;> simp only [Oper.upon] at hh ⊢ <;>
      first
        | exact h _ _ hh
        | exact Calls.mono hh (fun e w'' he => by
            cases e with
            | returned v => exact h _ _ he
            | panicked c => exact hq _ _ _ (by simp) he
            | outgrown => obtain ⟨a2, w2, h2⟩ := he; exact ⟨a2, w2, hq _ _ _ (by simp) h2⟩)
        | exact Rows.mono hh (fun _ _ he => h _ _ he)
        | exact hh
  | halt x w' => cases x <;> simp only [Oper.upon] at hh ⊢ <;> first | exact hq _ _ _ (by simp) hh | exact hh
theorem wpList_app {Q Q1 : Exit → Act → World → Prop} {o : Array Oper} {k2 : List Oper} (hL : ∀ e a w, e ≠ .normal → Q1 e a w → Q e a w) (hn : ∀ a w, Q1 .normal a w → wpList P o Q k2 a w) : ∀ {k1 : List Oper} {a : Act} {w : World}, wpList P o Q1 k1 a w → wpList P o Q (k1 ++ k2) a w
  | [], a, w, h => hn a w h
  | x :: k1, a, w, h => by
    rw [List.cons_append]
    unfold wpList at h ⊢
    split
    · rename_i hw
      rw [if_pos hw] at h
      rcases h with h | ⟨h1, a2, w2, h2⟩
      · exact .inl (wp_mono2 (fun a w hh => wpList_app hL hn hh) hL h)
      · exact .inr ⟨h1, a2, w2, hL _ _ _ (by simp) h2⟩
    · rename_i hw
      rw [if_neg hw] at h
      exact wpList_app hL hn h
/-- Operations that do not write there. -/
theorem DoLX.app {k1 k2 : List Oper} {Q1 : St → Prop} (h : DoL P G nt ops k1 st Q1) (next : ∀ s, Q1 s → DoLX P G nt b ops k2 s l Q) : DoLX P G nt b ops (k1 ++ k2) st l Q := by
  intro cx a W hn hf hr hw Q' hQ
  refine wpList_app (Q1 := fun e a' W' => e = .normal ∧ ∃ s, Q1 s ∧ Rel G cx s a' W') (fun e a w he hh => absurd hh.1 he) (fun a' W' ⟨_, s, h1, h2⟩ => next s h1 cx a' W' hn hf h2 (win_keep hf hr h2 hw) Q' hQ) (h cx a W hn hr _ fun s a' W' h1 h2 => ⟨rfl, s, h1, h2⟩)
theorem DoLX.ix {o : Oper} (md : Bool) (lab : Nat) {t e : TypeId} {b1 z1 : Nat} {c1 : List Ce} {te : TI} {x i : Operand} {off n d : Nat} {i0 : Int} (hg : o.guard = none) (hop : o.op = .indexAddr t x i) (hd : o.dst = some d) (hdn : d < nt)
    (ht : tiOf P t = some ⟨b1, z1, c1, .slice e⟩) (he : tiOf P e = some te) (hsz : te.size = 1) (hx : opv st.tm x = some (.v (.c (.x (winS b off n))))) (hi : opv st.tm i = some (.v (.c (.i .i64 i0)))) (hp : 0 ≤ i0 ∧ i0 < n)
    (next : runsX P G nt b md ops Q lab k ⟨put d (.v (.c (.x (ptrS b (off + i0.toNat))))) st.tm, st.ob⟩ l) : DoLX P G nt b ops (o :: k) st l Q := by
  replace next := DoLX.run next
  intro cx a W hn hf hr hw Q' hQ
  obtain ⟨m, hm⟩ := hr
  refine wpList_plain hg fun K hK => ?_
  unfold Oper.wp
  obtain ⟨cap, hxv⟩ : ∃ cap, a.eval x = .slice (some ⟨b, off, none⟩) n cap := hm.opv hx
  have hiv : a.eval i = .int .i64 i0 := hm.opv hi
  obtain ⟨ii, z, dd, g1, g2, g3, g4, g5, g6, g7, g8⟩ := tiOf_spec he
  have hrun : (execOp a.eval o).run P W = .ok (.value (.pointer (some ⟨b, off + i0.toNat, none⟩))) W := by
    have : execOp a.eval o = (do pure (.value (← Instr.indexAt t (a.eval x) (a.eval i)))) := by unfold execOp; simp [hop]
    rw [this, hxv, hiv]
    simp [Instr.indexAt, asIntOf, underlying, tiOf_slice ht, hp.1, hp.2, sizeOf, typeInfo, g1, g3, hsz, addr_add0]
  rw [hrun]
  refine hK _ _ ?_
  rw [hd]
  exact next cx _ _ hn hf ⟨m, hm.slot (d := d) (by omega) (x := .v (.c (.x (ptrS b (off + i0.toNat))))) rfl⟩ hw Q' hQ
theorem DoLX.ld {o : Oper} (md : Bool) (lab : Nat) {t : TypeId} {ti : TI} {x : Operand} {c d w : Nat} (hg : o.guard = none) (hop : o.op = .load t x) (hd : o.dst = some d) (hdn : d < nt) (ht : tiOf P t = some ti) (hpart : partOf ti [.n w] = some (.v (.c (.n w))))
    (hx : opv st.tm x = some (.v (.c (.x (ptrS b c))))) (hw0 : l[c]? = some w) (next : runsX P G nt b md ops Q lab k ⟨put d (.v (.c (.n w))) st.tm, st.ob⟩ l) : DoLX P G nt b ops (o :: k) st l Q := by
  replace next := DoLX.run next
  intro cx a W hn hf hr hw Q' hQ
  obtain ⟨m, hm⟩ := hr
  refine wpList_plain hg fun K hK => ?_
  unfold Oper.wp
  have hxv : a.eval x = .pointer (some ⟨b, c, none⟩) := hm.opv hx
  obtain ⟨vs, e, h1, h2⟩ := id hw
  obtain ⟨u, h7, h8⟩ := part_run (P := P) (W := W) (E := en cx m st.ob W) (ad := ⟨b, c, none⟩) (us := [.int .u64 (w : Nat)]) ht (by
    intro q u hq
    cases q with
    | zero => simp at hq; subst hq; rw [addr_add0]; simp only [World.cell?]; rw [show W.heap[b]? = _ from h1]; simpa using h2 c w hw0
    | succ q => simp at hq) (.cons (show RC _ (.n w) _ from rfl) .nil) hpart
  have hrun : (execOp a.eval o).run P W = .ok (.value u) W := by
    have : execOp a.eval o = (do pure (.value (← Instr.loadAt t (a.eval x)))) := by unfold execOp; simp [hop]
    rw [this, hxv]; simp [h7]
  rw [hrun]
  refine hK _ _ ?_
  rw [hd]
  exact next cx _ _ hn hf ⟨m, hm.slot (by omega) h8⟩ hw Q' hQ
theorem DoLX.sto {o : Oper} (md : Bool) (lab : Nat) {t : TypeId} {ti : TI} {x y : Operand} {c w : Nat} (hg : o.guard = none) (hop : o.op = .store t x y) (hd : o.dst = none) (ht : tiOf P t = some ti) (hsz : ti.size = 1)
    (hx : opv st.tm x = some (.v (.c (.x (ptrS b c))))) (hy : opv st.tm y = some (.v (.c (.n w)))) (hc : c < l.length) (next : runsX P G nt b md ops Q lab k st (l.set c w)) : DoLX P G nt b ops (o :: k) st l Q := by
  replace next := DoLX.run next
  intro cx a W hn hf hr hw Q' hQ
  obtain ⟨m, hm⟩ := hr
  refine wpList_plain hg fun K hK => ?_
  unfold Oper.wp
  have hxv : a.eval x = .pointer (some ⟨b, c, none⟩) := hm.opv hx
  have hyv : a.eval y = .int .u64 (w : Nat) := hm.opv hy
  obtain ⟨vs, e, h1, h2⟩ := id hw
  have hcs : c < vs.size := (Array.getElem?_eq_some_iff.1 (h2 c _ (getD_some (d := 0) hc))).1
  have hrun0 := run_storeAt (P := P) (W := W) (y := .int .u64 (w : Nat)) ht (off := c) h1 (by simp [Value.cells, hsz]) (by omega) (by simp [Value.cells, Value.oneCell'])
  rw [hsz] at hrun0
  generalize hvs : (vs.toList.take c ++ (Value.int .u64 (w : Nat)).cells.toList ++ vs.toList.drop (c + 1)).toArray = vs' at hrun0
  have hvl : vs'.size = vs.size := by rw [← hvs]; simp [Value.cells]; omega
  have hrun : (execOp a.eval o).run P W = .ok .skip (W.setRow b vs') := by
    have : execOp a.eval o = (do Instr.storeAt t (a.eval x) (a.eval y); pure .skip) := by unfold execOp; simp [hop]
    rw [this, hxv, hyv]; simp [hrun0]
  rw [hrun]
  refine hK _ _ ?_
  rw [hd]
  have hW : Win (W.setRow b vs') b (l.set c w) := by
    refine ⟨vs', e, setRow_heap W b vs vs' e (0, 0) h1, fun q x hq => ?_⟩
    have hg := @seg_get vs.toList [Value.int .u64 (w : Nat)] c q (by simp; omega)
    rw [← hvs, List.getElem?_toArray, show (Value.int .u64 (w : Nat)).cells.toList = [Value.int .u64 (w : Nat)] from rfl]
    simp only [List.length_singleton] at hg
    rw [hg]
    by_cases hqc : q = c
    · subst hqc
      rw [List.getElem?_set_self hc] at hq
      injection hq with hq; subst hq
      simp
    · rw [List.getElem?_set_ne (Ne.symm hqc)] at hq
      rw [if_neg (by omega)]
      simpa using h2 q x hq
  have hh0 : cx.W0.heap[b]? = some (.cells vs e (0, 0)) := by rw [← hm.keep b hf.lt (hf.bo b)]; exact h1
  have hx0 := Ex.setRow hh0 hvl
  exact next (cx.at (cx.W0.setRow b vs')) _ _ hn (hf.at _) ⟨m, hm.swap hf h1 hvl⟩ hW Q' fun W0 s l' a' W' q0 q1 q2 q3 => hQ W0 s l' a' W' (hx0.trans q0) q1 q2 q3
theorem DoLX.call {o : Oper} {f : FuncId} {x : Operand} {az : Array Operand} {ts : Array TypeId} {p : Prop} {args : List PV} {pur : Bool} {ret : TV} (md : Bool) (lab : Nat) (hg : o.guard = none) (hop : o.op = .call { callee := .value x, args := az, argTypes := ts })
    (hx : opv st.tm x = some (.v (.c (.f f)))) (ha : argsOf st az.toList = some (p, args, pur)) (hp : p) (hD : Does P G f args ret) (hl : ret.labs = []) (hf : pur = false ∨ ret.fr = true) (hd : dstOk nt o.dst = true)
    (next : runsX P G nt b md ops Q lab k ⟨setv o.dst (some ret) st.tm, st.ob⟩ l) : DoLX P G nt b ops (o :: k) st l Q :=
  DoLX.app (k1 := [o]) (Q1 := fun s => s = ⟨setv o.dst (some ret) st.tm, st.ob⟩) (DoL.call md lab hg hop hx ha hp hD hl hf hd (by simp [runs])) (fun s h => h ▸ DoLX.run next)
end
attribute [go_sem] thenX blockX runsX
/-- What a call does to the words that its first argument is a part of; its result is a bool. -/
def DoesX (P : Program) (G : Gl) (f : FuncId) (off n : Nat) (l : List Nat) (args : List PV) (r : Bool) (l' : List Nat) : Prop :=
  ∀ (W : World) (ok : Nat → Prop) (vals : List Value) (b cap : Nat), (∀ c, ok c → c < W.heap.size) → GlOk G W → (∀ (k off : Nat) (x : Ce), (G k)[off]? = some x → k ≠ b) → ¬ ok b → Win W b l → All2 (RP (enA W ok)) args vals →
    (callFunc f (.slice (some ⟨b, off, none⟩) n cap :: vals).toArray).run P W = .ok (.enter f (.slice (some ⟨b, off, none⟩) n cap :: vals).toArray) W ∧ Calls P f (.slice (some ⟨b, off, none⟩) n cap :: vals).toArray W (fun en W' => en = .returned (.bool r) ∧ BelowX b W W' ∧ W'.shape? b = W.shape? b ∧ Win W' b l')
def endX (rs : List ResultVar) (r : Bool) (l' : List Nat) (e : Exit) (s : St) (l2 : List Nat) : Prop := (e = .ret ∨ e = .normal) ∧ l2 = l' ∧ match rs with
  | [.tmp t] => lk t s.tm = some (.v (.c (.b r)))
  | _ => False
theorem DoesX.of {P : Program} {G : Gl} {nt : Nat} {f : FuncId} {fn : Func} {c : Code} {off n : Nat} {l l' : List Nat} {args : List PV} {r : Bool} (hf : P.funcs[f]? = some fn) (hname : (fn.name == "runtime.NumGoroutine") = false) (hb : fn.body = some c) (hnt : fn.ntmps = nt) (hal : args.length < nt)
    (h : ∀ b, DoX P G nt b c ⟨(0, .v (.c (.x (winS b off n)))) :: argTm 1 args, []⟩ l (endX fn.results.toList r l')) : DoesX P G f off n l args r l' := by
  intro W ok vals b cap hok hgl hgb hnb hw hargs
  have hlt : b < W.heap.size := by obtain ⟨vs, e, h1, _⟩ := hw; exact lt_of_heap h1
  refine ⟨?_, ?_⟩
  · have hn' : fn.name ≠ "runtime.NumGoroutine" := by simpa using hname
    simp [callFunc, hf, hn', hb]
  · refine calls_of_wp hf hb ?_
    have hargs' : All2 (RP (enA W ok)) (.c (.x (winS b off n)) :: args) (.slice (some ⟨b, off, none⟩) n cap :: vals) := .cons ⟨cap, rfl⟩ hargs
    have hR := start_rel (nt := nt) (n := fn.ntmps) hok hgl hargs' (by simp; omega) hnt
    refine Code.wp_mono (fun e a' W' ⟨W0, s, l2, hE, hq, ⟨m', hs⟩, hw'⟩ => ?_) (h b ⟨W.heap.size, W, ok, fun _ => False, nt⟩ _ W rfl ⟨fun _ h => h, hlt, hnb, hgb⟩ ⟨_, hR⟩ hw)
    obtain ⟨he, rfl, hret⟩ := hq
    split at hret
    case h_2 => exact hret.elim
    rename_i t hrs
    obtain ⟨v, hv, hrt⟩ := hs.tm t _ hret
    have hrt : v = .bool r := hrt
    subst hrt
    have hg : a'.tmps.getD t undef = .bool r := by simp [hv]
    have hres : (results fn a'.tmps).run P W' = .ok (.bool r) W' := by
      have hfun : results fn a'.tmps = (do let vs ← fn.results.mapM (resOf a'.tmps); pure (if h : vs.size = 1 then vs[0] else .tuple vs)) := by
        unfold results
        congr 1
      rw [hfun]
      have h1 : (resOf a'.tmps (.tmp t)).run P W' = .ok (.bool r) W' := by simp [resOf, hg]
      simp only [Sem.run_bind, Array.mapM_eq_mapM_toList, Sem.run_map, hrs, List.mapM_cons, List.mapM_nil, h1, Result.andThen_ok, Sem.run_pure]
      simp
    have hsz : W0.heap.size = W.heap.size := hE.size
    have hkeep : ∀ k, k < W.heap.size → W'.heap[k]? = W0.heap[k]? := fun k hk => hs.keep k hk (fun h => h)
    have hX : BelowX b W W' := ⟨hs.os.trans hE.os, hs.tape.trans hE.tape, hs.output.trans hE.output, hs.size, fun k hk hkb => (hkeep k hk).trans (hE.block k hkb)⟩
    have hsh : W'.shape? b = W.shape? b := (shape_of_heap (hkeep b hlt)).trans hE.shape
    rcases he with rfl | rfl
    · exact ⟨hs.df, _, hres, rfl, hX, hsh, hw'⟩
    · exact ⟨hs.df, _, hres, rfl, hX, hsh, hw'⟩
end Go.Proofs.YtbhokdhkfodpfaaGreatDoor
/- A part of a row of words of the call's own, given to a call that writes it. No condition. -/
namespace Go.Proofs.YtbhokdhkfodpfaaGreatDoor
set_option linter.unusedVariables false
set_option linter.unusedSimpArgs false
section
variable {P : Program} {G : Gl} {nt : Nat} {st : St} {cx : Cx} {a : Act} {W W' : World} {m : Nat → Option Nat} {ops l : List Oper} {Q : St → Prop}
theorem enX (h : RelM G cx m st a W) {j b : Nat} (hX : BelowX b W W') (hsh : W'.shape? b = W.shape? b) {w w' : List Nat} (hl : w'.length = w.length) (hj : lk j st.ob = some (.wr w)) (hb : m j = some b) : EnLe (fun _ => True) (en cx m st.ob W) (en cx m (put j (.wr w') st.ob) W') := by
  refine ⟨fun c ⟨g1, g2, g3⟩ => ⟨g1, Nat.lt_of_lt_of_le g2 hX.size, fun k o hk => ?_⟩, fun c ⟨g1, g2, g3⟩ => hX.block c g2 (fun e => g3 j _ hj (e ▸ hb)), Nat.le_refl _, fun k _ o' ho' => ?_⟩
  · by_cases hkj : k = j
    · subst hkj; exact g3 k _ hj
    · rw [lk_put_ne _ _ hkj] at hk; exact g3 k o hk
  · by_cases hkj : k = j
    · subst hkj
      have : lk k (put k (.wr w') st.ob) = some o' := ho'
      rw [lk_put_self] at this; injection this with this; subst this
      exact ⟨_, hj, rfl, rfl, by simp [Ob.len, hl], fun _ => ⟨rfl, fun c hc => by
        obtain rfl := some_unique hb hc
        exact hsh⟩⟩
    · have : lk k st.ob = some o' := by rw [← lk_put_ne (Ob.wr w') st.ob hkj]; exact ho'
      exact ⟨o', this, rfl, rfl, Nat.le_refl _, fun _ => ⟨rfl, fun c hc => shape_of_heap (hX.block c (h.own k o' c this hc).1 (fun e => hkj (by subst e; exact h.inj k j o' _ c this hj hc hb)))⟩⟩
theorem RelM.behind (hr : RelM G cx m st a W) {j b : Nat} (hX : BelowX b W W') (hsh : W'.shape? b = W.shape? b) {w w' : List Nat} (hl : w'.length = w.length) (hj : lk j st.ob = some (.wr w)) (hb : m j = some b) (hw : Win W' b w') : RelM G cx m ⟨st.tm, put j (.wr w') st.ob⟩ a W' := by
  have he := enX hr hX hsh hl hj hb
  refine hr.move he (fun _ _ _ _ _ => trivial) hX.size hX.os hX.tape hX.output (fun c hc hn => hX.block c (Nat.lt_of_lt_of_le hc hr.size) (fun e => by
      subst e; rcases (hr.own j _ c hj hb).2 with h' | h'
      · omega
      · exact hn h'.1)) (fun k o2 hk => ?_) (fun k k' o1 o2 c g1 g2 g3 g4 => ?_) (fun k o2 c g1 g2 => ?_) (fun o2 ho2 => ?_)
  · by_cases hkj : k = j
    · subst hkj; rw [lk_put_self] at hk; injection hk with hk; subst hk
      obtain ⟨vs, e, q1, q2⟩ := hw
      exact .inr ⟨b, vs, e, hb, q1, q2⟩
    · rw [lk_put_ne _ _ hkj] at hk
      exact RO.mono he (fun _ _ => trivial) rfl (fun c hc => hX.block c (hr.own k o2 c hk hc).1 (fun e => hkj (by subst e; exact hr.inj k j o2 _ c hk hj hc hb))) (hr.ob k o2 hk)
  · have f : ∀ {k o2}, lk k (put j (.wr w') st.ob) = some o2 → ∃ o3, lk k st.ob = some o3 := fun {k o2} hk => by
      by_cases hkj : k = j
      · subst hkj; exact ⟨_, hj⟩
      · rw [lk_put_ne _ _ hkj] at hk; exact ⟨_, hk⟩
    obtain ⟨o3, q1⟩ := f g1
    obtain ⟨o4, q2⟩ := f g2
    exact hr.inj k k' o3 o4 c q1 q2 g3 g4
  · by_cases hkj : k = j
    · subst hkj
      obtain ⟨p1, p2⟩ := hr.own k _ c hj g2
      refine ⟨Nat.lt_of_lt_of_le p1 hX.size, ?_⟩
      rcases p2 with p2 | ⟨_, p2, _⟩
      · exact .inl p2
      · simp [Ob.isBox] at p2
    · rw [lk_put_ne _ _ hkj] at g1; exact ⟨Nat.lt_of_lt_of_le (hr.own k o2 c g1 g2).1 hX.size, (hr.own k o2 c g1 g2).2⟩
  · by_cases hkj : 7777777 = j
    · subst hkj
      obtain ⟨p1, _⟩ := hr.pin _ hj
      simp [Ob.isBox] at p1
    · rw [lk_put_ne _ _ hkj] at ho2
      obtain ⟨p1, c, g2, g3, g4⟩ := hr.pin o2 ho2
      refine ⟨p1, c, g2, g3, (shape_of_heap (hX.block c (hr.own _ o2 c ho2 g2).1 (fun e => hkj ?_))).trans g4⟩
      subst e
      exact hr.inj _ j o2 _ c ho2 hj g2 hb
/-- The call. -/
theorem DoL.callX {o1 o2 o3 o4 : Oper} {t e : TypeId} {b1 z1 : Nat} {c1 : List Ce} {te : TI} {x lo hi y z : Operand} {j n d1 d2 d3 : Nat} {w w' : List Nat} {l0 h0 : Int} {yv zv : PV} {f : FuncId} {xf : Operand} {ts : Array TypeId} {r : Bool} (md : Bool) (lab : Nat)
    (hg1 : o1.guard = none) (hop1 : o1.op = .slice t x (some lo) (some hi) none) (hd1 : o1.dst = some d1) (hn1 : d1 < nt)
    (hg2 : o2.guard = none) (hop2 : o2.op = .move y) (hd2 : o2.dst = some d2) (hn2 : d2 < nt) (hne : d2 ≠ d1)
    (hg4 : o3.guard = none) (hop4 : o3.op = .move z) (hd4 : o3.dst = some d3) (hn4 : d3 < nt) (hne4 : d3 ≠ d1) (hne5 : d3 ≠ d2)
    (hg3 : o4.guard = none) (hop3 : o4.op = .call { callee := .value xf, args := #[.tmp d1, .tmp d2, .tmp d3], argTypes := ts }) (hd3 : dstOk nt o4.dst = true)
    (ht : tiOf P t = some ⟨b1, z1, c1, .slice e⟩) (he : tiOf P e = some te) (hsz : te.size = 1)
    (hx : opv st.tm x = some (.v (.c (.r j n)))) (hj : lk j st.ob = some (.wr w)) (hlo : opv st.tm lo = some (.v (.c (.i .i64 l0)))) (hhi : opv st.tm hi = some (.v (.c (.i .i64 h0))))
    (hy : opv (del d1 st.tm) y = some (.v yv)) (hz : opv (put d2 (.v yv) (del d1 st.tm)) z = some (.v zv)) (hxf : opv (put d3 (.v zv) (put d2 (.v yv) (del d1 st.tm))) xf = some (.v (.c (.f f))))
    (hp : w.length = n ∧ 0 ≤ l0 ∧ l0 < h0 ∧ h0 ≤ w.length) (hD : DoesX P G f l0.toNat (h0.toNat - l0.toNat) w [yv.ext, zv.ext] r w') (hl : w'.length = w.length)
    (next : runs P G nt md ops Q lab l ⟨setv o4.dst (some (.v (.c (.b r)))) (put d3 (.v zv) (put d2 (.v yv) (del d1 st.tm))), put j (.wr w') st.ob⟩) : DoL P G nt ops (o1 :: o2 :: o3 :: o4 :: l) st Q := by
  intro cx a W hn ⟨m, hr⟩ Q' hQ
  subst hn
  obtain ⟨_, hxr⟩ : _ ∧ ((n = 0 ∧ a.eval x = .slice none 0 0 ∧ m j = none) ∨ ∃ b cap e, m j = some b ∧ a.eval x = .slice (some ⟨b, 0, none⟩) n cap ∧ n ≤ cap ∧ W.shape? b = some (e, cap * (Ob.wr w).sz)) := (hr.opv hx).2 _ hj (by simp [Ob.len, hp.1])
  rcases hxr with ⟨z1, _, _⟩ | ⟨b, cap, e', hb, hxv, hcap, _⟩
  · omega
  have vlo : a.eval lo = .int .i64 l0 := hr.opv hlo
  have vhi : a.eval hi = .int .i64 h0 := hr.opv hhi
  have hB : Bnd n cap l0 h0 (some (a.eval lo)) (some (a.eval hi)) none cap := ⟨.inr (by rw [vlo]), hp.2.1, by omega, by omega, hcap, .inl ⟨rfl, rfl, .inr (by rw [vhi])⟩⟩
  obtain ⟨e2, _⟩ := run_slice (P := P) (W := W) (ad := some ⟨b, 0, none⟩) (tiOf_slice ht) he hB
  rw [if_neg (by omega)] at e2
  simp only [Option.map_some, hsz, Nat.mul_one, addr_add0, Nat.zero_add] at e2
  obtain ⟨u, hu⟩ : ∃ u, Value.slice (some ⟨b, l0.toNat, none⟩) (h0.toNat - l0.toNat) (cap - l0.toNat) = u := ⟨_, rfl⟩
  rw [hu] at e2
  -- the part
  refine wpList_plain hg1 fun K1 hK1 => ?_
  unfold Oper.wp
  have x1 : (execOp a.eval o1).run P W = .ok (.value u) W := by
    have : execOp a.eval o1 = (do pure (.value (← Instr.sliceAt t (a.eval x) (some (a.eval lo)) (some (a.eval hi)) none))) := by
      unfold execOp; simp [hop1]
    rw [this, hxv]; simp [e2]
  rw [x1]
  refine hK1 _ _ ?_
  rw [hd1]
  have h1 := hr.forget d1 u
  generalize ha1 : a.put (some d1) u = a1 at *
  have hu1 : a1.tmps[d1]? = some u := by rw [← ha1]; simp [Act.put, hr.nt, hn1]
  refine wpList_plain hg2 fun K2 hK2 => ?_
  unfold Oper.wp
  have hyv : RT (en cx m st.ob W) (.v yv) (a1.eval y) := h1.opv hy
  have x2 : (execOp a1.eval o2).run P W = .ok (.value (a1.eval y)) W := by unfold execOp; simp [hop2]
  rw [x2]
  refine hK2 _ _ ?_
  rw [hd2]
  have h2 := h1.slot hn2 hyv
  generalize hy2 : a1.eval y = y2 at *
  generalize ha2 : a1.put (some d2) y2 = a2 at *
  have hu2 : a2.tmps[d1]? = some u := by rw [← ha2]; simp [Act.put, Array.getElem?_setIfInBounds_ne hne, hu1]
  have hv2 : a2.tmps[d2]? = some y2 := by rw [← ha2]; simp [Act.put, h1.nt, hn2]
  refine wpList_plain hg4 fun K3 hK3 => ?_
  unfold Oper.wp
  have hzv : RT (en cx m st.ob W) (.v zv) (a2.eval z) := h2.opv hz
  have x3 : (execOp a2.eval o3).run P W = .ok (.value (a2.eval z)) W := by unfold execOp; simp [hop4]
  rw [x3]
  refine hK3 _ _ ?_
  rw [hd4]
  have h3 := h2.slot hn4 hzv
  generalize hz2 : a2.eval z = z2 at *
  generalize ha3 : a2.put (some d3) z2 = a3 at *
  have hu3 : a3.tmps[d1]? = some u := by rw [← ha3]; simp [Act.put, Array.getElem?_setIfInBounds_ne hne4, hu2]
  have hv3 : a3.tmps[d2]? = some y2 := by rw [← ha3]; simp [Act.put, Array.getElem?_setIfInBounds_ne hne5, hv2]
  have hw3 : a3.tmps[d3]? = some z2 := by rw [← ha3]; simp [Act.put, h2.nt, hn4]
  -- the call
  refine wpList_plain hg3 fun K hK => ?_
  unfold Oper.wp
  have hxv : a3.eval xf = .func (.func f) #[] #[] := h3.opv hxf
  have hexec : execOp a3.eval o4 = callFunc f [u, y2, z2].toArray := by
    have q1 : a3.eval (.tmp d1) = u := by simp [Act.eval, hu3]
    have q2 : a3.eval (.tmp d2) = y2 := by simp [Act.eval, hv3]
    have q3 : a3.eval (.tmp d3) = z2 := by simp [Act.eval, hw3]
    unfold execOp
    simp [hop3, resolve, hxv, Deferred.ofValue, invoke, q1, q2, q3]
  have hok : ∀ c, okC cx m st W false c → c < W.heap.size := by
    rintro c (h | ⟨e, _⟩)
    · exact h.2.1
    · cases e
  have hnb : ¬ okC cx m st W false b := by
    rintro (h | ⟨e, _⟩)
    · exact h.2.2 j _ hj hb
    · cases e
  have hgb : ∀ (b' off : Nat) (x : Ce), (G b')[off]? = some x → b' ≠ b := fun b' off x hx e => by
    subst e
    obtain ⟨k1, k2, _⟩ := hr.gl b' off x hx
    rcases (hr.own j _ b' hj hb).2 with k3 | k3
    · omega
    · exact k2 k3.1
  have hwin : Win W b w := by
    rcases hr.ob j _ hj with ⟨g1, _⟩ | ⟨b', vs, e, g1, g2, g3⟩
    · subst g1; simp at hp; omega
    · obtain rfl := some_unique (show m j = some b from hb) g1
      exact ⟨vs, e, g2, g3⟩
  have hargs : All2 (RP (enA W (okC cx m st W false))) [yv.ext, zv.ext] [y2, z2] :=
    .cons (PLe.ext _ _ _ (RP.mono (okC_le cx m st W false) (fun _ _ => trivial) hyv)) (.cons (PLe.ext _ _ _ (RP.mono (okC_le cx m st W false) (fun _ _ => trivial) hzv)) .nil)
  obtain ⟨g1, g2⟩ := hD W (okC cx m st W false) _ b (cap - l0.toNat) hok hr.glOk hgb hnb hwin hargs
  rw [hu] at g1 g2
  rw [hexec, g1]
  refine g2.mono ?_
  rintro en' W' ⟨rfl, hX, hsh, hw'⟩
  have h4 := h3.behind hX hsh hl hj hb hw'
  exact hK _ _ (DoL.run next cx _ _ rfl (Rel.put h4 rfl hd3 (x := .v (.c (.b r))) (show RT (en cx m (put j (.wr w') st.ob) W') (.v (.c (.b r))) (.bool r) from rfl)) Q' hQ)
end
end Go.Proofs.YtbhokdhkfodpfaaGreatDoor
/- A digit of a quotient, guessed. No condition. -/
namespace Go.Proofs.YtbhokdhkfodpfaaGreatDoor
set_option linter.unusedVariables false
set_option linter.unusedSimpArgs false
variable {G : Gl}
set_option maxHeartbeats 8000000
set_option maxRecDepth 10000
/-- The digit that is guessed: of the three highest words by the two highest ones. -/
def guessP (a b c v w : Nat) : Nat := min (((a * 18446744073709551616 + b) * 18446744073709551616 + c) / (v * 18446744073709551616 + w)) 18446744073709551615
theorem guessP_le (a b c v w : Nat) : guessP a b c v w ≤ 18446744073709551615 := Nat.min_le_right _ _
/-- The state of the loop. -/
structure GuI (a b c v w q r : Nat) : Prop where
  eq : q * v + r = a * 18446744073709551616 + b
  ge : guessP a b c v w ≤ q
  le : q ≤ 18446744073709551615
theorem gu_big {a b c v w q r : Nat} (h : q * v + r = a * 18446744073709551616 + b) (hq : r * 18446744073709551616 + c < q * w) : (a * 18446744073709551616 + b) * 18446744073709551616 + c < q * (v * 18446744073709551616 + w) := by
  rw [Nat.mul_add, ← Nat.mul_assoc, ← h, Nat.add_mul, Nat.add_assoc]
  exact Nat.add_lt_add_left hq _
theorem gu_small {a b c v w q r : Nat} (h : q * v + r = a * 18446744073709551616 + b) (hq : q * w ≤ r * 18446744073709551616 + c) : q * (v * 18446744073709551616 + w) ≤ (a * 18446744073709551616 + b) * 18446744073709551616 + c := by
  rw [Nat.mul_add, ← Nat.mul_assoc, ← h, Nat.add_mul, Nat.add_assoc]
  exact Nat.add_le_add_left hq _
theorem GuI.fin {a b c v w q r : Nat} (h : GuI a b c v w q r) (hv : 0 < v) (hq : q * w ≤ r * 18446744073709551616 + c) : q = guessP a b c v w := by
  refine Nat.le_antisymm ?_ h.ge
  refine Nat.le_min.2 ⟨?_, h.le⟩
  rw [Nat.le_div_iff_mul_le (by omega)]
  exact gu_small h.eq hq
theorem GuI.dec {a b c v w q r : Nat} (h : GuI a b c v w q r) (hv : 0 < v) (hq : r * 18446744073709551616 + c < q * w) : 1 ≤ q ∧ GuI a b c v w (q - 1) (r + v) := by
  have h1 := gu_big h.eq hq
  have h2 : ((a * 18446744073709551616 + b) * 18446744073709551616 + c) / (v * 18446744073709551616 + w) < q := (Nat.div_lt_iff_lt_mul (by omega)).2 h1
  have h3 := h.eq
  have h4 := h.le
  have h5 : guessP a b c v w ≤ ((a * 18446744073709551616 + b) * 18446744073709551616 + c) / (v * 18446744073709551616 + w) := Nat.min_le_left _ _
  obtain ⟨j, rfl⟩ : ∃ j, q = j + 1 := ⟨q - 1, by omega⟩
  rw [Nat.add_mul] at h3
  exact ⟨by omega, by simp only [Nat.add_sub_cancel]; omega, by simp only [Nat.add_sub_cancel]; omega, by omega⟩
theorem GuI.over {a b c v w q r : Nat} (h : GuI a b c v w q r) (hv : 0 < v) (hw : w < 18446744073709551616) (hr : 18446744073709551616 ≤ r) : q = guessP a b c v w := by
  refine h.fin hv ?_
  have h1 : q * w ≤ 18446744073709551615 * 18446744073709551615 := Nat.mul_le_mul h.le (by omega)
  omega
theorem GuI.div {a b c v w : Nat} (hv : 0 < v) (ha : a < v) (hb : b < 18446744073709551616) (hc : c < 18446744073709551616) : GuI a b c v w ((a * 18446744073709551616 + b) / v) ((a * 18446744073709551616 + b) % v) := by
  have e := Nat.div_add_mod (a * 18446744073709551616 + b) v
  refine ⟨by rw [Nat.mul_comm]; exact e, ?_, ?_⟩
  · refine Nat.le_trans (Nat.min_le_left _ _) ?_
    rw [Nat.le_div_iff_mul_le hv]
    have h2 := Nat.div_mul_le_self ((a * 18446744073709551616 + b) * 18446744073709551616 + c) (v * 18446744073709551616 + w)
    obtain ⟨Q, hQ⟩ : ∃ Q, ((a * 18446744073709551616 + b) * 18446744073709551616 + c) / (v * 18446744073709551616 + w) = Q := ⟨_, rfl⟩
    rw [hQ] at h2 ⊢
    rw [Nat.mul_add, ← Nat.mul_assoc] at h2
    clear e hQ
    obtain ⟨u, hu⟩ : ∃ u, Q * v = u := ⟨_, rfl⟩
    rw [hu] at h2 ⊢
    omega
  · have : (a * 18446744073709551616 + b) / v < 18446744073709551616 := by
      rw [Nat.div_lt_iff_lt_mul hv]
      have := Nat.mul_le_mul_right 18446744073709551616 (show a + 1 ≤ v from ha)
      omega
    omega
theorem GuI.same {b c v w : Nat} : GuI v b c v w 18446744073709551615 (b + v) := ⟨by omega, guessP_le _ _ _ _ _, Nat.le_refl _⟩
theorem hi_lo {x r c : Nat} (hc : c < 18446744073709551616) : (x / 18446744073709551616 < r ∨ x / 18446744073709551616 = r ∧ x % 18446744073709551616 ≤ c) ↔ x ≤ r * 18446744073709551616 + c := by omega
theorem not_hi_lo {x r c : Nat} (h : r ≤ x / 18446744073709551616 ∧ (x / 18446744073709551616 = r → c < x % 18446744073709551616)) : ¬ (x / 18446744073709551616 < r ∨ x / 18446744073709551616 = r ∧ x % 18446744073709551616 ≤ c) := by
  rintro (h1 | ⟨h1, h2⟩)
  · omega
  · have := h.2 h1; omega
theorem gu_next {a b c v w q r : Nat} (h : GuI a b c v w q (r + v)) (hv : 0 < v) (hw : w < 18446744073709551616) (hr : r < 18446744073709551616) (hv2 : v < 18446744073709551616) :
    (((r + v) / 18446744073709551616 == 1) = false → GuI a b c v w q ((r + v) % 18446744073709551616) ∧ (r + v) % 18446744073709551616 < 18446744073709551616) ∧ (((r + v) / 18446744073709551616 == 1) = true → q = guessP a b c v w) := by
  constructor
  · intro h1
    have h1 : ¬ (r + v) / 18446744073709551616 = 1 := by simpa using h1
    rw [show (r + v) % 18446744073709551616 = r + v by omega]
    exact ⟨h, by omega⟩
  · intro h1
    have h1 : (r + v) / 18446744073709551616 = 1 := by simpa using h1
    exact h.over hv hw (by omega)
theorem guess_does {a b c v w : Nat} (hv : 0 < v) (ha : a ≤ v) (va : v < 18446744073709551616) (hb : b < 18446744073709551616) (hc : c < 18446744073709551616) (hw : w < 18446744073709551616) : Does Tryz.prog G 139 [.c (.n a), .c (.n b), .c (.n c), .c (.n v), .c (.n w)] (.v (.c (.n (guessP a b c v w)))) := by
  have hna : ¬ v < a := by omega
  by_cases hav : a = v
  · subst hav
    have hA := @Add64_does G b a 0 (Nat.zero_le _)
    have hst := @GuI.same b c a w
    refine Does.of (nt := 71) Tryz.func139 rfl rfl rfl (by simp) ?_
    simp only [argTm, PV.ext, Ce.ext]
    refine Do.seqk fun _ k1_ => ?_
    refine Do.region [0,1,2,3,4] true ?_
    simp [go_sem, hna]
    apply k1_; clear k1_
    refine Do.seqk fun _ k2_ => ?_
    refine Do.seqk fun _ k3_ => ?_
    refine Do.region [0,1,2,3,4,20] true ?_
    simp [go_sem, hna]
    apply k3_; clear k3_
    refine Do.cond [0,1,2,3,4] rfl (fun g1 => ?_) (fun g1 => ?_) <;> simp [go_sem, hna] at g1 ⊢
    refine Do.skip ?_
    simp [go_sem]
    apply k2_; clear k2_
    refine Do.seqk fun _ k4_ => ?_
    refine Do.region [0,1,2,3,4] true ?_
    simp [go_sem, hna]
    apply k4_; clear k4_
    refine Do.seqk fun _ k5_ => ?_
    refine Do.region [0,1,2,3,4,13] true ?_
    simp [go_sem, hna]
    apply k5_; clear k5_
    refine Do.seqk fun _ k6_ => ?_
    refine Do.seqk fun _ k7_ => ?_
    refine Do.region [0,1,2,3,4,13,23] true ?_
    simp [go_sem, hna]
    apply k7_; clear k7_
    refine Do.cond [0,1,2,3,4,13] rfl (fun g2 => ?_) (fun g2 => ?_) <;> simp [go_sem, hna] at g2 ⊢
    refine Do.seqk fun _ k8_ => ?_
    refine Do.region [1,2,3,4,11] true ?_
    simp [go_sem, hna]
    apply k8_; clear k8_
    refine Do.seqk fun _ k9_ => ?_
    refine Do.region [1,2,3,4,11] true ?_
    simp [go_sem, hna]
    apply k9_; clear k9_
    refine Do.seqk fun _ k10_ => ?_
    refine Do.region [2,3,4,11,12,14] true ?_
    simp [go_sem, hna]
    refine DoL.call true 803 rfl rfl rfl rfl (by first | exact trivial | omega | (simp; done) | (simp; omega)) (hA) rfl (by first | exact .inl rfl | exact .inr rfl) rfl ?_
    simp [go_sem, hna]
    apply k10_; clear k10_
    refine Do.region [2,3,4,11,12,13] true ?_
    simp [go_sem, hna]
    apply k6_; clear k6_
    refine Do.seqk fun _ k11_ => ?_
    refine Do.block ?_
    refine Do.loopF [2,3,4,11,12,13] (fun (s : Nat × Nat × Bool) => [(11, .v (.c (.n s.1))), (12, .v (.c (.n s.2.1))), (13, .v (.c (.b s.2.2)))]) (fun (s : Nat × Nat × Bool) => []) (fun (s : Nat × Nat × Bool) => (s.2.2 = false → GuI a b c a w s.1 s.2.1 ∧ s.2.1 < 18446744073709551616) ∧ (s.2.2 = true → s.1 = guessP a b c a w)) (fun (s : Nat × Nat × Bool) => s.1) ((18446744073709551615, (b + a) % 18446744073709551616, (b + a) / 18446744073709551616 == 1)) (fun _ => by first | (simp [go_sem, mixS]; done) | (simp [go_sem, mixS]; rfl)) (St.le_of (by simp [keep]) rfl) (gu_next hst hv hw hb va) ?_
    rintro ⟨q, r, o⟩ ⟨h1, h2⟩
    simp only at h1 h2
    refine Do.seqk fun _ k12_ => ?_
    refine Do.seqk fun _ k13_ => ?_
    refine Do.region [2,3,4,11,12,40] true ?_
    simp [go_sem, hna]
    repeat (refine And.intro (by first | omega | (intros; omega) | grind) ?_)
    apply k13_; clear k13_
    refine Do.cond [2,3,4,11,12] rfl (fun g3 => ?_) (fun g3 => ?_) <;> simp [go_sem, hna] at g3 ⊢
    · obtain ⟨hI, hr⟩ := h1 (by simpa using g3)
      have hl := hI.le
      have hM := @Mul64_does G q w (by omega) hw
      have hAd := @Add64_does G r a 0 (Nat.zero_le _)
      have hiff := @hi_lo (q * w) r c hc
      have hnot := @not_hi_lo (q * w) r c
      obtain ⟨hh, eh⟩ : ∃ h, q * w / 18446744073709551616 = h := ⟨_, rfl⟩
      obtain ⟨lo, el⟩ : ∃ h, q * w % 18446744073709551616 = h := ⟨_, rfl⟩
      rw [eh, el] at hM hiff hnot
      refine Do.skip ?_
      simp [go_sem]
      apply k12_; clear k12_
      refine Do.block ?_
      refine Do.seqk fun _ k14_ => ?_
      refine Do.region [2,3,4,11,12,15,16] true ?_
      simp [go_sem, hna]
      refine DoL.call true 1203 rfl rfl rfl rfl (by first | exact trivial | omega | (simp; done) | (simp; omega)) (hM) rfl (by first | exact .inl rfl | exact .inr rfl) rfl ?_
      simp [go_sem, hna]
      apply k14_; clear k14_
      refine Do.seqk fun _ k15_ => ?_
      refine Do.seqk fun _ k16_ => ?_
      refine Do.region [2,3,4,11,12,59] true ?_
      simp [go_sem, hna]
      repeat (refine And.intro (by first | omega | (intros; omega) | grind) ?_)
      apply k16_; clear k16_
      refine Do.cond [2,3,4,11,12] rfl (fun g4 => ?_) (fun g4 => ?_) <;> simp [go_sem, hna] at g4 ⊢
      · have hq := hI.fin hv (hiff.1 g4)
        refine Do.exit ?_
        simp [go_sem]
        apply k11_; clear k11_
        refine Do.seqk fun _ k17_ => ?_
        refine Do.region [10] true ?_
        simp [go_sem, hna]
        apply k17_; clear k17_
        refine Do.ret ?_
        simp [endQ, rets, ret1, go_sem, hna]
        repeat (refine And.intro (by first | omega | (intros; omega) | grind) ?_)
        rw [hq]
        exact TLe.refl _
      · obtain ⟨d1, i2⟩ := hI.dec hv (Nat.lt_of_not_le fun h8 => hnot g4 (hiff.2 h8))
        have d2 : q < M64 := by unfold M64; omega
        refine Do.skip ?_
        simp [go_sem]
        apply k15_; clear k15_
        refine Do.seqk fun _ k18_ => ?_
        refine Do.region [2,3,4,11,12] true ?_
        simp [go_sem, d1, d2]
        repeat (refine And.intro (by first | omega | (intros; omega) | grind) ?_)
        apply k18_; clear k18_
        refine Do.seqk fun _ k19_ => ?_
        refine Do.region [2,3,4,11,12] true ?_
        simp [go_sem, d1, d2]
        apply k19_; clear k19_
        refine Do.seqk fun _ k20_ => ?_
        refine Do.region [2,3,4,11,12,17] true ?_
        simp [go_sem, d1, d2]
        refine DoL.call true 1603 rfl rfl rfl rfl (by first | exact trivial | omega | (simp; done) | (simp; omega)) (hAd) rfl (by first | exact .inl rfl | exact .inr rfl) rfl ?_
        simp [go_sem, d1, d2]
        apply k20_; clear k20_
        refine Do.region [2,3,4,11,12,13] true ?_
        simp [go_sem, d1, d2]
        refine ⟨(q - 1, (r + a) % 18446744073709551616, (r + a) / 18446744073709551616 == 1), St.le_of (by simp [keep]) rfl, gu_next i2 hv hw hr va, by simp; omega⟩
    · have hq := h2 (by simpa using g3)
      refine Do.exit ?_
      simp [go_sem]
      apply k11_; clear k11_
      refine Do.seqk fun _ k21_ => ?_
      refine Do.region [10] true ?_
      simp [go_sem, hna]
      apply k21_; clear k21_
      refine Do.ret ?_
      simp [endQ, rets, ret1, go_sem, hna]
      repeat (refine And.intro (by first | omega | (intros; omega) | grind) ?_)
      rw [hq]
      exact TLe.refl _
  · have hD := @Div64_does G a b v hb va (by omega)
    have hst := @GuI.div a b c v w hv (by omega) hb hc
    have hrl := Nat.mod_lt (a * 18446744073709551616 + b) hv
    refine Does.of (nt := 71) Tryz.func139 rfl rfl rfl (by simp) ?_
    simp only [argTm, PV.ext, Ce.ext]
    refine Do.seqk fun _ k1_ => ?_
    refine Do.region [0,1,2,3,4] true ?_
    simp [go_sem, hna, hav]
    apply k1_; clear k1_
    refine Do.seqk fun _ k2_ => ?_
    refine Do.seqk fun _ k3_ => ?_
    refine Do.region [0,1,2,3,4,20] true ?_
    simp [go_sem, hna, hav]
    apply k3_; clear k3_
    refine Do.cond [0,1,2,3,4] rfl (fun g1 => ?_) (fun g1 => ?_) <;> simp [go_sem, hna, hav] at g1 ⊢
    refine Do.skip ?_
    simp [go_sem]
    apply k2_; clear k2_
    refine Do.seqk fun _ k4_ => ?_
    refine Do.region [0,1,2,3,4] true ?_
    simp [go_sem, hna, hav]
    apply k4_; clear k4_
    refine Do.seqk fun _ k5_ => ?_
    refine Do.region [0,1,2,3,4,13] true ?_
    simp [go_sem, hna, hav]
    apply k5_; clear k5_
    refine Do.seqk fun _ k6_ => ?_
    refine Do.seqk fun _ k7_ => ?_
    refine Do.region [0,1,2,3,4,13,23] true ?_
    simp [go_sem, hna, hav]
    apply k7_; clear k7_
    refine Do.cond [0,1,2,3,4,13] rfl (fun g2 => ?_) (fun g2 => ?_) <;> simp [go_sem, hna, hav] at g2 ⊢
    refine Do.region [2,3,4,11,12,13] true ?_
    simp [go_sem, hna, hav]
    refine DoL.call true 1004 rfl rfl rfl rfl (by first | exact trivial | omega | (simp; done) | (simp; omega)) (hD) rfl (by first | exact .inl rfl | exact .inr rfl) rfl ?_
    simp [go_sem, hna, hav]
    apply k6_; clear k6_
    refine Do.seqk fun _ k8_ => ?_
    refine Do.block ?_
    refine Do.loopF [2,3,4,11,12,13] (fun (s : Nat × Nat × Bool) => [(11, .v (.c (.n s.1))), (12, .v (.c (.n s.2.1))), (13, .v (.c (.b s.2.2)))]) (fun (s : Nat × Nat × Bool) => []) (fun (s : Nat × Nat × Bool) => (s.2.2 = false → GuI a b c v w s.1 s.2.1 ∧ s.2.1 < 18446744073709551616) ∧ (s.2.2 = true → s.1 = guessP a b c v w)) (fun (s : Nat × Nat × Bool) => s.1) (((a * 18446744073709551616 + b) / v, (a * 18446744073709551616 + b) % v, false)) (fun _ => by first | (simp [go_sem, mixS]; done) | (simp [go_sem, mixS]; rfl)) (St.le_of (by simp [keep]) rfl) (⟨fun _ => ⟨hst, Nat.lt_trans hrl va⟩, fun h => by cases h⟩) ?_
    rintro ⟨q, r, o⟩ ⟨h1, h2⟩
    simp only at h1 h2
    refine Do.seqk fun _ k9_ => ?_
    refine Do.seqk fun _ k10_ => ?_
    refine Do.region [2,3,4,11,12,40] true ?_
    simp [go_sem, hna, hav]
    repeat (refine And.intro (by first | omega | (intros; omega) | grind) ?_)
    apply k10_; clear k10_
    refine Do.cond [2,3,4,11,12] rfl (fun g3 => ?_) (fun g3 => ?_) <;> simp [go_sem, hna, hav] at g3 ⊢
    · obtain ⟨hI, hr⟩ := h1 (by simpa using g3)
      have hl := hI.le
      have hM := @Mul64_does G q w (by omega) hw
      have hAd := @Add64_does G r v 0 (Nat.zero_le _)
      have hiff := @hi_lo (q * w) r c hc
      have hnot := @not_hi_lo (q * w) r c
      obtain ⟨hh, eh⟩ : ∃ h, q * w / 18446744073709551616 = h := ⟨_, rfl⟩
      obtain ⟨lo, el⟩ : ∃ h, q * w % 18446744073709551616 = h := ⟨_, rfl⟩
      rw [eh, el] at hM hiff hnot
      refine Do.skip ?_
      simp [go_sem]
      apply k9_; clear k9_
      refine Do.block ?_
      refine Do.seqk fun _ k11_ => ?_
      refine Do.region [2,3,4,11,12,15,16] true ?_
      simp [go_sem, hna, hav]
      refine DoL.call true 1203 rfl rfl rfl rfl (by first | exact trivial | omega | (simp; done) | (simp; omega)) (hM) rfl (by first | exact .inl rfl | exact .inr rfl) rfl ?_
      simp [go_sem, hna, hav]
      apply k11_; clear k11_
      refine Do.seqk fun _ k12_ => ?_
      refine Do.seqk fun _ k13_ => ?_
      refine Do.region [2,3,4,11,12,59] true ?_
      simp [go_sem, hna, hav]
      repeat (refine And.intro (by first | omega | (intros; omega) | grind) ?_)
      apply k13_; clear k13_
      refine Do.cond [2,3,4,11,12] rfl (fun g4 => ?_) (fun g4 => ?_) <;> simp [go_sem, hna, hav] at g4 ⊢
      · have hq := hI.fin hv (hiff.1 g4)
        refine Do.exit ?_
        simp [go_sem]
        apply k8_; clear k8_
        refine Do.seqk fun _ k14_ => ?_
        refine Do.region [10] true ?_
        simp [go_sem, hna, hav]
        apply k14_; clear k14_
        refine Do.ret ?_
        simp [endQ, rets, ret1, go_sem, hna, hav]
        repeat (refine And.intro (by first | omega | (intros; omega) | grind) ?_)
        rw [hq]
        exact TLe.refl _
      · obtain ⟨d1, i2⟩ := hI.dec hv (Nat.lt_of_not_le fun h8 => hnot g4 (hiff.2 h8))
        have d2 : q < M64 := by unfold M64; omega
        refine Do.skip ?_
        simp [go_sem]
        apply k12_; clear k12_
        refine Do.seqk fun _ k15_ => ?_
        refine Do.region [2,3,4,11,12] true ?_
        simp [go_sem, d1, d2]
        repeat (refine And.intro (by first | omega | (intros; omega) | grind) ?_)
        apply k15_; clear k15_
        refine Do.seqk fun _ k16_ => ?_
        refine Do.region [2,3,4,11,12] true ?_
        simp [go_sem, d1, d2]
        apply k16_; clear k16_
        refine Do.seqk fun _ k17_ => ?_
        refine Do.region [2,3,4,11,12,17] true ?_
        simp [go_sem, d1, d2]
        refine DoL.call true 1603 rfl rfl rfl rfl (by first | exact trivial | omega | (simp; done) | (simp; omega)) (hAd) rfl (by first | exact .inl rfl | exact .inr rfl) rfl ?_
        simp [go_sem, d1, d2]
        apply k17_; clear k17_
        refine Do.region [2,3,4,11,12,13] true ?_
        simp [go_sem, d1, d2]
        refine ⟨(q - 1, (r + v) % 18446744073709551616, (r + v) / 18446744073709551616 == 1), St.le_of (by simp [keep]) rfl, gu_next i2 hv hw hr va, by simp; omega⟩
    · have hq := h2 (by simpa using g3)
      refine Do.exit ?_
      simp [go_sem]
      apply k8_; clear k8_
      refine Do.seqk fun _ k18_ => ?_
      refine Do.region [10] true ?_
      simp [go_sem, hna, hav]
      apply k18_; clear k18_
      refine Do.ret ?_
      simp [endQ, rets, ret1, go_sem, hna, hav]
      repeat (refine And.intro (by first | omega | (intros; omega) | grind) ?_)
      rw [hq]
      exact TLe.refl _
end Go.Proofs.YtbhokdhkfodpfaaGreatDoor
/- Division by the schoolbook, of words: what its loops hold. No condition. -/
namespace Go.Proofs.YtbhokdhkfodpfaaGreatDoor
set_option linter.unusedVariables false
set_option linter.unusedSimpArgs false
set_option maxHeartbeats 4000000
set_option maxRecDepth 10000
theorem dgw_top {n k : Nat} (h : n < 18446744073709551616 ^ (k + 1)) : dgw n k = n / 18446744073709551616 ^ k := by
  unfold dgw
  rw [Nat.mod_eq_of_lt]
  rw [Nat.div_lt_iff_lt_mul (HposW k), Nat.mul_comm, ← Nat.pow_succ]; exact h
/-- The carry into digit i of a sum. -/
def cyW (a b i : Nat) : Nat := (a % 18446744073709551616 ^ i + b % 18446744073709551616 ^ i) / 18446744073709551616 ^ i
theorem cyW_zero (a b : Nat) : cyW a b 0 = 0 := by simp [cyW, Nat.mod_one]
theorem plus_stepW (a b i : Nat) : (cyW a b i + dgw a i + dgw b i) % 18446744073709551616 = dgw (a + b) i ∧ (cyW a b i + dgw a i + dgw b i) / 18446744073709551616 = cyW a b (i + 1) ∧ cyW a b i ≤ 1 := by
  have h1 : cyW a b (i + 1) = (cyW a b i + dgw a i + dgw b i) / 18446744073709551616 := by
    unfold cyW
    rw [low_stepW, low_stepW, Nat.pow_succ, ← Nat.div_div_eq_div_mul]
    rw [show a % 18446744073709551616 ^ i + dgw a i * 18446744073709551616 ^ i + (b % 18446744073709551616 ^ i + dgw b i * 18446744073709551616 ^ i) = a % 18446744073709551616 ^ i + b % 18446744073709551616 ^ i + (dgw a i + dgw b i) * 18446744073709551616 ^ i by rw [Nat.add_mul]; omega, Nat.add_mul_div_right _ _ (HposW i), Nat.add_assoc]
  have h2 : dgw (a + b) i = (cyW a b i + dgw a i + dgw b i) % 18446744073709551616 := by
    unfold dgw cyW
    have e : a + b = a % 18446744073709551616 ^ i + b % 18446744073709551616 ^ i + (a / 18446744073709551616 ^ i + b / 18446744073709551616 ^ i) * 18446744073709551616 ^ i := by
      have := Nat.div_add_mod' a (18446744073709551616 ^ i)
      have := Nat.div_add_mod' b (18446744073709551616 ^ i)
      rw [Nat.add_mul]; omega
    conv => lhs; rw [e, Nat.add_mul_div_right _ _ (HposW i)]
    omega
  refine ⟨h2.symm, h1.symm, ?_⟩
  unfold cyW
  have h3 := Nat.mod_lt a (HposW i)
  have h4 := Nat.mod_lt b (HposW i)
  exact Nat.le_of_lt_succ ((Nat.div_lt_iff_lt_mul (HposW i)).2 (by omega))
/-- The higher part. -/
def hghW (n i : Nat) : Nat := n / 18446744073709551616 ^ i
theorem hi_stepW (n i : Nat) : hghW n i = hghW n (i + 1) * 18446744073709551616 + dgw n i := high_stepW n i
theorem hi_zeroW (n : Nat) : hghW n 0 = n := by simp [hghW]
theorem hi_noneW {n k : Nat} (h : n < 18446744073709551616 ^ k) {i : Nat} (hi' : k ≤ i) : hghW n i = 0 := Nat.div_eq_of_lt (Nat.lt_of_lt_of_le h (Nat.pow_le_pow_right (by decide) hi'))
theorem hgh_digW (A i t : Nat) : dgw (hghW A i) t = dgw A (i + t) := by
  unfold dgw hghW
  rw [Nat.pow_add, Nat.div_div_eq_div_mul]
theorem hgh_hghW (A i t : Nat) : hghW (hghW A i) t = hghW A (i + t) := by
  unfold hghW
  rw [Nat.pow_add, Nat.div_div_eq_div_mul]
/-- The rest of a part, written k digits far. -/
def cpyW (A d i k : Nat) : Nat := A % 18446744073709551616 ^ i + d % 18446744073709551616 ^ k * 18446744073709551616 ^ i + hghW A (i + k) * 18446744073709551616 ^ (i + k)
theorem cpyW_zero (A d i : Nat) : cpyW A d i 0 = A := by
  unfold cpyW hghW
  rw [Nat.pow_zero, Nat.mod_one, Nat.zero_mul, Nat.add_zero, Nat.add_zero, Nat.mod_add_div']
theorem cpyW_low (A d i k : Nat) : A % 18446744073709551616 ^ i + d % 18446744073709551616 ^ k * 18446744073709551616 ^ i < 18446744073709551616 ^ (i + k) := by
  have h1 := Nat.mod_lt A (HposW i)
  have h2 := Nat.mod_lt d (HposW k)
  rw [Nat.pow_add, Nat.mul_comm (18446744073709551616 ^ i)]
  have h3 : (d % 18446744073709551616 ^ k + 1) * 18446744073709551616 ^ i ≤ 18446744073709551616 ^ k * 18446744073709551616 ^ i := Nat.mul_le_mul_right _ h2
  rw [Nat.add_mul] at h3
  omega
theorem cpyW_dig (A d i k : Nat) : dgw (cpyW A d i k) (i + k) = dgw A (i + k) := by
  have h := cpyW_low A d i k
  unfold dgw cpyW hghW
  rw [Nat.add_mul_div_right _ _ (HposW _), Nat.div_eq_of_lt h, Nat.zero_add]
theorem cpyW_step {A d i k L : Nat} (h : i + k < L) : (wds (cpyW A d i k) L).set (i + k) (dgw d k) = wds (cpyW A d i (k + 1)) L := by
  obtain ⟨Q', e1, e2, _⟩ := @wds_set (cpyW A d i k) L (i + k) (dgw d k) h (dgw_lt _ _)
  rw [e1]
  congr 1
  rw [cpyW_dig] at e2
  have e3 := hi_stepW A (i + k)
  have e4 := low_stepW d k
  unfold cpyW at e2 ⊢
  rw [e3] at e2
  rw [e4]
  rw [show i + (k + 1) = i + k + 1 by omega]
  have e5 : dgw d k * 18446744073709551616 ^ (i + k) = dgw d k * 18446744073709551616 ^ k * 18446744073709551616 ^ i := by rw [Nat.pow_add]; ac_rfl
  rw [e5] at e2
  have e6 : 18446744073709551616 ^ (i + k + 1) = 18446744073709551616 * 18446744073709551616 ^ (i + k) := by rw [Nat.pow_succ, Nat.mul_comm]
  rw [e6, Nat.add_mul]
  rw [Nat.add_mul] at e2
  have e7 : hghW A (i + k + 1) * (18446744073709551616 * 18446744073709551616 ^ (i + k)) = hghW A (i + k + 1) * 18446744073709551616 * 18446744073709551616 ^ (i + k) := by rw [Nat.mul_assoc]
  rw [e7]
  omega
theorem cpyW_end {A d i n : Nat} (hd : d < 18446744073709551616 ^ n) (hh : hghW A (i + n) = 0) : cpyW A d i n = A % 18446744073709551616 ^ i + d * 18446744073709551616 ^ i := by
  unfold cpyW
  rw [hh, Nat.zero_mul, Nat.add_zero, Nat.mod_eq_of_lt hd]
/-- What holds before the digit below c of the quotient is found. -/
structure DivIW (A0 b L c A Q : Nat) : Prop where
  lt : A < 18446744073709551616 ^ L
  top : hghW A c < b
  eq : A + b * Q = A0
  low : Q % 18446744073709551616 ^ c = 0
theorem DivIW.start {A0 b L n : Nat} (h : A0 < 18446744073709551616 ^ (L - 1)) (hn : 0 < n) (hL : 0 < L) (hb : 18446744073709551616 ^ (n - 1) ≤ b) : DivIW A0 b L (L - n) A0 0 := by
  refine ⟨Nat.lt_of_lt_of_le h (Nat.pow_le_pow_right (by decide) (by omega)), ?_, by simp, by simp⟩
  refine Nat.lt_of_lt_of_le ?_ hb
  unfold hghW
  rw [Nat.div_lt_iff_lt_mul (HposW _), ← Nat.pow_add]
  exact Nat.lt_of_lt_of_le h (Nat.pow_le_pow_right (by decide) (by omega))
/-- The part that a digit of the quotient divides. -/
theorem DivIW.part {A0 b L i A Q n : Nat} (h : DivIW A0 b L (i + 1) A Q) (hn : 0 < n) (hb : b < 18446744073709551616 ^ n) : hghW A i < b * 18446744073709551616 ∧ hghW A i < 18446744073709551616 ^ (n + 1) ∧ hghW A i / b ≤ 18446744073709551615 ∧ hghW A i / b * b ≤ hghW A i ∧ hghW A (i + (n + 1)) = 0 := by
  have h1 := hi_stepW A i
  have h2 := dgw_lt A i
  have h3 : hghW A i < b * 18446744073709551616 := by
    have : (hghW A (i + 1) + 1) * 18446744073709551616 ≤ b * 18446744073709551616 := Nat.mul_le_mul_right _ h.top
    omega
  have h4 : hghW A i < 18446744073709551616 ^ (n + 1) := by
    refine Nat.lt_of_lt_of_le h3 ?_
    rw [Nat.pow_succ]
    exact Nat.mul_le_mul_right _ (Nat.le_of_lt hb)
  refine ⟨h3, h4, ?_, Nat.div_mul_le_self _ _, ?_⟩
  · have : hghW A i / b < 18446744073709551616 := (Nat.div_lt_iff_lt_mul (Nat.lt_of_le_of_lt (Nat.zero_le _) h.top)).2 (by rw [Nat.mul_comm]; exact h3)
    omega
  · rw [← hgh_hghW]
    exact hi_noneW h4 (Nat.le_refl _)
theorem DivIW.next {A0 b L i A Q n d : Nat} (h : DivIW A0 b L (i + 1) A Q) (hn : 0 < n) (hb : b < 18446744073709551616 ^ n) (hi : i + (n + 1) ≤ L) (hd : d + b * (hghW A i / b) = hghW A i) (hdb : d < b) :
    ∃ Q', (wds Q (L - n)).set i (hghW A i / b) = wds Q' (L - n) ∧ DivIW A0 b L i (cpyW A d i (n + 1)) Q' := by
  obtain ⟨p1, p2, p3, p4, p5⟩ := h.part hn hb
  obtain ⟨Q', e1, e2, _⟩ := @wds_set Q (L - n) i (hghW A i / b) (by omega) (by omega)
  have hdn : d < 18446744073709551616 ^ (n + 1) := Nat.lt_trans (Nat.lt_trans hdb hb) (Nat.pow_lt_pow_right (by decide) (by omega))
  have hc := @cpyW_end A d i (n + 1) hdn p5
  have hdi : dgw Q i = 0 := by
    have := h.low
    rw [low_stepW] at this
    have h5 := HposW i
    have h6 : dgw Q i * 18446744073709551616 ^ i = 0 := by omega
    rcases Nat.mul_eq_zero.1 h6 with h6 | h6
    · exact h6
    · omega
  have hql : Q % 18446744073709551616 ^ i = 0 := by
    have := h.low
    rw [low_stepW] at this
    omega
  rw [hdi, Nat.zero_mul, Nat.add_zero] at e2
  refine ⟨Q', e1, ?_, ?_, ?_, ?_⟩
  · rw [hc]
    have h1 := Nat.mod_lt A (HposW i)
    have h2 : (d + 1) * 18446744073709551616 ^ i ≤ 18446744073709551616 ^ n * 18446744073709551616 ^ i := Nat.mul_le_mul_right _ (by omega)
    rw [← Nat.pow_add, Nat.add_mul] at h2
    have h3 : 18446744073709551616 ^ (n + i) ≤ 18446744073709551616 ^ L := Nat.pow_le_pow_right (by decide) (by omega)
    omega
  · rw [hc]
    unfold hghW
    rw [Nat.add_mul_div_right _ _ (HposW i), Nat.div_eq_of_lt (Nat.mod_lt _ (HposW i)), Nat.zero_add]
    exact hdb
  · rw [hc, e2, ← h.eq]
    have h1 : A = A % 18446744073709551616 ^ i + hghW A i * 18446744073709551616 ^ i := by unfold hghW; rw [Nat.mod_add_div']
    conv => rhs; rw [h1, ← hd]
    rw [Nat.mul_add, Nat.add_mul]
    have : b * (hghW A i / b * 18446744073709551616 ^ i) = b * (hghW A i / b) * 18446744073709551616 ^ i := by rw [Nat.mul_assoc]
    omega
  · rw [e2, Nat.add_mul_mod_self_right, hql]
theorem DivIW.fin {A0 b L A Q : Nat} (h : DivIW A0 b L 0 A Q) (hb : 0 < b) : Q = A0 / b ∧ A = A0 % b := by
  have h1 := h.top
  rw [hi_zeroW] at h1
  rw [← h.eq]
  rw [Nat.add_mul_div_left _ _ hb, Nat.add_mul_mod_self_left, Nat.div_eq_of_lt h1, Nat.mod_eq_of_lt h1]
  omega
end Go.Proofs.YtbhokdhkfodpfaaGreatDoor
/- So many times one number taken from another, plain. No condition. -/
namespace Go.Proofs.YtbhokdhkfodpfaaGreatDoor
set_option linter.unusedVariables false
set_option linter.unusedSimpArgs false
set_option maxHeartbeats 4000000
set_option maxRecDepth 10000
/-- The carry into digit i of q times V. -/
def cqW (q V i : Nat) : Nat := q * (V % 18446744073709551616 ^ i) / 18446744073709551616 ^ i
theorem cqW_zero (q V : Nat) : cqW q V 0 = 0 := by simp [cqW, Nat.mod_one]
theorem cqW_lt {q V i : Nat} (hq : q < 18446744073709551616) : cqW q V i ≤ 18446744073709551615 := by
  have h : cqW q V i < 18446744073709551616 := by
    unfold cqW
    rw [Nat.div_lt_iff_lt_mul (HposW i)]
    have h1 := Nat.mod_lt V (HposW i)
    have h2 : q * (V % 18446744073709551616 ^ i) ≤ q * 18446744073709551616 ^ i := Nat.mul_le_mul_left _ (Nat.le_of_lt h1)
    have h3 : (q + 1) * 18446744073709551616 ^ i ≤ 18446744073709551616 * 18446744073709551616 ^ i := Nat.mul_le_mul_right _ hq
    rw [Nat.add_mul] at h3
    have := HposW i
    omega
  omega
theorem cqW_step (q V i : Nat) : (q * dgw V i + cqW q V i) % 18446744073709551616 = dgw (q * V) i ∧ (q * dgw V i + cqW q V i) / 18446744073709551616 = cqW q V (i + 1) := by
  constructor
  · have e : q * V = q * (V % 18446744073709551616 ^ i) + q * (V / 18446744073709551616 ^ i) * 18446744073709551616 ^ i := by
      rw [Nat.mul_assoc, ← Nat.mul_add]
      congr 1
      exact (Nat.mod_add_div' V _).symm
    unfold dgw cqW
    conv => rhs; rw [e, Nat.add_mul_div_right _ _ (HposW i)]
    rw [Nat.add_mod, Nat.mul_mod, Nat.mod_mod, ← Nat.mul_mod, ← Nat.add_mod, Nat.add_comm]
  · unfold cqW
    rw [low_stepW, Nat.mul_add, ← Nat.mul_assoc, Nat.pow_succ, ← Nat.div_div_eq_div_mul, Nat.add_mul_div_right _ _ (HposW i), Nat.add_comm]
theorem cqW_end {q V n : Nat} (hq : q < 18446744073709551616) (hV : V < 18446744073709551616 ^ n) : cqW q V n = dgw (q * V) n := by
  have h : q * V < 18446744073709551616 ^ (n + 1) := by
    rw [Nat.pow_succ, Nat.mul_comm]
    exact Nat.mul_lt_mul'' hV hq
  rw [dgw_top h]
  unfold cqW
  rw [Nat.mod_eq_of_lt hV]
/-- d is X less P; above n + 1 digits one was borrowed, if X is less. -/
structure SubW (X P d n : Nat) : Prop where
  eq : d + P = X + (if X < P then 18446744073709551616 ^ (n + 1) else 0)
  x : X < 18446744073709551616 ^ (n + 1)
  p : P < 18446744073709551616 ^ (n + 1)
  d : d < 18446744073709551616 ^ (n + 1)
theorem SubW.step {X P d n : Nat} (h : SubW X P d n) {i : Nat} (hi : i ≤ n) : (dgw X i + 18446744073709551616 - dgw P i - cyW d P i) % 18446744073709551616 = dgw d i ∧ (if dgw X i < dgw P i + cyW d P i then 1 else 0) = cyW d P (i + 1) := by
  obtain ⟨h1, h2, h3⟩ := plus_stepW d P i
  have h4 : dgw (d + P) i = dgw X i := by
    rw [h.eq]
    split
    · rw [← dgw_low (show i < n + 1 by omega), Nat.add_mod_right, dgw_low (show i < n + 1 by omega)]
    · rfl
  rw [h4] at h1
  have := dgw_lt X i
  have := dgw_lt P i
  have := dgw_lt d i
  rw [← h2]
  constructor
  · omega
  · split <;> omega
theorem SubW.fin {X P d n : Nat} (h : SubW X P d n) : cyW d P (n + 1) = if X < P then 1 else 0 := by
  unfold cyW
  rw [Nat.mod_eq_of_lt h.d, Nat.mod_eq_of_lt h.p, h.eq]
  split
  · rw [Nat.add_div_right _ (HposW _), Nat.div_eq_of_lt h.x]
  · rw [Nat.add_zero, Nat.div_eq_of_lt h.x]
theorem SubW.mk' {X P n : Nat} (hX : X < 18446744073709551616 ^ (n + 1)) (hP : P < 18446744073709551616 ^ (n + 1)) : ∃ d, SubW X P d n := by
  by_cases h : X < P
  · exact ⟨X + 18446744073709551616 ^ (n + 1) - P, by rw [if_pos h]; omega, hX, hP, by omega⟩
  · exact ⟨X - P, by rw [if_neg h]; omega, hX, hP, by omega⟩
theorem cpyW_get {A d j k i : Nat} (h : i < k) : dgw (cpyW A d j k) (j + i) = dgw d i := by
  have e : cpyW A d j k = A % 18446744073709551616 ^ j + (d % 18446744073709551616 ^ k + hghW A (j + k) * 18446744073709551616 ^ k) * 18446744073709551616 ^ j := by
    unfold cpyW
    rw [Nat.add_mul, Nat.mul_assoc (hghW A (j + k)), ← Nat.pow_add, Nat.add_comm k j, Nat.add_assoc]
  rw [e, ← hgh_digW]
  unfold hghW
  rw [Nat.add_mul_div_right _ _ (HposW j), Nat.div_eq_of_lt (Nat.mod_lt _ (HposW j)), Nat.zero_add, ← dgw_low h, Nat.add_mul_mod_self_right, Nat.mod_mod, dgw_low h]
theorem cpyW_twice {A d e j n : Nat} (hd : d < 18446744073709551616 ^ n) (hh : hghW A (j + n) = 0) : hghW (cpyW A d j n) (j + n) = 0 ∧ cpyW (cpyW A d j n) e j n = cpyW A e j n := by
  have h0 : hghW (cpyW A d j n) (j + n) = 0 := by
    have h1 := cpyW_low A d j n
    unfold cpyW hghW at *
    rw [hh, Nat.zero_mul, Nat.add_zero]
    exact Nat.div_eq_of_lt h1
  refine ⟨h0, ?_⟩
  have h2 : cpyW A d j n % 18446744073709551616 ^ j = A % 18446744073709551616 ^ j := by
    rw [cpyW_end hd hh, Nat.add_mul_mod_self_right, Nat.mod_mod]
  obtain ⟨A1, hA1⟩ : ∃ A1, cpyW A d j n = A1 := ⟨_, rfl⟩
  rw [hA1] at h0 h2 ⊢
  unfold cpyW
  rw [h0, h2, hh]
/-- A digit once too great, put right. -/
theorem put_back {X V q d n : Nat} (hV : 0 < V) (hVn : V < 18446744073709551616 ^ n) (h : SubW X (q * V) d n) (hq : X / V ≤ q) (hq2 : q ≤ X / V + 1) :
    (X < q * V → q = X / V + 1 ∧ (d + V) % 18446744073709551616 ^ (n + 1) = X % V) ∧ (¬ X < q * V → q = X / V ∧ d = X % V) := by
  have e := Nat.div_add_mod X V
  have l := Nat.mod_lt X hV
  obtain ⟨Q, hQ⟩ : ∃ Q, X / V = Q := ⟨_, rfl⟩
  obtain ⟨R, hR⟩ : ∃ R, X % V = R := ⟨_, rfl⟩
  rw [hQ, hR] at e
  rw [hR] at l
  rw [hQ] at hq hq2 ⊢
  rw [hR]
  have heq := h.eq
  have h1 : 18446744073709551616 ^ n ≤ 18446744073709551616 ^ (n + 1) := Nat.pow_le_pow_right (by decide) (by omega)
  rw [Nat.mul_comm] at e
  constructor
  · intro hlt
    have hq3 : q = Q + 1 := by
      apply Classical.byContradiction
      intro hn
      obtain rfl : q = Q := by omega
      omega
    refine ⟨hq3, ?_⟩
    rw [if_pos hlt] at heq
    subst hq3
    rw [Nat.add_mul] at heq
    rw [show d + V = R + 18446744073709551616 ^ (n + 1) by omega, Nat.add_mod_right, Nat.mod_eq_of_lt (by omega)]
  · intro hlt
    have hq3 : q = Q := by
      apply Classical.byContradiction
      intro hn
      obtain rfl : q = Q + 1 := by omega
      rw [Nat.add_mul] at hlt
      omega
    subst hq3
    rw [if_neg hlt] at heq
    exact ⟨rfl, by omega⟩
end Go.Proofs.YtbhokdhkfodpfaaGreatDoor
