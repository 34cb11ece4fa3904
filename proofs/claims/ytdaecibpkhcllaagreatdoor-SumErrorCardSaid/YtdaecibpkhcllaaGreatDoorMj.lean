/- Sums and differences of the reference's integers. No condition. The lowest bits of a number; a real number of the reference and its exponent. No condition. A real number of the reference: an integer times a power of 2; its exponent. No condition. A real number in steps; a part rounded. No condition. A part rounded; the greatest float; what is beyond it. No condition. The greatest float, what is beyond it. No condition. The reference's rounding is the program's. No condition. Canonical floats, counted. No condition. -/
import Derived.Test.YtdaecibpkhcllaaGreatDoorMi
import Derived.Test.YtdaecibpkhcllaaGreatDoorMf
import Derived.Test.YtdaecibpkhcllaaGreatDoorMh
/- Sums and differences of the reference's integers. No condition. -/
namespace Go.Proofs.YtdaecibpkhcllaaGreatDoor
set_option linter.unusedVariables false
set_option linter.unusedSimpArgs false
variable {G : Gl}
set_option maxHeartbeats 4000000
set_option maxRecDepth 10000
theorem bl_le_ws {m : List Nat} (wm : Ws m) : bl (val m) ≤ 64 * m.length := bl_le_len wm (Nat.le_refl _)
theorem nat_len_of {v k : Nat} (h : bl v ≤ k) : (nat v).length ≤ k := Nat.le_trans (nat_len_bl v) h
theorem cmpP_ge (a b : Nat) : (0 ≤ cmpP a b) = (b ≤ a) := by
  unfold cmpP
  apply propext
  split
  · constructor <;> intro <;> omega
  · split <;> constructor <;> intro <;> omega
theorem IAdd3_does {n n' : Bool} {m m' : List Nat} (hm : m.length ≤ 8388608) (wm : Ws m) (hm' : m'.length ≤ 8388608) (wm' : Ws m') : Does Tryz.prog G 129 [Ig n m, Ig n' m'] (.v (Iv (sgn n (val m) + sgn n' (val m')))) := by
  have hA := @RAdd_does G m m' (by omega) wm (by omega) wm'
  have hC := @RCmp_does G m m' (by omega) wm (by omega) wm'
  have hS1 := fun h => @RSub_does G m m' (by omega) wm (by omega) wm' h
  have hS2 := fun h => @RSub_does G m' m (by omega) wm' (by omega) wm h
  have b1 := bl_le_ws wm
  have b2 := bl_le_ws wm'
  have b3 := bl_add_le (val m) (val m') 536870912 (by omega) (by omega)
  have hM := fun (b : Bool) v (h : (nat v).length ≤ 1073741824) => @IMake_does G b (nat v) h (nat_ws v)
  simp only [val_nat] at hM
  have hge := cmpP_ge (val m) (val m')
  have m1 : bl (val m - val m') ≤ bl (val m) := bl_mono (Nat.sub_le _ _)
  have m2 : bl (val m' - val m) ≤ bl (val m') := bl_mono (Nat.sub_le _ _)
  generalize cmpP (val m) (val m') = c at *
  generalize val m = a at *
  generalize val m' = b at *
  by_cases hn : n = n'
  · have hMM := hM n (a + b) (nat_len_of (by omega))
    subst hn
    rw [show sgn n (a + b) = sgn n a + sgn n b by cases n <;> simp [sgn] <;> omega] at hMM
    generalize sgn n a + sgn n b = z at *
    refine Does.of (nt := 42) Tryz.func129 rfl rfl rfl (by simp) ?_
    simp only [argTm, PV.ext, Ce.ext]
    refine Do.seqk fun _ k1_ => ?_
    refine Do.region [2,3,4] true ?_
    simp [go_sem]
    apply k1_; clear k1_
    refine Do.seqk fun _ k2_ => ?_
    refine Do.block ?_
    refine Do.seqk fun _ k3_ => ?_
    refine Do.region [2,3,4,5] true ?_
    simp [go_sem]
    repeat (refine And.intro (by first | omega | (intros; omega) | (intros; exact And.intro (by assumption) (by omega)) | grind) ?_)
    apply k3_; clear k3_
    refine Do.cond [2,3,4] rfl (fun h => ?_) (fun h => ?_) <;> simp [go_sem] at h ⊢
    refine Do.seqk fun _ k4_ => ?_
    refine Do.draw [4] true (by kernel_rfl) ?_
    simp [go_sem]
    repeat (refine And.intro (by first | omega | (intros; omega) | (intros; exact And.intro (by assumption) (by omega)) | kernel_rfl | grind) ?_)
    refine DoLD.call true 207 rfl rfl rfl rfl (by first | exact trivial | omega | (simp; done) | (simp; omega)) (hA) rfl (by first | exact .inl rfl | exact .inr rfl) rfl ?_
    simp [go_sem]
    refine DoLD.call true 208 rfl rfl rfl rfl (by first | exact trivial | omega | (simp; done) | (simp; omega)) (hMM) rfl (by first | exact .inl rfl | exact .inr rfl) rfl ?_
    simp [go_sem]
    repeat (refine And.intro (by first | omega | (intros; omega) | (intros; exact And.intro (by assumption) (by omega)) | kernel_rfl | grind) ?_)
    try (refine And.intro (by kernel_rfl) ?_)
    apply k4_; clear k4_
    refine Do.ret ?_
    simp [endQ, rets, ret1, go_sem]
    repeat (refine And.intro (by first | omega | (intros; omega) | (intros; exact And.intro (by assumption) (by omega)) | grind) ?_)
    exact TLe.refl _
  · by_cases h : b ≤ a
    · have hc : 0 ≤ c := by rw [hge]; exact h
      have hMM := hM n (a - b) (nat_len_of (by omega))
      have hSS := hS1 h
      rw [show sgn n (a - b) = sgn n a + sgn n' b by cases n <;> cases n' <;> simp [sgn] at hn ⊢ <;> omega] at hMM
      generalize sgn n a + sgn n' b = z at *
      refine Does.of (nt := 42) Tryz.func129 rfl rfl rfl (by simp) ?_
      simp only [argTm, PV.ext, Ce.ext]
      refine Do.seqk fun _ k1_ => ?_
      refine Do.region [2,3,4] true ?_
      simp [go_sem, show (n == n') = false from beq_false_of_ne hn, hc]
      apply k1_; clear k1_
      refine Do.seqk fun _ k2_ => ?_
      refine Do.block ?_
      refine Do.seqk fun _ k3_ => ?_
      refine Do.region [2,3,4,5] true ?_
      simp [go_sem, show (n == n') = false from beq_false_of_ne hn, hc]
      repeat (refine And.intro (by first | omega | (intros; omega) | (intros; exact And.intro (by assumption) (by omega)) | grind) ?_)
      apply k3_; clear k3_
      refine Do.cond [2,3,4] rfl (fun h1 => ?_) (fun h1 => ?_) <;> simp [go_sem, show (n == n') = false from beq_false_of_ne hn, hc] at h1 ⊢
      refine Do.seqk fun _ k4_ => ?_
      refine Do.region [2,3,4,19] true ?_
      simp [go_sem, show (n == n') = false from beq_false_of_ne hn, hc]
      repeat (refine And.intro (by first | omega | (intros; omega) | (intros; exact And.intro (by assumption) (by omega)) | grind) ?_)
      refine DoL.call true 305 rfl rfl rfl rfl (by first | exact trivial | omega | (simp; done) | (simp; omega)) (hC) rfl (by first | exact .inl rfl | exact .inr rfl) rfl ?_
      simp [go_sem, show (n == n') = false from beq_false_of_ne hn, hc]
      apply k4_; clear k4_
      refine Do.cond [2,3,4] rfl (fun h2 => ?_) (fun h2 => ?_) <;> simp [go_sem, show (n == n') = false from beq_false_of_ne hn, hc] at h2 ⊢
      refine Do.seqk fun _ k5_ => ?_
      refine Do.draw [4] true (by kernel_rfl) ?_
      simp [go_sem, show (n == n') = false from beq_false_of_ne hn, hc]
      repeat (refine And.intro (by first | omega | (intros; omega) | (intros; exact And.intro (by assumption) (by omega)) | kernel_rfl | grind) ?_)
      refine DoLD.call true 407 rfl rfl rfl rfl (by first | exact trivial | omega | (simp; done) | (simp; omega)) (hSS) rfl (by first | exact .inl rfl | exact .inr rfl) rfl ?_
      simp [go_sem, show (n == n') = false from beq_false_of_ne hn, hc]
      refine DoLD.call true 408 rfl rfl rfl rfl (by first | exact trivial | omega | (simp; done) | (simp; omega)) (hMM) rfl (by first | exact .inl rfl | exact .inr rfl) rfl ?_
      simp [go_sem, show (n == n') = false from beq_false_of_ne hn, hc]
      repeat (refine And.intro (by first | omega | (intros; omega) | (intros; exact And.intro (by assumption) (by omega)) | kernel_rfl | grind) ?_)
      try (refine And.intro (by kernel_rfl) ?_)
      apply k5_; clear k5_
      refine Do.ret ?_
      simp [endQ, rets, ret1, go_sem, show (n == n') = false from beq_false_of_ne hn, hc]
      repeat (refine And.intro (by first | omega | (intros; omega) | (intros; exact And.intro (by assumption) (by omega)) | grind) ?_)
      exact TLe.refl _
    · have hc : ¬ 0 ≤ c := by rw [hge]; exact h
      have hMM := hM n' (b - a) (nat_len_of (by omega))
      have hSS := hS2 (by omega)
      rw [show sgn n' (b - a) = sgn n a + sgn n' b by cases n <;> cases n' <;> simp [sgn] at hn ⊢ <;> omega] at hMM
      generalize sgn n a + sgn n' b = z at *
      refine Does.of (nt := 42) Tryz.func129 rfl rfl rfl (by simp) ?_
      simp only [argTm, PV.ext, Ce.ext]
      refine Do.seqk fun _ k1_ => ?_
      refine Do.region [2,3,4] true ?_
      simp [go_sem, show (n == n') = false from beq_false_of_ne hn, hc]
      apply k1_; clear k1_
      refine Do.seqk fun _ k2_ => ?_
      refine Do.block ?_
      refine Do.seqk fun _ k3_ => ?_
      refine Do.region [2,3,4,5] true ?_
      simp [go_sem, show (n == n') = false from beq_false_of_ne hn, hc]
      repeat (refine And.intro (by first | omega | (intros; omega) | (intros; exact And.intro (by assumption) (by omega)) | grind) ?_)
      apply k3_; clear k3_
      refine Do.cond [2,3,4] rfl (fun h1 => ?_) (fun h1 => ?_) <;> simp [go_sem, show (n == n') = false from beq_false_of_ne hn, hc] at h1 ⊢
      refine Do.seqk fun _ k4_ => ?_
      refine Do.region [2,3,4,19] true ?_
      simp [go_sem, show (n == n') = false from beq_false_of_ne hn, hc]
      repeat (refine And.intro (by first | omega | (intros; omega) | (intros; exact And.intro (by assumption) (by omega)) | grind) ?_)
      refine DoL.call true 305 rfl rfl rfl rfl (by first | exact trivial | omega | (simp; done) | (simp; omega)) (hC) rfl (by first | exact .inl rfl | exact .inr rfl) rfl ?_
      simp [go_sem, show (n == n') = false from beq_false_of_ne hn, hc]
      apply k4_; clear k4_
      refine Do.cond [2,3,4] rfl (fun h2 => ?_) (fun h2 => ?_) <;> simp [go_sem, show (n == n') = false from beq_false_of_ne hn, hc] at h2 ⊢
      refine Do.skip ?_
      simp [go_sem]
      apply k2_; clear k2_
      refine Do.seqk fun _ k5_ => ?_
      refine Do.draw [4] true (by kernel_rfl) ?_
      simp [go_sem, show (n == n') = false from beq_false_of_ne hn, hc]
      repeat (refine And.intro (by first | omega | (intros; omega) | (intros; exact And.intro (by assumption) (by omega)) | kernel_rfl | grind) ?_)
      refine DoLD.call true 507 rfl rfl rfl rfl (by first | exact trivial | omega | (simp; done) | (simp; omega)) (hSS) rfl (by first | exact .inl rfl | exact .inr rfl) rfl ?_
      simp [go_sem, show (n == n') = false from beq_false_of_ne hn, hc]
      refine DoLD.call true 508 rfl rfl rfl rfl (by first | exact trivial | omega | (simp; done) | (simp; omega)) (hMM) rfl (by first | exact .inl rfl | exact .inr rfl) rfl ?_
      simp [go_sem, show (n == n') = false from beq_false_of_ne hn, hc]
      repeat (refine And.intro (by first | omega | (intros; omega) | (intros; exact And.intro (by assumption) (by omega)) | kernel_rfl | grind) ?_)
      try (refine And.intro (by kernel_rfl) ?_)
      apply k5_; clear k5_
      refine Do.ret ?_
      simp [endQ, rets, ret1, go_sem, show (n == n') = false from beq_false_of_ne hn, hc]
      repeat (refine And.intro (by first | omega | (intros; omega) | (intros; exact And.intro (by assumption) (by omega)) | grind) ?_)
      exact TLe.refl _
theorem IAdd_does {n n' : Bool} {m m' : List Nat} (hm : m.length ≤ 8388608) (wm : Ws m) (hm' : m'.length ≤ 8388608) (wm' : Ws m') : Does Tryz.prog G 86 [Ig n m, Ig n' m'] (.v (Iv (sgn n (val m) + sgn n' (val m')))) := by
  have hM := @IAdd3_does G n n' m m' hm wm hm' wm'
  generalize sgn n (val m) + sgn n' (val m') = z at *
  refine Does.of (nt := 8) Tryz.func86 rfl rfl rfl (by simp) ?_
  simp only [argTm, PV.ext, Ce.ext]
  refine Do.seqk fun _ k1_ => ?_
  refine Do.region [2,3,4] true ?_
  simp [go_sem]
  apply k1_; clear k1_
  refine Do.seqk fun _ k2_ => ?_
  refine Do.region [4] true ?_
  simp [go_sem]
  repeat (refine And.intro (by first | omega | (intros; omega) | (intros; exact And.intro (by assumption) (by omega)) | grind) ?_)
  refine DoL.call true 103 rfl rfl rfl rfl (by first | exact trivial | omega | (simp; done) | (simp; omega)) (hM) rfl (by first | exact .inl rfl | exact .inr rfl) rfl ?_
  simp [go_sem]
  repeat (refine And.intro (by first | omega | (intros; omega) | (intros; exact And.intro (by assumption) (by omega)) | grind) ?_)
  apply k2_; clear k2_
  refine Do.ret ?_
  simp [endQ, rets, ret1, go_sem]
  repeat (refine And.intro (by first | omega | (intros; omega) | (intros; exact And.intro (by assumption) (by omega)) | grind) ?_)
  exact TLe.refl _
theorem IMul_does {n n' : Bool} {m m' : List Nat} (hm : m.length ≤ 536870912) (wm : Ws m) (hm' : m'.length ≤ 268435456) (wm' : Ws m') : Does Tryz.prog G 32 [Ig n m, Ig n' m'] (.v (Iv (sgn n (val m) * sgn n' (val m')))) := by
  have hM := @IMul3_does G n n' m m' hm wm hm' wm'
  generalize sgn n (val m) * sgn n' (val m') = z at *
  refine Does.of (nt := 8) Tryz.func32 rfl rfl rfl (by simp) ?_
  simp only [argTm, PV.ext, Ce.ext]
  refine Do.seqk fun _ k1_ => ?_
  refine Do.region [2,3,4] true ?_
  simp [go_sem]
  apply k1_; clear k1_
  refine Do.seqk fun _ k2_ => ?_
  refine Do.region [4] true ?_
  simp [go_sem]
  repeat (refine And.intro (by first | omega | (intros; omega) | (intros; exact And.intro (by assumption) (by omega)) | grind) ?_)
  refine DoL.call true 103 rfl rfl rfl rfl (by first | exact trivial | omega | (simp; done) | (simp; omega)) (hM) rfl (by first | exact .inl rfl | exact .inr rfl) rfl ?_
  simp [go_sem]
  repeat (refine And.intro (by first | omega | (intros; omega) | (intros; exact And.intro (by assumption) (by omega)) | grind) ?_)
  apply k2_; clear k2_
  refine Do.ret ?_
  simp [endQ, rets, ret1, go_sem]
  repeat (refine And.intro (by first | omega | (intros; omega) | (intros; exact And.intro (by assumption) (by omega)) | grind) ?_)
  exact TLe.refl _
theorem IFrom3_does {k : Nat} (hk : k < 9223372036854775808) : Does Tryz.prog G 81 [.c (.i .i64 k)] (.v (Iv k)) := by
  have hW := @RWord_does G k (by omega)
  have hM := @IMake_does G false (nat k) (by have := nat_len_of (v := k) (k := 64) ((bl_lt _ _).2 (by omega)); omega) (nat_ws k)
  rw [val_nat, show sgn false k = (k : Int) from rfl] at hM
  refine Does.of (nt := 14) Tryz.func81 rfl rfl rfl (by simp) ?_
  simp only [argTm, PV.ext, Ce.ext]
  refine Do.seqk fun _ k1_ => ?_
  refine Do.region [0,2] true ?_
  simp [go_sem, show ¬ (k : Int) < 0 by omega]
  apply k1_; clear k1_
  refine Do.seqk fun _ k2_ => ?_
  refine Do.seqk fun _ k3_ => ?_
  refine Do.region [0,2,4] true ?_
  simp [go_sem, show ¬ (k : Int) < 0 by omega]
  apply k3_; clear k3_
  refine Do.cond [0,2] rfl (fun h => ?_) (fun h => ?_) <;> simp [go_sem, show ¬ (k : Int) < 0 by omega] at h ⊢
  refine Do.skip ?_
  simp [go_sem]
  apply k2_; clear k2_
  refine Do.seqk fun _ k4_ => ?_
  refine Do.region [2] true ?_
  simp [go_sem, show ¬ (k : Int) < 0 by omega]
  repeat (refine And.intro (by first | omega | (intros; omega) | (intros; exact And.intro (by assumption) (by omega)) | grind) ?_)
  refine DoL.call true 303 rfl rfl rfl rfl (by first | exact trivial | omega | (simp; done) | (simp; omega)) (hW) rfl (by first | exact .inl rfl | exact .inr rfl) rfl ?_
  simp [go_sem, show ¬ (k : Int) < 0 by omega]
  refine DoL.call true 304 rfl rfl rfl rfl (by first | exact trivial | omega | (simp; done) | (simp; omega)) (hM) rfl (by first | exact .inl rfl | exact .inr rfl) rfl ?_
  simp [go_sem, show ¬ (k : Int) < 0 by omega]
  repeat (refine And.intro (by first | omega | (intros; omega) | (intros; exact And.intro (by assumption) (by omega)) | grind) ?_)
  apply k4_; clear k4_
  refine Do.ret ?_
  simp [endQ, rets, ret1, go_sem, show ¬ (k : Int) < 0 by omega]
  repeat (refine And.intro (by first | omega | (intros; omega) | (intros; exact And.intro (by assumption) (by omega)) | grind) ?_)
  exact TLe.refl _
theorem IFrom_does {k : Nat} (hk : k < 9223372036854775808) : Does Tryz.prog G 34 [.c (.i .i64 k)] (.v (Iv k)) := by
  have hM := @IFrom3_does G k hk
  refine Does.of (nt := 5) Tryz.func34 rfl rfl rfl (by simp) ?_
  simp only [argTm, PV.ext, Ce.ext]
  refine Do.seqk fun _ k1_ => ?_
  refine Do.region [0,2] true ?_
  simp [go_sem]
  apply k1_; clear k1_
  refine Do.seqk fun _ k2_ => ?_
  refine Do.region [2] true ?_
  simp [go_sem]
  refine DoL.call true 102 rfl rfl rfl rfl (by first | exact trivial | omega | (simp; done) | (simp; omega)) (hM) rfl (by first | exact .inl rfl | exact .inr rfl) rfl ?_
  simp [go_sem]
  repeat (refine And.intro (by first | omega | (intros; omega) | (intros; exact And.intro (by assumption) (by omega)) | grind) ?_)
  apply k2_; clear k2_
  refine Do.ret ?_
  simp [endQ, rets, ret1, go_sem]
  repeat (refine And.intro (by first | omega | (intros; omega) | (intros; exact And.intro (by assumption) (by omega)) | grind) ?_)
  exact TLe.refl _
end Go.Proofs.YtdaecibpkhcllaaGreatDoor
/- The lowest bits of a number; a real number of the reference and its exponent. No condition. -/
namespace Go.Proofs.YtdaecibpkhcllaaGreatDoor
set_option linter.unusedVariables false
set_option linter.unusedSimpArgs false
variable {G : Gl}
set_option maxHeartbeats 4000000
set_option maxRecDepth 10000
theorem PLe.agg {l l' : List Ce} (h : All2 (fun c d => PLe (.c c) (.c d)) l l') : PLe (.a l) (.a l') := by
  rintro E v ⟨vs, h1, h2⟩
  refine ⟨vs, h1, ?_⟩
  clear h1
  generalize vs.toList = ws at *
  induction h generalizing ws with
  | nil => exact h2
  | cons g _ ih =>
    obtain ⟨w, r, rfl, a, b⟩ := h2.cons_iff
    exact .cons (g _ _ a) (ih _ b)
/-- The i-th word of what s bits hold. -/
theorem low_word {n s i : Nat} (h : 64 * i < s) : n % 2 ^ s / 18446744073709551616 ^ i % 18446744073709551616 = if s - 64 * i < 64 then n / 18446744073709551616 ^ i % 18446744073709551616 % 2 ^ (s - 64 * i) else n / 18446744073709551616 ^ i % 18446744073709551616 := by
  obtain ⟨q, rfl⟩ : ∃ q, s = 64 * i + q := ⟨s - 64 * i, by omega⟩
  rw [B64_pow, Nat.pow_add, Nat.mod_mul_right_div_self, show 64 * i + q - 64 * i = q by omega]
  generalize n / 2 ^ (64 * i) = m
  split
  · rename_i hq
    have e : (18446744073709551616 : Nat) = 2 ^ q * 2 ^ (64 - q) := by rw [← Nat.pow_add, show q + (64 - q) = 64 by omega]
    have l1 : m % 2 ^ q < 18446744073709551616 := by
      have := Nat.mod_lt m (Nat.pow_pos (n := q) (show 0 < 2 by decide))
      have : 2 ^ q < 2 ^ 64 := Nat.pow_lt_pow_right (by decide) hq
      omega
    rw [Nat.mod_eq_of_lt l1, e, Nat.mod_mul_right_mod]
  · rename_i hq
    obtain ⟨t, rfl⟩ : ∃ t, q = 64 + t := ⟨q - 64, by omega⟩
    rw [Nat.pow_add, show (2 : Nat) ^ 64 = 18446744073709551616 from rfl, Nat.mod_mul_right_mod]
theorem RLow_does {x : List Nat} {s : Nat} (hx : x.length ≤ 1073741824) (hw : Ws x) (hs : s < 4611686018427387904) : Does Tryz.prog G 114 [Wd x, .c (.i .i64 s)] (.v (Wn (nat (val x % 2 ^ s)))) := by
  have hT := fun i (hi : i ≤ 1073741824) => @RTrim_does G (wds (val x % 2 ^ s) i) (by rw [wds_len]; exact hi) (wds_ws _ _)
  have hlw := fun i h => @low_word (val x) s i h
  have hend : ∀ i, i ≤ x.length → (x.length ≤ i ∨ s ≤ 64 * i) → val (wds (val x % 2 ^ s) i) = val x % 2 ^ s := fun i hi h => by
    rw [val_wds, Nat.mod_eq_of_lt]
    rcases h with h | h
    · have := val_lt hw
      rw [show i = x.length by omega]
      exact Nat.lt_of_le_of_lt (Nat.mod_le _ _) this
    · rw [B64_pow]
      exact Nat.lt_of_lt_of_le (Nat.mod_lt _ (Nat.pow_pos (by decide))) (Nat.pow_le_pow_right (by decide) h)
  have hget := fun i hi => @ws_get x hw i hi
  have hsn := fun i => wds_snoc i (val x % 2 ^ s)
  have hz : wds (val x % 2 ^ s) 0 = [] := rfl
  generalize val x % 2 ^ s = N at *
  obtain ⟨X, hX⟩ : ∃ X : Nat → Nat, ∀ i, X i = val x / 18446744073709551616 ^ i % 18446744073709551616 := ⟨fun i => _, fun _ => rfl⟩
  simp only [← hX] at hget hlw
  obtain ⟨Y, hY⟩ : ∃ Y : Nat → Nat, ∀ i, Y i = N / 18446744073709551616 ^ i % 18446744073709551616 := ⟨fun i => _, fun _ => rfl⟩
  simp only [← hY] at hsn hlw
  refine Does.of (nt := 42) Tryz.func114 rfl rfl rfl (by simp) ?_
  simp only [argTm, PV.ext, Ce.ext]
  refine Do.seqk fun _ k1_ => ?_
  refine Do.region [0,1] true ?_
  simp [go_sem]
  apply k1_; clear k1_
  refine Do.seqk fun _ k2_ => ?_
  refine Do.region [0,1,5] true ?_
  simp [go_sem]
  apply k2_; clear k2_
  refine Do.seqk fun _ k3_ => ?_
  refine Do.seqk fun _ k4_ => ?_
  refine Do.region [0,1,5,6] true ?_
  simp [go_sem]
  apply k4_; clear k4_
  refine Do.block ?_
  refine Do.ownW 5 900 rfl rfl (by decide) ?_
  simp [go_sem]
  refine Do.loopF [0,1,5,6] (fun (i : Nat) => [(5, .v (.c (.r 900 i))), (6, .int .i64 i)]) (fun (i : Nat) => [(900, .wr (wds N i))]) (fun (i : Nat) => i ≤ x.length) (fun (i : Nat) => x.length - i) (0) (fun _ => by first | (simp [go_sem, mixS]; done) | (simp [go_sem, mixS]; rfl)) (St.le_of (by simp [keep]) (by simp [keep, hz])) (Nat.zero_le _) ?_
  intro i hi
  refine Do.seqk fun _ k5_ => ?_
  refine Do.seqk fun _ k6_ => ?_
  refine Do.region [0,1,5,6,17] true ?_
  simp [go_sem]
  repeat (refine And.intro (by first | omega | (intros; omega) | (intros; exact And.intro (by assumption) (by omega)) | grind) ?_)
  apply k6_; clear k6_
  refine Do.cond [0,1,5,6] rfl (fun h => ?_) (fun h => ?_) <;> simp [go_sem] at h ⊢
  · have hg := hget i h.1
    have hl := hlw i (by omega)
    refine Do.skip ?_
    simp [go_sem]
    apply k5_; clear k5_
    refine Do.seqk fun _ k7_ => ?_
    refine Do.block ?_
    refine Do.seqk fun _ k8_ => ?_
    refine Do.region [0,1,5,6,7] true ?_
    simp [go_sem, hg]
    repeat (refine And.intro (by first | omega | (intros; omega) | (intros; exact And.intro (by assumption) (by omega)) | grind) ?_)
    apply k8_; clear k8_
    refine Do.seqk fun _ k9_ => ?_
    refine Do.seqk fun _ k10_ => ?_
    refine Do.region [0,1,5,6,7,28] true ?_
    simp [go_sem, hg]
    repeat (refine And.intro (by first | omega | (intros; omega) | (intros; exact And.intro (by assumption) (by omega)) | grind) ?_)
    apply k10_; clear k10_
    refine Do.cond [0,1,5,6,7] rfl (fun h2 => ?_) (fun h2 => ?_) <;> simp [go_sem, hg] at h2 ⊢
    · have e1 : ((s : Int) - 64 * i).toNat = s - 64 * i := by omega
      have e2 : 2 ^ (s - 64 * i) % M64 = 2 ^ (s - 64 * i) := Nat.mod_eq_of_lt (show _ < 18446744073709551616 from Nat.lt_of_lt_of_le (Nat.pow_lt_pow_right (by decide) (show s - 64 * i < 64 by omega)) (by decide))
      rw [if_pos (by omega)] at hl
      have e3 : 0 < 2 ^ (s - 64 * i) := Nat.pow_pos (by decide)
      refine Do.region [0,1,5,6,7] true ?_
      simp [go_sem, e1, e2, e3]
      repeat (refine And.intro (by first | omega | (intros; omega) | (intros; exact And.intro (by assumption) (by omega)) | grind) ?_)
      apply k9_; clear k9_
      refine Do.region [0,1,5,6] true ?_
      simp [go_sem, e1, e2, e3]
      repeat (refine And.intro (by first | omega | (intros; omega) | (intros; exact And.intro (by assumption) (by omega)) | grind) ?_)
      apply k7_; clear k7_
      refine Do.region [0,1,5,6] true ?_
      simp [go_sem, e1, e2, e3]
      repeat (refine And.intro (by first | omega | (intros; omega) | (intros; exact And.intro (by assumption) (by omega)) | grind) ?_)
      refine ⟨i + 1, St.le_of rfl (by simp [keep, hsn, hl]), by omega, by simp; omega⟩
    · rw [if_neg (by omega)] at hl
      refine Do.skip ?_
      simp [go_sem]
      apply k9_; clear k9_
      refine Do.region [0,1,5,6] true ?_
      simp [go_sem, hg]
      repeat (refine And.intro (by first | omega | (intros; omega) | (intros; exact And.intro (by assumption) (by omega)) | grind) ?_)
      apply k7_; clear k7_
      refine Do.region [0,1,5,6] true ?_
      simp [go_sem, hg]
      repeat (refine And.intro (by first | omega | (intros; omega) | (intros; exact And.intro (by assumption) (by omega)) | grind) ?_)
      refine ⟨i + 1, St.le_of rfl (by simp [keep, hsn, hl]), by omega, by simp; omega⟩
  · have hv := hend i hi (by omega)
    have ht := hT i (by omega)
    rw [hv] at ht
    refine Do.exit ?_
    simp [go_sem]
    apply k3_; clear k3_
    refine Do.seqk fun _ k11_ => ?_
    refine Do.region [4] true ?_
    simp [go_sem]
    refine DoL.frz true 901 900 rfl ?_
    simp [go_sem]
    refine DoL.call true 902 rfl rfl rfl rfl (by first | exact trivial | omega | (simp; done) | (simp; omega)) (ht) rfl (by first | exact .inl rfl | exact .inr rfl) rfl ?_
    simp [go_sem]
    apply k11_; clear k11_
    refine Do.ret ?_
    simp [endQ, rets, ret1, go_sem]
    repeat (refine And.intro (by first | omega | (intros; omega) | (intros; exact And.intro (by assumption) (by omega)) | grind) ?_)
    exact TLe.refl _
end Go.Proofs.YtdaecibpkhcllaaGreatDoor
/- A real number of the reference: an integer times a power of 2; its exponent. No condition. -/
namespace Go.Proofs.YtdaecibpkhcllaaGreatDoor
set_option linter.unusedVariables false
set_option linter.unusedSimpArgs false
variable {G : Gl}
set_option maxHeartbeats 4000000
set_option maxRecDepth 10000
/-- The real number v 2^e with a sign. -/
abbrev Rl (n : Bool) (v : Nat) (e : Int) : PV := .a [.b n, .w false (nat v), .w false (nat 1), .i .i64 e, .i .i64 1]
theorem Scaled_does {n : Bool} {m : List Nat} {e : Int} (hm : m.length ≤ 1073741824) (wm : Ws m) : Does Tryz.prog G 31 [Ig n m, .c (.i .i64 e)] (.v (Rl (decide (sgn n (val m) < 0)) (val m) e)) := by
  have hS := @ISign_does G n m hm wm
  have hT := @RTrim_does G m hm wm
  have hW := @RWord_does G 1 (by decide)
  generalize sgn n (val m) = z at *
  refine Does.of (nt := 14) Tryz.func31 rfl rfl rfl (by simp) ?_
  simp only [argTm, PV.ext, Ce.ext]
  refine Do.seqk fun _ k1_ => ?_
  refine Do.region [1,2,4] true ?_
  simp [go_sem]
  apply k1_; clear k1_
  refine Do.seqk fun _ k2_ => ?_
  refine Do.draw [4] true (by kernel_rfl) ?_
  simp [go_sem]
  repeat (refine And.intro (by first | omega | (intros; omega) | (intros; exact And.intro (by assumption) (by omega)) | kernel_rfl | grind) ?_)
  refine DoLD.call true 102 rfl rfl rfl rfl (by first | exact trivial | omega | (simp; done) | (simp; omega)) (hS) rfl (by first | exact .inl rfl | exact .inr rfl) rfl ?_
  simp [go_sem]
  repeat (refine And.intro (by first | omega | (intros; omega) | (intros; exact And.intro (by assumption) (by omega)) | kernel_rfl | grind) ?_)
  refine DoLD.call true 106 rfl rfl rfl rfl (by first | exact trivial | omega | (simp; done) | (simp; omega)) (hT) rfl (by first | exact .inl rfl | exact .inr rfl) rfl ?_
  simp [go_sem]
  refine DoLD.call true 107 rfl rfl rfl rfl (by first | exact trivial | omega | (simp; done) | (simp; omega)) (hW) rfl (by first | exact .inl rfl | exact .inr rfl) rfl ?_
  simp [go_sem]
  repeat (refine And.intro (by first | omega | (intros; omega) | (intros; exact And.intro (by assumption) (by omega)) | kernel_rfl | grind) ?_)
  try (refine And.intro (by kernel_rfl) ?_)
  apply k2_; clear k2_
  refine Do.ret ?_
  simp [endQ, rets, ret1, go_sem]
  repeat (refine And.intro (by first | omega | (intros; omega) | (intros; exact And.intro (by assumption) (by omega)) | grind) ?_)
  exact TLe.v (PLe.agg (.cons (PLe.refl _) (.cons (PLe.ext (.c (.w true _))) (.cons (PLe.ext (.c (.w true _))) (.cons (PLe.refl _) (.cons (PLe.refl _) .nil))))))
theorem floor_does {a : Int} (ha : I64 a) : Does Tryz.prog G 107 [.c (.i .i64 a), .c (.i .i64 1)] (.int .i64 a) := by
  have hw : IntKind.i64.wrap a = a := wrap_in (by rw [inK_i64]; exact ha)
  refine Does.of (nt := 16) Tryz.func107 rfl rfl rfl (by simp) ?_
  simp only [argTm, PV.ext, Ce.ext]
  refine Do.seqk fun _ k1_ => ?_
  refine Do.region [0,1] true ?_
  simp [go_sem, hw, Int.tdiv_one, Int.tmod_one]
  apply k1_; clear k1_
  refine Do.seqk fun _ k2_ => ?_
  refine Do.region [0,1,5] false ?_
  simp [go_sem, hw, Int.tdiv_one, Int.tmod_one]
  repeat (refine And.intro (by first | omega | (intros; omega) | (intros; exact And.intro (by assumption) (by omega)) | grind) ?_)
  apply k2_; clear k2_
  refine Do.seqk fun _ k3_ => ?_
  refine Do.seqk fun _ k4_ => ?_
  refine Do.region [5,12] false ?_
  simp [go_sem, hw, Int.tdiv_one, Int.tmod_one]
  repeat (refine And.intro (by first | omega | (intros; omega) | (intros; exact And.intro (by assumption) (by omega)) | grind) ?_)
  apply k4_; clear k4_
  refine Do.cond [5] rfl (fun h => ?_) (fun h => ?_) <;> simp [go_sem, hw, Int.tdiv_one, Int.tmod_one] at h ⊢
  refine Do.skip ?_
  simp [go_sem]
  apply k3_; clear k3_
  refine Do.seqk fun _ k5_ => ?_
  refine Do.region [4] true ?_
  simp [go_sem, hw, Int.tdiv_one, Int.tmod_one]
  apply k5_; clear k5_
  refine Do.ret ?_
  simp [endQ, rets, ret1, go_sem, hw, Int.tdiv_one, Int.tmod_one]
  repeat (refine And.intro (by first | omega | (intros; omega) | (intros; exact And.intro (by assumption) (by omega)) | grind) ?_)
  exact TLe.refl _
theorem RLog_does {v : Nat} {e : Int} (hv : 0 < v) (hb : bl v ≤ 16777216) (he : Md e) : Does Tryz.prog G 108 [Wd (nat v), Wd (nat 1), .c (.i .i64 e)] (.int .i64 (bl v - 1 + e)) := by
  have hl : (nat v).length ≤ 16777216 := nat_len_of hb
  have h1 := @RLen_does G (nat v) (by omega) (nat_ws _)
  have h2 := @RLen_does G (nat 1) (by rw [nat_one]; decide) (nat_ws _)
  rw [val_nat] at h1 h2
  have hb1 : bl 1 = 1 := by decide
  rw [hb1] at h2
  have hp := bl_pos hv
  obtain ⟨d, hd⟩ : ∃ d, bl v = d + 1 := ⟨bl v - 1, by omega⟩
  have hlow : 2 ^ d ≤ v := (bl_le _ _).1 (by omega)
  have hbl : bl (2 ^ d) ≤ bl v := bl_mono hlow
  rw [hd] at h1 hb hbl ⊢
  rw [show ((d + 1 : Nat) : Int) = (d : Int) + 1 by omega] at h1 ⊢
  have h3 := @RLeft_does G (nat 1) d (by rw [nat_one]; decide) (nat_ws _) (by omega)
  rw [val_nat, Nat.one_mul] at h3
  have h3' := @RLeft_does G (nat v) 0 (by omega) (nat_ws _) (by omega)
  rw [val_nat, Nat.pow_zero, Nat.mul_one] at h3'
  have h4 := @RCmp_does G (nat v) (nat (2 ^ d)) (by omega) (nat_ws _) (by have := nat_len_of hbl; omega) (nat_ws _)
  rw [val_nat, val_nat] at h4
  have h5 : 0 ≤ cmpP v (2 ^ d) := by rw [cmpP_ge]; exact hlow
  have h6 : d = 0 → 2 ^ d = 1 := fun h => by rw [h]
  generalize cmpP v (2 ^ d) = c at *
  generalize 2 ^ d = p at *
  have h9 : ¬ c < 0 := by omega
  have e9 : (d : Int) + 1 - 1 = d := by omega
  by_cases h7 : d = 0
  · obtain rfl := h6 h7
    subst h7
    refine Does.of (nt := 35) Tryz.func108 rfl rfl rfl (by simp) ?_
    simp only [argTm, PV.ext, Ce.ext]
    refine Do.seqk fun _ k1_ => ?_
    refine Do.region [0,1,2] true ?_
    simp [go_sem, h9]
    apply k1_; clear k1_
    refine Do.seqk fun _ k2_ => ?_
    refine Do.region [0,1,2,7] true ?_
    simp [go_sem, h9]
    refine DoL.call true 102 rfl rfl rfl rfl (by first | exact trivial | omega | (simp; done) | (simp; omega)) (h1) rfl (by first | exact .inl rfl | exact .inr rfl) rfl ?_
    simp [go_sem, h9]
    refine DoL.call true 104 rfl rfl rfl rfl (by first | exact trivial | omega | (simp; done) | (simp; omega)) (h2) rfl (by first | exact .inl rfl | exact .inr rfl) rfl ?_
    simp [go_sem, h9]
    repeat (refine And.intro (by first | omega | (intros; omega) | (intros; exact And.intro (by assumption) (by omega)) | grind) ?_)
    apply k2_; clear k2_
    refine Do.seqk fun _ k3_ => ?_
    refine Do.region [0,1,2,7,8,9] true ?_
    simp [go_sem, h9]
    apply k3_; clear k3_
    refine Do.seqk fun _ k4_ => ?_
    refine Do.seqk fun _ k5_ => ?_
    refine Do.region [0,1,2,7,8,9,18] true ?_
    simp [go_sem, h9]
    apply k5_; clear k5_
    refine Do.cond [0,1,2,7,8,9] rfl (fun h => ?_) (fun h => ?_) <;> simp [go_sem, h9] at h ⊢
    refine Do.region [2,7,8,9] true ?_
    simp [go_sem, h9]
    repeat (refine And.intro (by first | omega | (intros; omega) | (intros; exact And.intro (by assumption) (by omega)) | grind) ?_)
    refine DoL.call true 504 rfl rfl rfl rfl (by first | exact trivial | omega | (simp; done) | (simp; omega)) (h3') rfl (by first | exact .inl rfl | exact .inr rfl) rfl ?_
    simp [go_sem, h9]
    apply k4_; clear k4_
    refine Do.seqk fun _ k6_ => ?_
    refine Do.seqk fun _ k7_ => ?_
    refine Do.region [2,7,29] true ?_
    simp [go_sem, h9]
    refine DoL.call true 603 rfl rfl rfl rfl (by first | exact trivial | omega | (simp; done) | (simp; omega)) (h4) rfl (by first | exact .inl rfl | exact .inr rfl) rfl ?_
    simp [go_sem, h9]
    apply k7_; clear k7_
    refine Do.cond [2,7] rfl (fun h => ?_) (fun h => ?_) <;> simp [go_sem, h9] at h ⊢
    refine Do.skip ?_
    simp [go_sem]
    apply k6_; clear k6_
    refine Do.seqk fun _ k8_ => ?_
    refine Do.region [6] true ?_
    simp [go_sem, h9]
    repeat (refine And.intro (by first | omega | (intros; omega) | (intros; exact And.intro (by assumption) (by omega)) | grind) ?_)
    apply k8_; clear k8_
    refine Do.ret ?_
    simp [endQ, rets, ret1, go_sem, h9]
    repeat (refine And.intro (by first | omega | (intros; omega) | (intros; exact And.intro (by assumption) (by omega)) | grind) ?_)
    exact ret_i (by omega)
  · have h8 : 0 < d := by omega
    refine Does.of (nt := 35) Tryz.func108 rfl rfl rfl (by simp) ?_
    simp only [argTm, PV.ext, Ce.ext]
    refine Do.seqk fun _ k1_ => ?_
    refine Do.region [0,1,2] true ?_
    simp [go_sem, h9, e9, h8]
    apply k1_; clear k1_
    refine Do.seqk fun _ k2_ => ?_
    refine Do.region [0,1,2,7] true ?_
    simp [go_sem, h9, e9, h8]
    refine DoL.call true 102 rfl rfl rfl rfl (by first | exact trivial | omega | (simp; done) | (simp; omega)) (h1) rfl (by first | exact .inl rfl | exact .inr rfl) rfl ?_
    simp [go_sem, h9, e9, h8]
    refine DoL.call true 104 rfl rfl rfl rfl (by first | exact trivial | omega | (simp; done) | (simp; omega)) (h2) rfl (by first | exact .inl rfl | exact .inr rfl) rfl ?_
    simp [go_sem, h9, e9, h8]
    repeat (refine And.intro (by first | omega | (intros; omega) | (intros; exact And.intro (by assumption) (by omega)) | grind) ?_)
    apply k2_; clear k2_
    refine Do.seqk fun _ k3_ => ?_
    refine Do.region [0,1,2,7,8,9] true ?_
    simp [go_sem, h9, e9, h8]
    apply k3_; clear k3_
    refine Do.seqk fun _ k4_ => ?_
    refine Do.seqk fun _ k5_ => ?_
    refine Do.region [0,1,2,7,8,9,18] true ?_
    simp [go_sem, h9, e9, h8]
    apply k5_; clear k5_
    refine Do.cond [0,1,2,7,8,9] rfl (fun h => ?_) (fun h => ?_) <;> simp [go_sem, h9, e9, h8] at h ⊢
    refine Do.region [2,7,8,9] true ?_
    simp [go_sem, h9, e9, h8]
    refine DoL.call true 403 rfl rfl rfl rfl (by first | exact trivial | omega | (simp; done) | (simp; omega)) (h3) rfl (by first | exact .inl rfl | exact .inr rfl) rfl ?_
    simp [go_sem, h9, e9, h8]
    apply k4_; clear k4_
    refine Do.seqk fun _ k6_ => ?_
    refine Do.seqk fun _ k7_ => ?_
    refine Do.region [2,7,29] true ?_
    simp [go_sem, h9, e9, h8]
    refine DoL.call true 603 rfl rfl rfl rfl (by first | exact trivial | omega | (simp; done) | (simp; omega)) (h4) rfl (by first | exact .inl rfl | exact .inr rfl) rfl ?_
    simp [go_sem, h9, e9, h8]
    apply k7_; clear k7_
    refine Do.cond [2,7] rfl (fun h => ?_) (fun h => ?_) <;> simp [go_sem, h9, e9, h8] at h ⊢
    refine Do.skip ?_
    simp [go_sem]
    apply k6_; clear k6_
    refine Do.seqk fun _ k8_ => ?_
    refine Do.region [6] true ?_
    simp [go_sem, h9, e9, h8]
    repeat (refine And.intro (by first | omega | (intros; omega) | (intros; exact And.intro (by assumption) (by omega)) | grind) ?_)
    apply k8_; clear k8_
    refine Do.ret ?_
    simp [endQ, rets, ret1, go_sem, h9, e9, h8]
    repeat (refine And.intro (by first | omega | (intros; omega) | (intros; exact And.intro (by assumption) (by omega)) | grind) ?_)
    exact ret_i (by omega)
theorem Exponent_does {n : Bool} {v : Nat} {e : Int} (hv : 0 < v) (hb : bl v ≤ 16777216) (he : Md e) : Does Tryz.prog G 70 [Rl n v e] (.int .i64 (bl v - 1 + e)) := by
  have h1 := @RLog_does G v e hv hb he
  have h2 := @floor_does G (bl v - 1 + e) ⟨by omega, by omega⟩
  generalize (bl v : Int) - 1 + e = E at *
  refine Does.of (nt := 13) Tryz.func70 rfl rfl rfl (by simp) ?_
  simp only [argTm, PV.ext, Ce.ext]
  refine Do.seqk fun _ k1_ => ?_
  refine Do.region [1] true ?_
  simp [go_sem]
  apply k1_; clear k1_
  refine Do.seqk fun _ k2_ => ?_
  refine Do.draw [2] true (by kernel_rfl) ?_
  simp [go_sem]
  repeat (refine And.intro (by first | omega | (intros; omega) | (intros; exact And.intro (by assumption) (by omega)) | kernel_rfl | grind) ?_)
  refine DoLD.call true 107 rfl rfl rfl rfl (by first | exact trivial | omega | (simp; done) | (simp; omega)) (h1) rfl (by first | exact .inl rfl | exact .inr rfl) rfl ?_
  simp [go_sem]
  repeat (refine And.intro (by first | omega | (intros; omega) | (intros; exact And.intro (by assumption) (by omega)) | kernel_rfl | grind) ?_)
  refine DoLD.call true 110 rfl rfl rfl rfl (by first | exact trivial | omega | (simp; done) | (simp; omega)) (h2) rfl (by first | exact .inl rfl | exact .inr rfl) rfl ?_
  simp [go_sem]
  try (refine And.intro (by kernel_rfl) ?_)
  apply k2_; clear k2_
  refine Do.ret ?_
  simp [endQ, rets, ret1, go_sem]
  repeat (refine And.intro (by first | omega | (intros; omega) | (intros; exact And.intro (by assumption) (by omega)) | grind) ?_)
  exact TLe.refl _
end Go.Proofs.YtdaecibpkhcllaaGreatDoor
/- A real number in steps; a part rounded. No condition. -/
namespace Go.Proofs.YtdaecibpkhcllaaGreatDoor
set_option linter.unusedVariables false
set_option linter.unusedSimpArgs false
variable {G : Gl}
set_option maxHeartbeats 4000000
set_option maxRecDepth 10000
/-- A part: an integer, a half, a rest. -/
abbrev Pt (N : Nat) (h r : Bool) : PV := .a [.w false (nat N), .b h, .b r]
theorem pt_le {N : Nat} {h r : Bool} {c : Ce} (hc : PLe (.c c) (.c (.w false (nat N)))) : TLe (tvOf [.a [c, .b h, .b r]]) (.v (Pt N h r)) :=
  TLe.v (PLe.agg (.cons hc (.cons (PLe.refl _) (.cons (PLe.refl _) .nil))))
theorem Steps_up {n : Bool} {v : Nat} {e s : Int} {k : Nat} (hk : e - (s - 1) = k) (hb : bl v ≤ 16777216) (hk' : k ≤ 16777216) (he : Md e) (hs : Md s) : Does Tryz.prog G 74 [Rl n v e, .c (.i .i64 s)] (.v (Pt (v * 2 ^ k / 2) (decide (v * 2 ^ k % 2 = 1)) false)) := by
  have hl : (nat v).length ≤ 16777216 := nat_len_of hb
  have h1 := @RLeft_does G (nat v) k (by omega) (nat_ws _) (by omega)
  rw [val_nat] at h1
  have hb2 : bl (v * 2 ^ k) ≤ 33554432 := by
    by_cases h0 : v = 0
    · subst h0; simp [bl_zero]
    · rw [bl_mul_pow _ _ (by omega)]; omega
  have hl2 := nat_len_of hb2
  have h2 := @DivMod_one G (nat (v * 2 ^ k)) (by omega) (nat_ws _)
  have h3 := @IsZero_does G (nat 0) (by rw [nat_zero]; decide) (nat_ws _)
  have h4 := @RRight_does G (nat (v * 2 ^ k)) 1 (by omega) (nat_ws _) (by decide)
  have h5 := @RBit_does G (nat (v * 2 ^ k)) (by omega) (nat_ws _) 0 (by constructor <;> decide)
  rw [val_nat] at h2 h3 h4 h5
  simp only [Nat.pow_one, Int.toNat_zero, Nat.pow_zero, Nat.div_one, decide_true, Bool.true_and, Int.le_refl] at h3 h4 h5
  generalize v * 2 ^ k = q at *
  have hmul : (1 : Int) * (s - 1) = s - 1 := Int.one_mul _
  refine Does.of (nt := 82) Tryz.func74 rfl rfl rfl (by simp) ?_
  simp only [argTm, PV.ext, Ce.ext]
  refine Do.seqk fun _ k1_ => ?_
  refine Do.region [1,2,4] true ?_
  simp [go_sem, hmul, hk]
  apply k1_; clear k1_
  refine Do.seqk fun _ k2_ => ?_
  refine Do.region [2,4,5] true ?_
  simp [go_sem, hmul, hk]
  repeat (refine And.intro (by first | omega | (intros; omega) | (intros; exact And.intro (by assumption) (by omega)) | grind) ?_)
  apply k2_; clear k2_
  refine Do.seqk fun _ k3_ => ?_
  refine Do.region [2,4,5] true ?_
  simp [go_sem, hmul, hk]
  apply k3_; clear k3_
  refine Do.seqk fun _ k4_ => ?_
  refine Do.region [2,4,5] true ?_
  simp [go_sem, hmul, hk]
  apply k4_; clear k4_
  refine Do.seqk fun _ k5_ => ?_
  refine Do.seqk fun _ k6_ => ?_
  refine Do.region [2,4,5,22] true ?_
  simp [go_sem, hmul, hk]
  apply k6_; clear k6_
  refine Do.cond [2,4,5] rfl (fun h => ?_) (fun h => ?_) <;> simp [go_sem, hmul, hk] at h ⊢
  refine Do.seqk fun _ k7_ => ?_
  refine Do.draw [2,4,8,9] true (by kernel_rfl) ?_
  simp [go_sem, hmul, hk]
  repeat (refine And.intro (by first | omega | (intros; omega) | (intros; exact And.intro (by assumption) (by omega)) | kernel_rfl | grind) ?_)
  refine DoLD.call true 504 rfl rfl rfl rfl (by first | exact trivial | omega | (simp; done) | (simp; omega)) (h1) rfl (by first | exact .inl rfl | exact .inr rfl) rfl ?_
  simp [go_sem, hmul, hk]
  repeat (refine And.intro (by first | omega | (intros; omega) | (intros; exact And.intro (by assumption) (by omega)) | kernel_rfl | grind) ?_)
  refine DoLD.call true 507 rfl rfl rfl rfl (by first | exact trivial | omega | (simp; done) | (simp; omega)) (h2) rfl (by first | exact .inl rfl | exact .inr rfl) rfl ?_
  simp [go_sem, hmul, hk]
  try (refine And.intro (by kernel_rfl) ?_)
  apply k7_; clear k7_
  refine Do.region [2,4,6,7] true ?_
  simp [go_sem, hmul, hk]
  refine DoL.call true 603 rfl rfl rfl rfl (by first | exact trivial | omega | (simp; done) | (simp; omega)) (h3) rfl (by first | exact .inl rfl | exact .inr rfl) rfl ?_
  simp [go_sem, hmul, hk]
  apply k5_; clear k5_
  refine Do.seqk fun _ k8_ => ?_
  refine Do.seqk fun _ k9_ => ?_
  refine Do.region [2,4,6,7,59] true ?_
  simp [go_sem, hmul, hk]
  repeat (refine And.intro (by first | omega | (intros; omega) | (intros; exact And.intro (by assumption) (by omega)) | grind) ?_)
  apply k9_; clear k9_
  refine Do.cond [2,4,6,7] rfl (fun h => ?_) (fun h => ?_) <;> simp [go_sem, hmul, hk] at h ⊢
  refine Do.skip ?_
  simp [go_sem]
  apply k8_; clear k8_
  refine Do.seqk fun _ k10_ => ?_
  refine Do.region [4] true ?_
  simp [go_sem, hmul, hk]
  refine DoL.call true 1402 rfl rfl rfl rfl (by first | exact trivial | omega | (simp; done) | (simp; omega)) (h4) rfl (by first | exact .inl rfl | exact .inr rfl) rfl ?_
  simp [go_sem, hmul, hk]
  refine DoL.call true 1404 rfl rfl rfl rfl (by first | exact trivial | omega | (simp; done) | (simp; omega)) (h5) rfl (by first | exact .inl rfl | exact .inr rfl) rfl ?_
  simp [go_sem, hmul, hk]
  repeat (refine And.intro (by first | omega | (intros; omega) | (intros; exact And.intro (by assumption) (by omega)) | grind) ?_)
  apply k10_; clear k10_
  refine Do.ret ?_
  simp [endQ, rets, ret1, go_sem, hmul, hk]
  repeat (refine And.intro (by first | omega | (intros; omega) | (intros; exact And.intro (by assumption) (by omega)) | grind) ?_)
  exact pt_le (PLe.ext (.c (.w true _)))
theorem Steps_down {n : Bool} {v : Nat} {e s : Int} {k : Nat} (hk : e - (s - 1) = -(k : Int)) (hk0 : 0 < k) (hk' : k < 4611686018427387904) (hb : bl v ≤ 16777216) (he : Md e) (hs : Md s) : Does Tryz.prog G 74 [Rl n v e, .c (.i .i64 s)] (.v (Pt (v / 2 ^ k / 2) (decide (v / 2 ^ k % 2 = 1)) (!decide (v % 2 ^ k = 0)))) := by
  have hl : (nat v).length ≤ 16777216 := nat_len_of hb
  have h1 := @RRight_does G (nat v) k (by omega) (nat_ws _) (by omega)
  rw [val_nat] at h1
  have hl2 : (nat (v / 2 ^ k)).length ≤ 16777216 := nat_len_of (Nat.le_trans (bl_mono (Nat.div_le_self _ _)) hb)
  have hl3 : (nat (v % 2 ^ k)).length ≤ 16777216 := nat_len_of (Nat.le_trans (bl_mono (Nat.mod_le _ _)) hb)
  have h2 := @DivMod_one G (nat v) (by omega) (nat_ws _)
  have h3 := @IsZero_does G (nat 0) (by rw [nat_zero]; decide) (nat_ws _)
  have h4 := @RRight_does G (nat (v / 2 ^ k)) 1 (by omega) (nat_ws _) (by decide)
  have h5 := @RBit_does G (nat (v / 2 ^ k)) (by omega) (nat_ws _) 0 (by constructor <;> decide)
  have h6 := @RLow_does G (nat v) k (by omega) (nat_ws _) (by omega)
  have h7 := @IsZero_does G (nat (v % 2 ^ k)) (by omega) (nat_ws _)
  rw [val_nat] at h2 h3 h4 h5 h6 h7
  simp only [Nat.pow_one, Int.toNat_zero, Nat.pow_zero, Nat.div_one, decide_true, Bool.true_and, Int.le_refl] at h3 h4 h5
  generalize v / 2 ^ k = q at *
  generalize v % 2 ^ k = w at *
  have hmul : (1 : Int) * (s - 1) = s - 1 := Int.one_mul _
  have hneg : ¬ (k : Int) ≤ 0 := by omega
  have hneg2 : ¬ k = 0 := by omega
  have hneg3 : ¬ 0 ≤ -(k : Int) := by omega
  refine Does.of (nt := 82) Tryz.func74 rfl rfl rfl (by simp) ?_
  simp only [argTm, PV.ext, Ce.ext]
  refine Do.seqk fun _ k1_ => ?_
  refine Do.region [1,2,4] true ?_
  simp [go_sem, hmul, hk, hneg, hneg2, hneg3]
  apply k1_; clear k1_
  refine Do.seqk fun _ k2_ => ?_
  refine Do.region [2,4,5] true ?_
  simp [go_sem, hmul, hk, hneg, hneg2, hneg3]
  repeat (refine And.intro (by first | omega | (intros; omega) | (intros; exact And.intro (by assumption) (by omega)) | grind) ?_)
  apply k2_; clear k2_
  refine Do.seqk fun _ k3_ => ?_
  refine Do.region [2,4,5] true ?_
  simp [go_sem, hmul, hk, hneg, hneg2, hneg3]
  apply k3_; clear k3_
  refine Do.seqk fun _ k4_ => ?_
  refine Do.region [2,4,5] true ?_
  simp [go_sem, hmul, hk, hneg, hneg2, hneg3]
  apply k4_; clear k4_
  refine Do.seqk fun _ k5_ => ?_
  refine Do.seqk fun _ k6_ => ?_
  refine Do.region [2,4,5,22] true ?_
  simp [go_sem, hmul, hk, hneg, hneg2, hneg3]
  apply k6_; clear k6_
  refine Do.cond [2,4,5] rfl (fun h => ?_) (fun h => ?_) <;> simp [go_sem, hmul, hk, hneg, hneg2, hneg3] at h ⊢
  refine Do.seqk fun _ k7_ => ?_
  refine Do.region [2,4,5,10,11] true ?_
  simp [go_sem, hmul, hk, hneg, hneg2, hneg3]
  repeat (refine And.intro (by first | omega | (intros; omega) | (intros; exact And.intro (by assumption) (by omega)) | grind) ?_)
  refine DoL.call true 705 rfl rfl rfl rfl (by first | exact trivial | omega | (simp; done) | (simp; omega)) (h2) rfl (by first | exact .inl rfl | exact .inr rfl) rfl ?_
  simp [go_sem, hmul, hk, hneg, hneg2, hneg3]
  apply k7_; clear k7_
  refine Do.seqk fun _ k8_ => ?_
  refine Do.region [2,4,5,6,10,11] true ?_
  simp [go_sem, hmul, hk, hneg, hneg2, hneg3]
  repeat (refine And.intro (by first | omega | (intros; omega) | (intros; exact And.intro (by assumption) (by omega)) | grind) ?_)
  refine DoL.call true 804 rfl rfl rfl rfl (by first | exact trivial | omega | (simp; done) | (simp; omega)) (h1) rfl (by first | exact .inl rfl | exact .inr rfl) rfl ?_
  simp [go_sem, hmul, hk, hneg, hneg2, hneg3]
  apply k8_; clear k8_
  refine Do.region [2,4,6,7] true ?_
  simp [go_sem, hmul, hk, hneg, hneg2, hneg3]
  refine DoL.call true 902 rfl rfl rfl rfl (by first | exact trivial | omega | (simp; done) | (simp; omega)) (h3) rfl (by first | exact .inl rfl | exact .inr rfl) rfl ?_
  simp [go_sem, hmul, hk, hneg, hneg2, hneg3]
  repeat (refine And.intro (by first | omega | (intros; omega) | (intros; exact And.intro (by assumption) (by omega)) | grind) ?_)
  refine DoL.callg true 907 rfl rfl rfl rfl rfl (by simp [go_sem] <;> omega) (fun _ => h6) rfl (by first | exact .inl rfl | exact .inr rfl) rfl ?_
  simp [go_sem, hmul, hk, hneg, hneg2, hneg3]
  refine DoL.callg true 908 rfl rfl rfl rfl rfl (by simp [go_sem] <;> omega) (fun _ => h7) rfl (by first | exact .inl rfl | exact .inr rfl) rfl ?_
  simp [go_sem, hmul, hk, hneg, hneg2, hneg3]
  apply k5_; clear k5_
  refine Do.seqk fun _ k9_ => ?_
  refine Do.seqk fun _ k10_ => ?_
  refine Do.region [2,4,6,7,59] true ?_
  simp [go_sem, hmul, hk, hneg, hneg2, hneg3]
  repeat (refine And.intro (by first | omega | (intros; omega) | (intros; exact And.intro (by assumption) (by omega)) | grind) ?_)
  apply k10_; clear k10_
  refine Do.cond [2,4,6,7] rfl (fun h => ?_) (fun h => ?_) <;> simp [go_sem, hmul, hk, hneg, hneg2, hneg3] at h ⊢
  refine Do.skip ?_
  simp [go_sem]
  apply k9_; clear k9_
  refine Do.seqk fun _ k11_ => ?_
  refine Do.region [4] true ?_
  simp [go_sem, hmul, hk, hneg, hneg2, hneg3]
  refine DoL.call true 1402 rfl rfl rfl rfl (by first | exact trivial | omega | (simp; done) | (simp; omega)) (h4) rfl (by first | exact .inl rfl | exact .inr rfl) rfl ?_
  simp [go_sem, hmul, hk, hneg, hneg2, hneg3]
  refine DoL.call true 1404 rfl rfl rfl rfl (by first | exact trivial | omega | (simp; done) | (simp; omega)) (h5) rfl (by first | exact .inl rfl | exact .inr rfl) rfl ?_
  simp [go_sem, hmul, hk, hneg, hneg2, hneg3]
  repeat (refine And.intro (by first | omega | (intros; omega) | (intros; exact And.intro (by assumption) (by omega)) | grind) ?_)
  apply k11_; clear k11_
  refine Do.ret ?_
  simp [endQ, rets, ret1, go_sem, hmul, hk, hneg, hneg2, hneg3]
  repeat (refine And.intro (by first | omega | (intros; omega) | (intros; exact And.intro (by assumption) (by omega)) | grind) ?_)
  exact pt_le (PLe.ext (.c (.w true _)))
end Go.Proofs.YtdaecibpkhcllaaGreatDoor
/- A part rounded; the greatest float; what is beyond it. No condition. -/
namespace Go.Proofs.YtdaecibpkhcllaaGreatDoor
set_option linter.unusedVariables false
set_option linter.unusedSimpArgs false
variable {G : Gl}
set_option maxHeartbeats 4000000
set_option maxRecDepth 10000
/-- What lies beyond the integer: 0 nothing, 1 less than a half, 2 a half, 3 more. -/
def pcode (h s : Bool) : Int := if h then (if s then 3 else 2) else (if s then 1 else 0)
theorem ret_wb {c : Ce} {M N : Nat} {b b' : Bool} (h : PLe (.c c) (.c (.w false (nat M)))) (h1 : M = N) (h2 : b = b') : TLe (tvOf [.c c, .c (.b b)]) (.t [Wd (nat N), .c (.b b')]) := by
  subst h1; subst h2
  exact TLe.t (.cons h (.cons (PLe.refl _) .nil))
theorem Rounded_does {r : Int} (hr : 0 ≤ r) (hr' : r ≤ 4) {n h s : Bool} {N : Nat} (hN : bl N ≤ 134217728) : Does Tryz.prog G 73 [.c (.i .i64 r), .c (.b n), Pt N h s] (.t [Wd (nat (upP r n N (pcode h s))), .c (.b (pcode h s == 0))]) := by
  have hl := nat_len_of hN
  have h1 := @RBit_does G (nat N) (by omega) (nat_ws _) 0 (by constructor <;> decide)
  have h2 := @RWord_does G 1 (by decide)
  have h3 := @RAdd_does G (nat N) (nat 1) (by omega) (nat_ws _) (by rw [nat_one]; decide) (nat_ws _)
  rw [val_nat, val_nat] at h3
  rw [val_nat] at h1
  simp only [Int.toNat_zero, Nat.pow_zero, Nat.div_one, decide_true, Bool.true_and, Int.le_refl] at h1
  rcases (show r = 0 ∨ r = 1 ∨ r = 2 ∨ r = 3 ∨ r = 4 by omega) with hr | hr | hr | hr | hr <;> subst hr
  · generalize ho : decide (N % 2 = 1) = o at *
    refine Does.of (nt := 51) Tryz.func73 rfl rfl rfl (by simp) ?_
    simp only [argTm, PV.ext, Ce.ext]
    refine Do.seqk fun _ k1_ => ?_
    refine Do.region [0,1,5] true ?_
    simp [go_sem]
    apply k1_; clear k1_
    refine Do.seqk fun _ k2_ => ?_
    refine Do.region [0,1,5,8] true ?_
    simp [go_sem]
    apply k2_; clear k2_
    refine Do.seqk fun _ k3_ => ?_
    refine Do.seqk fun _ k4_ => ?_
    refine Do.region [1,5,8,9] true ?_
    simp [go_sem]
    apply k4_; clear k4_
    refine Do.block ?_
    refine Do.seqk fun _ k5_ => ?_
    refine Do.region [1,5,8,9,10] true ?_
    simp [go_sem]
    apply k5_; clear k5_
    refine Do.cond [1,5,8,9] rfl (fun g0 => ?_) (fun g0 => ?_) <;> simp [go_sem] at g0 ⊢
    refine Do.region [5,8] true ?_
    simp [go_sem]
    repeat (refine And.intro (by first | omega | (intros; omega) | (intros; exact And.intro (by assumption) (by omega)) | grind) ?_)
    refine DoL.callg true 409 rfl rfl rfl rfl rfl (by simp [go_sem] <;> omega) (fun _ => h1) rfl (by first | exact .inl rfl | exact .inr rfl) rfl ?_
    simp [go_sem]
    refine And.intro (fun a => ⟨a, fun b => ⟨a, b⟩⟩) ?_
    apply k3_; clear k3_
    refine Do.seqk fun _ k6_ => ?_
    refine Do.seqk fun _ k7_ => ?_
    refine Do.region [5,8,41] true ?_
    simp [go_sem]
    repeat (refine And.intro (by first | omega | (intros; omega) | (intros; exact And.intro (by assumption) (by omega)) | grind) ?_)
    apply k7_; clear k7_
    refine Do.cond [5,8] rfl (fun g1 => ?_) (fun g1 => ?_) <;> simp [go_sem] at g1 ⊢
    · refine Do.seqk fun _ k8_ => ?_
      refine Do.region [6,7] true ?_
      simp [go_sem]
      repeat (refine And.intro (by first | omega | (intros; omega) | (intros; exact And.intro (by assumption) (by omega)) | grind) ?_)
      apply k8_; clear k8_
      refine Do.ret ?_
      simp [endQ, rets, ret1, go_sem]
      repeat (refine And.intro (by first | omega | (intros; omega) | (intros; exact And.intro (by assumption) (by omega)) | grind) ?_)
      exact ret_wb (PLe.refl _) (by cases h <;> cases s <;> simp [pcode, upP, moreP] at g1 ⊢) (by cases h <;> cases s <;> simp [pcode] at g1 ⊢)
    · refine Do.skip ?_
      simp [go_sem]
      apply k6_; clear k6_
      refine Do.seqk fun _ k9_ => ?_
      refine Do.seqk fun _ k10_ => ?_
      refine Do.region [5,44] true ?_
      simp [go_sem]
      apply k10_; clear k10_
      refine Do.cond [5] rfl (fun g2 => ?_) (fun g2 => ?_) <;> simp [go_sem] at g2 ⊢
      · refine Do.seqk fun _ k11_ => ?_
        refine Do.draw [6,7] true (by kernel_rfl) ?_
        simp [go_sem]
        repeat (refine And.intro (by first | omega | (intros; omega) | (intros; exact And.intro (by assumption) (by omega)) | kernel_rfl | grind) ?_)
        refine DoLD.call true 1403 rfl rfl rfl rfl (by first | exact trivial | omega | (simp; done) | (simp; omega)) (h2) rfl (by first | exact .inl rfl | exact .inr rfl) rfl ?_
        simp [go_sem]
        refine DoLD.call true 1404 rfl rfl rfl rfl (by first | exact trivial | omega | (simp; done) | (simp; omega)) (h3) rfl (by first | exact .inl rfl | exact .inr rfl) rfl ?_
        simp [go_sem]
        try (refine And.intro (by kernel_rfl) ?_)
        apply k11_; clear k11_
        refine Do.ret ?_
        simp [endQ, rets, ret1, go_sem]
        repeat (refine And.intro (by first | omega | (intros; omega) | (intros; exact And.intro (by assumption) (by omega)) | grind) ?_)
        exact ret_wb (PLe.ext (.c (.w true _))) (by rw [upP, ho]; cases h <;> cases s <;> cases o <;> simp [pcode, moreP] at g1 g2 ⊢) (by cases h <;> cases s <;> simp [pcode] at g1 ⊢)
      · refine Do.skip ?_
        simp [go_sem]
        apply k9_; clear k9_
        refine Do.seqk fun _ k12_ => ?_
        refine Do.region [6,7] true ?_
        simp [go_sem]
        repeat (refine And.intro (by first | omega | (intros; omega) | (intros; exact And.intro (by assumption) (by omega)) | grind) ?_)
        apply k12_; clear k12_
        refine Do.ret ?_
        simp [endQ, rets, ret1, go_sem]
        repeat (refine And.intro (by first | omega | (intros; omega) | (intros; exact And.intro (by assumption) (by omega)) | grind) ?_)
        exact ret_wb (PLe.refl _) (by rw [upP, ho]; cases h <;> cases s <;> cases o <;> simp [pcode, moreP] at g1 g2 ⊢) (by cases h <;> cases s <;> simp [pcode] at g1 ⊢)
  · skip
    refine Does.of (nt := 51) Tryz.func73 rfl rfl rfl (by simp) ?_
    simp only [argTm, PV.ext, Ce.ext]
    refine Do.seqk fun _ k1_ => ?_
    refine Do.region [0,1,5] true ?_
    simp [go_sem]
    apply k1_; clear k1_
    refine Do.seqk fun _ k2_ => ?_
    refine Do.region [0,1,5,8] true ?_
    simp [go_sem]
    apply k2_; clear k2_
    refine Do.seqk fun _ k3_ => ?_
    refine Do.seqk fun _ k4_ => ?_
    refine Do.region [1,5,8,9] true ?_
    simp [go_sem]
    apply k4_; clear k4_
    refine Do.block ?_
    refine Do.seqk fun _ k5_ => ?_
    refine Do.region [1,5,8,9,10] true ?_
    simp [go_sem]
    apply k5_; clear k5_
    refine Do.cond [1,5,8,9] rfl (fun g0 => ?_) (fun g0 => ?_) <;> simp [go_sem] at g0 ⊢
    refine Do.seqk fun _ k6_ => ?_
    refine Do.region [1,5,8,9,23] true ?_
    simp [go_sem]
    apply k6_; clear k6_
    refine Do.cond [1,5,8,9] rfl (fun g0 => ?_) (fun g0 => ?_) <;> simp [go_sem] at g0 ⊢
    refine Do.region [5,8] true ?_
    simp [go_sem]
    repeat (refine And.intro (by first | omega | (intros; omega) | (intros; exact And.intro (by assumption) (by omega)) | grind) ?_)
    apply k3_; clear k3_
    refine Do.seqk fun _ k7_ => ?_
    refine Do.seqk fun _ k8_ => ?_
    refine Do.region [5,8,41] true ?_
    simp [go_sem]
    repeat (refine And.intro (by first | omega | (intros; omega) | (intros; exact And.intro (by assumption) (by omega)) | grind) ?_)
    apply k8_; clear k8_
    refine Do.cond [5,8] rfl (fun g1 => ?_) (fun g1 => ?_) <;> simp [go_sem] at g1 ⊢
    · refine Do.seqk fun _ k9_ => ?_
      refine Do.region [6,7] true ?_
      simp [go_sem]
      repeat (refine And.intro (by first | omega | (intros; omega) | (intros; exact And.intro (by assumption) (by omega)) | grind) ?_)
      apply k9_; clear k9_
      refine Do.ret ?_
      simp [endQ, rets, ret1, go_sem]
      repeat (refine And.intro (by first | omega | (intros; omega) | (intros; exact And.intro (by assumption) (by omega)) | grind) ?_)
      exact ret_wb (PLe.refl _) (by cases h <;> cases s <;> simp [pcode, upP, moreP] at g1 ⊢) (by cases h <;> cases s <;> simp [pcode] at g1 ⊢)
    · refine Do.skip ?_
      simp [go_sem]
      apply k7_; clear k7_
      refine Do.seqk fun _ k10_ => ?_
      refine Do.seqk fun _ k11_ => ?_
      refine Do.region [5,44] true ?_
      simp [go_sem]
      apply k11_; clear k11_
      refine Do.cond [5] rfl (fun g2 => ?_) (fun g2 => ?_) <;> simp [go_sem] at g2 ⊢
      · refine Do.seqk fun _ k12_ => ?_
        refine Do.draw [6,7] true (by kernel_rfl) ?_
        simp [go_sem]
        repeat (refine And.intro (by first | omega | (intros; omega) | (intros; exact And.intro (by assumption) (by omega)) | kernel_rfl | grind) ?_)
        refine DoLD.call true 1403 rfl rfl rfl rfl (by first | exact trivial | omega | (simp; done) | (simp; omega)) (h2) rfl (by first | exact .inl rfl | exact .inr rfl) rfl ?_
        simp [go_sem]
        refine DoLD.call true 1404 rfl rfl rfl rfl (by first | exact trivial | omega | (simp; done) | (simp; omega)) (h3) rfl (by first | exact .inl rfl | exact .inr rfl) rfl ?_
        simp [go_sem]
        try (refine And.intro (by kernel_rfl) ?_)
        apply k12_; clear k12_
        refine Do.ret ?_
        simp [endQ, rets, ret1, go_sem]
        repeat (refine And.intro (by first | omega | (intros; omega) | (intros; exact And.intro (by assumption) (by omega)) | grind) ?_)
        exact ret_wb (PLe.ext (.c (.w true _))) (by rw [upP]; cases h <;> cases s <;> simp [pcode, moreP] at g1 g2 ⊢) (by cases h <;> cases s <;> simp [pcode] at g1 ⊢)
      · refine Do.skip ?_
        simp [go_sem]
        apply k10_; clear k10_
        refine Do.seqk fun _ k13_ => ?_
        refine Do.region [6,7] true ?_
        simp [go_sem]
        repeat (refine And.intro (by first | omega | (intros; omega) | (intros; exact And.intro (by assumption) (by omega)) | grind) ?_)
        apply k13_; clear k13_
        refine Do.ret ?_
        simp [endQ, rets, ret1, go_sem]
        repeat (refine And.intro (by first | omega | (intros; omega) | (intros; exact And.intro (by assumption) (by omega)) | grind) ?_)
        exact ret_wb (PLe.refl _) (by rw [upP]; cases h <;> cases s <;> simp [pcode, moreP] at g1 g2 ⊢) (by cases h <;> cases s <;> simp [pcode] at g1 ⊢)
  · skip
    refine Does.of (nt := 51) Tryz.func73 rfl rfl rfl (by simp) ?_
    simp only [argTm, PV.ext, Ce.ext]
    refine Do.seqk fun _ k1_ => ?_
    refine Do.region [0,1,5] true ?_
    simp [go_sem]
    apply k1_; clear k1_
    refine Do.seqk fun _ k2_ => ?_
    refine Do.region [0,1,5,8] true ?_
    simp [go_sem]
    apply k2_; clear k2_
    refine Do.seqk fun _ k3_ => ?_
    refine Do.seqk fun _ k4_ => ?_
    refine Do.region [1,5,8,9] true ?_
    simp [go_sem]
    apply k4_; clear k4_
    refine Do.block ?_
    refine Do.seqk fun _ k5_ => ?_
    refine Do.region [1,5,8,9,10] true ?_
    simp [go_sem]
    apply k5_; clear k5_
    refine Do.cond [1,5,8,9] rfl (fun g0 => ?_) (fun g0 => ?_) <;> simp [go_sem] at g0 ⊢
    refine Do.seqk fun _ k6_ => ?_
    refine Do.region [1,5,8,9,23] true ?_
    simp [go_sem]
    apply k6_; clear k6_
    refine Do.cond [1,5,8,9] rfl (fun g0 => ?_) (fun g0 => ?_) <;> simp [go_sem] at g0 ⊢
    refine Do.seqk fun _ k7_ => ?_
    refine Do.region [1,5,8,9,27] true ?_
    simp [go_sem]
    apply k7_; clear k7_
    refine Do.cond [1,5,8,9] rfl (fun g0 => ?_) (fun g0 => ?_) <;> simp [go_sem] at g0 ⊢
    refine Do.seqk fun _ k8_ => ?_
    refine Do.region [1,5,8,31] true ?_
    simp [go_sem]
    apply k8_; clear k8_
    refine Do.cond [1,5,8] rfl (fun g0 => ?_) (fun g0 => ?_) <;> simp [go_sem] at g0 ⊢
    refine Do.skip ?_
    simp [go_sem]
    apply k3_; clear k3_
    refine Do.seqk fun _ k9_ => ?_
    refine Do.seqk fun _ k10_ => ?_
    refine Do.region [5,8,41] true ?_
    simp [go_sem]
    repeat (refine And.intro (by first | omega | (intros; omega) | (intros; exact And.intro (by assumption) (by omega)) | grind) ?_)
    apply k10_; clear k10_
    refine Do.cond [5,8] rfl (fun g1 => ?_) (fun g1 => ?_) <;> simp [go_sem] at g1 ⊢
    · refine Do.seqk fun _ k11_ => ?_
      refine Do.region [6,7] true ?_
      simp [go_sem]
      repeat (refine And.intro (by first | omega | (intros; omega) | (intros; exact And.intro (by assumption) (by omega)) | grind) ?_)
      apply k11_; clear k11_
      refine Do.ret ?_
      simp [endQ, rets, ret1, go_sem]
      repeat (refine And.intro (by first | omega | (intros; omega) | (intros; exact And.intro (by assumption) (by omega)) | grind) ?_)
      exact ret_wb (PLe.refl _) (by cases h <;> cases s <;> simp [pcode, upP, moreP] at g1 ⊢) (by cases h <;> cases s <;> simp [pcode] at g1 ⊢)
    · refine Do.skip ?_
      simp [go_sem]
      apply k9_; clear k9_
      refine Do.seqk fun _ k12_ => ?_
      refine Do.seqk fun _ k13_ => ?_
      refine Do.region [5,44] true ?_
      simp [go_sem]
      apply k13_; clear k13_
      refine Do.cond [5] rfl (fun g2 => ?_) (fun g2 => ?_) <;> simp [go_sem] at g2 ⊢
      refine Do.skip ?_
      simp [go_sem]
      apply k12_; clear k12_
      refine Do.seqk fun _ k14_ => ?_
      refine Do.region [6,7] true ?_
      simp [go_sem]
      repeat (refine And.intro (by first | omega | (intros; omega) | (intros; exact And.intro (by assumption) (by omega)) | grind) ?_)
      apply k14_; clear k14_
      refine Do.ret ?_
      simp [endQ, rets, ret1, go_sem]
      repeat (refine And.intro (by first | omega | (intros; omega) | (intros; exact And.intro (by assumption) (by omega)) | grind) ?_)
      exact ret_wb (PLe.refl _) (by rw [upP]; cases h <;> cases s <;> simp [pcode, moreP] at g1 ⊢) (by cases h <;> cases s <;> simp [pcode] at g1 ⊢)
  · skip
    refine Does.of (nt := 51) Tryz.func73 rfl rfl rfl (by simp) ?_
    simp only [argTm, PV.ext, Ce.ext]
    refine Do.seqk fun _ k1_ => ?_
    refine Do.region [0,1,5] true ?_
    simp [go_sem]
    apply k1_; clear k1_
    refine Do.seqk fun _ k2_ => ?_
    refine Do.region [0,1,5,8] true ?_
    simp [go_sem]
    apply k2_; clear k2_
    refine Do.seqk fun _ k3_ => ?_
    refine Do.seqk fun _ k4_ => ?_
    refine Do.region [1,5,8,9] true ?_
    simp [go_sem]
    apply k4_; clear k4_
    refine Do.block ?_
    refine Do.seqk fun _ k5_ => ?_
    refine Do.region [1,5,8,9,10] true ?_
    simp [go_sem]
    apply k5_; clear k5_
    refine Do.cond [1,5,8,9] rfl (fun g0 => ?_) (fun g0 => ?_) <;> simp [go_sem] at g0 ⊢
    refine Do.seqk fun _ k6_ => ?_
    refine Do.region [1,5,8,9,23] true ?_
    simp [go_sem]
    apply k6_; clear k6_
    refine Do.cond [1,5,8,9] rfl (fun g0 => ?_) (fun g0 => ?_) <;> simp [go_sem] at g0 ⊢
    refine Do.seqk fun _ k7_ => ?_
    refine Do.region [1,5,8,9,27] true ?_
    simp [go_sem]
    apply k7_; clear k7_
    refine Do.cond [1,5,8,9] rfl (fun g0 => ?_) (fun g0 => ?_) <;> simp [go_sem] at g0 ⊢
    refine Do.region [5,8] true ?_
    simp [go_sem]
    repeat (refine And.intro (by first | omega | (intros; omega) | (intros; exact And.intro (by assumption) (by omega)) | grind) ?_)
    apply k3_; clear k3_
    refine Do.seqk fun _ k8_ => ?_
    refine Do.seqk fun _ k9_ => ?_
    refine Do.region [5,8,41] true ?_
    simp [go_sem]
    repeat (refine And.intro (by first | omega | (intros; omega) | (intros; exact And.intro (by assumption) (by omega)) | grind) ?_)
    apply k9_; clear k9_
    refine Do.cond [5,8] rfl (fun g1 => ?_) (fun g1 => ?_) <;> simp [go_sem] at g1 ⊢
    · refine Do.seqk fun _ k10_ => ?_
      refine Do.region [6,7] true ?_
      simp [go_sem]
      repeat (refine And.intro (by first | omega | (intros; omega) | (intros; exact And.intro (by assumption) (by omega)) | grind) ?_)
      apply k10_; clear k10_
      refine Do.ret ?_
      simp [endQ, rets, ret1, go_sem]
      repeat (refine And.intro (by first | omega | (intros; omega) | (intros; exact And.intro (by assumption) (by omega)) | grind) ?_)
      exact ret_wb (PLe.refl _) (by cases h <;> cases s <;> simp [pcode, upP, moreP] at g1 ⊢) (by cases h <;> cases s <;> simp [pcode] at g1 ⊢)
    · refine Do.skip ?_
      simp [go_sem]
      apply k8_; clear k8_
      refine Do.seqk fun _ k11_ => ?_
      refine Do.seqk fun _ k12_ => ?_
      refine Do.region [5,44] true ?_
      simp [go_sem]
      apply k12_; clear k12_
      refine Do.cond [5] rfl (fun g2 => ?_) (fun g2 => ?_) <;> simp [go_sem] at g2 ⊢
      · refine Do.seqk fun _ k13_ => ?_
        refine Do.draw [6,7] true (by kernel_rfl) ?_
        simp [go_sem]
        repeat (refine And.intro (by first | omega | (intros; omega) | (intros; exact And.intro (by assumption) (by omega)) | kernel_rfl | grind) ?_)
        refine DoLD.call true 1403 rfl rfl rfl rfl (by first | exact trivial | omega | (simp; done) | (simp; omega)) (h2) rfl (by first | exact .inl rfl | exact .inr rfl) rfl ?_
        simp [go_sem]
        refine DoLD.call true 1404 rfl rfl rfl rfl (by first | exact trivial | omega | (simp; done) | (simp; omega)) (h3) rfl (by first | exact .inl rfl | exact .inr rfl) rfl ?_
        simp [go_sem]
        try (refine And.intro (by kernel_rfl) ?_)
        apply k13_; clear k13_
        refine Do.ret ?_
        simp [endQ, rets, ret1, go_sem]
        repeat (refine And.intro (by first | omega | (intros; omega) | (intros; exact And.intro (by assumption) (by omega)) | grind) ?_)
        exact ret_wb (PLe.ext (.c (.w true _))) (by rw [upP]; cases h <;> cases s <;> cases n <;> simp [pcode, moreP] at g1 g2 ⊢) (by cases h <;> cases s <;> simp [pcode] at g1 ⊢)
      · refine Do.skip ?_
        simp [go_sem]
        apply k11_; clear k11_
        refine Do.seqk fun _ k14_ => ?_
        refine Do.region [6,7] true ?_
        simp [go_sem]
        repeat (refine And.intro (by first | omega | (intros; omega) | (intros; exact And.intro (by assumption) (by omega)) | grind) ?_)
        apply k14_; clear k14_
        refine Do.ret ?_
        simp [endQ, rets, ret1, go_sem]
        repeat (refine And.intro (by first | omega | (intros; omega) | (intros; exact And.intro (by assumption) (by omega)) | grind) ?_)
        exact ret_wb (PLe.refl _) (by rw [upP]; cases h <;> cases s <;> cases n <;> simp [pcode, moreP] at g1 g2 ⊢) (by cases h <;> cases s <;> simp [pcode] at g1 ⊢)
  · skip
    refine Does.of (nt := 51) Tryz.func73 rfl rfl rfl (by simp) ?_
    simp only [argTm, PV.ext, Ce.ext]
    refine Do.seqk fun _ k1_ => ?_
    refine Do.region [0,1,5] true ?_
    simp [go_sem]
    apply k1_; clear k1_
    refine Do.seqk fun _ k2_ => ?_
    refine Do.region [0,1,5,8] true ?_
    simp [go_sem]
    apply k2_; clear k2_
    refine Do.seqk fun _ k3_ => ?_
    refine Do.seqk fun _ k4_ => ?_
    refine Do.region [1,5,8,9] true ?_
    simp [go_sem]
    apply k4_; clear k4_
    refine Do.block ?_
    refine Do.seqk fun _ k5_ => ?_
    refine Do.region [1,5,8,9,10] true ?_
    simp [go_sem]
    apply k5_; clear k5_
    refine Do.cond [1,5,8,9] rfl (fun g0 => ?_) (fun g0 => ?_) <;> simp [go_sem] at g0 ⊢
    refine Do.seqk fun _ k6_ => ?_
    refine Do.region [1,5,8,9,23] true ?_
    simp [go_sem]
    apply k6_; clear k6_
    refine Do.cond [1,5,8,9] rfl (fun g0 => ?_) (fun g0 => ?_) <;> simp [go_sem] at g0 ⊢
    refine Do.seqk fun _ k7_ => ?_
    refine Do.region [1,5,8,9,27] true ?_
    simp [go_sem]
    apply k7_; clear k7_
    refine Do.cond [1,5,8,9] rfl (fun g0 => ?_) (fun g0 => ?_) <;> simp [go_sem] at g0 ⊢
    refine Do.seqk fun _ k8_ => ?_
    refine Do.region [1,5,8,31] true ?_
    simp [go_sem]
    apply k8_; clear k8_
    refine Do.cond [1,5,8] rfl (fun g0 => ?_) (fun g0 => ?_) <;> simp [go_sem] at g0 ⊢
    refine Do.region [5,8] true ?_
    simp [go_sem]
    apply k3_; clear k3_
    refine Do.seqk fun _ k9_ => ?_
    refine Do.seqk fun _ k10_ => ?_
    refine Do.region [5,8,41] true ?_
    simp [go_sem]
    repeat (refine And.intro (by first | omega | (intros; omega) | (intros; exact And.intro (by assumption) (by omega)) | grind) ?_)
    apply k10_; clear k10_
    refine Do.cond [5,8] rfl (fun g1 => ?_) (fun g1 => ?_) <;> simp [go_sem] at g1 ⊢
    · refine Do.seqk fun _ k11_ => ?_
      refine Do.region [6,7] true ?_
      simp [go_sem]
      repeat (refine And.intro (by first | omega | (intros; omega) | (intros; exact And.intro (by assumption) (by omega)) | grind) ?_)
      apply k11_; clear k11_
      refine Do.ret ?_
      simp [endQ, rets, ret1, go_sem]
      repeat (refine And.intro (by first | omega | (intros; omega) | (intros; exact And.intro (by assumption) (by omega)) | grind) ?_)
      exact ret_wb (PLe.refl _) (by cases h <;> cases s <;> simp [pcode, upP, moreP] at g1 ⊢) (by cases h <;> cases s <;> simp [pcode] at g1 ⊢)
    · refine Do.skip ?_
      simp [go_sem]
      apply k9_; clear k9_
      refine Do.seqk fun _ k12_ => ?_
      refine Do.seqk fun _ k13_ => ?_
      refine Do.region [5,44] true ?_
      simp [go_sem]
      apply k13_; clear k13_
      refine Do.cond [5] rfl (fun g2 => ?_) (fun g2 => ?_) <;> simp [go_sem] at g2 ⊢
      · refine Do.seqk fun _ k14_ => ?_
        refine Do.draw [6,7] true (by kernel_rfl) ?_
        simp [go_sem]
        repeat (refine And.intro (by first | omega | (intros; omega) | (intros; exact And.intro (by assumption) (by omega)) | kernel_rfl | grind) ?_)
        refine DoLD.call true 1403 rfl rfl rfl rfl (by first | exact trivial | omega | (simp; done) | (simp; omega)) (h2) rfl (by first | exact .inl rfl | exact .inr rfl) rfl ?_
        simp [go_sem]
        refine DoLD.call true 1404 rfl rfl rfl rfl (by first | exact trivial | omega | (simp; done) | (simp; omega)) (h3) rfl (by first | exact .inl rfl | exact .inr rfl) rfl ?_
        simp [go_sem]
        try (refine And.intro (by kernel_rfl) ?_)
        apply k14_; clear k14_
        refine Do.ret ?_
        simp [endQ, rets, ret1, go_sem]
        repeat (refine And.intro (by first | omega | (intros; omega) | (intros; exact And.intro (by assumption) (by omega)) | grind) ?_)
        exact ret_wb (PLe.ext (.c (.w true _))) (by rw [upP]; cases h <;> cases s <;> cases n <;> simp [pcode, moreP] at g1 g2 ⊢) (by cases h <;> cases s <;> simp [pcode] at g1 ⊢)
      · refine Do.skip ?_
        simp [go_sem]
        apply k12_; clear k12_
        refine Do.seqk fun _ k15_ => ?_
        refine Do.region [6,7] true ?_
        simp [go_sem]
        repeat (refine And.intro (by first | omega | (intros; omega) | (intros; exact And.intro (by assumption) (by omega)) | grind) ?_)
        apply k15_; clear k15_
        refine Do.ret ?_
        simp [endQ, rets, ret1, go_sem]
        repeat (refine And.intro (by first | omega | (intros; omega) | (intros; exact And.intro (by assumption) (by omega)) | grind) ?_)
        exact ret_wb (PLe.refl _) (by rw [upP]; cases h <;> cases s <;> cases n <;> simp [pcode, moreP] at g1 g2 ⊢) (by cases h <;> cases s <;> simp [pcode] at g1 ⊢)
end Go.Proofs.YtdaecibpkhcllaaGreatDoor
/- The greatest float, what is beyond it. No condition. -/
namespace Go.Proofs.YtdaecibpkhcllaaGreatDoor
set_option linter.unusedVariables false
set_option linter.unusedSimpArgs false
variable {G : Gl}
set_option maxHeartbeats 4000000
set_option maxRecDepth 10000
/-- A float whose words are its own. -/
abbrev Flt.pw (x : Flt) : PV := .a [.i .i64 x.k, .b x.n, .i .i64 x.e, .w true (nat x.v)]
theorem PLe.flw {k : Int} {n : Bool} {e : Int} {c : Ce} {m : List Nat} (h : PLe (.c c) (.c (.w true m))) : PLe (.a [.i .i64 k, .b n, .i .i64 e, c]) (.a [.i .i64 k, .b n, .i .i64 e, .w true m]) :=
  PLe.agg (.cons (PLe.refl _) (.cons (PLe.refl _) (.cons (PLe.refl _) (.cons h .nil))))
theorem Flt.pw_le (x : Flt) : PLe x.pw x.pv := PLe.flt (PLe.ext (.c (.w true _)))
theorem ret_zw {n : Nat} (h : n = 0) : PLe (.c .z) (.c (.w true (nat n))) := by subst h; rw [nat_zero]; exact PLe.z true
theorem ret_w1 {k : Int} {n : Bool} {e : Int} {c : Ce} {x : Flt} (h : PLe (.c c) (.c (.w true (nat x.v)))) (h1 : (k, n, e) = (x.k, x.n, x.e)) : TLe (tvOf [.a [.i .i64 k, .b n, .i .i64 e, c]]) (.v x.pw) := by
  simp only [Prod.mk.injEq] at h1
  obtain ⟨rfl, rfl, rfl⟩ := h1
  exact TLe.v (PLe.flw h)
theorem Does.mono {P : Program} {G : Gl} {f : FuncId} {args : List PV} {ret ret' : TV} (h : Does P G f args ret) (hle : TLe ret ret') : Does P G f args ret' := by
  intro W ok vals hok hgl hargs
  rcases h W ok vals hok hgl hargs with ⟨h1, h2⟩ | ⟨v, h1, h2⟩
  · exact .inl ⟨h1, h2.mono fun e W' ⟨v, q1, q2, q3⟩ => ⟨v, q1, q2, hle _ _ q3⟩⟩
  · exact .inr ⟨v, h1, hle _ _ h2⟩
theorem Canonical_new {k e : Int} {n : Bool} {m : List Nat} (hm : m.length ≤ 1073741824) (wm : Ws m) (he : Md e) : Does Tryz.prog G 55 [Fl k n e m] (.v (rcanon ⟨k, n, e, val m⟩).pw) := by
  have ho : Does Tryz.prog G 88 [Fl k n e m] (.t [Wn (nat (val m / 2 ^ tz (val m))), .c (.i .i64 (e + tz (val m)))]) := odd_does hm wm he
  refine Does.of (nt := 23) Tryz.func55 rfl rfl rfl (by simp) ?_
  simp only [argTm, PV.ext, Ce.ext]
  refine Do.seqk fun _ k1_ => ?_
  refine Do.region [1,2] true ?_
  simp [go_sem]
  apply k1_; clear k1_
  refine Do.seqk fun _ k2_ => ?_
  refine Do.seqk fun _ k3_ => ?_
  refine Do.region [1,2,7] true ?_
  simp [go_sem]
  repeat (refine And.intro (by first | omega | (intros; omega) | (intros; exact And.intro (by assumption) (by omega)) | grind) ?_)
  apply k3_; clear k3_
  refine Do.cond [1,2] rfl (fun h => ?_) (fun h => ?_) <;> simp [go_sem] at h ⊢
  · refine Do.seqk fun _ k4_ => ?_
    refine Do.region [2] true ?_
    simp [go_sem]
    repeat (refine And.intro (by first | omega | (intros; omega) | (intros; exact And.intro (by assumption) (by omega)) | grind) ?_)
    apply k4_; clear k4_
    refine Do.ret ?_
    simp [endQ, rets, ret1, go_sem]
    repeat (refine And.intro (by first | omega | (intros; omega) | (intros; exact And.intro (by assumption) (by omega)) | grind) ?_)
    rw [rcanon, if_neg h]
    exact ret_w1 (ret_zw rfl) rfl
  · refine Do.skip ?_
    simp [go_sem]
    apply k2_; clear k2_
    refine Do.seqk fun _ k5_ => ?_
    refine Do.region [1,2,3,4] true ?_
    simp [go_sem]
    repeat (refine And.intro (by first | omega | (intros; omega) | (intros; exact And.intro (by assumption) (by omega)) | grind) ?_)
    refine DoL.call true 302 rfl rfl rfl rfl (by first | exact trivial | omega | (simp; done) | (simp; omega)) (ho) rfl (by first | exact .inl rfl | exact .inr rfl) rfl ?_
    simp [go_sem]
    apply k5_; clear k5_
    refine Do.seqk fun _ k6_ => ?_
    refine Do.region [2] true ?_
    simp [go_sem]
    repeat (refine And.intro (by first | omega | (intros; omega) | (intros; exact And.intro (by assumption) (by omega)) | grind) ?_)
    apply k6_; clear k6_
    refine Do.ret ?_
    simp [endQ, rets, ret1, go_sem]
    repeat (refine And.intro (by first | omega | (intros; omega) | (intros; exact And.intro (by assumption) (by omega)) | grind) ?_)
    rw [rcanon, if_pos h]
    exact TLe.refl _
theorem Top_does {f p : Int} (hf : fmOk f p = true) : Does Tryz.prog G 109 [Fm f p] (.v (Flt.pw ⟨1, false, gOfE f - p + 1, 2 ^ p.toNat - 1⟩)) := by
  obtain ⟨b1, b2, b3, b4⟩ := fmOk_spec hf
  obtain ⟨b5, b6⟩ := gOfE_le b1 b2
  have hG := @RGreatest_does G f p hf
  obtain ⟨P, rfl⟩ : ∃ P : Nat, p = P := ⟨p.toNat, by omega⟩
  rw [Int.toNat_natCast]
  have hW := @RWord_does G 1 (by decide)
  have h1 := @RLeft_does G (nat 1) P (by rw [nat_one]; decide) (nat_ws _) (by omega)
  rw [val_nat, Nat.one_mul] at h1
  have hp : 1 ≤ 2 ^ P := Nat.pow_pos (by decide)
  have hl : (nat (2 ^ P)).length ≤ 257 := nat_len_of (by have : bl (2 ^ P) ≤ P + 1 := (bl_lt _ _).2 (Nat.pow_lt_pow_right (by decide) (by omega)); omega)
  have h2 := @RSub_does G (nat (2 ^ P)) (nat 1) (by omega) (nat_ws _) (by rw [nat_one]; decide) (nat_ws _) (by rw [val_nat, val_nat]; exact hp)
  rw [val_nat, val_nat] at h2
  generalize 2 ^ P = Q at *
  generalize gOfE f = g at *
  refine Does.of (nt := 18) Tryz.func109 rfl rfl rfl (by simp) ?_
  simp only [argTm, PV.ext, Ce.ext]
  refine Do.seqk fun _ k1_ => ?_
  refine Do.region [1,2] true ?_
  simp [go_sem]
  apply k1_; clear k1_
  refine Do.seqk fun _ k2_ => ?_
  refine Do.region [1,2,3] true ?_
  simp [go_sem]
  refine DoL.call true 101 rfl rfl rfl rfl (by first | exact trivial | omega | (simp; done) | (simp; omega)) (hW) rfl (by first | exact .inl rfl | exact .inr rfl) rfl ?_
  simp [go_sem]
  apply k2_; clear k2_
  refine Do.seqk fun _ k3_ => ?_
  refine Do.draw [2] true (by kernel_rfl) ?_
  simp [go_sem]
  repeat (refine And.intro (by first | omega | (intros; omega) | (intros; exact And.intro (by assumption) (by omega)) | kernel_rfl | grind) ?_)
  refine DoLD.call true 202 rfl rfl rfl rfl (by first | exact trivial | omega | (simp; done) | (simp; omega)) (hG) rfl (by first | exact .inl rfl | exact .inr rfl) rfl ?_
  simp [go_sem]
  repeat (refine And.intro (by first | omega | (intros; omega) | (intros; exact And.intro (by assumption) (by omega)) | kernel_rfl | grind) ?_)
  refine DoLD.call true 210 rfl rfl rfl rfl (by first | exact trivial | omega | (simp; done) | (simp; omega)) (h1) rfl (by first | exact .inl rfl | exact .inr rfl) rfl ?_
  simp [go_sem]
  refine DoLD.call true 212 rfl rfl rfl rfl (by first | exact trivial | omega | (simp; done) | (simp; omega)) (h2) rfl (by first | exact .inl rfl | exact .inr rfl) rfl ?_
  simp [go_sem]
  repeat (refine And.intro (by first | omega | (intros; omega) | (intros; exact And.intro (by assumption) (by omega)) | kernel_rfl | grind) ?_)
  try (refine And.intro (by kernel_rfl) ?_)
  apply k3_; clear k3_
  refine Do.ret ?_
  simp [endQ, rets, ret1, go_sem]
  repeat (refine And.intro (by first | omega | (intros; omega) | (intros; exact And.intro (by assumption) (by omega)) | grind) ?_)
  exact TLe.refl _
/-- What is beyond the greatest float. -/
def beyP (f p r : Int) (n : Bool) : Flt := if grP r n then ⟨1, n, gOfE f - p + 1, 2 ^ p.toNat - 1⟩ else ⟨2, n, 0, 0⟩
theorem beyond_does {f p r : Int} {n : Bool} (hf : fmOk f p = true) : Does Tryz.prog G 71 [Fm f p, .c (.i .i64 r), .c (.b n)] (.v (beyP f p r n).pw) := by
  have hT := @Top_does G f p hf
  generalize hz : beyP f p r n = z at *
  unfold beyP grP at hz
  refine Does.of (nt := 32) Tryz.func71 rfl rfl rfl (by simp) ?_
  simp only [argTm, PV.ext, Ce.ext]
  refine Do.seqk fun _ k1_ => ?_
  refine Do.region [1,2,3,6] true ?_
  simp [go_sem]
  apply k1_; clear k1_
  refine Do.seqk fun _ k2_ => ?_
  refine Do.seqk fun _ k3_ => ?_
  refine Do.region [2,3,6,24] true ?_
  simp [go_sem]
  repeat (refine And.intro (by first | omega | (intros; omega) | (intros; exact And.intro (by assumption) (by omega)) | grind) ?_)
  apply k3_; clear k3_
  refine Do.cond [2,3,6] rfl (fun h => ?_) (fun h => ?_) <;> simp [go_sem] at h ⊢
  · refine Do.seqk fun _ k4_ => ?_
    refine Do.region [2,6,7] true ?_
    simp [go_sem]
    repeat (refine And.intro (by first | omega | (intros; omega) | (intros; exact And.intro (by assumption) (by omega)) | grind) ?_)
    refine DoL.call true 202 rfl rfl rfl rfl (by first | exact trivial | omega | (simp; done) | (simp; omega)) (hT) rfl (by first | exact .inl rfl | exact .inr rfl) rfl ?_
    simp [go_sem]
    repeat (refine And.intro (by first | omega | (intros; omega) | (intros; exact And.intro (by assumption) (by omega)) | grind) ?_)
    apply k4_; clear k4_
    refine Do.seqk fun _ k5_ => ?_
    refine Do.region [6,7] true ?_
    simp [go_sem]
    repeat (refine And.intro (by first | omega | (intros; omega) | (intros; exact And.intro (by assumption) (by omega)) | grind) ?_)
    apply k5_; clear k5_
    refine Do.seqk fun _ k6_ => ?_
    refine Do.region [6] true ?_
    simp [go_sem]
    repeat (refine And.intro (by first | omega | (intros; omega) | (intros; exact And.intro (by assumption) (by omega)) | grind) ?_)
    apply k6_; clear k6_
    refine Do.ret ?_
    simp [endQ, rets, ret1, go_sem]
    repeat (refine And.intro (by first | omega | (intros; omega) | (intros; exact And.intro (by assumption) (by omega)) | grind) ?_)
    rw [← hz, if_pos (by simpa using h)]
    exact TLe.refl _
  · refine Do.skip ?_
    simp [go_sem]
    apply k2_; clear k2_
    refine Do.seqk fun _ k7_ => ?_
    refine Do.region [6] true ?_
    simp [go_sem]
    repeat (refine And.intro (by first | omega | (intros; omega) | (intros; exact And.intro (by assumption) (by omega)) | grind) ?_)
    apply k7_; clear k7_
    refine Do.ret ?_
    simp [endQ, rets, ret1, go_sem]
    repeat (refine And.intro (by first | omega | (intros; omega) | (intros; exact And.intro (by assumption) (by omega)) | grind) ?_)
    rw [← hz, if_neg (by simpa using h)]
    exact TLe.v (PLe.flw (ret_zw rfl))
end Go.Proofs.YtdaecibpkhcllaaGreatDoor
/- The reference's rounding is the program's. No condition. -/
namespace Go.Proofs.YtdaecibpkhcllaaGreatDoor
set_option linter.unusedVariables false
set_option linter.unusedSimpArgs false
variable {G : Gl}
set_option maxHeartbeats 4000000
set_option maxRecDepth 10000
theorem bl_div (v k : Nat) : bl (v / 2 ^ k) = bl v - k := by
  have h : ∀ j, j < bl (v / 2 ^ k) ↔ j + k < bl v := fun j => by
    rw [bl_le, bl_le, Nat.le_div_iff_mul_le (Nat.pow_pos (by decide)), ← Nat.pow_add]
  apply Nat.le_antisymm
  · apply Nat.le_of_not_lt
    intro hl
    have := (h (bl v - k)).1 hl
    omega
  · apply Nat.le_of_not_lt
    intro hl
    have := (h (bl (v / 2 ^ k))).2 (by omega)
    omega
theorem cutP_len {v : Nat} (hv : 0 < v) {s : Int} (h : s ≤ bl v) {st : Bool} : (bl (cutP v s st).1 : Int) = bl v - s := by
  unfold cutP
  split
  · simp only []
    rw [bl_mul_pow _ _ hv]; omega
  · simp only []
    rw [bl_div]; omega
theorem upP_ge (r : Int) (n : Bool) (q : Nat) (x : Int) : q ≤ upP r n q x := by unfold upP; split <;> omega
theorem roundP_len {f p r : Int} (hf : fmOk f p = true) {n : Bool} {v : Nat} {e : Int} (hv : 0 < v) (h : 1 - gOfE f ≤ e + bl v - 1) : p ≤ bl (upP r n (cutP v (stepP f p (e + bl v - 1) - e) false).1 (cutP v (stepP f p (e + bl v - 1) - e) false).2) := by
  obtain ⟨b1, b2, b3, b4⟩ := fmOk_spec hf
  have hu : stepP f p (e + bl v - 1) = e + bl v - 1 - p + 1 := by unfold stepP; rw [if_neg (by omega)]
  have h1 := @cutP_len v hv (stepP f p (e + bl v - 1) - e) (by omega) false
  have h2 := bl_mono (upP_ge r n (cutP v (stepP f p (e + bl v - 1) - e) false).1 (cutP v (stepP f p (e + bl v - 1) - e) false).2)
  omega
/-- Too great at once. -/
theorem roundP_over {f p r : Int} (hf : fmOk f p = true) {n : Bool} {v : Nat} {e : Int} (hv : 0 < v) (h : gOfE f < e + bl v - 1) : roundP f p r n v e false = (beyP f p r n, 5) := by
  obtain ⟨b1, b2, b3, b4⟩ := fmOk_spec hf
  obtain ⟨b5, b6⟩ := gOfE_le b1 b2
  have h1 := @roundP_len f p r hf n v e hv (by omega)
  have hu : stepP f p (e + bl v - 1) = e + bl v - 1 - p + 1 := by unfold stepP; rw [if_neg (by omega)]
  unfold roundP beyP
  simp only []
  rw [if_pos (by omega)]
theorem cutP_zero {v : Nat} {s : Int} (hv : 0 < v) (h : (cutP v s false).1 = 0) : (cutP v s false).2 ≠ 0 := by
  unfold cutP at h ⊢
  split at h
  · simp only [] at h
    have := Nat.pow_pos (n := (-s).toNat) (show 0 < 2 by decide)
    have := Nat.mul_pos hv this
    omega
  · rename_i hs
    rw [if_neg hs]
    simp only [] at h ⊢
    have e1 : s.toNat = (s - 1).toNat + 1 := by omega
    rw [e1, Nat.pow_succ] at h
    have hlt : v < 2 ^ (s - 1).toNat * 2 := by
      rcases Nat.div_eq_zero_iff.1 h with h | h
      · have := Nat.pow_pos (n := (s - 1).toNat) (show 0 < 2 by decide); omega
      · exact h
    split
    · split <;> decide
    · rename_i h2
      have h3 : v / 2 ^ (s - 1).toNat < 2 := by
        rw [Nat.div_lt_iff_lt_mul (Nat.pow_pos (by decide)), Nat.mul_comm]; exact hlt
      have h4 : v / 2 ^ (s - 1).toNat = 0 := by
        generalize v / 2 ^ (s - 1).toNat = w at h2 h3 ⊢
        omega
      have h5 : v < 2 ^ (s - 1).toNat := by
        rcases Nat.div_eq_zero_iff.1 h4 with h | h
        · have := Nat.pow_pos (n := (s - 1).toNat) (show 0 < 2 by decide); omega
        · exact h
      rw [Nat.mod_eq_of_lt h5]
      simp; omega
theorem Steps_does {n : Bool} {v : Nat} {e s : Int} (hb : bl v ≤ 8388608) (he : -8388608 ≤ e ∧ e ≤ 8388608) (hs : -8388600 ≤ s ∧ s ≤ 8388600) : ∃ h t, Does Tryz.prog G 74 [Rl n v e, .c (.i .i64 s)] (.v (Pt (cutP v (s - e) false).1 h t)) ∧ pcode h t = (cutP v (s - e) false).2 := by
  by_cases ha : 0 ≤ e - (s - 1)
  · obtain ⟨k, hk⟩ : ∃ k : Nat, e - (s - 1) = k := ⟨(e - (s - 1)).toNat, by omega⟩
    have hS := @Steps_up G n v e s k hk (by omega) (by omega) (by constructor <;> omega) (by constructor <;> omega)
    refine ⟨decide (v * 2 ^ k % 2 = 1), false, ?_, ?_⟩
    · suffices h : (cutP v (s - e) false).1 = v * 2 ^ k / 2 by rw [h]; exact hS
      unfold cutP
      split
      · rename_i h
        simp only []
        rw [show k = (-(s - e)).toNat + 1 by omega, Nat.pow_succ, ← Nat.mul_assoc, Nat.mul_div_cancel _ (by decide)]
      · rename_i h
        simp only []
        obtain rfl : k = 0 := by omega
        rw [show (s - e).toNat = 1 by omega]; simp
    · unfold cutP
      split
      · rename_i h
        rw [show k = (-(s - e)).toNat + 1 by omega, Nat.pow_succ, ← Nat.mul_assoc, Nat.mul_mod_left]
        rfl
      · rename_i h
        obtain rfl : k = 0 := by omega
        rw [show (s - e - 1).toNat = 0 by omega]
        simp [Nat.mod_one, pcode]
  · obtain ⟨k, hk⟩ : ∃ k : Nat, e - (s - 1) = -(k : Int) := ⟨(-(e - (s - 1))).toNat, by omega⟩
    have hS := @Steps_down G n v e s k hk (by omega) (by omega) (by omega) (by constructor <;> omega) (by constructor <;> omega)
    refine ⟨decide (v / 2 ^ k % 2 = 1), !decide (v % 2 ^ k = 0), ?_, ?_⟩
    · suffices h : (cutP v (s - e) false).1 = v / 2 ^ k / 2 by rw [h]; exact hS
      unfold cutP
      rw [if_neg (by omega)]
      simp only []
      rw [show (s - e).toNat = k + 1 by omega, Nat.pow_succ, Nat.div_div_eq_div_mul]
    · unfold cutP
      rw [if_neg (by omega), show (s - e - 1).toNat = k by omega]
      simp only [Bool.false_or]
      cases hd : decide (v % 2 ^ k = 0) <;> by_cases hq : v / 2 ^ k % 2 = 1 <;> simp [pcode, hq]
theorem Round_new {f p r : Int} (hf : fmOk f p = true) (hr : 0 ≤ r) (hr' : r ≤ 4) {n : Bool} {v : Nat} {e : Int} (hv : 0 < v) (hb : bl v ≤ 4194304) (he : -4194304 ≤ e ∧ e ≤ 4194304) : Does Tryz.prog G 30 [Fm f p, .c (.i .i64 r), Rl n v e] (.t [(roundP f p r n v e false).1.pw, .c (.i .i64 (roundP f p r n v e false).2)]) := by
  obtain ⟨b1, b2, b3, b4⟩ := fmOk_spec hf
  obtain ⟨b5, b6⟩ := gOfE_le b1 b2
  have hE := @Exponent_does G n v e hv (by omega) (by constructor <;> omega)
  rw [show (bl v : Int) - 1 + e = e + bl v - 1 by omega] at hE
  have hG := @RGreatest_does G f p hf
  have hL := @RLeast_does G f p hf
  have hB := @beyond_does G f p r n hf
  have ho := @roundP_over f p r hf n v e hv
  by_cases h : gOfE f < e + bl v - 1
  · rw [ho h]
    generalize beyP f p r n = y at *
    generalize e + (bl v : Int) - 1 = E at *
    generalize gOfE f = g at *
    refine Does.of (nt := 78) Tryz.func30 rfl rfl rfl (by simp) ?_
    simp only [argTm, PV.ext, Ce.ext]
    refine Do.seqk fun _ k1_ => ?_
    refine Do.region [1,3,5,6] true ?_
    simp [go_sem, h]
    apply k1_; clear k1_
    refine Do.seqk fun _ k2_ => ?_
    refine Do.region [1,3,5,6,8] true ?_
    simp [go_sem, h]
    repeat (refine And.intro (by first | omega | (intros; omega) | (intros; exact And.intro (by assumption) (by omega)) | grind) ?_)
    refine DoL.call true 102 rfl rfl rfl rfl (by first | exact trivial | omega | (simp; done) | (simp; omega)) (hE) rfl (by first | exact .inl rfl | exact .inr rfl) rfl ?_
    simp [go_sem, h]
    apply k2_; clear k2_
    refine Do.seqk fun _ k3_ => ?_
    refine Do.seqk fun _ k4_ => ?_
    refine Do.region [1,3,5,6,8,18] true ?_
    simp [go_sem, h]
    repeat (refine And.intro (by first | omega | (intros; omega) | (intros; exact And.intro (by assumption) (by omega)) | grind) ?_)
    refine DoL.call true 203 rfl rfl rfl rfl (by first | exact trivial | omega | (simp; done) | (simp; omega)) (hG) rfl (by first | exact .inl rfl | exact .inr rfl) rfl ?_
    simp [go_sem, h]
    apply k4_; clear k4_
    refine Do.cond [1,3,5,6,8] rfl (fun h1 => ?_) (fun h1 => ?_) <;> simp [go_sem, h] at h1 ⊢
    refine Do.seqk fun _ k5_ => ?_
    refine Do.region [6,7] true ?_
    simp [go_sem, h]
    repeat (refine And.intro (by first | omega | (intros; omega) | (intros; exact And.intro (by assumption) (by omega)) | grind) ?_)
    refine DoL.call true 305 rfl rfl rfl rfl (by first | exact trivial | omega | (simp; done) | (simp; omega)) (hB) rfl (by first | exact .inl rfl | exact .inr rfl) rfl ?_
    simp [go_sem, h]
    repeat (refine And.intro (by first | omega | (intros; omega) | (intros; exact And.intro (by assumption) (by omega)) | grind) ?_)
    apply k5_; clear k5_
    refine Do.ret ?_
    simp [endQ, rets, ret1, go_sem, h]
    repeat (refine And.intro (by first | omega | (intros; omega) | (intros; exact And.intro (by assumption) (by omega)) | grind) ?_)
    exact TLe.refl _
  · have hu : -100000 ≤ stepP f p (e + bl v - 1) ∧ stepP f p (e + bl v - 1) ≤ 5000000 := by unfold stepP; split <;> omega
    have hlen := @roundP_len f p r hf n v e hv
    have hcz := @cutP_zero v (stepP f p (e + bl v - 1) - e) hv
    obtain ⟨hh, tt, hS, hcode⟩ := @Steps_does G n v e (stepP f p (e + bl v - 1)) (by omega) (by constructor <;> omega) (by constructor <;> omega)
    have hcl := cutP_bl v (stepP f p (e + bl v - 1) - e) false
    have hR := @Rounded_does G r hr hr' n hh tt (cutP v (stepP f p (e + bl v - 1) - e) false).1 (by omega)
    have hge := upP_ge r n (cutP v (stepP f p (e + bl v - 1) - e) false).1 (cutP v (stepP f p (e + bl v - 1) - e) false).2
    have hql := upP_bl r n (cutP v (stepP f p (e + bl v - 1) - e) false).1 (cutP v (stepP f p (e + bl v - 1) - e) false).2
    have hstep : stepP f p (e + bl v - 1) = (if e + bl v - 1 < 1 - gOfE f then 1 - gOfE f else e + bl v - 1) - p + 1 := by unfold stepP; split <;> omega
    rw [hcode] at hR
    generalize hz : roundP f p r n v e false = z
    unfold roundP at hz
    simp only [] at hz
    generalize stepP f p (e + bl v - 1) = u at *
    generalize hq : upP r n (cutP v (u - e) false).1 (cutP v (u - e) false).2 = q at *
    have hqn : (nat q).length ≤ 16777216 := nat_len_of (by omega)
    have hQ := @RLen_does G (nat q) (by omega) (nat_ws _)
    have hZ := @IsZero_does G (nat q) (by omega) (nat_ws _)
    have hC := @Canonical_new G 1 u n (nat q) (by omega) (nat_ws _) (by constructor <;> omega)
    rw [val_nat] at hQ hZ hC
    generalize cutP v (u - e) false = c at *
    have hbey : beyP f p r n = if grP r n then ⟨1, n, gOfE f - p + 1, 2 ^ p.toNat - 1⟩ else ⟨2, n, 0, 0⟩ := rfl
    generalize e + (bl v : Int) - 1 = E at *
    generalize gOfE f = g at *
    generalize beyP f p r n = y at *
    refine Does.of (nt := 78) Tryz.func30 rfl rfl rfl (by simp) ?_
    simp only [argTm, PV.ext, Ce.ext]
    refine Do.seqk fun _ k1_ => ?_
    refine Do.region [1,3,5,6] true ?_
    simp [go_sem, h]
    apply k1_; clear k1_
    refine Do.seqk fun _ k2_ => ?_
    refine Do.region [1,3,5,6,8] true ?_
    simp [go_sem, h]
    repeat (refine And.intro (by first | omega | (intros; omega) | (intros; exact And.intro (by assumption) (by omega)) | grind) ?_)
    refine DoL.call true 102 rfl rfl rfl rfl (by first | exact trivial | omega | (simp; done) | (simp; omega)) (hE) rfl (by first | exact .inl rfl | exact .inr rfl) rfl ?_
    simp [go_sem, h]
    apply k2_; clear k2_
    refine Do.seqk fun _ k3_ => ?_
    refine Do.seqk fun _ k4_ => ?_
    refine Do.region [1,3,5,6,8,18] true ?_
    simp [go_sem, h]
    repeat (refine And.intro (by first | omega | (intros; omega) | (intros; exact And.intro (by assumption) (by omega)) | grind) ?_)
    refine DoL.call true 203 rfl rfl rfl rfl (by first | exact trivial | omega | (simp; done) | (simp; omega)) (hG) rfl (by first | exact .inl rfl | exact .inr rfl) rfl ?_
    simp [go_sem, h]
    apply k4_; clear k4_
    refine Do.cond [1,3,5,6,8] rfl (fun h1 => ?_) (fun h1 => ?_) <;> simp [go_sem, h] at h1 ⊢
    refine Do.skip ?_
    simp [go_sem]
    apply k3_; clear k3_
    refine Do.seqk fun _ k5_ => ?_
    refine Do.draw [1,3,5,6,8,9] true (by kernel_rfl) ?_
    simp [go_sem, h]
    repeat (refine And.intro (by first | omega | (intros; omega) | (intros; exact And.intro (by assumption) (by omega)) | kernel_rfl | grind) ?_)
    refine DoLD.call true 403 rfl rfl rfl rfl (by first | exact trivial | omega | (simp; done) | (simp; omega)) (hL) rfl (by first | exact .inl rfl | exact .inr rfl) rfl ?_
    simp [go_sem, h]
    repeat (refine And.intro (by first | omega | (intros; omega) | (intros; exact And.intro (by assumption) (by omega)) | kernel_rfl | grind) ?_)
    rw [← hstep]
    try (refine And.intro (by kernel_rfl) ?_)
    apply k5_; clear k5_
    refine Do.seqk fun _ k6_ => ?_
    refine Do.draw [1,3,5,6,8,9,10,11] true (by kernel_rfl) ?_
    simp [go_sem, h]
    repeat (refine And.intro (by first | omega | (intros; omega) | (intros; exact And.intro (by assumption) (by omega)) | kernel_rfl | grind) ?_)
    refine DoLD.call true 506 rfl rfl rfl rfl (by first | exact trivial | omega | (simp; done) | (simp; omega)) (hS) rfl (by first | exact .inl rfl | exact .inr rfl) rfl ?_
    simp [go_sem, h]
    refine DoLD.call true 507 rfl rfl rfl rfl (by first | exact trivial | omega | (simp; done) | (simp; omega)) (hR) rfl (by first | exact .inl rfl | exact .inr rfl) rfl ?_
    simp [go_sem, h]
    try (refine And.intro (by kernel_rfl) ?_)
    apply k6_; clear k6_
    refine Do.seqk fun _ k7_ => ?_
    refine Do.block ?_
    refine Do.seqk fun _ k8_ => ?_
    refine Do.draw [1,3,5,6,8,9,10,11,42] true (by kernel_rfl) ?_
    simp [go_sem, h]
    refine DoLD.call true 602 rfl rfl rfl rfl (by first | exact trivial | omega | (simp; done) | (simp; omega)) (hQ) rfl (by first | exact .inl rfl | exact .inr rfl) rfl ?_
    simp [go_sem, h]
    repeat (refine And.intro (by first | omega | (intros; omega) | (intros; exact And.intro (by assumption) (by omega)) | kernel_rfl | grind) ?_)
    refine DoLD.call true 606 rfl rfl rfl rfl (by first | exact trivial | omega | (simp; done) | (simp; omega)) (hG) rfl (by first | exact .inl rfl | exact .inr rfl) rfl ?_
    simp [go_sem, h]
    repeat (refine And.intro (by first | omega | (intros; omega) | (intros; exact And.intro (by assumption) (by omega)) | kernel_rfl | grind) ?_)
    try (refine And.intro (by kernel_rfl) ?_)
    apply k8_; clear k8_
    refine Do.cond [1,3,5,6,8,9,10,11] rfl (fun h2 => ?_) (fun h2 => ?_) <;> simp [go_sem, h] at h2 ⊢
    · refine Do.seqk fun _ k9_ => ?_
      refine Do.region [6,7] true ?_
      simp [go_sem, h]
      repeat (refine And.intro (by first | omega | (intros; omega) | (intros; exact And.intro (by assumption) (by omega)) | grind) ?_)
      refine DoL.call true 705 rfl rfl rfl rfl (by first | exact trivial | omega | (simp; done) | (simp; omega)) (hB) rfl (by first | exact .inl rfl | exact .inr rfl) rfl ?_
      simp [go_sem, h]
      repeat (refine And.intro (by first | omega | (intros; omega) | (intros; exact And.intro (by assumption) (by omega)) | grind) ?_)
      apply k9_; clear k9_
      refine Do.ret ?_
      simp [endQ, rets, ret1, go_sem, h]
      repeat (refine And.intro (by first | omega | (intros; omega) | (intros; exact And.intro (by assumption) (by omega)) | grind) ?_)
      rw [← hz, if_pos (by omega), ← hbey]
      exact TLe.refl _
    · refine Do.seqk fun _ k10_ => ?_
      refine Do.region [3,5,6,8,9,10,11,56] true ?_
      simp [go_sem, h]
      refine DoL.call true 802 rfl rfl rfl rfl (by first | exact trivial | omega | (simp; done) | (simp; omega)) (hZ) rfl (by first | exact .inl rfl | exact .inr rfl) rfl ?_
      simp [go_sem, h]
      apply k10_; clear k10_
      refine Do.cond [3,5,6,8,9,10,11] rfl (fun h3 => ?_) (fun h3 => ?_) <;> simp [go_sem, h] at h3 ⊢
      · refine Do.seqk fun _ k11_ => ?_
        refine Do.region [6,7] true ?_
        simp [go_sem, h]
        repeat (refine And.intro (by first | omega | (intros; omega) | (intros; exact And.intro (by assumption) (by omega)) | grind) ?_)
        apply k11_; clear k11_
        refine Do.ret ?_
        simp [endQ, rets, ret1, go_sem, h]
        repeat (refine And.intro (by first | omega | (intros; omega) | (intros; exact And.intro (by assumption) (by omega)) | grind) ?_)
        have hE0 : E < 1 - g := by
          apply Classical.byContradiction
          intro hn
          have := hlen (by omega)
          rw [h3, bl_zero] at this
          omega
        rw [← hz, if_neg (by omega), if_neg (hcz (by omega)), if_pos hE0, h3, mkP, if_pos rfl]
        exact TLe.t (.cons (PLe.flw (ret_zw rfl)) (.cons (PLe.refl _) .nil))
      · have hrc : rcanon ⟨1, n, u, q⟩ = mkP n q u := by simp [rcanon, mkP, h3]
        rw [hrc] at hC
        rw [if_neg (show ¬ g < u + bl q - 1 by omega)] at hz
        refine Do.skip ?_
        simp [go_sem]
        apply k7_; clear k7_
        refine Do.seqk fun _ k12_ => ?_
        refine Do.region [3,6,8,11,12] true ?_
        simp [go_sem, h]
        repeat (refine And.intro (by first | omega | (intros; omega) | (intros; exact And.intro (by assumption) (by omega)) | grind) ?_)
        refine DoL.call true 1006 rfl rfl rfl rfl (by first | exact trivial | omega | (simp; done) | (simp; omega)) (hC) rfl (by first | exact .inl rfl | exact .inr rfl) rfl ?_
        simp [go_sem, h]
        repeat (refine And.intro (by first | omega | (intros; omega) | (intros; exact And.intro (by assumption) (by omega)) | grind) ?_)
        apply k12_; clear k12_
        refine Do.seqk fun _ k13_ => ?_
        refine Do.block ?_
        refine Do.seqk fun _ k14_ => ?_
        refine Do.region [3,6,8,12,68] true ?_
        simp [go_sem, h]
        apply k14_; clear k14_
        refine Do.cond [3,6,8,12] rfl (fun h4 => ?_) (fun h4 => ?_) <;> simp [go_sem, h] at h4 ⊢
        · refine Do.seqk fun _ k15_ => ?_
          refine Do.region [6,7] true ?_
          simp [go_sem, h]
          repeat (refine And.intro (by first | omega | (intros; omega) | (intros; exact And.intro (by assumption) (by omega)) | grind) ?_)
          apply k15_; clear k15_
          refine Do.ret ?_
          simp [endQ, rets, ret1, go_sem, h]
          repeat (refine And.intro (by first | omega | (intros; omega) | (intros; exact And.intro (by assumption) (by omega)) | grind) ?_)
          rw [← hz, if_pos h4]
          exact TLe.refl _
        · refine Do.seqk fun _ k16_ => ?_
          refine Do.region [6,12,71] true ?_
          simp [go_sem, h]
          repeat (refine And.intro (by first | omega | (intros; omega) | (intros; exact And.intro (by assumption) (by omega)) | grind) ?_)
          refine DoL.call true 1303 rfl rfl rfl rfl (by first | exact trivial | omega | (simp; done) | (simp; omega)) (hL) rfl (by first | exact .inl rfl | exact .inr rfl) rfl ?_
          simp [go_sem, h]
          apply k16_; clear k16_
          refine Do.cond [6,12] rfl (fun h5 => ?_) (fun h5 => ?_) <;> simp [go_sem, h] at h5 ⊢
          · refine Do.seqk fun _ k17_ => ?_
            refine Do.region [6,7] true ?_
            simp [go_sem, h]
            repeat (refine And.intro (by first | omega | (intros; omega) | (intros; exact And.intro (by assumption) (by omega)) | grind) ?_)
            apply k17_; clear k17_
            refine Do.ret ?_
            simp [endQ, rets, ret1, go_sem, h]
            repeat (refine And.intro (by first | omega | (intros; omega) | (intros; exact And.intro (by assumption) (by omega)) | grind) ?_)
            rw [← hz, if_neg h4, if_pos h5]
            exact TLe.refl _
          · refine Do.skip ?_
            simp [go_sem]
            apply k13_; clear k13_
            refine Do.seqk fun _ k18_ => ?_
            refine Do.region [6,7] true ?_
            simp [go_sem, h]
            repeat (refine And.intro (by first | omega | (intros; omega) | (intros; exact And.intro (by assumption) (by omega)) | grind) ?_)
            apply k18_; clear k18_
            refine Do.ret ?_
            simp [endQ, rets, ret1, go_sem, h]
            repeat (refine And.intro (by first | omega | (intros; omega) | (intros; exact And.intro (by assumption) (by omega)) | grind) ?_)
            rw [← hz, if_neg h4, if_neg (by omega)]
            exact TLe.refl _
theorem Round_does {f p r : Int} (hf : fmOk f p = true) (hr : 0 ≤ r) (hr' : r ≤ 4) {n : Bool} {v : Nat} {e : Int} (hv : 0 < v) (hb : bl v ≤ 4194304) (he : -4194304 ≤ e ∧ e ≤ 4194304) : Does Tryz.prog G 30 [Fm f p, .c (.i .i64 r), Rl n v e] (.t [(roundP f p r n v e false).1.pv, .c (.i .i64 (roundP f p r n v e false).2)]) :=
  (Round_new hf hr hr' hv hb he).mono (TLe.t (.cons (Flt.pw_le _) (.cons (PLe.refl _) .nil)))
end Go.Proofs.YtdaecibpkhcllaaGreatDoor
/- Canonical floats, counted. No condition. -/
namespace Go.Proofs.YtdaecibpkhcllaaGreatDoor
set_option linter.unusedVariables false
set_option linter.unusedSimpArgs false
variable {G : Gl}
set_option maxHeartbeats 4000000
set_option maxRecDepth 10000
/-- How many floats are of a kind and a sign. -/
def cnt (k : Int) (n : Bool) : List Flt → Nat
  | [] => 0
  | x :: l => (if x.k = k ∧ x.n = n then 1 else 0) + cnt k n l
theorem cnt_append (k : Int) (n : Bool) (l m : List Flt) : cnt k n (l ++ m) = cnt k n l + cnt k n m := by
  induction l with
  | nil => simp [cnt]
  | cons x l ih => simp only [List.cons_append, cnt, ih]; omega
theorem cnt_take {k : Int} {n : Bool} {l : List Flt} {i : Nat} {x : Flt} (h : l[i]? = some x) : cnt k n (l.take (i + 1)) = cnt k n (l.take i) + if x.k = k ∧ x.n = n then 1 else 0 := by
  rw [List.take_add_one, h, cnt_append]; simp [cnt]
theorem cnt_le (k : Int) (n : Bool) (l : List Flt) : cnt k n l ≤ l.length := by
  induction l with
  | nil => simp [cnt]
  | cons x l ih => simp only [cnt, List.length_cons]; split <;> omega
theorem count_does {l : List Flt} {k : Int} (hl : l.length < 1099511627776) : Does Tryz.prog G 52 [.s false (l.map Flt.cs), .c (.i .i64 k)] (.t [.c (.i .i64 (cnt k true l)), .c (.i .i64 (cnt k false l))]) := by
  have hle := fun n i => Nat.le_trans (cnt_le k n (l.take i)) (List.length_take_le' i l)
  refine Does.of (nt := 44) Tryz.func52 rfl rfl rfl (by simp) ?_
  simp only [argTm, PV.ext, Ce.ext]
  refine Do.seqk fun _ k1_ => ?_
  refine Do.region [0,1] true ?_
  simp [go_sem]
  apply k1_; clear k1_
  refine Do.seqk fun _ k2_ => ?_
  refine Do.region [0,1,6,7] true ?_
  simp [go_sem]
  apply k2_; clear k2_
  refine Do.seqk fun _ k3_ => ?_
  refine Do.seqk fun _ k4_ => ?_
  refine Do.region [0,1,6,7,8] true ?_
  simp [go_sem]
  apply k4_; clear k4_
  refine Do.block ?_
  refine Do.loopF [0,1,6,7,8] (fun (i : Nat) => [(6, .int .i64 (cnt k true (l.take i))), (7, .int .i64 (cnt k false (l.take i))), (8, .int .i64 i)]) (fun (i : Nat) => []) (fun (i : Nat) => i ≤ l.length) (fun (i : Nat) => l.length - i) (0) (fun _ => by first | (simp [go_sem, mixS]; done) | (simp [go_sem, mixS]; rfl)) (St.le_of (by simp [keep, cnt]) rfl) (Nat.zero_le _) ?_
  intro i hi
  refine Do.seqk fun _ k5_ => ?_
  refine Do.seqk fun _ k6_ => ?_
  refine Do.region [0,1,6,7,8,12] true ?_
  simp [go_sem]
  repeat (refine And.intro (by first | omega | (intros; omega) | (intros; exact And.intro (by assumption) (by omega)) | grind) ?_)
  apply k6_; clear k6_
  refine Do.cond [0,1,6,7,8] rfl (fun h => ?_) (fun h => ?_) <;> simp [go_sem] at h ⊢
  · obtain ⟨x, hx⟩ : ∃ x, l[i]? = some x := ⟨_, List.getElem?_eq_getElem h⟩
    have ht := @cnt_take k true l i x hx
    have hf := @cnt_take k false l i x hx
    have b1 := hle true i
    have b2 := hle false i
    refine Do.skip ?_
    simp [go_sem]
    apply k5_; clear k5_
    refine Do.seqk fun _ k7_ => ?_
    refine Do.block ?_
    refine Do.block ?_
    refine Do.seqk fun _ k8_ => ?_
    refine Do.region [0,1,6,7,8,15] true ?_
    simp [go_sem, hx]
    repeat (refine And.intro (by first | omega | (intros; omega) | (intros; exact And.intro (by assumption) (by omega)) | grind) ?_)
    apply k8_; clear k8_
    refine Do.cond [0,1,6,7,8] rfl (fun h1 => ?_) (fun h1 => ?_) <;> simp [go_sem, hx] at h1 ⊢
    · rw [if_pos h1] at ht
      rw [if_neg (by simp [h1.2])] at hf
      refine Do.region [0,1,6,7,8] true ?_
      simp [go_sem, hx]
      repeat (refine And.intro (by first | omega | (intros; omega) | (intros; exact And.intro (by assumption) (by omega)) | grind) ?_)
      apply k7_; clear k7_
      refine Do.region [0,1,6,7,8] true ?_
      simp [go_sem, hx]
      repeat (refine And.intro (by first | omega | (intros; omega) | (intros; exact And.intro (by assumption) (by omega)) | grind) ?_)
      refine ⟨i + 1, St.le_of (by simp [keep, ht, hf]) rfl, by omega, by simp; omega⟩
    · refine Do.seqk fun _ k9_ => ?_
      refine Do.region [0,1,6,7,8,32] true ?_
      simp [go_sem, hx]
      repeat (refine And.intro (by first | omega | (intros; omega) | (intros; exact And.intro (by assumption) (by omega)) | grind) ?_)
      apply k9_; clear k9_
      refine Do.cond [0,1,6,7,8] rfl (fun h2 => ?_) (fun h2 => ?_) <;> simp [go_sem, hx] at h2 ⊢
      · rw [if_neg (by simpa using h1)] at ht
        rw [if_pos (by simpa [h2] using h1)] at hf
        refine Do.region [0,1,6,7,8] true ?_
        simp [go_sem, hx]
        repeat (refine And.intro (by first | omega | (intros; omega) | (intros; exact And.intro (by assumption) (by omega)) | grind) ?_)
        apply k7_; clear k7_
        refine Do.region [0,1,6,7,8] true ?_
        simp [go_sem, hx]
        repeat (refine And.intro (by first | omega | (intros; omega) | (intros; exact And.intro (by assumption) (by omega)) | grind) ?_)
        refine ⟨i + 1, St.le_of (by simp [keep, ht, hf]) rfl, by omega, by simp; omega⟩
      · rw [if_neg (by simp [h2])] at ht
        rw [if_neg (by simp [h2])] at hf
        refine Do.skip ?_
        simp [go_sem]
        apply k7_; clear k7_
        refine Do.region [0,1,6,7,8] true ?_
        simp [go_sem, hx]
        repeat (refine And.intro (by first | omega | (intros; omega) | (intros; exact And.intro (by assumption) (by omega)) | grind) ?_)
        refine ⟨i + 1, St.le_of (by simp [keep, ht, hf]) rfl, by omega, by simp; omega⟩
  · refine Do.exit ?_
    simp [go_sem]
    apply k3_; clear k3_
    refine Do.seqk fun _ k10_ => ?_
    refine Do.region [4,5] true ?_
    simp [go_sem]
    apply k10_; clear k10_
    refine Do.ret ?_
    simp [endQ, rets, ret1, go_sem]
    repeat (refine And.intro (by first | omega | (intros; omega) | (intros; exact And.intro (by assumption) (by omega)) | grind) ?_)
    rw [List.take_of_length_le (by omega)]
    exact TLe.refl _
theorem canonical17_does {l : List Fla} (hl : l.length < 1099511627776) (ho : ∀ x ∈ l, x.m.length ≤ 1073741824 ∧ Ws x.m ∧ Md x.e) : Does Tryz.prog G 51 [Rows l] (.v (.s true ((l.map fun x => rcanon x.flt).map Flt.cs))) := by
  obtain ⟨L, hL⟩ : ∃ L, L = l.map fun x => rcanon x.flt := ⟨_, rfl⟩
  have hll : L.length = l.length := by rw [hL]; simp
  rw [← hL]
  have hget : ∀ (i : Nat) (x : Fla), l[i]? = some x → L[i]? = some (rcanon x.flt) := fun i x h => by rw [hL]; simp [h]
  clear hL
  refine Does.of (nt := 20) Tryz.func51 rfl rfl rfl (by simp) ?_
  simp only [argTm, PV.ext, Ce.ext]
  refine Do.seqk fun _ k1_ => ?_
  refine Do.region [0] true ?_
  simp [go_sem]
  apply k1_; clear k1_
  refine Do.seqk fun _ k2_ => ?_
  refine Do.region [0,3] true ?_
  simp [go_sem]
  apply k2_; clear k2_
  refine Do.seqk fun _ k3_ => ?_
  refine Do.seqk fun _ k4_ => ?_
  refine Do.region [0,3,4] true ?_
  simp [go_sem]
  apply k4_; clear k4_
  refine Do.block ?_
  refine Do.own 3 900 4 rfl rfl (by decide) ?_
  simp [go_sem]
  refine Do.loopF [0,3,4] (fun (i : Nat) => [(3, .v (.c (.r 900 i))), (4, .int .i64 i)]) (fun (i : Nat) => [(900, .sr 4 ((L.map Flt.cs).take i))]) (fun (i : Nat) => i ≤ l.length) (fun (i : Nat) => l.length - i) (0) (fun _ => by first | (simp [go_sem, mixS]; done) | (simp [go_sem, mixS]; rfl)) (St.le_of (by first | rfl | simp [keep]) (by first | rfl | simp [keep])) (Nat.zero_le _) ?_
  intro i hi
  refine Do.seqk fun _ k5_ => ?_
  refine Do.seqk fun _ k6_ => ?_
  refine Do.region [0,3,4,8] true ?_
  simp [go_sem]
  repeat (refine And.intro (by first | omega | (intros; omega) | (intros; exact And.intro (by assumption) (by omega)) | grind) ?_)
  apply k6_; clear k6_
  refine Do.cond [0,3,4] rfl (fun h2 => ?_) (fun h2 => ?_) <;> simp [go_sem] at h2 ⊢
  · obtain ⟨x, hx⟩ : ∃ x, l[i]? = some x := ⟨_, List.getElem?_eq_getElem h2⟩
    have hmin : min i L.length = i := by omega
    have hg := hget i x hx
    have hxo := ho x (List.mem_of_getElem? hx)
    have hC := @Canonical_does G x.k x.e x.n x.m hxo.1 hxo.2.1 hxo.2.2
    have hC : Does Tryz.prog G 55 [Fl x.k x.n x.e x.m] (.v (rcanon x.flt).pv) := hC
    refine Do.skip ?_
    simp [go_sem]
    apply k5_; clear k5_
    refine Do.seqk fun _ k7_ => ?_
    refine Do.block ?_
    refine Do.region [0,3,4] true ?_
    simp [go_sem, hx, hmin]
    repeat (refine And.intro (by first | omega | (intros; omega) | (intros; exact And.intro (by assumption) (by omega)) | grind) ?_)
    refine DoL.call true 506 rfl rfl rfl rfl (by first | exact trivial | omega | (simp; done) | (simp; omega)) (hC) rfl (by first | exact .inl rfl | exact .inr rfl) rfl ?_
    simp [go_sem, hx, hmin]
    repeat (refine And.intro (by first | omega | (intros; omega) | (intros; exact And.intro (by assumption) (by omega)) | grind) ?_)
    apply k7_; clear k7_
    refine Do.region [0,3,4] true ?_
    simp [go_sem, hx, hmin]
    repeat (refine And.intro (by first | omega | (intros; omega) | (intros; exact And.intro (by assumption) (by omega)) | grind) ?_)
    refine ⟨i + 1, St.le_of rfl (by simp [keep, List.take_add_one, hg]), by omega, by simp; omega⟩
  · refine Do.exit ?_
    simp [go_sem]
    apply k3_; clear k3_
    refine Do.seqk fun _ k8_ => ?_
    refine Do.region [2] true ?_
    simp [go_sem]
    apply k8_; clear k8_
    refine Do.ret ?_
    simp [endQ, rets, ret1, go_sem]
    repeat (refine And.intro (by first | omega | (intros; omega) | (intros; exact And.intro (by assumption) (by omega)) | grind) ?_)
    have e : i = l.length := by omega
    rw [List.take_of_length_le (by simp; omega)]
    exact TLe.refl _
end Go.Proofs.YtdaecibpkhcllaaGreatDoor
