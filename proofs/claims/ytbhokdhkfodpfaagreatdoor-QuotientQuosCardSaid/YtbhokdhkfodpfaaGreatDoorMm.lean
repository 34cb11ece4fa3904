/- A quotient times a power of 2, rounded. No condition. Integer roots by Newton's steps, plain. No condition. A quotient rounded to an integer, by the program. No condition. -/
import Derived.Test.YtbhokdhkfodpfaaGreatDoorMl
import Derived.Test.YtbhokdhkfodpfaaGreatDoorMf
/- A quotient times a power of 2, rounded. No condition. -/
namespace Go.Proofs.YtbhokdhkfodpfaaGreatDoor
set_option linter.unusedVariables false
set_option linter.unusedSimpArgs false
set_option maxHeartbeats 8000000
set_option maxRecDepth 10000
/-- A quotient times a power of 2, rounded to a format, and the flags. -/
def ratE (f p r : Int) (n : Bool) (v d : Nat) (e : Int) (K : Nat) : Flt × Int := roundP f p r n (quoM v d K) (e - (K : Int)) (quoS v d K)
theorem ratE_deep {f p r : Int} {n : Bool} {v d s K : Nat} {e : Int} (hp : 0 ≤ p) (hd : 0 < d) (hs : s ≤ K) (hM : p + 2 ≤ bl (quoM v d s)) : ratE f p r n v d e K = ratE f p r n v d e s := by
  obtain ⟨j, rfl⟩ : ∃ j, K = s + j := ⟨K - s, by omega⟩
  obtain ⟨h1, h2⟩ := @quo_deep v d s j hd
  unfold ratE
  rw [show e - ((s + j : Nat) : Int) = e - (s : Int) - j by omega, roundP_deep hp (by rw [h1]; exact hM), h1, h2]
theorem RatioE_does {f p r : Int} (hf : fmOk f p = true) (hr : 0 ≤ r) (hr' : r ≤ 4) {n : Bool} {m d : List Nat} (hm : m.length ≤ 4096) (wm : Ws m) (hd : d.length ≤ 4096) (wd : Ws d) (h0 : 0 < val m) (h1 : 0 < val d) {e : Int} (he : -1000000 ≤ e ∧ e ≤ 1000000) {K : Nat} (hK : p + 3 + bl (val d) ≤ K) :
    Does Tryz.prog Gv 70 [Fm f p, .c (.i .i64 r), .c (.b n), Wd m, Wd d, .c (.i .i64 e)] (.t [(ratE f p r n (val m) (val d) e K).1.pv, .c (.i .i64 (ratE f p r n (val m) (val d) e K).2)]) := by
  obtain ⟨b1, b2, b3, b4⟩ := fmOk_spec hf
  have hbm : bl (val m) ≤ 64 * m.length := bl_le_len wm (Nat.le_refl _)
  have hbd : bl (val d) ≤ 64 * d.length := bl_le_len wd (Nat.le_refl _)
  have hpm := bl_pos h0
  have hL := @Len_does Gv m (by unfold Sh; omega) wm
  have hL1 := @Len_does Gv d (by unfold Sh; omega) wd
  by_cases hs : p + 3 - bl (val m) + bl (val d) > 0
  · obtain ⟨s, hs'⟩ : ∃ s : Nat, p + 3 - bl (val m) + bl (val d) = s := ⟨(p + 3 - bl (val m) + bl (val d)).toNat, by omega⟩
    have hen := @quo_enough (val m) (val d) s p h0 h1 (by omega) (by omega)
    rw [ratE_deep (K := K) (s := s) (by omega) h1 (by omega) (by omega)]
    have hS := @Shl_does Gv m (by unfold Sh; omega) wm s (by omega)
    have hbl : bl (val m * 2 ^ s) = s + bl (val m) := bl_mul_pow _ _ h0
    have hlen := len_bl (show bl (val m * 2 ^ s) ≤ 600000 by omega)
    have hD := @WDivMod_does Gv (nat (val m * 2 ^ s)) d (by omega) (nat_ws _) (by omega) wd h1
    rw [val_nat] at hD
    have hqb := bl_mono (Nat.div_le_self (val m * 2 ^ s) (val d))
    have hrb := len_bl (Nat.le_trans (bl_mono (Nat.mod_le (val m * 2 ^ s) (val d))) (show bl (val m * 2 ^ s) ≤ 600000 by omega))
    have hZ := @Zero_does Gv (nat (val m * 2 ^ s % val d)) (by unfold Sh; omega)
    rw [val_nat] at hZ
    have hF := @Float_does f p r hf hr hr' n (quoM (val m) (val d) s) (e - (s : Int)) (quoS (val m) (val d) s) (by omega) (by unfold quoM; omega)
    have e1 : val m * 2 ^ s / val d = quoM (val m) (val d) s := rfl
    have e2 : (!decide (val m * 2 ^ s % val d = 0)) = quoS (val m) (val d) s := rfl
    rw [e1] at hD
    unfold ratE
    generalize roundP f p r n (quoM (val m) (val d) s) (e - (s : Int)) (quoS (val m) (val d) s) = z at *
    generalize quoM (val m) (val d) s = q at *
    rw [← e2] at hF
    generalize val m * 2 ^ s = u at *
    generalize u % val d = w at *
    refine Does.of (nt := 50) Tryz.func70 rfl rfl rfl (by simp) ?_
    simp only [argTm, PV.ext, Ce.ext]
    refine Do.seqk fun _ k1_ => ?_
    refine Do.region [1,2,3,4,5,6,12] true ?_
    simp [go_sem]
    apply k1_; clear k1_
    refine Do.seqk fun _ k2_ => ?_
    refine Do.draw [1,2,3,4,5,6,12,14] true (by kernel_rfl) ?_
    simp [go_sem]
    repeat (refine And.intro (by first | omega | (intros; omega) | kernel_rfl | grind) ?_)
    refine DoLD.call true 105 rfl rfl rfl rfl (by first | exact trivial | omega | (simp; done) | (simp; omega)) (hL) rfl (by first | exact .inl rfl | exact .inr rfl) rfl ?_
    simp [go_sem]
    repeat (refine And.intro (by first | omega | (intros; omega) | kernel_rfl | grind) ?_)
    refine DoLD.call true 108 rfl rfl rfl rfl (by first | exact trivial | omega | (simp; done) | (simp; omega)) (hL1) rfl (by first | exact .inl rfl | exact .inr rfl) rfl ?_
    simp [go_sem]
    repeat (refine And.intro (by first | omega | (intros; omega) | kernel_rfl | grind) ?_)
    try (refine And.intro (by kernel_rfl) ?_)
    apply k2_; clear k2_
    refine Do.seqk fun _ k3_ => ?_
    refine Do.seqk fun _ k4_ => ?_
    refine Do.region [1,2,3,4,5,6,12,14,27] true ?_
    simp [go_sem, hs']
    apply k4_; clear k4_
    refine Do.cond [1,2,3,4,5,6,12,14] rfl (fun g1 => ?_) (fun g1 => ?_) <;> simp [go_sem, hs'] at g1 ⊢
    · refine Do.region [1,2,3,4,5,6,12,14] true ?_
      simp [go_sem, hs']
      refine DoL.call true 303 rfl rfl rfl rfl (by first | exact trivial | omega | (simp; done) | (simp; omega)) (hS) rfl (by first | exact .inl rfl | exact .inr rfl) rfl ?_
      simp [go_sem, hs']
      apply k3_; clear k3_
      refine Do.seqk fun _ k5_ => ?_
      refine Do.region [1,2,5,6,12,14,15,16] true ?_
      simp [go_sem, hs']
      refine DoL.call true 503 rfl rfl rfl rfl (by first | exact trivial | omega | (simp; done) | (simp; omega)) (hD) rfl (by first | exact .inl rfl | exact .inr rfl) rfl ?_
      simp [go_sem, hs']
      apply k5_; clear k5_
      refine Do.seqk fun _ k6_ => ?_
      refine Do.draw [12,13] true (by kernel_rfl) ?_
      simp [go_sem, hs']
      repeat (refine And.intro (by first | omega | (intros; omega) | kernel_rfl | grind) ?_)
      refine DoLD.call true 609 rfl rfl rfl rfl (by first | exact trivial | omega | (simp; done) | (simp; omega)) (hZ) rfl (by first | exact .inl rfl | exact .inr rfl) rfl ?_
      simp [go_sem, hs']
      repeat (refine And.intro (by first | omega | (intros; omega) | kernel_rfl | grind) ?_)
      refine DoLD.call true 611 rfl rfl rfl rfl (by first | exact trivial | omega | (simp; done) | (simp; omega)) (hF) rfl (by first | exact .inl rfl | exact .inr rfl) rfl ?_
      simp [go_sem, hs']
      repeat (refine And.intro (by first | omega | (intros; omega) | kernel_rfl | grind) ?_)
      try (refine And.intro (by kernel_rfl) ?_)
      apply k6_; clear k6_
      refine Do.ret ?_
      simp [endQ, rets, ret1, go_sem, hs']
      repeat (refine And.intro (by first | omega | (intros; omega) | grind) ?_)
      exact TLe.refl _
    · omega
  · have hen := @quo_enough (val m) (val d) 0 p h0 h1 (by omega) (by omega)
    rw [ratE_deep (K := K) (s := 0) (by omega) h1 (by omega) (by omega)]
    have hD := @WDivMod_does Gv m d (by omega) wm (by omega) wd h1
    have hqb := bl_mono (Nat.div_le_self (val m) (val d))
    have hrb := len_bl (Nat.le_trans (bl_mono (Nat.mod_le (val m) (val d))) (show bl (val m) ≤ 600000 by omega))
    have hZ := @Zero_does Gv (nat (val m % val d)) (by unfold Sh; omega)
    rw [val_nat] at hZ
    have e0 : quoM (val m) (val d) 0 = val m / val d := by unfold quoM; rw [Nat.pow_zero, Nat.mul_one]
    have e2 : quoS (val m) (val d) 0 = !decide (val m % val d = 0) := by unfold quoS; rw [Nat.pow_zero, Nat.mul_one]
    have hF := @Float_does f p r hf hr hr' n (val m / val d) e (!decide (val m % val d = 0)) (by omega) (by omega)
    unfold ratE
    rw [e0, e2, show e - ((0 : Nat) : Int) = e by omega]
    generalize roundP f p r n (val m / val d) e (!decide (val m % val d = 0)) = z at *
    generalize val m / val d = q at *
    generalize val m % val d = w at *
    refine Does.of (nt := 50) Tryz.func70 rfl rfl rfl (by simp) ?_
    simp only [argTm, PV.ext, Ce.ext]
    refine Do.seqk fun _ k1_ => ?_
    refine Do.region [1,2,3,4,5,6,12] true ?_
    simp [go_sem]
    apply k1_; clear k1_
    refine Do.seqk fun _ k2_ => ?_
    refine Do.draw [1,2,3,4,5,6,12,14] true (by kernel_rfl) ?_
    simp [go_sem]
    repeat (refine And.intro (by first | omega | (intros; omega) | kernel_rfl | grind) ?_)
    refine DoLD.call true 105 rfl rfl rfl rfl (by first | exact trivial | omega | (simp; done) | (simp; omega)) (hL) rfl (by first | exact .inl rfl | exact .inr rfl) rfl ?_
    simp [go_sem]
    repeat (refine And.intro (by first | omega | (intros; omega) | kernel_rfl | grind) ?_)
    refine DoLD.call true 108 rfl rfl rfl rfl (by first | exact trivial | omega | (simp; done) | (simp; omega)) (hL1) rfl (by first | exact .inl rfl | exact .inr rfl) rfl ?_
    simp [go_sem]
    repeat (refine And.intro (by first | omega | (intros; omega) | kernel_rfl | grind) ?_)
    try (refine And.intro (by kernel_rfl) ?_)
    apply k2_; clear k2_
    refine Do.seqk fun _ k3_ => ?_
    refine Do.seqk fun _ k4_ => ?_
    refine Do.region [1,2,3,4,5,6,12,14,27] true ?_
    simp [go_sem]
    apply k4_; clear k4_
    refine Do.cond [1,2,3,4,5,6,12,14] rfl (fun g1 => ?_) (fun g1 => ?_) <;> simp [go_sem] at g1 ⊢
    · exact absurd g1 (by omega)
    · refine Do.region [1,2,3,4,5,6,12,14] true ?_
      simp [go_sem]
      apply k3_; clear k3_
      refine Do.seqk fun _ k5_ => ?_
      refine Do.region [1,2,5,6,12,14,15,16] true ?_
      simp [go_sem]
      refine DoL.call true 503 rfl rfl rfl rfl (by first | exact trivial | omega | (simp; done) | (simp; omega)) (hD) rfl (by first | exact .inl rfl | exact .inr rfl) rfl ?_
      simp [go_sem]
      apply k5_; clear k5_
      refine Do.seqk fun _ k6_ => ?_
      refine Do.draw [12,13] true (by kernel_rfl) ?_
      simp [go_sem]
      repeat (refine And.intro (by first | omega | (intros; omega) | kernel_rfl | grind) ?_)
      refine DoLD.call true 609 rfl rfl rfl rfl (by first | exact trivial | omega | (simp; done) | (simp; omega)) (hZ) rfl (by first | exact .inl rfl | exact .inr rfl) rfl ?_
      simp [go_sem]
      repeat (refine And.intro (by first | omega | (intros; omega) | kernel_rfl | grind) ?_)
      refine DoLD.call true 611 rfl rfl rfl rfl (by first | exact trivial | omega | (simp; done) | (simp; omega)) (hF) rfl (by first | exact .inl rfl | exact .inr rfl) rfl ?_
      simp [go_sem]
      repeat (refine And.intro (by first | omega | (intros; omega) | kernel_rfl | grind) ?_)
      try (refine And.intro (by kernel_rfl) ?_)
      apply k6_; clear k6_
      refine Do.ret ?_
      simp [endQ, rets, ret1, go_sem]
      repeat (refine And.intro (by first | omega | (intros; omega) | grind) ?_)
      exact TLe.refl _
end Go.Proofs.YtbhokdhkfodpfaaGreatDoor
/- Integer roots by Newton's steps, plain. No condition. -/
namespace Go.Proofs.YtbhokdhkfodpfaaGreatDoor
set_option linter.unusedVariables false
set_option linter.unusedSimpArgs false
set_option maxHeartbeats 4000000
set_option maxRecDepth 10000
/-- The mean of k numbers, of which all but one are a, is not less than their root. -/
theorem mean_root {a r : Nat} (h : r ≤ a) : ∀ k, (k + 1) * r * a ^ k ≤ k * a ^ (k + 1) + r ^ (k + 1)
  | 0 => by simp
  | k + 1 => by
    have ih := Nat.mul_le_mul_right a (mean_root h k)
    have hp : r ^ (k + 1) ≤ a ^ (k + 1) := Nat.pow_le_pow_left h _
    obtain ⟨d, rfl⟩ : ∃ d, a = r + d := ⟨a - r, by omega⟩
    obtain ⟨E, hE⟩ : ∃ E, (r + d) ^ (k + 1) = r ^ (k + 1) + E := ⟨(r + d) ^ (k + 1) - r ^ (k + 1), by omega⟩
    have e0 : (k + 1) * r * (r + d) ^ k * (r + d) = (k + 1) * r * (r + d) ^ (k + 1) := by rw [Nat.mul_assoc, ← Nat.pow_succ]
    rw [e0, Nat.add_mul (k * (r + d) ^ (k + 1))] at ih
    have e1 : (r + d) ^ (k + 1 + 1) = (r + d) ^ (k + 1) * (r + d) := Nat.pow_succ ..
    have e2 : r ^ (k + 1 + 1) = r ^ (k + 1) * r := Nat.pow_succ ..
    rw [e1, e2]
    have e3 : k * (r + d) ^ (k + 1) * (r + d) = k * ((r + d) ^ (k + 1) * (r + d)) := Nat.mul_assoc ..
    rw [e3] at ih
    rw [hE] at ih ⊢
    have e4 : (k + 1 + 1) * r * (r ^ (k + 1) + E) = (k + 1) * r * (r ^ (k + 1) + E) + r * (r ^ (k + 1) + E) := by
      rw [Nat.add_mul (k + 1) 1 r, Nat.add_mul, Nat.one_mul]
    have e5 : (k + 1) * ((r ^ (k + 1) + E) * (r + d)) = k * ((r ^ (k + 1) + E) * (r + d)) + (r ^ (k + 1) + E) * (r + d) := by
      rw [Nat.add_mul k 1, Nat.one_mul]
    rw [e4, e5]
    have e6 : r * (r ^ (k + 1) + E) + r ^ (k + 1) * (r + d) ≤ (r ^ (k + 1) + E) * (r + d) + r ^ (k + 1) * r := by
      generalize r ^ (k + 1) = R
      rw [Nat.mul_add, Nat.mul_add, Nat.add_mul R E (r + d), Nat.mul_add, Nat.mul_add E]
      rw [Nat.mul_comm r R, Nat.mul_comm r E]
      have : 0 ≤ E * d := Nat.zero_le _
      omega
    omega
/-- One step never goes below the root. -/
theorem step_root {x r a k : Nat} (hk : 1 ≤ k) (ha : 0 < a) (hr : r ^ k ≤ x) (h : r ≤ a) : r ≤ (a * (k - 1) + x / a ^ (k - 1)) / k := by
  obtain ⟨j, rfl⟩ : ∃ j, k = j + 1 := ⟨k - 1, by omega⟩
  rw [show j + 1 - 1 = j by omega, Nat.le_div_iff_mul_le (by omega)]
  have hp : 0 < a ^ j := Nat.pow_pos ha
  have hm := mean_root h j
  by_cases hc : r * (j + 1) ≤ a * j
  · exact Nat.le_trans hc (Nat.le_add_right _ _)
  · have h1 : (r * (j + 1) - a * j) * a ^ j ≤ x := by
      rw [Nat.sub_mul]
      have e1 : r * (j + 1) * a ^ j = (j + 1) * r * a ^ j := by rw [Nat.mul_comm r]
      have e2 : a * j * a ^ j = j * a ^ (j + 1) := by rw [Nat.pow_succ]; ac_rfl
      rw [e1, e2]
      omega
    exact Nat.sub_le_iff_le_add'.1 ((Nat.le_div_iff_mul_le hp).2 h1)
/-- Above the root a step goes down. -/
theorem step_down {x r a k : Nat} (hk : 1 ≤ k) (hr : x < (r + 1) ^ k) (h : r < a) : (a * (k - 1) + x / a ^ (k - 1)) / k < a := by
  obtain ⟨j, rfl⟩ : ∃ j, k = j + 1 := ⟨k - 1, by omega⟩
  rw [show j + 1 - 1 = j by omega, Nat.div_lt_iff_lt_mul (by omega), Nat.mul_add, Nat.mul_one]
  have h1 : (r + 1) ^ (j + 1) ≤ a ^ (j + 1) := Nat.pow_le_pow_left h _
  have h2 : x / a ^ j < a := by
    rw [Nat.div_lt_iff_lt_mul (Nat.pow_pos (by omega)), Nat.mul_comm, ← Nat.pow_succ]
    exact Nat.lt_of_lt_of_le hr h1
  omega
/-- Where the steps begin. -/
theorem root_start {x r k : Nat} (hk : 1 ≤ k) (hr : r ^ k ≤ x) : r < 2 ^ ((bl x + k - 1) / k) := by
  apply Nat.lt_of_not_le
  intro h
  have h1 := Nat.pow_le_pow_left h k
  rw [← Nat.pow_mul] at h1
  have h2 := bl_self x
  have h3 : bl x ≤ (bl x + k - 1) / k * k := by
    have h4 := Nat.div_add_mod (bl x + k - 1) k
    have h5 := Nat.mod_lt (bl x + k - 1) (show 0 < k by omega)
    rw [Nat.mul_comm] at h4
    omega
  have h6 : 2 ^ bl x ≤ 2 ^ ((bl x + k - 1) / k * k) := Nat.pow_le_pow_right (by decide) h3
  omega
end Go.Proofs.YtbhokdhkfodpfaaGreatDoor
/- A quotient rounded to an integer, by the program. No condition. -/
namespace Go.Proofs.YtbhokdhkfodpfaaGreatDoor
set_option linter.unusedVariables false
set_option linter.unusedSimpArgs false
set_option maxHeartbeats 8000000
set_option maxRecDepth 10000
/-- What the rest of a division by d is: nothing, less than a half, a half, more. -/
def cmpR (x d : Nat) : Int := if x = 0 then 0 else if x * 2 < d then 1 else if d < x * 2 then 3 else 2
theorem compareR_does {x d : Nat} (hx : bl x ≤ 1000000) (hd : bl d ≤ 1000000) : Does Tryz.prog Gv 129 [Wd (nat x), Wd (nat d)] (.int .i64 (cmpR x d)) := by
  have lx := len_bl hx
  have ld := len_bl hd
  have hZ := @Zero_does Gv (nat x) (by unfold Sh; omega)
  rw [val_nat] at hZ
  have hS := @Shl_does Gv (nat x) (by unfold Sh; omega) (nat_ws _) 1 (by omega)
  rw [val_nat, Nat.pow_one] at hS
  have hb : bl (x * 2) ≤ 1000001 := by
    by_cases h0 : x = 0
    · subst h0; simp [bl_zero]
    · have := bl_mul_pow x 1 (by omega)
      rw [Nat.pow_one] at this; omega
  have l2 := len_bl hb
  have hC := @Cmp_does Gv (nat (x * 2)) (nat d) (by unfold Sh; omega) (by unfold Sh; omega) (nat_ws _) (nat_ws _)
  rw [val_nat, val_nat] at hC
  unfold cmpR
  generalize hy : x * 2 = y at *
  by_cases h0 : x = 0
  · rw [if_pos h0]
    rw [decide_eq_true h0] at hZ
    refine Does.of (nt := 12) Tryz.func129 rfl rfl rfl (by simp) ?_
    simp only [argTm, PV.ext, Ce.ext]
    refine Do.seqk fun _ k1_ => ?_
    refine Do.region [0,1] true ?_
    simp [go_sem]
    apply k1_; clear k1_
    refine Do.seqk fun _ k2_ => ?_
    refine Do.seqk fun _ k3_ => ?_
    refine Do.region [0,1,6] true ?_
    simp [go_sem]
    refine DoL.call true 102 rfl rfl rfl rfl (by first | exact trivial | omega | (simp; done) | (simp; omega)) (hZ) rfl (by first | exact .inl rfl | exact .inr rfl) rfl ?_
    simp [go_sem]
    apply k3_; clear k3_
    refine Do.cond [0,1] rfl (fun g1 => ?_) (fun g1 => ?_) <;> simp [go_sem] at g1 ⊢
    refine Do.seqk fun _ k4_ => ?_
    refine Do.region [4] true ?_
    simp [go_sem]
    apply k4_; clear k4_
    refine Do.ret ?_
    simp [endQ, rets, ret1, go_sem]
    repeat (refine And.intro (by first | omega | (intros; omega) | grind) ?_)
    exact TLe.refl _
  · rw [if_neg h0]
    rw [decide_eq_false h0] at hZ
    rcases Nat.lt_trichotomy y d with h1 | h1 | h1
    · rw [if_pos h1] at hC ⊢
      refine Does.of (nt := 12) Tryz.func129 rfl rfl rfl (by simp) ?_
      simp only [argTm, PV.ext, Ce.ext]
      refine Do.seqk fun _ k1_ => ?_
      refine Do.region [0,1] true ?_
      simp [go_sem]
      apply k1_; clear k1_
      refine Do.seqk fun _ k2_ => ?_
      refine Do.seqk fun _ k3_ => ?_
      refine Do.region [0,1,6] true ?_
      simp [go_sem]
      refine DoL.call true 102 rfl rfl rfl rfl (by first | exact trivial | omega | (simp; done) | (simp; omega)) (hZ) rfl (by first | exact .inl rfl | exact .inr rfl) rfl ?_
      simp [go_sem]
      apply k3_; clear k3_
      refine Do.cond [0,1] rfl (fun g1 => ?_) (fun g1 => ?_) <;> simp [go_sem] at g1 ⊢
      refine Do.skip ?_
      simp [go_sem]
      apply k2_; clear k2_
      refine Do.seqk fun _ k4_ => ?_
      refine Do.region [4] true ?_
      simp [go_sem]
      refine DoL.call true 302 rfl rfl rfl rfl (by first | exact trivial | omega | (simp; done) | (simp; omega)) (hS) rfl (by first | exact .inl rfl | exact .inr rfl) rfl ?_
      simp [go_sem]
      refine DoL.call true 304 rfl rfl rfl rfl (by first | exact trivial | omega | (simp; done) | (simp; omega)) (hC) rfl (by first | exact .inl rfl | exact .inr rfl) rfl ?_
      simp [go_sem]
      repeat (refine And.intro (by first | omega | (intros; omega) | grind) ?_)
      apply k4_; clear k4_
      refine Do.ret ?_
      simp [endQ, rets, ret1, go_sem]
      repeat (refine And.intro (by first | omega | (intros; omega) | grind) ?_)
      exact TLe.refl _
    · rw [if_neg (show ¬ y < d by omega), if_neg (show ¬ d < y by omega)] at hC ⊢
      refine Does.of (nt := 12) Tryz.func129 rfl rfl rfl (by simp) ?_
      simp only [argTm, PV.ext, Ce.ext]
      refine Do.seqk fun _ k1_ => ?_
      refine Do.region [0,1] true ?_
      simp [go_sem]
      apply k1_; clear k1_
      refine Do.seqk fun _ k2_ => ?_
      refine Do.seqk fun _ k3_ => ?_
      refine Do.region [0,1,6] true ?_
      simp [go_sem]
      refine DoL.call true 102 rfl rfl rfl rfl (by first | exact trivial | omega | (simp; done) | (simp; omega)) (hZ) rfl (by first | exact .inl rfl | exact .inr rfl) rfl ?_
      simp [go_sem]
      apply k3_; clear k3_
      refine Do.cond [0,1] rfl (fun g1 => ?_) (fun g1 => ?_) <;> simp [go_sem] at g1 ⊢
      refine Do.skip ?_
      simp [go_sem]
      apply k2_; clear k2_
      refine Do.seqk fun _ k4_ => ?_
      refine Do.region [4] true ?_
      simp [go_sem]
      refine DoL.call true 302 rfl rfl rfl rfl (by first | exact trivial | omega | (simp; done) | (simp; omega)) (hS) rfl (by first | exact .inl rfl | exact .inr rfl) rfl ?_
      simp [go_sem]
      refine DoL.call true 304 rfl rfl rfl rfl (by first | exact trivial | omega | (simp; done) | (simp; omega)) (hC) rfl (by first | exact .inl rfl | exact .inr rfl) rfl ?_
      simp [go_sem]
      repeat (refine And.intro (by first | omega | (intros; omega) | grind) ?_)
      apply k4_; clear k4_
      refine Do.ret ?_
      simp [endQ, rets, ret1, go_sem]
      repeat (refine And.intro (by first | omega | (intros; omega) | grind) ?_)
      exact TLe.refl _
    · rw [if_neg (show ¬ y < d by omega), if_pos h1] at hC ⊢
      refine Does.of (nt := 12) Tryz.func129 rfl rfl rfl (by simp) ?_
      simp only [argTm, PV.ext, Ce.ext]
      refine Do.seqk fun _ k1_ => ?_
      refine Do.region [0,1] true ?_
      simp [go_sem]
      apply k1_; clear k1_
      refine Do.seqk fun _ k2_ => ?_
      refine Do.seqk fun _ k3_ => ?_
      refine Do.region [0,1,6] true ?_
      simp [go_sem]
      refine DoL.call true 102 rfl rfl rfl rfl (by first | exact trivial | omega | (simp; done) | (simp; omega)) (hZ) rfl (by first | exact .inl rfl | exact .inr rfl) rfl ?_
      simp [go_sem]
      apply k3_; clear k3_
      refine Do.cond [0,1] rfl (fun g1 => ?_) (fun g1 => ?_) <;> simp [go_sem] at g1 ⊢
      refine Do.skip ?_
      simp [go_sem]
      apply k2_; clear k2_
      refine Do.seqk fun _ k4_ => ?_
      refine Do.region [4] true ?_
      simp [go_sem]
      refine DoL.call true 302 rfl rfl rfl rfl (by first | exact trivial | omega | (simp; done) | (simp; omega)) (hS) rfl (by first | exact .inl rfl | exact .inr rfl) rfl ?_
      simp [go_sem]
      refine DoL.call true 304 rfl rfl rfl rfl (by first | exact trivial | omega | (simp; done) | (simp; omega)) (hC) rfl (by first | exact .inl rfl | exact .inr rfl) rfl ?_
      simp [go_sem]
      repeat (refine And.intro (by first | omega | (intros; omega) | grind) ?_)
      apply k4_; clear k4_
      refine Do.ret ?_
      simp [endQ, rets, ret1, go_sem]
      repeat (refine And.intro (by first | omega | (intros; omega) | grind) ?_)
      exact TLe.refl _
theorem QuotientR_does {r : Int} (hr : 0 ≤ r) (hr' : r ≤ 4) {n : Bool} {N D : Nat} (hN : bl N ≤ 1000000) (hD : bl D ≤ 1000000) (h0 : 0 < D) : Does Tryz.prog Gv 100 [.c (.i .i64 r), .c (.b n), Wd (nat N), Wd (nat D)] (.t [Wn (nat (upP r n (N / D) (cmpR (N % D) D))), .c (.b (decide (N % D = 0)))]) := by
  have lN := len_bl hN
  have lD := len_bl hD
  have hDM := @WDivMod_does Gv (nat N) (nat D) (by omega) (nat_ws _) (by omega) (nat_ws _) (by rw [val_nat]; exact h0)
  rw [val_nat, val_nat] at hDM
  have hqb := Nat.le_trans (bl_mono (Nat.div_le_self N D)) hN
  have hrb := Nat.le_trans (bl_mono (Nat.mod_le N D)) hN
  have lq := len_bl hqb
  have lr := len_bl hrb
  have hC := @compareR_does (N % D) D hrb hD
  have hZ := @Zero_does Gv (nat (N % D)) (by unfold Sh; omega)
  have hU := @up_does r n (nat (N / D)) (cmpR (N % D) D) hr hr' (by omega) (nat_ws _)
  rw [val_nat] at hZ hU
  generalize upP r n (N / D) (cmpR (N % D) D) = u at *
  generalize cmpR (N % D) D = c at *
  generalize N / D = q at *
  generalize N % D = w at *
  refine Does.of (nt := 27) Tryz.func100 rfl rfl rfl (by simp) ?_
  simp only [argTm, PV.ext, Ce.ext]
  refine Do.seqk fun _ k1_ => ?_
  refine Do.region [0,1,2,3] true ?_
  simp [go_sem]
  apply k1_; clear k1_
  refine Do.seqk fun _ k2_ => ?_
  refine Do.region [0,1,3,10,11] true ?_
  simp [go_sem]
  refine DoL.call true 103 rfl rfl rfl rfl (by first | exact trivial | omega | (simp; done) | (simp; omega)) (hDM) rfl (by first | exact .inl rfl | exact .inr rfl) rfl ?_
  simp [go_sem]
  apply k2_; clear k2_
  refine Do.seqk fun _ k3_ => ?_
  refine Do.region [8,9] true ?_
  simp [go_sem]
  refine DoL.call true 206 rfl rfl rfl rfl (by first | exact trivial | omega | (simp; done) | (simp; omega)) (hC) rfl (by first | exact .inl rfl | exact .inr rfl) rfl ?_
  simp [go_sem]
  refine DoL.call true 207 rfl rfl rfl rfl (by first | exact trivial | omega | (simp; done) | (simp; omega)) (hU) rfl (by first | exact .inl rfl | exact .inr rfl) rfl ?_
  simp [go_sem]
  refine DoL.call true 209 rfl rfl rfl rfl (by first | exact trivial | omega | (simp; done) | (simp; omega)) (hZ) rfl (by first | exact .inl rfl | exact .inr rfl) rfl ?_
  simp [go_sem]
  apply k3_; clear k3_
  refine Do.ret ?_
  simp [endQ, rets, ret1, go_sem]
  repeat (refine And.intro (by first | omega | (intros; omega) | grind) ?_)
  exact TLe.refl _
end Go.Proofs.YtbhokdhkfodpfaaGreatDoor
