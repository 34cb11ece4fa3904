/- A quotient as the reference's real number: its exponent, its steps. No condition. Rounding to odd, plain. No condition. Rounded to odd first, a number is rounded alike; plain. No condition. The float with a rational value, or none. No condition. -/
import Derived.Test.YtokgalpflooegaaGreatDoorMm
import Derived.Test.YtokgalpflooegaaGreatDoorMk
import Derived.Test.YtokgalpflooegaaGreatDoorMj
import Derived.Test.YtokgalpflooegaaGreatDoorMh
import Derived.Test.YtokgalpflooegaaGreatDoorMi
/- A quotient as the reference's real number: its exponent, its steps. No condition. -/
namespace Go.Proofs.YtokgalpflooegaaGreatDoor
set_option linter.unusedVariables false
set_option linter.unusedSimpArgs false
variable {G : Gl}
set_option maxHeartbeats 8000000
set_option maxRecDepth 10000
/-- A rational number, as it is laid in a call. -/
abbrev Qw (n : Bool) (m d : List Nat) : PV := .a [.b n, .w false m, .w false d]
/-- A real number of the reference that is a quotient. -/
abbrev RlD (n : Bool) (v d : Nat) : PV := .a [.b n, .w false (nat v), .w false (nat d), .i .i64 0, .i .i64 1]
theorem QSignD {n : Bool} {m d : List Nat} (hm : m.length ≤ 1073741824) (wm : Ws m) : Does Tryz.prog G 131 [Qw n m d] (.int .i64 (sgn n (val m)).sign) := by
  have p1 := @ISign_does G n m hm wm
  generalize (sgn n (val m)).sign = sg at *
  refine Does.of (nt := 6) Tryz.func131 rfl rfl rfl (by simp) ?_
  simp only [argTm, PV.ext, Ce.ext]
  refine Do.seqk fun _ k1_ => ?_
  refine Do.region [1] true ?_
  simp [go_sem]
  apply k1_; clear k1_
  refine Do.seqk fun _ k2_ => ?_
  refine Do.region [2] true ?_
  simp [go_sem]
  repeat (refine And.intro (by first | omega | (intros; omega) | grind) ?_)
  refine DoL.call true 103 rfl rfl rfl rfl (by first | exact trivial | omega | (simp; done) | (simp; omega)) (p1) rfl (by first | exact .inl rfl | exact .inr rfl) rfl ?_
  simp [go_sem]
  apply k2_; clear k2_
  refine Do.ret ?_
  simp [endQ, rets, ret1, go_sem]
  repeat (refine And.intro (by first | omega | (intros; omega) | grind) ?_)
  exact TLe.refl _
theorem ROfD {n : Bool} {m d : List Nat} (hm : m.length ≤ 1073741824) (wm : Ws m) (hd : d.length ≤ 1073741824) (wd : Ws d) : Does Tryz.prog G 70 [Qw n m d] (.v (RlD (decide (sgn n (val m) < 0)) (val m) (val d))) := by
  have hS := @QSignD G n m d hm wm
  have e : decide ((sgn n (val m)).sign < 0) = decide (sgn n (val m) < 0) := by
    by_cases h : sgn n (val m) < 0
    · rw [decide_eq_true h, Int.sign_eq_neg_one_of_neg h]; rfl
    · rw [decide_eq_false h]
      rcases Int.lt_or_eq_of_le (Int.not_lt.1 h) with h2 | h2
      · rw [Int.sign_eq_one_of_pos h2]; rfl
      · rw [← h2]; rfl
  have hT := @RTrim_does G m hm wm
  have hU := @RTrim_does G d hd wd
  rw [← e]
  generalize (sgn n (val m)).sign = sg at *
  refine Does.of (nt := 14) Tryz.func70 rfl rfl rfl (by simp) ?_
  simp only [argTm, PV.ext, Ce.ext]
  refine Do.seqk fun _ k1_ => ?_
  refine Do.region [1,2] true ?_
  simp [go_sem]
  apply k1_; clear k1_
  refine Do.seqk fun _ k2_ => ?_
  refine Do.draw [2] true (by kernel_rfl) ?_
  simp [go_sem]
  repeat (refine And.intro (by first | omega | (intros; omega) | kernel_rfl | grind) ?_)
  refine DoLD.call true 102 rfl rfl rfl rfl (by first | exact trivial | omega | (simp; done) | (simp; omega)) (hS) rfl (by first | exact .inl rfl | exact .inr rfl) rfl ?_
  simp [go_sem]
  repeat (refine And.intro (by first | omega | (intros; omega) | kernel_rfl | grind) ?_)
  refine DoLD.call true 107 rfl rfl rfl rfl (by first | exact trivial | omega | (simp; done) | (simp; omega)) (hT) rfl (by first | exact .inl rfl | exact .inr rfl) rfl ?_
  simp [go_sem]
  repeat (refine And.intro (by first | omega | (intros; omega) | kernel_rfl | grind) ?_)
  refine DoLD.call true 110 rfl rfl rfl rfl (by first | exact trivial | omega | (simp; done) | (simp; omega)) (hU) rfl (by first | exact .inl rfl | exact .inr rfl) rfl ?_
  simp [go_sem]
  repeat (refine And.intro (by first | omega | (intros; omega) | kernel_rfl | grind) ?_)
  try (refine And.intro (by kernel_rfl) ?_)
  apply k2_; clear k2_
  refine Do.ret ?_
  simp [endQ, rets, ret1, go_sem]
  repeat (refine And.intro (by first | omega | (intros; omega) | grind) ?_)
  exact TLe.v (PLe.agg (.cons (PLe.refl _) (.cons (PLe.ext (.c (.w true _))) (.cons (PLe.ext (.c (.w true _))) (.cons (PLe.refl _) (.cons (PLe.refl _) .nil))))))
/-- The exponent of a quotient. -/
theorem quo_exp {v d K : Nat} (hv : 0 < v) (hd : 0 < d) (hK : bl d ≤ K) : (∀ k, bl v = bl d + k → (if v < d * 2 ^ k then (k : Int) - 1 else k) = bl (quoM v d K) - 1 - K) ∧ (∀ k, bl d = bl v + k → (if v * 2 ^ k < d then -(k : Int) - 1 else -(k : Int)) = bl (quoM v d K) - 1 - K) := by
  have hbv := bl_pos hv
  have hbd := bl_pos hd
  have hq : ∀ j, j < bl (quoM v d K) ↔ d * 2 ^ j ≤ v * 2 ^ K := fun j => quo_bl hd
  constructor
  · intro k hk
    have up : v < d * 2 ^ (k + 1) := by
      apply Nat.lt_of_not_le
      intro h
      have := bl_mono h
      rw [bl_mul_pow _ _ hd] at this; omega
    have h1 : ¬ (k + 1 + K < bl (quoM v d K)) := by
      rw [hq, Nat.pow_add, ← Nat.mul_assoc]
      exact Nat.not_le.2 (Nat.mul_lt_mul_of_pos_right up (two_pos' K))
    by_cases h : v < d * 2 ^ k
    · rw [if_pos h]
      have h2 : ¬ (k + K < bl (quoM v d K)) := by
        rw [hq, Nat.pow_add, ← Nat.mul_assoc]
        exact Nat.not_le.2 (Nat.mul_lt_mul_of_pos_right h (two_pos' K))
      have h3 : k + K - 1 < bl (quoM v d K) := by
        rw [hq]
        have e1 : d * 2 ^ (k + K - 1) < 2 ^ (bl d + (k + K - 1)) := by rw [Nat.pow_add]; exact Nat.mul_lt_mul_of_pos_right (bl_self d) (two_pos' _)
        have e2 : 2 ^ (bl v - 1) ≤ v := (bl_le _ _).1 (by omega)
        have e3 := Nat.mul_le_mul_right (2 ^ K) e2
        rw [← Nat.pow_add, show bl v - 1 + K = bl d + (k + K - 1) by omega] at e3
        omega
      omega
    · rw [if_neg h]
      have h2 : k + K < bl (quoM v d K) := by
        rw [hq, Nat.pow_add, ← Nat.mul_assoc]
        exact Nat.mul_le_mul_right _ (Nat.not_lt.1 h)
      omega
  · intro k hk
    have up : v * 2 ^ k < d * 2 := by
      apply Nat.lt_of_not_le
      intro h
      have := bl_mono h
      have e : d * 2 = d * 2 ^ 1 := rfl
      rw [e, bl_mul_pow _ _ hd, bl_mul_pow _ _ hv] at this; omega
    have h1 : ¬ (K - k + 1 < bl (quoM v d K)) := by
      rw [hq]
      have e3 := Nat.mul_lt_mul_of_pos_right up (two_pos' (K - k))
      rw [Nat.mul_assoc, ← Nat.pow_add, show k + (K - k) = K by omega, Nat.mul_assoc, Nat.mul_comm 2, ← Nat.pow_succ] at e3
      exact Nat.not_le.2 e3
    by_cases h : v * 2 ^ k < d
    · rw [if_pos h]
      have h2 : ¬ (K - k < bl (quoM v d K)) := by
        rw [hq]
        have e3 := Nat.mul_lt_mul_of_pos_right h (two_pos' (K - k))
        rw [Nat.mul_assoc, ← Nat.pow_add, show k + (K - k) = K by omega] at e3
        exact Nat.not_le.2 e3
      have h3 : K - k - 1 < bl (quoM v d K) := by
        rw [hq]
        have e1 : d * 2 ^ (K - k - 1) < 2 ^ (bl d + (K - k - 1)) := by rw [Nat.pow_add]; exact Nat.mul_lt_mul_of_pos_right (bl_self d) (two_pos' _)
        have e2 : 2 ^ (bl v - 1) ≤ v := (bl_le _ _).1 (by omega)
        have e3 := Nat.mul_le_mul_right (2 ^ K) e2
        rw [← Nat.pow_add, show bl v - 1 + K = bl d + (K - k - 1) by omega] at e3
        omega
      omega
    · rw [if_neg h]
      have h2 : K - k < bl (quoM v d K) := by
        rw [hq]
        have e3 := Nat.mul_le_mul_right (2 ^ (K - k)) (Nat.not_lt.1 h)
        rw [Nat.mul_assoc, ← Nat.pow_add, show k + (K - k) = K by omega] at e3
        exact e3
      omega
theorem cmpP_neg {a b : Nat} : cmpP a b < 0 ↔ a < b := by unfold cmpP; split <;> (try split) <;> omega
theorem RLogD {v d K : Nat} (hv : 0 < v) (hd : 0 < d) (hb : bl v ≤ 1000000) (hbd : bl d ≤ 1000000) (hK : bl d ≤ K) : Does Tryz.prog G 144 [Wd (nat v), Wd (nat d), .c (.i .i64 0)] (.int .i64 (bl (quoM v d K) - 1 - K)) := by
  obtain ⟨q1, q2⟩ := @quo_exp v d K hv hd hK
  have lv := nat_len_of hb
  have ld := nat_len_of hbd
  have h1 := @RLen_does G (nat v) (by omega) (nat_ws _)
  have h2 := @RLen_does G (nat d) (by omega) (nat_ws _)
  rw [val_nat] at h1 h2
  by_cases hdd : bl d < bl v
  · obtain ⟨k, hk⟩ : ∃ k, bl v = bl d + k := ⟨bl v - bl d, by omega⟩
    have hq := q1 k hk
    have h3 := @RLeft_does G (nat d) k (by omega) (nat_ws _) (by omega)
    rw [val_nat] at h3
    have l3 : (nat (d * 2 ^ k)).length ≤ 2000000 := nat_len_of (by rw [bl_mul_pow _ _ hd]; omega)
    have h4 := @RCmp_does G (nat v) (nat (d * 2 ^ k)) (by omega) (nat_ws _) (by omega) (nat_ws _)
    rw [val_nat, val_nat] at h4
    have hc := @cmpP_neg v (d * 2 ^ k)
    have e1 : ((bl v : Nat) : Int) - (bl d : Int) = k := by omega
    clear q1 q2
    generalize (bl (quoM v d K) : Int) - 1 - K = z at *
    generalize cmpP v (d * 2 ^ k) = c at *
    generalize d * 2 ^ k = B at *
    refine Does.of (nt := 35) Tryz.func144 rfl rfl rfl (by simp) ?_
    simp only [argTm, PV.ext, Ce.ext]
    refine Do.seqk fun _ k1_ => ?_
    refine Do.region [0,1,2] true ?_
    simp [go_sem]
    apply k1_; clear k1_
    refine Do.seqk fun _ k2_ => ?_
    refine Do.region [0,1,2,7] true ?_
    simp [go_sem]
    refine DoL.call true 102 rfl rfl rfl rfl (by first | exact trivial | omega | (simp; done) | (simp; omega)) (h1) rfl (by first | exact .inl rfl | exact .inr rfl) rfl ?_
    simp [go_sem]
    refine DoL.call true 104 rfl rfl rfl rfl (by first | exact trivial | omega | (simp; done) | (simp; omega)) (h2) rfl (by first | exact .inl rfl | exact .inr rfl) rfl ?_
    simp [go_sem]
    repeat (refine And.intro (by first | omega | (intros; omega) | grind) ?_)
    apply k2_; clear k2_
    refine Do.seqk fun _ k3_ => ?_
    refine Do.region [0,1,2,7,8,9] true ?_
    simp [go_sem, e1]
    apply k3_; clear k3_
    refine Do.seqk fun _ k4_ => ?_
    refine Do.seqk fun _ k5_ => ?_
    refine Do.region [0,1,2,7,8,9,18] true ?_
    simp [go_sem, e1]
    apply k5_; clear k5_
    refine Do.cond [0,1,2,7,8,9] rfl (fun g => ?_) (fun g => ?_) <;> simp [go_sem, e1] at g ⊢
    · refine Do.region [2,7,8,9] true ?_
      simp [go_sem, e1]
      refine DoL.call true 403 rfl rfl rfl rfl (by first | exact trivial | omega | (simp; done) | (simp; omega)) (h3) rfl (by first | exact .inl rfl | exact .inr rfl) rfl ?_
      simp [go_sem, e1]
      apply k4_; clear k4_
      refine Do.seqk fun _ k6_ => ?_
      refine Do.seqk fun _ k7_ => ?_
      refine Do.region [2,7,29] true ?_
      simp [go_sem, e1]
      refine DoL.call true 603 rfl rfl rfl rfl (by first | exact trivial | omega | (simp; done) | (simp; omega)) (h4) rfl (by first | exact .inl rfl | exact .inr rfl) rfl ?_
      simp [go_sem, e1]
      apply k7_; clear k7_
      refine Do.cond [2,7] rfl (fun g2 => ?_) (fun g2 => ?_) <;> simp [go_sem, e1] at g2 ⊢
      · refine Do.region [2,7] true ?_
        simp [go_sem, e1]
        repeat (refine And.intro (by first | omega | (intros; omega) | grind) ?_)
        apply k6_; clear k6_
        refine Do.seqk fun _ k8_ => ?_
        refine Do.region [6] true ?_
        simp [go_sem, e1]
        repeat (refine And.intro (by first | omega | (intros; omega) | grind) ?_)
        apply k8_; clear k8_
        refine Do.ret ?_
        simp [endQ, rets, ret1, go_sem, e1]
        repeat (refine And.intro (by first | omega | (intros; omega) | grind) ?_)
        rw [if_pos (hc.1 g2)] at hq
        exact ret_i (by omega)
      · refine Do.skip ?_
        simp [go_sem]
        apply k6_; clear k6_
        refine Do.seqk fun _ k9_ => ?_
        refine Do.region [6] true ?_
        simp [go_sem, e1]
        repeat (refine And.intro (by first | omega | (intros; omega) | grind) ?_)
        apply k9_; clear k9_
        refine Do.ret ?_
        simp [endQ, rets, ret1, go_sem, e1]
        repeat (refine And.intro (by first | omega | (intros; omega) | grind) ?_)
        rw [if_neg (fun h => by have := hc.2 h; omega)] at hq
        exact ret_i (by omega)
    · omega
  · obtain ⟨k, hk⟩ : ∃ k, bl d = bl v + k := ⟨bl d - bl v, by omega⟩
    have hq := q2 k hk
    have h3 := @RLeft_does G (nat v) k (by omega) (nat_ws _) (by omega)
    rw [val_nat] at h3
    have l3 : (nat (v * 2 ^ k)).length ≤ 2000000 := nat_len_of (by rw [bl_mul_pow _ _ hv]; omega)
    have h4 := @RCmp_does G (nat (v * 2 ^ k)) (nat d) (by omega) (nat_ws _) (by omega) (nat_ws _)
    rw [val_nat, val_nat] at h4
    have hc := @cmpP_neg (v * 2 ^ k) d
    have e1 : ((bl v : Nat) : Int) - (bl d : Int) = -(k : Int) := by omega
    clear q1 q2
    generalize (bl (quoM v d K) : Int) - 1 - K = z at *
    generalize cmpP (v * 2 ^ k) d = c at *
    generalize v * 2 ^ k = B at *
    refine Does.of (nt := 35) Tryz.func144 rfl rfl rfl (by simp) ?_
    simp only [argTm, PV.ext, Ce.ext]
    refine Do.seqk fun _ k1_ => ?_
    refine Do.region [0,1,2] true ?_
    simp [go_sem]
    apply k1_; clear k1_
    refine Do.seqk fun _ k2_ => ?_
    refine Do.region [0,1,2,7] true ?_
    simp [go_sem]
    refine DoL.call true 102 rfl rfl rfl rfl (by first | exact trivial | omega | (simp; done) | (simp; omega)) (h1) rfl (by first | exact .inl rfl | exact .inr rfl) rfl ?_
    simp [go_sem]
    refine DoL.call true 104 rfl rfl rfl rfl (by first | exact trivial | omega | (simp; done) | (simp; omega)) (h2) rfl (by first | exact .inl rfl | exact .inr rfl) rfl ?_
    simp [go_sem]
    repeat (refine And.intro (by first | omega | (intros; omega) | grind) ?_)
    apply k2_; clear k2_
    refine Do.seqk fun _ k3_ => ?_
    refine Do.region [0,1,2,7,8,9] true ?_
    simp [go_sem, e1]
    apply k3_; clear k3_
    refine Do.seqk fun _ k4_ => ?_
    refine Do.seqk fun _ k5_ => ?_
    refine Do.region [0,1,2,7,8,9,18] true ?_
    simp [go_sem, e1]
    apply k5_; clear k5_
    refine Do.cond [0,1,2,7,8,9] rfl (fun g => ?_) (fun g => ?_) <;> simp [go_sem, e1] at g ⊢
    · omega
    · refine Do.region [2,7,8,9] true ?_
      simp [go_sem, e1]
      repeat (refine And.intro (by first | omega | (intros; omega) | grind) ?_)
      refine DoL.call true 504 rfl rfl rfl rfl (by first | exact trivial | omega | (simp; done) | (simp; omega)) (h3) rfl (by first | exact .inl rfl | exact .inr rfl) rfl ?_
      simp [go_sem, e1]
      apply k4_; clear k4_
      refine Do.seqk fun _ k6_ => ?_
      refine Do.seqk fun _ k7_ => ?_
      refine Do.region [2,7,29] true ?_
      simp [go_sem, e1]
      refine DoL.call true 603 rfl rfl rfl rfl (by first | exact trivial | omega | (simp; done) | (simp; omega)) (h4) rfl (by first | exact .inl rfl | exact .inr rfl) rfl ?_
      simp [go_sem, e1]
      apply k7_; clear k7_
      refine Do.cond [2,7] rfl (fun g2 => ?_) (fun g2 => ?_) <;> simp [go_sem, e1] at g2 ⊢
      · refine Do.region [2,7] true ?_
        simp [go_sem, e1]
        repeat (refine And.intro (by first | omega | (intros; omega) | grind) ?_)
        apply k6_; clear k6_
        refine Do.seqk fun _ k8_ => ?_
        refine Do.region [6] true ?_
        simp [go_sem, e1]
        repeat (refine And.intro (by first | omega | (intros; omega) | grind) ?_)
        apply k8_; clear k8_
        refine Do.ret ?_
        simp [endQ, rets, ret1, go_sem, e1]
        repeat (refine And.intro (by first | omega | (intros; omega) | grind) ?_)
        rw [if_pos (hc.1 g2)] at hq
        exact ret_i (by omega)
      · refine Do.skip ?_
        simp [go_sem]
        apply k6_; clear k6_
        refine Do.seqk fun _ k9_ => ?_
        refine Do.region [6] true ?_
        simp [go_sem, e1]
        repeat (refine And.intro (by first | omega | (intros; omega) | grind) ?_)
        apply k9_; clear k9_
        refine Do.ret ?_
        simp [endQ, rets, ret1, go_sem, e1]
        repeat (refine And.intro (by first | omega | (intros; omega) | grind) ?_)
        rw [if_neg (fun h => by have := hc.2 h; omega)] at hq
        exact ret_i (by omega)
theorem RExpD {n : Bool} {v d K : Nat} (hv : 0 < v) (hd : 0 < d) (hb : bl v ≤ 1000000) (hbd : bl d ≤ 1000000) (hK : bl d ≤ K) : Does Tryz.prog G 77 [RlD n v d] (.int .i64 (bl (quoM v d K) - 1 - K)) := by
  have h1 := @RLogD G v d K hv hd hb hbd hK
  have hI : I64 (bl (quoM v d K) - 1 - K) := by
    obtain ⟨q1, q2⟩ := @quo_exp v d K hv hd hK
    by_cases h : bl d ≤ bl v
    · have := q1 (bl v - bl d) (by omega); split at this <;> constructor <;> omega
    · have := q2 (bl d - bl v) (by omega); split at this <;> constructor <;> omega
  have h2 := @floor_does G (bl (quoM v d K) - 1 - K) hI
  generalize (bl (quoM v d K) : Int) - 1 - K = E at *
  refine Does.of (nt := 13) Tryz.func77 rfl rfl rfl (by simp) ?_
  simp only [argTm, PV.ext, Ce.ext]
  refine Do.seqk fun _ k1_ => ?_
  refine Do.region [1] true ?_
  simp [go_sem]
  apply k1_; clear k1_
  refine Do.seqk fun _ k2_ => ?_
  refine Do.draw [2] true (by kernel_rfl) ?_
  simp [go_sem]
  repeat (refine And.intro (by first | omega | (intros; omega) | kernel_rfl | grind) ?_)
  refine DoLD.call true 107 rfl rfl rfl rfl (by first | exact trivial | omega | (simp; done) | (simp; omega)) (h1) rfl (by first | exact .inl rfl | exact .inr rfl) rfl ?_
  simp [go_sem]
  repeat (refine And.intro (by first | omega | (intros; omega) | kernel_rfl | grind) ?_)
  refine DoLD.call true 110 rfl rfl rfl rfl (by first | exact trivial | omega | (simp; done) | (simp; omega)) (h2) rfl (by first | exact .inl rfl | exact .inr rfl) rfl ?_
  simp [go_sem]
  try (refine And.intro (by kernel_rfl) ?_)
  apply k2_; clear k2_
  refine Do.ret ?_
  simp [endQ, rets, ret1, go_sem]
  repeat (refine And.intro (by first | omega | (intros; omega) | grind) ?_)
  exact TLe.refl _
theorem StepsD_up {n : Bool} {v d k : Nat} {s : Int} (hd : 0 < d) (hk : 1 - s = k) (hb : bl v ≤ 1000000) (hbd : bl d ≤ 1000000) (hk2 : k ≤ 1000000) : Does Tryz.prog G 73 [RlD n v d, .c (.i .i64 s)] (.v (Pt (v * 2 ^ k / d / 2) (decide (v * 2 ^ k / d % 2 = 1)) (!decide (v * 2 ^ k % d = 0)))) := by
  have lv := nat_len_of hb
  have ld := nat_len_of hbd
  have h1 := @RLeft_does G (nat v) k (by omega) (nat_ws _) (by omega)
  rw [val_nat] at h1
  have hb2 : bl (v * 2 ^ k) ≤ 2000000 := by
    by_cases h0 : v = 0
    · subst h0; simp [bl_zero]
    · rw [bl_mul_pow _ _ (by omega)]; omega
  have l2 := nat_len_of hb2
  have h2 := @RDivMod_does G (nat (v * 2 ^ k)) (nat d) (by omega) (nat_ws _) (by omega) (nat_ws _) (by rw [val_nat]; exact hd)
  rw [val_nat, val_nat] at h2
  have l3 := nat_len_of (Nat.le_trans (bl_mono (Nat.div_le_self (v * 2 ^ k) d)) hb2)
  have l4 := nat_len_of (Nat.le_trans (bl_mono (Nat.mod_le (v * 2 ^ k) d)) hb2)
  have h3 := @IsZero_does G (nat (v * 2 ^ k % d)) (by omega) (nat_ws _)
  have h4 := @RRight_does G (nat (v * 2 ^ k / d)) 1 (by omega) (nat_ws _) (by decide)
  have h5 := @RBit_does G (nat (v * 2 ^ k / d)) (by omega) (nat_ws _) 0 (by constructor <;> decide)
  rw [val_nat] at h3 h4 h5
  simp only [Nat.pow_one, Int.toNat_zero, Nat.pow_zero, Nat.div_one, decide_true, Bool.true_and, Int.le_refl] at h3 h4 h5
  generalize v * 2 ^ k / d = q at *
  generalize v * 2 ^ k % d = w at *
  generalize v * 2 ^ k = X at *
  have hmul : (1 : Int) * (s - 1) = s - 1 := Int.one_mul _
  have hneg : -(s - 1) = (k : Int) := by omega
  have hneg2 : 1 - s = (k : Int) := hk
  refine Does.of (nt := 82) Tryz.func73 rfl rfl rfl (by simp) ?_
  simp only [argTm, PV.ext, Ce.ext]
  refine Do.seqk fun _ k1_ => ?_
  refine Do.region [1,2,4] true ?_
  simp [go_sem, hmul, hneg, hneg2]
  apply k1_; clear k1_
  refine Do.seqk fun _ k2_ => ?_
  refine Do.region [2,4,5] true ?_
  simp [go_sem, hmul, hneg, hneg2]
  repeat (refine And.intro (by first | omega | (intros; omega) | grind) ?_)
  apply k2_; clear k2_
  refine Do.seqk fun _ k3_ => ?_
  refine Do.region [2,4,5] true ?_
  simp [go_sem, hmul, hneg, hneg2]
  apply k3_; clear k3_
  refine Do.seqk fun _ k4_ => ?_
  refine Do.region [2,4,5] true ?_
  simp [go_sem, hmul, hneg, hneg2]
  apply k4_; clear k4_
  refine Do.seqk fun _ k5_ => ?_
  refine Do.seqk fun _ k6_ => ?_
  refine Do.region [2,4,5,22] true ?_
  simp [go_sem, hmul, hneg, hneg2]
  apply k6_; clear k6_
  refine Do.cond [2,4,5] rfl (fun h => ?_) (fun h => ?_) <;> simp [go_sem, hmul, hneg, hneg2] at h ⊢
  refine Do.seqk fun _ k7_ => ?_
  refine Do.draw [2,4,8,9] true (by kernel_rfl) ?_
  simp [go_sem, hmul, hneg, hneg2]
  repeat (refine And.intro (by first | omega | (intros; omega) | kernel_rfl | grind) ?_)
  refine DoLD.call true 504 rfl rfl rfl rfl (by first | exact trivial | omega | (simp; done) | (simp; omega)) (h1) rfl (by first | exact .inl rfl | exact .inr rfl) rfl ?_
  simp [go_sem, hmul, hneg, hneg2]
  repeat (refine And.intro (by first | omega | (intros; omega) | kernel_rfl | grind) ?_)
  refine DoLD.call true 507 rfl rfl rfl rfl (by first | exact trivial | omega | (simp; done) | (simp; omega)) (h2) rfl (by first | exact .inl rfl | exact .inr rfl) rfl ?_
  simp [go_sem, hmul, hneg, hneg2]
  try (refine And.intro (by kernel_rfl) ?_)
  apply k7_; clear k7_
  refine Do.region [2,4,6,7] true ?_
  simp [go_sem, hmul, hneg, hneg2]
  refine DoL.call true 603 rfl rfl rfl rfl (by first | exact trivial | omega | (simp; done) | (simp; omega)) (h3) rfl (by first | exact .inl rfl | exact .inr rfl) rfl ?_
  simp [go_sem, hmul, hneg, hneg2]
  apply k5_; clear k5_
  refine Do.seqk fun _ k8_ => ?_
  refine Do.seqk fun _ k9_ => ?_
  refine Do.region [2,4,6,7,59] true ?_
  simp [go_sem, hmul, hneg, hneg2]
  repeat (refine And.intro (by first | omega | (intros; omega) | grind) ?_)
  apply k9_; clear k9_
  refine Do.cond [2,4,6,7] rfl (fun h => ?_) (fun h => ?_) <;> simp [go_sem, hmul, hneg, hneg2] at h ⊢
  refine Do.skip ?_
  simp [go_sem]
  apply k8_; clear k8_
  refine Do.seqk fun _ k10_ => ?_
  refine Do.region [4] true ?_
  simp [go_sem, hmul, hneg, hneg2]
  refine DoL.call true 1402 rfl rfl rfl rfl (by first | exact trivial | omega | (simp; done) | (simp; omega)) (h4) rfl (by first | exact .inl rfl | exact .inr rfl) rfl ?_
  simp [go_sem, hmul, hneg, hneg2]
  refine DoL.call true 1404 rfl rfl rfl rfl (by first | exact trivial | omega | (simp; done) | (simp; omega)) (h5) rfl (by first | exact .inl rfl | exact .inr rfl) rfl ?_
  simp [go_sem, hmul, hneg, hneg2]
  repeat (refine And.intro (by first | omega | (intros; omega) | grind) ?_)
  apply k10_; clear k10_
  refine Do.ret ?_
  simp [endQ, rets, ret1, go_sem, hmul, hneg, hneg2]
  repeat (refine And.intro (by first | omega | (intros; omega) | grind) ?_)
  exact pt_le (PLe.ext (.c (.w true _)))
theorem StepsD_down {n : Bool} {v d k : Nat} {s : Int} (hd : 0 < d) (hk : s - 1 = k) (hk0 : 0 < k) (hb : bl v ≤ 1000000) (hbd : bl d ≤ 1000000) (hk2 : k ≤ 1000000) : Does Tryz.prog G 73 [RlD n v d, .c (.i .i64 s)] (.v (Pt (v / d / 2 ^ k / 2) (decide (v / d / 2 ^ k % 2 = 1)) (!(decide (v % d = 0) && decide (v / d % 2 ^ k = 0))))) := by
  have lv := nat_len_of hb
  have ld := nat_len_of hbd
  have h2 := @RDivMod_does G (nat v) (nat d) (by omega) (nat_ws _) (by omega) (nat_ws _) (by rw [val_nat]; exact hd)
  rw [val_nat, val_nat] at h2
  have lq := Nat.le_trans (bl_mono (Nat.div_le_self v d)) hb
  have l3 := nat_len_of lq
  have l4 := nat_len_of (Nat.le_trans (bl_mono (Nat.mod_le v d)) hb)
  have h1 := @RRight_does G (nat (v / d)) k (by omega) (nat_ws _) (by omega)
  have h3 := @IsZero_does G (nat (v % d)) (by omega) (nat_ws _)
  have h6 := @RLow_does G (nat (v / d)) k (by omega) (nat_ws _) (by omega)
  rw [val_nat] at h1 h3 h6
  have l5 := nat_len_of (Nat.le_trans (bl_mono (Nat.div_le_self (v / d) (2 ^ k))) lq)
  have l6 := nat_len_of (Nat.le_trans (bl_mono (Nat.mod_le (v / d) (2 ^ k))) lq)
  have h7 := @IsZero_does G (nat (v / d % 2 ^ k)) (by omega) (nat_ws _)
  have h4 := @RRight_does G (nat (v / d / 2 ^ k)) 1 (by omega) (nat_ws _) (by decide)
  have h5 := @RBit_does G (nat (v / d / 2 ^ k)) (by omega) (nat_ws _) 0 (by constructor <;> decide)
  rw [val_nat] at h4 h5 h7
  simp only [Nat.pow_one, Int.toNat_zero, Nat.pow_zero, Nat.div_one, decide_true, Bool.true_and, Int.le_refl] at h4 h5
  generalize v / d / 2 ^ k = q at *
  generalize v / d % 2 ^ k = w at *
  generalize v / d = q0 at *
  generalize hr : v % d = r0 at *
  have hmul : (1 : Int) * (s - 1) = s - 1 := Int.one_mul _
  have hneg : ¬ (k : Int) ≤ 0 := by omega
  have hneg2 : ¬ k = 0 := by omega
  refine Does.of (nt := 82) Tryz.func73 rfl rfl rfl (by simp) ?_
  simp only [argTm, PV.ext, Ce.ext]
  refine Do.seqk fun _ k1_ => ?_
  refine Do.region [1,2,4] true ?_
  simp [go_sem, hmul, hk, hneg, hneg2]
  apply k1_; clear k1_
  refine Do.seqk fun _ k2_ => ?_
  refine Do.region [2,4,5] true ?_
  simp [go_sem, hmul, hk, hneg, hneg2]
  repeat (refine And.intro (by first | omega | (intros; omega) | grind) ?_)
  apply k2_; clear k2_
  refine Do.seqk fun _ k3_ => ?_
  refine Do.region [2,4,5] true ?_
  simp [go_sem, hmul, hk, hneg, hneg2]
  apply k3_; clear k3_
  refine Do.seqk fun _ k4_ => ?_
  refine Do.region [2,4,5] true ?_
  simp [go_sem, hmul, hk, hneg, hneg2]
  apply k4_; clear k4_
  refine Do.seqk fun _ k5_ => ?_
  refine Do.seqk fun _ k6_ => ?_
  refine Do.region [2,4,5,22] true ?_
  simp [go_sem, hmul, hk, hneg, hneg2]
  apply k6_; clear k6_
  refine Do.cond [2,4,5] rfl (fun h => ?_) (fun h => ?_) <;> simp [go_sem, hmul, hk, hneg, hneg2] at h ⊢
  refine Do.seqk fun _ k7_ => ?_
  refine Do.region [2,4,5,10,11] true ?_
  simp [go_sem, hmul, hk, hneg, hneg2]
  repeat (refine And.intro (by first | omega | (intros; omega) | grind) ?_)
  refine DoL.call true 705 rfl rfl rfl rfl (by first | exact trivial | omega | (simp; done) | (simp; omega)) (h2) rfl (by first | exact .inl rfl | exact .inr rfl) rfl ?_
  simp [go_sem, hmul, hk, hneg, hneg2]
  apply k7_; clear k7_
  refine Do.seqk fun _ k8_ => ?_
  refine Do.region [2,4,5,6,10,11] true ?_
  simp [go_sem, hmul, hk, hneg, hneg2]
  repeat (refine And.intro (by first | omega | (intros; omega) | grind) ?_)
  refine DoL.call true 804 rfl rfl rfl rfl (by first | exact trivial | omega | (simp; done) | (simp; omega)) (h1) rfl (by first | exact .inl rfl | exact .inr rfl) rfl ?_
  simp [go_sem, hmul, hk, hneg, hneg2]
  apply k8_; clear k8_
  refine Do.region [2,4,6,7] true ?_
  simp [go_sem, hmul, hk, hneg, hneg2]
  refine DoL.call true 902 rfl rfl rfl rfl (by first | exact trivial | omega | (simp; done) | (simp; omega)) (h3) rfl (by first | exact .inl rfl | exact .inr rfl) rfl ?_
  simp [go_sem, hmul, hk, hneg, hneg2]
  repeat (refine And.intro (by first | omega | (intros; omega) | grind) ?_)
  refine DoL.callg true 907 rfl rfl rfl rfl rfl (by simp [go_sem] <;> omega) (fun _ => h6) rfl (by first | exact .inl rfl | exact .inr rfl) rfl ?_
  simp [go_sem, hmul, hk, hneg, hneg2]
  refine DoL.callg true 908 rfl rfl rfl rfl rfl (by simp [go_sem] <;> omega) (fun _ => h7) rfl (by first | exact .inl rfl | exact .inr rfl) rfl ?_
  simp [go_sem, hmul, hk, hneg, hneg2]
  apply k5_; clear k5_
  refine Do.seqk fun _ k9_ => ?_
  refine Do.seqk fun _ k10_ => ?_
  refine Do.region [2,4,6,7,59] true ?_
  simp [go_sem, hmul, hk, hneg, hneg2]
  repeat (refine And.intro (by first | omega | (intros; omega) | grind) ?_)
  apply k10_; clear k10_
  refine Do.cond [2,4,6,7] rfl (fun h => ?_) (fun h => ?_) <;> simp [go_sem, hmul, hk, hneg, hneg2] at h ⊢
  refine Do.skip ?_
  simp [go_sem]
  apply k9_; clear k9_
  refine Do.seqk fun _ k11_ => ?_
  refine Do.region [4] true ?_
  simp [go_sem, hmul, hk, hneg, hneg2]
  refine DoL.call true 1402 rfl rfl rfl rfl (by first | exact trivial | omega | (simp; done) | (simp; omega)) (h4) rfl (by first | exact .inl rfl | exact .inr rfl) rfl ?_
  simp [go_sem, hmul, hk, hneg, hneg2]
  refine DoL.call true 1404 rfl rfl rfl rfl (by first | exact trivial | omega | (simp; done) | (simp; omega)) (h5) rfl (by first | exact .inl rfl | exact .inr rfl) rfl ?_
  simp [go_sem, hmul, hk, hneg, hneg2]
  repeat (refine And.intro (by first | omega | (intros; omega) | grind) ?_)
  apply k11_; clear k11_
  refine Do.ret ?_
  simp [endQ, rets, ret1, go_sem, hmul, hk, hneg, hneg2]
  repeat (refine And.intro (by first | omega | (intros; omega) | grind) ?_)
  exact pt_le (PLe.ext (.c (.w true _)))
theorem StepsD {n : Bool} {v d K : Nat} {s : Int} (hd : 0 < d) (hb : bl v ≤ 1000000) (hbd : bl d ≤ 1000000) (hK : 1 ≤ s + K) (hs : -900000 ≤ s) (hs2 : s ≤ 900000) : ∃ hh tt, Does Tryz.prog G 73 [RlD n v d, .c (.i .i64 s)] (.v (Pt (cutP (quoM v d K) (s + K) (quoS v d K)).1 hh tt)) ∧ pcode hh tt = (cutP (quoM v d K) (s + K) (quoS v d K)).2 := by
  by_cases h1 : s ≤ 1
  · obtain ⟨k, hk⟩ : ∃ k : Nat, 1 - s = k := ⟨(1 - s).toNat, by omega⟩
    obtain ⟨j, rfl⟩ : ∃ j, K = k + j := ⟨K - k, by omega⟩
    obtain ⟨q1, q2⟩ := @quo_deep v d k j hd
    have hS := @StepsD_up G n v d k s hd hk hb hbd (by omega)
    rw [show s + ((k + j : Nat) : Int) = 1 + j by omega, cutP_deep (Int.le_refl 1), q1, q2]
    refine ⟨decide (v * 2 ^ k / d % 2 = 1), !decide (v * 2 ^ k % d = 0), ?_⟩
    have e : cutP (quoM v d k) 1 (quoS v d k) = (v * 2 ^ k / d / 2, if v * 2 ^ k / d % 2 = 1 then (if quoS v d k then 3 else 2) else (if quoS v d k then 1 else 0)) := by
      unfold cutP quoM
      rw [if_neg (by decide), show (1 : Int).toNat = 1 from rfl, show ((1 : Int) - 1).toNat = 0 from rfl, Nat.pow_zero, Nat.div_one, Nat.mod_one, Nat.pow_one]
      simp
    rw [e]
    refine ⟨hS, ?_⟩
    unfold quoS pcode
    by_cases g1 : v * 2 ^ k / d % 2 = 1 <;> by_cases g2 : v * 2 ^ k % d = 0 <;> simp [g1, g2]
  · obtain ⟨k, hk⟩ : ∃ k : Nat, s - 1 = k := ⟨(s - 1).toNat, by omega⟩
    have hS := @StepsD_down G n v d k s hd hk (by omega) hb hbd (by omega)
    obtain ⟨q1, q2⟩ := @quo_deep v d 0 K hd
    rw [Nat.zero_add] at q1 q2
    rw [cutP_deep (show 1 ≤ s by omega), q1, q2]
    refine ⟨decide (v / d / 2 ^ k % 2 = 1), !(decide (v % d = 0) && decide (v / d % 2 ^ k = 0)), ?_⟩
    unfold cutP quoM quoS
    rw [Nat.pow_zero, Nat.mul_one, if_neg (by omega), show s.toNat = k + 1 by omega, show (s - 1).toNat = k by omega, Nat.pow_succ, ← Nat.div_div_eq_div_mul]
    refine ⟨hS, ?_⟩
    unfold pcode
    by_cases g1 : v / d / 2 ^ k % 2 = 1 <;> by_cases g2 : v % d = 0 <;> by_cases g3 : v / d % 2 ^ k = 0 <;> simp [g1, g2, g3]
end Go.Proofs.YtokgalpflooegaaGreatDoor
/- Rounding to odd, plain. No condition. -/
namespace Go.Proofs.YtokgalpflooegaaGreatDoor
set_option linter.unusedVariables false
set_option linter.unusedSimpArgs false
set_option maxHeartbeats 4000000
set_option maxRecDepth 10000
/-- What is cut off a number. -/
theorem cutP_pos {M : Nat} {k : Nat} {st : Bool} (hk : 1 ≤ k) : (cutP M k st).1 = M / 2 ^ k ∧ ((cutP M k st).2 = 0 ↔ (st = false ∧ M % 2 ^ k = 0)) := by
  obtain ⟨j, rfl⟩ : ∃ j, k = j + 1 := ⟨k - 1, by omega⟩
  unfold cutP
  rw [if_neg (show ¬ (((j + 1 : Nat) : Int) ≤ 0) by omega), show (((j + 1 : Nat) : Int)).toNat = j + 1 by omega, show (((j + 1 : Nat) : Int) - 1).toNat = j by omega]
  refine ⟨rfl, ?_⟩
  have e : M % 2 ^ (j + 1) = 0 ↔ (M % 2 ^ j = 0 ∧ ¬ M / 2 ^ j % 2 = 1) := by
    rw [Nat.pow_succ, Nat.mod_mul]
    have := two_pos' j
    constructor
    · intro h
      refine ⟨by omega, fun h2 => ?_⟩
      rw [h2, Nat.mul_one] at h
      omega
    · rintro ⟨h1, h2⟩
      rw [h1, show M / 2 ^ j % 2 = 0 by omega, Nat.mul_zero]
  rw [e]
  by_cases h1 : M / 2 ^ j % 2 = 1
  · simp only [h1, if_true, not_true, and_false, iff_false]
    split <;> decide
  · simp only [h1, if_false, not_false_eq_true, and_true]
    by_cases h2 : M % 2 ^ j = 0 <;> cases st <;> simp [h2]
theorem upP_two (n : Bool) (q : Nat) (x : Int) : upP 2 n q x = q := by unfold upP moreP; simp
/-- Where a number is cut, and what is left of it. -/
theorem cut_facts {f p : Int} (hf : fmOk f p = true) {M : Nat} {e : Int} {st : Bool} (hM : p + 2 ≤ bl M) :
    e + 2 ≤ stepP f p (e + bl M - 1) ∧ 1 - gOfE f - (p - 1) ≤ stepP f p (e + bl M - 1) ∧
    (bl (cutP M (stepP f p (e + bl M - 1) - e) st).1 : Int) ≤ p ∧ ((cutP M (stepP f p (e + bl M - 1) - e) st).1 ≠ 0 → stepP f p (e + bl M - 1) + bl (cutP M (stepP f p (e + bl M - 1) - e) st).1 - 1 = e + bl M - 1) ∧
    ((cutP M (stepP f p (e + bl M - 1) - e) st).1 = 0 → e + bl M - 1 < 1 - gOfE f) ∧ ((cutP M (stepP f p (e + bl M - 1) - e) st).1 = 0 → (cutP M (stepP f p (e + bl M - 1) - e) st).2 ≠ 0) ∧
    (1 - gOfE f ≤ e + bl M - 1 → bl (cutP M (stepP f p (e + bl M - 1) - e) st).1 = p.toNat) := by
  obtain ⟨b1, b2, b3, b4⟩ := fmOk_spec hf
  have hge := stepP_ge f p (e + bl M - 1)
  have hz : ∀ q : Nat, bl q = 0 ↔ q = 0 := fun q => by
    constructor
    · intro h
      apply Classical.byContradiction
      intro h2
      have := bl_pos (Nat.pos_of_ne_zero h2); omega
    · intro h; rw [h, bl_zero]
  obtain ⟨k, hk⟩ : ∃ k : Nat, stepP f p (e + bl M - 1) - e = k := ⟨(stepP f p (e + bl M - 1) - e).toNat, by omega⟩
  have hk1 : 1 ≤ k := by omega
  have hu : stepP f p (e + bl M - 1) = e + k := by omega
  obtain ⟨c1, c2⟩ := @cutP_pos M k st hk1
  have hbl := bl_div M k
  rw [hk, c1, hu]
  have hstep : stepP f p (e + bl M - 1) = if e + bl M - 1 < 1 - gOfE f then 1 - gOfE f - (p - 1) else e + bl M - 1 - p + 1 := rfl
  rw [hu] at hstep
  refine ⟨by omega, ?_, ?_, ?_, ?_, ?_, ?_⟩
  · split at hstep <;> omega
  · split at hstep <;> omega
  · intro h0
    have : ¬ bl (M / 2 ^ k) = 0 := fun h => h0 ((hz _).1 h)
    split at hstep <;> omega
  · intro h0
    have := (hz _).2 h0
    split at hstep <;> omega
  · intro h0 h2
    obtain ⟨_, h3⟩ := c2.1 h2
    have h4 := Nat.div_add_mod M (2 ^ k)
    rw [h0, h3, Nat.mul_zero] at h4
    rw [← h4] at hM
    simp [bl_zero] at hM
    omega
  · intro h1
    rw [if_neg (by omega)] at hstep
    omega
/-- Towards 0: nothing beyond the greatest float. -/
theorem round_two {f p : Int} (hf : fmOk f p = true) {n : Bool} {M : Nat} {e : Int} {st : Bool} (hM : p + 2 ≤ bl M) :
    (gOfE f < e + bl M - 1 → roundP f p 2 n M e st = (⟨1, n, gOfE f - p + 1, 2 ^ p.toNat - 1⟩, 5)) ∧
    (e + bl M - 1 ≤ gOfE f → roundP f p 2 n M e st = (mkP n (cutP M (stepP f p (e + bl M - 1) - e) st).1 (stepP f p (e + bl M - 1)), if (cutP M (stepP f p (e + bl M - 1) - e) st).2 = 0 then 0 else if e + bl M - 1 < 1 - gOfE f then 3 else 1)) := by
  obtain ⟨b1, b2, b3, b4⟩ := fmOk_spec hf
  obtain ⟨b5, b6⟩ := gOfE_le b1 b2
  obtain ⟨f1, f2, f3, f4, f5, f6, f7⟩ := @cut_facts f p hf M e st hM
  have hstep : stepP f p (e + bl M - 1) = if e + bl M - 1 < 1 - gOfE f then 1 - gOfE f - (p - 1) else e + bl M - 1 - p + 1 := rfl
  unfold roundP
  simp only []
  rw [upP_two]
  generalize stepP f p (e + bl M - 1) = u at *
  generalize cutP M (u - e) st = c at *
  constructor
  · intro h
    have h7 := f7 (by omega)
    rw [if_neg (by omega)] at hstep
    rw [if_pos (by omega)]
    rfl
  · intro h
    have : ¬ gOfE f < u + bl c.1 - 1 := by
      by_cases h0 : c.1 = 0
      · have := f5 h0
        rw [if_pos this] at hstep
        rw [h0, bl_zero]; omega
      · have := f4 h0; omega
    rw [if_neg this]
theorem bl_full {p q : Nat} (h : bl q ≤ p) : q < 2 ^ p := (bl_lt _ _).1 h
/-- Is it the greatest float? -/
theorem mk_top {n : Bool} {c p : Nat} {u g : Int} (hp : 2 ≤ p) (hc : c < 2 ^ p) : ((mkP n c u).k = 1 ∧ (mkP n c u).e = g ∧ (mkP n c u).v = 2 ^ p - 1) ↔ (c = 2 ^ p - 1 ∧ u = g) := by
  have hpp : 4 ≤ 2 ^ p := by
    have : 2 ^ 2 ≤ 2 ^ p := Nat.pow_le_pow_right (by decide) hp
    exact this
  have hodd : (2 ^ p - 1) % 2 = 1 := by
    obtain ⟨j, rfl⟩ : ∃ j, p = j + 1 := ⟨p - 1, by omega⟩
    rw [Nat.pow_succ] at *
    omega
  unfold mkP
  constructor
  · split
    · rintro ⟨h1, _⟩; cases h1
    · rename_i h0
      rintro ⟨_, h2, h3⟩
      simp only [] at h2 h3
      obtain ⟨m, hm⟩ := tz_form (Nat.pos_of_ne_zero h0)
      have ht : tz c = 0 := by
        apply Classical.byContradiction
        intro ht
        obtain ⟨j, hj⟩ : ∃ j, tz c = j + 1 := ⟨tz c - 1, by omega⟩
        have h4 := Nat.div_mul_le_self c (2 ^ tz c)
        rw [h3, hj, Nat.pow_succ] at h4
        have := two_pos' j
        have h5 : (2 ^ p - 1) * (1 * 2) ≤ (2 ^ p - 1) * (2 ^ j * 2) := Nat.mul_le_mul_left _ (by omega)
        omega
      rw [ht, Nat.pow_zero, Nat.div_one] at h3
      rw [ht] at h2
      exact ⟨h3, by simpa using h2⟩
  · rintro ⟨rfl, rfl⟩
    rw [if_neg (by omega)]
    simp only []
    rw [tz_odd1 hodd]
    simp
theorem mk_full {n : Bool} {p : Nat} {u : Int} (hp : 2 ≤ p) : mkP n (2 ^ p - 1) u = ⟨1, n, u, 2 ^ p - 1⟩ := by
  have h := (@mk_top n (2 ^ p - 1) p u u hp (by have := two_pos' p; omega)).2 ⟨rfl, rfl⟩
  have hn : (mkP n (2 ^ p - 1) u).n = n := by unfold mkP; split <;> rfl
  obtain ⟨h1, h2, h3⟩ := h
  generalize mkP n (2 ^ p - 1) u = y at *
  cases y
  simp only at h1 h2 h3 hn
  subst h1; subst h2; subst h3; subst hn
  rfl
/-- The last digit made odd. -/
def oddN (c : Nat) : Nat := if c % 2 = 1 then c else c + 1
/-- Rounded to odd, and the flags. -/
def oddP (f p : Int) (n : Bool) (M : Nat) (e : Int) (st : Bool) : Flt × Int :=
  let E := e + bl M - 1
  let u := stepP f p E
  let c := cutP M (u - e) st
  if gOfE f < E then (⟨1, n, gOfE f - p + 1, 2 ^ p.toNat - 1⟩, 5)
  else if c.2 = 0 then (mkP n c.1 u, 0)
  else if c.1 = 2 ^ p.toNat - 1 ∧ u = gOfE f - p + 1 then (⟨1, n, gOfE f - p + 1, 2 ^ p.toNat - 1⟩, 5)
  else (mkP n (oddN c.1) u, if E < 1 - gOfE f then 3 else 1)
end Go.Proofs.YtokgalpflooegaaGreatDoor
/- Rounded to odd first, a number is rounded alike; plain. No condition. -/
namespace Go.Proofs.YtokgalpflooegaaGreatDoor
set_option linter.unusedVariables false
set_option linter.unusedSimpArgs false
set_option maxHeartbeats 4000000
set_option maxRecDepth 10000
theorem bl_ones2 (k : Nat) : bl (2 ^ k - 1) = k := by
  have h := two_pos' k
  apply Nat.le_antisymm
  · rw [bl_lt]; omega
  · cases k with
    | zero => omega
    | succ j =>
      have h2 := two_pos' j
      rw [Nat.pow_succ] at h ⊢
      have : j < bl (2 ^ j * 2 - 1) := (bl_le _ _).2 (by omega)
      omega
theorem oddN_bl {c : Nat} (h : c ≠ 0) : bl (oddN c) = bl c := by
  unfold oddN
  split
  · rfl
  · have h1 : bl c ≤ bl (c + 1) := bl_mono (by omega)
    have h2 : bl (c + 1) ≤ bl c := by
      rw [bl_lt]
      have h3 := bl_self c
      have h4 : bl c ≠ 0 := by have := bl_pos (Nat.pos_of_ne_zero h); omega
      obtain ⟨i, hi⟩ : ∃ i, bl c = i + 1 := ⟨bl c - 1, by omega⟩
      rw [hi, Nat.pow_succ] at h3 ⊢
      omega
    omega
/-- Too great at once, with something left or not. -/
theorem round_beyond {f p r : Int} (hf : fmOk f p = true) {n : Bool} {M : Nat} {e : Int} {st : Bool} (hM : p + 2 ≤ bl M) (h : gOfE f < e + bl M - 1) : roundP f p r n M e st = (beyP f p r n, 5) := by
  obtain ⟨b1, b2, b3, b4⟩ := fmOk_spec hf
  obtain ⟨b5, b6⟩ := gOfE_le b1 b2
  obtain ⟨f1, f2, f3, f4, f5, f6, f7⟩ := @cut_facts f p hf M e st hM
  have h7 := f7 (by omega)
  have hstep : stepP f p (e + bl M - 1) = if e + bl M - 1 < 1 - gOfE f then 1 - gOfE f - (p - 1) else e + bl M - 1 - p + 1 := rfl
  rw [if_neg (by omega)] at hstep
  unfold roundP beyP
  simp only []
  generalize stepP f p (e + bl M - 1) = u at *
  generalize cutP M (u - e) st = c at *
  have h8 := bl_mono (upP_ge r n c.1 c.2)
  rw [if_pos (by omega)]
end Go.Proofs.YtokgalpflooegaaGreatDoor
/- The float with a rational value, or none. No condition. -/
namespace Go.Proofs.YtokgalpflooegaaGreatDoor
set_option linter.unusedVariables false
set_option linter.unusedSimpArgs false
variable {G : Gl}
set_option maxHeartbeats 8000000
set_option maxRecDepth 10000
theorem pcD_step (n : Nat) : pc n = n % 2 + pc (n / 2) := by
  have h := pc_step n 0
  rwa [Nat.pow_zero, Nat.div_one, Nat.zero_add, Nat.pow_one] at h
theorem pcD_none : ∀ {n : Nat}, pc n = 0 → n = 0 := by
  intro n
  induction n using Nat.strongRecOn with
  | _ n ih =>
    intro h
    rw [pcD_step] at h
    by_cases h0 : n = 0
    · exact h0
    · have := ih (n / 2) (by omega) (by omega)
      omega
theorem pcD_one : ∀ {n : Nat}, pc n = 1 → ∃ t, n = 2 ^ t := by
  intro n
  induction n using Nat.strongRecOn with
  | _ n ih =>
    intro h
    have h0 : n ≠ 0 := fun h0 => by rw [h0, pc_zero] at h; cases h
    rw [pcD_step] at h
    by_cases h1 : n % 2 = 1
    · have := pcD_none (show pc (n / 2) = 0 by omega)
      exact ⟨0, by simp; omega⟩
    · obtain ⟨t, ht⟩ := ih (n / 2) (by omega) (by omega)
      exact ⟨t + 1, by rw [Nat.pow_succ]; omega⟩
/-- Any rational number in lowest terms. -/
theorem QNormD {n : Bool} {m d : List Nat} (hm : m.length ≤ 3125000) (wm : Ws m) (hd : d.length ≤ 3125000) (wd : Ws d) (h0 : 0 < val d) : Does Tryz.prog G 106 [Qw n m d] (.v (Qv (nz (sgn n (val m)) (val d)) (nd (sgn n (val m)) (val d)))) := by
  have hg := @RGcd_does G m d (by omega) wm (by omega) wd
  have gp : 0 < Nat.gcd (val m) (val d) := Nat.gcd_pos_of_pos_right _ h0
  have gl : Nat.gcd (val m) (val d) ≤ val d := Nat.le_of_dvd h0 (Nat.gcd_dvd_right _ _)
  have gb := bl_le_len wd gl
  have lg := len_bl gb
  have d1 := @RDiv_does G m (nat (Nat.gcd (val m) (val d))) (by omega) wm (by omega) (nat_ws _) (by rw [val_nat]; exact gp)
  have d2 := @RDiv_does G d (nat (Nat.gcd (val m) (val d))) (by omega) wd (by omega) (nat_ws _) (by rw [val_nat]; exact gp)
  rw [val_nat] at d1 d2
  have hv := bl_le_len wm (Nat.le_refl (val m))
  have hq := @IvMake G n (val m / Nat.gcd (val m) (val d)) (by have := bl_mono (Nat.div_le_self (val m) (Nat.gcd (val m) (val d))); omega)
  have e1 : sgn n (val m / Nat.gcd (val m) (val d)) = nz (sgn n (val m)) (val d) := by
    unfold nz
    rw [sgn_abs]
    have hdv : Nat.gcd (val m) (val d) ∣ val m := Nat.gcd_dvd_left _ _
    unfold sgn
    cases n with
    | true =>
      simp only [if_true]
      rw [Int.neg_ediv_of_dvd (Int.natCast_dvd_natCast.2 hdv), Int.natCast_ediv]
    | false => simp
  have e2 : val d / Nat.gcd (val m) (val d) = nd (sgn n (val m)) (val d) := by unfold nd; rw [sgn_abs]
  rw [e1] at hq
  rw [e2] at d2
  generalize nz (sgn n (val m)) (val d) = z' at *
  generalize nd (sgn n (val m)) (val d) = d' at *
  generalize val m / Nat.gcd (val m) (val d) = u at *
  generalize Nat.gcd (val m) (val d) = g at *
  refine Does.of (nt := 24) Tryz.func106 rfl rfl rfl (by simp) ?_
  simp only [argTm, PV.ext, Ce.ext]
  refine Do.seqk fun _ k1_ => ?_
  refine Do.region [1,2] true ?_
  simp [go_sem]
  apply k1_; clear k1_
  refine Do.seqk fun _ k2_ => ?_
  refine Do.region [1,2,3] true ?_
  simp [go_sem]
  repeat (refine And.intro (by first | omega | (intros; omega) | grind) ?_)
  refine DoL.call true 106 rfl rfl rfl rfl (by first | exact trivial | omega | (simp; done) | (simp; omega)) (hg) rfl (by first | exact .inl rfl | exact .inr rfl) rfl ?_
  simp [go_sem]
  apply k2_; clear k2_
  refine Do.seqk fun _ k3_ => ?_
  refine Do.draw [2] true (by kernel_rfl) ?_
  simp [go_sem]
  repeat (refine And.intro (by first | omega | (intros; omega) | kernel_rfl | grind) ?_)
  refine DoLD.call true 208 rfl rfl rfl rfl (by first | exact trivial | omega | (simp; done) | (simp; omega)) (d1) rfl (by first | exact .inl rfl | exact .inr rfl) rfl ?_
  simp [go_sem]
  refine DoLD.call true 209 rfl rfl rfl rfl (by first | exact trivial | omega | (simp; done) | (simp; omega)) (hq) rfl (by first | exact .inl rfl | exact .inr rfl) rfl ?_
  simp [go_sem]
  repeat (refine And.intro (by first | omega | (intros; omega) | kernel_rfl | grind) ?_)
  refine DoLD.call true 213 rfl rfl rfl rfl (by first | exact trivial | omega | (simp; done) | (simp; omega)) (d2) rfl (by first | exact .inl rfl | exact .inr rfl) rfl ?_
  simp [go_sem]
  repeat (refine And.intro (by first | omega | (intros; omega) | kernel_rfl | grind) ?_)
  try (refine And.intro (by kernel_rfl) ?_)
  apply k3_; clear k3_
  refine Do.ret ?_
  simp [endQ, rets, ret1, go_sem]
  repeat (refine And.intro (by first | omega | (intros; omega) | grind) ?_)
  exact TLe.v (PLe.qv rfl (PLe.refl _) (PLe.ext (.c (.w true _))))
/-- Is a quotient a number with a power of 2 below? -/
theorem quo_dyadic {n : Bool} {v d K : Nat} (hd : 0 < d) (hK : bl d ≤ K) :
    (quoS v d K = false → ∃ t, t ≤ K ∧ nd (sgn n v) d = 2 ^ t ∧ Dq K (nz (sgn n v) d) (2 ^ t) (sgn n (quoM v d K))) ∧ (quoS v d K = true → pc (nd (sgn n v) d) ≠ 1) := by
  have hsg : sgn n v * ((2 ^ K : Nat) : Int) = sgn n (v * 2 ^ K) := by
    unfold sgn
    cases n <;> simp [Int.natCast_mul, Int.neg_mul]
  constructor
  · intro h
    have h1 : v * 2 ^ K % d = 0 := by
      unfold quoS at h
      simpa using h
    have h2 : v * 2 ^ K = quoM v d K * d := by
      have := Nat.div_add_mod (v * 2 ^ K) d
      rw [h1, Nat.add_zero, Nat.mul_comm] at this
      exact this.symm
    have h3 : sgn n v * ((2 ^ K : Nat) : Int) = sgn n (quoM v d K) * (d : Int) := by
      rw [hsg, h2]
      unfold sgn
      cases n <;> simp [Int.natCast_mul, Int.neg_mul]
    have h4 := Dq.norm h3 hd
    have hdv : nd (sgn n v) d ∣ 2 ^ K := by
      have e := congrArg Int.natAbs h4.eq
      rw [Int.natAbs_mul, Int.natAbs_mul, Int.natAbs_natCast, Int.natAbs_natCast] at e
      have hc : Nat.Coprime (nd (sgn n v) d) (nz (sgn n v) d).natAbs := by rw [Nat.coprime_iff_gcd_eq_one, Nat.gcd_comm]; exact h4.cop
      exact hc.dvd_of_dvd_mul_left ⟨(sgn n (quoM v d K)).natAbs, by rw [e, Nat.mul_comm]⟩
    obtain ⟨t, ht, e⟩ := two_dvd18 hdv
    rw [e] at h4
    exact ⟨t, ht, e, h4⟩
  · intro h h1
    obtain ⟨t, ht⟩ := pcD_one h1
    have hm := nd_mul (sgn n v) d
    have hz := nz_mul (sgn n v) d
    have hle : 2 ^ t ≤ d := by
      rw [← ht]
      exact Nat.le_of_dvd hd ⟨_, hm.symm⟩
    have htb : t < bl d := (bl_le _ _).2 hle
    have hv : v = (nz (sgn n v) d).natAbs * Nat.gcd (sgn n v).natAbs d := by
      have := congrArg Int.natAbs hz
      rw [Int.natAbs_mul, Int.natAbs_natCast, sgn_abs] at this
      rw [sgn_abs]; exact this.symm
    rw [ht] at hm
    generalize (nz (sgn n v) d).natAbs = a at hv
    generalize Nat.gcd (sgn n v).natAbs d = g at *
    have h2 : v * 2 ^ K = d * (a * 2 ^ (K - t)) := by
      rw [hv, ← hm, show 2 ^ K = 2 ^ t * 2 ^ (K - t) by rw [← Nat.pow_add]; congr 1; omega]
      ac_rfl
    unfold quoS at h
    rw [h2, Nat.mul_mod_right] at h
    simp at h
theorem ROfD_yes {n : Bool} {m d : List Nat} {K : Nat} (hm : m.length ≤ 3000) (wm : Ws m) (hd : d.length ≤ 3000) (wd : Ws d) (h0 : 0 < val d) (hv : 0 < val m) (hK : bl (val d) ≤ K) (hs : quoS (val m) (val d) K = false) : Does Tryz.prog G 68 [Qw n m d] (.t [(restP (-(K : Int)) (sgn n (quoM (val m) (val d) K))).pw, .c (.b true)]) := by
  have hN := @QNormD G n m d (by omega) wm (by omega) wd h0
  obtain ⟨t, ht, e, h2⟩ := (@quo_dyadic n (val m) (val d) K h0 hK).1 hs
  have bv := bl_le_len wm (Nat.le_refl (val m))
  have bd := bl_le_len wd (Nat.le_refl (val d))
  have hz0 : nz (sgn n (val m)) (val d) ≠ 0 := by
    intro h
    have := nz_mul (sgn n (val m)) (val d)
    rw [h, Int.zero_mul] at this
    have := congrArg Int.natAbs this
    rw [sgn_abs] at this
    simp at this
    omega
  have hzb : bl (nz (sgn n (val m)) (val d)).natAbs ≤ 192000 := by
    rw [nz_abs, sgn_abs]
    have := bl_mono (Nat.div_le_self (val m) (Nat.gcd (val m) (val d)))
    omega
  have htb : t < 192001 := by
    have h3 := nd_mul (sgn n (val m)) (val d)
    have h4 : nd (sgn n (val m)) (val d) ≤ val d := Nat.le_of_dvd h0 ⟨_, h3.symm⟩
    rw [e] at h4
    have : t < bl (val d) := (bl_le _ _).2 h4
    omega
  rw [e] at hN
  rw [← of_rest18 h2 ht]
  have hB := @RBits18_does G t (by omega)
  generalize nz (sgn n (val m)) (val d) = z' at *
  have hS := @IvSign G z' (by omega)
  have hS : Does Tryz.prog G 131 [Qv z' (2 ^ t)] (.int .i64 z'.sign) := by
    generalize z'.sign = sg at *
    refine Does.of (nt := 6) Tryz.func131 rfl rfl rfl (by simp) ?_
    simp only [argTm, PV.ext, Ce.ext]
    refine Do.seqk fun _ k1_ => ?_
    refine Do.region [1] true ?_
    simp [go_sem]
    apply k1_; clear k1_
    refine Do.seqk fun _ k2_ => ?_
    refine Do.region [2] true ?_
    simp [go_sem]
    repeat (refine And.intro (by first | omega | (intros; omega) | grind) ?_)
    refine DoL.call true 103 rfl rfl rfl rfl (by first | exact trivial | omega | (simp; done) | (simp; omega)) (hS) rfl (by first | exact .inl rfl | exact .inr rfl) rfl ?_
    simp [go_sem]
    apply k2_; clear k2_
    refine Do.ret ?_
    simp [endQ, rets, ret1, go_sem]
    repeat (refine And.intro (by first | omega | (intros; omega) | grind) ?_)
    exact TLe.refl _
  unfold restP
  rw [if_neg hz0]
  have hs : (z'.sign == 0) = false := by
    rw [beq_eq_false_iff_ne, ne_eq, Int.sign_eq_zero_iff_zero]; exact hz0
  have hl := len_bl hzb
  have htz := tz_lt_bl (show 0 < z'.natAbs by omega)
  have hcan : (canon ⟨1, decide (z' < 0), -(t : Int), z'.natAbs⟩).2 = true := by
    unfold canon
    rw [if_neg (by simp only []; omega), if_neg (by simp only []; omega), if_pos rfl, if_neg (by simp only []; omega)]
    simp only [decide_eq_true_eq]
    omega
  have hG := @Good_does G 1 (-(t : Int)) (decide (z' < 0)) (nat z'.natAbs) (by omega) (nat_ws _)
  rw [val_nat, hcan] at hG
  have hC := @Canonical_new G 1 (-(t : Int)) (decide (z' < 0)) (nat z'.natAbs) (by omega) (nat_ws _) (by constructor <;> omega)
  rw [val_nat] at hC
  generalize rcanon ⟨1, decide (z' < 0), -(t : Int), z'.natAbs⟩ = y at *
  generalize z'.sign = sg at *
  refine Does.of (nt := 37) Tryz.func68 rfl rfl rfl (by simp) ?_
  simp only [argTm, PV.ext, Ce.ext]
  refine Do.seqk fun _ k1_ => ?_
  refine Do.region [1,2] true ?_
  simp [go_sem]
  apply k1_; clear k1_
  refine Do.seqk fun _ k2_ => ?_
  refine Do.region [1,2] true ?_
  simp [go_sem]
  repeat (refine And.intro (by first | omega | (intros; omega) | grind) ?_)
  refine DoL.call true 102 rfl rfl rfl rfl (by first | exact trivial | omega | (simp; done) | (simp; omega)) (hN) rfl (by first | exact .inl rfl | exact .inr rfl) rfl ?_
  simp [go_sem]
  repeat (refine And.intro (by first | omega | (intros; omega) | grind) ?_)
  apply k2_; clear k2_
  refine Do.seqk fun _ k3_ => ?_
  refine Do.seqk fun _ k4_ => ?_
  refine Do.region [1,2,11] true ?_
  simp [go_sem]
  repeat (refine And.intro (by first | omega | (intros; omega) | grind) ?_)
  refine DoL.call true 202 rfl rfl rfl rfl (by first | exact trivial | omega | (simp; done) | (simp; omega)) (hS) rfl (by first | exact .inl rfl | exact .inr rfl) rfl ?_
  simp [go_sem]
  apply k4_; clear k4_
  refine Do.cond [1,2] rfl (fun g => ?_) (fun g => ?_) <;> simp [go_sem, hs] at g ⊢
  refine Do.skip ?_
  simp [go_sem]
  apply k3_; clear k3_
  refine Do.seqk fun _ k5_ => ?_
  refine Do.region [1,2,4,5] true ?_
  simp [go_sem, hs]
  repeat (refine And.intro (by first | omega | (intros; omega) | grind) ?_)
  refine DoL.call true 403 rfl rfl rfl rfl (by first | exact trivial | omega | (simp; done) | (simp; omega)) (hB) rfl (by first | exact .inl rfl | exact .inr rfl) rfl ?_
  simp [go_sem, hs]
  apply k5_; clear k5_
  refine Do.seqk fun _ k6_ => ?_
  refine Do.seqk fun _ k7_ => ?_
  refine Do.region [1,2,4,20] true ?_
  simp [go_sem, hs]
  apply k7_; clear k7_
  refine Do.cond [1,2,4] rfl (fun g2 => ?_) (fun g2 => ?_) <;> simp [go_sem, hs] at g2 ⊢
  refine Do.skip ?_
  simp [go_sem]
  apply k6_; clear k6_
  refine Do.seqk fun _ k8_ => ?_
  refine Do.region [2,6] true ?_
  simp [go_sem, hs]
  repeat (refine And.intro (by first | omega | (intros; omega) | grind) ?_)
  apply k8_; clear k8_
  refine Do.seqk fun _ k9_ => ?_
  refine Do.seqk fun _ k10_ => ?_
  refine Do.region [2,6,33] true ?_
  simp [go_sem, hs]
  repeat (refine And.intro (by first | omega | (intros; omega) | grind) ?_)
  refine DoL.call true 802 rfl rfl rfl rfl (by first | exact trivial | omega | (simp; done) | (simp; omega)) (hG) rfl (by first | exact .inl rfl | exact .inr rfl) rfl ?_
  simp [go_sem, hs]
  repeat (refine And.intro (by first | omega | (intros; omega) | grind) ?_)
  apply k10_; clear k10_
  refine Do.cond [2,6] rfl (fun g3 => ?_) (fun g3 => ?_) <;> simp [go_sem, hs] at g3 ⊢
  refine Do.skip ?_
  simp [go_sem]
  apply k9_; clear k9_
  refine Do.seqk fun _ k11_ => ?_
  refine Do.region [2,3] true ?_
  simp [go_sem, hs]
  repeat (refine And.intro (by first | omega | (intros; omega) | grind) ?_)
  refine DoL.call true 1002 rfl rfl rfl rfl (by first | exact trivial | omega | (simp; done) | (simp; omega)) (hC) rfl (by first | exact .inl rfl | exact .inr rfl) rfl ?_
  simp [go_sem, hs]
  repeat (refine And.intro (by first | omega | (intros; omega) | grind) ?_)
  apply k11_; clear k11_
  refine Do.ret ?_
  simp [endQ, rets, ret1, go_sem, hs]
  repeat (refine And.intro (by first | omega | (intros; omega) | grind) ?_)
  exact TLe.refl _
theorem ROfD_no {n : Bool} {m d : List Nat} {K : Nat} (hm : m.length ≤ 3000) (wm : Ws m) (hd : d.length ≤ 3000) (wd : Ws d) (h0 : 0 < val d) (hv : 0 < val m) (hK : bl (val d) ≤ K) (hs : quoS (val m) (val d) K = true) : Does Tryz.prog G 68 [Qw n m d] (.t [(Flt.mk 0 false 0 0).pw, .c (.b false)]) := by
  have hN := @QNormD G n m d (by omega) wm (by omega) wd h0
  have h2 := (@quo_dyadic n (val m) (val d) K h0 hK).2 hs
  have bd := bl_le_len wd (Nat.le_refl (val d))
  have hz0 : nz (sgn n (val m)) (val d) ≠ 0 := by
    intro h
    have := nz_mul (sgn n (val m)) (val d)
    rw [h, Int.zero_mul] at this
    have := congrArg Int.natAbs this
    rw [sgn_abs] at this
    simp at this
    omega
  have bv := bl_le_len wm (Nat.le_refl (val m))
  have hzb : bl (nz (sgn n (val m)) (val d)).natAbs ≤ 192000 := by
    rw [nz_abs, sgn_abs]
    have := bl_mono (Nat.div_le_self (val m) (Nat.gcd (val m) (val d)))
    omega
  have hdb : bl (nd (sgn n (val m)) (val d)) ≤ 192000 := by
    have h3 := nd_mul (sgn n (val m)) (val d)
    have h4 : nd (sgn n (val m)) (val d) ≤ val d := Nat.le_of_dvd h0 ⟨_, h3.symm⟩
    have := bl_mono h4
    omega
  have hB := @Bits_does G (nat (nd (sgn n (val m)) (val d))) (by have := len_bl hdb; omega) (nat_ws _)
  rw [val_nat] at hB
  have hne : ¬ ((pc (nd (sgn n (val m)) (val d)) : Nat) : Int) = 1 := by omega
  generalize nz (sgn n (val m)) (val d) = z' at *
  generalize nd (sgn n (val m)) (val d) = d' at *
  have hS := @IvSign G z' (by omega)
  have hS : Does Tryz.prog G 131 [Qv z' d'] (.int .i64 z'.sign) := by
    generalize z'.sign = sg at *
    refine Does.of (nt := 6) Tryz.func131 rfl rfl rfl (by simp) ?_
    simp only [argTm, PV.ext, Ce.ext]
    refine Do.seqk fun _ k1_ => ?_
    refine Do.region [1] true ?_
    simp [go_sem]
    apply k1_; clear k1_
    refine Do.seqk fun _ k2_ => ?_
    refine Do.region [2] true ?_
    simp [go_sem]
    repeat (refine And.intro (by first | omega | (intros; omega) | grind) ?_)
    refine DoL.call true 103 rfl rfl rfl rfl (by first | exact trivial | omega | (simp; done) | (simp; omega)) (hS) rfl (by first | exact .inl rfl | exact .inr rfl) rfl ?_
    simp [go_sem]
    apply k2_; clear k2_
    refine Do.ret ?_
    simp [endQ, rets, ret1, go_sem]
    repeat (refine And.intro (by first | omega | (intros; omega) | grind) ?_)
    exact TLe.refl _
  have hs : (z'.sign == 0) = false := by
    rw [beq_eq_false_iff_ne, ne_eq, Int.sign_eq_zero_iff_zero]; exact hz0
  generalize z'.sign = sg at *
  generalize pc d' = o at *
  generalize tz d' = tt at *
  refine Does.of (nt := 37) Tryz.func68 rfl rfl rfl (by simp) ?_
  simp only [argTm, PV.ext, Ce.ext]
  refine Do.seqk fun _ k1_ => ?_
  refine Do.region [1,2] true ?_
  simp [go_sem]
  apply k1_; clear k1_
  refine Do.seqk fun _ k2_ => ?_
  refine Do.region [1,2] true ?_
  simp [go_sem]
  repeat (refine And.intro (by first | omega | (intros; omega) | grind) ?_)
  refine DoL.call true 102 rfl rfl rfl rfl (by first | exact trivial | omega | (simp; done) | (simp; omega)) (hN) rfl (by first | exact .inl rfl | exact .inr rfl) rfl ?_
  simp [go_sem]
  repeat (refine And.intro (by first | omega | (intros; omega) | grind) ?_)
  apply k2_; clear k2_
  refine Do.seqk fun _ k3_ => ?_
  refine Do.seqk fun _ k4_ => ?_
  refine Do.region [1,2,11] true ?_
  simp [go_sem]
  repeat (refine And.intro (by first | omega | (intros; omega) | grind) ?_)
  refine DoL.call true 202 rfl rfl rfl rfl (by first | exact trivial | omega | (simp; done) | (simp; omega)) (hS) rfl (by first | exact .inl rfl | exact .inr rfl) rfl ?_
  simp [go_sem]
  apply k4_; clear k4_
  refine Do.cond [1,2] rfl (fun g => ?_) (fun g => ?_) <;> simp [go_sem, hs] at g ⊢
  refine Do.skip ?_
  simp [go_sem]
  apply k3_; clear k3_
  refine Do.seqk fun _ k5_ => ?_
  refine Do.region [1,2,4,5] true ?_
  simp [go_sem, hs]
  repeat (refine And.intro (by first | omega | (intros; omega) | grind) ?_)
  refine DoL.call true 403 rfl rfl rfl rfl (by first | exact trivial | omega | (simp; done) | (simp; omega)) (hB) rfl (by first | exact .inl rfl | exact .inr rfl) rfl ?_
  simp [go_sem, hs]
  apply k5_; clear k5_
  refine Do.seqk fun _ k6_ => ?_
  refine Do.seqk fun _ k7_ => ?_
  refine Do.region [1,2,4,20] true ?_
  simp [go_sem, hne]
  apply k7_; clear k7_
  refine Do.cond [1,2,4] rfl (fun g2 => ?_) (fun g2 => ?_) <;> simp [go_sem, hne] at g2 ⊢
  refine Do.seqk fun _ k8_ => ?_
  refine Do.region [2,3] true ?_
  simp [go_sem, hne]
  repeat (refine And.intro (by first | omega | (intros; omega) | grind) ?_)
  apply k8_; clear k8_
  refine Do.ret ?_
  simp [endQ, rets, ret1, go_sem, hne]
  repeat (refine And.intro (by first | omega | (intros; omega) | grind) ?_)
  exact TLe.t (.cons (PLe.flw (ret_zw rfl)) (.cons (PLe.refl _) .nil))
theorem ROfD_zero {n : Bool} {m d : List Nat} (hm : m.length ≤ 3000) (wm : Ws m) (hd : d.length ≤ 3000) (wd : Ws d) (h0 : 0 < val d) (hv : val m = 0) : Does Tryz.prog G 68 [Qw n m d] (.t [(Flt.mk 0 false 0 0).pw, .c (.b true)]) := by
  have hN := @QNormD G n m d (by omega) wm (by omega) wd h0
  have hz0 : nz (sgn n (val m)) (val d) = 0 := by
    rw [hv]
    unfold nz sgn
    cases n <;> simp
  rw [hz0] at hN
  generalize nd (sgn n (val m)) (val d) = d' at *
  have hS : Does Tryz.prog G 131 [Qv 0 d'] (.int .i64 0) := by
    have hS : Does Tryz.prog G 117 [Iv 0] (.int .i64 0) := @IvSign G 0 (by decide)
    refine Does.of (nt := 6) Tryz.func131 rfl rfl rfl (by simp) ?_
    simp only [argTm, PV.ext, Ce.ext]
    refine Do.seqk fun _ k1_ => ?_
    refine Do.region [1] true ?_
    simp [go_sem]
    apply k1_; clear k1_
    refine Do.seqk fun _ k2_ => ?_
    refine Do.region [2] true ?_
    simp [go_sem]
    repeat (refine And.intro (by first | omega | (intros; omega) | grind) ?_)
    refine DoL.call true 103 rfl rfl rfl rfl (by first | exact trivial | omega | (simp; done) | (simp; omega)) (hS) rfl (by first | exact .inl rfl | exact .inr rfl) rfl ?_
    simp [go_sem]
    apply k2_; clear k2_
    refine Do.ret ?_
    simp [endQ, rets, ret1, go_sem]
    repeat (refine And.intro (by first | omega | (intros; omega) | grind) ?_)
    exact TLe.refl _
  refine Does.of (nt := 37) Tryz.func68 rfl rfl rfl (by simp) ?_
  simp only [argTm, PV.ext, Ce.ext]
  refine Do.seqk fun _ k1_ => ?_
  refine Do.region [1,2] true ?_
  simp [go_sem]
  apply k1_; clear k1_
  refine Do.seqk fun _ k2_ => ?_
  refine Do.region [1,2] true ?_
  simp [go_sem]
  repeat (refine And.intro (by first | omega | (intros; omega) | grind) ?_)
  refine DoL.call true 102 rfl rfl rfl rfl (by first | exact trivial | omega | (simp; done) | (simp; omega)) (hN) rfl (by first | exact .inl rfl | exact .inr rfl) rfl ?_
  simp [go_sem]
  repeat (refine And.intro (by first | omega | (intros; omega) | grind) ?_)
  apply k2_; clear k2_
  refine Do.seqk fun _ k3_ => ?_
  refine Do.seqk fun _ k4_ => ?_
  refine Do.region [1,2,11] true ?_
  simp [go_sem]
  repeat (refine And.intro (by first | omega | (intros; omega) | grind) ?_)
  refine DoL.call true 202 rfl rfl rfl rfl (by first | exact trivial | omega | (simp; done) | (simp; omega)) (hS) rfl (by first | exact .inl rfl | exact .inr rfl) rfl ?_
  simp [go_sem]
  apply k4_; clear k4_
  refine Do.cond [1,2] rfl (fun g => ?_) (fun g => ?_) <;> simp [go_sem] at g ⊢
  refine Do.seqk fun _ k5_ => ?_
  refine Do.region [2,3] true ?_
  simp [go_sem]
  repeat (refine And.intro (by first | omega | (intros; omega) | grind) ?_)
  apply k5_; clear k5_
  refine Do.ret ?_
  simp [endQ, rets, ret1, go_sem]
  repeat (refine And.intro (by first | omega | (intros; omega) | grind) ?_)
  exact TLe.t (.cons (PLe.flw (ret_zw rfl)) (.cons (PLe.refl _) .nil))
end Go.Proofs.YtokgalpflooegaaGreatDoor
