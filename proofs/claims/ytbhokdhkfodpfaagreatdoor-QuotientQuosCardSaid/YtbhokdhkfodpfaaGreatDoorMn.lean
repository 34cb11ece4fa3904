/- Integer roots by Newton's steps: the walk. No condition. Quotients of floats, by the program. No condition. -/
import Derived.Test.YtbhokdhkfodpfaaGreatDoorMm
import Derived.Test.YtbhokdhkfodpfaaGreatDoorMl
import Derived.Test.YtbhokdhkfodpfaaGreatDoorMi
/- Integer roots by Newton's steps: the walk. No condition. -/
namespace Go.Proofs.YtbhokdhkfodpfaaGreatDoor
set_option linter.unusedVariables false
set_option linter.unusedSimpArgs false
set_option maxHeartbeats 8000000
set_option maxRecDepth 10000
theorem pow_small {a t k B : Nat} (ha : a ≤ 2 ^ t) (h : t * k ≤ B) {j : Nat} (hj : j ≤ k) : bl (a ^ j) ≤ B + 1 := by
  have h1 := Nat.pow_le_pow_left ha j
  rw [← Nat.pow_mul] at h1
  have h2 : t * j ≤ t * k := Nat.mul_le_mul_left _ hj
  have h3 : 2 ^ (t * j) ≤ 2 ^ B := Nat.pow_le_pow_right (by decide) (by omega)
  rw [bl_lt]
  have : 2 ^ B < 2 ^ (B + 1) := Nat.pow_lt_pow_right (by decide) (by omega)
  omega
theorem WRoot_does {x : List Nat} {k r : Nat} (hx : x.length ≤ 4500) (wx : Ws x) (hk : 2 ≤ k) (hk2 : k ≤ 16) (h0 : 0 < val x) (h1 : r ^ k ≤ val x) (h2 : val x < (r + 1) ^ k) : Does Tryz.prog Gv 117 [Wd x, .c (.i .i64 k)] (.t [Wn (nat r), .c (.b (decide (r ^ k = val x)))]) := by
  have hbx := bl_le_len wx (Nat.le_refl (val x))
  have hZ := @Zero_does Gv x (by unfold Sh; omega)
  rw [decide_eq_false (by omega)] at hZ
  have hL := @Len_does Gv x (by unfold Sh; omega) wx
  obtain ⟨t, ht⟩ : ∃ t, (bl (val x) + k - 1) / k = t := ⟨_, rfl⟩
  have htk : t * k ≤ bl (val x) + k - 1 := by rw [← ht]; exact Nat.div_mul_le_self _ _
  have htd : ((bl (val x) : Int) + k - 1) / k = t := by
    rw [← ht, Int.natCast_ediv]; congr 1; omega
  have htd2 : ((bl (val x) : Int) + k - 1).tdiv k = t := by
    rw [Int.tdiv_eq_ediv_of_nonneg (by omega)]; exact htd
  have hst := root_start (show 1 ≤ k by omega) h1
  rw [ht] at hst
  have htb : t ≤ 300000 := by
    have : t * 1 ≤ t * k := Nat.mul_le_mul_left _ (by omega)
    omega
  have hS := @Shl_does Gv [1] (by decide) (fun w hw => by simp at hw; omega) t (by simp; omega)
  rw [show val [1] = 1 from rfl, Nat.one_mul] at hS
  have hsm : ∀ a, a ≤ 2 ^ t → ∀ j, j ≤ k → bl (a ^ j) ≤ 300000 := fun a ha j hj => by
    have := @pow_small a t k _ ha htk j hj
    omega
  have hsm1 : ∀ a, a ≤ 2 ^ t → bl a ≤ 300000 := fun a ha => by
    have := hsm a ha 1 (by omega)
    rwa [Nat.pow_one] at this
  have hW1 := @WWord_does Gv (k - 1) (by omega)
  have hW2 := @WWord_does Gv k (by omega)
  have hkI : (k : Int) - 1 = ((k - 1 : Nat) : Int) := by omega
  have hr0 : r ≤ 2 ^ t := by omega
  have hpr := @WPow_does r k
  have key : ∀ a : Nat, r ≤ a → a ≤ 2 ^ t → 0 < a →
      Does Tryz.prog Gv 149 [Wd (nat a), .c (.i .i64 ((k - 1 : Nat) : Int))] (.v (Wn (nat (a ^ (k - 1))))) ∧
      Does Tryz.prog Gv 108 [Wd x, Wd (nat (a ^ (k - 1)))] (.t [Wn (nat (val x / a ^ (k - 1))), Wn (nat (val x % a ^ (k - 1)))]) ∧
      Does Tryz.prog Gv 123 [Wd (nat a), Wd (nat (k - 1))] (.v (Wn (nat (a * (k - 1))))) ∧
      Does Tryz.prog Gv 120 [Wd (nat (a * (k - 1))), Wd (nat (val x / a ^ (k - 1)))] (.v (Wn (nat (a * (k - 1) + val x / a ^ (k - 1))))) ∧
      Does Tryz.prog Gv 108 [Wd (nat (a * (k - 1) + val x / a ^ (k - 1))), Wd (nat k)] (.t [Wn (nat ((a * (k - 1) + val x / a ^ (k - 1)) / k)), Wn (nat ((a * (k - 1) + val x / a ^ (k - 1)) % k))]) ∧
      Does Tryz.prog Gv 121 [Wd (nat ((a * (k - 1) + val x / a ^ (k - 1)) / k)), Wd (nat a)] (.int .i64 (if (a * (k - 1) + val x / a ^ (k - 1)) / k < a then -1 else if a < (a * (k - 1) + val x / a ^ (k - 1)) / k then 1 else 0)) := by
    intro a hra hat ha
    have b1 := hsm a hat (k - 1) (by omega)
    have b2 := hsm1 a hat
    have la := len_bl b2
    have lp := len_bl b1
    have hp : 0 < a ^ (k - 1) := Nat.pow_pos ha
    have P := @WPow_does a (k - 1) ha (by omega) (by omega)
    have D1 := @WDivMod_does Gv x (nat (a ^ (k - 1))) (by omega) wx (by omega) (nat_ws _) (by rw [val_nat]; exact hp)
    rw [val_nat] at D1
    have bq := bl_mono (Nat.div_le_self (val x) (a ^ (k - 1)))
    have lq := len_bl (show bl (val x / a ^ (k - 1)) ≤ 300000 by omega)
    have lk := len_bl (show bl (k - 1) ≤ 5 by rw [bl_lt]; omega)
    have lk2 := len_bl (show bl k ≤ 5 by rw [bl_lt]; omega)
    have M := @WMul_does Gv (nat a) (nat (k - 1)) (by omega) (by omega) (nat_ws _) (nat_ws _)
    rw [val_nat, val_nat] at M
    have bk : bl (k - 1) ≤ 5 := by rw [bl_lt]; omega
    have bm : bl (a * (k - 1)) ≤ 300005 := by
      have := bl_mul_le a (k - 1)
      omega
    have lm := len_bl bm
    have A := @Add_does Gv (nat (a * (k - 1))) (nat (val x / a ^ (k - 1))) (by unfold Sh; omega) (by unfold Sh; omega) (nat_ws _) (nat_ws _) (by omega) (by omega)
    rw [val_nat, val_nat] at A
    have bs := bl_add_le (a * (k - 1)) (val x / a ^ (k - 1)) 300005 bm (by omega)
    have ls := len_bl bs
    have D2 := @WDivMod_does Gv (nat (a * (k - 1) + val x / a ^ (k - 1))) (nat k) (by omega) (nat_ws _) (by omega) (nat_ws _) (by rw [val_nat]; omega)
    rw [val_nat, val_nat] at D2
    have bn := Nat.le_trans (bl_mono (Nat.div_le_self (a * (k - 1) + val x / a ^ (k - 1)) k)) bs
    have lnn := len_bl bn
    have C := @Cmp_does Gv (nat ((a * (k - 1) + val x / a ^ (k - 1)) / k)) (nat a) (by unfold Sh; omega) (by unfold Sh; omega) (nat_ws _) (nat_ws _)
    rw [val_nat, val_nat] at C
    exact ⟨P, D1, M, A, D2, C⟩
  have hstep : ∀ a, r ≤ a → 0 < a → r ≤ (a * (k - 1) + val x / a ^ (k - 1)) / k ∧ (r < a → (a * (k - 1) + val x / a ^ (k - 1)) / k < a) := fun a hra ha => ⟨step_root (by omega) ha h1 hra, fun h => step_down (by omega) h2 h⟩
  have hr1 : 0 < r := by
    apply Nat.pos_of_ne_zero
    intro h
    rw [h, Nat.zero_add, Nat.one_pow] at h2
    omega
  have hend : Does Tryz.prog Gv 149 [Wd (nat r), .c (.i .i64 k)] (.v (Wn (nat (r ^ k)))) := hpr hr1 (by have := hsm r hr0 k (Nat.le_refl k); omega) (by omega)
  have hbr := hsm r hr0 k (Nat.le_refl k)
  have lrk := len_bl hbr
  have hCe := @Cmp_does Gv (nat (r ^ k)) x (by unfold Sh; omega) (by unfold Sh; omega) (nat_ws _) wx
  rw [val_nat] at hCe
  have hdec : decide (r ^ k = val x) = ((if r ^ k < val x then (-1 : Int) else if val x < r ^ k then 1 else 0) == 0) := by
    by_cases h : r ^ k = val x
    · rw [decide_eq_true h, if_neg (by omega), if_neg (by omega)]; rfl
    · rw [decide_eq_false h, if_pos (by omega)]; rfl
  rw [hdec]
  clear hdec hsm hsm1 hpr
  generalize (if r ^ k < val x then (-1 : Int) else if val x < r ^ k then 1 else 0) = ce at *
  have hp2 := two_pos' t
  generalize 2 ^ t = A0 at *
  have hkb : (k : Int) ≤ 16 := by omega
  refine Does.of (nt := 58) Tryz.func117 rfl rfl rfl (by simp) ?_
  simp only [argTm, PV.ext, Ce.ext]
  refine Do.seqk fun _ k1_ => ?_
  refine Do.region [0,1] true ?_
  simp [go_sem]
  apply k1_; clear k1_
  refine Do.seqk fun _ k2_ => ?_
  refine Do.seqk fun _ k3_ => ?_
  refine Do.region [0,1,12] true ?_
  simp [go_sem]
  refine DoL.call true 102 rfl rfl rfl rfl (by first | exact trivial | omega | (simp; done) | (simp; omega)) (hZ) rfl (by first | exact .inl rfl | exact .inr rfl) rfl ?_
  simp [go_sem]
  apply k3_; clear k3_
  refine Do.cond [0,1] rfl (fun g1 => ?_) (fun g1 => ?_) <;> simp [go_sem] at g1 ⊢
  refine Do.skip ?_
  simp [go_sem]
  apply k2_; clear k2_
  refine Do.seqk fun _ k4_ => ?_
  refine Do.region [0,1,6] true ?_
  simp [go_sem, htd, htd2, hkI]
  refine DoL.call true 303 rfl rfl rfl rfl (by first | exact trivial | omega | (simp; done) | (simp; omega)) (hL) rfl (by first | exact .inl rfl | exact .inr rfl) rfl ?_
  simp [go_sem, htd, htd2, hkI]
  repeat (refine And.intro (by first | omega | (intros; omega) | grind) ?_)
  refine DoL.call true 309 rfl rfl rfl rfl (by first | exact trivial | omega | (simp; done) | (simp; omega)) (hS) rfl (by first | exact .inl rfl | exact .inr rfl) rfl ?_
  simp [go_sem, htd, htd2, hkI]
  apply k4_; clear k4_
  refine Do.seqk fun _ k5_ => ?_
  refine Do.block ?_
  refine Do.loopF [0,1,6] (fun (a : Nat) => [(6, .v (Wn (nat a)))]) (fun (a : Nat) => []) (fun (a : Nat) => r ≤ a ∧ a ≤ A0) (fun (a : Nat) => a) (A0) (fun _ => by first | (simp [go_sem, mixS]; done) | (simp [go_sem, mixS]; rfl)) (St.le_of (by first | rfl | simp [keep]) (by first | rfl | simp [keep])) (⟨by omega, Nat.le_refl _⟩) ?_
  rintro a ⟨hra, hat⟩
  obtain ⟨P, D1, M, A, D2, C⟩ := key a hra hat (by omega)
  obtain ⟨s1, s2⟩ := hstep a hra (by omega)
  generalize (a * (k - 1) + val x / a ^ (k - 1)) / k = nx at *
  generalize (a * (k - 1) + val x / a ^ (k - 1)) % k = ny at *
  generalize a * (k - 1) + val x / a ^ (k - 1) = nz0 at *
  generalize val x / a ^ (k - 1) = qq at *
  generalize val x % a ^ (k - 1) = rr at *
  generalize a ^ (k - 1) = pp at *
  refine Do.block ?_
  refine Do.seqk fun _ k6_ => ?_
  refine Do.region [0,1,6,7] true ?_
  simp [go_sem, hkI, htd, htd2]
  repeat (refine And.intro (by first | omega | (intros; omega) | grind) ?_)
  refine DoL.call true 405 rfl rfl rfl rfl (by first | exact trivial | omega | (simp; done) | (simp; omega)) (P) rfl (by first | exact .inl rfl | exact .inr rfl) rfl ?_
  simp [go_sem, hkI, htd, htd2]
  refine DoL.call true 406 rfl rfl rfl rfl (by first | exact trivial | omega | (simp; done) | (simp; omega)) (D1) rfl (by first | exact .inl rfl | exact .inr rfl) rfl ?_
  simp [go_sem, hkI, htd, htd2]
  apply k6_; clear k6_
  refine Do.seqk fun _ k7_ => ?_
  refine Do.region [0,1,6,9] true ?_
  simp [go_sem, hkI, htd, htd2]
  repeat (refine And.intro (by first | omega | (intros; omega) | grind) ?_)
  refine DoL.call true 505 rfl rfl rfl rfl (by first | exact trivial | omega | (simp; done) | (simp; omega)) (hW1) rfl (by first | exact .inl rfl | exact .inr rfl) rfl ?_
  simp [go_sem, hkI, htd, htd2]
  refine DoL.call true 506 rfl rfl rfl rfl (by first | exact trivial | omega | (simp; done) | (simp; omega)) (M) rfl (by first | exact .inl rfl | exact .inr rfl) rfl ?_
  simp [go_sem, hkI, htd, htd2]
  refine DoL.call true 508 rfl rfl rfl rfl (by first | exact trivial | omega | (simp; done) | (simp; omega)) (A) rfl (by first | exact .inl rfl | exact .inr rfl) rfl ?_
  simp [go_sem, hkI, htd, htd2]
  repeat (refine And.intro (by first | omega | (intros; omega) | grind) ?_)
  refine DoL.call true 511 rfl rfl rfl rfl (by first | exact trivial | omega | (simp; done) | (simp; omega)) (hW2) rfl (by first | exact .inl rfl | exact .inr rfl) rfl ?_
  simp [go_sem, hkI, htd, htd2]
  refine DoL.call true 512 rfl rfl rfl rfl (by first | exact trivial | omega | (simp; done) | (simp; omega)) (D2) rfl (by first | exact .inl rfl | exact .inr rfl) rfl ?_
  simp [go_sem, hkI, htd, htd2]
  apply k7_; clear k7_
  refine Do.seqk fun _ k8_ => ?_
  refine Do.seqk fun _ k9_ => ?_
  refine Do.region [0,1,6,9,49] true ?_
  simp [go_sem, hkI, htd, htd2]
  refine DoL.call true 603 rfl rfl rfl rfl (by first | exact trivial | omega | (simp; done) | (simp; omega)) (C) rfl (by first | exact .inl rfl | exact .inr rfl) rfl ?_
  simp [go_sem, hkI, htd, htd2]
  apply k9_; clear k9_
  refine Do.cond [0,1,6,9] rfl (fun g2 => ?_) (fun g2 => ?_) <;> simp [go_sem, hkI, htd, htd2] at g2 ⊢
  · have hc : a ≤ nx := by
      apply Nat.le_of_not_lt
      intro h
      simp [h] at g2
    obtain rfl : a = r := by
      apply Classical.byContradiction
      intro h
      have := s2 (by omega)
      omega
    refine Do.exit ?_
    simp [go_sem]
    apply k5_; clear k5_
    refine Do.seqk fun _ k10_ => ?_
    refine Do.region [4,5] true ?_
    simp [go_sem, hkI, htd, htd2]
    refine DoL.call true 804 rfl rfl rfl rfl (by first | exact trivial | omega | (simp; done) | (simp; omega)) (hend) rfl (by first | exact .inl rfl | exact .inr rfl) rfl ?_
    simp [go_sem, hkI, htd, htd2]
    refine DoL.call true 806 rfl rfl rfl rfl (by first | exact trivial | omega | (simp; done) | (simp; omega)) (hCe) rfl (by first | exact .inl rfl | exact .inr rfl) rfl ?_
    simp [go_sem, hkI, htd, htd2]
    apply k10_; clear k10_
    refine Do.ret ?_
    simp [endQ, rets, ret1, go_sem, hkI, htd, htd2]
    repeat (refine And.intro (by first | omega | (intros; omega) | grind) ?_)
    exact TLe.refl _
  · have hc : nx < a := by
      apply Nat.lt_of_not_le
      intro h
      rw [if_neg (by omega)] at g2
      split at g2 <;> omega
    refine Do.skip ?_
    simp [go_sem]
    apply k8_; clear k8_
    refine Do.region [0,1,6] true ?_
    simp [go_sem, hkI, htd, htd2]
    refine ⟨nx, St.le_of (by first | rfl | simp [keep]) (by first | rfl | simp [keep]), ⟨s1, by omega⟩, by simp; omega⟩
end Go.Proofs.YtbhokdhkfodpfaaGreatDoor
/- Quotients of floats, by the program. No condition. -/
namespace Go.Proofs.YtbhokdhkfodpfaaGreatDoor
set_option linter.unusedVariables false
set_option linter.unusedSimpArgs false
set_option maxHeartbeats 8000000
set_option maxRecDepth 10000
theorem Special_fin {xn yn : Bool} {xe ye : Int} {xm ym : List Nat} : Does Tryz.prog Gv 69 [Fl 1 xn xe xm, Fl 1 yn ye ym] (.t [Flt.pv ⟨0, false, 0, 0⟩, .c (.i .i64 0), .c (.b false)]) := by
  refine Does.of (nt := 59) Tryz.func69 rfl rfl rfl (by simp) ?_
  simp only [argTm, PV.ext, Ce.ext]
  refine Do.seqk fun _ k1_ => ?_
  refine Do.region [2,3,4] true ?_
  simp [go_sem]
  apply k1_; clear k1_
  refine Do.seqk fun _ k2_ => ?_
  refine Do.region [2,3,4,7] true ?_
  simp [go_sem]
  repeat (refine And.intro (by first | omega | (intros; omega) | grind) ?_)
  apply k2_; clear k2_
  refine Do.seqk fun _ k3_ => ?_
  refine Do.block ?_
  refine Do.seqk fun _ k4_ => ?_
  refine Do.region [2,3,4,7,13] true ?_
  simp [go_sem]
  repeat (refine And.intro (by first | omega | (intros; omega) | grind) ?_)
  apply k4_; clear k4_
  refine Do.cond [2,3,4,7] rfl (fun g1 => ?_) (fun g1 => ?_) <;> simp [go_sem] at g1 ⊢
  refine Do.seqk fun _ k5_ => ?_
  refine Do.region [2,3,4,7,23] true ?_
  simp [go_sem]
  repeat (refine And.intro (by first | omega | (intros; omega) | grind) ?_)
  apply k5_; clear k5_
  refine Do.cond [2,3,4,7] rfl (fun g2 => ?_) (fun g2 => ?_) <;> simp [go_sem] at g2 ⊢
  refine Do.seqk fun _ k6_ => ?_
  refine Do.region [2,3,4,7,35] true ?_
  simp [go_sem]
  repeat (refine And.intro (by first | omega | (intros; omega) | grind) ?_)
  apply k6_; clear k6_
  refine Do.cond [2,3,4,7] rfl (fun g3 => ?_) (fun g3 => ?_) <;> simp [go_sem] at g3 ⊢
  refine Do.seqk fun _ k7_ => ?_
  refine Do.region [3,4,7,41] true ?_
  simp [go_sem]
  repeat (refine And.intro (by first | omega | (intros; omega) | grind) ?_)
  apply k7_; clear k7_
  refine Do.cond [3,4,7] rfl (fun g4 => ?_) (fun g4 => ?_) <;> simp [go_sem] at g4 ⊢
  refine Do.seqk fun _ k8_ => ?_
  refine Do.region [4,7,52] true ?_
  simp [go_sem]
  repeat (refine And.intro (by first | omega | (intros; omega) | grind) ?_)
  apply k8_; clear k8_
  refine Do.cond [4,7] rfl (fun g5 => ?_) (fun g5 => ?_) <;> simp [go_sem] at g5 ⊢
  refine Do.skip ?_
  simp [go_sem]
  apply k3_; clear k3_
  refine Do.seqk fun _ k9_ => ?_
  refine Do.region [4,5,6] true ?_
  simp [go_sem]
  repeat (refine And.intro (by first | omega | (intros; omega) | grind) ?_)
  apply k9_; clear k9_
  refine Do.ret ?_
  simp [endQ, rets, ret1, go_sem]
  repeat (refine And.intro (by first | omega | (intros; omega) | grind) ?_)
  exact TLe.t (.cons (PLe.flt (ret_z rfl)) (.cons (PLe.refl _) (.cons (PLe.refl _) .nil)))
theorem Special_zero {xn yn : Bool} {xe ye : Int} {xm ym : List Nat} : Does Tryz.prog Gv 69 [Fl 1 xn xe xm, Fl 0 yn ye ym] (.t [Flt.pv ⟨2, xn != yn, 0, 0⟩, .c (.i .i64 8), .c (.b true)]) := by
  refine Does.of (nt := 59) Tryz.func69 rfl rfl rfl (by simp) ?_
  simp only [argTm, PV.ext, Ce.ext]
  refine Do.seqk fun _ k1_ => ?_
  refine Do.region [2,3,4] true ?_
  simp [go_sem]
  apply k1_; clear k1_
  refine Do.seqk fun _ k2_ => ?_
  refine Do.region [2,3,4,7] true ?_
  simp [go_sem]
  repeat (refine And.intro (by first | omega | (intros; omega) | grind) ?_)
  apply k2_; clear k2_
  refine Do.seqk fun _ k3_ => ?_
  refine Do.block ?_
  refine Do.seqk fun _ k4_ => ?_
  refine Do.region [2,3,4,7,13] true ?_
  simp [go_sem]
  repeat (refine And.intro (by first | omega | (intros; omega) | grind) ?_)
  apply k4_; clear k4_
  refine Do.cond [2,3,4,7] rfl (fun g1 => ?_) (fun g1 => ?_) <;> simp [go_sem] at g1 ⊢
  refine Do.seqk fun _ k5_ => ?_
  refine Do.region [2,3,4,7,23] true ?_
  simp [go_sem]
  repeat (refine And.intro (by first | omega | (intros; omega) | grind) ?_)
  apply k5_; clear k5_
  refine Do.cond [2,3,4,7] rfl (fun g2 => ?_) (fun g2 => ?_) <;> simp [go_sem] at g2 ⊢
  refine Do.seqk fun _ k6_ => ?_
  refine Do.region [2,3,4,7,35] true ?_
  simp [go_sem]
  repeat (refine And.intro (by first | omega | (intros; omega) | grind) ?_)
  apply k6_; clear k6_
  refine Do.cond [2,3,4,7] rfl (fun g3 => ?_) (fun g3 => ?_) <;> simp [go_sem] at g3 ⊢
  refine Do.seqk fun _ k7_ => ?_
  refine Do.region [3,4,7,41] true ?_
  simp [go_sem]
  repeat (refine And.intro (by first | omega | (intros; omega) | grind) ?_)
  apply k7_; clear k7_
  refine Do.cond [3,4,7] rfl (fun g4 => ?_) (fun g4 => ?_) <;> simp [go_sem] at g4 ⊢
  refine Do.seqk fun _ k8_ => ?_
  refine Do.region [4,7,52] true ?_
  simp [go_sem]
  repeat (refine And.intro (by first | omega | (intros; omega) | grind) ?_)
  apply k8_; clear k8_
  refine Do.cond [4,7] rfl (fun g5 => ?_) (fun g5 => ?_) <;> simp [go_sem] at g5 ⊢
  refine Do.seqk fun _ k9_ => ?_
  refine Do.region [4,5,6] true ?_
  simp [go_sem]
  repeat (refine And.intro (by first | omega | (intros; omega) | grind) ?_)
  apply k9_; clear k9_
  refine Do.ret ?_
  simp [endQ, rets, ret1, go_sem]
  repeat (refine And.intro (by first | omega | (intros; omega) | grind) ?_)
  exact TLe.t (.cons (PLe.flt (ret_z rfl)) (.cons (PLe.refl _) (.cons (PLe.refl _) .nil)))
theorem QDiv_fin {f p r : Int} {x y : Fla} (hx : x.Ok) (hy : y.Ok) (he : argsE f p r false [x, y] = 0) {u v : Flt} (hu : (holdsP f p x.flt).1 = u) (hv : (holdsP f p y.flt).1 = v) (ku : u.k = 1) (kv : v.k = 1) {K : Nat} (hK : p + 3 + bl v.v ≤ K) :
    Does Tryz.prog Gv 37 [Fm f p, .c (.i .i64 r), Fl x.k x.n x.e x.m, Fl y.k y.n y.e y.m] (.t [(ratE f p r (u.n != v.n) u.v v.v (u.e - v.e) K).1.pv, .c (.i .i64 (ratE f p r (u.n != v.n) u.v v.v (u.e - v.e) K).2), .c (.i .i64 0)]) := by
  have hl : [x, y].length < 1099511627776 := by simp
  have ho : ∀ u ∈ [x, y], u.Ok := by simp [hx, hy]
  have hA : DoesO Tryz.prog Gv 65 [Fm f p, .c (.i .i64 r), .c (.b false), .s false [x.cs, y.cs]] 4 [(holdsP f p x.flt).1.cs, (holdsP f p y.flt).1.cs] [.c (.i .i64 0)] := Args_own hl ho he
  obtain ⟨h1, h2, h3, h4, h5, h6⟩ := argsE_zero he
  have hhx : (holdsP f p x.flt).2 = true := by simpa using List.all_eq_true.1 h6 x (by simp)
  have hhy : (holdsP f p y.flt).2 = true := by simpa using List.all_eq_true.1 h6 y (by simp)
  have sx := held_small h5 hhx
  have sy := held_small h5 hhy
  have cx := held_cf hhx
  have cy := held_cf hhy
  rw [hu] at sx cx hA
  rw [hv] at sy cy hA
  have pu := Nat.pos_of_ne_zero (cx.pos ku)
  have pv := Nat.pos_of_ne_zero (cy.pos kv)
  have hR := @RatioE_does f p r h5 h2 h3 (u.n != v.n) (nat u.v) (nat v.v) (by have := len_bl (show bl u.v ≤ 256 by omega); omega) (nat_ws _) (by have := len_bl (show bl v.v ≤ 256 by omega); omega) (nat_ws _) (by rw [val_nat]; exact pu) (by rw [val_nat]; exact pv) (u.e - v.e) (by omega) K (by rw [val_nat]; exact hK)
  rw [val_nat, val_nat] at hR
  obtain ⟨uk, un, ue, uv⟩ := u
  obtain ⟨vk, vn, ve, vv⟩ := v
  simp only at ku kv pu pv sx sy hR
  subst ku
  subst kv
  have hS := @Special_fin un vn ue ve (nat uv) (nat vv)
  have hS : Does Tryz.prog Gv 69 [Fl 1 un ue (nat uv), Fl 1 vn ve (nat vv)] (.t [Fl 0 false 0 (nat 0), .c (.i .i64 0), .c (.b false)]) := hS
  simp only
  generalize ratE f p r (un != vn) uv vv (ue - ve) K = z at *
  refine Does.of (nt := 66) Tryz.func37 rfl rfl rfl (by simp) ?_
  simp only [argTm, PV.ext, Ce.ext]
  refine Do.seqk fun _ k1_ => ?_
  refine Do.region [1,4,6,7,8] true ?_
  simp [go_sem]
  apply k1_; clear k1_
  refine Do.seqk fun _ k2_ => ?_
  refine Do.region [1,4,6,7,8,11,12] true ?_
  simp [go_sem]
  repeat (refine And.intro (by first | omega | (intros; omega) | grind) ?_)
  refine DoL.sealS true 105 104 rfl ?_
  simp [go_sem]
  refine DoL.callO true 106 3000 rfl rfl rfl rfl (by first | exact trivial | omega | (simp; done) | (simp; omega)) (hA) rfl rfl rfl ?_
  simp [go_sem]
  apply k2_; clear k2_
  refine Do.seqk fun _ k3_ => ?_
  refine Do.seqk fun _ k4_ => ?_
  refine Do.region [1,4,6,7,8,11,12,26] true ?_
  simp [go_sem]
  apply k4_; clear k4_
  refine Do.cond [1,4,6,7,8,11,12] rfl (fun h => ?_) (fun h => ?_) <;> simp [go_sem] at h ⊢
  refine Do.skip ?_
  simp [go_sem]
  apply k3_; clear k3_
  refine Do.seqk fun _ k5_ => ?_
  refine Do.sealS 3000 rfl ?_
  simp [go_sem]
  refine Do.draw [1,4,6,7,8] true (by kernel_rfl) ?_
  simp [go_sem]
  repeat (refine And.intro (by first | omega | (intros; omega) | kernel_rfl | grind) ?_)
  try (refine And.intro (by kernel_rfl) ?_)
  apply k5_; clear k5_
  refine Do.seqk fun _ k6_ => ?_
  refine Do.region [1,4,6,7,8,13,14,15] true ?_
  simp [go_sem]
  repeat (refine And.intro (by first | omega | (intros; omega) | grind) ?_)
  refine DoL.call true 503 rfl rfl rfl rfl (by first | exact trivial | omega | (simp; done) | (simp; omega)) (hS) rfl (by first | exact .inl rfl | exact .inr rfl) rfl ?_
  simp [go_sem]
  repeat (refine And.intro (by first | omega | (intros; omega) | grind) ?_)
  apply k6_; clear k6_
  refine Do.seqk fun _ k7_ => ?_
  refine Do.seqk fun _ k8_ => ?_
  refine Do.region [1,4,6,7,8,13,14,43] true ?_
  simp [go_sem]
  repeat (refine And.intro (by first | omega | (intros; omega) | grind) ?_)
  apply k8_; clear k8_
  refine Do.cond [1,4,6,7,8,13,14] rfl (fun h => ?_) (fun h => ?_) <;> simp [go_sem] at h ⊢
  refine Do.region [8,13,14] true ?_
  simp [go_sem]
  repeat (refine And.intro (by first | omega | (intros; omega) | grind) ?_)
  refine DoL.call true 717 rfl rfl rfl rfl (by first | exact trivial | omega | (simp; done) | (simp; omega)) (hR) rfl (by first | exact .inl rfl | exact .inr rfl) rfl ?_
  simp [go_sem]
  repeat (refine And.intro (by first | omega | (intros; omega) | grind) ?_)
  apply k7_; clear k7_
  refine Do.seqk fun _ k9_ => ?_
  refine Do.region [8,9,10] true ?_
  simp [go_sem]
  repeat (refine And.intro (by first | omega | (intros; omega) | grind) ?_)
  apply k9_; clear k9_
  refine Do.ret ?_
  simp [endQ, rets, ret1, go_sem]
  repeat (refine And.intro (by first | omega | (intros; omega) | grind) ?_)
  exact TLe.refl _
theorem QDiv_zero {f p r : Int} {x y : Fla} (hx : x.Ok) (hy : y.Ok) (he : argsE f p r false [x, y] = 0) {u v : Flt} (hu : (holdsP f p x.flt).1 = u) (hv : (holdsP f p y.flt).1 = v) (ku : u.k = 1) (kv : v.k = 0) :
    Does Tryz.prog Gv 37 [Fm f p, .c (.i .i64 r), Fl x.k x.n x.e x.m, Fl y.k y.n y.e y.m] (.t [Flt.pv ⟨2, u.n != v.n, 0, 0⟩, .c (.i .i64 8), .c (.i .i64 0)]) := by
  have hl : [x, y].length < 1099511627776 := by simp
  have ho : ∀ u ∈ [x, y], u.Ok := by simp [hx, hy]
  have hA : DoesO Tryz.prog Gv 65 [Fm f p, .c (.i .i64 r), .c (.b false), .s false [x.cs, y.cs]] 4 [(holdsP f p x.flt).1.cs, (holdsP f p y.flt).1.cs] [.c (.i .i64 0)] := Args_own hl ho he
  rw [hu, hv] at hA
  obtain ⟨uk, un, ue, uv⟩ := u
  obtain ⟨vk, vn, ve, vv⟩ := v
  simp only at ku kv
  subst ku
  subst kv
  have hS := @Special_zero un vn ue ve (nat uv) (nat vv)
  have hS : Does Tryz.prog Gv 69 [Fl 1 un ue (nat uv), Fl 0 vn ve (nat vv)] (.t [Fl 2 (un != vn) 0 (nat 0), .c (.i .i64 8), .c (.b true)]) := hS
  simp only
  refine Does.of (nt := 66) Tryz.func37 rfl rfl rfl (by simp) ?_
  simp only [argTm, PV.ext, Ce.ext]
  refine Do.seqk fun _ k1_ => ?_
  refine Do.region [1,4,6,7,8] true ?_
  simp [go_sem]
  apply k1_; clear k1_
  refine Do.seqk fun _ k2_ => ?_
  refine Do.region [1,4,6,7,8,11,12] true ?_
  simp [go_sem]
  repeat (refine And.intro (by first | omega | (intros; omega) | grind) ?_)
  refine DoL.sealS true 105 104 rfl ?_
  simp [go_sem]
  refine DoL.callO true 106 3000 rfl rfl rfl rfl (by first | exact trivial | omega | (simp; done) | (simp; omega)) (hA) rfl rfl rfl ?_
  simp [go_sem]
  apply k2_; clear k2_
  refine Do.seqk fun _ k3_ => ?_
  refine Do.seqk fun _ k4_ => ?_
  refine Do.region [1,4,6,7,8,11,12,26] true ?_
  simp [go_sem]
  apply k4_; clear k4_
  refine Do.cond [1,4,6,7,8,11,12] rfl (fun h => ?_) (fun h => ?_) <;> simp [go_sem] at h ⊢
  refine Do.skip ?_
  simp [go_sem]
  apply k3_; clear k3_
  refine Do.seqk fun _ k5_ => ?_
  refine Do.sealS 3000 rfl ?_
  simp [go_sem]
  refine Do.draw [1,4,6,7,8] true (by kernel_rfl) ?_
  simp [go_sem]
  repeat (refine And.intro (by first | omega | (intros; omega) | kernel_rfl | grind) ?_)
  try (refine And.intro (by kernel_rfl) ?_)
  apply k5_; clear k5_
  refine Do.seqk fun _ k6_ => ?_
  refine Do.region [1,4,6,7,8,13,14,15] true ?_
  simp [go_sem]
  repeat (refine And.intro (by first | omega | (intros; omega) | grind) ?_)
  refine DoL.call true 503 rfl rfl rfl rfl (by first | exact trivial | omega | (simp; done) | (simp; omega)) (hS) rfl (by first | exact .inl rfl | exact .inr rfl) rfl ?_
  simp [go_sem]
  repeat (refine And.intro (by first | omega | (intros; omega) | grind) ?_)
  apply k6_; clear k6_
  refine Do.seqk fun _ k7_ => ?_
  refine Do.seqk fun _ k8_ => ?_
  refine Do.region [1,4,6,7,8,13,14,43] true ?_
  simp [go_sem]
  repeat (refine And.intro (by first | omega | (intros; omega) | grind) ?_)
  apply k8_; clear k8_
  refine Do.cond [1,4,6,7,8,13,14] rfl (fun h => ?_) (fun h => ?_) <;> simp [go_sem] at h ⊢
  refine Do.skip ?_
  simp [go_sem]
  apply k7_; clear k7_
  refine Do.seqk fun _ k9_ => ?_
  refine Do.region [8,9,10] true ?_
  simp [go_sem]
  repeat (refine And.intro (by first | omega | (intros; omega) | grind) ?_)
  apply k9_; clear k9_
  refine Do.ret ?_
  simp [endQ, rets, ret1, go_sem]
  repeat (refine And.intro (by first | omega | (intros; omega) | grind) ?_)
  exact TLe.refl _
end Go.Proofs.YtbhokdhkfodpfaaGreatDoor
