/- Digits of sums, differences and products. No condition. The digits of a sum, a difference, and which number is less. No condition. The digits of a product, and of a quotient by one digit. No condition. A quotient by one digit; shifts of digits. No condition. Sums, differences, products of the reference's natural numbers. No condition. The integers of the reference. No condition. Sums and differences of the reference's integers. No condition. The lowest bits of a number; a real number of the reference and its exponent. No condition. A real number of the reference: an integer times a power of 2; its exponent. No condition. A real number in steps; a part rounded. No condition. A part rounded; the greatest float; what is beyond it. No condition. The greatest float, what is beyond it. No condition. The reference's rounding is the program's. No condition. Canonical floats, counted. No condition. -/
import Derived.Test.YtokgalpflooegaaGreatDoorMg
import Derived.Test.YtokgalpflooegaaGreatDoorMf
import Derived.Test.YtokgalpflooegaaGreatDoorMe
import Derived.KernelRfl
/- Digits of sums, differences and products. No condition. -/
namespace Go.Proofs.YtokgalpflooegaaGreatDoor
set_option linter.unusedVariables false
set_option linter.unusedSimpArgs false
/-- The i-th digit. -/
def dig (n i : Nat) : Nat := n / 4294967296 ^ i % 4294967296
theorem Hpos (i : Nat) : 0 < 4294967296 ^ i := Nat.pow_pos (by decide)
theorem dig_lt (n i : Nat) : dig n i < 4294967296 := Nat.mod_lt _ (by decide)
theorem dg_dig {k n i : Nat} (h : i < k) : (dg n k)[i]? = some (dig n i) := dg_get h
theorem dg_add (n k : Nat) : dg n (k + 1) = dg n k ++ [dig n k] := dg_snoc k n
theorem dig_none {n k i : Nat} (h : n < 4294967296 ^ k) (hi : k ≤ i) : dig n i = 0 := dg_lt h hi
theorem dig_low {n p x : Nat} (h : x < p) : dig (n % 4294967296 ^ p) x = dig n x := by
  obtain ⟨q, rfl⟩ : ∃ q, p = x + (q + 1) := ⟨p - x - 1, by omega⟩
  unfold dig
  rw [Nat.pow_add, Nat.mod_mul_right_div_self, Nat.pow_succ, Nat.mul_comm _ 4294967296, Nat.mod_mul_right_mod]
theorem dig_high {n p x : Nat} (h : p ≤ x) : dig n x = dig (n / 4294967296 ^ p) (x - p) := by
  unfold dig
  rw [Nat.div_div_eq_div_mul, ← Nat.pow_add, show p + (x - p) = x by omega]
theorem dig_top {n k : Nat} (h : n < 4294967296 ^ (k + 1)) : dig n k = n / 4294967296 ^ k := by
  unfold dig
  rw [Nat.mod_eq_of_lt]
  rw [Nat.div_lt_iff_lt_mul (Hpos k), Nat.mul_comm, ← Nat.pow_succ]; exact h
theorem low_step (n i : Nat) : n % 4294967296 ^ (i + 1) = n % 4294967296 ^ i + dig n i * 4294967296 ^ i := by
  unfold dig
  rw [Nat.pow_succ, Nat.mod_mul, Nat.mul_comm (4294967296 ^ i)]
theorem high_step (n i : Nat) : n / 4294967296 ^ i = n / 4294967296 ^ (i + 1) * 4294967296 + dig n i := by
  unfold dig
  rw [Nat.pow_succ, ← Nat.div_div_eq_div_mul]; omega
theorem dg_ext {l : List Nat} {n k : Nat} (h : l.length = k) (he : ∀ i, i < k → l[i]? = some (dig n i)) : l = dg n k := by
  apply List.ext_getElem?
  intro i
  by_cases hi : i < k
  · rw [he i hi, dg_dig hi]
  · rw [List.getElem?_eq_none (by omega), List.getElem?_eq_none (by rw [dg_len]; omega)]
theorem dg_zero (k : Nat) : List.replicate k 0 = dg 0 k := dg_ext (by simp) fun i hi => by simp [dig, hi]
/-- The carry into digit i of a sum. -/
def cy (a b i : Nat) : Nat := (a % 4294967296 ^ i + b % 4294967296 ^ i) / 4294967296 ^ i
theorem cy_zero (a b : Nat) : cy a b 0 = 0 := by simp [cy, Nat.mod_one]
theorem plus_step (a b i : Nat) : (cy a b i + dig a i + dig b i) % 4294967296 = dig (a + b) i ∧ (cy a b i + dig a i + dig b i) / 4294967296 = cy a b (i + 1) ∧ cy a b i ≤ 1 := by
  have h1 : cy a b (i + 1) = (cy a b i + dig a i + dig b i) / 4294967296 := by
    unfold cy
    rw [low_step, low_step, Nat.pow_succ, ← Nat.div_div_eq_div_mul]
    rw [show a % 4294967296 ^ i + dig a i * 4294967296 ^ i + (b % 4294967296 ^ i + dig b i * 4294967296 ^ i) = a % 4294967296 ^ i + b % 4294967296 ^ i + (dig a i + dig b i) * 4294967296 ^ i by rw [Nat.add_mul]; omega, Nat.add_mul_div_right _ _ (Hpos i), Nat.add_assoc]
  have h2 : dig (a + b) i = (cy a b i + dig a i + dig b i) % 4294967296 := by
    unfold dig cy
    have e : a + b = a % 4294967296 ^ i + b % 4294967296 ^ i + (a / 4294967296 ^ i + b / 4294967296 ^ i) * 4294967296 ^ i := by
      have := Nat.div_add_mod' a (4294967296 ^ i)
      have := Nat.div_add_mod' b (4294967296 ^ i)
      rw [Nat.add_mul]; omega
    conv => lhs; rw [e, Nat.add_mul_div_right _ _ (Hpos i)]
    omega
  refine ⟨h2.symm, h1.symm, ?_⟩
  unfold cy
  have h3 := Nat.mod_lt a (Hpos i)
  have h4 := Nat.mod_lt b (Hpos i)
  exact Nat.le_of_lt_succ ((Nat.div_lt_iff_lt_mul (Hpos i)).2 (by omega))
theorem cy_end {a b m : Nat} (ha : a < 4294967296 ^ m) (hb : b < 4294967296 ^ m) : cy a b m = dig (a + b) m := by
  rw [dig_top (by rw [Nat.pow_succ]; omega)]
  unfold cy
  rw [Nat.mod_eq_of_lt ha, Nat.mod_eq_of_lt hb]
/-- d is a less b; u: above j digits one was borrowed. -/
def Less (a b d j : Nat) (u : Bool) : Prop := d + b = a + (if u then 4294967296 ^ j else 0) ∧ a < 4294967296 ^ j ∧ b < 4294967296 ^ j ∧ d < 4294967296 ^ j
theorem Less.step {a b d j : Nat} {u : Bool} (h : Less a b d j u) {i : Nat} (hi : i < j) : (dig a i + 4294967296 - dig b i - cy d b i) % 4294967296 = dig d i ∧ 1 - (dig a i + 4294967296 - dig b i - cy d b i) / 4294967296 = cy d b (i + 1) := by
  have ⟨h1, h2, h3⟩ := plus_step d b i
  have h4 : dig (d + b) i = dig a i := by
    rw [h.1]
    cases u with
    | false => simp
    | true =>
      simp only [if_true]
      rw [← dig_low hi, Nat.add_mod_right, dig_low hi]
  rw [h4] at h1
  have := dig_lt a i
  have := dig_lt b i
  have := dig_lt d i
  omega
theorem Less.fin {a b d j : Nat} {u : Bool} (h : Less a b d j u) : cy d b j = if u then 1 else 0 := by
  obtain ⟨h1, h2, h3, h4⟩ := h
  unfold cy
  rw [Nat.mod_eq_of_lt h4, Nat.mod_eq_of_lt h3, h1]
  cases u with
  | false => simp [Nat.div_eq_of_lt h2]
  | true => simp only [if_true]; rw [Nat.add_div_right _ (Hpos j), Nat.div_eq_of_lt h2]
theorem less_ex {a b j : Nat} (ha : a < 4294967296 ^ j) (hb : b < 4294967296 ^ j) : ∃ d, Less a b d j (decide (a < b)) ∧ (b ≤ a → d = a - b) := by
  by_cases h : a < b
  · exact ⟨a + 4294967296 ^ j - b, ⟨by simp [h]; omega, ha, hb, by omega⟩, fun h' => by omega⟩
  · exact ⟨a - b, ⟨by simp [h]; omega, ha, hb, by omega⟩, fun _ => rfl⟩
/-- The higher part. -/
def hgh (n i : Nat) : Nat := n / 4294967296 ^ i
theorem hi_step (n i : Nat) : hgh n i = hgh n (i + 1) * 4294967296 + dig n i := high_step n i
theorem hi_zero (n : Nat) : hgh n 0 = n := by simp [hgh]
theorem hi_none {n k : Nat} (h : n < 4294967296 ^ k) {i : Nat} (hi' : k ≤ i) : hgh n i = 0 := Nat.div_eq_of_lt (Nat.lt_of_lt_of_le h (Nat.pow_le_pow_right (by decide) hi'))
theorem hi_lt {a b i : Nat} (h : hgh a i < hgh b i) : a < b := by
  apply Classical.byContradiction
  intro hn
  have := Nat.div_le_div_right (c := 4294967296 ^ i) (Nat.le_of_not_lt hn)
  unfold hgh at h
  omega
/-- How two numbers compare. -/
def cmpP (a b : Nat) : Int := if a < b then -1 else if b < a then 1 else 0
theorem dg_set {Q n p v : Nat} (hp : p < n) (hv : v < 4294967296) : ∃ Q', (dg Q n).set p v = dg Q' n ∧ Q' + dig Q p * 4294967296 ^ p = Q + v * 4294967296 ^ p ∧ ∀ m, p < m → Q < 4294967296 ^ m → Q' < 4294967296 ^ m := by
  have e0 : Q = Q % 4294967296 ^ p + (dig Q p + Q / 4294967296 ^ (p + 1) * 4294967296) * 4294967296 ^ p := by
    have h1 := Nat.div_add_mod' Q (4294967296 ^ p)
    rw [high_step, Nat.add_comm (_ * 4294967296)] at h1
    omega
  obtain ⟨Q', hQ⟩ : ∃ Q', Q' = Q % 4294967296 ^ p + (v + Q / 4294967296 ^ (p + 1) * 4294967296) * 4294967296 ^ p := ⟨_, rfl⟩
  have l1 := Nat.mod_lt Q (Hpos p)
  have h1 : Q' % 4294967296 ^ p = Q % 4294967296 ^ p := by rw [hQ, Nat.add_mul_mod_self_right, Nat.mod_mod]
  have h2 : Q' / 4294967296 ^ p = v + Q / 4294967296 ^ (p + 1) * 4294967296 := by rw [hQ, Nat.add_mul_div_right _ _ (Hpos p), Nat.div_eq_of_lt l1, Nat.zero_add]
  have h3 : Q' / 4294967296 ^ (p + 1) = Q / 4294967296 ^ (p + 1) := by
    rw [Nat.pow_succ, ← Nat.div_div_eq_div_mul, h2, Nat.pow_succ]; omega
  refine ⟨Q', dg_ext (by rw [List.length_set, dg_len]) fun i hi => ?_, ?_, fun m hm h => ?_⟩
  · rw [List.getElem?_set]
    by_cases he : p = i
    · subst he
      rw [if_pos rfl, if_pos (by rw [dg_len]; exact hp)]
      unfold dig
      rw [h2]
      congr 1
      omega
    · rw [if_neg he, dg_dig hi]
      congr 1
      rcases Nat.lt_or_gt_of_ne he with h | h
      · rw [dig_high (show p + 1 ≤ i by omega), dig_high (show p + 1 ≤ i by omega), h3]
      · rw [← dig_low h, ← h1, dig_low h]
  · rw [hQ]
    conv => rhs; rw [e0]
    rw [Nat.add_mul, Nat.add_mul]; omega
  · obtain ⟨q, rfl⟩ : ∃ q, m = (p + 1) + q := ⟨m - (p + 1), by omega⟩
    rw [Nat.pow_add, Nat.mul_comm, ← Nat.div_lt_iff_lt_mul (Hpos _)] at h ⊢
    rw [h3]; exact h
end Go.Proofs.YtokgalpflooegaaGreatDoor
/- The digits of a sum, a difference, and which number is less. No condition. -/
namespace Go.Proofs.YtokgalpflooegaaGreatDoor
set_option linter.unusedVariables false
set_option linter.unusedSimpArgs false
variable {G : Gl}
set_option maxHeartbeats 2000000
theorem digit_does {n k i : Nat} (h : n < 4294967296 ^ k) : Does Tryz.prog G 159 [Wd (dg n k), .c (.i .i64 i)] (.v (.c (.n (dig n i)))) := by
  have h0 := @dig_none n k i h
  clear h
  by_cases hi : i < k
  · have hg := @dg_dig k n i hi
    refine Does.of (nt := 13) Tryz.func159 rfl rfl rfl (by simp) ?_
    simp only [argTm, PV.ext, Ce.ext]
    refine Do.seqk fun _ k1_ => ?_
    refine Do.region [0,1] true ?_
    simp [go_sem, hi]
    apply k1_; clear k1_
    refine Do.seqk fun _ k2_ => ?_
    refine Do.seqk fun _ k3_ => ?_
    refine Do.region [0,1,8] true ?_
    simp [go_sem, hi]
    repeat (refine And.intro (by first | omega | (intros; omega) | grind) ?_)
    apply k3_; clear k3_
    refine Do.cond [0,1] rfl (fun h => ?_) (fun h => ?_) <;> simp [go_sem, hi] at h ⊢
    refine Do.seqk fun _ k4_ => ?_
    refine Do.region [4] true ?_
    simp [go_sem, hg]
    repeat (refine And.intro (by first | omega | (intros; omega) | grind) ?_)
    apply k4_; clear k4_
    refine Do.ret ?_
    simp [endQ, rets, ret1, go_sem, hg]
    repeat (refine And.intro (by first | omega | (intros; omega) | grind) ?_)
    exact TLe.refl _
  · rw [h0 (by omega)]
    refine Does.of (nt := 13) Tryz.func159 rfl rfl rfl (by simp) ?_
    simp only [argTm, PV.ext, Ce.ext]
    refine Do.seqk fun _ k1_ => ?_
    refine Do.region [0,1] true ?_
    simp [go_sem, hi]
    apply k1_; clear k1_
    refine Do.seqk fun _ k2_ => ?_
    refine Do.seqk fun _ k3_ => ?_
    refine Do.region [0,1,8] true ?_
    simp [go_sem, hi]
    repeat (refine And.intro (by first | omega | (intros; omega) | grind) ?_)
    apply k3_; clear k3_
    refine Do.cond [0,1] rfl (fun h => ?_) (fun h => ?_) <;> simp [go_sem, hi] at h ⊢
    refine Do.skip ?_
    simp [go_sem]
    apply k2_; clear k2_
    refine Do.seqk fun _ k4_ => ?_
    refine Do.region [4] true ?_
    simp [go_sem, hi]
    apply k4_; clear k4_
    refine Do.ret ?_
    simp [endQ, rets, ret1, go_sem, hi]
    repeat (refine And.intro (by first | omega | (intros; omega) | grind) ?_)
    exact TLe.refl _
theorem Word_does {w : Nat} (h : w < 18446744073709551616) : Does Tryz.prog G 142 [.c (.n w)] (.v (Wn (dg w 2))) := by
  have e : dg w 2 = [w % 4294967296, w / 4294967296] := by simp only [dg]; rw [Nat.mod_eq_of_lt (show w / 4294967296 < 4294967296 by omega)]
  rw [e]
  refine Does.of (nt := 8) Tryz.func142 rfl rfl rfl (by simp) ?_
  simp only [argTm, PV.ext, Ce.ext]
  refine Do.seqk fun _ k1_ => ?_
  refine Do.region [0] true ?_
  simp [go_sem]
  apply k1_; clear k1_
  refine Do.seqk fun _ k2_ => ?_
  refine Do.region [2] true ?_
  simp [go_sem]
  repeat (refine And.intro (by first | omega | (intros; omega) | grind) ?_)
  apply k2_; clear k2_
  refine Do.ret ?_
  simp [endQ, rets, ret1, go_sem]
  repeat (refine And.intro (by first | omega | (intros; omega) | grind) ?_)
  exact TLe.refl _
theorem Plus_r_does {a b j k m : Nat} (ha : a < 4294967296 ^ j) (hb : b < 4294967296 ^ k) (hj : j ≤ 4294967296) (hk : k ≤ 4294967296) (hm : m = if j < k then k else j) : Does Tryz.prog G 141 [Wd (dg a j), Wd (dg b k)] (.v (Wn (dg (a + b) (m + 1)))) := by
  have hda := fun i => @digit_does G a j i ha
  have hdb := fun i => @digit_does G b k i hb
  have hjm : j ≤ m := by split at hm <;> omega
  have hkm : k ≤ m := by split at hm <;> omega
  have hend := @cy_end a b m (Nat.lt_of_lt_of_le ha (Nat.pow_le_pow_right (by decide) hjm)) (Nat.lt_of_lt_of_le hb (Nat.pow_le_pow_right (by decide) hkm))
  clear ha hb
  have hmm : m ≤ 4294967296 := by split at hm <;> omega
  refine Does.of (nt := 40) Tryz.func141 rfl rfl rfl (by simp) ?_
  simp only [argTm, PV.ext, Ce.ext]
  refine Do.seqk fun _ k1_ => ?_
  refine Do.region [0,1] true ?_
  simp [go_sem]
  apply k1_; clear k1_
  refine Do.seqk fun _ k2_ => ?_
  refine Do.region [0,1,5] true ?_
  simp [go_sem]
  apply k2_; clear k2_
  refine Do.seqk fun _ k3_ => ?_
  refine Do.region [0,1,5,6] true ?_
  simp [go_sem]
  apply k3_; clear k3_
  refine Do.seqk fun _ k4_ => ?_
  refine Do.seqk fun _ k5_ => ?_
  refine Do.region [0,1,5,6,7] true ?_
  simp [go_sem]
  apply k5_; clear k5_
  refine Do.block ?_
  refine Do.ownW 5 900 rfl rfl (by decide) ?_
  simp [go_sem]
  refine Do.loopF [0,1,5,6,7] (fun (i : Nat) => [(5, .v (.c (.r 900 i))), (6, .v (.c (.n (cy a b i)))), (7, .int .i64 i)]) (fun (i : Nat) => [(900, .wr (dg (a + b) i))]) (fun (i : Nat) => i ≤ m) (fun (i : Nat) => m - i) (0) (fun _ => by first | (simp [go_sem, mixS]; done) | (simp [go_sem, mixS]; rfl)) (St.le_of (by simp [keep, cy_zero]) (by simp [keep, dg])) (Nat.zero_le _) ?_
  intro i hi
  refine Do.seqk fun _ k6_ => ?_
  refine Do.seqk fun _ k7_ => ?_
  refine Do.region [0,1,5,6,7,17] true ?_
  simp [go_sem]
  repeat (refine And.intro (by first | omega | (intros; omega) | grind) ?_)
  apply k7_; clear k7_
  refine Do.cond [0,1,5,6,7] rfl (fun h => ?_) (fun h => ?_) <;> simp [go_sem] at h ⊢
  · have hs := plus_step a b i
    have l1 := dig_lt a i
    have l2 := dig_lt b i
    refine Do.skip ?_
    simp [go_sem]
    apply k6_; clear k6_
    refine Do.seqk fun _ k8_ => ?_
    refine Do.block ?_
    refine Do.seqk fun _ k9_ => ?_
    refine Do.region [0,1,5,6,7] true ?_
    simp [go_sem]
    refine DoL.call true 604 rfl rfl rfl rfl (by first | exact trivial | omega | (simp; done) | (simp; omega)) (hda i) rfl (by first | exact .inl rfl | exact .inr rfl) rfl ?_
    simp [go_sem]
    repeat (refine And.intro (by first | omega | (intros; omega) | grind) ?_)
    refine DoL.call true 608 rfl rfl rfl rfl (by first | exact trivial | omega | (simp; done) | (simp; omega)) (hdb i) rfl (by first | exact .inl rfl | exact .inr rfl) rfl ?_
    simp [go_sem]
    repeat (refine And.intro (by first | omega | (intros; omega) | grind) ?_)
    apply k9_; clear k9_
    refine Do.seqk fun _ k10_ => ?_
    refine Do.region [0,1,5,6,7] true ?_
    simp [go_sem]
    repeat (refine And.intro (by first | omega | (intros; omega) | grind) ?_)
    apply k10_; clear k10_
    refine Do.region [0,1,5,6,7] true ?_
    simp [go_sem]
    repeat (refine And.intro (by first | omega | (intros; omega) | grind) ?_)
    apply k8_; clear k8_
    refine Do.region [0,1,5,6,7] true ?_
    simp [go_sem]
    repeat (refine And.intro (by first | omega | (intros; omega) | grind) ?_)
    refine ⟨i + 1, St.le_of (by simp [keep, hs.1, hs.2.1]) (by simp [keep, dg_add, hs.1]), by omega, by simp; omega⟩
  · obtain rfl : i = m := by split at hm <;> omega
    refine Do.exit ?_
    simp [go_sem]
    apply k4_; clear k4_
    refine Do.seqk fun _ k11_ => ?_
    refine Do.region [4] true ?_
    simp [go_sem]
    repeat (refine And.intro (by first | omega | (intros; omega) | grind) ?_)
    apply k11_; clear k11_
    refine Do.ret ?_
    simp [endQ, rets, ret1, go_sem]
    repeat (refine And.intro (by first | omega | (intros; omega) | grind) ?_)
    rw [dg_add, ← hend]
    exact TLe.refl _
theorem Minus_r_does {a b d j k : Nat} {u : Bool} (hb : b < 4294967296 ^ k) (h : Less a b d j u) (hj : j ≤ 4294967296) : Does Tryz.prog G 171 [Wd (dg a j), Wd (dg b k)] (.t [Wn (dg d j), .c (.b u)]) := by
  have hdb := fun i => @digit_does G b k i hb
  have hst := fun i (hi : i < j) => h.step hi
  have hfin := h.fin
  clear h hb
  refine Does.of (nt := 38) Tryz.func171 rfl rfl rfl (by simp) ?_
  simp only [argTm, PV.ext, Ce.ext]
  refine Do.seqk fun _ k1_ => ?_
  refine Do.region [0,1] true ?_
  simp [go_sem]
  apply k1_; clear k1_
  refine Do.seqk fun _ k2_ => ?_
  refine Do.region [0,1,6] true ?_
  simp [go_sem]
  apply k2_; clear k2_
  refine Do.seqk fun _ k3_ => ?_
  refine Do.region [0,1,6,7] true ?_
  simp [go_sem]
  apply k3_; clear k3_
  refine Do.seqk fun _ k4_ => ?_
  refine Do.seqk fun _ k5_ => ?_
  refine Do.region [0,1,6,7,8] true ?_
  simp [go_sem]
  apply k5_; clear k5_
  refine Do.block ?_
  refine Do.ownW 6 900 rfl rfl (by decide) ?_
  simp [go_sem]
  refine Do.loopF [0,1,6,7,8] (fun (i : Nat) => [(6, .v (.c (.r 900 i))), (7, .v (.c (.n (cy d b i)))), (8, .int .i64 i)]) (fun (i : Nat) => [(900, .wr (dg d i))]) (fun (i : Nat) => i ≤ j) (fun (i : Nat) => j - i) (0) (fun _ => by first | (simp [go_sem, mixS]; done) | (simp [go_sem, mixS]; rfl)) (St.le_of (by simp [keep, cy_zero]) (by simp [keep, dg])) (Nat.zero_le _) ?_
  intro i hi
  refine Do.seqk fun _ k6_ => ?_
  refine Do.seqk fun _ k7_ => ?_
  refine Do.region [0,1,6,7,8,13] true ?_
  simp [go_sem]
  repeat (refine And.intro (by first | omega | (intros; omega) | grind) ?_)
  apply k7_; clear k7_
  refine Do.cond [0,1,6,7,8] rfl (fun h2 => ?_) (fun h2 => ?_) <;> simp [go_sem] at h2 ⊢
  · have hs := hst i h2
    have l1 := dig_lt a i
    have l2 := dig_lt b i
    have l3 := (plus_step d b i).2.2
    have hg := @dg_dig j a i h2
    have hb1 : cy d b i ≤ dig a i + 4294967296 - dig b i := by omega
    have hb2 : dig a i + 4294967296 - dig b i < M64 := by unfold M64; omega
    refine Do.skip ?_
    simp [go_sem]
    apply k6_; clear k6_
    refine Do.seqk fun _ k8_ => ?_
    refine Do.block ?_
    refine Do.seqk fun _ k9_ => ?_
    refine Do.draw [0,1,6,8,9] true (by kernel_rfl) ?_
    simp [go_sem, hg, hb1, hb2]
    repeat (refine And.intro (by first | omega | (intros; omega) | kernel_rfl | grind) ?_)
    refine DoLD.call true 608 rfl rfl rfl rfl (by first | exact trivial | omega | (simp; done) | (simp; omega)) (hdb i) rfl (by first | exact .inl rfl | exact .inr rfl) rfl ?_
    simp [go_sem, hg, hb1, hb2]
    repeat (refine And.intro (by first | omega | (intros; omega) | kernel_rfl | grind) ?_)
    try (refine And.intro (by kernel_rfl) ?_)
    apply k9_; clear k9_
    refine Do.seqk fun _ k10_ => ?_
    refine Do.region [0,1,6,8,9] true ?_
    simp [go_sem, hg, hb1, hb2]
    repeat (refine And.intro (by first | omega | (intros; omega) | grind) ?_)
    apply k10_; clear k10_
    refine Do.region [0,1,6,7,8] true ?_
    simp [go_sem, hg, hb1, hb2]
    repeat (refine And.intro (by first | omega | (intros; omega) | grind) ?_)
    apply k8_; clear k8_
    refine Do.region [0,1,6,7,8] true ?_
    simp [go_sem, hg, hb1, hb2]
    repeat (refine And.intro (by first | omega | (intros; omega) | grind) ?_)
    refine ⟨i + 1, St.le_of (by simp [keep, hs.2]) (by simp [keep, dg_add, hs.1]), by omega, by simp; omega⟩
  · obtain rfl : i = j := by omega
    refine Do.exit ?_
    simp [go_sem]
    apply k4_; clear k4_
    refine Do.seqk fun _ k11_ => ?_
    refine Do.region [4,5] true ?_
    simp [go_sem]
    apply k11_; clear k11_
    refine Do.ret ?_
    simp [endQ, rets, ret1, go_sem]
    repeat (refine And.intro (by first | omega | (intros; omega) | grind) ?_)
    rw [hfin]
    cases u <;> exact TLe.refl _
theorem Compare_does {a b j k : Nat} (ha : a < 4294967296 ^ j) (hb : b < 4294967296 ^ k) (hj : j ≤ 4294967296) (hk : k ≤ 4294967296) : Does Tryz.prog G 103 [Wd (dg a j), Wd (dg b k)] (.int .i64 (cmpP a b)) := by
  have hda := fun i => @digit_does G a j i ha
  have hdb := fun i => @digit_does G b k i hb
  have hza := fun i => @hi_none a j ha i
  have hzb := fun i => @hi_none b k hb i
  clear ha hb
  refine Does.of (nt := 32) Tryz.func103 rfl rfl rfl (by simp) ?_
  simp only [argTm, PV.ext, Ce.ext]
  refine Do.seqk fun _ k1_ => ?_
  refine Do.region [0,1] true ?_
  simp [go_sem]
  apply k1_; clear k1_
  refine Do.seqk fun _ k2_ => ?_
  refine Do.seqk fun _ k3_ => ?_
  refine Do.region [0,1,5] true ?_
  simp [go_sem]
  repeat (refine And.intro (by first | omega | (intros; omega) | grind) ?_)
  apply k3_; clear k3_
  refine Do.block ?_
  refine Do.loopF [0,1,5] (fun (i : Nat) => [(5, .int .i64 ((i : Int) - 1))]) (fun (i : Nat) => []) (fun (i : Nat) => hgh a i = hgh b i ∧ i ≤ 4294967296) (fun (i : Nat) => i) (if j < k then k else j) (fun _ => by first | (simp [go_sem, mixS]; done) | (simp [go_sem, mixS]; rfl)) (St.le_of (by simp [keep]; split <;> rfl) (by simp [keep])) (⟨by rw [hza _ (by split <;> omega), hzb _ (by split <;> omega)], by split <;> omega⟩) ?_
  rintro i ⟨hi1, hi2⟩
  refine Do.seqk fun _ k4_ => ?_
  refine Do.seqk fun _ k5_ => ?_
  refine Do.region [0,1,5,15] true ?_
  simp [go_sem]
  apply k5_; clear k5_
  refine Do.cond [0,1,5] rfl (fun h => ?_) (fun h => ?_) <;> simp [go_sem] at h ⊢
  · obtain ⟨i, rfl⟩ : ∃ x, i = x + 1 := ⟨i - 1, by omega⟩
    rw [show ((i + 1 : Nat) : Int) - 1 = i by omega]
    have e1 := hi_step a i
    have e2 := hi_step b i
    refine Do.skip ?_
    simp [go_sem]
    apply k4_; clear k4_
    refine Do.seqk fun _ k6_ => ?_
    refine Do.block ?_
    refine Do.seqk fun _ k7_ => ?_
    refine Do.region [0,1,5,6,7] true ?_
    simp [go_sem]
    refine DoL.call true 403 rfl rfl rfl rfl (by first | exact trivial | omega | (simp; done) | (simp; omega)) (hda i) rfl (by first | exact .inl rfl | exact .inr rfl) rfl ?_
    simp [go_sem]
    refine DoL.call true 406 rfl rfl rfl rfl (by first | exact trivial | omega | (simp; done) | (simp; omega)) (hdb i) rfl (by first | exact .inl rfl | exact .inr rfl) rfl ?_
    simp [go_sem]
    apply k7_; clear k7_
    refine Do.block ?_
    refine Do.seqk fun _ k8_ => ?_
    refine Do.region [0,1,5,6,7,24] true ?_
    simp [go_sem]
    apply k8_; clear k8_
    refine Do.cond [0,1,5,6,7] rfl (fun h1 => ?_) (fun h1 => ?_) <;> simp [go_sem] at h1 ⊢
    · refine Do.seqk fun _ k9_ => ?_
      refine Do.region [4] true ?_
      simp [go_sem]
      apply k9_; clear k9_
      refine Do.ret ?_
      simp [endQ, rets, ret1, go_sem]
      repeat (refine And.intro (by first | omega | (intros; omega) | grind) ?_)
      have : a < b := hi_lt (i := i) (by omega)
      refine ret_i ?_
      simp [cmpP, this]
    · refine Do.seqk fun _ k10_ => ?_
      refine Do.region [0,1,5,28] true ?_
      simp [go_sem]
      apply k10_; clear k10_
      refine Do.cond [0,1,5] rfl (fun h2 => ?_) (fun h2 => ?_) <;> simp [go_sem] at h2 ⊢
      · refine Do.seqk fun _ k11_ => ?_
        refine Do.region [4] true ?_
        simp [go_sem]
        apply k11_; clear k11_
        refine Do.ret ?_
        simp [endQ, rets, ret1, go_sem]
        repeat (refine And.intro (by first | omega | (intros; omega) | grind) ?_)
        have : b < a := hi_lt (i := i) (by omega)
        refine ret_i ?_
        rw [cmpP, if_neg (by omega), if_pos this]
      · refine Do.skip ?_
        simp [go_sem]
        apply k6_; clear k6_
        refine Do.region [0,1,5] true ?_
        simp [go_sem]
        repeat (refine And.intro (by first | omega | (intros; omega) | grind) ?_)
        refine ⟨i, St.le_of (by first | rfl | simp [keep]) (by first | rfl | simp [keep]), ⟨by omega, by omega⟩, by simp⟩
  · refine Do.exit ?_
    simp [go_sem]
    apply k2_; clear k2_
    refine Do.seqk fun _ k12_ => ?_
    refine Do.region [4] true ?_
    simp [go_sem]
    apply k12_; clear k12_
    refine Do.ret ?_
    simp [endQ, rets, ret1, go_sem]
    repeat (refine And.intro (by first | omega | (intros; omega) | grind) ?_)
    refine ret_i ?_
    obtain rfl : i = 0 := by omega
    rw [hi_zero, hi_zero] at hi1
    rw [cmpP, if_neg (by omega), if_neg (by omega)]
end Go.Proofs.YtokgalpflooegaaGreatDoor
/- The digits of a product, and of a quotient by one digit. No condition. -/
namespace Go.Proofs.YtokgalpflooegaaGreatDoor
set_option linter.unusedVariables false
set_option linter.unusedSimpArgs false
variable {G : Gl}
set_option maxHeartbeats 2000000
/-- The product with the digits below i. -/
def tp (a b i : Nat) : Nat := a % 4294967296 ^ i * b
/-- What holds within the row i, at the digit t: the number Q stands in the result, c is carried. -/
def TimesI (a b k i t Q c : Nat) : Prop := Q + c * 4294967296 ^ (i + t) = tp a b i + dig a i * 4294967296 ^ i * (b % 4294967296 ^ t) ∧ Q < 4294967296 ^ (i + k) ∧ c < 4294967296
theorem TimesI.start {a b k i : Nat} (hb : b < 4294967296 ^ k) : TimesI a b k i 0 (tp a b i) 0 := by
  refine ⟨by simp [Nat.mod_one], ?_, by omega⟩
  unfold tp
  rw [Nat.pow_add]
  exact Nat.mul_lt_mul_of_lt_of_le (Nat.mod_lt _ (Hpos i)) (Nat.le_of_lt hb) (Hpos k)
theorem mul_lt_sq {x y : Nat} (hx : x < 4294967296) (hy : y < 4294967296) : x * y ≤ 18446744065119617025 := by
  have := Nat.mul_le_mul (show x ≤ 4294967295 by omega) (show y ≤ 4294967295 by omega)
  omega
theorem TimesI.next {a b j k i t Q c : Nat} (h : TimesI a b k i t Q c) (hi : i < j) (ht : t < k) : c + dig Q (i + t) + dig a i * dig b t < 18446744073709551616 ∧ ∃ Q', (dg Q (j + k)).set (i + t) ((c + dig Q (i + t) + dig a i * dig b t) % 4294967296) = dg Q' (j + k) ∧ TimesI a b k i (t + 1) Q' ((c + dig Q (i + t) + dig a i * dig b t) / 4294967296) := by
  obtain ⟨h1, h2, h3⟩ := h
  have l1 := dig_lt Q (i + t)
  have l2 := mul_lt_sq (dig_lt a i) (dig_lt b t)
  refine ⟨by omega, ?_⟩
  obtain ⟨Q', e1, e2, e3⟩ := @dg_set Q (j + k) (i + t) ((c + dig Q (i + t) + dig a i * dig b t) % 4294967296) (by omega) (Nat.mod_lt _ (by decide))
  refine ⟨Q', e1, ?_, e3 _ (by omega) h2, by omega⟩
  have hs := Nat.div_add_mod' (c + dig Q (i + t) + dig a i * dig b t) 4294967296
  have hm : (c + dig Q (i + t) + dig a i * dig b t) / 4294967296 * 4294967296 ^ (i + (t + 1)) = (c + dig Q (i + t) + dig a i * dig b t) / 4294967296 * 4294967296 * 4294967296 ^ (i + t) := by
    rw [show i + (t + 1) = i + t + 1 by omega, Nat.pow_succ, Nat.mul_comm (4294967296 ^ (i + t)), Nat.mul_assoc]
  rw [hm, low_step b t, Nat.mul_add, ← Nat.add_assoc, ← h1]
  have hd : dig a i * 4294967296 ^ i * (dig b t * 4294967296 ^ t) = dig a i * dig b t * 4294967296 ^ (i + t) := by
    rw [Nat.pow_add]; ac_rfl
  rw [hd]
  have hk : ∀ x y z : Nat, x / 4294967296 * 4294967296 + x % 4294967296 = x := fun x _ _ => Nat.div_add_mod' x _
  generalize 4294967296 ^ (i + t) = M at *
  generalize dig a i * dig b t = p at *
  generalize dig Q (i + t) = q at *
  have e4 : (c + q + p) / 4294967296 * 4294967296 * M + (c + q + p) % 4294967296 * M = (c + q + p) * M := by rw [← Nat.add_mul, hk _ 0 0]
  rw [Nat.add_mul, Nat.add_mul] at e4
  omega
theorem TimesI.out {a b j k i Q c : Nat} (h : TimesI a b k i k Q c) (hb : b < 4294967296 ^ k) (hi : i < j) : (dg Q (j + k)).set (i + k) c = dg (tp a b (i + 1)) (j + k) := by
  obtain ⟨h1, h2, h3⟩ := h
  obtain ⟨Q', e1, e2, _⟩ := @dg_set Q (j + k) (i + k) c (by omega) h3
  rw [dig_none h2 (Nat.le_refl _), Nat.zero_mul, Nat.add_zero, h1, Nat.mod_eq_of_lt hb] at e2
  rw [e1, e2]
  unfold tp
  rw [low_step a i, Nat.add_mul]
theorem tp_zero (a b : Nat) : tp a b 0 = 0 := by simp [tp, Nat.mod_one]
theorem tp_end {a b j : Nat} (ha : a < 4294967296 ^ j) : tp a b j = a * b := by rw [tp, Nat.mod_eq_of_lt ha]
theorem Times_does {a b j k : Nat} (ha : a < 4294967296 ^ j) (hb : b < 4294967296 ^ k) (hj : j ≤ 4294967296) (hk : k ≤ 4294967296) : Does Tryz.prog G 164 [Wd (dg a j), Wd (dg b k)] (.v (Wn (dg (a * b) (j + k)))) := by
  have hend := @tp_end a b j ha
  have hst := fun i => @TimesI.start a b k i hb
  have hout := fun i Q c (h : TimesI a b k i k Q c) hi => @TimesI.out a b j k i Q c h hb hi
  clear ha hb
  refine Does.of (nt := 62) Tryz.func164 rfl rfl rfl (by simp) ?_
  simp only [argTm, PV.ext, Ce.ext]
  refine Do.seqk fun _ k1_ => ?_
  refine Do.region [0,1] true ?_
  simp [go_sem, -List.reduceReplicate]
  apply k1_; clear k1_
  refine Do.seqk fun _ k2_ => ?_
  refine Do.region [0,1,5] true ?_
  simp [go_sem, -List.reduceReplicate]
  repeat (refine And.intro (by first | omega | (intros; omega) | grind) ?_)
  apply k2_; clear k2_
  refine Do.seqk fun _ k3_ => ?_
  refine Do.seqk fun _ k4_ => ?_
  refine Do.region [0,1,5,6] true ?_
  simp [go_sem, -List.reduceReplicate]
  apply k4_; clear k4_
  refine Do.block ?_
  rw [show ((j : Int) + k).toNat = j + k by omega, dg_zero]
  refine Do.loopF [0,1,5,6] (fun (i : Nat) => [(6, .int .i64 i)]) (fun (i : Nat) => [(105, .wr (dg (tp a b i) (j + k)))]) (fun (i : Nat) => i ≤ j) (fun (i : Nat) => j - i) (0) (fun _ => by first | (simp [go_sem, mixS]; done) | (simp [go_sem, mixS]; rfl)) (St.le_of (by simp [keep, tp_zero]) (by simp [keep, tp_zero])) (Nat.zero_le _) ?_
  intro i hi
  refine Do.seqk fun _ k5_ => ?_
  refine Do.seqk fun _ k6_ => ?_
  refine Do.region [0,1,5,6,18] true ?_
  simp [go_sem, -List.reduceReplicate]
  repeat (refine And.intro (by first | omega | (intros; omega) | grind) ?_)
  apply k6_; clear k6_
  refine Do.cond [0,1,5,6] rfl (fun h => ?_) (fun h => ?_) <;> simp [go_sem, -List.reduceReplicate] at h ⊢
  · refine Do.skip ?_
    simp [go_sem]
    apply k5_; clear k5_
    refine Do.seqk fun _ k7_ => ?_
    refine Do.block ?_
    refine Do.seqk fun _ k8_ => ?_
    refine Do.region [0,1,5,6,7] true ?_
    simp [go_sem, -List.reduceReplicate]
    apply k8_; clear k8_
    refine Do.seqk fun _ k9_ => ?_
    refine Do.seqk fun _ k10_ => ?_
    refine Do.region [0,1,5,6,7,8] true ?_
    simp [go_sem, -List.reduceReplicate]
    apply k10_; clear k10_
    refine Do.block ?_
    refine Do.loopF [0,1,5,6,7,8] (fun (s : Nat × Nat × Nat) => [(7, .v (.c (.n s.2.2))), (8, .int .i64 s.1)]) (fun (s : Nat × Nat × Nat) => [(105, .wr (dg s.2.1 (j + k)))]) (fun (s : Nat × Nat × Nat) => s.1 ≤ k ∧ TimesI a b k i s.1 s.2.1 s.2.2) (fun (s : Nat × Nat × Nat) => k - s.1) ((0, tp a b i, 0)) (fun _ => by first | (simp [go_sem, mixS]; done) | (simp [go_sem, mixS]; rfl)) (St.le_of (by first | rfl | simp [keep]) (by first | rfl | simp [keep])) (⟨Nat.zero_le _, hst i⟩) ?_
    rintro ⟨t, Q, c⟩ ⟨ht, hI⟩
    simp only at ht hI
    refine Do.seqk fun _ k11_ => ?_
    refine Do.seqk fun _ k12_ => ?_
    refine Do.region [0,1,5,6,7,8,24] true ?_
    simp [go_sem, -List.reduceReplicate]
    repeat (refine And.intro (by first | omega | (intros; omega) | grind) ?_)
    apply k12_; clear k12_
    refine Do.cond [0,1,5,6,7,8] rfl (fun h2 => ?_) (fun h2 => ?_) <;> simp [go_sem, -List.reduceReplicate] at h2 ⊢
    · obtain ⟨hb1, Q', e1, hI'⟩ := hI.next h h2
      have g1 := @dg_dig (j + k) Q (i + t) (by omega)
      have g2 := @dg_dig j a i h
      have g3 := @dg_dig k b t h2
      have l1 := dig_lt Q (i + t)
      have l2 := mul_lt_sq (dig_lt a i) (dig_lt b t)
      have hc := hI.2.2
      have b1 : c + dig Q (i + t) + dig a i * dig b t < M64 := hb1
      have b2 : c + dig Q (i + t) < M64 := by unfold M64; omega
      have b3 : dig a i * dig b t < M64 := by unfold M64; omega
      refine Do.skip ?_
      simp [go_sem]
      apply k11_; clear k11_
      refine Do.seqk fun _ k13_ => ?_
      refine Do.block ?_
      refine Do.seqk fun _ k14_ => ?_
      refine Do.draw [0,1,5,6,7,8] true (by kernel_rfl) ?_
      simp [go_sem, g1, g2, g3, b1, b2, b3, show ((i : Int) + t).toNat = i + t by omega]
      repeat (refine And.intro (by first | omega | (intros; omega) | kernel_rfl | grind) ?_)
      try (refine And.intro (by kernel_rfl) ?_)
      apply k14_; clear k14_
      refine Do.seqk fun _ k15_ => ?_
      refine Do.region [0,1,5,6,7,8] true ?_
      simp [go_sem, g1, g2, g3, b1, b2, b3, show ((i : Int) + t).toNat = i + t by omega]
      repeat (refine And.intro (by first | omega | (intros; omega) | grind) ?_)
      apply k15_; clear k15_
      refine Do.region [0,1,5,6,7,8] true ?_
      simp [go_sem, g1, g2, g3, b1, b2, b3, show ((i : Int) + t).toNat = i + t by omega]
      repeat (refine And.intro (by first | omega | (intros; omega) | grind) ?_)
      apply k13_; clear k13_
      refine Do.region [0,1,5,6,7,8] true ?_
      simp [go_sem, g1, g2, g3, b1, b2, b3, show ((i : Int) + t).toNat = i + t by omega]
      repeat (refine And.intro (by first | omega | (intros; omega) | grind) ?_)
      refine ⟨(t + 1, Q', (c + dig Q (i + t) + dig a i * dig b t) / 4294967296), St.le_of rfl (by simp [keep, e1]), ⟨by omega, hI'⟩, by simp; omega⟩
    · obtain rfl : t = k := by omega
      have ho := hout i Q c hI h
      refine Do.exit ?_
      simp [go_sem]
      apply k9_; clear k9_
      refine Do.region [0,1,5,6] true ?_
      simp [go_sem, show ((i : Int) + t).toNat = i + t by omega]
      repeat (refine And.intro (by first | omega | (intros; omega) | grind) ?_)
      apply k7_; clear k7_
      refine Do.region [0,1,5,6] true ?_
      simp [go_sem, show ((i : Int) + t).toNat = i + t by omega]
      repeat (refine And.intro (by first | omega | (intros; omega) | grind) ?_)
      refine ⟨i + 1, St.le_of rfl (by simp [keep, ho]), by omega, by simp; omega⟩
  · refine Do.exit ?_
    simp [go_sem]
    apply k3_; clear k3_
    refine Do.seqk fun _ k16_ => ?_
    refine Do.region [4] true ?_
    simp [go_sem, -List.reduceReplicate]
    apply k16_; clear k16_
    refine Do.ret ?_
    simp [endQ, rets, ret1, go_sem, -List.reduceReplicate]
    repeat (refine And.intro (by first | omega | (intros; omega) | grind) ?_)
    obtain rfl : i = j := by omega
    rw [hend]
    exact TLe.refl _
end Go.Proofs.YtokgalpflooegaaGreatDoor
/- A quotient by one digit; shifts of digits. No condition. -/
namespace Go.Proofs.YtokgalpflooegaaGreatDoor
set_option linter.unusedVariables false
set_option linter.unusedSimpArgs false
variable {G : Gl}
set_option maxHeartbeats 2000000
set_option maxRecDepth 10000
/-- The quotient of the digits from i on, at its place. -/
def qf (a w i : Nat) : Nat := hgh a i / w * 4294967296 ^ i
theorem qf_zero (a w : Nat) : qf a w 0 = a / w := by simp [qf, hi_zero]
theorem qf_step {a w j i : Nat} (h : i < j) (hw : 0 < w) (hw' : w < 4294967296) : hgh a (i + 1) % w * 4294967296 + dig a i < 18446744073709551616 ∧ (dg (qf a w (i + 1)) j).set i ((hgh a (i + 1) % w * 4294967296 + dig a i) / w) = dg (qf a w i) j ∧ (hgh a (i + 1) % w * 4294967296 + dig a i) % w = hgh a i % w := by
  have l1 := dig_lt a i
  have l2 := Nat.mod_lt (hgh a (i + 1)) hw
  have e0 := Nat.div_add_mod (hgh a (i + 1)) w
  have e1 := hi_step a i
  have l3 : (hgh a (i + 1) % w * 4294967296 + dig a i) / w < 4294967296 := by
    rw [Nat.div_lt_iff_lt_mul hw]
    have : (hgh a (i + 1) % w + 1) * 4294967296 ≤ w * 4294967296 := Nat.mul_le_mul_right _ l2
    omega
  obtain ⟨Q', e2, e3, _⟩ := @dg_set (qf a w (i + 1)) j i _ h l3
  have e4 : hgh a i = hgh a (i + 1) % w * 4294967296 + dig a i + w * (hgh a (i + 1) / w * 4294967296) := by
    rw [e1]
    conv => lhs; rw [← e0]
    rw [Nat.add_mul, Nat.mul_assoc]; omega
  refine ⟨by omega, ?_, by rw [e4, Nat.add_mul_mod_self_left]⟩
  rw [e2]
  congr 1
  have e5 : dig (qf a w (i + 1)) i = 0 := by
    rw [qf, Nat.pow_succ, ← Nat.mul_assoc, Nat.mul_right_comm]
    unfold dig
    rw [Nat.mul_div_cancel _ (Hpos i), Nat.mul_mod_left]
  rw [e5, Nat.zero_mul, Nat.add_zero] at e3
  rw [e3, qf, qf, e4, Nat.add_mul_div_left _ _ hw, Nat.add_mul, Nat.pow_succ]
  have : hgh a (i + 1) / w * (4294967296 ^ i * 4294967296) = hgh a (i + 1) / w * 4294967296 * 4294967296 ^ i := by ac_rfl
  omega
theorem qf_top {a w j : Nat} (ha : a < 4294967296 ^ j) : qf a w j = 0 := by rw [qf, hi_none ha (Nat.le_refl _)]; simp
theorem one_does {a w j : Nat} (ha : a < 4294967296 ^ j) (hw : 0 < w) (hw' : w < 4294967296) (hj : j ≤ 4294967296) : Does Tryz.prog G 191 [Wd (dg a j), .c (.n w)] (.t [Wn (dg (a / w) j), Wn [a % w]]) := by
  have htop := @qf_top a w j ha
  have hz := @hi_none a j ha j (Nat.le_refl _)
  have h00 := qf_zero a w
  have h01 := hi_zero a
  have hst := fun i (h : i < j) => @qf_step a w j i h hw hw'
  clear ha
  refine Does.of (nt := 38) Tryz.func191 rfl rfl rfl (by simp) ?_
  simp only [argTm, PV.ext, Ce.ext]
  refine Do.seqk fun _ k1_ => ?_
  refine Do.region [0,1] true ?_
  simp [go_sem, -List.reduceReplicate]
  apply k1_; clear k1_
  refine Do.seqk fun _ k2_ => ?_
  refine Do.region [0,1,6] true ?_
  simp [go_sem, -List.reduceReplicate]
  repeat (refine And.intro (by first | omega | (intros; omega) | grind) ?_)
  apply k2_; clear k2_
  refine Do.seqk fun _ k3_ => ?_
  refine Do.region [0,1,6,7] true ?_
  simp [go_sem, -List.reduceReplicate]
  apply k3_; clear k3_
  refine Do.seqk fun _ k4_ => ?_
  refine Do.seqk fun _ k5_ => ?_
  refine Do.region [0,1,6,7,8] true ?_
  simp [go_sem, -List.reduceReplicate]
  repeat (refine And.intro (by first | omega | (intros; omega) | grind) ?_)
  apply k5_; clear k5_
  refine Do.block ?_
  rw [dg_zero]
  refine Do.loopF [0,1,6,7,8] (fun (i : Nat) => [(7, .v (.c (.n (hgh a i % w)))), (8, .int .i64 ((i : Int) - 1))]) (fun (i : Nat) => [(102, .wr (dg (qf a w i) j))]) (fun (i : Nat) => i ≤ j) (fun (i : Nat) => i) (j) (fun _ => by first | (simp [go_sem, mixS]; done) | (simp [go_sem, mixS]; rfl)) (St.le_of (by simp [keep, htop, hz]) (by simp [keep, htop, hz])) (Nat.le_refl _) ?_
  intro i hi
  refine Do.seqk fun _ k6_ => ?_
  refine Do.seqk fun _ k7_ => ?_
  refine Do.region [0,1,6,7,8,16] true ?_
  simp [go_sem, -List.reduceReplicate]
  apply k7_; clear k7_
  refine Do.cond [0,1,6,7,8] rfl (fun h => ?_) (fun h => ?_) <;> simp [go_sem, -List.reduceReplicate] at h ⊢
  · obtain ⟨i, rfl⟩ : ∃ x, i = x + 1 := ⟨i - 1, by omega⟩
    rw [show ((i + 1 : Nat) : Int) - 1 = i by omega]
    have hs := hst i (by omega)
    have g1 := @dg_dig j a i (by omega)
    have b1 : hgh a (i + 1) % w * 4294967296 + dig a i < M64 := hs.1
    have b2 : hgh a (i + 1) % w * 4294967296 < M64 := Nat.lt_of_le_of_lt (Nat.le_add_right _ _) b1
    refine Do.skip ?_
    simp [go_sem]
    apply k6_; clear k6_
    refine Do.seqk fun _ k8_ => ?_
    refine Do.block ?_
    refine Do.seqk fun _ k9_ => ?_
    refine Do.region [0,1,6,7,8] true ?_
    simp [go_sem, g1, b1, b2, Nat.ne_of_gt hw]
    repeat (refine And.intro (by first | omega | (intros; omega) | grind) ?_)
    apply k9_; clear k9_
    refine Do.seqk fun _ k10_ => ?_
    refine Do.region [0,1,6,7,8] true ?_
    simp [go_sem, g1, b1, b2, Nat.ne_of_gt hw]
    repeat (refine And.intro (by first | omega | (intros; omega) | grind) ?_)
    apply k10_; clear k10_
    refine Do.region [0,1,6,7,8] true ?_
    simp [go_sem, g1, b1, b2, Nat.ne_of_gt hw]
    repeat (refine And.intro (by first | omega | (intros; omega) | grind) ?_)
    apply k8_; clear k8_
    refine Do.region [0,1,6,7,8] true ?_
    simp [go_sem, g1, b1, b2, Nat.ne_of_gt hw]
    repeat (refine And.intro (by first | omega | (intros; omega) | grind) ?_)
    refine ⟨i, St.le_of (by simp [keep, hs.2.2]) (by simp [keep, hs.2.1]), by omega, by simp⟩
  · refine Do.exit ?_
    simp [go_sem]
    apply k4_; clear k4_
    refine Do.seqk fun _ k11_ => ?_
    refine Do.region [4,5] true ?_
    simp [go_sem, -List.reduceReplicate]
    apply k11_; clear k11_
    refine Do.ret ?_
    simp [endQ, rets, ret1, go_sem, -List.reduceReplicate]
    repeat (refine And.intro (by first | omega | (intros; omega) | grind) ?_)
    obtain rfl : i = 0 := by omega
    rw [h00, h01]
    exact TLe.refl _
theorem Left01_does {x : List Nat} {s : Nat} (hx : x.length ≤ 1073741823) (hw : Ws x) (hs : s < 64) : ∃ row hig, Does Tryz.prog G 158 [Wd x, .c (.i .i64 s)] (.t [Wn row, .c (.n hig)]) ∧ Ws row ∧ hig < 18446744073709551616 ∧ row.length = x.length ∧ val row + 18446744073709551616 ^ x.length * hig = val x * 2 ^ s := by
  have hv := val_lt hw
  have h2 : 2 ^ s < 18446744073709551616 := Nat.lt_of_lt_of_le (Nat.pow_lt_pow_right (by decide) hs) (by decide)
  have hN : val x * 2 ^ s < 18446744073709551616 ^ (x.length + 1) := by
    rw [Nat.pow_succ]
    exact Nat.mul_lt_mul_of_lt_of_le hv (Nat.le_of_lt h2) (by decide)
  have hT := @Times_does G (val x) (2 ^ s) (2 * x.length) 2 (by rwa [← HB]) (show 2 ^ s < 4294967296 ^ 2 from h2) (by omega) (by omega)
  have hC := @Cut_does G (val x * 2 ^ s) (2 * x.length + 2) x.length (by omega) (by omega) (by rw [show 2 * x.length + 2 = 2 * (x.length + 1) by omega, ← HB]; exact hN)
  have hD := @Digits_does G x (by omega) hw
  have hW := @Word_does G (2 ^ s) h2
  refine ⟨wds (val x * 2 ^ s) x.length, val x * 2 ^ s / 18446744073709551616 ^ x.length % 18446744073709551616, ?_, wds_ws _ _, Nat.mod_lt _ (by decide), wds_len _ _, ?_⟩
  · generalize val x * 2 ^ s / 18446744073709551616 ^ x.length % 18446744073709551616 = z at *
    generalize val x * 2 ^ s = N at *
    clear hN hv
    refine Does.of (nt := 17) Tryz.func158 rfl rfl rfl (by simp) ?_
    simp only [argTm, PV.ext, Ce.ext]
    refine Do.seqk fun _ k1_ => ?_
    refine Do.region [0,1] true ?_
    simp [go_sem, show 2 ^ s % M64 = 2 ^ s from Nat.mod_eq_of_lt h2]
    apply k1_; clear k1_
    refine Do.seqk fun _ k2_ => ?_
    refine Do.draw [4,5] true (by kernel_rfl) ?_
    simp [go_sem, show 2 ^ s % M64 = 2 ^ s from Nat.mod_eq_of_lt h2]
    refine DoLD.call true 102 rfl rfl rfl rfl (by first | exact trivial | omega | (simp; done) | (simp; omega)) (hD) rfl (by first | exact .inl rfl | exact .inr rfl) rfl ?_
    simp [go_sem, show 2 ^ s % M64 = 2 ^ s from Nat.mod_eq_of_lt h2]
    repeat (refine And.intro (by first | omega | (intros; omega) | kernel_rfl | grind) ?_)
    refine DoLD.call true 105 rfl rfl rfl rfl (by first | exact trivial | omega | (simp; done) | (simp; omega)) (hW) rfl (by first | exact .inl rfl | exact .inr rfl) rfl ?_
    simp [go_sem, show 2 ^ s % M64 = 2 ^ s from Nat.mod_eq_of_lt h2]
    refine DoLD.call true 106 rfl rfl rfl rfl (by first | exact trivial | omega | (simp; done) | (simp; omega)) (hT) rfl (by first | exact .inl rfl | exact .inr rfl) rfl ?_
    simp [go_sem, show 2 ^ s % M64 = 2 ^ s from Nat.mod_eq_of_lt h2]
    repeat (refine And.intro (by first | omega | (intros; omega) | kernel_rfl | grind) ?_)
    refine DoLD.call true 109 rfl rfl rfl rfl (by first | exact trivial | omega | (simp; done) | (simp; omega)) (hC) rfl (by first | exact .inl rfl | exact .inr rfl) rfl ?_
    simp [go_sem, show 2 ^ s % M64 = 2 ^ s from Nat.mod_eq_of_lt h2]
    try (refine And.intro (by kernel_rfl) ?_)
    apply k2_; clear k2_
    refine Do.ret ?_
    simp [endQ, rets, ret1, go_sem, show 2 ^ s % M64 = 2 ^ s from Nat.mod_eq_of_lt h2]
    repeat (refine And.intro (by first | omega | (intros; omega) | grind) ?_)
    exact TLe.refl _
  · rw [val_wds, Nat.add_comm]
    have := Nat.div_add_mod (val x * 2 ^ s) (18446744073709551616 ^ x.length)
    rw [Nat.mod_eq_of_lt (show val x * 2 ^ s / 18446744073709551616 ^ x.length < 18446744073709551616 by
      rw [Nat.div_lt_iff_lt_mul (Nat.pow_pos (by decide))]; rw [Nat.pow_succ, Nat.mul_comm (18446744073709551616 ^ _)] at hN; exact hN)]
    exact this
theorem RLeft_does {x : List Nat} {s : Nat} (hx : x.length ≤ 536870912) (hw : Ws x) (hs : s ≤ 4294967296) : Does Tryz.prog G 101 [Wd x, .c (.i .i64 s)] (.v (Wn (nat (val x * 2 ^ s)))) := by
  obtain ⟨row, hig, hD, h1, h2, h3, h4⟩ := @Left01_does G x (s % 64) (by omega) hw (Nat.mod_lt _ (by decide))
  have hT := @RTrim_does G (List.replicate (s / 64) 0 ++ row ++ [hig]) (by simp; omega) (by
    intro w hw
    simp only [List.mem_append, List.mem_replicate, List.mem_singleton] at hw
    rcases hw with (hw | hw) | hw
    · omega
    · exact h1 w hw
    · omega)
  have hv : val (List.replicate (s / 64) 0 ++ row ++ [hig]) = val x * 2 ^ s := by
    rw [List.append_assoc, val_append, val_zeros, val_append, h3, List.length_replicate, Nat.zero_add, show val [hig] = hig by simp [val], h4, B64_pow, Nat.mul_left_comm, ← Nat.pow_add, show 64 * (s / 64) + s % 64 = s by omega]
  rw [hv] at hT
  generalize val x * 2 ^ s = N at *
  rw [List.append_assoc] at hT
  refine Does.of (nt := 26) Tryz.func101 rfl rfl rfl (by simp) ?_
  simp only [argTm, PV.ext, Ce.ext]
  refine Do.seqk fun _ k1_ => ?_
  refine Do.region [0,1] true ?_
  simp [go_sem, -List.reduceReplicate, show ((s : Int) / 64).toNat = s / 64 by omega]
  apply k1_; clear k1_
  refine Do.seqk fun _ k2_ => ?_
  refine Do.region [1,5,6] true ?_
  simp [go_sem, -List.reduceReplicate, show ((s : Int) / 64).toNat = s / 64 by omega]
  repeat (refine And.intro (by first | omega | (intros; omega) | grind) ?_)
  refine DoL.call true 104 rfl rfl rfl rfl (by first | exact trivial | omega | (simp; done) | (simp; omega)) (hD) rfl (by first | exact .inl rfl | exact .inr rfl) rfl ?_
  simp [go_sem, -List.reduceReplicate, show ((s : Int) / 64).toNat = s / 64 by omega]
  apply k2_; clear k2_
  refine Do.seqk fun _ k3_ => ?_
  refine Do.region [5,6,7] true ?_
  simp [go_sem, -List.reduceReplicate, show ((s : Int) / 64).toNat = s / 64 by omega]
  repeat (refine And.intro (by first | omega | (intros; omega) | grind) ?_)
  apply k3_; clear k3_
  refine Do.seqk fun _ k4_ => ?_
  refine Do.region [6,7] true ?_
  simp [go_sem, -List.reduceReplicate, show ((s : Int) / 64).toNat = s / 64 by omega]
  repeat (refine And.intro (by first | omega | (intros; omega) | grind) ?_)
  apply k4_; clear k4_
  refine Do.seqk fun _ k5_ => ?_
  refine Do.region [4] true ?_
  simp [go_sem, -List.reduceReplicate, show ((s : Int) / 64).toNat = s / 64 by omega]
  repeat (refine And.intro (by first | omega | (intros; omega) | grind) ?_)
  refine DoL.frz true 404 202 rfl ?_
  simp [go_sem]
  refine DoL.call true 405 rfl rfl rfl rfl (by first | exact trivial | omega | (simp; done) | (simp; omega)) (hT) rfl (by first | exact .inl rfl | exact .inr rfl) rfl ?_
  simp [go_sem, -List.reduceReplicate, show ((s : Int) / 64).toNat = s / 64 by omega]
  apply k5_; clear k5_
  refine Do.ret ?_
  simp [endQ, rets, ret1, go_sem, -List.reduceReplicate, show ((s : Int) / 64).toNat = s / 64 by omega]
  repeat (refine And.intro (by first | omega | (intros; omega) | grind) ?_)
  exact TLe.refl _
end Go.Proofs.YtokgalpflooegaaGreatDoor
/- Sums, differences, products of the reference's natural numbers. No condition. -/
namespace Go.Proofs.YtokgalpflooegaaGreatDoor
set_option linter.unusedVariables false
set_option linter.unusedSimpArgs false
variable {G : Gl}
set_option maxHeartbeats 2000000
theorem ws_dg {x : List Nat} (hw : Ws x) : val x < 4294967296 ^ (2 * x.length) := by rw [← HB]; exact val_lt hw
theorem sum_lt {a b j k : Nat} (ha : a < 4294967296 ^ j) (hb : b < 4294967296 ^ k) : a + b < 4294967296 ^ ((if j < k then k else j) + 1) := by
  have h1 : a < 4294967296 ^ (if j < k then k else j) := Nat.lt_of_lt_of_le ha (Nat.pow_le_pow_right (by decide) (by split <;> omega))
  have h2 : b < 4294967296 ^ (if j < k then k else j) := Nat.lt_of_lt_of_le hb (Nat.pow_le_pow_right (by decide) (by split <;> omega))
  rw [Nat.pow_succ]; omega
theorem mul_lt {a b j k : Nat} (ha : a < 4294967296 ^ j) (hb : b < 4294967296 ^ k) : a * b < 4294967296 ^ (j + k) := by
  rw [Nat.pow_add]; exact Nat.mul_lt_mul_of_lt_of_le ha (Nat.le_of_lt hb) (Hpos k)
theorem RAdd_does {x y : List Nat} (hx : x.length ≤ 536870912) (wx : Ws x) (hy : y.length ≤ 536870912) (wy : Ws y) : Does Tryz.prog G 75 [Wd x, Wd y] (.v (Wn (nat (val x + val y)))) := by
  have hP := @Plus_r_does G (val x) (val y) (2 * x.length) (2 * y.length) _ (ws_dg wx) (ws_dg wy) (by omega) (by omega) rfl
  have hn := @rnat_does G (val x + val y) ((if 2 * x.length < 2 * y.length then 2 * y.length else 2 * x.length) + 1) (by split <;> omega) (sum_lt (ws_dg wx) (ws_dg wy))
  generalize (if 2 * x.length < 2 * y.length then 2 * y.length else 2 * x.length) + 1 = m at *
  generalize val x + val y = N at *
  have hA := @Digits_does G x (by omega) wx
  have hB := @Digits_does G y (by omega) wy
  refine Does.of (nt := 11) Tryz.func75 rfl rfl rfl (by simp) ?_
  simp only [argTm, PV.ext, Ce.ext]
  refine Do.seqk fun _ k1_ => ?_
  refine Do.region [0,1] true ?_
  simp [go_sem]
  apply k1_; clear k1_
  refine Do.seqk fun _ k2_ => ?_
  refine Do.region [4] true ?_
  simp [go_sem]
  refine DoL.call true 102 rfl rfl rfl rfl (by first | exact trivial | omega | (simp; done) | (simp; omega)) (hA) rfl (by first | exact .inl rfl | exact .inr rfl) rfl ?_
  simp [go_sem]
  refine DoL.call true 104 rfl rfl rfl rfl (by first | exact trivial | omega | (simp; done) | (simp; omega)) (hB) rfl (by first | exact .inl rfl | exact .inr rfl) rfl ?_
  simp [go_sem]
  refine DoL.call true 105 rfl rfl rfl rfl (by first | exact trivial | omega | (simp; done) | (simp; omega)) (hP) rfl (by first | exact .inl rfl | exact .inr rfl) rfl ?_
  simp [go_sem]
  refine DoL.call true 106 rfl rfl rfl rfl (by first | exact trivial | omega | (simp; done) | (simp; omega)) (hn) rfl (by first | exact .inl rfl | exact .inr rfl) rfl ?_
  simp [go_sem]
  apply k2_; clear k2_
  refine Do.ret ?_
  simp [endQ, rets, ret1, go_sem]
  repeat (refine And.intro (by first | omega | (intros; omega) | grind) ?_)
  exact TLe.refl _
theorem RSub_does {x y : List Nat} (hx : x.length ≤ 536870912) (wx : Ws x) (hy : y.length ≤ 536870912) (wy : Ws y) (h : val y ≤ val x) : Does Tryz.prog G 134 [Wd x, Wd y] (.v (Wn (nat (val x - val y)))) := by
  have l1 := ws_dg wx
  obtain ⟨d, hd, he⟩ := less_ex l1 (Nat.lt_of_le_of_lt h l1)
  have he := he h
  subst he
  have hu : decide (val x < val y) = false := by simp; omega
  rw [hu] at hd
  have hl : (nat (val y)).length ≤ y.length := nat_len_le wy (Nat.le_refl _)
  have hb := @Digits_does G (nat (val y)) (by omega) (nat_ws _)
  rw [val_nat] at hb
  have hM := @Minus_r_does G (val x) (val y) (val x - val y) (2 * x.length) (2 * (nat (val y)).length) false (by have := ws_dg (nat_ws (val y)); rwa [val_nat] at this) hd (by omega)
  have hn := @rnat_does G (val x - val y) (2 * x.length) (by omega) hd.2.2.2
  have hA := @Digits_does G x (by omega) wx
  have hT := @RTrim_does G y (by omega) wy
  clear hd h hu l1
  generalize 2 * (nat (val y)).length = m at *
  generalize val x - val y = N at *
  refine Does.of (nt := 18) Tryz.func134 rfl rfl rfl (by simp) ?_
  simp only [argTm, PV.ext, Ce.ext]
  refine Do.seqk fun _ k1_ => ?_
  refine Do.region [0,1] true ?_
  simp [go_sem]
  apply k1_; clear k1_
  refine Do.seqk fun _ k2_ => ?_
  refine Do.region [5] true ?_
  simp [go_sem]
  refine DoL.call true 102 rfl rfl rfl rfl (by first | exact trivial | omega | (simp; done) | (simp; omega)) (hA) rfl (by first | exact .inl rfl | exact .inr rfl) rfl ?_
  simp [go_sem]
  refine DoL.call true 104 rfl rfl rfl rfl (by first | exact trivial | omega | (simp; done) | (simp; omega)) (hT) rfl (by first | exact .inl rfl | exact .inr rfl) rfl ?_
  simp [go_sem]
  refine DoL.call true 105 rfl rfl rfl rfl (by first | exact trivial | omega | (simp; done) | (simp; omega)) (hb) rfl (by first | exact .inl rfl | exact .inr rfl) rfl ?_
  simp [go_sem]
  refine DoL.call true 106 rfl rfl rfl rfl (by first | exact trivial | omega | (simp; done) | (simp; omega)) (hM) rfl (by first | exact .inl rfl | exact .inr rfl) rfl ?_
  simp [go_sem]
  apply k2_; clear k2_
  refine Do.seqk fun _ k3_ => ?_
  refine Do.region [4] true ?_
  simp [go_sem]
  refine DoL.call true 202 rfl rfl rfl rfl (by first | exact trivial | omega | (simp; done) | (simp; omega)) (hn) rfl (by first | exact .inl rfl | exact .inr rfl) rfl ?_
  simp [go_sem]
  apply k3_; clear k3_
  refine Do.ret ?_
  simp [endQ, rets, ret1, go_sem]
  repeat (refine And.intro (by first | omega | (intros; omega) | grind) ?_)
  exact TLe.refl _
theorem RMul_does {x y : List Nat} (hx : x.length ≤ 536870912) (wx : Ws x) (hy : y.length ≤ 536870912) (wy : Ws y) : Does Tryz.prog G 108 [Wd x, Wd y] (.v (Wn (nat (val x * val y)))) := by
  have hP := @Times_does G (val x) (val y) (2 * x.length) (2 * y.length) (ws_dg wx) (ws_dg wy) (by omega) (by omega)
  have hn := @rnat_does G (val x * val y) (2 * x.length + 2 * y.length) (by omega) (mul_lt (ws_dg wx) (ws_dg wy))
  generalize val x * val y = N at *
  have hA := @Digits_does G x (by omega) wx
  have hB := @Digits_does G y (by omega) wy
  refine Does.of (nt := 11) Tryz.func108 rfl rfl rfl (by simp) ?_
  simp only [argTm, PV.ext, Ce.ext]
  refine Do.seqk fun _ k1_ => ?_
  refine Do.region [0,1] true ?_
  simp [go_sem]
  apply k1_; clear k1_
  refine Do.seqk fun _ k2_ => ?_
  refine Do.region [4] true ?_
  simp [go_sem]
  refine DoL.call true 102 rfl rfl rfl rfl (by first | exact trivial | omega | (simp; done) | (simp; omega)) (hA) rfl (by first | exact .inl rfl | exact .inr rfl) rfl ?_
  simp [go_sem]
  refine DoL.call true 104 rfl rfl rfl rfl (by first | exact trivial | omega | (simp; done) | (simp; omega)) (hB) rfl (by first | exact .inl rfl | exact .inr rfl) rfl ?_
  simp [go_sem]
  refine DoL.call true 105 rfl rfl rfl rfl (by first | exact trivial | omega | (simp; done) | (simp; omega)) (hP) rfl (by first | exact .inl rfl | exact .inr rfl) rfl ?_
  simp [go_sem]
  refine DoL.call true 106 rfl rfl rfl rfl (by first | exact trivial | omega | (simp; done) | (simp; omega)) (hn) rfl (by first | exact .inl rfl | exact .inr rfl) rfl ?_
  simp [go_sem]
  apply k2_; clear k2_
  refine Do.ret ?_
  simp [endQ, rets, ret1, go_sem]
  repeat (refine And.intro (by first | omega | (intros; omega) | grind) ?_)
  exact TLe.refl _
theorem RCmp_does {x y : List Nat} (hx : x.length ≤ 536870912) (wx : Ws x) (hy : y.length ≤ 536870912) (wy : Ws y) : Does Tryz.prog G 42 [Wd x, Wd y] (.int .i64 (cmpP (val x) (val y))) := by
  have hP := @Compare_does G (val x) (val y) (2 * x.length) (2 * y.length) (ws_dg wx) (ws_dg wy) (by omega) (by omega)
  have hA := @Digits_does G x (by omega) wx
  have hB := @Digits_does G y (by omega) wy
  refine Does.of (nt := 10) Tryz.func42 rfl rfl rfl (by simp) ?_
  simp only [argTm, PV.ext, Ce.ext]
  refine Do.seqk fun _ k1_ => ?_
  refine Do.region [0,1] true ?_
  simp [go_sem]
  apply k1_; clear k1_
  refine Do.seqk fun _ k2_ => ?_
  refine Do.region [4] true ?_
  simp [go_sem]
  refine DoL.call true 102 rfl rfl rfl rfl (by first | exact trivial | omega | (simp; done) | (simp; omega)) (hA) rfl (by first | exact .inl rfl | exact .inr rfl) rfl ?_
  simp [go_sem]
  refine DoL.call true 104 rfl rfl rfl rfl (by first | exact trivial | omega | (simp; done) | (simp; omega)) (hB) rfl (by first | exact .inl rfl | exact .inr rfl) rfl ?_
  simp [go_sem]
  refine DoL.call true 105 rfl rfl rfl rfl (by first | exact trivial | omega | (simp; done) | (simp; omega)) (hP) rfl (by first | exact .inl rfl | exact .inr rfl) rfl ?_
  simp [go_sem]
  apply k2_; clear k2_
  refine Do.ret ?_
  simp [endQ, rets, ret1, go_sem]
  repeat (refine And.intro (by first | omega | (intros; omega) | grind) ?_)
  exact TLe.refl _
theorem RWord_does {w : Nat} (hw : w < 18446744073709551616) : Does Tryz.prog G 76 [.c (.n w)] (.v (Wn (nat w))) := by
  have hn := @rnat_does G w 2 (by omega) (show w < 4294967296 ^ 2 from hw)
  refine Does.of (nt := 6) Tryz.func76 rfl rfl rfl (by simp) ?_
  simp only [argTm, PV.ext, Ce.ext]
  refine Do.seqk fun _ k1_ => ?_
  refine Do.region [0] true ?_
  simp [go_sem]
  apply k1_; clear k1_
  refine Do.seqk fun _ k2_ => ?_
  refine Do.region [2] true ?_
  simp [go_sem]
  refine DoL.call true 102 rfl rfl rfl rfl (by first | exact trivial | omega | (simp; done) | (simp; omega)) (Word_does hw) rfl (by first | exact .inl rfl | exact .inr rfl) rfl ?_
  simp [go_sem]
  refine DoL.call true 103 rfl rfl rfl rfl (by first | exact trivial | omega | (simp; done) | (simp; omega)) (hn) rfl (by first | exact .inl rfl | exact .inr rfl) rfl ?_
  simp [go_sem]
  apply k2_; clear k2_
  refine Do.ret ?_
  simp [endQ, rets, ret1, go_sem]
  repeat (refine And.intro (by first | omega | (intros; omega) | grind) ?_)
  exact TLe.refl _
end Go.Proofs.YtokgalpflooegaaGreatDoor
/- The integers of the reference. No condition. -/
namespace Go.Proofs.YtokgalpflooegaaGreatDoor
set_option linter.unusedVariables false
set_option linter.unusedSimpArgs false
variable {G : Gl}
set_option maxHeartbeats 2000000
set_option maxRecDepth 10000
/-- An integer's fields. -/
abbrev Ig (n : Bool) (m : List Nat) : PV := .a [.b n, .w false m]
/-- A canonical integer. -/
abbrev Iv (z : Int) : PV := Ig (decide (z < 0)) (nat z.natAbs)
/-- The value of a sign and a size. -/
def sgn (n : Bool) (v : Nat) : Int := if n then -(v : Int) else v
theorem sgn_abs (n : Bool) (v : Nat) : (sgn n v).natAbs = v := by unfold sgn; split <;> omega
theorem sgn_of (z : Int) : sgn (decide (z < 0)) z.natAbs = z := by unfold sgn; split <;> rename_i h <;> simp at h <;> omega
theorem nat_len_zero (v : Nat) : 0 < (nat v).length ↔ v ≠ 0 := by
  constructor
  · intro h h0; subst h0; rw [nat_zero] at h; simp at h
  · intro h
    apply Classical.byContradiction
    intro hn
    have : nat v = [] := List.length_eq_zero_iff.1 (by omega)
    have h2 := val_nat v
    rw [this] at h2
    simp [val] at h2
    omega
theorem PLe.ig {n : Bool} {c : Ce} {m : List Nat} (h : PLe (.c c) (.c (.w false m))) : PLe (.a [.b n, c]) (Ig n m) := by
  rintro E v ⟨vs, h1, h2⟩
  refine ⟨vs, h1, ?_⟩
  obtain ⟨v1, r1, e1, a1, h2⟩ := h2.cons_iff
  obtain ⟨v2, r2, e2, a2, h2⟩ := h2.cons_iff
  rw [e1, e2]
  exact .cons a1 (.cons (h _ _ a2) h2)
theorem IMake_does {n : Bool} {m : List Nat} (hm : m.length ≤ 1073741824) (wm : Ws m) : Does Tryz.prog G 119 [.c (.b n), Wd m] (.v (Iv (sgn n (val m)))) := by
  have hT := @RTrim_does G m hm wm
  have hz := nat_len_zero (val m)
  generalize hv : val m = v at *
  refine Does.of (nt := 15) Tryz.func119 rfl rfl rfl (by simp) ?_
  simp only [argTm, PV.ext, Ce.ext]
  refine Do.seqk fun _ k1_ => ?_
  refine Do.region [0,1,4] true ?_
  simp [go_sem]
  apply k1_; clear k1_
  refine Do.seqk fun _ k2_ => ?_
  refine Do.region [0,1,4] true ?_
  simp [go_sem]
  refine DoL.call true 102 rfl rfl rfl rfl (by first | exact trivial | omega | (simp; done) | (simp; omega)) (hT) rfl (by first | exact .inl rfl | exact .inr rfl) rfl ?_
  simp [go_sem]
  apply k2_; clear k2_
  refine Do.seqk fun _ k3_ => ?_
  refine Do.region [4] true ?_
  simp [go_sem]
  repeat (refine And.intro (by first | omega | (intros; omega) | grind) ?_)
  apply k3_; clear k3_
  refine Do.ret ?_
  simp [endQ, rets, ret1, go_sem]
  repeat (refine And.intro (by first | omega | (intros; omega) | grind) ?_)
  have e : (n && decide (0 < (nat v).length)) = decide (sgn n v < 0) := by
    by_cases h : v = 0
    · have h2 : ¬ 0 < (nat v).length := fun hh => hz.1 hh h
      have h4 : nat 0 = [] := nat_zero
      subst h
      cases n <;> simp [h4, sgn]
    · have h3 := hz.2 h
      cases n <;> simp only [sgn, h3, decide_true, Bool.and_true, Bool.false_and, if_true, if_false, Bool.false_eq_true] <;> simp <;> omega
  rw [e]
  show TLe _ (.v (Ig (decide (sgn n v < 0)) (nat (sgn n v).natAbs)))
  rw [sgn_abs]
  exact TLe.v (PLe.ig (PLe.ext (.c (.w true _))))
theorem ITrim_does {n : Bool} {m : List Nat} (hm : m.length ≤ 1073741824) (wm : Ws m) : Does Tryz.prog G 150 [Ig n m] (.v (Iv (sgn n (val m)))) := by
  have hM := @IMake_does G n m hm wm
  generalize sgn n (val m) = z at *
  refine Does.of (nt := 8) Tryz.func150 rfl rfl rfl (by simp) ?_
  simp only [argTm, PV.ext, Ce.ext]
  refine Do.seqk fun _ k1_ => ?_
  refine Do.region [1,2] true ?_
  simp [go_sem]
  apply k1_; clear k1_
  refine Do.seqk fun _ k2_ => ?_
  refine Do.region [2] true ?_
  simp [go_sem]
  repeat (refine And.intro (by first | omega | (intros; omega) | grind) ?_)
  refine DoL.call true 105 rfl rfl rfl rfl (by first | exact trivial | omega | (simp; done) | (simp; omega)) (hM) rfl (by first | exact .inl rfl | exact .inr rfl) rfl ?_
  simp [go_sem]
  repeat (refine And.intro (by first | omega | (intros; omega) | grind) ?_)
  apply k2_; clear k2_
  refine Do.ret ?_
  simp [endQ, rets, ret1, go_sem]
  repeat (refine And.intro (by first | omega | (intros; omega) | grind) ?_)
  exact TLe.refl _
theorem ISign3_does {n : Bool} {m : List Nat} (hm : m.length ≤ 1073741824) (wm : Ws m) : Does Tryz.prog G 167 [Ig n m] (.int .i64 (sgn n (val m)).sign) := by
  have hM := @ITrim_does G n m hm wm
  generalize sgn n (val m) = z at *
  have hz := nat_len_zero z.natAbs
  refine Does.of (nt := 13) Tryz.func167 rfl rfl rfl (by simp) ?_
  simp only [argTm, PV.ext, Ce.ext]
  refine Do.seqk fun _ k1_ => ?_
  refine Do.region [1] true ?_
  simp [go_sem]
  apply k1_; clear k1_
  refine Do.seqk fun _ k2_ => ?_
  refine Do.seqk fun _ k3_ => ?_
  refine Do.region [1] true ?_
  simp [go_sem]
  repeat (refine And.intro (by first | omega | (intros; omega) | grind) ?_)
  refine DoL.call true 102 rfl rfl rfl rfl (by first | exact trivial | omega | (simp; done) | (simp; omega)) (hM) rfl (by first | exact .inl rfl | exact .inr rfl) rfl ?_
  simp [go_sem]
  repeat (refine And.intro (by first | omega | (intros; omega) | grind) ?_)
  apply k3_; clear k3_
  refine Do.block ?_
  refine Do.seqk fun _ k4_ => ?_
  refine Do.region [1,5] true ?_
  simp [go_sem]
  repeat (refine And.intro (by first | omega | (intros; omega) | grind) ?_)
  apply k4_; clear k4_
  refine Do.cond [1] rfl (fun h => ?_) (fun h => ?_) <;> simp [go_sem] at h ⊢
  · refine Do.seqk fun _ k5_ => ?_
    refine Do.region [2] true ?_
    simp [go_sem]
    apply k5_; clear k5_
    refine Do.ret ?_
    simp [endQ, rets, ret1, go_sem]
    repeat (refine And.intro (by first | omega | (intros; omega) | grind) ?_)
    exact ret_i (by rw [Int.sign_eq_neg_one_of_neg h])
  · refine Do.seqk fun _ k6_ => ?_
    refine Do.region [8] true ?_
    simp [go_sem]
    repeat (refine And.intro (by first | omega | (intros; omega) | grind) ?_)
    apply k6_; clear k6_
    refine Do.cond [] rfl (fun h2 => ?_) (fun h2 => ?_) <;> simp [go_sem] at h2 ⊢
    · refine Do.seqk fun _ k7_ => ?_
      refine Do.region [2] true ?_
      simp [go_sem]
      apply k7_; clear k7_
      refine Do.ret ?_
      simp [endQ, rets, ret1, go_sem]
      repeat (refine And.intro (by first | omega | (intros; omega) | grind) ?_)
      refine ret_i ?_
      rw [Int.sign_eq_one_of_pos]
      have := hz.1 h2
      omega
    · refine Do.skip ?_
      simp [go_sem]
      apply k2_; clear k2_
      refine Do.seqk fun _ k8_ => ?_
      refine Do.region [2] true ?_
      simp [go_sem]
      apply k8_; clear k8_
      refine Do.ret ?_
      simp [endQ, rets, ret1, go_sem]
      repeat (refine And.intro (by first | omega | (intros; omega) | grind) ?_)
      refine ret_i ?_
      have : z = 0 := by
        apply Classical.byContradiction
        intro hn
        have h3 := hz.2 (by omega)
        simp only [h2] at h3
        simp at h3
      rw [this]; rfl
theorem ISign_does {n : Bool} {m : List Nat} (hm : m.length ≤ 1073741824) (wm : Ws m) : Does Tryz.prog G 117 [Ig n m] (.int .i64 (sgn n (val m)).sign) := by
  have hM := @ISign3_does G n m hm wm
  generalize sgn n (val m) = z at *
  refine Does.of (nt := 5) Tryz.func117 rfl rfl rfl (by simp) ?_
  simp only [argTm, PV.ext, Ce.ext]
  refine Do.seqk fun _ k1_ => ?_
  refine Do.region [1] true ?_
  simp [go_sem]
  apply k1_; clear k1_
  refine Do.seqk fun _ k2_ => ?_
  refine Do.region [2] true ?_
  simp [go_sem]
  repeat (refine And.intro (by first | omega | (intros; omega) | grind) ?_)
  refine DoL.call true 102 rfl rfl rfl rfl (by first | exact trivial | omega | (simp; done) | (simp; omega)) (hM) rfl (by first | exact .inl rfl | exact .inr rfl) rfl ?_
  simp [go_sem]
  apply k2_; clear k2_
  refine Do.ret ?_
  simp [endQ, rets, ret1, go_sem]
  repeat (refine And.intro (by first | omega | (intros; omega) | grind) ?_)
  exact TLe.refl _
theorem IMake11_does {n : Bool} {m : List Nat} (hm : m.length ≤ 1073741824) (wm : Ws m) : Does Tryz.prog G 56 [.c (.b n), Wd m] (.v (Iv (sgn n (val m)))) := by
  have hM := @IMake_does G n m hm wm
  generalize sgn n (val m) = z at *
  refine Does.of (nt := 8) Tryz.func56 rfl rfl rfl (by simp) ?_
  simp only [argTm, PV.ext, Ce.ext]
  refine Do.seqk fun _ k1_ => ?_
  refine Do.region [0,1,4] true ?_
  simp [go_sem]
  apply k1_; clear k1_
  refine Do.seqk fun _ k2_ => ?_
  refine Do.region [4] true ?_
  simp [go_sem]
  refine DoL.call true 103 rfl rfl rfl rfl (by first | exact trivial | omega | (simp; done) | (simp; omega)) (hM) rfl (by first | exact .inl rfl | exact .inr rfl) rfl ?_
  simp [go_sem]
  repeat (refine And.intro (by first | omega | (intros; omega) | grind) ?_)
  apply k2_; clear k2_
  refine Do.ret ?_
  simp [endQ, rets, ret1, go_sem]
  repeat (refine And.intro (by first | omega | (intros; omega) | grind) ?_)
  exact TLe.refl _
theorem INeg_does {n : Bool} {m : List Nat} (hm : m.length ≤ 1073741824) (wm : Ws m) : Does Tryz.prog G 183 [Ig n m] (.v (Iv (-sgn n (val m)))) := by
  have hM := @IMake_does G (!n) m hm wm
  rw [show sgn (!n) (val m) = -sgn n (val m) by cases n <;> simp [sgn]] at hM
  generalize -sgn n (val m) = z at *
  refine Does.of (nt := 9) Tryz.func183 rfl rfl rfl (by simp) ?_
  simp only [argTm, PV.ext, Ce.ext]
  refine Do.seqk fun _ k1_ => ?_
  refine Do.region [1,2] true ?_
  simp [go_sem]
  apply k1_; clear k1_
  refine Do.seqk fun _ k2_ => ?_
  refine Do.region [2] true ?_
  simp [go_sem]
  repeat (refine And.intro (by first | omega | (intros; omega) | grind) ?_)
  refine DoL.call true 106 rfl rfl rfl rfl (by first | exact trivial | omega | (simp; done) | (simp; omega)) (hM) rfl (by first | exact .inl rfl | exact .inr rfl) rfl ?_
  simp [go_sem]
  repeat (refine And.intro (by first | omega | (intros; omega) | grind) ?_)
  apply k2_; clear k2_
  refine Do.ret ?_
  simp [endQ, rets, ret1, go_sem]
  repeat (refine And.intro (by first | omega | (intros; omega) | grind) ?_)
  exact TLe.refl _
theorem IMul3_does {n n' : Bool} {m m' : List Nat} (hm : m.length ≤ 536870912) (wm : Ws m) (hm' : m'.length ≤ 268435456) (wm' : Ws m') : Does Tryz.prog G 160 [Ig n m, Ig n' m'] (.v (Iv (sgn n (val m) * sgn n' (val m')))) := by
  have hl : (nat (val m * val m')).length ≤ m.length + m'.length := nat_len (by
    have h1 := val_lt wm
    have h2 := val_lt wm'
    rw [B64_pow] at h1 h2
    rw [show 64 * (m.length + m'.length) = 64 * m.length + 64 * m'.length by omega, Nat.pow_add]
    exact Nat.mul_lt_mul_of_lt_of_le h1 (Nat.le_of_lt h2) (Nat.pow_pos (by decide)))
  have hX := @RMul_does G m m' hm wm (by omega) wm'
  have hM := @IMake_does G (n != n') (nat (val m * val m')) (by omega) (nat_ws _)
  rw [val_nat, show sgn (n != n') (val m * val m') = sgn n (val m) * sgn n' (val m') by cases n <;> cases n' <;> simp [sgn, Int.natCast_mul, Int.mul_neg, Int.neg_mul]] at hM
  clear hl
  generalize sgn n (val m) * sgn n' (val m') = z at *
  generalize val m * val m' = N at *
  refine Does.of (nt := 16) Tryz.func160 rfl rfl rfl (by simp) ?_
  simp only [argTm, PV.ext, Ce.ext]
  refine Do.seqk fun _ k1_ => ?_
  refine Do.region [2,3,4] true ?_
  simp [go_sem]
  apply k1_; clear k1_
  refine Do.seqk fun _ k2_ => ?_
  refine Do.draw [4] true (by kernel_rfl) ?_
  simp [go_sem]
  repeat (refine And.intro (by first | omega | (intros; omega) | kernel_rfl | grind) ?_)
  refine DoLD.call true 110 rfl rfl rfl rfl (by first | exact trivial | omega | (simp; done) | (simp; omega)) (hX) rfl (by first | exact .inl rfl | exact .inr rfl) rfl ?_
  simp [go_sem]
  refine DoLD.call true 111 rfl rfl rfl rfl (by first | exact trivial | omega | (simp; done) | (simp; omega)) (hM) rfl (by first | exact .inl rfl | exact .inr rfl) rfl ?_
  simp [go_sem]
  repeat (refine And.intro (by first | omega | (intros; omega) | kernel_rfl | grind) ?_)
  try (refine And.intro (by kernel_rfl) ?_)
  apply k2_; clear k2_
  refine Do.ret ?_
  simp [endQ, rets, ret1, go_sem]
  repeat (refine And.intro (by first | omega | (intros; omega) | grind) ?_)
  exact TLe.refl _
end Go.Proofs.YtokgalpflooegaaGreatDoor
/- Sums and differences of the reference's integers. No condition. -/
namespace Go.Proofs.YtokgalpflooegaaGreatDoor
set_option linter.unusedVariables false
set_option linter.unusedSimpArgs false
variable {G : Gl}
set_option maxHeartbeats 4000000
set_option maxRecDepth 10000
theorem bl_le_ws {m : List Nat} (wm : Ws m) : bl (val m) ≤ 64 * m.length := bl_le_len wm (Nat.le_refl _)
theorem nat_len_of {v k : Nat} (h : bl v ≤ k) : (nat v).length ≤ k := Nat.le_trans (nat_len_bl v) h
theorem cmpP_ge (a b : Nat) : (0 ≤ cmpP a b) = (b ≤ a) := by
  unfold cmpP
  apply propext
  split
  · constructor <;> intro <;> omega
  · split <;> constructor <;> intro <;> omega
theorem IAdd3_does {n n' : Bool} {m m' : List Nat} (hm : m.length ≤ 8388608) (wm : Ws m) (hm' : m'.length ≤ 8388608) (wm' : Ws m') : Does Tryz.prog G 163 [Ig n m, Ig n' m'] (.v (Iv (sgn n (val m) + sgn n' (val m')))) := by
  have hA := @RAdd_does G m m' (by omega) wm (by omega) wm'
  have hC := @RCmp_does G m m' (by omega) wm (by omega) wm'
  have hS1 := fun h => @RSub_does G m m' (by omega) wm (by omega) wm' h
  have hS2 := fun h => @RSub_does G m' m (by omega) wm' (by omega) wm h
  have b1 := bl_le_ws wm
  have b2 := bl_le_ws wm'
  have b3 := bl_add_le (val m) (val m') 536870912 (by omega) (by omega)
  have hM := fun (b : Bool) v (h : (nat v).length ≤ 1073741824) => @IMake_does G b (nat v) h (nat_ws v)
  simp only [val_nat] at hM
  have hge := cmpP_ge (val m) (val m')
  have m1 : bl (val m - val m') ≤ bl (val m) := bl_mono (Nat.sub_le _ _)
  have m2 : bl (val m' - val m) ≤ bl (val m') := bl_mono (Nat.sub_le _ _)
  generalize cmpP (val m) (val m') = c at *
  generalize val m = a at *
  generalize val m' = b at *
  by_cases hn : n = n'
  · have hMM := hM n (a + b) (nat_len_of (by omega))
    subst hn
    rw [show sgn n (a + b) = sgn n a + sgn n b by cases n <;> simp [sgn] <;> omega] at hMM
    generalize sgn n a + sgn n b = z at *
    refine Does.of (nt := 42) Tryz.func163 rfl rfl rfl (by simp) ?_
    simp only [argTm, PV.ext, Ce.ext]
    refine Do.seqk fun _ k1_ => ?_
    refine Do.region [2,3,4] true ?_
    simp [go_sem]
    apply k1_; clear k1_
    refine Do.seqk fun _ k2_ => ?_
    refine Do.block ?_
    refine Do.seqk fun _ k3_ => ?_
    refine Do.region [2,3,4,5] true ?_
    simp [go_sem]
    repeat (refine And.intro (by first | omega | (intros; omega) | grind) ?_)
    apply k3_; clear k3_
    refine Do.cond [2,3,4] rfl (fun h => ?_) (fun h => ?_) <;> simp [go_sem] at h ⊢
    refine Do.seqk fun _ k4_ => ?_
    refine Do.draw [4] true (by kernel_rfl) ?_
    simp [go_sem]
    repeat (refine And.intro (by first | omega | (intros; omega) | kernel_rfl | grind) ?_)
    refine DoLD.call true 207 rfl rfl rfl rfl (by first | exact trivial | omega | (simp; done) | (simp; omega)) (hA) rfl (by first | exact .inl rfl | exact .inr rfl) rfl ?_
    simp [go_sem]
    refine DoLD.call true 208 rfl rfl rfl rfl (by first | exact trivial | omega | (simp; done) | (simp; omega)) (hMM) rfl (by first | exact .inl rfl | exact .inr rfl) rfl ?_
    simp [go_sem]
    repeat (refine And.intro (by first | omega | (intros; omega) | kernel_rfl | grind) ?_)
    try (refine And.intro (by kernel_rfl) ?_)
    apply k4_; clear k4_
    refine Do.ret ?_
    simp [endQ, rets, ret1, go_sem]
    repeat (refine And.intro (by first | omega | (intros; omega) | grind) ?_)
    exact TLe.refl _
  · by_cases h : b ≤ a
    · have hc : 0 ≤ c := by rw [hge]; exact h
      have hMM := hM n (a - b) (nat_len_of (by omega))
      have hSS := hS1 h
      rw [show sgn n (a - b) = sgn n a + sgn n' b by cases n <;> cases n' <;> simp [sgn] at hn ⊢ <;> omega] at hMM
      generalize sgn n a + sgn n' b = z at *
      refine Does.of (nt := 42) Tryz.func163 rfl rfl rfl (by simp) ?_
      simp only [argTm, PV.ext, Ce.ext]
      refine Do.seqk fun _ k1_ => ?_
      refine Do.region [2,3,4] true ?_
      simp [go_sem, show (n == n') = false from beq_false_of_ne hn, hc]
      apply k1_; clear k1_
      refine Do.seqk fun _ k2_ => ?_
      refine Do.block ?_
      refine Do.seqk fun _ k3_ => ?_
      refine Do.region [2,3,4,5] true ?_
      simp [go_sem, show (n == n') = false from beq_false_of_ne hn, hc]
      repeat (refine And.intro (by first | omega | (intros; omega) | grind) ?_)
      apply k3_; clear k3_
      refine Do.cond [2,3,4] rfl (fun h1 => ?_) (fun h1 => ?_) <;> simp [go_sem, show (n == n') = false from beq_false_of_ne hn, hc] at h1 ⊢
      refine Do.seqk fun _ k4_ => ?_
      refine Do.region [2,3,4,19] true ?_
      simp [go_sem, show (n == n') = false from beq_false_of_ne hn, hc]
      repeat (refine And.intro (by first | omega | (intros; omega) | grind) ?_)
      refine DoL.call true 305 rfl rfl rfl rfl (by first | exact trivial | omega | (simp; done) | (simp; omega)) (hC) rfl (by first | exact .inl rfl | exact .inr rfl) rfl ?_
      simp [go_sem, show (n == n') = false from beq_false_of_ne hn, hc]
      apply k4_; clear k4_
      refine Do.cond [2,3,4] rfl (fun h2 => ?_) (fun h2 => ?_) <;> simp [go_sem, show (n == n') = false from beq_false_of_ne hn, hc] at h2 ⊢
      refine Do.seqk fun _ k5_ => ?_
      refine Do.draw [4] true (by kernel_rfl) ?_
      simp [go_sem, show (n == n') = false from beq_false_of_ne hn, hc]
      repeat (refine And.intro (by first | omega | (intros; omega) | kernel_rfl | grind) ?_)
      refine DoLD.call true 407 rfl rfl rfl rfl (by first | exact trivial | omega | (simp; done) | (simp; omega)) (hSS) rfl (by first | exact .inl rfl | exact .inr rfl) rfl ?_
      simp [go_sem, show (n == n') = false from beq_false_of_ne hn, hc]
      refine DoLD.call true 408 rfl rfl rfl rfl (by first | exact trivial | omega | (simp; done) | (simp; omega)) (hMM) rfl (by first | exact .inl rfl | exact .inr rfl) rfl ?_
      simp [go_sem, show (n == n') = false from beq_false_of_ne hn, hc]
      repeat (refine And.intro (by first | omega | (intros; omega) | kernel_rfl | grind) ?_)
      try (refine And.intro (by kernel_rfl) ?_)
      apply k5_; clear k5_
      refine Do.ret ?_
      simp [endQ, rets, ret1, go_sem, show (n == n') = false from beq_false_of_ne hn, hc]
      repeat (refine And.intro (by first | omega | (intros; omega) | grind) ?_)
      exact TLe.refl _
    · have hc : ¬ 0 ≤ c := by rw [hge]; exact h
      have hMM := hM n' (b - a) (nat_len_of (by omega))
      have hSS := hS2 (by omega)
      rw [show sgn n' (b - a) = sgn n a + sgn n' b by cases n <;> cases n' <;> simp [sgn] at hn ⊢ <;> omega] at hMM
      generalize sgn n a + sgn n' b = z at *
      refine Does.of (nt := 42) Tryz.func163 rfl rfl rfl (by simp) ?_
      simp only [argTm, PV.ext, Ce.ext]
      refine Do.seqk fun _ k1_ => ?_
      refine Do.region [2,3,4] true ?_
      simp [go_sem, show (n == n') = false from beq_false_of_ne hn, hc]
      apply k1_; clear k1_
      refine Do.seqk fun _ k2_ => ?_
      refine Do.block ?_
      refine Do.seqk fun _ k3_ => ?_
      refine Do.region [2,3,4,5] true ?_
      simp [go_sem, show (n == n') = false from beq_false_of_ne hn, hc]
      repeat (refine And.intro (by first | omega | (intros; omega) | grind) ?_)
      apply k3_; clear k3_
      refine Do.cond [2,3,4] rfl (fun h1 => ?_) (fun h1 => ?_) <;> simp [go_sem, show (n == n') = false from beq_false_of_ne hn, hc] at h1 ⊢
      refine Do.seqk fun _ k4_ => ?_
      refine Do.region [2,3,4,19] true ?_
      simp [go_sem, show (n == n') = false from beq_false_of_ne hn, hc]
      repeat (refine And.intro (by first | omega | (intros; omega) | grind) ?_)
      refine DoL.call true 305 rfl rfl rfl rfl (by first | exact trivial | omega | (simp; done) | (simp; omega)) (hC) rfl (by first | exact .inl rfl | exact .inr rfl) rfl ?_
      simp [go_sem, show (n == n') = false from beq_false_of_ne hn, hc]
      apply k4_; clear k4_
      refine Do.cond [2,3,4] rfl (fun h2 => ?_) (fun h2 => ?_) <;> simp [go_sem, show (n == n') = false from beq_false_of_ne hn, hc] at h2 ⊢
      refine Do.skip ?_
      simp [go_sem]
      apply k2_; clear k2_
      refine Do.seqk fun _ k5_ => ?_
      refine Do.draw [4] true (by kernel_rfl) ?_
      simp [go_sem, show (n == n') = false from beq_false_of_ne hn, hc]
      repeat (refine And.intro (by first | omega | (intros; omega) | kernel_rfl | grind) ?_)
      refine DoLD.call true 507 rfl rfl rfl rfl (by first | exact trivial | omega | (simp; done) | (simp; omega)) (hSS) rfl (by first | exact .inl rfl | exact .inr rfl) rfl ?_
      simp [go_sem, show (n == n') = false from beq_false_of_ne hn, hc]
      refine DoLD.call true 508 rfl rfl rfl rfl (by first | exact trivial | omega | (simp; done) | (simp; omega)) (hMM) rfl (by first | exact .inl rfl | exact .inr rfl) rfl ?_
      simp [go_sem, show (n == n') = false from beq_false_of_ne hn, hc]
      repeat (refine And.intro (by first | omega | (intros; omega) | kernel_rfl | grind) ?_)
      try (refine And.intro (by kernel_rfl) ?_)
      apply k5_; clear k5_
      refine Do.ret ?_
      simp [endQ, rets, ret1, go_sem, show (n == n') = false from beq_false_of_ne hn, hc]
      repeat (refine And.intro (by first | omega | (intros; omega) | grind) ?_)
      exact TLe.refl _
theorem IMul_does {n n' : Bool} {m m' : List Nat} (hm : m.length ≤ 536870912) (wm : Ws m) (hm' : m'.length ≤ 268435456) (wm' : Ws m') : Does Tryz.prog G 105 [Ig n m, Ig n' m'] (.v (Iv (sgn n (val m) * sgn n' (val m')))) := by
  have hM := @IMul3_does G n n' m m' hm wm hm' wm'
  generalize sgn n (val m) * sgn n' (val m') = z at *
  refine Does.of (nt := 8) Tryz.func105 rfl rfl rfl (by simp) ?_
  simp only [argTm, PV.ext, Ce.ext]
  refine Do.seqk fun _ k1_ => ?_
  refine Do.region [2,3,4] true ?_
  simp [go_sem]
  apply k1_; clear k1_
  refine Do.seqk fun _ k2_ => ?_
  refine Do.region [4] true ?_
  simp [go_sem]
  repeat (refine And.intro (by first | omega | (intros; omega) | grind) ?_)
  refine DoL.call true 103 rfl rfl rfl rfl (by first | exact trivial | omega | (simp; done) | (simp; omega)) (hM) rfl (by first | exact .inl rfl | exact .inr rfl) rfl ?_
  simp [go_sem]
  repeat (refine And.intro (by first | omega | (intros; omega) | grind) ?_)
  apply k2_; clear k2_
  refine Do.ret ?_
  simp [endQ, rets, ret1, go_sem]
  repeat (refine And.intro (by first | omega | (intros; omega) | grind) ?_)
  exact TLe.refl _
theorem IFrom3_does {k : Nat} (hk : k < 9223372036854775808) : Does Tryz.prog G 153 [.c (.i .i64 k)] (.v (Iv k)) := by
  have hW := @RWord_does G k (by omega)
  have hM := @IMake_does G false (nat k) (by have := nat_len_of (v := k) (k := 64) ((bl_lt _ _).2 (by omega)); omega) (nat_ws k)
  rw [val_nat, show sgn false k = (k : Int) from rfl] at hM
  refine Does.of (nt := 14) Tryz.func153 rfl rfl rfl (by simp) ?_
  simp only [argTm, PV.ext, Ce.ext]
  refine Do.seqk fun _ k1_ => ?_
  refine Do.region [0,2] true ?_
  simp [go_sem, show ¬ (k : Int) < 0 by omega]
  apply k1_; clear k1_
  refine Do.seqk fun _ k2_ => ?_
  refine Do.seqk fun _ k3_ => ?_
  refine Do.region [0,2,4] true ?_
  simp [go_sem, show ¬ (k : Int) < 0 by omega]
  apply k3_; clear k3_
  refine Do.cond [0,2] rfl (fun h => ?_) (fun h => ?_) <;> simp [go_sem, show ¬ (k : Int) < 0 by omega] at h ⊢
  refine Do.skip ?_
  simp [go_sem]
  apply k2_; clear k2_
  refine Do.seqk fun _ k4_ => ?_
  refine Do.region [2] true ?_
  simp [go_sem, show ¬ (k : Int) < 0 by omega]
  repeat (refine And.intro (by first | omega | (intros; omega) | grind) ?_)
  refine DoL.call true 303 rfl rfl rfl rfl (by first | exact trivial | omega | (simp; done) | (simp; omega)) (hW) rfl (by first | exact .inl rfl | exact .inr rfl) rfl ?_
  simp [go_sem, show ¬ (k : Int) < 0 by omega]
  refine DoL.call true 304 rfl rfl rfl rfl (by first | exact trivial | omega | (simp; done) | (simp; omega)) (hM) rfl (by first | exact .inl rfl | exact .inr rfl) rfl ?_
  simp [go_sem, show ¬ (k : Int) < 0 by omega]
  repeat (refine And.intro (by first | omega | (intros; omega) | grind) ?_)
  apply k4_; clear k4_
  refine Do.ret ?_
  simp [endQ, rets, ret1, go_sem, show ¬ (k : Int) < 0 by omega]
  repeat (refine And.intro (by first | omega | (intros; omega) | grind) ?_)
  exact TLe.refl _
theorem IFrom_does {k : Nat} (hk : k < 9223372036854775808) : Does Tryz.prog G 91 [.c (.i .i64 k)] (.v (Iv k)) := by
  have hM := @IFrom3_does G k hk
  refine Does.of (nt := 5) Tryz.func91 rfl rfl rfl (by simp) ?_
  simp only [argTm, PV.ext, Ce.ext]
  refine Do.seqk fun _ k1_ => ?_
  refine Do.region [0,2] true ?_
  simp [go_sem]
  apply k1_; clear k1_
  refine Do.seqk fun _ k2_ => ?_
  refine Do.region [2] true ?_
  simp [go_sem]
  refine DoL.call true 102 rfl rfl rfl rfl (by first | exact trivial | omega | (simp; done) | (simp; omega)) (hM) rfl (by first | exact .inl rfl | exact .inr rfl) rfl ?_
  simp [go_sem]
  repeat (refine And.intro (by first | omega | (intros; omega) | grind) ?_)
  apply k2_; clear k2_
  refine Do.ret ?_
  simp [endQ, rets, ret1, go_sem]
  repeat (refine And.intro (by first | omega | (intros; omega) | grind) ?_)
  exact TLe.refl _
end Go.Proofs.YtokgalpflooegaaGreatDoor
/- The lowest bits of a number; a real number of the reference and its exponent. No condition. -/
namespace Go.Proofs.YtokgalpflooegaaGreatDoor
set_option linter.unusedVariables false
set_option linter.unusedSimpArgs false
variable {G : Gl}
set_option maxHeartbeats 4000000
set_option maxRecDepth 10000
theorem PLe.agg {l l' : List Ce} (h : All2 (fun c d => PLe (.c c) (.c d)) l l') : PLe (.a l) (.a l') := by
  rintro E v ⟨vs, h1, h2⟩
  refine ⟨vs, h1, ?_⟩
  clear h1
  generalize vs.toList = ws at *
  induction h generalizing ws with
  | nil => exact h2
  | cons g _ ih =>
    obtain ⟨w, r, rfl, a, b⟩ := h2.cons_iff
    exact .cons (g _ _ a) (ih _ b)
/-- The i-th word of what s bits hold. -/
theorem low_word {n s i : Nat} (h : 64 * i < s) : n % 2 ^ s / 18446744073709551616 ^ i % 18446744073709551616 = if s - 64 * i < 64 then n / 18446744073709551616 ^ i % 18446744073709551616 % 2 ^ (s - 64 * i) else n / 18446744073709551616 ^ i % 18446744073709551616 := by
  obtain ⟨q, rfl⟩ : ∃ q, s = 64 * i + q := ⟨s - 64 * i, by omega⟩
  rw [B64_pow, Nat.pow_add, Nat.mod_mul_right_div_self, show 64 * i + q - 64 * i = q by omega]
  generalize n / 2 ^ (64 * i) = m
  split
  · rename_i hq
    have e : (18446744073709551616 : Nat) = 2 ^ q * 2 ^ (64 - q) := by rw [← Nat.pow_add, show q + (64 - q) = 64 by omega]
    have l1 : m % 2 ^ q < 18446744073709551616 := by
      have := Nat.mod_lt m (Nat.pow_pos (n := q) (show 0 < 2 by decide))
      have : 2 ^ q < 2 ^ 64 := Nat.pow_lt_pow_right (by decide) hq
      omega
    rw [Nat.mod_eq_of_lt l1, e, Nat.mod_mul_right_mod]
  · rename_i hq
    obtain ⟨t, rfl⟩ : ∃ t, q = 64 + t := ⟨q - 64, by omega⟩
    rw [Nat.pow_add, show (2 : Nat) ^ 64 = 18446744073709551616 from rfl, Nat.mod_mul_right_mod]
theorem RLow_does {x : List Nat} {s : Nat} (hx : x.length ≤ 1073741824) (hw : Ws x) (hs : s < 4611686018427387904) : Does Tryz.prog G 137 [Wd x, .c (.i .i64 s)] (.v (Wn (nat (val x % 2 ^ s)))) := by
  have hT := fun i (hi : i ≤ 1073741824) => @RTrim_does G (wds (val x % 2 ^ s) i) (by rw [wds_len]; exact hi) (wds_ws _ _)
  have hlw := fun i h => @low_word (val x) s i h
  have hend : ∀ i, i ≤ x.length → (x.length ≤ i ∨ s ≤ 64 * i) → val (wds (val x % 2 ^ s) i) = val x % 2 ^ s := fun i hi h => by
    rw [val_wds, Nat.mod_eq_of_lt]
    rcases h with h | h
    · have := val_lt hw
      rw [show i = x.length by omega]
      exact Nat.lt_of_le_of_lt (Nat.mod_le _ _) this
    · rw [B64_pow]
      exact Nat.lt_of_lt_of_le (Nat.mod_lt _ (Nat.pow_pos (by decide))) (Nat.pow_le_pow_right (by decide) h)
  have hget := fun i hi => @ws_get x hw i hi
  have hsn := fun i => wds_snoc i (val x % 2 ^ s)
  have hz : wds (val x % 2 ^ s) 0 = [] := rfl
  generalize val x % 2 ^ s = N at *
  obtain ⟨X, hX⟩ : ∃ X : Nat → Nat, ∀ i, X i = val x / 18446744073709551616 ^ i % 18446744073709551616 := ⟨fun i => _, fun _ => rfl⟩
  simp only [← hX] at hget hlw
  obtain ⟨Y, hY⟩ : ∃ Y : Nat → Nat, ∀ i, Y i = N / 18446744073709551616 ^ i % 18446744073709551616 := ⟨fun i => _, fun _ => rfl⟩
  simp only [← hY] at hsn hlw
  refine Does.of (nt := 42) Tryz.func137 rfl rfl rfl (by simp) ?_
  simp only [argTm, PV.ext, Ce.ext]
  refine Do.seqk fun _ k1_ => ?_
  refine Do.region [0,1] true ?_
  simp [go_sem]
  apply k1_; clear k1_
  refine Do.seqk fun _ k2_ => ?_
  refine Do.region [0,1,5] true ?_
  simp [go_sem]
  apply k2_; clear k2_
  refine Do.seqk fun _ k3_ => ?_
  refine Do.seqk fun _ k4_ => ?_
  refine Do.region [0,1,5,6] true ?_
  simp [go_sem]
  apply k4_; clear k4_
  refine Do.block ?_
  refine Do.ownW 5 900 rfl rfl (by decide) ?_
  simp [go_sem]
  refine Do.loopF [0,1,5,6] (fun (i : Nat) => [(5, .v (.c (.r 900 i))), (6, .int .i64 i)]) (fun (i : Nat) => [(900, .wr (wds N i))]) (fun (i : Nat) => i ≤ x.length) (fun (i : Nat) => x.length - i) (0) (fun _ => by first | (simp [go_sem, mixS]; done) | (simp [go_sem, mixS]; rfl)) (St.le_of (by simp [keep]) (by simp [keep, hz])) (Nat.zero_le _) ?_
  intro i hi
  refine Do.seqk fun _ k5_ => ?_
  refine Do.seqk fun _ k6_ => ?_
  refine Do.region [0,1,5,6,17] true ?_
  simp [go_sem]
  repeat (refine And.intro (by first | omega | (intros; omega) | grind) ?_)
  apply k6_; clear k6_
  refine Do.cond [0,1,5,6] rfl (fun h => ?_) (fun h => ?_) <;> simp [go_sem] at h ⊢
  · have hg := hget i h.1
    have hl := hlw i (by omega)
    refine Do.skip ?_
    simp [go_sem]
    apply k5_; clear k5_
    refine Do.seqk fun _ k7_ => ?_
    refine Do.block ?_
    refine Do.seqk fun _ k8_ => ?_
    refine Do.region [0,1,5,6,7] true ?_
    simp [go_sem, hg]
    repeat (refine And.intro (by first | omega | (intros; omega) | grind) ?_)
    apply k8_; clear k8_
    refine Do.seqk fun _ k9_ => ?_
    refine Do.seqk fun _ k10_ => ?_
    refine Do.region [0,1,5,6,7,28] true ?_
    simp [go_sem, hg]
    repeat (refine And.intro (by first | omega | (intros; omega) | grind) ?_)
    apply k10_; clear k10_
    refine Do.cond [0,1,5,6,7] rfl (fun h2 => ?_) (fun h2 => ?_) <;> simp [go_sem, hg] at h2 ⊢
    · have e1 : ((s : Int) - 64 * i).toNat = s - 64 * i := by omega
      have e2 : 2 ^ (s - 64 * i) % M64 = 2 ^ (s - 64 * i) := Nat.mod_eq_of_lt (show _ < 18446744073709551616 from Nat.lt_of_lt_of_le (Nat.pow_lt_pow_right (by decide) (show s - 64 * i < 64 by omega)) (by decide))
      rw [if_pos (by omega)] at hl
      have e3 : 0 < 2 ^ (s - 64 * i) := Nat.pow_pos (by decide)
      refine Do.region [0,1,5,6,7] true ?_
      simp [go_sem, e1, e2, e3]
      repeat (refine And.intro (by first | omega | (intros; omega) | grind) ?_)
      apply k9_; clear k9_
      refine Do.region [0,1,5,6] true ?_
      simp [go_sem, e1, e2, e3]
      repeat (refine And.intro (by first | omega | (intros; omega) | grind) ?_)
      apply k7_; clear k7_
      refine Do.region [0,1,5,6] true ?_
      simp [go_sem, e1, e2, e3]
      repeat (refine And.intro (by first | omega | (intros; omega) | grind) ?_)
      refine ⟨i + 1, St.le_of rfl (by simp [keep, hsn, hl]), by omega, by simp; omega⟩
    · rw [if_neg (by omega)] at hl
      refine Do.skip ?_
      simp [go_sem]
      apply k9_; clear k9_
      refine Do.region [0,1,5,6] true ?_
      simp [go_sem, hg]
      repeat (refine And.intro (by first | omega | (intros; omega) | grind) ?_)
      apply k7_; clear k7_
      refine Do.region [0,1,5,6] true ?_
      simp [go_sem, hg]
      repeat (refine And.intro (by first | omega | (intros; omega) | grind) ?_)
      refine ⟨i + 1, St.le_of rfl (by simp [keep, hsn, hl]), by omega, by simp; omega⟩
  · have hv := hend i hi (by omega)
    have ht := hT i (by omega)
    rw [hv] at ht
    refine Do.exit ?_
    simp [go_sem]
    apply k3_; clear k3_
    refine Do.seqk fun _ k11_ => ?_
    refine Do.region [4] true ?_
    simp [go_sem]
    refine DoL.frz true 901 900 rfl ?_
    simp [go_sem]
    refine DoL.call true 902 rfl rfl rfl rfl (by first | exact trivial | omega | (simp; done) | (simp; omega)) (ht) rfl (by first | exact .inl rfl | exact .inr rfl) rfl ?_
    simp [go_sem]
    apply k11_; clear k11_
    refine Do.ret ?_
    simp [endQ, rets, ret1, go_sem]
    repeat (refine And.intro (by first | omega | (intros; omega) | grind) ?_)
    exact TLe.refl _
end Go.Proofs.YtokgalpflooegaaGreatDoor
/- A real number of the reference: an integer times a power of 2; its exponent. No condition. -/
namespace Go.Proofs.YtokgalpflooegaaGreatDoor
set_option linter.unusedVariables false
set_option linter.unusedSimpArgs false
variable {G : Gl}
set_option maxHeartbeats 4000000
set_option maxRecDepth 10000
theorem floor_does {a : Int} (ha : I64 a) : Does Tryz.prog G 143 [.c (.i .i64 a), .c (.i .i64 1)] (.int .i64 a) := by
  have hw : IntKind.i64.wrap a = a := wrap_in (by rw [inK_i64]; exact ha)
  refine Does.of (nt := 16) Tryz.func143 rfl rfl rfl (by simp) ?_
  simp only [argTm, PV.ext, Ce.ext]
  refine Do.seqk fun _ k1_ => ?_
  refine Do.region [0,1] true ?_
  simp [go_sem, hw, Int.tdiv_one, Int.tmod_one]
  apply k1_; clear k1_
  refine Do.seqk fun _ k2_ => ?_
  refine Do.region [0,1,5] false ?_
  simp [go_sem, hw, Int.tdiv_one, Int.tmod_one]
  repeat (refine And.intro (by first | omega | (intros; omega) | grind) ?_)
  apply k2_; clear k2_
  refine Do.seqk fun _ k3_ => ?_
  refine Do.seqk fun _ k4_ => ?_
  refine Do.region [5,12] false ?_
  simp [go_sem, hw, Int.tdiv_one, Int.tmod_one]
  repeat (refine And.intro (by first | omega | (intros; omega) | grind) ?_)
  apply k4_; clear k4_
  refine Do.cond [5] rfl (fun h => ?_) (fun h => ?_) <;> simp [go_sem, hw, Int.tdiv_one, Int.tmod_one] at h ⊢
  refine Do.skip ?_
  simp [go_sem]
  apply k3_; clear k3_
  refine Do.seqk fun _ k5_ => ?_
  refine Do.region [4] true ?_
  simp [go_sem, hw, Int.tdiv_one, Int.tmod_one]
  apply k5_; clear k5_
  refine Do.ret ?_
  simp [endQ, rets, ret1, go_sem, hw, Int.tdiv_one, Int.tmod_one]
  repeat (refine And.intro (by first | omega | (intros; omega) | grind) ?_)
  exact TLe.refl _
end Go.Proofs.YtokgalpflooegaaGreatDoor
/- A real number in steps; a part rounded. No condition. -/
namespace Go.Proofs.YtokgalpflooegaaGreatDoor
set_option linter.unusedVariables false
set_option linter.unusedSimpArgs false
variable {G : Gl}
set_option maxHeartbeats 4000000
set_option maxRecDepth 10000
/-- A part: an integer, a half, a rest. -/
abbrev Pt (N : Nat) (h r : Bool) : PV := .a [.w false (nat N), .b h, .b r]
theorem pt_le {N : Nat} {h r : Bool} {c : Ce} (hc : PLe (.c c) (.c (.w false (nat N)))) : TLe (tvOf [.a [c, .b h, .b r]]) (.v (Pt N h r)) :=
  TLe.v (PLe.agg (.cons hc (.cons (PLe.refl _) (.cons (PLe.refl _) .nil))))
end Go.Proofs.YtokgalpflooegaaGreatDoor
/- A part rounded; the greatest float; what is beyond it. No condition. -/
namespace Go.Proofs.YtokgalpflooegaaGreatDoor
set_option linter.unusedVariables false
set_option linter.unusedSimpArgs false
variable {G : Gl}
set_option maxHeartbeats 4000000
set_option maxRecDepth 10000
/-- What lies beyond the integer: 0 nothing, 1 less than a half, 2 a half, 3 more. -/
def pcode (h s : Bool) : Int := if h then (if s then 3 else 2) else (if s then 1 else 0)
end Go.Proofs.YtokgalpflooegaaGreatDoor
/- The greatest float, what is beyond it. No condition. -/
namespace Go.Proofs.YtokgalpflooegaaGreatDoor
set_option linter.unusedVariables false
set_option linter.unusedSimpArgs false
variable {G : Gl}
set_option maxHeartbeats 4000000
set_option maxRecDepth 10000
/-- A float whose words are its own. -/
abbrev Flt.pw (x : Flt) : PV := .a [.i .i64 x.k, .b x.n, .i .i64 x.e, .w true (nat x.v)]
theorem PLe.flw {k : Int} {n : Bool} {e : Int} {c : Ce} {m : List Nat} (h : PLe (.c c) (.c (.w true m))) : PLe (.a [.i .i64 k, .b n, .i .i64 e, c]) (.a [.i .i64 k, .b n, .i .i64 e, .w true m]) :=
  PLe.agg (.cons (PLe.refl _) (.cons (PLe.refl _) (.cons (PLe.refl _) (.cons h .nil))))
theorem ret_zw {n : Nat} (h : n = 0) : PLe (.c .z) (.c (.w true (nat n))) := by subst h; rw [nat_zero]; exact PLe.z true
theorem ret_w1 {k : Int} {n : Bool} {e : Int} {c : Ce} {x : Flt} (h : PLe (.c c) (.c (.w true (nat x.v)))) (h1 : (k, n, e) = (x.k, x.n, x.e)) : TLe (tvOf [.a [.i .i64 k, .b n, .i .i64 e, c]]) (.v x.pw) := by
  simp only [Prod.mk.injEq] at h1
  obtain ⟨rfl, rfl, rfl⟩ := h1
  exact TLe.v (PLe.flw h)
theorem Does.mono {P : Program} {G : Gl} {f : FuncId} {args : List PV} {ret ret' : TV} (h : Does P G f args ret) (hle : TLe ret ret') : Does P G f args ret' := by
  intro W ok vals hok hgl hargs
  rcases h W ok vals hok hgl hargs with ⟨h1, h2⟩ | ⟨v, h1, h2⟩
  · exact .inl ⟨h1, h2.mono fun e W' ⟨v, q1, q2, q3⟩ => ⟨v, q1, q2, hle _ _ q3⟩⟩
  · exact .inr ⟨v, h1, hle _ _ h2⟩
theorem Canonical_new {k e : Int} {n : Bool} {m : List Nat} (hm : m.length ≤ 1073741824) (wm : Ws m) (he : Md e) : Does Tryz.prog G 53 [Fl k n e m] (.v (rcanon ⟨k, n, e, val m⟩).pw) := by
  have ho : Does Tryz.prog G 100 [Fl k n e m] (.t [Wn (nat (val m / 2 ^ tz (val m))), .c (.i .i64 (e + tz (val m)))]) := odd_does hm wm he
  refine Does.of (nt := 23) Tryz.func53 rfl rfl rfl (by simp) ?_
  simp only [argTm, PV.ext, Ce.ext]
  refine Do.seqk fun _ k1_ => ?_
  refine Do.region [1,2] true ?_
  simp [go_sem]
  apply k1_; clear k1_
  refine Do.seqk fun _ k2_ => ?_
  refine Do.seqk fun _ k3_ => ?_
  refine Do.region [1,2,7] true ?_
  simp [go_sem]
  repeat (refine And.intro (by first | omega | (intros; omega) | grind) ?_)
  apply k3_; clear k3_
  refine Do.cond [1,2] rfl (fun h => ?_) (fun h => ?_) <;> simp [go_sem] at h ⊢
  · refine Do.seqk fun _ k4_ => ?_
    refine Do.region [2] true ?_
    simp [go_sem]
    repeat (refine And.intro (by first | omega | (intros; omega) | grind) ?_)
    apply k4_; clear k4_
    refine Do.ret ?_
    simp [endQ, rets, ret1, go_sem]
    repeat (refine And.intro (by first | omega | (intros; omega) | grind) ?_)
    rw [rcanon, if_neg h]
    exact ret_w1 (ret_zw rfl) rfl
  · refine Do.skip ?_
    simp [go_sem]
    apply k2_; clear k2_
    refine Do.seqk fun _ k5_ => ?_
    refine Do.region [1,2,3,4] true ?_
    simp [go_sem]
    repeat (refine And.intro (by first | omega | (intros; omega) | grind) ?_)
    refine DoL.call true 302 rfl rfl rfl rfl (by first | exact trivial | omega | (simp; done) | (simp; omega)) (ho) rfl (by first | exact .inl rfl | exact .inr rfl) rfl ?_
    simp [go_sem]
    apply k5_; clear k5_
    refine Do.seqk fun _ k6_ => ?_
    refine Do.region [2] true ?_
    simp [go_sem]
    repeat (refine And.intro (by first | omega | (intros; omega) | grind) ?_)
    apply k6_; clear k6_
    refine Do.ret ?_
    simp [endQ, rets, ret1, go_sem]
    repeat (refine And.intro (by first | omega | (intros; omega) | grind) ?_)
    rw [rcanon, if_pos h]
    exact TLe.refl _
theorem Top_does {f p : Int} (hf : fmOk f p = true) : Does Tryz.prog G 71 [Fm f p] (.v (Flt.pw ⟨1, false, gOfE f - p + 1, 2 ^ p.toNat - 1⟩)) := by
  obtain ⟨b1, b2, b3, b4⟩ := fmOk_spec hf
  obtain ⟨b5, b6⟩ := gOfE_le b1 b2
  have hG := @RGreatest_does G f p hf
  obtain ⟨P, rfl⟩ : ∃ P : Nat, p = P := ⟨p.toNat, by omega⟩
  rw [Int.toNat_natCast]
  have hW := @RWord_does G 1 (by decide)
  have h1 := @RLeft_does G (nat 1) P (by rw [nat_one]; decide) (nat_ws _) (by omega)
  rw [val_nat, Nat.one_mul] at h1
  have hp : 1 ≤ 2 ^ P := Nat.pow_pos (by decide)
  have hl : (nat (2 ^ P)).length ≤ 257 := nat_len_of (by have : bl (2 ^ P) ≤ P + 1 := (bl_lt _ _).2 (Nat.pow_lt_pow_right (by decide) (by omega)); omega)
  have h2 := @RSub_does G (nat (2 ^ P)) (nat 1) (by omega) (nat_ws _) (by rw [nat_one]; decide) (nat_ws _) (by rw [val_nat, val_nat]; exact hp)
  rw [val_nat, val_nat] at h2
  generalize 2 ^ P = Q at *
  generalize gOfE f = g at *
  refine Does.of (nt := 18) Tryz.func71 rfl rfl rfl (by simp) ?_
  simp only [argTm, PV.ext, Ce.ext]
  refine Do.seqk fun _ k1_ => ?_
  refine Do.region [1,2] true ?_
  simp [go_sem]
  apply k1_; clear k1_
  refine Do.seqk fun _ k2_ => ?_
  refine Do.region [1,2,3] true ?_
  simp [go_sem]
  refine DoL.call true 101 rfl rfl rfl rfl (by first | exact trivial | omega | (simp; done) | (simp; omega)) (hW) rfl (by first | exact .inl rfl | exact .inr rfl) rfl ?_
  simp [go_sem]
  apply k2_; clear k2_
  refine Do.seqk fun _ k3_ => ?_
  refine Do.draw [2] true (by kernel_rfl) ?_
  simp [go_sem]
  repeat (refine And.intro (by first | omega | (intros; omega) | kernel_rfl | grind) ?_)
  refine DoLD.call true 202 rfl rfl rfl rfl (by first | exact trivial | omega | (simp; done) | (simp; omega)) (hG) rfl (by first | exact .inl rfl | exact .inr rfl) rfl ?_
  simp [go_sem]
  repeat (refine And.intro (by first | omega | (intros; omega) | kernel_rfl | grind) ?_)
  refine DoLD.call true 210 rfl rfl rfl rfl (by first | exact trivial | omega | (simp; done) | (simp; omega)) (h1) rfl (by first | exact .inl rfl | exact .inr rfl) rfl ?_
  simp [go_sem]
  refine DoLD.call true 212 rfl rfl rfl rfl (by first | exact trivial | omega | (simp; done) | (simp; omega)) (h2) rfl (by first | exact .inl rfl | exact .inr rfl) rfl ?_
  simp [go_sem]
  repeat (refine And.intro (by first | omega | (intros; omega) | kernel_rfl | grind) ?_)
  try (refine And.intro (by kernel_rfl) ?_)
  apply k3_; clear k3_
  refine Do.ret ?_
  simp [endQ, rets, ret1, go_sem]
  repeat (refine And.intro (by first | omega | (intros; omega) | grind) ?_)
  exact TLe.refl _
/-- What is beyond the greatest float. -/
def beyP (f p r : Int) (n : Bool) : Flt := if grP r n then ⟨1, n, gOfE f - p + 1, 2 ^ p.toNat - 1⟩ else ⟨2, n, 0, 0⟩
end Go.Proofs.YtokgalpflooegaaGreatDoor
/- The reference's rounding is the program's. No condition. -/
namespace Go.Proofs.YtokgalpflooegaaGreatDoor
set_option linter.unusedVariables false
set_option linter.unusedSimpArgs false
variable {G : Gl}
set_option maxHeartbeats 4000000
set_option maxRecDepth 10000
theorem bl_div (v k : Nat) : bl (v / 2 ^ k) = bl v - k := by
  have h : ∀ j, j < bl (v / 2 ^ k) ↔ j + k < bl v := fun j => by
    rw [bl_le, bl_le, Nat.le_div_iff_mul_le (Nat.pow_pos (by decide)), ← Nat.pow_add]
  apply Nat.le_antisymm
  · apply Nat.le_of_not_lt
    intro hl
    have := (h (bl v - k)).1 hl
    omega
  · apply Nat.le_of_not_lt
    intro hl
    have := (h (bl (v / 2 ^ k))).2 (by omega)
    omega
theorem upP_ge (r : Int) (n : Bool) (q : Nat) (x : Int) : q ≤ upP r n q x := by unfold upP; split <;> omega
end Go.Proofs.YtokgalpflooegaaGreatDoor
/- Canonical floats, counted. No condition. -/
namespace Go.Proofs.YtokgalpflooegaaGreatDoor
set_option linter.unusedVariables false
set_option linter.unusedSimpArgs false
variable {G : Gl}
set_option maxHeartbeats 4000000
set_option maxRecDepth 10000
end Go.Proofs.YtokgalpflooegaaGreatDoor
