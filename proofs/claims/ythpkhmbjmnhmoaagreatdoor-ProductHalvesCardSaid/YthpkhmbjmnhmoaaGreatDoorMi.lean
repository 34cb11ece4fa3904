/- Sums, differences, products of the reference's natural numbers. No condition. The integers of the reference. No condition. Sums and differences of the reference's integers. No condition. The lowest bits of a number; a real number of the reference and its exponent. No condition. A real number of the reference: an integer times a power of 2; its exponent. No condition. A real number in steps; a part rounded. No condition. A part rounded; the greatest float; what is beyond it. No condition. The greatest float, what is beyond it. No condition. The reference's rounding is the program's. No condition. Canonical floats, counted. No condition. The exact sum of floats. No condition. The reference's sum is the program's. No condition. The reference's Total. No condition. What the laws of sums compare. No condition. The law SumTotals. No condition. The law SumAdds. No condition. The package variables of the program, as they are laid, and what a law's arguments are. No condition. Rounding to the nearest: how near, and when exactly. No condition. What a rounded sum drops is a float of the format. No condition. Functions whose one result is a row of the caller's. No condition. The reference's Rest: what sums leave, as a float. No condition. A box under another label; a pointer to cells, taken as one, within a region. No condition. Pairs of floats: the rounded sum, and what it drops. No condition. The law SumPairs. No condition. Products of floats, plain. No condition. Sums of products of floats, plain. No condition. The words of a product, plain. No condition. -/
import Derived.Test.YthpkhmbjmnhmoaaGreatDoorMh
import Derived.Test.YthpkhmbjmnhmoaaGreatDoorMf
import Derived.Test.YthpkhmbjmnhmoaaGreatDoorMe
import Derived.KernelRfl
import Derived.Test.YthpkhmbjmnhmoaaGreatDoorRows
import Derived.LaidMore
import Derived.LaidHandle
import Derived.Stop.Joined
import Derived.Carry
import Derived.OpenShut
import Derived.Test.YthpkhmbjmnhmoaaGreatDoorMd
import Derived.Test.YthpkhmbjmnhmoaaGreatDoorMg
/- Sums, differences, products of the reference's natural numbers. No condition. -/
namespace Go.Proofs.YthpkhmbjmnhmoaaGreatDoor
set_option linter.unusedVariables false
set_option linter.unusedSimpArgs false
variable {G : Gl}
set_option maxHeartbeats 2000000
theorem ws_dg {x : List Nat} (hw : Ws x) : val x < 4294967296 ^ (2 * x.length) := by rw [← HB]; exact val_lt hw
theorem sum_lt {a b j k : Nat} (ha : a < 4294967296 ^ j) (hb : b < 4294967296 ^ k) : a + b < 4294967296 ^ ((if j < k then k else j) + 1) := by
  have h1 : a < 4294967296 ^ (if j < k then k else j) := Nat.lt_of_lt_of_le ha (Nat.pow_le_pow_right (by decide) (by split <;> omega))
  have h2 : b < 4294967296 ^ (if j < k then k else j) := Nat.lt_of_lt_of_le hb (Nat.pow_le_pow_right (by decide) (by split <;> omega))
  rw [Nat.pow_succ]; omega
theorem mul_lt {a b j k : Nat} (ha : a < 4294967296 ^ j) (hb : b < 4294967296 ^ k) : a * b < 4294967296 ^ (j + k) := by
  rw [Nat.pow_add]; exact Nat.mul_lt_mul_of_lt_of_le ha (Nat.le_of_lt hb) (Hpos k)
theorem RAdd_does {x y : List Nat} (hx : x.length ≤ 536870912) (wx : Ws x) (hy : y.length ≤ 536870912) (wy : Ws y) : Does Tryz.prog G 139 [Wd x, Wd y] (.v (Wn (nat (val x + val y)))) := by
  have hP := @Plus_r_does G (val x) (val y) (2 * x.length) (2 * y.length) _ (ws_dg wx) (ws_dg wy) (by omega) (by omega) rfl
  have hn := @rnat_does G (val x + val y) ((if 2 * x.length < 2 * y.length then 2 * y.length else 2 * x.length) + 1) (by split <;> omega) (sum_lt (ws_dg wx) (ws_dg wy))
  generalize (if 2 * x.length < 2 * y.length then 2 * y.length else 2 * x.length) + 1 = m at *
  generalize val x + val y = N at *
  have hA := @Digits_does G x (by omega) wx
  have hB := @Digits_does G y (by omega) wy
  refine Does.of (nt := 11) Tryz.func139 rfl rfl rfl (by simp) ?_
  simp only [argTm, PV.ext, Ce.ext]
  refine Do.seqk fun _ k1_ => ?_
  refine Do.region [0,1] true ?_
  simp [go_sem]
  apply k1_; clear k1_
  refine Do.seqk fun _ k2_ => ?_
  refine Do.region [4] true ?_
  simp [go_sem]
  refine DoL.call true 102 rfl rfl rfl rfl (by first | exact trivial | omega | (simp; done) | (simp; omega)) (hA) rfl (by first | exact .inl rfl | exact .inr rfl) rfl ?_
  simp [go_sem]
  refine DoL.call true 104 rfl rfl rfl rfl (by first | exact trivial | omega | (simp; done) | (simp; omega)) (hB) rfl (by first | exact .inl rfl | exact .inr rfl) rfl ?_
  simp [go_sem]
  refine DoL.call true 105 rfl rfl rfl rfl (by first | exact trivial | omega | (simp; done) | (simp; omega)) (hP) rfl (by first | exact .inl rfl | exact .inr rfl) rfl ?_
  simp [go_sem]
  refine DoL.call true 106 rfl rfl rfl rfl (by first | exact trivial | omega | (simp; done) | (simp; omega)) (hn) rfl (by first | exact .inl rfl | exact .inr rfl) rfl ?_
  simp [go_sem]
  apply k2_; clear k2_
  refine Do.ret ?_
  simp [endQ, rets, ret1, go_sem]
  repeat (refine And.intro (by first | omega | (intros; omega) | (intros; exact And.intro (by assumption) (by omega)) | grind) ?_)
  exact TLe.refl _
theorem RSub_does {x y : List Nat} (hx : x.length ≤ 536870912) (wx : Ws x) (hy : y.length ≤ 536870912) (wy : Ws y) (h : val y ≤ val x) : Does Tryz.prog G 155 [Wd x, Wd y] (.v (Wn (nat (val x - val y)))) := by
  have l1 := ws_dg wx
  obtain ⟨d, hd, he⟩ := less_ex l1 (Nat.lt_of_le_of_lt h l1)
  have he := he h
  subst he
  have hu : decide (val x < val y) = false := by simp; omega
  rw [hu] at hd
  have hl : (nat (val y)).length ≤ y.length := nat_len_le wy (Nat.le_refl _)
  have hb := @Digits_does G (nat (val y)) (by omega) (nat_ws _)
  rw [val_nat] at hb
  have hM := @Minus_r_does G (val x) (val y) (val x - val y) (2 * x.length) (2 * (nat (val y)).length) false (by have := ws_dg (nat_ws (val y)); rwa [val_nat] at this) hd (by omega)
  have hn := @rnat_does G (val x - val y) (2 * x.length) (by omega) hd.2.2.2
  have hA := @Digits_does G x (by omega) wx
  have hT := @RTrim_does G y (by omega) wy
  clear hd h hu l1
  generalize 2 * (nat (val y)).length = m at *
  generalize val x - val y = N at *
  refine Does.of (nt := 18) Tryz.func155 rfl rfl rfl (by simp) ?_
  simp only [argTm, PV.ext, Ce.ext]
  refine Do.seqk fun _ k1_ => ?_
  refine Do.region [0,1] true ?_
  simp [go_sem]
  apply k1_; clear k1_
  refine Do.seqk fun _ k2_ => ?_
  refine Do.region [5] true ?_
  simp [go_sem]
  refine DoL.call true 102 rfl rfl rfl rfl (by first | exact trivial | omega | (simp; done) | (simp; omega)) (hA) rfl (by first | exact .inl rfl | exact .inr rfl) rfl ?_
  simp [go_sem]
  refine DoL.call true 104 rfl rfl rfl rfl (by first | exact trivial | omega | (simp; done) | (simp; omega)) (hT) rfl (by first | exact .inl rfl | exact .inr rfl) rfl ?_
  simp [go_sem]
  refine DoL.call true 105 rfl rfl rfl rfl (by first | exact trivial | omega | (simp; done) | (simp; omega)) (hb) rfl (by first | exact .inl rfl | exact .inr rfl) rfl ?_
  simp [go_sem]
  refine DoL.call true 106 rfl rfl rfl rfl (by first | exact trivial | omega | (simp; done) | (simp; omega)) (hM) rfl (by first | exact .inl rfl | exact .inr rfl) rfl ?_
  simp [go_sem]
  apply k2_; clear k2_
  refine Do.seqk fun _ k3_ => ?_
  refine Do.region [4] true ?_
  simp [go_sem]
  refine DoL.call true 202 rfl rfl rfl rfl (by first | exact trivial | omega | (simp; done) | (simp; omega)) (hn) rfl (by first | exact .inl rfl | exact .inr rfl) rfl ?_
  simp [go_sem]
  apply k3_; clear k3_
  refine Do.ret ?_
  simp [endQ, rets, ret1, go_sem]
  repeat (refine And.intro (by first | omega | (intros; omega) | (intros; exact And.intro (by assumption) (by omega)) | grind) ?_)
  exact TLe.refl _
theorem RMul_does {x y : List Nat} (hx : x.length ≤ 536870912) (wx : Ws x) (hy : y.length ≤ 536870912) (wy : Ws y) : Does Tryz.prog G 55 [Wd x, Wd y] (.v (Wn (nat (val x * val y)))) := by
  have hP := @Times_does G (val x) (val y) (2 * x.length) (2 * y.length) (ws_dg wx) (ws_dg wy) (by omega) (by omega)
  have hn := @rnat_does G (val x * val y) (2 * x.length + 2 * y.length) (by omega) (mul_lt (ws_dg wx) (ws_dg wy))
  generalize val x * val y = N at *
  have hA := @Digits_does G x (by omega) wx
  have hB := @Digits_does G y (by omega) wy
  refine Does.of (nt := 11) Tryz.func55 rfl rfl rfl (by simp) ?_
  simp only [argTm, PV.ext, Ce.ext]
  refine Do.seqk fun _ k1_ => ?_
  refine Do.region [0,1] true ?_
  simp [go_sem]
  apply k1_; clear k1_
  refine Do.seqk fun _ k2_ => ?_
  refine Do.region [4] true ?_
  simp [go_sem]
  refine DoL.call true 102 rfl rfl rfl rfl (by first | exact trivial | omega | (simp; done) | (simp; omega)) (hA) rfl (by first | exact .inl rfl | exact .inr rfl) rfl ?_
  simp [go_sem]
  refine DoL.call true 104 rfl rfl rfl rfl (by first | exact trivial | omega | (simp; done) | (simp; omega)) (hB) rfl (by first | exact .inl rfl | exact .inr rfl) rfl ?_
  simp [go_sem]
  refine DoL.call true 105 rfl rfl rfl rfl (by first | exact trivial | omega | (simp; done) | (simp; omega)) (hP) rfl (by first | exact .inl rfl | exact .inr rfl) rfl ?_
  simp [go_sem]
  refine DoL.call true 106 rfl rfl rfl rfl (by first | exact trivial | omega | (simp; done) | (simp; omega)) (hn) rfl (by first | exact .inl rfl | exact .inr rfl) rfl ?_
  simp [go_sem]
  apply k2_; clear k2_
  refine Do.ret ?_
  simp [endQ, rets, ret1, go_sem]
  repeat (refine And.intro (by first | omega | (intros; omega) | (intros; exact And.intro (by assumption) (by omega)) | grind) ?_)
  exact TLe.refl _
theorem RCmp_does {x y : List Nat} (hx : x.length ≤ 536870912) (wx : Ws x) (hy : y.length ≤ 536870912) (wy : Ws y) : Does Tryz.prog G 143 [Wd x, Wd y] (.int .i64 (cmpP (val x) (val y))) := by
  have hP := @Compare_does G (val x) (val y) (2 * x.length) (2 * y.length) (ws_dg wx) (ws_dg wy) (by omega) (by omega)
  have hA := @Digits_does G x (by omega) wx
  have hB := @Digits_does G y (by omega) wy
  refine Does.of (nt := 10) Tryz.func143 rfl rfl rfl (by simp) ?_
  simp only [argTm, PV.ext, Ce.ext]
  refine Do.seqk fun _ k1_ => ?_
  refine Do.region [0,1] true ?_
  simp [go_sem]
  apply k1_; clear k1_
  refine Do.seqk fun _ k2_ => ?_
  refine Do.region [4] true ?_
  simp [go_sem]
  refine DoL.call true 102 rfl rfl rfl rfl (by first | exact trivial | omega | (simp; done) | (simp; omega)) (hA) rfl (by first | exact .inl rfl | exact .inr rfl) rfl ?_
  simp [go_sem]
  refine DoL.call true 104 rfl rfl rfl rfl (by first | exact trivial | omega | (simp; done) | (simp; omega)) (hB) rfl (by first | exact .inl rfl | exact .inr rfl) rfl ?_
  simp [go_sem]
  refine DoL.call true 105 rfl rfl rfl rfl (by first | exact trivial | omega | (simp; done) | (simp; omega)) (hP) rfl (by first | exact .inl rfl | exact .inr rfl) rfl ?_
  simp [go_sem]
  apply k2_; clear k2_
  refine Do.ret ?_
  simp [endQ, rets, ret1, go_sem]
  repeat (refine And.intro (by first | omega | (intros; omega) | (intros; exact And.intro (by assumption) (by omega)) | grind) ?_)
  exact TLe.refl _
theorem RWord_does {w : Nat} (hw : w < 18446744073709551616) : Does Tryz.prog G 59 [.c (.n w)] (.v (Wn (nat w))) := by
  have hn := @rnat_does G w 2 (by omega) (show w < 4294967296 ^ 2 from hw)
  refine Does.of (nt := 6) Tryz.func59 rfl rfl rfl (by simp) ?_
  simp only [argTm, PV.ext, Ce.ext]
  refine Do.seqk fun _ k1_ => ?_
  refine Do.region [0] true ?_
  simp [go_sem]
  apply k1_; clear k1_
  refine Do.seqk fun _ k2_ => ?_
  refine Do.region [2] true ?_
  simp [go_sem]
  refine DoL.call true 102 rfl rfl rfl rfl (by first | exact trivial | omega | (simp; done) | (simp; omega)) (Word_does hw) rfl (by first | exact .inl rfl | exact .inr rfl) rfl ?_
  simp [go_sem]
  refine DoL.call true 103 rfl rfl rfl rfl (by first | exact trivial | omega | (simp; done) | (simp; omega)) (hn) rfl (by first | exact .inl rfl | exact .inr rfl) rfl ?_
  simp [go_sem]
  apply k2_; clear k2_
  refine Do.ret ?_
  simp [endQ, rets, ret1, go_sem]
  repeat (refine And.intro (by first | omega | (intros; omega) | (intros; exact And.intro (by assumption) (by omega)) | grind) ?_)
  exact TLe.refl _
end Go.Proofs.YthpkhmbjmnhmoaaGreatDoor
/- The integers of the reference. No condition. -/
namespace Go.Proofs.YthpkhmbjmnhmoaaGreatDoor
set_option linter.unusedVariables false
set_option linter.unusedSimpArgs false
variable {G : Gl}
set_option maxHeartbeats 2000000
set_option maxRecDepth 10000
/-- An integer's fields. -/
abbrev Ig (n : Bool) (m : List Nat) : PV := .a [.b n, .w false m]
/-- A canonical integer. -/
abbrev Iv (z : Int) : PV := Ig (decide (z < 0)) (nat z.natAbs)
/-- The value of a sign and a size. -/
def sgn (n : Bool) (v : Nat) : Int := if n then -(v : Int) else v
theorem sgn_abs (n : Bool) (v : Nat) : (sgn n v).natAbs = v := by unfold sgn; split <;> omega
theorem sgn_of (z : Int) : sgn (decide (z < 0)) z.natAbs = z := by unfold sgn; split <;> rename_i h <;> simp at h <;> omega
theorem nat_len_zero (v : Nat) : 0 < (nat v).length ↔ v ≠ 0 := by
  constructor
  · intro h h0; subst h0; rw [nat_zero] at h; simp at h
  · intro h
    apply Classical.byContradiction
    intro hn
    have : nat v = [] := List.length_eq_zero_iff.1 (by omega)
    have h2 := val_nat v
    rw [this] at h2
    simp [val] at h2
    omega
theorem PLe.ig {n : Bool} {c : Ce} {m : List Nat} (h : PLe (.c c) (.c (.w false m))) : PLe (.a [.b n, c]) (Ig n m) := by
  rintro E v ⟨vs, h1, h2⟩
  refine ⟨vs, h1, ?_⟩
  obtain ⟨v1, r1, e1, a1, h2⟩ := h2.cons_iff
  obtain ⟨v2, r2, e2, a2, h2⟩ := h2.cons_iff
  rw [e1, e2]
  exact .cons a1 (.cons (h _ _ a2) h2)
theorem IMake_does {n : Bool} {m : List Nat} (hm : m.length ≤ 1073741824) (wm : Ws m) : Does Tryz.prog G 104 [.c (.b n), Wd m] (.v (Iv (sgn n (val m)))) := by
  have hT := @RTrim_does G m hm wm
  have hz := nat_len_zero (val m)
  generalize hv : val m = v at *
  refine Does.of (nt := 15) Tryz.func104 rfl rfl rfl (by simp) ?_
  simp only [argTm, PV.ext, Ce.ext]
  refine Do.seqk fun _ k1_ => ?_
  refine Do.region [0,1,4] true ?_
  simp [go_sem]
  apply k1_; clear k1_
  refine Do.seqk fun _ k2_ => ?_
  refine Do.region [0,1,4] true ?_
  simp [go_sem]
  refine DoL.call true 102 rfl rfl rfl rfl (by first | exact trivial | omega | (simp; done) | (simp; omega)) (hT) rfl (by first | exact .inl rfl | exact .inr rfl) rfl ?_
  simp [go_sem]
  apply k2_; clear k2_
  refine Do.seqk fun _ k3_ => ?_
  refine Do.region [4] true ?_
  simp [go_sem]
  repeat (refine And.intro (by first | omega | (intros; omega) | (intros; exact And.intro (by assumption) (by omega)) | grind) ?_)
  apply k3_; clear k3_
  refine Do.ret ?_
  simp [endQ, rets, ret1, go_sem]
  repeat (refine And.intro (by first | omega | (intros; omega) | (intros; exact And.intro (by assumption) (by omega)) | grind) ?_)
  have e : (n && decide (0 < (nat v).length)) = decide (sgn n v < 0) := by
    by_cases h : v = 0
    · have h2 : ¬ 0 < (nat v).length := fun hh => hz.1 hh h
      have h4 : nat 0 = [] := nat_zero
      subst h
      cases n <;> simp [h4, sgn]
    · have h3 := hz.2 h
      cases n <;> simp only [sgn, h3, decide_true, Bool.and_true, Bool.false_and, if_true, if_false, Bool.false_eq_true] <;> simp <;> omega
  rw [e]
  show TLe _ (.v (Ig (decide (sgn n v < 0)) (nat (sgn n v).natAbs)))
  rw [sgn_abs]
  exact TLe.v (PLe.ig (PLe.ext (.c (.w true _))))
theorem ITrim_does {n : Bool} {m : List Nat} (hm : m.length ≤ 1073741824) (wm : Ws m) : Does Tryz.prog G 148 [Ig n m] (.v (Iv (sgn n (val m)))) := by
  have hM := @IMake_does G n m hm wm
  generalize sgn n (val m) = z at *
  refine Does.of (nt := 8) Tryz.func148 rfl rfl rfl (by simp) ?_
  simp only [argTm, PV.ext, Ce.ext]
  refine Do.seqk fun _ k1_ => ?_
  refine Do.region [1,2] true ?_
  simp [go_sem]
  apply k1_; clear k1_
  refine Do.seqk fun _ k2_ => ?_
  refine Do.region [2] true ?_
  simp [go_sem]
  repeat (refine And.intro (by first | omega | (intros; omega) | (intros; exact And.intro (by assumption) (by omega)) | grind) ?_)
  refine DoL.call true 105 rfl rfl rfl rfl (by first | exact trivial | omega | (simp; done) | (simp; omega)) (hM) rfl (by first | exact .inl rfl | exact .inr rfl) rfl ?_
  simp [go_sem]
  repeat (refine And.intro (by first | omega | (intros; omega) | (intros; exact And.intro (by assumption) (by omega)) | grind) ?_)
  apply k2_; clear k2_
  refine Do.ret ?_
  simp [endQ, rets, ret1, go_sem]
  repeat (refine And.intro (by first | omega | (intros; omega) | (intros; exact And.intro (by assumption) (by omega)) | grind) ?_)
  exact TLe.refl _
theorem ISign3_does {n : Bool} {m : List Nat} (hm : m.length ≤ 1073741824) (wm : Ws m) : Does Tryz.prog G 135 [Ig n m] (.int .i64 (sgn n (val m)).sign) := by
  have hM := @ITrim_does G n m hm wm
  generalize sgn n (val m) = z at *
  have hz := nat_len_zero z.natAbs
  refine Does.of (nt := 13) Tryz.func135 rfl rfl rfl (by simp) ?_
  simp only [argTm, PV.ext, Ce.ext]
  refine Do.seqk fun _ k1_ => ?_
  refine Do.region [1] true ?_
  simp [go_sem]
  apply k1_; clear k1_
  refine Do.seqk fun _ k2_ => ?_
  refine Do.seqk fun _ k3_ => ?_
  refine Do.region [1] true ?_
  simp [go_sem]
  repeat (refine And.intro (by first | omega | (intros; omega) | (intros; exact And.intro (by assumption) (by omega)) | grind) ?_)
  refine DoL.call true 102 rfl rfl rfl rfl (by first | exact trivial | omega | (simp; done) | (simp; omega)) (hM) rfl (by first | exact .inl rfl | exact .inr rfl) rfl ?_
  simp [go_sem]
  repeat (refine And.intro (by first | omega | (intros; omega) | (intros; exact And.intro (by assumption) (by omega)) | grind) ?_)
  apply k3_; clear k3_
  refine Do.block ?_
  refine Do.seqk fun _ k4_ => ?_
  refine Do.region [1,5] true ?_
  simp [go_sem]
  repeat (refine And.intro (by first | omega | (intros; omega) | (intros; exact And.intro (by assumption) (by omega)) | grind) ?_)
  apply k4_; clear k4_
  refine Do.cond [1] rfl (fun h => ?_) (fun h => ?_) <;> simp [go_sem] at h ⊢
  · refine Do.seqk fun _ k5_ => ?_
    refine Do.region [2] true ?_
    simp [go_sem]
    apply k5_; clear k5_
    refine Do.ret ?_
    simp [endQ, rets, ret1, go_sem]
    repeat (refine And.intro (by first | omega | (intros; omega) | (intros; exact And.intro (by assumption) (by omega)) | grind) ?_)
    exact ret_i (by rw [Int.sign_eq_neg_one_of_neg h])
  · refine Do.seqk fun _ k6_ => ?_
    refine Do.region [8] true ?_
    simp [go_sem]
    repeat (refine And.intro (by first | omega | (intros; omega) | (intros; exact And.intro (by assumption) (by omega)) | grind) ?_)
    apply k6_; clear k6_
    refine Do.cond [] rfl (fun h2 => ?_) (fun h2 => ?_) <;> simp [go_sem] at h2 ⊢
    · refine Do.seqk fun _ k7_ => ?_
      refine Do.region [2] true ?_
      simp [go_sem]
      apply k7_; clear k7_
      refine Do.ret ?_
      simp [endQ, rets, ret1, go_sem]
      repeat (refine And.intro (by first | omega | (intros; omega) | (intros; exact And.intro (by assumption) (by omega)) | grind) ?_)
      refine ret_i ?_
      rw [Int.sign_eq_one_of_pos]
      have := hz.1 h2
      omega
    · refine Do.skip ?_
      simp [go_sem]
      apply k2_; clear k2_
      refine Do.seqk fun _ k8_ => ?_
      refine Do.region [2] true ?_
      simp [go_sem]
      apply k8_; clear k8_
      refine Do.ret ?_
      simp [endQ, rets, ret1, go_sem]
      repeat (refine And.intro (by first | omega | (intros; omega) | (intros; exact And.intro (by assumption) (by omega)) | grind) ?_)
      refine ret_i ?_
      have : z = 0 := by
        apply Classical.byContradiction
        intro hn
        have h3 := hz.2 (by omega)
        simp only [h2] at h3
        simp at h3
      rw [this]; rfl
theorem ISign_does {n : Bool} {m : List Nat} (hm : m.length ≤ 1073741824) (wm : Ws m) : Does Tryz.prog G 90 [Ig n m] (.int .i64 (sgn n (val m)).sign) := by
  have hM := @ISign3_does G n m hm wm
  generalize sgn n (val m) = z at *
  refine Does.of (nt := 5) Tryz.func90 rfl rfl rfl (by simp) ?_
  simp only [argTm, PV.ext, Ce.ext]
  refine Do.seqk fun _ k1_ => ?_
  refine Do.region [1] true ?_
  simp [go_sem]
  apply k1_; clear k1_
  refine Do.seqk fun _ k2_ => ?_
  refine Do.region [2] true ?_
  simp [go_sem]
  repeat (refine And.intro (by first | omega | (intros; omega) | (intros; exact And.intro (by assumption) (by omega)) | grind) ?_)
  refine DoL.call true 102 rfl rfl rfl rfl (by first | exact trivial | omega | (simp; done) | (simp; omega)) (hM) rfl (by first | exact .inl rfl | exact .inr rfl) rfl ?_
  simp [go_sem]
  apply k2_; clear k2_
  refine Do.ret ?_
  simp [endQ, rets, ret1, go_sem]
  repeat (refine And.intro (by first | omega | (intros; omega) | (intros; exact And.intro (by assumption) (by omega)) | grind) ?_)
  exact TLe.refl _
theorem IMake11_does {n : Bool} {m : List Nat} (hm : m.length ≤ 1073741824) (wm : Ws m) : Does Tryz.prog G 57 [.c (.b n), Wd m] (.v (Iv (sgn n (val m)))) := by
  have hM := @IMake_does G n m hm wm
  generalize sgn n (val m) = z at *
  refine Does.of (nt := 8) Tryz.func57 rfl rfl rfl (by simp) ?_
  simp only [argTm, PV.ext, Ce.ext]
  refine Do.seqk fun _ k1_ => ?_
  refine Do.region [0,1,4] true ?_
  simp [go_sem]
  apply k1_; clear k1_
  refine Do.seqk fun _ k2_ => ?_
  refine Do.region [4] true ?_
  simp [go_sem]
  refine DoL.call true 103 rfl rfl rfl rfl (by first | exact trivial | omega | (simp; done) | (simp; omega)) (hM) rfl (by first | exact .inl rfl | exact .inr rfl) rfl ?_
  simp [go_sem]
  repeat (refine And.intro (by first | omega | (intros; omega) | (intros; exact And.intro (by assumption) (by omega)) | grind) ?_)
  apply k2_; clear k2_
  refine Do.ret ?_
  simp [endQ, rets, ret1, go_sem]
  repeat (refine And.intro (by first | omega | (intros; omega) | (intros; exact And.intro (by assumption) (by omega)) | grind) ?_)
  exact TLe.refl _
theorem INeg_does {n : Bool} {m : List Nat} (hm : m.length ≤ 1073741824) (wm : Ws m) : Does Tryz.prog G 167 [Ig n m] (.v (Iv (-sgn n (val m)))) := by
  have hM := @IMake_does G (!n) m hm wm
  rw [show sgn (!n) (val m) = -sgn n (val m) by cases n <;> simp [sgn]] at hM
  generalize -sgn n (val m) = z at *
  refine Does.of (nt := 9) Tryz.func167 rfl rfl rfl (by simp) ?_
  simp only [argTm, PV.ext, Ce.ext]
  refine Do.seqk fun _ k1_ => ?_
  refine Do.region [1,2] true ?_
  simp [go_sem]
  apply k1_; clear k1_
  refine Do.seqk fun _ k2_ => ?_
  refine Do.region [2] true ?_
  simp [go_sem]
  repeat (refine And.intro (by first | omega | (intros; omega) | (intros; exact And.intro (by assumption) (by omega)) | grind) ?_)
  refine DoL.call true 106 rfl rfl rfl rfl (by first | exact trivial | omega | (simp; done) | (simp; omega)) (hM) rfl (by first | exact .inl rfl | exact .inr rfl) rfl ?_
  simp [go_sem]
  repeat (refine And.intro (by first | omega | (intros; omega) | (intros; exact And.intro (by assumption) (by omega)) | grind) ?_)
  apply k2_; clear k2_
  refine Do.ret ?_
  simp [endQ, rets, ret1, go_sem]
  repeat (refine And.intro (by first | omega | (intros; omega) | (intros; exact And.intro (by assumption) (by omega)) | grind) ?_)
  exact TLe.refl _
theorem IMul3_does {n n' : Bool} {m m' : List Nat} (hm : m.length ≤ 536870912) (wm : Ws m) (hm' : m'.length ≤ 268435456) (wm' : Ws m') : Does Tryz.prog G 99 [Ig n m, Ig n' m'] (.v (Iv (sgn n (val m) * sgn n' (val m')))) := by
  have hl : (nat (val m * val m')).length ≤ m.length + m'.length := nat_len (by
    have h1 := val_lt wm
    have h2 := val_lt wm'
    rw [B64_pow] at h1 h2
    rw [show 64 * (m.length + m'.length) = 64 * m.length + 64 * m'.length by omega, Nat.pow_add]
    exact Nat.mul_lt_mul_of_lt_of_le h1 (Nat.le_of_lt h2) (Nat.pow_pos (by decide)))
  have hX := @RMul_does G m m' hm wm (by omega) wm'
  have hM := @IMake_does G (n != n') (nat (val m * val m')) (by omega) (nat_ws _)
  rw [val_nat, show sgn (n != n') (val m * val m') = sgn n (val m) * sgn n' (val m') by cases n <;> cases n' <;> simp [sgn, Int.natCast_mul, Int.mul_neg, Int.neg_mul]] at hM
  clear hl
  generalize sgn n (val m) * sgn n' (val m') = z at *
  generalize val m * val m' = N at *
  refine Does.of (nt := 16) Tryz.func99 rfl rfl rfl (by simp) ?_
  simp only [argTm, PV.ext, Ce.ext]
  refine Do.seqk fun _ k1_ => ?_
  refine Do.region [2,3,4] true ?_
  simp [go_sem]
  apply k1_; clear k1_
  refine Do.seqk fun _ k2_ => ?_
  refine Do.draw [4] true (by kernel_rfl) ?_
  simp [go_sem]
  repeat (refine And.intro (by first | omega | (intros; omega) | (intros; exact And.intro (by assumption) (by omega)) | kernel_rfl | grind) ?_)
  refine DoLD.call true 110 rfl rfl rfl rfl (by first | exact trivial | omega | (simp; done) | (simp; omega)) (hX) rfl (by first | exact .inl rfl | exact .inr rfl) rfl ?_
  simp [go_sem]
  refine DoLD.call true 111 rfl rfl rfl rfl (by first | exact trivial | omega | (simp; done) | (simp; omega)) (hM) rfl (by first | exact .inl rfl | exact .inr rfl) rfl ?_
  simp [go_sem]
  repeat (refine And.intro (by first | omega | (intros; omega) | (intros; exact And.intro (by assumption) (by omega)) | kernel_rfl | grind) ?_)
  try (refine And.intro (by kernel_rfl) ?_)
  apply k2_; clear k2_
  refine Do.ret ?_
  simp [endQ, rets, ret1, go_sem]
  repeat (refine And.intro (by first | omega | (intros; omega) | (intros; exact And.intro (by assumption) (by omega)) | grind) ?_)
  exact TLe.refl _
end Go.Proofs.YthpkhmbjmnhmoaaGreatDoor
/- Sums and differences of the reference's integers. No condition. -/
namespace Go.Proofs.YthpkhmbjmnhmoaaGreatDoor
set_option linter.unusedVariables false
set_option linter.unusedSimpArgs false
variable {G : Gl}
set_option maxHeartbeats 4000000
set_option maxRecDepth 10000
theorem bl_le_ws {m : List Nat} (wm : Ws m) : bl (val m) ≤ 64 * m.length := bl_le_len wm (Nat.le_refl _)
theorem nat_len_of {v k : Nat} (h : bl v ≤ k) : (nat v).length ≤ k := Nat.le_trans (nat_len_bl v) h
theorem cmpP_ge (a b : Nat) : (0 ≤ cmpP a b) = (b ≤ a) := by
  unfold cmpP
  apply propext
  split
  · constructor <;> intro <;> omega
  · split <;> constructor <;> intro <;> omega
theorem IAdd3_does {n n' : Bool} {m m' : List Nat} (hm : m.length ≤ 8388608) (wm : Ws m) (hm' : m'.length ≤ 8388608) (wm' : Ws m') : Does Tryz.prog G 126 [Ig n m, Ig n' m'] (.v (Iv (sgn n (val m) + sgn n' (val m')))) := by
  have hA := @RAdd_does G m m' (by omega) wm (by omega) wm'
  have hC := @RCmp_does G m m' (by omega) wm (by omega) wm'
  have hS1 := fun h => @RSub_does G m m' (by omega) wm (by omega) wm' h
  have hS2 := fun h => @RSub_does G m' m (by omega) wm' (by omega) wm h
  have b1 := bl_le_ws wm
  have b2 := bl_le_ws wm'
  have b3 := bl_add_le (val m) (val m') 536870912 (by omega) (by omega)
  have hM := fun (b : Bool) v (h : (nat v).length ≤ 1073741824) => @IMake_does G b (nat v) h (nat_ws v)
  simp only [val_nat] at hM
  have hge := cmpP_ge (val m) (val m')
  have m1 : bl (val m - val m') ≤ bl (val m) := bl_mono (Nat.sub_le _ _)
  have m2 : bl (val m' - val m) ≤ bl (val m') := bl_mono (Nat.sub_le _ _)
  generalize cmpP (val m) (val m') = c at *
  generalize val m = a at *
  generalize val m' = b at *
  by_cases hn : n = n'
  · have hMM := hM n (a + b) (nat_len_of (by omega))
    subst hn
    rw [show sgn n (a + b) = sgn n a + sgn n b by cases n <;> simp [sgn] <;> omega] at hMM
    generalize sgn n a + sgn n b = z at *
    refine Does.of (nt := 42) Tryz.func126 rfl rfl rfl (by simp) ?_
    simp only [argTm, PV.ext, Ce.ext]
    refine Do.seqk fun _ k1_ => ?_
    refine Do.region [2,3,4] true ?_
    simp [go_sem]
    apply k1_; clear k1_
    refine Do.seqk fun _ k2_ => ?_
    refine Do.block ?_
    refine Do.seqk fun _ k3_ => ?_
    refine Do.region [2,3,4,5] true ?_
    simp [go_sem]
    repeat (refine And.intro (by first | omega | (intros; omega) | (intros; exact And.intro (by assumption) (by omega)) | grind) ?_)
    apply k3_; clear k3_
    refine Do.cond [2,3,4] rfl (fun h => ?_) (fun h => ?_) <;> simp [go_sem] at h ⊢
    refine Do.seqk fun _ k4_ => ?_
    refine Do.draw [4] true (by kernel_rfl) ?_
    simp [go_sem]
    repeat (refine And.intro (by first | omega | (intros; omega) | (intros; exact And.intro (by assumption) (by omega)) | kernel_rfl | grind) ?_)
    refine DoLD.call true 207 rfl rfl rfl rfl (by first | exact trivial | omega | (simp; done) | (simp; omega)) (hA) rfl (by first | exact .inl rfl | exact .inr rfl) rfl ?_
    simp [go_sem]
    refine DoLD.call true 208 rfl rfl rfl rfl (by first | exact trivial | omega | (simp; done) | (simp; omega)) (hMM) rfl (by first | exact .inl rfl | exact .inr rfl) rfl ?_
    simp [go_sem]
    repeat (refine And.intro (by first | omega | (intros; omega) | (intros; exact And.intro (by assumption) (by omega)) | kernel_rfl | grind) ?_)
    try (refine And.intro (by kernel_rfl) ?_)
    apply k4_; clear k4_
    refine Do.ret ?_
    simp [endQ, rets, ret1, go_sem]
    repeat (refine And.intro (by first | omega | (intros; omega) | (intros; exact And.intro (by assumption) (by omega)) | grind) ?_)
    exact TLe.refl _
  · by_cases h : b ≤ a
    · have hc : 0 ≤ c := by rw [hge]; exact h
      have hMM := hM n (a - b) (nat_len_of (by omega))
      have hSS := hS1 h
      rw [show sgn n (a - b) = sgn n a + sgn n' b by cases n <;> cases n' <;> simp [sgn] at hn ⊢ <;> omega] at hMM
      generalize sgn n a + sgn n' b = z at *
      refine Does.of (nt := 42) Tryz.func126 rfl rfl rfl (by simp) ?_
      simp only [argTm, PV.ext, Ce.ext]
      refine Do.seqk fun _ k1_ => ?_
      refine Do.region [2,3,4] true ?_
      simp [go_sem, show (n == n') = false from beq_false_of_ne hn, hc]
      apply k1_; clear k1_
      refine Do.seqk fun _ k2_ => ?_
      refine Do.block ?_
      refine Do.seqk fun _ k3_ => ?_
      refine Do.region [2,3,4,5] true ?_
      simp [go_sem, show (n == n') = false from beq_false_of_ne hn, hc]
      repeat (refine And.intro (by first | omega | (intros; omega) | (intros; exact And.intro (by assumption) (by omega)) | grind) ?_)
      apply k3_; clear k3_
      refine Do.cond [2,3,4] rfl (fun h1 => ?_) (fun h1 => ?_) <;> simp [go_sem, show (n == n') = false from beq_false_of_ne hn, hc] at h1 ⊢
      refine Do.seqk fun _ k4_ => ?_
      refine Do.region [2,3,4,19] true ?_
      simp [go_sem, show (n == n') = false from beq_false_of_ne hn, hc]
      repeat (refine And.intro (by first | omega | (intros; omega) | (intros; exact And.intro (by assumption) (by omega)) | grind) ?_)
      refine DoL.call true 305 rfl rfl rfl rfl (by first | exact trivial | omega | (simp; done) | (simp; omega)) (hC) rfl (by first | exact .inl rfl | exact .inr rfl) rfl ?_
      simp [go_sem, show (n == n') = false from beq_false_of_ne hn, hc]
      apply k4_; clear k4_
      refine Do.cond [2,3,4] rfl (fun h2 => ?_) (fun h2 => ?_) <;> simp [go_sem, show (n == n') = false from beq_false_of_ne hn, hc] at h2 ⊢
      refine Do.seqk fun _ k5_ => ?_
      refine Do.draw [4] true (by kernel_rfl) ?_
      simp [go_sem, show (n == n') = false from beq_false_of_ne hn, hc]
      repeat (refine And.intro (by first | omega | (intros; omega) | (intros; exact And.intro (by assumption) (by omega)) | kernel_rfl | grind) ?_)
      refine DoLD.call true 407 rfl rfl rfl rfl (by first | exact trivial | omega | (simp; done) | (simp; omega)) (hSS) rfl (by first | exact .inl rfl | exact .inr rfl) rfl ?_
      simp [go_sem, show (n == n') = false from beq_false_of_ne hn, hc]
      refine DoLD.call true 408 rfl rfl rfl rfl (by first | exact trivial | omega | (simp; done) | (simp; omega)) (hMM) rfl (by first | exact .inl rfl | exact .inr rfl) rfl ?_
      simp [go_sem, show (n == n') = false from beq_false_of_ne hn, hc]
      repeat (refine And.intro (by first | omega | (intros; omega) | (intros; exact And.intro (by assumption) (by omega)) | kernel_rfl | grind) ?_)
      try (refine And.intro (by kernel_rfl) ?_)
      apply k5_; clear k5_
      refine Do.ret ?_
      simp [endQ, rets, ret1, go_sem, show (n == n') = false from beq_false_of_ne hn, hc]
      repeat (refine And.intro (by first | omega | (intros; omega) | (intros; exact And.intro (by assumption) (by omega)) | grind) ?_)
      exact TLe.refl _
    · have hc : ¬ 0 ≤ c := by rw [hge]; exact h
      have hMM := hM n' (b - a) (nat_len_of (by omega))
      have hSS := hS2 (by omega)
      rw [show sgn n' (b - a) = sgn n a + sgn n' b by cases n <;> cases n' <;> simp [sgn] at hn ⊢ <;> omega] at hMM
      generalize sgn n a + sgn n' b = z at *
      refine Does.of (nt := 42) Tryz.func126 rfl rfl rfl (by simp) ?_
      simp only [argTm, PV.ext, Ce.ext]
      refine Do.seqk fun _ k1_ => ?_
      refine Do.region [2,3,4] true ?_
      simp [go_sem, show (n == n') = false from beq_false_of_ne hn, hc]
      apply k1_; clear k1_
      refine Do.seqk fun _ k2_ => ?_
      refine Do.block ?_
      refine Do.seqk fun _ k3_ => ?_
      refine Do.region [2,3,4,5] true ?_
      simp [go_sem, show (n == n') = false from beq_false_of_ne hn, hc]
      repeat (refine And.intro (by first | omega | (intros; omega) | (intros; exact And.intro (by assumption) (by omega)) | grind) ?_)
      apply k3_; clear k3_
      refine Do.cond [2,3,4] rfl (fun h1 => ?_) (fun h1 => ?_) <;> simp [go_sem, show (n == n') = false from beq_false_of_ne hn, hc] at h1 ⊢
      refine Do.seqk fun _ k4_ => ?_
      refine Do.region [2,3,4,19] true ?_
      simp [go_sem, show (n == n') = false from beq_false_of_ne hn, hc]
      repeat (refine And.intro (by first | omega | (intros; omega) | (intros; exact And.intro (by assumption) (by omega)) | grind) ?_)
      refine DoL.call true 305 rfl rfl rfl rfl (by first | exact trivial | omega | (simp; done) | (simp; omega)) (hC) rfl (by first | exact .inl rfl | exact .inr rfl) rfl ?_
      simp [go_sem, show (n == n') = false from beq_false_of_ne hn, hc]
      apply k4_; clear k4_
      refine Do.cond [2,3,4] rfl (fun h2 => ?_) (fun h2 => ?_) <;> simp [go_sem, show (n == n') = false from beq_false_of_ne hn, hc] at h2 ⊢
      refine Do.skip ?_
      simp [go_sem]
      apply k2_; clear k2_
      refine Do.seqk fun _ k5_ => ?_
      refine Do.draw [4] true (by kernel_rfl) ?_
      simp [go_sem, show (n == n') = false from beq_false_of_ne hn, hc]
      repeat (refine And.intro (by first | omega | (intros; omega) | (intros; exact And.intro (by assumption) (by omega)) | kernel_rfl | grind) ?_)
      refine DoLD.call true 507 rfl rfl rfl rfl (by first | exact trivial | omega | (simp; done) | (simp; omega)) (hSS) rfl (by first | exact .inl rfl | exact .inr rfl) rfl ?_
      simp [go_sem, show (n == n') = false from beq_false_of_ne hn, hc]
      refine DoLD.call true 508 rfl rfl rfl rfl (by first | exact trivial | omega | (simp; done) | (simp; omega)) (hMM) rfl (by first | exact .inl rfl | exact .inr rfl) rfl ?_
      simp [go_sem, show (n == n') = false from beq_false_of_ne hn, hc]
      repeat (refine And.intro (by first | omega | (intros; omega) | (intros; exact And.intro (by assumption) (by omega)) | kernel_rfl | grind) ?_)
      try (refine And.intro (by kernel_rfl) ?_)
      apply k5_; clear k5_
      refine Do.ret ?_
      simp [endQ, rets, ret1, go_sem, show (n == n') = false from beq_false_of_ne hn, hc]
      repeat (refine And.intro (by first | omega | (intros; omega) | (intros; exact And.intro (by assumption) (by omega)) | grind) ?_)
      exact TLe.refl _
theorem IAdd_does {n n' : Bool} {m m' : List Nat} (hm : m.length ≤ 8388608) (wm : Ws m) (hm' : m'.length ≤ 8388608) (wm' : Ws m') : Does Tryz.prog G 79 [Ig n m, Ig n' m'] (.v (Iv (sgn n (val m) + sgn n' (val m')))) := by
  have hM := @IAdd3_does G n n' m m' hm wm hm' wm'
  generalize sgn n (val m) + sgn n' (val m') = z at *
  refine Does.of (nt := 8) Tryz.func79 rfl rfl rfl (by simp) ?_
  simp only [argTm, PV.ext, Ce.ext]
  refine Do.seqk fun _ k1_ => ?_
  refine Do.region [2,3,4] true ?_
  simp [go_sem]
  apply k1_; clear k1_
  refine Do.seqk fun _ k2_ => ?_
  refine Do.region [4] true ?_
  simp [go_sem]
  repeat (refine And.intro (by first | omega | (intros; omega) | (intros; exact And.intro (by assumption) (by omega)) | grind) ?_)
  refine DoL.call true 103 rfl rfl rfl rfl (by first | exact trivial | omega | (simp; done) | (simp; omega)) (hM) rfl (by first | exact .inl rfl | exact .inr rfl) rfl ?_
  simp [go_sem]
  repeat (refine And.intro (by first | omega | (intros; omega) | (intros; exact And.intro (by assumption) (by omega)) | grind) ?_)
  apply k2_; clear k2_
  refine Do.ret ?_
  simp [endQ, rets, ret1, go_sem]
  repeat (refine And.intro (by first | omega | (intros; omega) | (intros; exact And.intro (by assumption) (by omega)) | grind) ?_)
  exact TLe.refl _
theorem IMul_does {n n' : Bool} {m m' : List Nat} (hm : m.length ≤ 536870912) (wm : Ws m) (hm' : m'.length ≤ 268435456) (wm' : Ws m') : Does Tryz.prog G 54 [Ig n m, Ig n' m'] (.v (Iv (sgn n (val m) * sgn n' (val m')))) := by
  have hM := @IMul3_does G n n' m m' hm wm hm' wm'
  generalize sgn n (val m) * sgn n' (val m') = z at *
  refine Does.of (nt := 8) Tryz.func54 rfl rfl rfl (by simp) ?_
  simp only [argTm, PV.ext, Ce.ext]
  refine Do.seqk fun _ k1_ => ?_
  refine Do.region [2,3,4] true ?_
  simp [go_sem]
  apply k1_; clear k1_
  refine Do.seqk fun _ k2_ => ?_
  refine Do.region [4] true ?_
  simp [go_sem]
  repeat (refine And.intro (by first | omega | (intros; omega) | (intros; exact And.intro (by assumption) (by omega)) | grind) ?_)
  refine DoL.call true 103 rfl rfl rfl rfl (by first | exact trivial | omega | (simp; done) | (simp; omega)) (hM) rfl (by first | exact .inl rfl | exact .inr rfl) rfl ?_
  simp [go_sem]
  repeat (refine And.intro (by first | omega | (intros; omega) | (intros; exact And.intro (by assumption) (by omega)) | grind) ?_)
  apply k2_; clear k2_
  refine Do.ret ?_
  simp [endQ, rets, ret1, go_sem]
  repeat (refine And.intro (by first | omega | (intros; omega) | (intros; exact And.intro (by assumption) (by omega)) | grind) ?_)
  exact TLe.refl _
theorem IFrom3_does {k : Nat} (hk : k < 9223372036854775808) : Does Tryz.prog G 108 [.c (.i .i64 k)] (.v (Iv k)) := by
  have hW := @RWord_does G k (by omega)
  have hM := @IMake_does G false (nat k) (by have := nat_len_of (v := k) (k := 64) ((bl_lt _ _).2 (by omega)); omega) (nat_ws k)
  rw [val_nat, show sgn false k = (k : Int) from rfl] at hM
  refine Does.of (nt := 14) Tryz.func108 rfl rfl rfl (by simp) ?_
  simp only [argTm, PV.ext, Ce.ext]
  refine Do.seqk fun _ k1_ => ?_
  refine Do.region [0,2] true ?_
  simp [go_sem, show ¬ (k : Int) < 0 by omega]
  apply k1_; clear k1_
  refine Do.seqk fun _ k2_ => ?_
  refine Do.seqk fun _ k3_ => ?_
  refine Do.region [0,2,4] true ?_
  simp [go_sem, show ¬ (k : Int) < 0 by omega]
  apply k3_; clear k3_
  refine Do.cond [0,2] rfl (fun h => ?_) (fun h => ?_) <;> simp [go_sem, show ¬ (k : Int) < 0 by omega] at h ⊢
  refine Do.skip ?_
  simp [go_sem]
  apply k2_; clear k2_
  refine Do.seqk fun _ k4_ => ?_
  refine Do.region [2] true ?_
  simp [go_sem, show ¬ (k : Int) < 0 by omega]
  repeat (refine And.intro (by first | omega | (intros; omega) | (intros; exact And.intro (by assumption) (by omega)) | grind) ?_)
  refine DoL.call true 303 rfl rfl rfl rfl (by first | exact trivial | omega | (simp; done) | (simp; omega)) (hW) rfl (by first | exact .inl rfl | exact .inr rfl) rfl ?_
  simp [go_sem, show ¬ (k : Int) < 0 by omega]
  refine DoL.call true 304 rfl rfl rfl rfl (by first | exact trivial | omega | (simp; done) | (simp; omega)) (hM) rfl (by first | exact .inl rfl | exact .inr rfl) rfl ?_
  simp [go_sem, show ¬ (k : Int) < 0 by omega]
  repeat (refine And.intro (by first | omega | (intros; omega) | (intros; exact And.intro (by assumption) (by omega)) | grind) ?_)
  apply k4_; clear k4_
  refine Do.ret ?_
  simp [endQ, rets, ret1, go_sem, show ¬ (k : Int) < 0 by omega]
  repeat (refine And.intro (by first | omega | (intros; omega) | (intros; exact And.intro (by assumption) (by omega)) | grind) ?_)
  exact TLe.refl _
theorem IFrom_does {k : Nat} (hk : k < 9223372036854775808) : Does Tryz.prog G 61 [.c (.i .i64 k)] (.v (Iv k)) := by
  have hM := @IFrom3_does G k hk
  refine Does.of (nt := 5) Tryz.func61 rfl rfl rfl (by simp) ?_
  simp only [argTm, PV.ext, Ce.ext]
  refine Do.seqk fun _ k1_ => ?_
  refine Do.region [0,2] true ?_
  simp [go_sem]
  apply k1_; clear k1_
  refine Do.seqk fun _ k2_ => ?_
  refine Do.region [2] true ?_
  simp [go_sem]
  refine DoL.call true 102 rfl rfl rfl rfl (by first | exact trivial | omega | (simp; done) | (simp; omega)) (hM) rfl (by first | exact .inl rfl | exact .inr rfl) rfl ?_
  simp [go_sem]
  repeat (refine And.intro (by first | omega | (intros; omega) | (intros; exact And.intro (by assumption) (by omega)) | grind) ?_)
  apply k2_; clear k2_
  refine Do.ret ?_
  simp [endQ, rets, ret1, go_sem]
  repeat (refine And.intro (by first | omega | (intros; omega) | (intros; exact And.intro (by assumption) (by omega)) | grind) ?_)
  exact TLe.refl _
end Go.Proofs.YthpkhmbjmnhmoaaGreatDoor
/- The lowest bits of a number; a real number of the reference and its exponent. No condition. -/
namespace Go.Proofs.YthpkhmbjmnhmoaaGreatDoor
set_option linter.unusedVariables false
set_option linter.unusedSimpArgs false
variable {G : Gl}
set_option maxHeartbeats 4000000
set_option maxRecDepth 10000
theorem PLe.agg {l l' : List Ce} (h : All2 (fun c d => PLe (.c c) (.c d)) l l') : PLe (.a l) (.a l') := by
  rintro E v ⟨vs, h1, h2⟩
  refine ⟨vs, h1, ?_⟩
  clear h1
  generalize vs.toList = ws at *
  induction h generalizing ws with
  | nil => exact h2
  | cons g _ ih =>
    obtain ⟨w, r, rfl, a, b⟩ := h2.cons_iff
    exact .cons (g _ _ a) (ih _ b)
end Go.Proofs.YthpkhmbjmnhmoaaGreatDoor
/- A real number of the reference: an integer times a power of 2; its exponent. No condition. -/
namespace Go.Proofs.YthpkhmbjmnhmoaaGreatDoor
set_option linter.unusedVariables false
set_option linter.unusedSimpArgs false
variable {G : Gl}
set_option maxHeartbeats 4000000
set_option maxRecDepth 10000
end Go.Proofs.YthpkhmbjmnhmoaaGreatDoor
/- A real number in steps; a part rounded. No condition. -/
namespace Go.Proofs.YthpkhmbjmnhmoaaGreatDoor
set_option linter.unusedVariables false
set_option linter.unusedSimpArgs false
variable {G : Gl}
set_option maxHeartbeats 4000000
set_option maxRecDepth 10000
end Go.Proofs.YthpkhmbjmnhmoaaGreatDoor
/- A part rounded; the greatest float; what is beyond it. No condition. -/
namespace Go.Proofs.YthpkhmbjmnhmoaaGreatDoor
set_option linter.unusedVariables false
set_option linter.unusedSimpArgs false
variable {G : Gl}
set_option maxHeartbeats 4000000
set_option maxRecDepth 10000
end Go.Proofs.YthpkhmbjmnhmoaaGreatDoor
/- The greatest float, what is beyond it. No condition. -/
namespace Go.Proofs.YthpkhmbjmnhmoaaGreatDoor
set_option linter.unusedVariables false
set_option linter.unusedSimpArgs false
variable {G : Gl}
set_option maxHeartbeats 4000000
set_option maxRecDepth 10000
/-- A float whose words are its own. -/
abbrev Flt.pw (x : Flt) : PV := .a [.i .i64 x.k, .b x.n, .i .i64 x.e, .w true (nat x.v)]
theorem PLe.flw {k : Int} {n : Bool} {e : Int} {c : Ce} {m : List Nat} (h : PLe (.c c) (.c (.w true m))) : PLe (.a [.i .i64 k, .b n, .i .i64 e, c]) (.a [.i .i64 k, .b n, .i .i64 e, .w true m]) :=
  PLe.agg (.cons (PLe.refl _) (.cons (PLe.refl _) (.cons (PLe.refl _) (.cons h .nil))))
theorem ret_zw {n : Nat} (h : n = 0) : PLe (.c .z) (.c (.w true (nat n))) := by subst h; rw [nat_zero]; exact PLe.z true
theorem ret_w1 {k : Int} {n : Bool} {e : Int} {c : Ce} {x : Flt} (h : PLe (.c c) (.c (.w true (nat x.v)))) (h1 : (k, n, e) = (x.k, x.n, x.e)) : TLe (tvOf [.a [.i .i64 k, .b n, .i .i64 e, c]]) (.v x.pw) := by
  simp only [Prod.mk.injEq] at h1
  obtain ⟨rfl, rfl, rfl⟩ := h1
  exact TLe.v (PLe.flw h)
theorem Does.mono {P : Program} {G : Gl} {f : FuncId} {args : List PV} {ret ret' : TV} (h : Does P G f args ret) (hle : TLe ret ret') : Does P G f args ret' := by
  intro W ok vals hok hgl hargs
  rcases h W ok vals hok hgl hargs with ⟨h1, h2⟩ | ⟨v, h1, h2⟩
  · exact .inl ⟨h1, h2.mono fun e W' ⟨v, q1, q2, q3⟩ => ⟨v, q1, q2, hle _ _ q3⟩⟩
  · exact .inr ⟨v, h1, hle _ _ h2⟩
theorem Canonical_new {k e : Int} {n : Bool} {m : List Nat} (hm : m.length ≤ 1073741824) (wm : Ws m) (he : Md e) : Does Tryz.prog G 73 [Fl k n e m] (.v (rcanon ⟨k, n, e, val m⟩).pw) := by
  have ho : Does Tryz.prog G 56 [Fl k n e m] (.t [Wn (nat (val m / 2 ^ tz (val m))), .c (.i .i64 (e + tz (val m)))]) := odd_does hm wm he
  refine Does.of (nt := 23) Tryz.func73 rfl rfl rfl (by simp) ?_
  simp only [argTm, PV.ext, Ce.ext]
  refine Do.seqk fun _ k1_ => ?_
  refine Do.region [1,2] true ?_
  simp [go_sem]
  apply k1_; clear k1_
  refine Do.seqk fun _ k2_ => ?_
  refine Do.seqk fun _ k3_ => ?_
  refine Do.region [1,2,7] true ?_
  simp [go_sem]
  repeat (refine And.intro (by first | omega | (intros; omega) | (intros; exact And.intro (by assumption) (by omega)) | grind) ?_)
  apply k3_; clear k3_
  refine Do.cond [1,2] rfl (fun h => ?_) (fun h => ?_) <;> simp [go_sem] at h ⊢
  · refine Do.seqk fun _ k4_ => ?_
    refine Do.region [2] true ?_
    simp [go_sem]
    repeat (refine And.intro (by first | omega | (intros; omega) | (intros; exact And.intro (by assumption) (by omega)) | grind) ?_)
    apply k4_; clear k4_
    refine Do.ret ?_
    simp [endQ, rets, ret1, go_sem]
    repeat (refine And.intro (by first | omega | (intros; omega) | (intros; exact And.intro (by assumption) (by omega)) | grind) ?_)
    rw [rcanon, if_neg h]
    exact ret_w1 (ret_zw rfl) rfl
  · refine Do.skip ?_
    simp [go_sem]
    apply k2_; clear k2_
    refine Do.seqk fun _ k5_ => ?_
    refine Do.region [1,2,3,4] true ?_
    simp [go_sem]
    repeat (refine And.intro (by first | omega | (intros; omega) | (intros; exact And.intro (by assumption) (by omega)) | grind) ?_)
    refine DoL.call true 302 rfl rfl rfl rfl (by first | exact trivial | omega | (simp; done) | (simp; omega)) (ho) rfl (by first | exact .inl rfl | exact .inr rfl) rfl ?_
    simp [go_sem]
    apply k5_; clear k5_
    refine Do.seqk fun _ k6_ => ?_
    refine Do.region [2] true ?_
    simp [go_sem]
    repeat (refine And.intro (by first | omega | (intros; omega) | (intros; exact And.intro (by assumption) (by omega)) | grind) ?_)
    apply k6_; clear k6_
    refine Do.ret ?_
    simp [endQ, rets, ret1, go_sem]
    repeat (refine And.intro (by first | omega | (intros; omega) | (intros; exact And.intro (by assumption) (by omega)) | grind) ?_)
    rw [rcanon, if_pos h]
    exact TLe.refl _
end Go.Proofs.YthpkhmbjmnhmoaaGreatDoor
/- The reference's rounding is the program's. No condition. -/
namespace Go.Proofs.YthpkhmbjmnhmoaaGreatDoor
set_option linter.unusedVariables false
set_option linter.unusedSimpArgs false
variable {G : Gl}
set_option maxHeartbeats 4000000
set_option maxRecDepth 10000
theorem bl_div (v k : Nat) : bl (v / 2 ^ k) = bl v - k := by
  have h : ∀ j, j < bl (v / 2 ^ k) ↔ j + k < bl v := fun j => by
    rw [bl_le, bl_le, Nat.le_div_iff_mul_le (Nat.pow_pos (by decide)), ← Nat.pow_add]
  apply Nat.le_antisymm
  · apply Nat.le_of_not_lt
    intro hl
    have := (h (bl v - k)).1 hl
    omega
  · apply Nat.le_of_not_lt
    intro hl
    have := (h (bl (v / 2 ^ k))).2 (by omega)
    omega
end Go.Proofs.YthpkhmbjmnhmoaaGreatDoor
/- Canonical floats, counted. No condition. -/
namespace Go.Proofs.YthpkhmbjmnhmoaaGreatDoor
set_option linter.unusedVariables false
set_option linter.unusedSimpArgs false
variable {G : Gl}
set_option maxHeartbeats 4000000
set_option maxRecDepth 10000
end Go.Proofs.YthpkhmbjmnhmoaaGreatDoor
/- The exact sum of floats. No condition. -/
namespace Go.Proofs.YthpkhmbjmnhmoaaGreatDoor
set_option linter.unusedVariables false
set_option linter.unusedSimpArgs false
variable {G : Gl}
set_option maxHeartbeats 4000000
set_option maxRecDepth 10000
theorem svs_bound {z : Int} {M : Nat} : ∀ {l : List Flt}, (∀ x ∈ l, x.k = 1 → x.v * 2 ^ (x.e - z).toNat ≤ M) → (svs z l).natAbs ≤ l.length * M
  | [], _ => by simp [svs]
  | x :: l, h => by
    have ih := svs_bound (l := l) fun y hy => h y (List.mem_cons_of_mem _ hy)
    have hx := h x (by simp)
    simp only [svs, List.length_cons, Nat.add_mul, Nat.one_mul]
    split
    · rename_i hk
      have := hx hk
      unfold Nu.sv
      simp only []
      generalize x.v * 2 ^ (x.e - z).toNat = w at *
      generalize l.length * M = y at *
      split <;> omega
    · generalize l.length * M = y at *
      omega
theorem len_bl {v k : Nat} (h : bl v ≤ k) : (nat v).length ≤ (k + 63) / 64 := by rw [natlen]; omega
/-- Bounds under which exact sums stay small. -/
def Tame (l : List Flt) : Prop := l.length < 1099511627776 ∧ ∀ x ∈ l, (x.k = 1 → -1048576 ≤ x.e ∧ x.e ≤ 1048576 ∧ bl x.v ≤ 1048576)
theorem Tame.term {l : List Flt} (h : Tame l) {z : Int} (hz : -1048576 ≤ z) {x : Flt} (hx : x ∈ l) (hk : x.k = 1) (hze : z ≤ x.e) : bl (x.v * 2 ^ (x.e - z).toNat) ≤ 3145728 := by
  obtain ⟨h1, h2, h3⟩ := h.2 x hx hk
  by_cases h0 : x.v = 0
  · rw [h0]; simp [bl_zero]
  · rw [bl_mul_pow _ _ (by omega)]; omega
theorem Tame.sum {l : List Flt} (h : Tame l) {z : Int} (hz : -1048576 ≤ z) (hl : ∀ x ∈ l, x.k = 1 → z ≤ x.e) (i : Nat) : bl (svs z (l.take i)).natAbs ≤ 3145768 := by
  obtain ⟨K, hK⟩ : ∃ K, K = 3145728 := ⟨_, rfl⟩
  have hb := @svs_bound z (2 ^ K) (l.take i) fun x hx hk => Nat.le_of_lt ((bl_lt _ _).1 (by rw [hK]; exact h.term hz (List.mem_of_mem_take hx) hk (hl x (List.mem_of_mem_take hx) hk)))
  have h1 : (l.take i).length < 2 ^ 40 := Nat.lt_of_le_of_lt (List.length_take_le' i l) h.1
  have h2 : bl (svs z (l.take i)).natAbs ≤ 40 + K := by
    rw [bl_lt]
    refine Nat.lt_of_le_of_lt hb ?_
    rw [Nat.pow_add]
    exact Nat.mul_lt_mul_of_pos_right h1 (Nat.pow_pos (by decide))
  omega
end Go.Proofs.YthpkhmbjmnhmoaaGreatDoor
/- The reference's sum is the program's. No condition. -/
namespace Go.Proofs.YthpkhmbjmnhmoaaGreatDoor
set_option linter.unusedVariables false
set_option linter.unusedSimpArgs false
variable {G : Gl}
set_option maxHeartbeats 4000000
set_option maxRecDepth 10000
end Go.Proofs.YthpkhmbjmnhmoaaGreatDoor
/- The reference's Total. No condition. -/
namespace Go.Proofs.YthpkhmbjmnhmoaaGreatDoor
set_option linter.unusedVariables false
set_option linter.unusedSimpArgs false
variable {G : Gl}
set_option maxHeartbeats 4000000
set_option maxRecDepth 10000
end Go.Proofs.YthpkhmbjmnhmoaaGreatDoor
/- What the laws of sums compare. No condition. -/
namespace Go.Proofs.YthpkhmbjmnhmoaaGreatDoor
set_option linter.unusedVariables false
set_option linter.unusedSimpArgs false
variable {G : Gl}
set_option maxHeartbeats 4000000
set_option maxRecDepth 10000
/-- Arguments that say more. -/
theorem Does.weak {P : Program} {G : Gl} {f : FuncId} {args args' : List PV} {ret : TV} (h : Does P G f args ret) (hle : All2 PLe args' args) : Does P G f args' ret := by
  intro W ok vals hok hgl hargs
  refine h W ok vals hok hgl ?_
  clear h
  induction hle generalizing vals with
  | nil => exact hargs
  | cons h _ ih =>
    obtain ⟨v, vs, rfl, g1, g2⟩ := hargs.cons_iff
    exact .cons (h _ _ g1) (ih vs g2)
theorem rcanon_idem (x : Flt) : rcanon (rcanon x) = rcanon x := by
  unfold rcanon
  by_cases h : x.k = 1
  · have : tz (x.v / 2 ^ tz x.v) = 0 := by
      by_cases h0 : x.v = 0
      · simp [h0, tz_zero]
      · exact tz_rest (by omega)
    simp [h, this]
  · simp [h]
theorem mkP_fix {n : Bool} {q : Nat} {u : Int} : rcanon (mkP n q u) = mkP n q u := by
  unfold mkP
  split
  · rfl
  · have h : rcanon ⟨1, n, u, q⟩ = ⟨1, n, u + tz q, q / 2 ^ tz q⟩ := by simp [rcanon]
    rw [← h]
    exact rcanon_idem _
theorem roundP_fix {f p r : Int} (hf : fmOk f p = true) {n : Bool} {v : Nat} {e : Int} {st : Bool} : rcanon (roundP f p r n v e st).1 = (roundP f p r n v e st).1 := by
  obtain ⟨b1, b2, b3, b4⟩ := fmOk_spec hf
  unfold roundP
  simp only []
  split
  · split
    · obtain ⟨m, hm⟩ : ∃ m, p.toNat = m + 1 := ⟨p.toNat - 1, by omega⟩
      have h2 : 2 ^ p.toNat = 2 * 2 ^ m := by rw [hm, Nat.pow_succ']
      have h3 : 0 < 2 ^ m := Nat.pow_pos (by decide)
      have h4 : tz (2 ^ p.toNat - 1) = 0 := tz_odd1 (by omega)
      simp [rcanon, h4]
    · rfl
  · exact mkP_fix
abbrev Flt.fla (x : Flt) : Fla := ⟨x.k, x.n, x.e, nat x.v⟩
theorem Flt.fla_flt (x : Flt) : x.fla.flt = x := by simp [Fla.flt, val_nat]
theorem held_rcanon {f p : Int} {x : Flt} (h : (holdsP f p x).2 = true) : rcanon x = (holdsP f p x).1 ∧ (canon x).2 = true := by
  have hg : (canon x).2 = true := by
    have := @holds_good f p x
    rw [h, Bool.and_eq_true] at this
    exact this.1
  refine ⟨?_, hg⟩
  rw [rcanon_good hg]
  unfold holdsP
  split <;> rfl
/-- Floats of the reference: right ones. -/
structure Rt (x : Fla) : Prop where
  can : (canon x.flt).2 = true
  ws : Ws x.m
  len : x.m.length ≤ 4096
theorem Rt.md {x : Fla} (h : Rt x) : Md x.e := good_md h.can
theorem canon_one {x : Flt} (h : (canon x).2 = true) (hk : x.k = 1) : -1048576 ≤ x.e ∧ x.e + tz x.v ≤ 1048576 ∧ x.v ≠ 0 := by
  unfold canon at h
  rw [if_neg (by omega), if_neg (by omega), if_pos hk] at h
  split at h
  · cases h
  · simp at h; omega
theorem canon_kind {x : Flt} (h : (canon x).2 = true) : (x.k = 0 ∨ x.k = 1 ∨ x.k = 2 ∨ x.k = 3) ∧ (x.k = 3 → x.n = false) := by
  unfold canon at h
  split at h
  · omega
  · split at h
    · simp at h; exact ⟨by omega, fun _ => h.1.1⟩
    · split at h
      · omega
      · cases h
theorem rcanon_k (x : Flt) : (rcanon x).k = x.k := by unfold rcanon; split <;> simp_all
theorem held_rt {f p : Int} {l : List Fla} (h : allHold f p l = true) (ho : ∀ x ∈ l, x.Ok) (hm : ∀ x ∈ l, x.m.length ≤ 4096) : ∀ x ∈ l, Rt x := fun x hx =>
  ⟨(held_rcanon (by simpa using List.all_eq_true.1 h x hx)).2, (ho x hx).ws, hm x hx⟩
end Go.Proofs.YthpkhmbjmnhmoaaGreatDoor
/- The law SumTotals. No condition. -/
namespace Go.Proofs.YthpkhmbjmnhmoaaGreatDoor
set_option linter.unusedVariables false
set_option linter.unusedSimpArgs false
set_option maxHeartbeats 4000000
set_option maxRecDepth 10000
end Go.Proofs.YthpkhmbjmnhmoaaGreatDoor
/- The law SumAdds. No condition. -/
namespace Go.Proofs.YthpkhmbjmnhmoaaGreatDoor
set_option linter.unusedVariables false
set_option linter.unusedSimpArgs false
set_option maxHeartbeats 4000000
set_option maxRecDepth 10000
end Go.Proofs.YthpkhmbjmnhmoaaGreatDoor
/- The package variables of the program, as they are laid, and what a law's arguments are. No condition. -/
namespace Go.Proofs.YthpkhmbjmnhmoaaGreatDoor
set_option linter.unusedVariables false
set_option linter.unusedSimpArgs false
open Go.ChangeShapes Go.WideShapes Go.ChangeAt Go.RowKit
theorem own : ownKnob Tryz.prog.godebug = Option.none := by kernel_rfl
theorem laidOut : laidOutB Tryz.prog = true := by kernel_rfl
theorem g0_name : Tryz.prog.globalNamed "math/bits.deBruijn64tab" = some 1 := by kernel_rfl
theorem g1_name : Tryz.prog.globalNamed "reckoner/fin.more" = some 0 := by kernel_rfl
/-- What is listed. -/
abbrev laidL : List (String × DataW Unit) := [("math/bits.deBruijn64tab", Rows.laid_math_bits_deBruijn64tab), ("reckoner/fin.more", Rows.laid_reckoner_fin_more)]
section
variable {H : Type} {enc : TypeId × Value → H} {P : Program} {W : World} {base : Nat} {sp : Nat → Bool} {held : Bool}
theorem array_at {t e : TypeId} {n fuel : Nat} {cs : List Value} {ds : List (DataW H)} {p : List MemPlace} (ht : P.underlying t = some (.array n e)) (hc : P.cellsOf e = 1) (h : DataW.trod enc P W base sp held fuel t cs = some (.agg ds, p)) {i : Nat} {d : DataW H} (hd : ds[i]? = some d) : ∃ v m q, cs[i]? = some v ∧ DataW.trod enc P W base sp held m e [v] = some (d, q) := by
  obtain ⟨xs, m, rfl, hx, hl, hn, hel⟩ := DataW.trod_array ht h
  simp only [Prod.mk.injEq, DataW.agg.injEq] at hx
  obtain ⟨rfl, _⟩ := hx
  rw [List.getElem?_map] at hd
  cases hxi : xs[i]? with
  | none => simp [hxi] at hd
  | some y =>
    rw [hxi] at hd
    simp only [Option.map_some, Option.some.injEq] at hd
    have hi : i < n := by rw [← hn]; exact (List.getElem?_eq_some_iff.1 hxi).1
    have h1 := hel i hi
    rw [hc, Nat.mul_one, hxi] at h1
    have hil : i < cs.length := by
      apply Classical.byContradiction
      intro hge
      rw [List.drop_of_length_le (by omega)] at h1
      cases m with
      | zero => simp [DataW.trod] at h1
      | succ m =>
        have : P.cellsOf e = 1 := hc
        cases hu : P.underlying e with
        | none => simp [DataW.trod, hu] at h1
        | some k => cases k <;> simp [DataW.trod, hu] at h1 <;> (try omega)
    rw [List.drop_eq_getElem_cons hil] at h1
    simp only [List.take_succ_cons, List.take_zero] at h1
    exact ⟨cs[i], m, y.2, List.getElem?_eq_getElem hil, by rw [h1, ← hd]⟩
theorem laidMetH.plain {l : List (String × DataW Unit)} (h : laidMetH P l W) (hne : (l.filter fun x => x.2.handleName?.isSome).isEmpty = false) : laidMet P (l.filter fun x => x.2.handleName?.isNone) W := by
  unfold laidMetH at h
  generalize (l.filter fun x => x.2.handleName?.isSome) = fl at h hne
  cases fl with
  | nil => cases hne
  | cons a r => exact h.1
end
/-- The door's own heap meets the condition. -/
abbrev doorN : Nat := 19
abbrev doorK : Nat := 8
theorem door_met (os : Os) (args : Array Value) : laidMetH Tryz.prog laidL ((World.doorLaid Tryz.prog doorN os).forCall (fun _ _ => 0) ⟨#[], args, []⟩).memory :=
  laidMetH_of_parts3 (fuel := 8) (laidMet_of_run' 8 (by kernel_rfl) (by kernel_rfl)) (by kernel_rfl) (by kernel_rfl)
theorem of_laid {W : World} (h : laidMetH Tryz.prog laidL W) : GlOk Gv W := by
  have h0 : laidMet Tryz.prog [("math/bits.deBruijn64tab", Rows.laid_math_bits_deBruijn64tab)] W := laidMetH.plain h (by kernel_rfl)
  obtain ⟨ps, ⟨g0, t0, cs0, f0, p0, q0, hg0, ht0, hv0, hd0, _⟩, _, _⟩ := h0
  obtain ⟨g1, t1, cs1, f1, p1, hg1, ht1, hv1, hd1⟩ := h.funcs (d := .agg [.iface "func" (.lit (.string [114, 101, 99, 107, 111, 110, 101, 114, 47, 102, 105, 110, 46, 109, 111, 114, 101, 36, 49])), .iface "func" (.lit (.string [114, 101, 99, 107, 111, 110, 101, 114, 47, 102, 105, 110, 46, 109, 111, 114, 101, 36, 50])), .iface "func" (.lit (.string [114, 101, 99, 107, 111, 110, 101, 114, 47, 102, 105, 110, 46, 109, 111, 114, 101, 36, 51])), .iface "func" (.lit (.string [114, 101, 99, 107, 111, 110, 101, 114, 47, 102, 105, 110, 46, 109, 111, 114, 101, 36, 52])), .iface "func" (.lit (.string [114, 101, 99, 107, 111, 110, 101, 114, 47, 102, 105, 110, 46, 109, 111, 114, 101, 36, 53]))]) (n := "reckoner/fin.more") (List.mem_cons_of_mem _ (List.mem_singleton.2 rfl))
  obtain rfl := Option.some.inj (g0_name.symm.trans hg0)
  obtain rfl := Option.some.inj (g1_name.symm.trans hg1)
  have e0 : (Rows.laid_math_bits_deBruijn64tab : DataW Unit) = .agg (Lib.deBruijn64tab.map fun k => .lit (.int .u8 (k : Nat))) := by kernel_rfl
  rw [e0] at hd0
  obtain rfl := Option.some.inj ((show (Tryz.prog.globals[1]?).map (·.type) = some 191 by kernel_rfl).symm.trans ht0)
  obtain rfl := Option.some.inj ((show (Tryz.prog.globals[0]?).map (·.type) = some 183 by kernel_rfl).symm.trans ht1)
  intro b off x hx
  match b, hx with
  | 1, hx =>
    simp only [Gv, List.getElem?_map] at hx
    cases hk : Lib.deBruijn64tab[off]? with
    | none => simp [hk] at hx
    | some k =>
      simp only [hk, Option.map_some, Option.some.injEq] at hx; subst hx
      obtain ⟨v, m, q, h1, h2⟩ := array_at Tryz.underlying191 (by kernel_rfl) hd0 (i := off) (d := .lit (.int .u8 (k : Nat))) (by simp [hk])
      obtain ⟨z, h3, h4, _⟩ := DataW.trod_int Tryz.underlying5 h2
      simp only [List.cons.injEq, and_true, Prod.mk.injEq, DataW.lit.injEq, Lit.int.injEq, true_and] at h3 h4
      subst h3
      refine ⟨rfl, .int .u8 z, ?_, fun E => ?_⟩
      · rw [World.var?_cell hg0 hv0 off]; simpa using h1
      · show Value.int .u8 z = .int .u8 (k : Nat)
        rw [h4.1]
  | 0, hx =>
    have hd1 : DataW.trod (funcToken Tryz.prog) Tryz.prog W 0 (fun _ => true) true f1 183 cs1.toList = some (.agg [.held [114, 101, 99, 107, 111, 110, 101, 114, 47, 102, 105, 110, 46, 109, 111, 114, 101, 36, 49], .held [114, 101, 99, 107, 111, 110, 101, 114, 47, 102, 105, 110, 46, 109, 111, 114, 101, 36, 50], .held [114, 101, 99, 107, 111, 110, 101, 114, 47, 102, 105, 110, 46, 109, 111, 114, 101, 36, 51], .held [114, 101, 99, 107, 111, 110, 101, 114, 47, 102, 105, 110, 46, 109, 111, 114, 101, 36, 52], .held [114, 101, 99, 107, 111, 110, 101, 114, 47, 102, 105, 110, 46, 109, 111, 114, 101, 36, 53]], p1) := hd1
    have hF : ∀ {i : Nat} {by_ : UInt8} {r : List UInt8} {f0 : FuncId}, (([DataW.held (H := List UInt8) [114, 101, 99, 107, 111, 110, 101, 114, 47, 102, 105, 110, 46, 109, 111, 114, 101, 36, 49], .held [114, 101, 99, 107, 111, 110, 101, 114, 47, 102, 105, 110, 46, 109, 111, 114, 101, 36, 50], .held [114, 101, 99, 107, 111, 110, 101, 114, 47, 102, 105, 110, 46, 109, 111, 114, 101, 36, 51], .held [114, 101, 99, 107, 111, 110, 101, 114, 47, 102, 105, 110, 46, 109, 111, 114, 101, 36, 52], .held [114, 101, 99, 107, 111, 110, 101, 114, 47, 102, 105, 110, 46, 109, 111, 114, 101, 36, 53]]))[i]? = some (.held (by_ :: r)) → ((List.range Tryz.prog.funcs.size).filter fun f => (Tryz.prog.funcs[f]?).any (·.name.toUTF8.data.toList == by_ :: r)) = [f0] → (Ce.f f0).pure = true ∧ ∃ v, W.cell? ⟨0, i, Option.none⟩ = some v ∧ ∀ E, RC E (.f f0) v := fun {i by_ r f0} hi hone => by
      obtain ⟨v, m, q, h1, h2⟩ := array_at Tryz.underlying183 (by kernel_rfl) hd1 hi
      obtain rfl := func_of_trod (f0 := f0) Tryz.underlying182 hone h2
      refine ⟨rfl, .func (.func f0) #[] #[], ?_, fun E => rfl⟩
      rw [World.var?_cell hg1 hv1 i]; simpa using h1
    rcases off with _ | _ | _ | _ | _ | off
    · simp only [Gv] at hx
      obtain rfl : Ce.f 187 = x := Option.some.inj hx
      exact hF (i := 0) rfl (by kernel_rfl)
    · simp only [Gv] at hx
      obtain rfl : Ce.f 188 = x := Option.some.inj hx
      exact hF (i := 1) rfl (by kernel_rfl)
    · simp only [Gv] at hx
      obtain rfl : Ce.f 189 = x := Option.some.inj hx
      exact hF (i := 2) rfl (by kernel_rfl)
    · simp only [Gv] at hx
      obtain rfl : Ce.f 190 = x := Option.some.inj hx
      exact hF (i := 3) rfl (by kernel_rfl)
    · simp only [Gv] at hx
      obtain rfl : Ce.f 191 = x := Option.some.inj hx
      exact hF (i := 4) rfl (by kernel_rfl)
    · simp [Gv] at hx
  | b + 2, hx => simp [Gv] at hx
set_option maxRecDepth 100000
/-- A format among the arguments. -/
theorem arg_fm {H : Type} {enc : TypeId × Value → H} {W : World} {b0 : Nat} {sp : Nat → Bool} {held : Bool} {v : Value} {d : DataW H} {ps : List MemPlace} (hval : Value.okWide Tryz.prog W .any b0 23 v) (h : DataW.Trod enc Tryz.prog W 0 sp held 23 v d ps) : ∃ f p, RP (enA W fun b => b < W.heap.size) (Fm f p) v := by
  obtain ⟨ces, h1, h2⟩ := open_struct (ok := fun b => b < W.heap.size) (f := 2) (cts := [.i .i64, .i .i64]) (fun _ h => h) Tryz.underlying23 (by kernel_rfl) hval h
  cases h2 with | cons g h2 => cases h2 with | cons g' h2 => cases h2 with | nil =>
  obtain ⟨e, rfl, _⟩ := g
  obtain ⟨p, rfl, _⟩ := g'
  exact ⟨e, p, h1⟩
theorem cells_fl {ces : List Ce} (h2 : All2 CtIs [.i .i64, .b, .i .i64, .w] ces) : ∃ x : Fla, x.cs = ces ∧ Ws x.m ∧ I64 x.e := by
  cases h2 with | cons g1 h2 => cases h2 with | cons g2 h2 => cases h2 with | cons g3 h2 => cases h2 with | cons g4 h2 => cases h2 with | nil =>
  obtain ⟨k, rfl, _⟩ := g1
  obtain ⟨n, rfl⟩ := g2
  obtain ⟨e, rfl, he⟩ := g3
  obtain ⟨m, rfl, hm⟩ := g4
  exact ⟨⟨k, n, e, m⟩, rfl, hm, wf_i64 he⟩
/-- A float among the arguments. -/
theorem arg_fl {H : Type} {enc : TypeId × Value → H} {W : World} {b0 : Nat} {sp : Nat → Bool} {held : Bool} {v : Value} {d : DataW H} {ps : List MemPlace} (hval : Value.okWide Tryz.prog W .any b0 29 v) (h : DataW.Trod enc Tryz.prog W 0 sp held 29 v d ps) : ∃ x : Fla, Ws x.m ∧ I64 x.e ∧ RP (enA W fun b => b < W.heap.size) (Fl x.k x.n x.e x.m) v := by
  obtain ⟨ces, h1, h2⟩ := open_struct (ok := fun b => b < W.heap.size) (f := 2) (cts := [.i .i64, .b, .i .i64, .w]) (fun _ h => h) Tryz.underlying29 (by kernel_rfl) hval h
  obtain ⟨x, rfl, hx⟩ := cells_fl h2
  exact ⟨x, hx.1, hx.2, h1⟩
/-- What a law that returns true leaves. -/
theorem law_calls {f : FuncId} {fn : Func} {c : Code} {args : List PV} {W : World} {vals : List Value} (h : Does Tryz.prog Gv f args (.v (.c (.b true)))) (hf : Tryz.prog.funcs[f]? = some fn) (hname : (fn.name == "runtime.NumGoroutine") = false) (hb : fn.body = some c) (hg : GlOk Gv W) (ha : All2 (RP (enA W fun b => b < W.heap.size)) args vals) :
    Calls Tryz.prog f vals.toArray W (fun e W' => e = .returned (.bool true) ∧ Below W.heap.size W W') :=
  (h.toCalls hf hname hb (fun _ h => h) hg ha).mono fun e W' ⟨v, he, hb, hr⟩ => by
    have : v = .bool true := hr
    subst this
    exact ⟨he, hb⟩
end Go.Proofs.YthpkhmbjmnhmoaaGreatDoor
/- Rounding to the nearest: how near, and when exactly. No condition. -/
namespace Go.Proofs.YthpkhmbjmnhmoaaGreatDoor
set_option linter.unusedVariables false
set_option linter.unusedSimpArgs false
set_option maxHeartbeats 4000000
set_option maxRecDepth 10000
theorem near_cut (v k : Nat) (n : Bool) {q : Nat} (hq : upP 0 n (cutP v ((k : Int) + 1) false).1 (cutP v ((k : Int) + 1) false).2 = q) : 2 * v ≤ 2 * (q * 2 ^ (k + 1)) + 2 ^ (k + 1) ∧ 2 * (q * 2 ^ (k + 1)) ≤ 2 * v + 2 ^ (k + 1) := by
  have e1 : ((k : Int) + 1).toNat = k + 1 := by omega
  have e2 : ((k : Int) + 1 - 1).toNat = k := by omega
  rw [cutP, if_neg (by omega), e1, e2] at hq
  simp only [Bool.false_or] at hq
  have h1 : v / 2 ^ k = 2 * (v / 2 ^ (k + 1)) + v / 2 ^ k % 2 := by
    have := Nat.div_add_mod (v / 2 ^ k) 2
    rw [Nat.div_div_eq_div_mul, ← Nat.pow_succ] at this
    exact this.symm
  have h2 := Nat.div_add_mod v (2 ^ k)
  have h3 := Nat.mod_lt v (Nat.pow_pos (n := k) (show 0 < 2 by decide))
  have hP : 2 ^ (k + 1) = 2 * 2 ^ k := Nat.pow_succ'
  generalize v / 2 ^ (k + 1) = c at *
  have h4 : v / 2 ^ k % 2 = 0 ∨ v / 2 ^ k % 2 = 1 := by omega
  generalize v / 2 ^ k % 2 = b at *
  generalize v / 2 ^ k = d at *
  generalize v % 2 ^ k = l at *
  rw [hP]
  generalize 2 ^ k = H at *
  have key : v = 2 * (c * H) + b * H + l := by
    rw [← h2, h1, Nat.mul_add, Nat.mul_comm H b, ← Nat.mul_assoc, Nat.mul_comm H 2, Nat.mul_assoc, Nat.mul_comm H c]
  have hup : ∀ x, upP 0 n c x = c ∨ upP 0 n c x = c + 1 := fun x => by unfold upP; split <;> simp
  have hc : q = c ∨ q = c + 1 := by rw [← hq]; exact hup _
  have m0 : c * (2 * H) = 2 * (c * H) := by rw [← Nat.mul_assoc, Nat.mul_comm c 2, Nat.mul_assoc]
  have m1 : (c + 1) * (2 * H) = 2 * (c * H) + 2 * H := by rw [Nat.add_mul, m0, Nat.one_mul]
  rcases h4 with rfl | rfl
  · have : q = c := by rw [← hq]; by_cases hl : l = 0 <;> simp [upP, moreP, hl]
    subst this
    rw [m0]
    generalize q * H = X at *
    omega
  · by_cases hl : l = 0
    · rcases hc with rfl | rfl
      · rw [m0]
        generalize q * H = X at *
        omega
      · rw [m1]
        generalize c * H = X at *
        omega
    · have : q = c + 1 := by rw [← hq]; simp [upP, moreP, hl]
      subst this
      rw [m1]
      generalize c * H = X at *
      omega
theorem rcanon_scale (n : Bool) {v : Nat} (hv : 0 < v) (e : Int) (k : Nat) : rcanon ⟨1, n, e - k, v * 2 ^ k⟩ = rcanon ⟨1, n, e, v⟩ := by
  simp only [rcanon, if_true]
  rw [Nat.mul_comm v, tz_mul k hv, Nat.pow_add, Nat.mul_div_mul_left _ _ (Nat.pow_pos (by decide))]
  rw [show e - (k : Int) + ((k + tz v : Nat) : Int) = e + tz v by omega]
theorem mkP_rcanon {n : Bool} {q : Nat} {u : Int} (h : q ≠ 0) : mkP n q u = rcanon ⟨1, n, u, q⟩ := by simp [mkP, rcanon, h]
theorem upP_none (r : Int) (n : Bool) (q : Nat) : upP r n q 0 = q := by simp [upP, moreP]
/-- A float of the format is not changed. -/
theorem roundP_exact {f p r : Int} (hf : fmOk f p = true) {n : Bool} {w : Nat} {k : Int} (hw : 0 < w) (hk : 1 - gOfE f - (p - 1) ≤ k) (hb : (bl w : Int) ≤ p) (hg : k + bl w ≤ gOfE f + 1) : roundP f p r n w k false = (rcanon ⟨1, n, k, w⟩, 0) := by
  obtain ⟨b1, b2, b3, b4⟩ := fmOk_spec hf
  have hp := bl_pos hw
  have hu : stepP f p (k + bl w - 1) ≤ k := by unfold stepP; split <;> omega
  unfold roundP
  simp only []
  generalize stepP f p (k + bl w - 1) = u at *
  obtain ⟨j, hj⟩ : ∃ j : Nat, k - u = j := ⟨(k - u).toNat, by omega⟩
  have hc : cutP w (u - k) false = (w * 2 ^ j, 0) := by
    rw [cutP, if_pos (by omega), show (-(u - k)).toNat = j by omega]; rfl
  rw [hc]
  simp only [upP_none]
  have hbl := bl_mul_pow w j hw
  have hpos : 0 < w * 2 ^ j := Nat.mul_pos hw (Nat.pow_pos (by decide))
  rw [if_neg (by omega), if_pos trivial, mkP_rcanon (by omega), show u = k - j by omega, rcanon_scale n hw]
/-- How near a rounded number is. -/
theorem roundP_near {f p : Int} (hf : fmOk f p = true) {n : Bool} {V : Nat} {z : Int} (hz : z ≤ 1 - gOfE f - (p - 1)) (hV : 0 < V) (hk : (roundP f p 0 n V z false).1.k ≠ 2) : ∃ q j : Nat, 1 - gOfE f - (p - 1) ≤ z + j ∧ (z + j = 1 - gOfE f - (p - 1) ∨ 2 ^ (p.toNat - 1) * 2 ^ j ≤ V) ∧ 2 * V ≤ 2 * (q * 2 ^ j) + 2 ^ j ∧ 2 * (q * 2 ^ j) ≤ 2 * V + 2 ^ j ∧ (roundP f p 0 n V z false).1 = mkP n q (z + j) := by
  obtain ⟨b1, b2, b3, b4⟩ := fmOk_spec hf
  have hp := bl_pos hV
  have hlow : 2 ^ (bl V - 1) ≤ V := (bl_le _ _).1 (by omega)
  have hu : 1 - gOfE f - (p - 1) ≤ stepP f p (z + bl V - 1) ∧ (stepP f p (z + bl V - 1) = 1 - gOfE f - (p - 1) ∨ stepP f p (z + bl V - 1) = z + bl V - 1 - p + 1) := by unfold stepP; split <;> omega
  unfold roundP at hk ⊢
  simp only [] at hk ⊢
  generalize stepP f p (z + bl V - 1) = u at *
  obtain ⟨j, hj⟩ : ∃ j : Nat, u - z = j := ⟨(u - z).toNat, by omega⟩
  have hg : grP 0 n = false := rfl
  have hno : ¬ gOfE f < u + bl (upP 0 n (cutP V (u - z) false).1 (cutP V (u - z) false).2) - 1 := by
    intro h
    rw [if_pos h, hg] at hk
    exact hk rfl
  rw [if_neg hno]
  refine ⟨upP 0 n (cutP V (u - z) false).1 (cutP V (u - z) false).2, j, by omega, ?_, ?_, ?_, by rw [show z + (j : Int) = u by omega]⟩
  · rcases hu.2 with h | h
    · exact .inl (by omega)
    · right
      rw [← Nat.pow_add, show p.toNat - 1 + j = bl V - 1 by omega]
      exact hlow
  · rw [hj]
    cases j with
    | zero =>
      rw [show cutP V ((0 : Nat) : Int) false = (V, 0) by simp [cutP]]
      simp only [upP_none]; omega
    | succ k => exact (near_cut V k n rfl).1
  · rw [hj]
    cases j with
    | zero =>
      rw [show cutP V ((0 : Nat) : Int) false = (V, 0) by simp [cutP]]
      simp only [upP_none]; omega
    | succ k => exact (near_cut V k n rfl).2
/-- A number over a low exponent, with few enough digits for the format. -/
structure OfF (f p z : Int) (A : Int) (w : Nat) (k : Int) : Prop where
  low : 1 - gOfE f - (p - 1) ≤ k
  few : (bl w : Int) ≤ p
  top : k + bl w ≤ gOfE f + 1
  abs : A.natAbs = w * 2 ^ (k - z).toNat
end Go.Proofs.YthpkhmbjmnhmoaaGreatDoor
/- What a rounded sum drops is a float of the format. No condition. -/
namespace Go.Proofs.YthpkhmbjmnhmoaaGreatDoor
set_option linter.unusedVariables false
set_option linter.unusedSimpArgs false
set_option maxHeartbeats 4000000
set_option maxRecDepth 10000
/-- The least exponent. -/
abbrev tiny (f p : Int) : Int := 1 - gOfE f - (p - 1)
theorem OfF.mul {f p z A : Int} {w : Nat} {k : Int} (h : OfF f p z A w k) {m : Int} (h1 : z ≤ m) (h2 : m ≤ k) : ∃ a : Int, A = a * ((2 ^ (m - z).toNat : Nat) : Int) := by
  have e : w * 2 ^ (k - z).toNat = w * 2 ^ (k - m).toNat * 2 ^ (m - z).toNat := by rw [pow_split h1 h2, Nat.mul_assoc]
  have h3 := h.abs
  rw [e] at h3
  rcases Int.natAbs_eq A with h | h
  · exact ⟨(w * 2 ^ (k - m).toNat : Nat), by rw [← Int.natCast_mul, ← h3]; exact h⟩
  · exact ⟨-((w * 2 ^ (k - m).toNat : Nat) : Int), by rw [Int.neg_mul, ← Int.natCast_mul, ← h3]; exact h⟩
/-- The canonical float with a value, the Zero without a sign. -/
def restP (z D : Int) : Flt := if D = 0 then ⟨0, false, 0, 0⟩ else rcanon ⟨1, decide (D < 0), z, D.natAbs⟩
/-- A number of the format is rounded to itself. -/
theorem round_exact {f p z r : Int} (hf : fmOk f p = true) (hz : z ≤ tiny f p) {D : Int} {d : Nat} {k : Int} (h : OfF f p z D d k) : Nu.round ⟨decide (D < 0), D.natAbs, z⟩ f p r false = (restP z D, 0) := by
  unfold Nu.round restP
  simp only []
  by_cases hD : D = 0
  · rw [if_pos (by omega), if_pos hD]
  · rw [if_neg (by omega), if_neg hD]
    have hlow := h.low
    have htn : tiny f p = 1 - gOfE f - (p - 1) := rfl
    have hd : 0 < d := by
      rcases Nat.eq_zero_or_pos d with h0 | h0
      · have := h.abs; rw [h0, Nat.zero_mul] at this; omega
      · exact h0
    rw [h.abs, show z = k - ((k - z).toNat : Int) by omega, show (k - (k - ((k - z).toNat : Int))).toNat = (k - z).toNat by omega, roundP_scale _ hd, rcanon_scale _ hd]
    exact roundP_exact hf hd hlow h.few h.top
/-- The value of a float over a low exponent. -/
def fv (z : Int) (x : Flt) : Int := if x.k = 1 then Nu.sv z ⟨x.n, x.v, x.e⟩ else 0
theorem mkP_fv {n : Bool} {q j : Nat} {z : Int} : fv z (mkP n q (z + j)) = sgn n (q * 2 ^ j) := by
  unfold mkP fv
  by_cases hq : q = 0
  · simp [hq, sgn]
  · rw [if_neg hq]
    simp only [if_true]
    have hv : q / 2 ^ tz q * 2 ^ (z + j + tz q - z).toNat = q * 2 ^ j := by
      obtain ⟨m, hm⟩ := tz_form (show 0 < q by omega)
      have e1 : q / 2 ^ tz q = 2 * m + 1 := by
        conv => lhs; arg 1; rw [hm]
        exact Nat.mul_div_cancel_left _ (Nat.pow_pos (by decide))
      rw [e1, show (z + (j : Int) + tz q - z).toNat = tz q + j by omega, Nat.pow_add, ← Nat.mul_assoc]
      congr 1
      conv => rhs; rw [hm]
      exact Nat.mul_comm _ _
    unfold Nu.sv sgn
    simp only [hv]
end Go.Proofs.YthpkhmbjmnhmoaaGreatDoor
/- Functions whose one result is a row of the caller's. No condition. -/
namespace Go.Proofs.YthpkhmbjmnhmoaaGreatDoor
set_option linter.unusedVariables false
set_option linter.unusedSimpArgs false
section
variable {P : Program} {G : Gl} {nt : Nat} {st : St} {cx : Cx} {a : Act} {W W' : World} {m : Nat → Option Nat} {QE : Exit → St → Prop} {ops l : List Oper} {Q : St → Prop}
/-- What a call computes whose one result is a row that its caller alone holds. -/
def DoesQ (P : Program) (G : Gl) (f : FuncId) (args : List PV) (sz : Nat) (rows : List (List Ce)) : Prop :=
  ∀ (W : World) (ok : Nat → Prop) (vals : List Value), (∀ b, ok b → b < W.heap.size) → GlOk G W → All2 (RP (enA W ok)) args vals →
    (callFunc f vals.toArray).run P W = .ok (.enter f vals.toArray) W ∧ Calls P f vals.toArray W (fun e W' => ∃ sv bo, e = .returned sv ∧ RowKit.Below W.heap.size W W' ∧ (∀ b, bo = some b → W.heap.size ≤ b ∧ b < W'.heap.size) ∧
      RC (enO W W' ok bo (.sr sz rows)) (.r 0 rows.length) sv ∧ RO (enO W W' ok bo (.sr sz rows)) 0 (.sr sz rows))
def endOne (sz : Nat) (rows : List (List Ce)) (rs : List ResultVar) (e : Exit) (s : St) : Prop :=
  (e = .ret ∨ e = .normal) ∧ match rs with
    | [.tmp t] => (match lk t s.tm with
      | some (.v (.c (.r j n))) => n = rows.length ∧ lk j s.ob = some (.sr sz rows)
      | _ => False)
    | _ => False
theorem DoesQ.of {f : FuncId} {fn : Func} {c : Code} {args : List PV} {sz : Nat} {rows : List (List Ce)} (hf : P.funcs[f]? = some fn) (hname : (fn.name == "runtime.NumGoroutine") = false) (hb : fn.body = some c) (hnt : fn.ntmps = nt) (hal : args.length ≤ nt)
    (h : Do P G nt c ⟨argTm 0 args, []⟩ (endOne sz rows fn.results.toList)) : DoesQ P G f args sz rows := by
  intro W ok vals hok hgl hargs
  refine ⟨?_, ?_⟩
  · have hn' : fn.name ≠ "runtime.NumGoroutine" := by simpa using hname
    simp [callFunc, hf, hn', hb]
  · refine calls_of_wp hf hb ?_
    refine Code.wp_mono (fun e a' W' ⟨s, hq, m', hs⟩ => ?_) (h _ _ W rfl ⟨_, start_rel hok hgl hargs hal hnt⟩)
    obtain ⟨he, hret⟩ := hq
    split at hret
    case h_2 => exact hret.elim
    rename_i t hrs
    split at hret
    case h_2 => exact hret.elim
    rename_i j n ht
    obtain ⟨rfl, hj⟩ := hret
    obtain ⟨sv, hv, hrt⟩ := hs.tm t _ ht
    have hg : a'.tmps.getD t undef = sv := by simp [hv]
    have hres : (results fn a'.tmps).run P W' = .ok sv W' := by
      have hfun : results fn a'.tmps = (do let vs ← fn.results.mapM (resOf a'.tmps); pure (if h : vs.size = 1 then vs[0] else .tuple vs)) := by
        unfold results
        congr 1
      rw [hfun]
      have h1 : (resOf a'.tmps (.tmp t)).run P W' = .ok sv W' := by simp [resOf, hg]
      simp only [Sem.run_bind, Array.mapM_eq_mapM_toList, Sem.run_map, hrs, List.mapM_cons, List.mapM_nil, h1, Result.andThen_ok, Sem.run_pure]
      simp
    have hbelow : RowKit.Below W.heap.size W W' := ⟨hs.os, hs.tape, hs.output, hs.size, fun k hk => hs.keep k hk id⟩
    have hown : ∀ b, m' j = some b → W.heap.size ≤ b ∧ b < W'.heap.size := fun b hb => by
      obtain ⟨q1, q2⟩ := hs.own j _ b hj hb
      exact ⟨q2.elim id fun e => e.1.elim, q1⟩
    have hle : EnLe (fun _ => False) (en ⟨W.heap.size, W, ok, fun _ => False, nt⟩ m' s.ob W') (enO W W' ok (m' j) (.sr sz rows)) :=
      ⟨fun b ⟨q1, q2, q3⟩ => ⟨⟨q1, q2⟩, q3 j _ hj⟩, fun _ _ => rfl, Nat.le_refl _, fun _ hF => hF.elim⟩
    have hO : ∃ bo, (∀ b, bo = some b → W.heap.size ≤ b ∧ b < W'.heap.size) ∧ RC (enO W W' ok bo (.sr sz rows)) (.r 0 rows.length) sv ∧ RO (enO W W' ok bo (.sr sz rows)) 0 (.sr sz rows) := by
      refine ⟨m' j, hown, ⟨hrt.1, fun o' ho' hle' => ?_⟩, ?_⟩
      · obtain rfl : Ob.sr sz rows = o' := by simpa [enO] using ho'
        obtain ⟨_, k2⟩ := hrt.2 _ hj (Nat.le_refl _)
        exact ⟨rfl, k2⟩
      · rcases hs.ob j _ hj with ⟨y1, y2⟩ | ⟨b', vs, e2, r1, r2, r3⟩
        · exact .inl ⟨y1, y2⟩
        · exact .inr ⟨b', vs, e2, r1, r2, fun i cs hi => let ⟨k1, us', k2, k3⟩ := r3 i cs hi; ⟨k1, us', k2.mono hle, k3⟩⟩
    obtain ⟨bo, k1, k2, k3⟩ := hO
    have hfin : ∃ sv' bo, (Ending.returned sv) = .returned sv' ∧ RowKit.Below W.heap.size W W' ∧ (∀ b, bo = some b → W.heap.size ≤ b ∧ b < W'.heap.size) ∧
      RC (enO W W' ok bo (.sr sz rows)) (.r 0 rows.length) sv' ∧ RO (enO W W' ok bo (.sr sz rows)) 0 (.sr sz rows) :=
      ⟨sv, bo, rfl, hbelow, k1, k2, k3⟩
    rcases he with rfl | rfl
    · exact ⟨hs.df, _, hres, hfin⟩
    · exact ⟨hs.df, _, hres, hfin⟩
end
end Go.Proofs.YthpkhmbjmnhmoaaGreatDoor
/- The reference's Rest: what sums leave, as a float. No condition. -/
namespace Go.Proofs.YthpkhmbjmnhmoaaGreatDoor
set_option linter.unusedVariables false
set_option linter.unusedSimpArgs false
variable {G : Gl}
set_option maxHeartbeats 4000000
set_option maxRecDepth 10000
theorem restP_low {z z' : Int} (hz : z' ≤ z) (S : Int) : restP z' (S * 2 ^ (z - z').toNat) = restP z S := by
  have hp : 0 < 2 ^ (z - z').toNat := Nat.pow_pos (by decide)
  have e2 : (2 : Int) ^ (z - z').toNat = ((2 ^ (z - z').toNat : Nat) : Int) := by simp
  unfold restP
  by_cases hS : S = 0
  · subst hS; simp
  · have h0 : S * 2 ^ (z - z').toNat ≠ 0 := by
      intro h
      rcases Int.mul_eq_zero.1 h with h | h
      · exact hS h
      · rw [e2] at h; omega
    rw [if_neg h0, if_neg hS]
    have ha : (S * 2 ^ (z - z').toNat).natAbs = S.natAbs * 2 ^ (z - z').toNat := by rw [e2, Int.natAbs_mul, Int.natAbs_natCast]
    have hs : decide (S * 2 ^ (z - z').toNat < 0) = decide (S < 0) := by
      rw [decide_eq_decide]
      constructor
      · intro h
        apply Classical.byContradiction
        intro hn
        have := Int.mul_nonneg (show 0 ≤ S by omega) (show (0 : Int) ≤ 2 ^ (z - z').toNat by rw [e2]; omega)
        omega
      · intro h
        exact Int.mul_neg_of_neg_of_pos h (by rw [e2]; omega)
    rw [ha, hs, ← rcanon_scale (decide (S < 0)) (show 0 < S.natAbs by omega) z (z - z').toNat, show z - ((z - z').toNat : Int) = z' by omega]
theorem Tame.rest {A B : List Flt} (ha : Tame A) (hb : Tame B) (hl : A.length + B.length < 1099511627776) : Tame (A ++ B.map Flt.neg) := by
  refine ⟨by simpa using hl, fun x hx hk => ?_⟩
  rcases List.mem_append.1 hx with hx | hx
  · exact ha.2 x hx hk
  · obtain ⟨y, hy, rfl⟩ := List.mem_map.1 hx
    exact hb.2 y hy hk
end Go.Proofs.YthpkhmbjmnhmoaaGreatDoor
/- A box under another label; a pointer to cells, taken as one, within a region. No condition. -/
namespace Go.Proofs.YthpkhmbjmnhmoaaGreatDoor
set_option linter.unusedVariables false
set_option linter.unusedSimpArgs false
section
variable {P : Program} {G : Gl} {nt : Nat} {st : St} {cx : Cx} {a : Act} {W W' : World} {m : Nat → Option Nat} {QE : Exit → St → Prop} {ops l : List Oper} {Q : St → Prop}
/-- An object that nobody asks for any more. -/
theorem Do.drop {c : Code} (la : Nat) (h : Do P G nt c ⟨st.tm, del la st.ob⟩ QE) : Do P G nt c st QE :=
  fun cx a W hn ⟨m, hr⟩ => h cx a W hn ⟨m, hr.fewer (del la st.ob) fun j o hj => by
    rw [lk_del] at hj
    split at hj
    · cases hj
    · exact hj⟩
/-- A pointer to cells, taken as one. -/
theorem DoL.turn (md : Bool) (lab t : Nat) {cs : List Ce} (ht : lk t st.tm = some (.v (.c (.x (PtrSx cs))))) (h : runs P G nt md ops Q lab l ⟨put t (.e cs) st.tm, st.ob⟩) : DoL P G nt ops l st Q := by
  intro cx a W hn ⟨m, hr⟩
  refine DoL.run h cx a W hn ⟨m, { hr with tm := fun s x hx => ?_ }⟩
  rcases lk_le_put s x st.tm hx with ⟨rfl, rfl⟩ | ⟨_, hx⟩
  · obtain ⟨v, hv, ad, h1, h2, vs, h3, h4⟩ := hr.tm _ _ ht
    exact ⟨v, hv, ad, h1, h2, vs, RCs.same (E := enA W (okOf cx m st.ob W)) (E' := en cx m st.ob W) (fun _ h => h) rfl h3, h4⟩
  · exact hr.tm s x hx
/-- A call with a pointer to a box of this function's own, wherever it comes up. -/
theorem callP_core {f : FuncId} {y : Operand} {az : List Operand} {p : Prop} {args : List PV} {j : Nat} {cs cs' : List Ce} (hr : RelM G cx m st a W) (hy : opv st.tm y = some (.v (.c (.p j 0)))) (hj : lk j st.ob = some (.box cs)) (ha : argsOf st az = some (p, args, false)) (hp : p) (hD : DoesP P G f cs args cs') (hl : cs'.flatMap Ce.labs = []) (hl0 : cs.flatMap Ce.labs = []) :
    ∃ b : Nat, a.eval y = .pointer (some ⟨b, 0, none⟩) ∧ (callFunc f (.pointer (some ⟨b, 0, none⟩) :: az.map a.eval).toArray).run P W = .ok (.enter f (.pointer (some ⟨b, 0, none⟩) :: az.map a.eval).toArray) W ∧ Calls P f (.pointer (some ⟨b, 0, none⟩) :: az.map a.eval).toArray W (fun en W' => en = .returned (.tuple #[]) ∧ RelM G cx m ⟨st.tm, put j (.box cs') st.ob⟩ a W') := by
  have hargs := argsOf_run hr ha hp false id
  have hok : ∀ b, okC cx m st W false b → b < W.heap.size := by
    rintro b (h | ⟨e, _⟩)
    · exact h.2.1
    · cases e
  obtain ⟨b, hb, hyv⟩ := (hr.opv hy).2 cs hj
  have hyv : a.eval y = .pointer (some ⟨b, 0, none⟩) := hyv
  obtain ⟨vs, e, r2, r3⟩ : ∃ vs e, W.heap[b]? = some (.cells vs e (0, 0)) ∧ All2 (RC (en cx m st.ob W)) cs vs.toList := by
    obtain ⟨b', vs, e, r1, r2, r3⟩ := hr.ob j _ hj
    rw [← some_unique (show m j = some b from hb) (show m j = some b' from r1)]
    exact ⟨vs, e, r2, r3⟩
  have hnb : ¬ okC cx m st W false b := by
    rintro (h | ⟨e, _⟩)
    · exact h.2.2 j _ hj hb
    · cases e
  have hcs : All2 (RC (enA W (okC cx m st W false))) (exts cs) vs.toList := exts_RC (r3.mono' fun c hc v hv => RC.mono (okC_le cx m st W false) (fun _ _ => trivial) hv)
  have hgb : ∀ (b' off : Nat) (x : Ce), (G b')[off]? = some x → b' ≠ b := fun b' off x hx e => by
    subst e
    obtain ⟨k1, k2, _⟩ := hr.gl b' off x hx
    rcases (hr.own j _ b' hj hb).2 with k3 | k3
    · omega
    · exact k2 k3.1
  obtain ⟨h1, h2⟩ := hD W (okC cx m st W false) _ b vs e hok hr.glOk hgb hnb r2 hcs hargs
  refine ⟨b, hyv, h1, h2.mono ?_⟩
  rintro en' W' ⟨rfl, hX, hsh, vs', e', q1, q2⟩
  have hlt := lt_of_heap r2
  have he := enP hr hX hsh (cs' := cs') hj hb
  have hr2 : RelM G cx m ⟨st.tm, put j (.box cs') st.ob⟩ a W' := by
    refine hr.move he (fun _ _ _ _ _ => trivial) hX.size hX.os hX.tape hX.output (fun c hc hn => hX.block c (Nat.lt_of_lt_of_le hc hr.size) (fun e => by
        subst e; rcases (hr.own j _ c hj hb).2 with h' | h'
        · omega
        · exact hn h'.1)) (fun k o2 hk => ?_) (fun k k' o1 o2 c g1 g2 g3 g4 => ?_) (fun k o2 c g1 g2 => ?_) (fun o2 ho2 => ?_)
    · by_cases hkj : k = j
      · subst hkj; rw [lk_put_self] at hk; injection hk with hk; subst hk
        refine ⟨b, vs', e', hb, q1, q2.mono' fun c hc v hv => RC.mono (L := fun _ => False) (E := enR W W' (okC cx m st W false)) (E' := en cx m (put k (.box cs') st.ob) W') ⟨fun c ⟨g1, g2⟩ => ?_, fun _ _ => rfl, hr.size, fun _ hF => hF.elim⟩ (fun i hi => ?_) hv⟩
        · have hnew : ∀ i o', lk i (put k (.box cs') st.ob) = some o' → ∃ o3, lk i st.ob = some o3 := fun i o' hi => by
            by_cases hik : i = k
            · subst hik; exact ⟨_, hj⟩
            · rw [lk_put_ne _ _ hik] at hi; exact ⟨_, hi⟩
          rcases g1 with (g1 | ⟨e, _⟩) | g1
          · exact ⟨g1.1, g2, fun i o' hi => let ⟨o3, h3⟩ := hnew i o' hi; g1.2.2 i o3 h3⟩
          · cases e
          · exact ⟨.inr (Nat.le_trans hr.size g1), g2, fun i o' hi e => by obtain ⟨o3, h3⟩ := hnew i o' hi; have := (hr.own i o3 c h3 e).1; omega⟩
        · have : i ∈ cs'.flatMap Ce.labs := List.mem_flatMap.2 ⟨c, hc, hi⟩
          rw [hl] at this; cases this
      · rw [lk_put_ne _ _ hkj] at hk
        exact RO.mono he (fun _ _ => trivial) rfl (fun c hc => hX.block c (hr.own k o2 c hk hc).1 (fun e => hkj (by subst e; exact hr.inj k j o2 _ c hk hj hc hb))) (hr.ob k o2 hk)
    · have f : ∀ {k o2}, lk k (put j (.box cs') st.ob) = some o2 → ∃ o3, lk k st.ob = some o3 := fun {k o2} hk => by
        by_cases hkj : k = j
        · subst hkj; exact ⟨_, hj⟩
        · rw [lk_put_ne _ _ hkj] at hk; exact ⟨_, hk⟩
      obtain ⟨o3, q1⟩ := f g1
      obtain ⟨o4, q2⟩ := f g2
      exact hr.inj k k' o3 o4 c q1 q2 g3 g4
    · by_cases hkj : k = j
      · subst hkj
        rw [lk_put_self] at g1; injection g1 with g1; subst g1
        exact ⟨Nat.lt_of_lt_of_le (hr.own k _ c hj g2).1 hX.size, (hr.own k _ c hj g2).2⟩
      · rw [lk_put_ne _ _ hkj] at g1; exact ⟨Nat.lt_of_lt_of_le (hr.own k o2 c g1 g2).1 hX.size, (hr.own k o2 c g1 g2).2⟩
    · have key : ∀ o3, lk 7777777 st.ob = some o3 → ∃ b, m 7777777 = some b ∧ cx.bo b ∧ W'.shape? b = cx.W0.shape? b := fun o3 h3 => by
        obtain ⟨_, c, g2, g3, g4⟩ := hr.pin o3 h3
        refine ⟨c, g2, g3, ?_⟩
        by_cases hc : c = b
        · subst hc; exact hsh.trans g4
        · exact (shape_of_heap (hX.block c (hr.own _ o3 c h3 g2).1 hc)).trans g4
      by_cases hkj : 7777777 = j
      · subst hkj; rw [lk_put_self] at ho2; injection ho2 with ho2; subst ho2
        exact ⟨rfl, key _ hj⟩
      · rw [lk_put_ne _ _ hkj] at ho2; exact ⟨(hr.pin o2 ho2).1, key _ ho2⟩
  exact ⟨rfl, hr2⟩
theorem DoL.callP2 {o : Oper} {f : FuncId} {x y : Operand} {az : List Operand} {ts : Array TypeId} {p : Prop} {args : List PV} {j : Nat} {cs cs' : List Ce} (md : Bool) (lab : Nat) (hg : o.guard = none) (hop : o.op = .call { callee := .value x, args := (y :: az).toArray, argTypes := ts })
    (hx : opv st.tm x = some (.v (.c (.f f)))) (hy : opv st.tm y = some (.v (.c (.p j 0)))) (hj : lk j st.ob = some (.box cs)) (ha : argsOf st az = some (p, args, false)) (hp : p) (hD : DoesP P G f cs args cs') (hl : cs'.flatMap Ce.labs = []) (hl0 : cs.flatMap Ce.labs = []) (hd : dstOk nt o.dst = true)
    (next : runs P G nt md ops Q lab l ⟨setv o.dst (some (.t [])) st.tm, put j (.box cs') st.ob⟩) : DoL P G nt ops (o :: l) st Q := by
  intro cx a W hn ⟨m, hr⟩ Q' hQ
  refine wpList_plain hg fun K hK => ?_
  unfold Oper.wp
  have hxv : a.eval x = .func (.func f) #[] #[] := hr.opv hx
  obtain ⟨b, hyv, h1, h2⟩ := callP_core hr hy hj ha hp hD hl hl0
  have hexec : execOp a.eval o = callFunc f (.pointer (some ⟨b, 0, none⟩) :: az.map a.eval).toArray := by
    unfold execOp
    simp [hop, resolve, hxv, Deferred.ofValue, invoke, hyv]
  rw [hexec, h1]
  refine h2.mono ?_
  rintro en' W' ⟨rfl, hr2⟩
  have hput := Rel.put (st := ⟨st.tm, put j (.box cs') st.ob⟩) hr2 hn hd (x := .t []) (v := .tuple #[]) ⟨_, rfl, .nil⟩
  exact hK _ _ (DoL.run next cx _ _ hn hput Q' hQ)
theorem opOk_callP2 {B : List Nat} {o : Oper} {f : FuncId} {x y : Operand} {az : List Operand} {ts : Array TypeId} {p : Prop} {args : List PV} {j : Nat} {cs cs' : List Ce} (lab : Nat) (hg : o.guard = none) (hop : o.op = .call { callee := .value x, args := (y :: az).toArray, argTypes := ts })
    (hx : opv st.tm x = some (.v (.c (.f f)))) (hy : opv st.tm y = some (.v (.c (.p j 0)))) (hj : lk j st.ob = some (.box cs)) (ha : argsOf st az = some (p, args, false)) (hp : p) (hD : DoesP P G f cs args cs') (hl : cs'.flatMap Ce.labs = []) (hl0 : cs.flatMap Ce.labs = []) (hd : dstOk nt o.dst = true) :
    OpOk P G nt ops B o st ⟨o.dst, some (.t []), .upd j (.box cs'), lab, j :: labsOf st.tm az⟩ := by
  refine ⟨rfl, fun cx a W m S hn _ hrd hus hfree hr Q' K hK => ?_⟩
  have hmem : ∀ t, (.tmp t = x ∨ .tmp t ∈ y :: az) → t ∈ rdOf ops o := fun t ht => by
    unfold rdOf
    simp only [List.mem_append]
    refine .inl (.inl (tmpsOf_mem ?_))
    rw [hop]
    rcases ht with e | e
    · simp [Op.operands, Call.operands, e]
    · simp only [Op.operands, Call.operands, Array.toList_append, List.mem_append]; exact .inr (by simpa using e)
  have hx' : opv S.tm x = some (.v (.c (.f f))) := by rw [← hx]; exact opv_congr fun t e => hrd t (hmem t (.inl e.symm))
  have hy' : opv S.tm y = some (.v (.c (.p j 0))) := by rw [← hy]; exact opv_congr fun t e => hrd t (hmem t (.inr (e ▸ List.mem_cons_self)))
  have hj' : lk j S.ob = some (.box cs) := by rw [← hj]; exact hus j (by simp)
  have ha' : argsOf S az = some (p, args, false) := by rw [← ha]; exact argsOf_congr (fun z hz => opv_congr fun t e => hrd t (hmem t (.inr (e ▸ List.mem_cons_of_mem _ hz)))) (fun k hk => hus k (by simp only [List.mem_cons]; exact .inr hk))
  rw [wanted_none hg, if_pos rfl]
  unfold Oper.wp
  have hxv : a.eval x = .func (.func f) #[] #[] := hr.opv hx'
  obtain ⟨b, hyv, h1, h2⟩ := callP_core hr hy' hj' ha' hp hD hl hl0
  have hexec : execOp a.eval o = callFunc f (.pointer (some ⟨b, 0, none⟩) :: az.map a.eval).toArray := by
    unfold execOp
    simp [hop, resolve, hxv, Deferred.ofValue, invoke, hyv]
  rw [hexec, h1]
  refine h2.mono ?_
  rintro en' W' ⟨rfl, hr2⟩
  refine hK _ _ ?_
  exact Rel.put (st := ⟨S.tm, put j (.box cs') S.ob⟩) hr2 hn hd (x := .t []) (v := .tuple #[]) ⟨_, rfl, .nil⟩
theorem DoLD.callP2 {st0 : St} {acc : List Sm} {Q : List Sm → St → Prop} {o : Oper} {f : FuncId} {x y : Operand} {az : List Operand} {ts : Array TypeId} {p : Prop} {args : List PV} {j : Nat} {cs cs' : List Ce} (md : Bool) (lab : Nat) (hg : o.guard = none) (hop : o.op = .call { callee := .value x, args := (y :: az).toArray, argTypes := ts })
    (hx : opv st.tm x = some (.v (.c (.f f)))) (hy : opv st.tm y = some (.v (.c (.p j 0)))) (hj : lk j st.ob = some (.box cs)) (ha : argsOf st az = some (p, args, false)) (hp : p) (hD : DoesP P G f cs args cs') (hl : cs'.flatMap Ce.labs = []) (hl0 : cs.flatMap Ce.labs = []) (hd : dstOk nt o.dst = true)
    (next : runsD P G nt md ops st0 Q lab l (acc ++ [(Tr.mk o.dst (some (.t [])) (.upd j (.box cs')) 0 (j :: labsOf st.tm az)).sm]) ⟨setv o.dst (some (.t [])) st.tm, put j (.box cs') st.ob⟩) : DoLD P G nt ops st0 Q (o :: l) acc st := by
  refine DoLD.cons (opOk_callP2 0 hg hop hx hy hj ha hp hD hl hl0 hd) (fun l hl => by simp [Tr.nw, Eff.isNew] at hl) rfl ?_
  exact DoLD.run next
theorem ple_run {E : En} {cs cs' : List Ce} (hle : All2 (fun c d => PLe (.c c) (.c d)) cs cs') : ∀ {us : List Value}, All2 (RC E) cs us → All2 (RC E) cs' us := by
  induction hle with
  | nil => intro us h; exact h
  | cons h _ ih =>
    intro us h2
    obtain ⟨v, vs', rfl, g1, g2⟩ := h2.cons_iff
    exact .cons (h _ _ g1) (ih g2)
/-- A box whose cells are taken as less. -/
theorem RelM.weakB (hr : RelM G cx m st a W) {j : Nat} {cs cs' : List Ce} (hj : lk j st.ob = some (.box cs)) (hle : All2 (fun c d => PLe (.c c) (.c d)) cs cs') : RelM G cx m ⟨st.tm, put j (.box cs') st.ob⟩ a W := by
  obtain ⟨b, vs, e, hb, r2, r3⟩ := hr.ob j _ hj
  have hb : m j = some b := hb
  have hX : BelowX b W W := ⟨rfl, rfl, rfl, Nat.le_refl _, fun _ _ _ => rfl⟩
  have he := enP hr hX rfl (cs' := cs') hj hb
  have hd : ∀ k o, lk k (put j (.box cs') st.ob) = some o → (k = j ∧ o = .box cs') ∨ (k ≠ j ∧ lk k st.ob = some o) := fun k o hk => by
    rw [lk_put] at hk
    split at hk
    · rename_i e; injection hk with hk; exact .inl ⟨e, hk.symm⟩
    · rename_i e; exact .inr ⟨e, hk⟩
  refine hr.move he (fun _ _ _ _ _ => trivial) (Nat.le_refl _) rfl rfl rfl (fun _ _ _ => rfl) (fun k o hk => ?_) (fun k k' o o' c g1 g2 g3 g4 => ?_) (fun k o c g1 g2 => ?_) (fun o ho => ?_)
  · rcases hd k o hk with ⟨rfl, rfl⟩ | ⟨_, hk⟩
    · refine ⟨b, vs, e, hb, r2, ?_⟩
      have h2 : All2 (RC (en cx m (put k (.box cs') st.ob) W)) cs vs.toList := r3.mono' fun c hc v hv => RC.mono he (fun _ _ => trivial) hv
      exact ple_run hle h2
    · exact RO.mono he (fun _ _ => trivial) rfl (fun _ _ => rfl) (hr.ob k o hk)
  · have f : ∀ {k o}, lk k (put j (.box cs') st.ob) = some o → ∃ o3, lk k st.ob = some o3 := fun {k o} hk => by
      rcases hd k o hk with ⟨rfl, _⟩ | ⟨_, hk⟩
      · exact ⟨_, hj⟩
      · exact ⟨_, hk⟩
    obtain ⟨o3, q1⟩ := f g1
    obtain ⟨o4, q2⟩ := f g2
    exact hr.inj k k' o3 o4 c q1 q2 g3 g4
  · rcases hd k o g1 with ⟨rfl, rfl⟩ | ⟨_, hk⟩
    · have q := hr.own k _ c hj g2
      exact ⟨q.1, q.2.elim .inl fun e => .inr ⟨e.1, rfl, e.2.2⟩⟩
    · exact hr.own k o c hk g2
  · rcases hd _ o ho with ⟨rfl, rfl⟩ | ⟨_, hk⟩
    · exact ⟨rfl, (hr.pin _ hj).2⟩
    · exact hr.pin o hk
theorem Do.weakB {c : Code} (j : Nat) {cs : List Ce} (cs' : List Ce) (hj : lk j st.ob = some (.box cs)) (hle : All2 (fun c d => PLe (.c c) (.c d)) cs cs') (h : Do P G nt c ⟨st.tm, put j (.box cs') st.ob⟩ QE) : Do P G nt c st QE :=
  fun cx a W hn ⟨m, hr⟩ => h cx a W hn ⟨m, hr.weakB hj hle⟩
/-- A box given away: its pointer is read alone from here on. -/
theorem RelM.lend (h : RelM G cx m st a W) {t j : Nat} {cs : List Ce} (ht : lk t st.tm = some (.v (.c (.p j 0)))) (hj : lk j st.ob = some (.box cs)) (hpure : cs.all Ce.pure = true) (hp : j ≠ 7777777) : RelM G cx m ⟨put t (.v (.c (.x (PtrSx cs)))) st.tm, del j st.ob⟩ a W := by
  have hs : ∀ k o, lk k (del j st.ob) = some o → k ≠ j ∧ lk k st.ob = some o := fun k o hk => by
    rw [lk_del] at hk
    split at hk
    · cases hk
    · rename_i e; exact ⟨e, hk⟩
  have h1 := h.fewer (del j st.ob) fun k o hk => (hs k o hk).2
  refine { h1 with tm := fun s x hx => ?_ }
  rcases lk_le_put s x st.tm hx with ⟨rfl, rfl⟩ | ⟨_, hx⟩
  · obtain ⟨v, hv, q1, q2⟩ := h.tm _ _ ht
    obtain ⟨b, q3, q4⟩ := q2 cs hj
    obtain ⟨b', vs, e, r1, r2, r3⟩ := h.ob j _ hj
    obtain rfl := some_unique (show m j = some b' from r1) (show m j = some b from q3)
    have hown := h.own j _ b hj q3
    have hB : cx.B ≤ b := hown.2.elim id fun e => absurd e.2.2 hp
    refine ⟨v, hv, ⟨b, 0, none⟩, q4, ⟨.inr hB, hown.1, fun k o hk e => ?_⟩, vs.toList, ⟨fun c hc => List.all_eq_true.1 hpure c hc, r3.mono' fun c hc v hv => RC.mono (L := fun _ => False) (E := en cx m st.ob W) (E' := enA W (okOf cx m (del j st.ob) W)) ⟨fun b ⟨g1, g2, g3⟩ => ⟨g1, g2, fun k o hk => g3 k o (hs k o hk).2⟩, fun _ _ => rfl, Nat.zero_le _, fun _ hF => hF.elim⟩ (by rw [Ce.labs_of_pure (List.all_eq_true.1 hpure c hc)]; intro k hk; cases hk) hv⟩, fun q u hq => ?_⟩
    · obtain ⟨hne, hk⟩ := hs k o hk
      exact hne (h.inj k j o _ b hk hj e q3)
    · rw [addr_add0]
      simp only [World.cell?]
      rw [show (en cx m (del j st.ob) W).W.heap[b]? = _ from r2]
      simpa using hq
  · exact h1.tm s x hx
theorem DoL.lend (md : Bool) (lab t j : Nat) {cs : List Ce} (ht : lk t st.tm = some (.v (.c (.p j 0)))) (hj : lk j st.ob = some (.box cs)) (hpure : cs.all Ce.pure = true) (hp : j ≠ 7777777) (h : runs P G nt md ops Q lab l ⟨put t (.v (.c (.x (PtrSx cs)))) st.tm, del j st.ob⟩) : DoL P G nt ops l st Q :=
  fun cx a W hn ⟨m, hr⟩ => DoL.run h cx a W hn ⟨m, hr.lend ht hj hpure hp⟩
end
end Go.Proofs.YthpkhmbjmnhmoaaGreatDoor
/- Pairs of floats: the rounded sum, and what it drops. No condition. -/
namespace Go.Proofs.YthpkhmbjmnhmoaaGreatDoor
set_option linter.unusedVariables false
set_option linter.unusedSimpArgs false
set_option maxHeartbeats 4000000
set_option maxRecDepth 10000
theorem tiny_le {f p : Int} (hf : fmOk f p = true) : tiny f p ≤ 0 ∧ -100000 ≤ tiny f p := by
  obtain ⟨b1, b2, b3, b4⟩ := fmOk_spec hf
  obtain ⟨b5, b6⟩ := gOfE_le b1 b2
  show 1 - gOfE f - (p - 1) ≤ 0 ∧ -100000 ≤ 1 - gOfE f - (p - 1)
  omega
theorem sv_abs (z D : Int) : Nu.sv z ⟨decide (D < 0), D.natAbs, z⟩ = D := by
  unfold Nu.sv
  simp only [Int.sub_self, Int.toNat_zero, Nat.pow_zero, Nat.mul_one]
  split <;> rename_i h <;> simp at h <;> omega
/-- A canonical float that is a number. -/
def Numb (x : Flt) : Prop := x.k = 1 ∨ (x.k = 0 ∧ x.e = 0 ∧ x.v = 0)
theorem Numb.sv {x : Flt} (h : Numb x) (z : Int) : Nu.sv z ⟨x.n, x.v, x.e⟩ = fv z x := by
  unfold fv
  rcases h with h | ⟨h1, h2, h3⟩
  · rw [if_pos h]
  · rw [if_neg (by omega), h3]; simp [Nu.sv]
theorem Numb.neg_sv {x : Flt} (h : Numb x) (z : Int) : Nu.sv z ⟨!x.n, x.v, x.e⟩ = -fv z x := by
  rw [← h.sv]; unfold Nu.sv; cases x.n <;> simp
theorem rcanon_numb {x : Flt} (h : rcanon x = x) (hk : x.k = 0 ∨ x.k = 1) : Numb x := by
  rcases hk with hk | hk
  · right
    unfold rcanon at h
    rw [if_neg (by omega)] at h
    exact ⟨hk, by rw [← h], by rw [← h]⟩
  · exact .inl hk
theorem Fine.ok {x : Flt} (h : Fine x) (hn : Numb x) (n : Bool) : (⟨n, x.v, x.e⟩ : Nu).Ok := by
  have h1 := h.v
  rcases hn with hk | ⟨hk, h2, h3⟩
  · have := canon_one h.can hk
    exact ⟨by simp only []; omega, by simp only []; omega⟩
  · exact ⟨by simp only []; omega, by simp only []; omega⟩
end Go.Proofs.YthpkhmbjmnhmoaaGreatDoor
/- The law SumPairs. No condition. -/
namespace Go.Proofs.YthpkhmbjmnhmoaaGreatDoor
set_option linter.unusedVariables false
set_option linter.unusedSimpArgs false
set_option maxHeartbeats 4000000
set_option maxRecDepth 10000
section
variable {f p : Int} {x y : Fla}
end
end Go.Proofs.YthpkhmbjmnhmoaaGreatDoor
/- Products of floats, plain. No condition. -/
namespace Go.Proofs.YthpkhmbjmnhmoaaGreatDoor
set_option linter.unusedVariables false
set_option linter.unusedSimpArgs false
set_option maxHeartbeats 4000000
set_option maxRecDepth 10000
/-- A product: is it nothing, its kind, its number. -/
def timesP (x y : Flt) : Bool × Int × Nu :=
  if x.k = 3 ∨ y.k = 3 then (false, 3, ⟨!x.n == y.n, 0, 0⟩)
  else if x.k = 2 ∨ y.k = 2 then (x.k == 0 || y.k == 0, 2, ⟨!x.n == y.n, 0, 0⟩)
  else if x.k = 1 ∧ y.k = 1 then (false, 1, ⟨!x.n == y.n, x.v * y.v, x.e + y.e⟩)
  else (false, 0, ⟨!x.n == y.n, 0, 0⟩)
def roundT (t : Bool × Int × Nu) (f p r : Int) : Flt × Int :=
  if t.1 then (⟨3, false, 0, 0⟩, 16) else if t.2.1 = 3 then (⟨3, false, 0, 0⟩, 0) else if t.2.1 ≠ 1 then (⟨t.2.1, t.2.2.n, 0, 0⟩, 0) else t.2.2.round f p r false
def K4 (x : Flt) : Prop := x.k = 0 ∨ x.k = 1 ∨ x.k = 2 ∨ x.k = 3
/-- A float as it is held: canonical. -/
structure Cf (x : Flt) : Prop where
  k : K4 x
  fix : rcanon x = x
  pos : x.k = 1 → x.v ≠ 0
theorem Cf.of {x : Flt} (h : (canon x).2 = true) : Cf (rcanon x) := by
  refine ⟨?_, rcanon_idem x, fun hk => ?_⟩
  · have := (canon_kind h).1
    unfold K4
    rw [rcanon_k]; exact this
  · rw [rcanon_k] at hk
    have h1 := (canon_one h hk).2.2
    obtain ⟨m, hm⟩ := tz_form (show 0 < x.v by omega)
    have e1 : x.v / 2 ^ tz x.v = 2 * m + 1 := by
      conv => lhs; arg 1; rw [hm]
      exact Nat.mul_div_cancel_left _ (Nat.pow_pos (by decide))
    simp only [rcanon, hk, if_true]
    omega
/-- Terms that are put in, one after the other. -/
def dotStep (g : Ga) (t : Bool × Int × Nu) : Ga := ({ g with inv := g.inv || t.1 } : Ga).put t.2.1 t.2.2
def dotG (ts : List (Bool × Int × Nu)) : Ga := ts.foldl dotStep .zero
def tFlt (t : Bool × Int × Nu) : Flt := ⟨t.2.1, t.2.2.n, t.2.2.e, t.2.2.v⟩
theorem dotG_take {ts : List (Bool × Int × Nu)} {i : Nat} {t : Bool × Int × Nu} (h : ts[i]? = some t) : dotG (ts.take (i + 1)) = dotStep (dotG (ts.take i)) t := by
  unfold dotG
  rw [List.take_add_one, h]; simp
/-- The sum of products and a float. -/
def dotP (f p r : Int) (ts : List (Bool × Int × Nu)) (z : Flt) : Flt × Int := ((dotG ts).put z.k ⟨z.n, z.v, z.e⟩).float f p r
end Go.Proofs.YthpkhmbjmnhmoaaGreatDoor
/- Sums of products of floats, plain. No condition. -/
namespace Go.Proofs.YthpkhmbjmnhmoaaGreatDoor
set_option linter.unusedVariables false
set_option linter.unusedSimpArgs false
set_option maxHeartbeats 4000000
set_option maxRecDepth 10000
theorem sv_rcan {x : Flt} (hk : x.k = 1) {z : Int} (hz : z ≤ x.e) : Nu.sv z ⟨(rcanon x).n, (rcanon x).v, (rcanon x).e⟩ = Nu.sv z ⟨x.n, x.v, x.e⟩ := by
  have e2 : rcanon x = ⟨1, x.n, x.e + tz x.v, x.v / 2 ^ tz x.v⟩ := by simp [rcanon, hk]
  rw [e2]
  have hv : x.v / 2 ^ tz x.v * 2 ^ (x.e + tz x.v - z).toNat = x.v * 2 ^ (x.e - z).toNat := by
    by_cases h0 : x.v = 0
    · rw [h0]; simp
    · obtain ⟨m, hm⟩ := tz_form (show 0 < x.v by omega)
      have e1 : x.v / 2 ^ tz x.v = 2 * m + 1 := by
        conv => lhs; arg 1; rw [hm]
        exact Nat.mul_div_cancel_left _ (Nat.pow_pos (by decide))
      rw [e1, show (x.e + tz x.v - z).toNat = tz x.v + (x.e - z).toNat by omega, Nat.pow_add, ← Nat.mul_assoc]
      congr 1
      conv => rhs; rw [hm]
      exact Nat.mul_comm _ _
  unfold Nu.sv
  simp only [hv]
theorem fv_rcan {x : Flt} {z : Int} (hz : x.k = 1 → z ≤ x.e) : fv z (rcanon x) = fv z x := by
  unfold fv
  rw [rcanon_k]
  split
  · rename_i h; exact sv_rcan h (hz h)
  · rfl
def tsOf (l : List (Flt × Flt)) : List (Bool × Int × Nu) := l.map fun q => timesP q.1 q.2
end Go.Proofs.YthpkhmbjmnhmoaaGreatDoor
/- The words of a product, plain. No condition. -/
namespace Go.Proofs.YthpkhmbjmnhmoaaGreatDoor
set_option linter.unusedVariables false
set_option linter.unusedSimpArgs false
set_option maxHeartbeats 4000000
set_option maxRecDepth 10000
/-- The i-th digit. -/
def dgw (n i : Nat) : Nat := n / 18446744073709551616 ^ i % 18446744073709551616
theorem HposW (i : Nat) : 0 < 18446744073709551616 ^ i := Nat.pow_pos (by decide)
theorem dgw_lt (n i : Nat) : dgw n i < 18446744073709551616 := Nat.mod_lt _ (by decide)
theorem wds_dgw {k n i : Nat} (h : i < k) : (wds n k)[i]? = some (dgw n i) := wds_get h
theorem dgw_none {n k i : Nat} (h : n < 18446744073709551616 ^ k) (hi : k ≤ i) : dgw n i = 0 := by unfold dgw; rw [Nat.div_eq_of_lt (Nat.lt_of_lt_of_le h (Nat.pow_le_pow_right (by decide) hi))]
theorem dgw_low {n p x : Nat} (h : x < p) : dgw (n % 18446744073709551616 ^ p) x = dgw n x := by
  obtain ⟨q, rfl⟩ : ∃ q, p = x + (q + 1) := ⟨p - x - 1, by omega⟩
  unfold dgw
  rw [Nat.pow_add, Nat.mod_mul_right_div_self, Nat.pow_succ, Nat.mul_comm _ 18446744073709551616, Nat.mod_mul_right_mod]
theorem dgw_high {n p x : Nat} (h : p ≤ x) : dgw n x = dgw (n / 18446744073709551616 ^ p) (x - p) := by
  unfold dgw
  rw [Nat.div_div_eq_div_mul, ← Nat.pow_add, show p + (x - p) = x by omega]
theorem low_stepW (n i : Nat) : n % 18446744073709551616 ^ (i + 1) = n % 18446744073709551616 ^ i + dgw n i * 18446744073709551616 ^ i := by
  unfold dgw
  rw [Nat.pow_succ, Nat.mod_mul, Nat.mul_comm (18446744073709551616 ^ i)]
theorem high_stepW (n i : Nat) : n / 18446744073709551616 ^ i = n / 18446744073709551616 ^ (i + 1) * 18446744073709551616 + dgw n i := by
  unfold dgw
  rw [Nat.pow_succ, ← Nat.div_div_eq_div_mul]; omega
theorem wds_ext {l : List Nat} {n k : Nat} (h : l.length = k) (he : ∀ i, i < k → l[i]? = some (dgw n i)) : l = wds n k := by
  apply List.ext_getElem?
  intro i
  by_cases hi : i < k
  · rw [he i hi, wds_dgw hi]
  · rw [List.getElem?_eq_none (by omega), List.getElem?_eq_none (by rw [wds_len]; omega)]
theorem wds_zero (k : Nat) : List.replicate k 0 = wds 0 k := wds_ext (by simp) fun i hi => by simp [dgw, hi]
theorem wds_set {Q n p v : Nat} (hp : p < n) (hv : v < 18446744073709551616) : ∃ Q', (wds Q n).set p v = wds Q' n ∧ Q' + dgw Q p * 18446744073709551616 ^ p = Q + v * 18446744073709551616 ^ p ∧ ∀ m, p < m → Q < 18446744073709551616 ^ m → Q' < 18446744073709551616 ^ m := by
  have e0 : Q = Q % 18446744073709551616 ^ p + (dgw Q p + Q / 18446744073709551616 ^ (p + 1) * 18446744073709551616) * 18446744073709551616 ^ p := by
    have h1 := Nat.div_add_mod' Q (18446744073709551616 ^ p)
    rw [high_stepW, Nat.add_comm (_ * 18446744073709551616)] at h1
    omega
  obtain ⟨Q', hQ⟩ : ∃ Q', Q' = Q % 18446744073709551616 ^ p + (v + Q / 18446744073709551616 ^ (p + 1) * 18446744073709551616) * 18446744073709551616 ^ p := ⟨_, rfl⟩
  have l1 := Nat.mod_lt Q (HposW p)
  have h1 : Q' % 18446744073709551616 ^ p = Q % 18446744073709551616 ^ p := by rw [hQ, Nat.add_mul_mod_self_right, Nat.mod_mod]
  have h2 : Q' / 18446744073709551616 ^ p = v + Q / 18446744073709551616 ^ (p + 1) * 18446744073709551616 := by rw [hQ, Nat.add_mul_div_right _ _ (HposW p), Nat.div_eq_of_lt l1, Nat.zero_add]
  have h3 : Q' / 18446744073709551616 ^ (p + 1) = Q / 18446744073709551616 ^ (p + 1) := by
    rw [Nat.pow_succ, ← Nat.div_div_eq_div_mul, h2, Nat.pow_succ]; omega
  refine ⟨Q', wds_ext (by rw [List.length_set, wds_len]) fun i hi => ?_, ?_, fun m hm h => ?_⟩
  · rw [List.getElem?_set]
    by_cases he : p = i
    · subst he
      rw [if_pos rfl, if_pos (by rw [wds_len]; exact hp)]
      unfold dgw
      rw [h2]
      congr 1
      omega
    · rw [if_neg he, wds_dgw hi]
      congr 1
      rcases Nat.lt_or_gt_of_ne he with h | h
      · rw [dgw_high (show p + 1 ≤ i by omega), dgw_high (show p + 1 ≤ i by omega), h3]
      · rw [← dgw_low h, ← h1, dgw_low h]
  · rw [hQ]
    conv => rhs; rw [e0]
    rw [Nat.add_mul, Nat.add_mul]; omega
  · obtain ⟨q, rfl⟩ : ∃ q, m = (p + 1) + q := ⟨m - (p + 1), by omega⟩
    rw [Nat.pow_add, Nat.mul_comm, ← Nat.div_lt_iff_lt_mul (HposW _)] at h ⊢
    rw [h3]; exact h
/-- The product with the digits below i. -/
def tpw (a b i : Nat) : Nat := a % 18446744073709551616 ^ i * b
/-- What holds within the row i, at the digit t: the number Q stands in the result, c is carried. -/
def TimesW (a b k i t Q c : Nat) : Prop := Q + c * 18446744073709551616 ^ (i + t) = tpw a b i + dgw a i * 18446744073709551616 ^ i * (b % 18446744073709551616 ^ t) ∧ Q < 18446744073709551616 ^ (i + k) ∧ c < 18446744073709551616
theorem TimesW.start {a b k i : Nat} (hb : b < 18446744073709551616 ^ k) : TimesW a b k i 0 (tpw a b i) 0 := by
  refine ⟨by simp [Nat.mod_one], ?_, by omega⟩
  unfold tpw
  rw [Nat.pow_add]
  exact Nat.mul_lt_mul_of_lt_of_le (Nat.mod_lt _ (HposW i)) (Nat.le_of_lt hb) (HposW k)
theorem mul_lt_sqW {x y : Nat} (hx : x < 18446744073709551616) (hy : y < 18446744073709551616) : x * y ≤ 340282366920938463426481119284349108225 := by
  have := Nat.mul_le_mul (show x ≤ 18446744073709551615 by omega) (show y ≤ 18446744073709551615 by omega)
  omega
theorem TimesW.next {a b j k i t Q c : Nat} (h : TimesW a b k i t Q c) (hi : i < j) (ht : t < k) : c + dgw Q (i + t) + dgw a i * dgw b t < 340282366920938463463374607431768211456 ∧ ∃ Q', (wds Q (j + k)).set (i + t) ((c + dgw Q (i + t) + dgw a i * dgw b t) % 18446744073709551616) = wds Q' (j + k) ∧ TimesW a b k i (t + 1) Q' ((c + dgw Q (i + t) + dgw a i * dgw b t) / 18446744073709551616) := by
  obtain ⟨h1, h2, h3⟩ := h
  have l1 := dgw_lt Q (i + t)
  have l2 := mul_lt_sqW (dgw_lt a i) (dgw_lt b t)
  refine ⟨by omega, ?_⟩
  obtain ⟨Q', e1, e2, e3⟩ := @wds_set Q (j + k) (i + t) ((c + dgw Q (i + t) + dgw a i * dgw b t) % 18446744073709551616) (by omega) (Nat.mod_lt _ (by decide))
  refine ⟨Q', e1, ?_, e3 _ (by omega) h2, by omega⟩
  have hs := Nat.div_add_mod' (c + dgw Q (i + t) + dgw a i * dgw b t) 18446744073709551616
  have hm : (c + dgw Q (i + t) + dgw a i * dgw b t) / 18446744073709551616 * 18446744073709551616 ^ (i + (t + 1)) = (c + dgw Q (i + t) + dgw a i * dgw b t) / 18446744073709551616 * 18446744073709551616 * 18446744073709551616 ^ (i + t) := by
    rw [show i + (t + 1) = i + t + 1 by omega, Nat.pow_succ, Nat.mul_comm (18446744073709551616 ^ (i + t)), Nat.mul_assoc]
  rw [hm, low_stepW b t, Nat.mul_add, ← Nat.add_assoc, ← h1]
  have hd : dgw a i * 18446744073709551616 ^ i * (dgw b t * 18446744073709551616 ^ t) = dgw a i * dgw b t * 18446744073709551616 ^ (i + t) := by
    rw [Nat.pow_add]; ac_rfl
  rw [hd]
  have hk : ∀ x y z : Nat, x / 18446744073709551616 * 18446744073709551616 + x % 18446744073709551616 = x := fun x _ _ => Nat.div_add_mod' x _
  generalize 18446744073709551616 ^ (i + t) = M at *
  generalize dgw a i * dgw b t = p at *
  generalize dgw Q (i + t) = q at *
  have e4 : (c + q + p) / 18446744073709551616 * 18446744073709551616 * M + (c + q + p) % 18446744073709551616 * M = (c + q + p) * M := by rw [← Nat.add_mul, hk _ 0 0]
  rw [Nat.add_mul, Nat.add_mul] at e4
  omega
theorem TimesW.out {a b j k i Q c : Nat} (h : TimesW a b k i k Q c) (hb : b < 18446744073709551616 ^ k) (hi : i < j) : (wds Q (j + k)).set (i + k) c = wds (tpw a b (i + 1)) (j + k) := by
  obtain ⟨h1, h2, h3⟩ := h
  obtain ⟨Q', e1, e2, _⟩ := @wds_set Q (j + k) (i + k) c (by omega) h3
  rw [dgw_none h2 (Nat.le_refl _), Nat.zero_mul, Nat.add_zero, h1, Nat.mod_eq_of_lt hb] at e2
  rw [e1, e2]
  unfold tpw
  rw [low_stepW a i, Nat.add_mul]
theorem tpw_zero (a b : Nat) : tpw a b 0 = 0 := by simp [tpw, Nat.mod_one]
theorem tpw_end {a b j : Nat} (ha : a < 18446744073709551616 ^ j) : tpw a b j = a * b := by rw [tpw, Nat.mod_eq_of_lt ha]
end Go.Proofs.YthpkhmbjmnhmoaaGreatDoor
