/- The law SumError holds, for every input: the two floats of Pair are floats of the format whose values add up to the exact sum; there are some wherever the rounded sum is Finite or a Zero. Conditions: the two listed package variables hold what the program's text lays (tied by the card). -/
import Derived.Test.YtdaecibpkhcllaaGreatDoorMm
import Derived.Test.YtdaecibpkhcllaaGreatDoorMl
import Derived.Test.YtdaecibpkhcllaaGreatDoorMk
import Derived.Test.YtdaecibpkhcllaaGreatDoorCards
import Derived.Test.YtdaecibpkhcllaaGreatDoorTie
import Derived.SevenTiedAt
/- The rational numbers of the reference. No condition. -/
namespace Go.Proofs.YtdaecibpkhcllaaGreatDoor
set_option linter.unusedVariables false
set_option linter.unusedSimpArgs false
variable {G : Gl}
set_option maxHeartbeats 4000000
set_option maxRecDepth 10000
/-- An integer of a size that all that is asked of it allows. -/
abbrev Bz (z : Int) : Prop := bl z.natAbs ≤ 100000000
theorem Bz.len {z : Int} (h : Bz z) : (nat z.natAbs).length ≤ 1562501 := by have := len_bl h; omega
theorem IvMake {n : Bool} {v : Nat} (hv : bl v ≤ 200000000) : Does Tryz.prog G 33 [.c (.b n), Wd (nat v)] (.v (Iv (sgn n v))) := by
  have := @IMake11_does G n (nat v) (by have := len_bl hv; omega) (nat_ws _)
  rwa [val_nat] at this
theorem IvMul {a b : Int} (ha : Bz a) (hb : Bz b) : Does Tryz.prog G 32 [Iv a, Iv b] (.v (Iv (a * b))) := by
  have := @IMul_does G (decide (a < 0)) (decide (b < 0)) (nat a.natAbs) (nat b.natAbs) (by have := ha.len; omega) (nat_ws _) (by have := hb.len; omega) (nat_ws _)
  rwa [val_nat, val_nat, sgn_of, sgn_of] at this
theorem IvAdd {a b : Int} (ha : Bz a) (hb : Bz b) : Does Tryz.prog G 86 [Iv a, Iv b] (.v (Iv (a + b))) := by
  have := @IAdd_does G (decide (a < 0)) (decide (b < 0)) (nat a.natAbs) (nat b.natAbs) (by have := ha.len; omega) (nat_ws _) (by have := hb.len; omega) (nat_ws _)
  rwa [val_nat, val_nat, sgn_of, sgn_of] at this
theorem IvNeg3 {a : Int} (ha : Bz a) : Does Tryz.prog G 162 [Iv a] (.v (Iv (-a))) := by
  have := @INeg_does G (decide (a < 0)) (nat a.natAbs) (by have := ha.len; omega) (nat_ws _)
  rwa [val_nat, sgn_of] at this
theorem IvNeg {a : Int} (ha : Bz a) : Does Tryz.prog G 136 [Iv a] (.v (Iv (-a))) := by
  have h := @IvNeg3 G a ha
  generalize -a = b at *
  refine Does.of (nt := 5) Tryz.func136 rfl rfl rfl (by simp) ?_
  simp only [argTm, PV.ext, Ce.ext]
  refine Do.seqk fun _ k1_ => ?_
  refine Do.region [1,2] true ?_
  simp [go_sem]
  apply k1_; clear k1_
  refine Do.seqk fun _ k2_ => ?_
  refine Do.region [2] true ?_
  simp [go_sem]
  repeat (refine And.intro (by first | omega | (intros; omega) | (intros; exact And.intro (by assumption) (by omega)) | grind) ?_)
  refine DoL.call true 102 rfl rfl rfl rfl (by first | exact trivial | omega | (simp; done) | (simp; omega)) (h) rfl (by first | exact .inl rfl | exact .inr rfl) rfl ?_
  simp [go_sem]
  repeat (refine And.intro (by first | omega | (intros; omega) | (intros; exact And.intro (by assumption) (by omega)) | grind) ?_)
  apply k2_; clear k2_
  refine Do.ret ?_
  simp [endQ, rets, ret1, go_sem]
  repeat (refine And.intro (by first | omega | (intros; omega) | (intros; exact And.intro (by assumption) (by omega)) | grind) ?_)
  exact TLe.refl _
theorem IvSub3 {a b : Int} (ha : Bz a) (hb : Bz b) : Does Tryz.prog G 161 [Iv a, Iv b] (.v (Iv (a - b))) := by
  have h1 := @IvNeg3 G b hb
  have h2 : Does Tryz.prog G 129 [Iv a, Iv (-b)] (.v (Iv (a - b))) := by
    have hb' : Bz (-b) := by unfold Bz; rw [Int.natAbs_neg]; exact hb
    have := @IAdd3_does G (decide (a < 0)) (decide (-b < 0)) (nat a.natAbs) (nat (-b).natAbs) (by have := ha.len; omega) (nat_ws _) (by have := hb'.len; omega) (nat_ws _)
    rwa [val_nat, val_nat, sgn_of, sgn_of, ← Int.sub_eq_add_neg] at this
  generalize a - b = c at *
  generalize -b = b' at *
  refine Does.of (nt := 9) Tryz.func161 rfl rfl rfl (by simp) ?_
  simp only [argTm, PV.ext, Ce.ext]
  refine Do.seqk fun _ k1_ => ?_
  refine Do.region [2,3,4] true ?_
  simp [go_sem]
  apply k1_; clear k1_
  refine Do.seqk fun _ k2_ => ?_
  refine Do.draw [4] true (by kernel_rfl) ?_
  simp [go_sem]
  repeat (refine And.intro (by first | omega | (intros; omega) | (intros; exact And.intro (by assumption) (by omega)) | kernel_rfl | grind) ?_)
  refine DoLD.call true 103 rfl rfl rfl rfl (by first | exact trivial | omega | (simp; done) | (simp; omega)) (h1) rfl (by first | exact .inl rfl | exact .inr rfl) rfl ?_
  simp [go_sem]
  refine DoLD.call true 104 rfl rfl rfl rfl (by first | exact trivial | omega | (simp; done) | (simp; omega)) (h2) rfl (by first | exact .inl rfl | exact .inr rfl) rfl ?_
  simp [go_sem]
  repeat (refine And.intro (by first | omega | (intros; omega) | (intros; exact And.intro (by assumption) (by omega)) | kernel_rfl | grind) ?_)
  try (refine And.intro (by kernel_rfl) ?_)
  apply k2_; clear k2_
  refine Do.ret ?_
  simp [endQ, rets, ret1, go_sem]
  repeat (refine And.intro (by first | omega | (intros; omega) | (intros; exact And.intro (by assumption) (by omega)) | grind) ?_)
  exact TLe.refl _
theorem IvSub {a b : Int} (ha : Bz a) (hb : Bz b) : Does Tryz.prog G 134 [Iv a, Iv b] (.v (Iv (a - b))) := by
  have h := @IvSub3 G a b ha hb
  generalize a - b = c at *
  refine Does.of (nt := 8) Tryz.func134 rfl rfl rfl (by simp) ?_
  simp only [argTm, PV.ext, Ce.ext]
  refine Do.seqk fun _ k1_ => ?_
  refine Do.region [2,3,4] true ?_
  simp [go_sem]
  apply k1_; clear k1_
  refine Do.seqk fun _ k2_ => ?_
  refine Do.region [4] true ?_
  simp [go_sem]
  repeat (refine And.intro (by first | omega | (intros; omega) | (intros; exact And.intro (by assumption) (by omega)) | grind) ?_)
  refine DoL.call true 103 rfl rfl rfl rfl (by first | exact trivial | omega | (simp; done) | (simp; omega)) (h) rfl (by first | exact .inl rfl | exact .inr rfl) rfl ?_
  simp [go_sem]
  repeat (refine And.intro (by first | omega | (intros; omega) | (intros; exact And.intro (by assumption) (by omega)) | grind) ?_)
  apply k2_; clear k2_
  refine Do.ret ?_
  simp [endQ, rets, ret1, go_sem]
  repeat (refine And.intro (by first | omega | (intros; omega) | (intros; exact And.intro (by assumption) (by omega)) | grind) ?_)
  exact TLe.refl _
theorem IvSign {a : Int} (ha : bl a.natAbs ≤ 200000000) : Does Tryz.prog G 54 [Iv a] (.int .i64 a.sign) := by
  have := @ISign_does G (decide (a < 0)) (nat a.natAbs) (by have := len_bl ha; omega) (nat_ws _)
  rwa [val_nat, sgn_of] at this
theorem bl_sub_le (a b : Int) : bl (a - b).natAbs ≤ max (bl a.natAbs) (bl b.natAbs) + 1 := by
  rw [bl_lt, Nat.pow_succ]
  have h1 : a.natAbs < 2 ^ max (bl a.natAbs) (bl b.natAbs) := (bl_lt _ _).1 (Nat.le_max_left _ _)
  have h2 : b.natAbs < 2 ^ max (bl a.natAbs) (bl b.natAbs) := (bl_lt _ _).1 (Nat.le_max_right _ _)
  omega
theorem IvCmp {a b : Int} (ha : Bz a) (hb : Bz b) : Does Tryz.prog G 91 [Iv a, Iv b] (.int .i64 (a - b).sign) := by
  have h := @IvSub G a b ha hb
  have h2 := @IvSign G (a - b) (by have := bl_sub_le a b; unfold Bz at *; omega)
  generalize a - b = c at *
  refine Does.of (nt := 9) Tryz.func91 rfl rfl rfl (by simp) ?_
  simp only [argTm, PV.ext, Ce.ext]
  refine Do.seqk fun _ k1_ => ?_
  refine Do.region [2,3] true ?_
  simp [go_sem]
  apply k1_; clear k1_
  refine Do.seqk fun _ k2_ => ?_
  refine Do.region [4] true ?_
  simp [go_sem]
  repeat (refine And.intro (by first | omega | (intros; omega) | (intros; exact And.intro (by assumption) (by omega)) | grind) ?_)
  refine DoL.call true 103 rfl rfl rfl rfl (by first | exact trivial | omega | (simp; done) | (simp; omega)) (h) rfl (by first | exact .inl rfl | exact .inr rfl) rfl ?_
  simp [go_sem]
  refine DoL.call true 104 rfl rfl rfl rfl (by first | exact trivial | omega | (simp; done) | (simp; omega)) (h2) rfl (by first | exact .inl rfl | exact .inr rfl) rfl ?_
  simp [go_sem]
  apply k2_; clear k2_
  refine Do.ret ?_
  simp [endQ, rets, ret1, go_sem]
  repeat (refine And.intro (by first | omega | (intros; omega) | (intros; exact And.intro (by assumption) (by omega)) | grind) ?_)
  exact TLe.refl _
theorem IvTrim {a : Int} (ha : Bz a) : Does Tryz.prog G 133 [Iv a] (.v (Iv a)) := by
  have h := @ITrim_does G (decide (a < 0)) (nat a.natAbs) (by have := ha.len; omega) (nat_ws _)
  rw [val_nat, sgn_of] at h
  refine Does.of (nt := 5) Tryz.func133 rfl rfl rfl (by simp) ?_
  simp only [argTm, PV.ext, Ce.ext]
  refine Do.seqk fun _ k1_ => ?_
  refine Do.region [1,2] true ?_
  simp [go_sem]
  apply k1_; clear k1_
  refine Do.seqk fun _ k2_ => ?_
  refine Do.region [2] true ?_
  simp [go_sem]
  repeat (refine And.intro (by first | omega | (intros; omega) | (intros; exact And.intro (by assumption) (by omega)) | grind) ?_)
  refine DoL.call true 102 rfl rfl rfl rfl (by first | exact trivial | omega | (simp; done) | (simp; omega)) (h) rfl (by first | exact .inl rfl | exact .inr rfl) rfl ?_
  simp [go_sem]
  repeat (refine And.intro (by first | omega | (intros; omega) | (intros; exact And.intro (by assumption) (by omega)) | grind) ?_)
  apply k2_; clear k2_
  refine Do.ret ?_
  simp [endQ, rets, ret1, go_sem]
  repeat (refine And.intro (by first | omega | (intros; omega) | (intros; exact And.intro (by assumption) (by omega)) | grind) ?_)
  exact TLe.refl _
/-- A rational number, as it is laid. -/
abbrev Qv (z : Int) (d : Nat) : PV := .a [.b (decide (z < 0)), .w false (nat z.natAbs), .w false (nat d)]
theorem PLe.qv {c1 c2 : Ce} {z : Int} {d : Nat} {b : Bool} (hb : b = decide (z < 0)) (h1 : PLe (.c c1) (.c (.w false (nat z.natAbs)))) (h2 : PLe (.c c2) (.c (.w false (nat d)))) : PLe (.a [.b b, c1, c2]) (Qv z d) := by
  subst hb
  exact PLe.agg (.cons (PLe.refl _) (.cons h1 (.cons h2 .nil)))
theorem QNorm {z : Int} {d : Nat} (hz : bl z.natAbs ≤ 200000000) (hd : bl d ≤ 200000000) (h0 : 0 < d) : Does Tryz.prog G 128 [Qv z d] (.v (Qv (nz z d) (nd z d))) := by
  have lz : (nat z.natAbs).length ≤ 3125001 := by have := len_bl hz; omega
  have ld : (nat d).length ≤ 3125001 := by have := len_bl hd; omega
  have hg := @RGcd_does G (nat z.natAbs) (nat d) (by omega) (nat_ws _) (by omega) (nat_ws _)
  rw [val_nat, val_nat] at hg
  have gp := gcd_pos (z := z) h0
  have gl : Nat.gcd z.natAbs d ≤ d := Nat.le_of_dvd h0 (Nat.gcd_dvd_right _ _)
  have gb := bl_mono gl
  have lg : (nat (Nat.gcd z.natAbs d)).length ≤ 3125001 := by have := len_bl (Nat.le_trans gb hd); omega
  have d1 := @RDiv_does G (nat z.natAbs) (nat (Nat.gcd z.natAbs d)) (by omega) (nat_ws _) (by omega) (nat_ws _) (by rw [val_nat]; exact gp)
  have d2 := @RDiv_does G (nat d) (nat (Nat.gcd z.natAbs d)) (by omega) (nat_ws _) (by omega) (nat_ws _) (by rw [val_nat]; exact gp)
  rw [val_nat, val_nat] at d1 d2
  have hm := @IvMake G (decide (z < 0)) (z.natAbs / Nat.gcd z.natAbs d) (by have := bl_mono (Nat.div_le_self z.natAbs (Nat.gcd z.natAbs d)); omega)
  rw [nz_sgn] at hm
  have e2 : d / Nat.gcd z.natAbs d = nd z d := rfl
  rw [e2] at d2
  generalize nz z d = z' at *
  generalize nd z d = d' at *
  generalize z.natAbs / Nat.gcd z.natAbs d = u at *
  generalize Nat.gcd z.natAbs d = g at *
  refine Does.of (nt := 24) Tryz.func128 rfl rfl rfl (by simp) ?_
  simp only [argTm, PV.ext, Ce.ext]
  refine Do.seqk fun _ k1_ => ?_
  refine Do.region [1,2] true ?_
  simp [go_sem]
  apply k1_; clear k1_
  refine Do.seqk fun _ k2_ => ?_
  refine Do.region [1,2,3] true ?_
  simp [go_sem]
  repeat (refine And.intro (by first | omega | (intros; omega) | (intros; exact And.intro (by assumption) (by omega)) | grind) ?_)
  refine DoL.call true 106 rfl rfl rfl rfl (by first | exact trivial | omega | (simp; done) | (simp; omega)) (hg) rfl (by first | exact .inl rfl | exact .inr rfl) rfl ?_
  simp [go_sem]
  apply k2_; clear k2_
  refine Do.seqk fun _ k3_ => ?_
  refine Do.draw [2] true (by kernel_rfl) ?_
  simp [go_sem]
  repeat (refine And.intro (by first | omega | (intros; omega) | (intros; exact And.intro (by assumption) (by omega)) | kernel_rfl | grind) ?_)
  refine DoLD.call true 208 rfl rfl rfl rfl (by first | exact trivial | omega | (simp; done) | (simp; omega)) (d1) rfl (by first | exact .inl rfl | exact .inr rfl) rfl ?_
  simp [go_sem]
  refine DoLD.call true 209 rfl rfl rfl rfl (by first | exact trivial | omega | (simp; done) | (simp; omega)) (hm) rfl (by first | exact .inl rfl | exact .inr rfl) rfl ?_
  simp [go_sem]
  repeat (refine And.intro (by first | omega | (intros; omega) | (intros; exact And.intro (by assumption) (by omega)) | kernel_rfl | grind) ?_)
  refine DoLD.call true 213 rfl rfl rfl rfl (by first | exact trivial | omega | (simp; done) | (simp; omega)) (d2) rfl (by first | exact .inl rfl | exact .inr rfl) rfl ?_
  simp [go_sem]
  repeat (refine And.intro (by first | omega | (intros; omega) | (intros; exact And.intro (by assumption) (by omega)) | kernel_rfl | grind) ?_)
  try (refine And.intro (by kernel_rfl) ?_)
  apply k3_; clear k3_
  refine Do.ret ?_
  simp [endQ, rets, ret1, go_sem]
  repeat (refine And.intro (by first | omega | (intros; omega) | (intros; exact And.intro (by assumption) (by omega)) | grind) ?_)
  exact TLe.v (PLe.qv rfl (PLe.refl _) (PLe.ext (.c (.w true _))))
theorem QMake {z : Int} {d : Nat} (hz : bl z.natAbs ≤ 200000000) (hd : bl d ≤ 200000000) (h0 : 0 < d) : Does Tryz.prog G 85 [Iv z, Wd (nat d)] (.v (Qv (nz z d) (nd z d))) := by
  have hn := @QNorm G z d hz hd h0
  generalize nz z d = z' at *
  generalize nd z d = d' at *
  refine Does.of (nt := 9) Tryz.func85 rfl rfl rfl (by simp) ?_
  simp only [argTm, PV.ext, Ce.ext]
  refine Do.seqk fun _ k1_ => ?_
  refine Do.region [1,2,4] true ?_
  simp [go_sem]
  apply k1_; clear k1_
  refine Do.seqk fun _ k2_ => ?_
  refine Do.region [4] true ?_
  simp [go_sem]
  repeat (refine And.intro (by first | omega | (intros; omega) | (intros; exact And.intro (by assumption) (by omega)) | grind) ?_)
  refine DoL.call true 104 rfl rfl rfl rfl (by first | exact trivial | omega | (simp; done) | (simp; omega)) (hn) rfl (by first | exact .inl rfl | exact .inr rfl) rfl ?_
  simp [go_sem]
  repeat (refine And.intro (by first | omega | (intros; omega) | (intros; exact And.intro (by assumption) (by omega)) | grind) ?_)
  apply k2_; clear k2_
  refine Do.ret ?_
  simp [endQ, rets, ret1, go_sem]
  repeat (refine And.intro (by first | omega | (intros; omega) | (intros; exact And.intro (by assumption) (by omega)) | grind) ?_)
  exact TLe.refl _
section
variable {K : Nat} {z1 z2 w1 w2 : Int} {d1 d2 : Nat}
theorem RMulN {a b : Nat} (ha : bl a ≤ 100000000) (hb : bl b ≤ 100000000) : Does Tryz.prog G 87 [Wd (nat a), Wd (nat b)] (.v (Wn (nat (a * b)))) := by
  have := @RMul_does G (nat a) (nat b) (by have := len_bl ha; omega) (nat_ws _) (by have := len_bl hb; omega) (nat_ws _)
  rwa [val_nat, val_nat] at this
theorem sgn_false (v : Nat) : sgn false v = (v : Int) := rfl
theorem bl_mulz (a b : Int) : bl (a * b).natAbs ≤ bl a.natAbs + bl b.natAbs := by
  rw [Int.natAbs_mul]
  rw [bl_lt, Nat.pow_add]
  have h1 := bl_self a.natAbs
  have h2 := bl_self b.natAbs
  exact Nat.mul_lt_mul_of_lt_of_le h1 (Nat.le_of_lt h2) (Nat.pow_pos (by decide))
theorem bl_mulN (a b : Nat) : bl (a * b) ≤ bl a + bl b := by
  rw [bl_lt, Nat.pow_add]
  exact Nat.mul_lt_mul_of_lt_of_le (bl_self a) (Nat.le_of_lt (bl_self b)) (Nat.pow_pos (by decide))
theorem bl_addz (a b : Int) : bl (a + b).natAbs ≤ max (bl a.natAbs) (bl b.natAbs) + 1 := by
  have := bl_sub_le a (-b)
  rw [Int.natAbs_neg] at this
  rwa [Int.sub_eq_add_neg, Int.neg_neg] at this
theorem QAdd (h1 : Dq K z1 d1 w1) (h2 : Dq K z2 d2 w2) (hK : K ≤ 8000000) (b1 : bl w1.natAbs ≤ 20000000) (b2 : bl w2.natAbs ≤ 20000000) : ∃ z d, Does Tryz.prog G 37 [Qv z1 d1, Qv z2 d2] (.v (Qv z d)) ∧ Dq K z d (w1 + w2) := by
  obtain ⟨s1, s2, s3⟩ := h1.small
  obtain ⟨t1, t2, t3⟩ := h2.small
  have m1 := bl_mulz z1 d2
  have m2 := bl_mulz z2 d1
  have m3 := bl_addz (z1 * d2) (z2 * d1)
  have m4 := bl_mulN d1 d2
  rw [Int.natAbs_natCast] at m1 m2
  have k1 := @IvMake G false d1 (by omega)
  have k2 := @IvMake G false d2 (by omega)
  have p1 := @IvMul G z1 d2 (by unfold Bz; omega) (by unfold Bz; rw [Int.natAbs_natCast]; omega)
  have p2 := @IvMul G z2 d1 (by unfold Bz; omega) (by unfold Bz; rw [Int.natAbs_natCast]; omega)
  have p3 := @IvAdd G (z1 * d2) (z2 * d1) (by unfold Bz; omega) (by unfold Bz; omega)
  have p4 := @RMulN G d1 d2 (by omega) (by omega)
  have p5 := @QMake G (z1 * d2 + z2 * d1) (d1 * d2) (by omega) (by omega) (Nat.mul_pos h1.pos h2.pos)
  refine ⟨_, _, ?_, Dq.norm (h1.add_eq h2) (Nat.mul_pos h1.pos h2.pos)⟩
  rw [sgn_false] at k1 k2
  generalize nz (z1 * d2 + z2 * d1) (d1 * d2) = z' at *
  generalize nd (z1 * d2 + z2 * d1) (d1 * d2) = d' at *
  generalize z1 * d2 + z2 * d1 = u at *
  generalize z1 * (d2 : Int) = u1 at *
  generalize z2 * (d1 : Int) = u2 at *
  generalize d1 * d2 = v at *
  generalize (d1 : Int) = y1 at *
  generalize (d2 : Int) = y2 at *
  refine Does.of (nt := 28) Tryz.func37 rfl rfl rfl (by simp) ?_
  simp only [argTm, PV.ext, Ce.ext]
  refine Do.seqk fun _ k1_ => ?_
  refine Do.region [2,3,4] true ?_
  simp [go_sem]
  apply k1_; clear k1_
  refine Do.seqk fun _ k2_ => ?_
  refine Do.draw [2,3,4,5,6] true (by kernel_rfl) ?_
  simp [go_sem]
  repeat (refine And.intro (by first | omega | (intros; omega) | (intros; exact And.intro (by assumption) (by omega)) | kernel_rfl | grind) ?_)
  refine DoLD.call true 105 rfl rfl rfl rfl (by first | exact trivial | omega | (simp; done) | (simp; omega)) (k2) rfl (by first | exact .inl rfl | exact .inr rfl) rfl ?_
  simp [go_sem]
  refine DoLD.call true 106 rfl rfl rfl rfl (by first | exact trivial | omega | (simp; done) | (simp; omega)) (p1) rfl (by first | exact .inl rfl | exact .inr rfl) rfl ?_
  simp [go_sem]
  repeat (refine And.intro (by first | omega | (intros; omega) | (intros; exact And.intro (by assumption) (by omega)) | kernel_rfl | grind) ?_)
  refine DoLD.call true 111 rfl rfl rfl rfl (by first | exact trivial | omega | (simp; done) | (simp; omega)) (k1) rfl (by first | exact .inl rfl | exact .inr rfl) rfl ?_
  simp [go_sem]
  refine DoLD.call true 112 rfl rfl rfl rfl (by first | exact trivial | omega | (simp; done) | (simp; omega)) (p2) rfl (by first | exact .inl rfl | exact .inr rfl) rfl ?_
  simp [go_sem]
  repeat (refine And.intro (by first | omega | (intros; omega) | (intros; exact And.intro (by assumption) (by omega)) | kernel_rfl | grind) ?_)
  try (refine And.intro (by kernel_rfl) ?_)
  apply k2_; clear k2_
  refine Do.seqk fun _ k3_ => ?_
  refine Do.draw [4] true (by kernel_rfl) ?_
  simp [go_sem]
  repeat (refine And.intro (by first | omega | (intros; omega) | (intros; exact And.intro (by assumption) (by omega)) | kernel_rfl | grind) ?_)
  refine DoLD.call true 203 rfl rfl rfl rfl (by first | exact trivial | omega | (simp; done) | (simp; omega)) (p3) rfl (by first | exact .inl rfl | exact .inr rfl) rfl ?_
  simp [go_sem]
  repeat (refine And.intro (by first | omega | (intros; omega) | (intros; exact And.intro (by assumption) (by omega)) | kernel_rfl | grind) ?_)
  refine DoLD.call true 208 rfl rfl rfl rfl (by first | exact trivial | omega | (simp; done) | (simp; omega)) (p4) rfl (by first | exact .inl rfl | exact .inr rfl) rfl ?_
  simp [go_sem]
  refine DoLD.call true 209 rfl rfl rfl rfl (by first | exact trivial | omega | (simp; done) | (simp; omega)) (p5) rfl (by first | exact .inl rfl | exact .inr rfl) rfl ?_
  simp [go_sem]
  repeat (refine And.intro (by first | omega | (intros; omega) | (intros; exact And.intro (by assumption) (by omega)) | kernel_rfl | grind) ?_)
  try (refine And.intro (by kernel_rfl) ?_)
  apply k3_; clear k3_
  refine Do.ret ?_
  simp [endQ, rets, ret1, go_sem]
  repeat (refine And.intro (by first | omega | (intros; omega) | (intros; exact And.intro (by assumption) (by omega)) | grind) ?_)
  exact TLe.refl _
theorem QNeg (h1 : Dq K z1 d1 w1) (hK : K ≤ 8000000) (b1 : bl w1.natAbs ≤ 20000000) : ∃ z d, Does Tryz.prog G 95 [Qv z1 d1] (.v (Qv z d)) ∧ Dq K z d (-w1) := by
  obtain ⟨s1, s2, s3⟩ := h1.small
  have p1 := @IvNeg G z1 (by unfold Bz; omega)
  have p2 := @QNorm G (-z1) d1 (by rw [Int.natAbs_neg]; omega) (by omega) h1.pos
  refine ⟨_, _, ?_, Dq.norm h1.neg.eq h1.pos⟩
  generalize nz (-z1) d1 = z' at *
  generalize nd (-z1) d1 = d' at *
  generalize -z1 = u at *
  refine Does.of (nt := 10) Tryz.func95 rfl rfl rfl (by simp) ?_
  simp only [argTm, PV.ext, Ce.ext]
  refine Do.seqk fun _ k1_ => ?_
  refine Do.region [1,2] true ?_
  simp [go_sem]
  apply k1_; clear k1_
  refine Do.seqk fun _ k2_ => ?_
  refine Do.draw [2] true (by kernel_rfl) ?_
  simp [go_sem]
  repeat (refine And.intro (by first | omega | (intros; omega) | (intros; exact And.intro (by assumption) (by omega)) | kernel_rfl | grind) ?_)
  refine DoLD.call true 103 rfl rfl rfl rfl (by first | exact trivial | omega | (simp; done) | (simp; omega)) (p1) rfl (by first | exact .inl rfl | exact .inr rfl) rfl ?_
  simp [go_sem]
  repeat (refine And.intro (by first | omega | (intros; omega) | (intros; exact And.intro (by assumption) (by omega)) | kernel_rfl | grind) ?_)
  refine DoLD.call true 107 rfl rfl rfl rfl (by first | exact trivial | omega | (simp; done) | (simp; omega)) (p2) rfl (by first | exact .inl rfl | exact .inr rfl) rfl ?_
  simp [go_sem]
  repeat (refine And.intro (by first | omega | (intros; omega) | (intros; exact And.intro (by assumption) (by omega)) | kernel_rfl | grind) ?_)
  try (refine And.intro (by kernel_rfl) ?_)
  apply k2_; clear k2_
  refine Do.ret ?_
  simp [endQ, rets, ret1, go_sem]
  repeat (refine And.intro (by first | omega | (intros; omega) | (intros; exact And.intro (by assumption) (by omega)) | grind) ?_)
  exact TLe.refl _
theorem QSub (h1 : Dq K z1 d1 w1) (h2 : Dq K z2 d2 w2) (hK : K ≤ 8000000) (b1 : bl w1.natAbs ≤ 20000000) (b2 : bl w2.natAbs ≤ 20000000) : ∃ z d, Does Tryz.prog G 46 [Qv z1 d1, Qv z2 d2] (.v (Qv z d)) ∧ Dq K z d (w1 - w2) := by
  obtain ⟨z3, d3, p1, h3⟩ := @QNeg G K z2 w2 d2 h2 hK b2
  obtain ⟨z, d, p2, h4⟩ := @QAdd G K z1 z3 w1 (-w2) d1 d3 h1 h3 hK b1 (by rw [Int.natAbs_neg]; exact b2)
  refine ⟨z, d, ?_, by rw [Int.sub_eq_add_neg]; exact h4⟩
  refine Does.of (nt := 9) Tryz.func46 rfl rfl rfl (by simp) ?_
  simp only [argTm, PV.ext, Ce.ext]
  refine Do.seqk fun _ k1_ => ?_
  refine Do.region [2,3,4] true ?_
  simp [go_sem]
  apply k1_; clear k1_
  refine Do.seqk fun _ k2_ => ?_
  refine Do.draw [4] true (by kernel_rfl) ?_
  simp [go_sem]
  repeat (refine And.intro (by first | omega | (intros; omega) | (intros; exact And.intro (by assumption) (by omega)) | kernel_rfl | grind) ?_)
  refine DoLD.call true 103 rfl rfl rfl rfl (by first | exact trivial | omega | (simp; done) | (simp; omega)) (p1) rfl (by first | exact .inl rfl | exact .inr rfl) rfl ?_
  simp [go_sem]
  refine DoLD.call true 104 rfl rfl rfl rfl (by first | exact trivial | omega | (simp; done) | (simp; omega)) (p2) rfl (by first | exact .inl rfl | exact .inr rfl) rfl ?_
  simp [go_sem]
  repeat (refine And.intro (by first | omega | (intros; omega) | (intros; exact And.intro (by assumption) (by omega)) | kernel_rfl | grind) ?_)
  try (refine And.intro (by kernel_rfl) ?_)
  apply k2_; clear k2_
  refine Do.ret ?_
  simp [endQ, rets, ret1, go_sem]
  repeat (refine And.intro (by first | omega | (intros; omega) | (intros; exact And.intro (by assumption) (by omega)) | grind) ?_)
  exact TLe.refl _
theorem QCmp (h1 : Dq K z1 d1 w1) (h2 : Dq K z2 d2 w2) (hK : K ≤ 8000000) (b1 : bl w1.natAbs ≤ 20000000) (b2 : bl w2.natAbs ≤ 20000000) : Does Tryz.prog G 39 [Qv z1 d1, Qv z2 d2] (.int .i64 (w1 - w2).sign) := by
  obtain ⟨s1, s2, s3⟩ := h1.small
  obtain ⟨t1, t2, t3⟩ := h2.small
  have m1 := bl_mulz z1 d2
  have m2 := bl_mulz z2 d1
  rw [Int.natAbs_natCast] at m1 m2
  have k1 := @IvMake G false d1 (by omega)
  have k2 := @IvMake G false d2 (by omega)
  have p1 := @IvMul G z1 d2 (by unfold Bz; omega) (by unfold Bz; rw [Int.natAbs_natCast]; omega)
  have p2 := @IvMul G z2 d1 (by unfold Bz; omega) (by unfold Bz; rw [Int.natAbs_natCast]; omega)
  have p3 := @IvCmp G (z1 * d2) (z2 * d1) (by unfold Bz; omega) (by unfold Bz; omega)
  rw [h1.cmp h2] at p3
  rw [sgn_false] at k1 k2
  generalize z1 * (d2 : Int) = u1 at *
  generalize z2 * (d1 : Int) = u2 at *
  generalize (d1 : Int) = y1 at *
  generalize (d2 : Int) = y2 at *
  generalize (w1 - w2).sign = sg at *
  refine Does.of (nt := 18) Tryz.func39 rfl rfl rfl (by simp) ?_
  simp only [argTm, PV.ext, Ce.ext]
  refine Do.seqk fun _ k1_ => ?_
  refine Do.region [2,3] true ?_
  simp [go_sem]
  apply k1_; clear k1_
  refine Do.seqk fun _ k2_ => ?_
  refine Do.draw [4] true (by kernel_rfl) ?_
  simp [go_sem]
  repeat (refine And.intro (by first | omega | (intros; omega) | (intros; exact And.intro (by assumption) (by omega)) | kernel_rfl | grind) ?_)
  refine DoLD.call true 105 rfl rfl rfl rfl (by first | exact trivial | omega | (simp; done) | (simp; omega)) (k2) rfl (by first | exact .inl rfl | exact .inr rfl) rfl ?_
  simp [go_sem]
  refine DoLD.call true 106 rfl rfl rfl rfl (by first | exact trivial | omega | (simp; done) | (simp; omega)) (p1) rfl (by first | exact .inl rfl | exact .inr rfl) rfl ?_
  simp [go_sem]
  repeat (refine And.intro (by first | omega | (intros; omega) | (intros; exact And.intro (by assumption) (by omega)) | kernel_rfl | grind) ?_)
  refine DoLD.call true 111 rfl rfl rfl rfl (by first | exact trivial | omega | (simp; done) | (simp; omega)) (k1) rfl (by first | exact .inl rfl | exact .inr rfl) rfl ?_
  simp [go_sem]
  refine DoLD.call true 112 rfl rfl rfl rfl (by first | exact trivial | omega | (simp; done) | (simp; omega)) (p2) rfl (by first | exact .inl rfl | exact .inr rfl) rfl ?_
  simp [go_sem]
  refine DoLD.call true 113 rfl rfl rfl rfl (by first | exact trivial | omega | (simp; done) | (simp; omega)) (p3) rfl (by first | exact .inl rfl | exact .inr rfl) rfl ?_
  simp [go_sem]
  try (refine And.intro (by kernel_rfl) ?_)
  apply k2_; clear k2_
  refine Do.ret ?_
  simp [endQ, rets, ret1, go_sem]
  repeat (refine And.intro (by first | omega | (intros; omega) | (intros; exact And.intro (by assumption) (by omega)) | grind) ?_)
  exact TLe.refl _
theorem QSign (h1 : Dq K z1 d1 w1) (b1 : bl w1.natAbs ≤ 20000000) : Does Tryz.prog G 47 [Qv z1 d1] (.int .i64 w1.sign) := by
  obtain ⟨s1, s2, s3⟩ := h1.small
  have p1 := @IvSign G z1 (by omega)
  rw [h1.sign] at p1
  generalize w1.sign = sg at *
  refine Does.of (nt := 6) Tryz.func47 rfl rfl rfl (by simp) ?_
  simp only [argTm, PV.ext, Ce.ext]
  refine Do.seqk fun _ k1_ => ?_
  refine Do.region [1] true ?_
  simp [go_sem]
  apply k1_; clear k1_
  refine Do.seqk fun _ k2_ => ?_
  refine Do.region [2] true ?_
  simp [go_sem]
  repeat (refine And.intro (by first | omega | (intros; omega) | (intros; exact And.intro (by assumption) (by omega)) | grind) ?_)
  refine DoL.call true 103 rfl rfl rfl rfl (by first | exact trivial | omega | (simp; done) | (simp; omega)) (p1) rfl (by first | exact .inl rfl | exact .inr rfl) rfl ?_
  simp [go_sem]
  apply k2_; clear k2_
  refine Do.ret ?_
  simp [endQ, rets, ret1, go_sem]
  repeat (refine And.intro (by first | omega | (intros; omega) | (intros; exact And.intro (by assumption) (by omega)) | grind) ?_)
  exact TLe.refl _
end
/-- Half of 2^64 is not needed: small integers as rational numbers. -/
theorem QFrom {k : Nat} (hk : k < 1000000) : Does Tryz.prog G 43 [.c (.i .i64 k), .c (.i .i64 1)] (.v (Qv k 1)) := by
  have h1 := @IFrom_does G k (by omega)
  have h2 := @RWord_does G 1 (by decide)
  have h3 := @QMake G k 1 (by rw [Int.natAbs_natCast]; have := (bl_lt k 20).2 (by omega); omega) (by decide) (by decide)
  rw [show nz (k : Int) 1 = k by unfold nz; simp, show nd (k : Int) 1 = 1 by unfold nd; simp] at h3
  refine Does.of (nt := 11) Tryz.func43 rfl rfl rfl (by simp) ?_
  simp only [argTm, PV.ext, Ce.ext]
  refine Do.seqk fun _ k1_ => ?_
  refine Do.region [0,1,4] true ?_
  simp [go_sem]
  apply k1_; clear k1_
  refine Do.seqk fun _ k2_ => ?_
  refine Do.region [4] true ?_
  simp [go_sem]
  refine DoL.call true 102 rfl rfl rfl rfl (by first | exact trivial | omega | (simp; done) | (simp; omega)) (h1) rfl (by first | exact .inl rfl | exact .inr rfl) rfl ?_
  simp [go_sem]
  repeat (refine And.intro (by first | omega | (intros; omega) | (intros; exact And.intro (by assumption) (by omega)) | grind) ?_)
  refine DoL.call true 105 rfl rfl rfl rfl (by first | exact trivial | omega | (simp; done) | (simp; omega)) (h2) rfl (by first | exact .inl rfl | exact .inr rfl) rfl ?_
  simp [go_sem]
  refine DoL.call true 106 rfl rfl rfl rfl (by first | exact trivial | omega | (simp; done) | (simp; omega)) (h3) rfl (by first | exact .inl rfl | exact .inr rfl) rfl ?_
  simp [go_sem]
  repeat (refine And.intro (by first | omega | (intros; omega) | (intros; exact And.intro (by assumption) (by omega)) | grind) ?_)
  apply k2_; clear k2_
  refine Do.ret ?_
  simp [endQ, rets, ret1, go_sem]
  repeat (refine And.intro (by first | omega | (intros; omega) | (intros; exact And.intro (by assumption) (by omega)) | grind) ?_)
  exact TLe.refl _
theorem QWhole {z : Int} (hz : Bz z) : Does Tryz.prog G 90 [Iv z] (.v (Qv z 1)) := by
  have h1 := @IvTrim G z hz
  have h2 := @RWord_does G 1 (by decide)
  refine Does.of (nt := 7) Tryz.func90 rfl rfl rfl (by simp) ?_
  simp only [argTm, PV.ext, Ce.ext]
  refine Do.seqk fun _ k1_ => ?_
  refine Do.region [1,2] true ?_
  simp [go_sem]
  apply k1_; clear k1_
  refine Do.seqk fun _ k2_ => ?_
  refine Do.region [2] true ?_
  simp [go_sem]
  repeat (refine And.intro (by first | omega | (intros; omega) | (intros; exact And.intro (by assumption) (by omega)) | grind) ?_)
  refine DoL.call true 102 rfl rfl rfl rfl (by first | exact trivial | omega | (simp; done) | (simp; omega)) (h1) rfl (by first | exact .inl rfl | exact .inr rfl) rfl ?_
  simp [go_sem]
  refine DoL.call true 103 rfl rfl rfl rfl (by first | exact trivial | omega | (simp; done) | (simp; omega)) (h2) rfl (by first | exact .inl rfl | exact .inr rfl) rfl ?_
  simp [go_sem]
  repeat (refine And.intro (by first | omega | (intros; omega) | (intros; exact And.intro (by assumption) (by omega)) | grind) ?_)
  apply k2_; clear k2_
  refine Do.ret ?_
  simp [endQ, rets, ret1, go_sem]
  repeat (refine And.intro (by first | omega | (intros; omega) | (intros; exact And.intro (by assumption) (by omega)) | grind) ?_)
  exact TLe.v (PLe.qv rfl (PLe.refl _) (PLe.ext (.c (.w true _))))
end Go.Proofs.YtdaecibpkhcllaaGreatDoor
/- Operations under a test whose outcome is known, in a region whose order is open. No condition. -/
namespace Go.Proofs.YtdaecibpkhcllaaGreatDoor
set_option linter.unusedVariables false
set_option linter.unusedSimpArgs false
section
variable {P : Program} {G : Gl} {nt : Nat} {st st0 : St} {cx : Cx} {a : Act} {W W' : World} {m : Nat → Option Nat} {ops l : List Oper} {acc : List Sm} {Q : List Sm → St → Prop} {o : Oper} {j : Nat} {want g : Bool}
theorem gOf_congr {tm tm' : List (Nat × TV)} (hg : o.guard = some (j, want)) (h : ∀ t ∈ rdOf ops o, lk t tm' = lk t tm) : gOf ops tm' j want = gOf ops tm j want := by
  unfold gOf
  split
  · rename_i d _ _ _ _ _ hj
    rw [h d (by unfold rdOf; simp only [List.mem_append, hg, hj]; exact .inr (by simp))]
  · rfl
theorem DoLD.gOff (md : Bool) (lab : Nat) (hg : o.guard = some (j, want)) (hgo : gOf ops st.tm j want = some false) (x : TV) (hx : x.labs = []) (hd : dstOk nt o.dst = true) (next : runsD P G nt md ops st0 Q lab l (acc ++ [⟨[], [], [], none⟩]) ⟨setv o.dst (some (.gd false x)) st.tm, st.ob⟩) : DoLD P G nt ops st0 Q (o :: l) acc st := by
  have h : OpOk P G nt ops (boxes st0.ob) o st ⟨o.dst, some (.gd false x), .none, 0, []⟩ := by
    refine ⟨rfl, fun cx a W m S hn _ hrd hus hfree hr Q' K hK => ?_⟩
    rw [gOf_spec hr ((gOf_congr hg hrd).trans hgo) hg, if_neg Bool.false_ne_true]
    exact hK _ _ (Rel.put hr hn hd (show RT _ (.gd false x) undef from ⟨(fun e => by cases e), fun _ => rfl⟩))
  refine DoLD.cons h (fun l hl => by simp [Tr.nw, Eff.isNew] at hl) rfl ?_
  have e1 : Tr.sm ⟨o.dst, some (.gd false x), .none, 0, []⟩ = ⟨[], [], [], none⟩ := by
    simp [Tr.sm, Tr.wr, Tr.mn, Tr.nw, Tr.ob, Eff.isNew, TV.labs, hx]
  rw [e1]
  exact DoLD.run next
theorem tmHas_unw {l : Nat} (ts : List Nat) : ∀ {tm : List (Nat × TV)}, tmHas l tm = false → tmHas l (unw ts tm) = false
  | [], _ => rfl
  | (k, x) :: r, h => by
    simp only [tmHas, Bool.or_eq_false_iff] at h
    cases x with
    | gd c y =>
      simp only [Go.Proofs.YtdaecibpkhcllaaGreatDoor.unw, tmHas, Bool.or_eq_false_iff]
      refine ⟨?_, tmHas_unw ts h.2⟩
      split <;> exact h.1
    | _ => simp only [Go.Proofs.YtdaecibpkhcllaaGreatDoor.unw, tmHas, Bool.or_eq_false_iff]; exact ⟨h.1, tmHas_unw ts h.2⟩
theorem free_unw {S : St} {l : Nat} (ts : List Nat) (h : S.free l = true) : (⟨unw ts S.tm, S.ob⟩ : St).free l = true := by
  simp only [St.free, Bool.not_eq_true', Bool.or_eq_false_iff] at h ⊢
  exact ⟨⟨tmHas_unw ts h.1.1, h.1.2⟩, h.2⟩
/-- Slots that hold no more than they did. -/
theorem RelM.less (h : RelM G cx m st a W) {tm' : List (Nat × TV)} (hs : ∀ t y, lk t tm' = some y → ∃ z, lk t st.tm = some z ∧ ∀ E v, RT E z v → RT E y v) : RelM G cx m ⟨tm', st.ob⟩ a W :=
  { h with
    tm := fun t y hy => by
      have ⟨z, hz, hl⟩ := hs t y hy
      have ⟨v, hv, hr⟩ := h.tm t z hz
      exact ⟨v, hv, hl _ _ hr⟩ }
theorem lk_setv {d : Option Nat} {v : Option TV} {tm : List (Nat × TV)} {t : Nat} {y : TV} (h : lk t (setv d v tm) = some y) : (d = some t ∧ v = some y) ∨ (d ≠ some t ∧ lk t tm = some y) := by
  cases d with
  | none => exact .inr ⟨by simp, h⟩
  | some d =>
    cases v with
    | none =>
      simp only [setv] at h
      rw [lk_del] at h
      split at h
      · cases h
      · rename_i e; exact .inr ⟨fun e2 => e (Option.some.inj e2).symm, h⟩
    | some v =>
      simp only [setv] at h
      rw [lk_put] at h
      split at h
      · rename_i e; exact .inl ⟨by rw [e], h⟩
      · rename_i e; exact .inr ⟨fun e2 => e (Option.some.inj e2).symm, h⟩
theorem setv_lk {d : Option Nat} {v : Option TV} {tm : List (Nat × TV)} {t : Nat} {y : TV} (h : (d = some t ∧ v = some y) ∨ (d ≠ some t ∧ lk t tm = some y)) : lk t (setv d v tm) = some y := by
  rcases h with ⟨rfl, rfl⟩ | ⟨h1, h2⟩
  · simp only [setv]; rw [lk_put_self]
  · cases d with
    | none => exact h2
    | some d =>
      have : t ≠ d := fun e => h1 (by rw [e])
      cases v with
      | none => simp only [setv]; rw [lk_del, if_neg this]; exact h2
      | some v => simp only [setv]; rw [lk_put_ne _ _ this]; exact h2
theorem DoLD.gOn {p : Prop} {v : Option TV} {ef : Eff} (md : Bool) (lab : Nat) (hg : o.guard = some (j, want)) (hgo : gOf ops st.tm j want = some true) (ts : List Nat) (hts : ∀ t ∈ ts, t ∈ rdOf ops o) (ht : tests ts st.tm)
    (hE : stepE P G nt md ops lab (unw ts st.tm) (fun j => lk j st.ob) { o with guard := none } = some ⟨p, v, ef⟩) (hp : p) (hf : ef.isNew = true → st0.free lab = true) (hfr : ef.fresh lab = true) (hef : efOk (boxes st0.ob) ef = true)
    (next : runsD P G nt md ops st0 Q (lab + 1) l (acc ++ [Tr.sm ⟨o.dst, v, ef, lab, usOf (boxes st0.ob) (unw ts st.tm) o.op⟩]) (Tr.app ⟨o.dst, v, ef, lab, usOf (boxes st0.ob) (unw ts st.tm) o.op⟩ st)) : DoLD P G nt ops st0 Q (o :: l) acc st := by
  have h : OpOk P G nt ops (boxes st0.ob) o st ⟨o.dst, v, ef, lab, usOf (boxes st0.ob) (unw ts st.tm) o.op⟩ := by
    refine ⟨rfl, fun cx a W m S hn hB hrd hus hfree hr Q' K hK => ?_⟩
    rw [gOf_spec hr ((gOf_congr hg hrd).trans hgo) hg, if_pos rfl]
    have htsS : tests ts S.tm := by rw [tests_congr fun t h => hrd t (hts t h)]; exact ht
    have hr2 := hr.unw htsS
    have hsub : ∀ x ∈ rdOf ops { o with guard := none }, x ∈ rdOf ops o := fun x hx => by
      unfold rdOf at hx ⊢
      simp only [List.mem_append] at hx ⊢
      rcases hx with hx | hx
      · exact .inl hx
      · simp at hx
    have h0 := (opOk_step (ops := ops) (st := ⟨unw ts st.tm, st.ob⟩) (o := { o with guard := none }) hE hp hfr (boxes st0.ob)).2 cx a W m ⟨unw ts S.tm, S.ob⟩ hn hB (fun x hx => by
      show lk x (unw ts S.tm) = lk x (unw ts st.tm)
      rw [lk_unw, lk_unw, hrd x (hsub x hx)]) hus (fun e => free_unw ts (hfree e)) hr2 Q' K (fun a' W' hr' => hK a' W' (by
        obtain ⟨m', hr'⟩ := hr'
        refine ⟨m', RelM.less hr' fun t y hy => ?_⟩
        rcases lk_setv hy with ⟨e1, e2⟩ | ⟨e1, e2⟩
        · exact ⟨y, setv_lk (.inl ⟨e1, e2⟩), fun _ _ h => h⟩
        · cases y with
          | gd c x =>
            by_cases hm : t ∈ ts
            · have hc := tests_spec htsS e2 hm
              refine ⟨x, setv_lk (.inr ⟨e1, ?_⟩), fun E u hu => ⟨fun _ => hu, fun e => by rw [hc] at e; cases e⟩⟩
              show lk t (unw ts S.tm) = some x
              rw [lk_unw, e2]; simp [hm]
            · refine ⟨.gd c x, setv_lk (.inr ⟨e1, ?_⟩), fun _ _ h => h⟩
              show lk t (unw ts S.tm) = _
              rw [lk_unw, e2]; simp [hm]
          | _ =>
            refine ⟨_, setv_lk (.inr ⟨e1, ?_⟩), fun _ _ h => h⟩
            show lk t (unw ts S.tm) = _
            rw [lk_unw, e2]; rfl))
    rw [wanted_none rfl, if_pos rfl] at h0
    exact h0
  refine DoLD.cons h (fun l hl => ?_) hef (DoLD.run next)
  simp only [Tr.nw] at hl
  split at hl
  · rename_i e; injection hl with hl; subst hl; exact hf e
  · cases hl
end
end Go.Proofs.YtdaecibpkhcllaaGreatDoor
/- A float as a rational number; Holds. No condition. -/
namespace Go.Proofs.YtdaecibpkhcllaaGreatDoor
set_option linter.unusedVariables false
set_option linter.unusedSimpArgs false
set_option maxHeartbeats 4000000
set_option maxRecDepth 10000
theorem tz_half {v : Nat} (h : 0 < v) : v / 2 ^ tz v % 2 = 1 := by
  obtain ⟨c, hc⟩ := tz_form h
  have : v / 2 ^ tz v = 2 * c + 1 := by
    conv => lhs; rw [hc]
    rw [tz_odd]
    exact Nat.mul_div_cancel_left _ (Nat.pow_pos (by decide))
  omega
theorem FRat {G : Gl} {x : Fla} (hx : Rt x) {K : Nat} (hK : K ≤ 8000000) (he : x.k = 1 → -(K : Int) ≤ x.e) : ∃ z d, Does Tryz.prog G 38 [Fl x.k x.n x.e x.m] (.v (Qv z d)) ∧ Dq K z d (fv (-K) x.flt) := by
  have hlen := hx.len
  by_cases hk : x.k = 1
  · have hc := canon_one hx.can hk
    have hv : 0 < val x.m := by have : x.flt.v ≠ 0 := hc.2.2; exact Nat.pos_of_ne_zero this
    have hc1 : -1048576 ≤ x.e := hc.1
    have hc2 : x.e + tz (val x.m) ≤ 1048576 := hc.2.1
    have hkk := he hk
    have ho := @odd_does G x.k x.e x.n x.m (by omega) hx.ws hx.md
    have hbv : bl (val x.m) ≤ 262144 := by have := bl_le_ws hx.ws; omega
    have hbv2 : bl (val x.m / 2 ^ tz (val x.m)) ≤ 262144 := Nat.le_trans (bl_mono (Nat.div_le_self _ _)) hbv
    obtain ⟨f1, f2⟩ := @Dq.float K x.n (val x.m / 2 ^ tz (val x.m)) (x.e + tz (val x.m)) (tz_half hv) (by omega)
    have hfv : fv (-K) ⟨1, x.n, x.e + tz (val x.m), val x.m / 2 ^ tz (val x.m)⟩ = fv (-K) x.flt := by
      have := @fv_rcan x.flt (-(K : Int)) (fun _ => hkk)
      rw [← this]
      unfold rcanon
      rw [if_pos (show x.flt.k = 1 from hk)]
      rfl
    rw [hfv] at f1 f2
    generalize val x.m / 2 ^ tz (val x.m) = v at *
    generalize hE : x.e + tz (val x.m) = E at *
    by_cases h0 : E < 0
    · refine ⟨_, _, ?_, f1 h0⟩
      have i1 := @IvMake G x.n v (by omega)
      have i2 := @RWord_does G 1 (by decide)
      have i3 := @RLeft_does G (nat 1) (-E).toNat (by rw [nat_one]; decide) (nat_ws _) (by omega)
      rw [val_nat, Nat.one_mul, show (((-E).toNat : Nat) : Int) = -E by omega] at i3
      generalize sgn x.n v = z at *
      generalize 2 ^ (-E).toNat = d at *
      refine Does.of (nt := 32) Tryz.func38 rfl rfl rfl (by simp) ?_
      simp only [argTm, PV.ext, Ce.ext]
      refine Do.seqk fun _ k1_ => ?_
      refine Do.region [1,2] true ?_
      simp [go_sem]
      apply k1_; clear k1_
      refine Do.seqk fun _ k2_ => ?_
      refine Do.seqk fun _ k3_ => ?_
      refine Do.region [1,2,7] true ?_
      simp [go_sem]
      repeat (refine And.intro (by first | omega | (intros; omega) | (intros; exact And.intro (by assumption) (by omega)) | grind) ?_)
      apply k3_; clear k3_
      refine Do.cond [1,2] rfl (fun h1 => ?_) (fun h1 => ?_) <;> simp [go_sem] at h1 ⊢
      · exact absurd hk h1
      · refine Do.skip ?_
        simp [go_sem]
        apply k2_; clear k2_
        refine Do.seqk fun _ k4_ => ?_
        refine Do.region [1,2,3,4] true ?_
        simp [go_sem]
        repeat (refine And.intro (by first | omega | (intros; omega) | (intros; exact And.intro (by assumption) (by omega)) | grind) ?_)
        refine DoL.call true 302 rfl rfl rfl rfl (by first | exact trivial | omega | (simp; done) | (simp; omega)) (ho) rfl (by first | exact .inl rfl | exact .inr rfl) rfl ?_
        simp [go_sem]
        apply k4_; clear k4_
        refine Do.seqk fun _ k5_ => ?_
        refine Do.seqk fun _ k6_ => ?_
        refine Do.region [1,2,3,4,15] true ?_
        simp [go_sem]
        apply k6_; clear k6_
        refine Do.cond [1,2,3,4] rfl (fun h2 => ?_) (fun h2 => ?_) <;> simp [go_sem] at h2 ⊢
        · refine Do.seqk fun _ k7_ => ?_
          refine Do.region [2] true ?_
          simp [go_sem]
          repeat (refine And.intro (by first | omega | (intros; omega) | (intros; exact And.intro (by assumption) (by omega)) | grind) ?_)
          refine DoL.call true 504 rfl rfl rfl rfl (by first | exact trivial | omega | (simp; done) | (simp; omega)) (i1) rfl (by first | exact .inl rfl | exact .inr rfl) rfl ?_
          simp [go_sem]
          refine DoL.call true 505 rfl rfl rfl rfl (by first | exact trivial | omega | (simp; done) | (simp; omega)) (i2) rfl (by first | exact .inl rfl | exact .inr rfl) rfl ?_
          simp [go_sem]
          repeat (refine And.intro (by first | omega | (intros; omega) | (intros; exact And.intro (by assumption) (by omega)) | grind) ?_)
          refine DoL.call true 508 rfl rfl rfl rfl (by first | exact trivial | omega | (simp; done) | (simp; omega)) (i3) rfl (by first | exact .inl rfl | exact .inr rfl) rfl ?_
          simp [go_sem]
          repeat (refine And.intro (by first | omega | (intros; omega) | (intros; exact And.intro (by assumption) (by omega)) | grind) ?_)
          apply k7_; clear k7_
          refine Do.ret ?_
          simp [endQ, rets, ret1, go_sem]
          repeat (refine And.intro (by first | omega | (intros; omega) | (intros; exact And.intro (by assumption) (by omega)) | grind) ?_)
          exact TLe.v (PLe.qv rfl (PLe.refl _) (PLe.ext (.c (.w true _))))
        · omega
    · refine ⟨_, _, ?_, f2 (by omega)⟩
      have hbl : bl (v * 2 ^ E.toNat) ≤ 2000000 := by
        have := bl_mulN v (2 ^ E.toNat)
        have h3 : bl (2 ^ E.toNat) ≤ E.toNat + 1 := by rw [bl_lt]; exact Nat.pow_lt_pow_right (by decide) (by omega)
        omega
      have i3 := @RLeft_does G (nat v) E.toNat (by have := len_bl hbv2; omega) (nat_ws _) (by omega)
      rw [val_nat, show ((E.toNat : Nat) : Int) = E by omega] at i3
      have i1 := @IvMake G x.n (v * 2 ^ E.toNat) (by omega)
      have i4 := @QWhole G (sgn x.n (v * 2 ^ E.toNat)) (by unfold Bz; rw [sgn_abs]; omega)
      generalize sgn x.n (v * 2 ^ E.toNat) = z at *
      generalize v * 2 ^ E.toNat = d at *
      refine Does.of (nt := 32) Tryz.func38 rfl rfl rfl (by simp) ?_
      simp only [argTm, PV.ext, Ce.ext]
      refine Do.seqk fun _ k1_ => ?_
      refine Do.region [1,2] true ?_
      simp [go_sem]
      apply k1_; clear k1_
      refine Do.seqk fun _ k2_ => ?_
      refine Do.seqk fun _ k3_ => ?_
      refine Do.region [1,2,7] true ?_
      simp [go_sem]
      repeat (refine And.intro (by first | omega | (intros; omega) | (intros; exact And.intro (by assumption) (by omega)) | grind) ?_)
      apply k3_; clear k3_
      refine Do.cond [1,2] rfl (fun h1 => ?_) (fun h1 => ?_) <;> simp [go_sem] at h1 ⊢
      · exact absurd hk h1
      · refine Do.skip ?_
        simp [go_sem]
        apply k2_; clear k2_
        refine Do.seqk fun _ k4_ => ?_
        refine Do.region [1,2,3,4] true ?_
        simp [go_sem]
        repeat (refine And.intro (by first | omega | (intros; omega) | (intros; exact And.intro (by assumption) (by omega)) | grind) ?_)
        refine DoL.call true 302 rfl rfl rfl rfl (by first | exact trivial | omega | (simp; done) | (simp; omega)) (ho) rfl (by first | exact .inl rfl | exact .inr rfl) rfl ?_
        simp [go_sem]
        apply k4_; clear k4_
        refine Do.seqk fun _ k5_ => ?_
        refine Do.seqk fun _ k6_ => ?_
        refine Do.region [1,2,3,4,15] true ?_
        simp [go_sem]
        apply k6_; clear k6_
        refine Do.cond [1,2,3,4] rfl (fun h2 => ?_) (fun h2 => ?_) <;> simp [go_sem] at h2 ⊢
        · omega
        · refine Do.skip ?_
          simp [go_sem]
          apply k5_; clear k5_
          refine Do.seqk fun _ k7_ => ?_
          refine Do.draw [2] true (by kernel_rfl) ?_
          simp [go_sem]
          repeat (refine And.intro (by first | omega | (intros; omega) | (intros; exact And.intro (by assumption) (by omega)) | kernel_rfl | grind) ?_)
          refine DoLD.call true 605 rfl rfl rfl rfl (by first | exact trivial | omega | (simp; done) | (simp; omega)) (i3) rfl (by first | exact .inl rfl | exact .inr rfl) rfl ?_
          simp [go_sem]
          refine DoLD.call true 606 rfl rfl rfl rfl (by first | exact trivial | omega | (simp; done) | (simp; omega)) (i1) rfl (by first | exact .inl rfl | exact .inr rfl) rfl ?_
          simp [go_sem]
          refine DoLD.call true 607 rfl rfl rfl rfl (by first | exact trivial | omega | (simp; done) | (simp; omega)) (i4) rfl (by first | exact .inl rfl | exact .inr rfl) rfl ?_
          simp [go_sem]
          repeat (refine And.intro (by first | omega | (intros; omega) | (intros; exact And.intro (by assumption) (by omega)) | kernel_rfl | grind) ?_)
          try (refine And.intro (by kernel_rfl) ?_)
          apply k7_; clear k7_
          refine Do.ret ?_
          simp [endQ, rets, ret1, go_sem]
          repeat (refine And.intro (by first | omega | (intros; omega) | (intros; exact And.intro (by assumption) (by omega)) | grind) ?_)
          exact TLe.refl _
  · have i1 : Does Tryz.prog G 43 [.c (.i .i64 0), .c (.i .i64 1)] (.v (Qv 0 1)) := @QFrom G 0 (by decide)
    have hz : fv (-K) x.flt = 0 := by unfold fv; rw [if_neg (show ¬ x.flt.k = 1 from hk)]
    rw [hz]
    refine ⟨0, 1, ?_, Dq.zero K⟩
    refine Does.of (nt := 32) Tryz.func38 rfl rfl rfl (by simp) ?_
    simp only [argTm, PV.ext, Ce.ext]
    refine Do.seqk fun _ k1_ => ?_
    refine Do.region [1,2] true ?_
    simp [go_sem]
    apply k1_; clear k1_
    refine Do.seqk fun _ k2_ => ?_
    refine Do.seqk fun _ k3_ => ?_
    refine Do.region [1,2,7] true ?_
    simp [go_sem]
    repeat (refine And.intro (by first | omega | (intros; omega) | (intros; exact And.intro (by assumption) (by omega)) | grind) ?_)
    apply k3_; clear k3_
    refine Do.cond [1,2] rfl (fun h1 => ?_) (fun h1 => ?_) <;> simp [go_sem] at h1 ⊢
    · refine Do.seqk fun _ k4_ => ?_
      refine Do.region [2] true ?_
      simp [go_sem]
      refine DoL.call true 201 rfl rfl rfl rfl (by first | exact trivial | omega | (simp; done) | (simp; omega)) (i1) rfl (by first | exact .inl rfl | exact .inr rfl) rfl ?_
      simp [go_sem]
      repeat (refine And.intro (by first | omega | (intros; omega) | (intros; exact And.intro (by assumption) (by omega)) | grind) ?_)
      apply k4_; clear k4_
      refine Do.ret ?_
      simp [endQ, rets, ret1, go_sem]
      repeat (refine And.intro (by first | omega | (intros; omega) | (intros; exact And.intro (by assumption) (by omega)) | grind) ?_)
      exact TLe.refl _
    · exact absurd (by omega) hk
theorem Holds_ok {f p : Int} {x : Fla} (hf : fmOk f p = true) (hx : x.Ok) (hl : x.m.length ≤ 4096) (h : (holdsP f p x.flt).2 = true) : Does Tryz.prog Gv 36 [Fm f p, Fl x.k x.n x.e x.m] (.v (.c (.i .i64 0))) := by
  have hO := @Floats_own f p [x] (by simp) (by simpa using hl) hf (by simpa using hx) (by simpa [allHold] using h)
  have hD : Does Tryz.prog Gv 84 [Fm f p, .s false [x.cs]] (.t [.s true ((heldL f p [x]).map Flt.cs), .c (.i .i64 0)]) := hO.does rfl (by simp)
  generalize (heldL f p [x]).map Flt.cs = rows at *
  refine Does.of (nt := 15) Tryz.func36 rfl rfl rfl (by simp) ?_
  simp only [argTm, PV.ext, Ce.ext]
  refine Do.seqk fun _ k1_ => ?_
  refine Do.region [2,3] true ?_
  simp [go_sem]
  apply k1_; clear k1_
  refine Do.seqk fun _ k2_ => ?_
  refine Do.region [6] true ?_
  simp [go_sem]
  repeat (refine And.intro (by first | omega | (intros; omega) | (intros; exact And.intro (by assumption) (by omega)) | grind) ?_)
  refine DoL.sealS true 103 102 rfl ?_
  simp [go_sem]
  refine DoL.call true 104 rfl rfl rfl rfl (by first | exact trivial | omega | (simp; done) | (simp; omega)) (hD) rfl (by first | exact .inl rfl | exact .inr rfl) rfl ?_
  simp [go_sem]
  apply k2_; clear k2_
  refine Do.seqk fun _ k3_ => ?_
  refine Do.region [4] true ?_
  simp [go_sem]
  apply k3_; clear k3_
  refine Do.ret ?_
  simp [endQ, rets, ret1, go_sem]
  repeat (refine And.intro (by first | omega | (intros; omega) | (intros; exact And.intro (by assumption) (by omega)) | grind) ?_)
  exact TLe.refl _
theorem Holds_flt {f p : Int} {x : Flt} (hf : fmOk f p = true) (hx : Fine x) (h : (holdsP f p x).2 = true) : Does Tryz.prog Gv 36 [Fm f p, x.pv] (.v (.c (.i .i64 0))) :=
  @Holds_ok f p x.fla hf ⟨hx.sh, nat_ws _, hx.e⟩ (by have := len_bl hx.v; show (nat x.v).length ≤ 4096; omega) (by rw [Flt.fla_flt]; exact h)
theorem Fine.rt {x : Flt} (hx : Fine x) : Rt x.fla := ⟨by rw [Flt.fla_flt]; exact hx.can, nat_ws _, by have := len_bl hx.v; show (nat x.v).length ≤ 4096; omega⟩
theorem restP_held {f p : Int} (hf : fmOk f p = true) {D : Int} (h : ∃ d k, OfF f p (tiny f p) D d k) : (holdsP f p (restP (tiny f p) D)).2 = true := by
  rw [← inP_good (restP_fine hf (Int.le_refl _) h).can]
  obtain ⟨d, k, h⟩ := h
  refine (@inP_flags f p hf (tiny f p) D ⟨decide (D < 0), D.natAbs, tiny f p⟩ (Int.le_refl _) (sv_abs _ _)).2 ?_
  rw [round_exact hf (Int.le_refl _) h]
theorem restP_fv {z D : Int} {K : Nat} (hK : -(K : Int) ≤ z) : fv (-K) (restP z D) = D * ((2 ^ (z + K).toNat : Nat) : Int) := by
  unfold restP
  split
  · rename_i h; subst h; simp [fv]
  · rw [fv_rcan (x := ⟨1, decide (D < 0), z, D.natAbs⟩) (fun _ => hK)]
    unfold fv Nu.sv
    simp only [if_true]
    rw [show (z - -(K : Int)).toNat = (z + K).toNat by omega]
    by_cases hD : D < 0
    · simp only [hD, decide_true, if_true]
      rw [Int.natCast_mul, ← Int.neg_mul]
      congr 1; omega
    · simp only [hD, decide_false, Bool.false_eq_true, if_false]
      rw [Int.natCast_mul]
      congr 1; omega
/-- A number in finer units. -/
theorem fv_fine {x : Flt} {z : Int} {K : Nat} (hK : -(K : Int) ≤ z) (hz : x.k = 1 → z ≤ x.e) : fv (-K) x = fv z x * ((2 ^ (z + K).toNat : Nat) : Int) := by
  unfold fv
  split
  · rename_i hk
    have h1 := hz hk
    unfold Nu.sv
    simp only []
    have h2 : x.v * 2 ^ (x.e - -(K : Int)).toNat = x.v * 2 ^ (x.e - z).toNat * 2 ^ (z + K).toNat := by
      rw [Nat.mul_assoc, ← Nat.pow_add]
      congr 2; omega
    rw [h2]
    split
    · rw [Int.natCast_mul (x.v * 2 ^ (x.e - z).toNat), Int.neg_mul]
    · rw [Int.natCast_mul (x.v * 2 ^ (x.e - z).toNat)]
  · simp
end Go.Proofs.YtdaecibpkhcllaaGreatDoor
/- What the floats of a pair add up to, plain. No condition. -/
namespace Go.Proofs.YtdaecibpkhcllaaGreatDoor
set_option linter.unusedVariables false
set_option linter.unusedSimpArgs false
set_option maxHeartbeats 4000000
set_option maxRecDepth 10000
theorem fv_bits {x : Flt} {K : Nat} (h : x.k = 1 → x.e ≤ 1048576) : bl (fv (-K) x).natAbs ≤ bl x.v + (1048577 + K) := by
  unfold fv
  split
  · rename_i hk
    have h1 := h hk
    have e : (Nu.sv (-(K : Int)) ⟨x.n, x.v, x.e⟩).natAbs = x.v * 2 ^ (x.e - -(K : Int)).toNat := by
      unfold Nu.sv
      simp only []
      generalize x.v * 2 ^ (x.e - -(K : Int)).toNat = u
      split <;> omega
    rw [e]
    have h2 := bl_mulN x.v (2 ^ (x.e - -(K : Int)).toNat)
    have h3 : bl (2 ^ (x.e - -(K : Int)).toNat) ≤ (x.e - -(K : Int)).toNat + 1 := by rw [bl_lt]; exact Nat.pow_lt_pow_right (by decide) (by omega)
    omega
  · rw [Int.natAbs_zero, bl_zero]; omega
theorem pair_eq {f p : Int} {a b s : Flt} {K : Nat} (hK : -(K : Int) ≤ tiny f p) (la : a.k = 1 → tiny f p ≤ a.e) (lb : b.k = 1 → tiny f p ≤ b.e) (ls : s.k = 1 → tiny f p ≤ s.e) : fv (-K) s + fv (-K) (restP (tiny f p) (leftP f p a b s)) = fv (-K) a + fv (-K) b := by
  rw [restP_fv hK, fv_fine hK la, fv_fine hK lb, fv_fine hK ls, leftP]
  generalize ((2 ^ (tiny f p + K).toNat : Nat) : Int) = P
  rw [Int.sub_mul, Int.add_mul]; omega
/-- A right float as a rational number. -/
theorem FRatK {G : Gl} {x : Fla} (hx : Rt x) : ∃ z d, Does Tryz.prog G 38 [Fl x.k x.n x.e x.m] (.v (Qv z d)) ∧ Dq 1048576 z d (fv (-(1048576 : Nat)) x.flt) ∧ bl (fv (-(1048576 : Nat)) x.flt).natAbs ≤ 2400000 := by
  obtain ⟨z, d, h1, h2⟩ := @FRat G x hx 1048576 (by decide) (fun hk => (canon_one hx.can hk).1)
  refine ⟨z, d, h1, h2, ?_⟩
  have hb := @fv_bits x.flt 1048576 (fun hk => by have := canon_one hx.can hk; omega)
  have h3 := bl_le_ws hx.ws
  have h4 := hx.len
  have h5 : x.flt.v = val x.m := rfl
  rw [h5] at hb
  omega
end Go.Proofs.YtdaecibpkhcllaaGreatDoor
/- The law SumError. No condition. -/
namespace Go.Proofs.YtdaecibpkhcllaaGreatDoor
set_option linter.unusedVariables false
set_option linter.unusedSimpArgs false
set_option maxHeartbeats 8000000
set_option maxRecDepth 10000
theorem restP_kind (z D : Int) : (restP z D).k = 0 ∨ (restP z D).k = 1 := by
  unfold restP
  split
  · exact .inl rfl
  · rw [rcanon_k]; exact .inr rfl
theorem Same_same {x : Flt} (hx : Fine x) : Does Tryz.prog Gv 35 [x.pv, x.pv] (.v (.c (.b true))) := by
  have h := @Same_does x.k x.n x.e (nat x.v) x.k x.n x.e (nat x.v) hx.sh (nat_ws _) hx.e hx.sh (nat_ws _) hx.e
  rw [val_nat] at h
  have hs : sameP ⟨x.k, x.n, x.e, x.v⟩ ⟨x.k, x.n, x.e, x.v⟩ = true := by
    have h2 : (canon ⟨x.k, x.n, x.e, x.v⟩).2 = true := hx.can
    unfold sameP
    rw [h2]; simp
  rwa [hs] at h
theorem SumError_does {f p : Int} {x y : Fla} (hx : Ws x.m) (ex : I64 x.e) (hy : Ws y.m) (ey : I64 y.e) : Does Tryz.prog Gv 8 [Fm f p, Fl x.k x.n x.e x.m, Fl y.k y.n y.e y.m] (.v (.c (.b true))) := by
  have hS : Does Tryz.prog Gv 10 [.s false [x.cs, y.cs]] (.v (.c (.b (shortP [x, y])))) := Short15_does (l := [x, y]) (by simp)
  cases hs : shortP [x, y] with
  | false =>
    rw [hs] at hS
    refine Does.of (nt := 106) Tryz.func8 rfl rfl rfl (by simp) ?_
    simp only [argTm, PV.ext, Ce.ext]
    refine Do.seqk fun _ k1_ => ?_
    refine Do.region [3,4,5] true ?_
    simp [go_sem]
    apply k1_; clear k1_
    refine Do.seqk fun _ k2_ => ?_
    refine Do.seqk fun _ k3_ => ?_
    refine Do.draw [3,4,5,29] true (by kernel_rfl) ?_
    simp [go_sem]
    repeat (refine And.intro (by first | omega | (intros; omega) | (intros; exact And.intro (by assumption) (by omega)) | kernel_rfl | grind) ?_)
    refine DoLD.call true 104 rfl rfl rfl rfl (by first | exact trivial | omega | (simp; done) | (simp; omega)) (hS) rfl (by first | exact .inl rfl | exact .inr rfl) rfl ?_
    simp [go_sem]
    repeat (refine And.intro (by first | omega | (intros; omega) | (intros; exact And.intro (by assumption) (by omega)) | kernel_rfl | grind) ?_)
    refine DoLD.gOff true 108 rfl rfl (.v (Fm f p)) rfl rfl ?_
    simp [go_sem]
    repeat (refine And.intro (by first | omega | (intros; omega) | (intros; exact And.intro (by assumption) (by omega)) | kernel_rfl | grind) ?_)
    refine DoLD.gOff true 110 rfl rfl (.v (Fl 0 false 0 [])) rfl rfl ?_
    simp [go_sem]
    repeat (refine And.intro (by first | omega | (intros; omega) | (intros; exact And.intro (by assumption) (by omega)) | kernel_rfl | grind) ?_)
    refine DoLD.gOff true 112 rfl rfl (.v (Fl 0 false 0 [])) rfl rfl ?_
    simp [go_sem]
    refine DoLD.gOff true 112 rfl rfl (.v (.s true [x.cs, y.cs])) rfl rfl ?_
    simp [go_sem]
    refine DoLD.gOff true 114 rfl rfl (.int .i64 0) rfl rfl ?_
    simp [go_sem]
    try (refine And.intro (by kernel_rfl) ?_)
    apply k3_; clear k3_
    refine Do.cond [3,4,5] rfl (fun h => ?_) (fun h => ?_) <;> simp [go_sem] at h ⊢
    refine Do.seqk fun _ k4_ => ?_
    refine Do.region [6] true ?_
    simp [go_sem]
    refine DoL.call true 201 rfl rfl rfl rfl (by first | exact trivial | omega | (simp; done) | (simp; omega)) (awake_does) rfl (by first | exact .inl rfl | exact .inr rfl) rfl ?_
    simp [go_sem]
    apply k4_; clear k4_
    refine Do.ret ?_
    simp [endQ, rets, ret1, go_sem]
    repeat (refine And.intro (by first | omega | (intros; omega) | (intros; exact And.intro (by assumption) (by omega)) | grind) ?_)
    exact TLe.refl _
  | true =>
    rw [hs] at hS
    have hsx : x.m.length ≤ 40 ∧ y.m.length ≤ 40 := by simpa [shortP] using hs
    have ox : x.Ok := ⟨by simp [Sh]; omega, hx, ex⟩
    have oy : y.Ok := ⟨by simp [Sh]; omega, hy, ey⟩
    have ho : ∀ u ∈ [x, y], u.Ok := by simp [ox, oy]
    have hC : Does Tryz.prog Gv 23 [Fm f p, .s false [x.cs, y.cs]] (.int .i64 (argsE f p 0 false [x, y])) := @RCheck_does Gv f p [x, y] (by simp) ho
    by_cases he : argsE f p 0 false [x, y] = 0
    · obtain ⟨h1, h2, h3, h4, h5, h6⟩ := argsE_zero he
      have hrt := held_rt h6 ho h1
      have hhx : (holdsP f p x.flt).2 = true := by simpa using List.all_eq_true.1 h6 x (by simp)
      have hhy : (holdsP f p y.flt).2 = true := by simpa using List.all_eq_true.1 h6 y (by simp)
      have oa := held_ofF h5 hhx
      have ob := held_ofF h5 hhy
      have la := @held_low f p x.flt hhx
      have lb := @held_low f p y.flt hhy
      have ca := (held_rcanon hhx).1
      have cb := (held_rcanon hhy).1
      have hP := fun s => @SPair_does f p x y ox oy he _ _ s rfl rfl
      have hT := SAdd_does (f := f) (p := p) (r := 0) ox oy
      have hTe : totalP f p 0 [x, y] = (((gatherP [(holdsP f p x.flt).1, (holdsP f p y.flt).1]).float f p 0).1, ((gatherP [(holdsP f p x.flt).1, (holdsP f p y.flt).1]).float f p 0).2, 0) := by
        rw [totalP, if_pos (show argsE f p 0 (decide ((1000 : Int) < [x, y].length)) [x, y] = 0 from he)]; rfl
      rw [hTe] at hT
      rw [he] at hC
      obtain ⟨zx, dx, rx1, rx2, rx3⟩ := @FRatK Gv x (hrt x (by simp))
      obtain ⟨zy, dy, ry1, ry2, ry3⟩ := @FRatK Gv y (hrt y (by simp))
      have fx : fv (-(1048576 : Nat)) x.flt = fv (-(1048576 : Nat)) (holdsP f p x.flt).1 := by
        rw [← ca]; exact (@fv_rcan x.flt (-(1048576 : Nat)) (fun hk => (canon_one (hrt x (by simp)).can hk).1)).symm
      have fy : fv (-(1048576 : Nat)) y.flt = fv (-(1048576 : Nat)) (holdsP f p y.flt).1 := by
        rw [← cb]; exact (@fv_rcan y.flt (-(1048576 : Nat)) (fun hk => (canon_one (hrt y (by simp)).can hk).1)).symm
      rw [fx] at rx2 rx3
      rw [fy] at ry2 ry3
      clear hTe fx fy ca cb
      generalize (holdsP f p x.flt).1 = a at *
      generalize (holdsP f p y.flt).1 = b at *
      have hL : ∀ u ∈ [a, b], u.k = 1 → tiny f p ≤ u.e := by simp only [List.mem_cons, List.not_mem_nil, or_false, forall_eq_or_imp, forall_eq]; exact ⟨la, lb⟩
      have hleft := @pair_left f p h5 a b oa ob hL
      have hsf := @float_fine f p 0 h5 (gatherP [a, b])
      have hslow := @float_low f p h5 [a, b] hL
      have hP := hP _ rfl
      have hkinds : ((gatherP [a, b]).float f p 0).1.k = 0 ∨ ((gatherP [a, b]).float f p 0).1.k = 1 ∨ ((gatherP [a, b]).float f p 0).1.k = 2 ∨ ((gatherP [a, b]).float f p 0).1.k = 3 := (canon_kind hsf.can).1
      generalize ((gatherP [a, b]).float f p 0).2 = fl at *
      generalize ((gatherP [a, b]).float f p 0).1 = s at *
      have hT : Does Tryz.prog Gv 12 [Fm f p, .c (.i .i64 0), Fl x.k x.n x.e x.m, Fl y.k y.n y.e y.m] (.t [s.pv, .c (.i .i64 fl), .c (.i .i64 0)]) := hT
      by_cases hk : s.k = 0 ∨ s.k = 1
      · have hP := hP.1 hk
        have hkn : ¬ s.k = 2 ∧ ¬ s.k = 3 := by omega
        obtain ⟨zs, ds, rs1, rs2, rs3⟩ := @FRatK Gv s.fla hsf.rt
        have htf := restP_fine h5 (Int.le_refl _) (hleft hk)
        have hth := restP_held h5 (hleft hk)
        have htk := restP_kind (tiny f p) (leftP f p a b s)
        obtain ⟨zt, dt, rt1, rt2, rt3⟩ := @FRatK Gv _ htf.rt
        rw [Flt.fla_flt] at rs2 rs3 rt2 rt3
        obtain ⟨t0, t1⟩ := tiny_le h5
        have heq := @pair_eq f p a b s 1048576 (by omega) la lb hslow
        have hH := @Holds_flt f p _ h5 htf hth
        have hSame := Same_same hsf
        generalize restP (tiny f p) (leftP f p a b s) = u at *
        have hun : ¬ u.k = 2 ∧ ¬ u.k = 3 := by omega
        obtain ⟨z1, d1, A1, A2⟩ := @QAdd Gv _ _ _ _ _ _ _ rx2 ry2 (by decide) (by omega) (by omega)
        obtain ⟨z2, d2, A3, A4⟩ := @QAdd Gv _ _ _ _ _ _ _ rs2 rt2 (by decide) (by omega) (by omega)
        have b1 := bl_addz (fv (-(1048576 : Nat)) a) (fv (-(1048576 : Nat)) b)
        have b2 := bl_addz (fv (-(1048576 : Nat)) s) (fv (-(1048576 : Nat)) u)
        have hCmp := @QCmp Gv _ _ _ _ _ _ _ A4 A2 (by decide) (by omega) (by omega)
        rw [heq, Int.sub_self] at hCmp
        have hCmp : Does Tryz.prog Gv 39 [Qv z2 d2, Qv z1 d1] (.int .i64 0) := hCmp
        have rs1 : Does Tryz.prog Gv 38 [Fl s.k s.n s.e (nat s.v)] (.v (Qv zs ds)) := rs1
        have rt1 : Does Tryz.prog Gv 38 [Fl u.k u.n u.e (nat u.v)] (.v (Qv zt dt)) := rt1
        clear rx2 rx3 ry2 ry3 rs2 rs3 rt2 rt3 A2 A4 b1 b2 heq hleft hL
        refine Does.of (nt := 106) Tryz.func8 rfl rfl rfl (by simp) ?_
        simp only [argTm, PV.ext, Ce.ext]
        refine Do.seqk fun _ k1_ => ?_
        refine Do.region [3,4,5] true ?_
        simp [go_sem]
        apply k1_; clear k1_
        refine Do.seqk fun _ k2_ => ?_
        refine Do.seqk fun _ k3_ => ?_
        refine Do.draw [3,4,5,29] true (by kernel_rfl) ?_
        simp [go_sem]
        repeat (refine And.intro (by first | omega | (intros; omega) | (intros; exact And.intro (by assumption) (by omega)) | kernel_rfl | grind) ?_)
        refine DoLD.call true 104 rfl rfl rfl rfl (by first | exact trivial | omega | (simp; done) | (simp; omega)) (hS) rfl (by first | exact .inl rfl | exact .inr rfl) rfl ?_
        simp [go_sem]
        repeat (refine And.intro (by first | omega | (intros; omega) | (intros; exact And.intro (by assumption) (by omega)) | kernel_rfl | grind) ?_)
        refine DoLD.callg true 108 rfl rfl rfl rfl rfl (by simp [go_sem] <;> omega) (fun _ => Fmt_does) rfl (by first | exact .inl rfl | exact .inr rfl) rfl ?_
        simp [go_sem]
        repeat (refine And.intro (by first | omega | (intros; omega) | (intros; exact And.intro (by assumption) (by omega)) | kernel_rfl | grind) ?_)
        refine DoLD.callg true 110 rfl rfl rfl rfl rfl (by simp [go_sem] <;> omega) (fun _ => Their_does) rfl (by first | exact .inl rfl | exact .inr rfl) rfl ?_
        simp [go_sem]
        repeat (refine And.intro (by first | omega | (intros; omega) | (intros; exact And.intro (by assumption) (by omega)) | kernel_rfl | grind) ?_)
        refine DoLD.callg true 112 rfl rfl rfl rfl rfl (by simp [go_sem] <;> omega) (fun _ => Their_does) rfl (by first | exact .inl rfl | exact .inr rfl) rfl ?_
        simp [go_sem]
        refine DoLD.gOn true 112 rfl rfl [23, 25] (by decide) (by simp [go_sem]) rfl (show 0 < 4 ∧ 2 * 4 ≤ 16777216 by decide) (fun _ => rfl) rfl rfl ?_
        simp [go_sem]
        refine DoLD.callg true 114 rfl rfl rfl rfl rfl (by simp [go_sem] <;> omega) (fun _ => hC) rfl (by first | exact .inl rfl | exact .inr rfl) rfl ?_
        simp [go_sem]
        try (refine And.intro (by kernel_rfl) ?_)
        apply k3_; clear k3_
        refine Do.cond [3,4,5] rfl (fun h => ?_) (fun h => ?_) <;> simp [go_sem] at h ⊢
        refine Do.skip ?_
        simp [go_sem]
        apply k2_; clear k2_
        refine Do.seqk fun _ k4_ => ?_
        refine Do.region [3,4,5,7,9] true ?_
        simp [go_sem]
        repeat (refine And.intro (by first | omega | (intros; omega) | (intros; exact And.intro (by assumption) (by omega)) | grind) ?_)
        refine DoL.call true 304 rfl rfl rfl rfl (by first | exact trivial | omega | (simp; done) | (simp; omega)) (hT) rfl (by first | exact .inl rfl | exact .inr rfl) rfl ?_
        simp [go_sem]
        repeat (refine And.intro (by first | omega | (intros; omega) | (intros; exact And.intro (by assumption) (by omega)) | grind) ?_)
        apply k4_; clear k4_
        refine Do.seqk fun _ k5_ => ?_
        refine Do.region [3,4,5,7,9,10,11,12] true ?_
        simp [go_sem]
        repeat (refine And.intro (by first | omega | (intros; omega) | (intros; exact And.intro (by assumption) (by omega)) | grind) ?_)
        refine DoL.call true 404 rfl rfl rfl rfl (by first | exact trivial | omega | (simp; done) | (simp; omega)) (hP) rfl (by first | exact .inl rfl | exact .inr rfl) rfl ?_
        simp [go_sem]
        repeat (refine And.intro (by first | omega | (intros; omega) | (intros; exact And.intro (by assumption) (by omega)) | grind) ?_)
        apply k5_; clear k5_
        refine Do.seqk fun _ k6_ => ?_
        refine Do.seqk fun _ k7_ => ?_
        refine Do.region [3,4,5,7,10,11,12,48] true ?_
        simp [go_sem]
        apply k7_; clear k7_
        refine Do.cond [3,4,5,7,10,11,12] rfl (fun h => ?_) (fun h => ?_) <;> simp [go_sem] at h ⊢
        refine Do.skip ?_
        simp [go_sem]
        apply k6_; clear k6_
        refine Do.seqk fun _ k8_ => ?_
        refine Do.seqk fun _ k9_ => ?_
        refine Do.region [3,4,5,7,10,11,12,56] true ?_
        simp [go_sem, hkn, hun]
        repeat (refine And.intro (by first | omega | (intros; omega) | (intros; exact And.intro (by assumption) (by omega)) | grind) ?_)
        apply k9_; clear k9_
        refine Do.cond [3,4,5,7,10,11,12] rfl (fun h => ?_) (fun h => ?_) <;> simp [go_sem, hkn, hun] at h ⊢
        refine Do.skip ?_
        simp [go_sem]
        apply k8_; clear k8_
        refine Do.seqk fun _ k10_ => ?_
        refine Do.seqk fun _ k11_ => ?_
        refine Do.region [4,5,10,11,85] true ?_
        simp [go_sem, hkn, hun]
        repeat (refine And.intro (by first | omega | (intros; omega) | (intros; exact And.intro (by assumption) (by omega)) | grind) ?_)
        refine DoL.callg true 906 rfl rfl rfl rfl rfl (by simp [go_sem] <;> omega) (fun _ => hSame) rfl (by first | exact .inl rfl | exact .inr rfl) rfl ?_
        simp [go_sem, hkn, hun]
        repeat (refine And.intro (by first | omega | (intros; omega) | (intros; exact And.intro (by assumption) (by omega)) | grind) ?_)
        refine DoL.callg true 912 rfl rfl rfl rfl rfl (by simp [go_sem] <;> omega) (fun _ => hH) rfl (by first | exact .inl rfl | exact .inr rfl) rfl ?_
        simp [go_sem, hkn, hun]
        repeat (refine And.intro (by first | omega | (intros; omega) | (intros; exact And.intro (by assumption) (by omega)) | grind) ?_)
        apply k11_; clear k11_
        refine Do.cond [4,5,10,11] rfl (fun h => ?_) (fun h => ?_) <;> simp [go_sem, hkn, hun] at h ⊢
        refine Do.skip ?_
        simp [go_sem]
        apply k10_; clear k10_
        refine Do.seqk fun _ k12_ => ?_
        refine Do.draw [10,11,13] true (by kernel_rfl) ?_
        simp [go_sem, hkn, hun]
        repeat (refine And.intro (by first | omega | (intros; omega) | (intros; exact And.intro (by assumption) (by omega)) | kernel_rfl | grind) ?_)
        refine DoLD.call true 1102 rfl rfl rfl rfl (by first | exact trivial | omega | (simp; done) | (simp; omega)) (Their_does) rfl (by first | exact .inl rfl | exact .inr rfl) rfl ?_
        simp [go_sem, hkn, hun]
        refine DoLD.call true 1103 rfl rfl rfl rfl (by first | exact trivial | omega | (simp; done) | (simp; omega)) (rx1) rfl (by first | exact .inl rfl | exact .inr rfl) rfl ?_
        simp [go_sem, hkn, hun]
        repeat (refine And.intro (by first | omega | (intros; omega) | (intros; exact And.intro (by assumption) (by omega)) | kernel_rfl | grind) ?_)
        refine DoLD.call true 1105 rfl rfl rfl rfl (by first | exact trivial | omega | (simp; done) | (simp; omega)) (Their_does) rfl (by first | exact .inl rfl | exact .inr rfl) rfl ?_
        simp [go_sem, hkn, hun]
        refine DoLD.call true 1106 rfl rfl rfl rfl (by first | exact trivial | omega | (simp; done) | (simp; omega)) (ry1) rfl (by first | exact .inl rfl | exact .inr rfl) rfl ?_
        simp [go_sem, hkn, hun]
        refine DoLD.call true 1107 rfl rfl rfl rfl (by first | exact trivial | omega | (simp; done) | (simp; omega)) (A1) rfl (by first | exact .inl rfl | exact .inr rfl) rfl ?_
        simp [go_sem, hkn, hun]
        repeat (refine And.intro (by first | omega | (intros; omega) | (intros; exact And.intro (by assumption) (by omega)) | kernel_rfl | grind) ?_)
        try (refine And.intro (by kernel_rfl) ?_)
        apply k12_; clear k12_
        refine Do.seqk fun _ k13_ => ?_
        refine Do.draw [6] true (by kernel_rfl) ?_
        simp [go_sem, hkn, hun]
        repeat (refine And.intro (by first | omega | (intros; omega) | (intros; exact And.intro (by assumption) (by omega)) | kernel_rfl | grind) ?_)
        refine DoLD.call true 1202 rfl rfl rfl rfl (by first | exact trivial | omega | (simp; done) | (simp; omega)) (Their_does) rfl (by first | exact .inl rfl | exact .inr rfl) rfl ?_
        simp [go_sem, hkn, hun]
        refine DoLD.call true 1203 rfl rfl rfl rfl (by first | exact trivial | omega | (simp; done) | (simp; omega)) (rs1) rfl (by first | exact .inl rfl | exact .inr rfl) rfl ?_
        simp [go_sem, hkn, hun]
        repeat (refine And.intro (by first | omega | (intros; omega) | (intros; exact And.intro (by assumption) (by omega)) | kernel_rfl | grind) ?_)
        refine DoLD.call true 1205 rfl rfl rfl rfl (by first | exact trivial | omega | (simp; done) | (simp; omega)) (Their_does) rfl (by first | exact .inl rfl | exact .inr rfl) rfl ?_
        simp [go_sem, hkn, hun]
        refine DoLD.call true 1206 rfl rfl rfl rfl (by first | exact trivial | omega | (simp; done) | (simp; omega)) (rt1) rfl (by first | exact .inl rfl | exact .inr rfl) rfl ?_
        simp [go_sem, hkn, hun]
        refine DoLD.call true 1207 rfl rfl rfl rfl (by first | exact trivial | omega | (simp; done) | (simp; omega)) (A3) rfl (by first | exact .inl rfl | exact .inr rfl) rfl ?_
        simp [go_sem, hkn, hun]
        repeat (refine And.intro (by first | omega | (intros; omega) | (intros; exact And.intro (by assumption) (by omega)) | kernel_rfl | grind) ?_)
        refine DoLD.call true 1209 rfl rfl rfl rfl (by first | exact trivial | omega | (simp; done) | (simp; omega)) (hCmp) rfl (by first | exact .inl rfl | exact .inr rfl) rfl ?_
        simp [go_sem, hkn, hun]
        refine DoLD.callg true 1212 rfl rfl rfl rfl rfl (by simp [go_sem] <;> omega) (fun _ => awake_does) rfl (by first | exact .inl rfl | exact .inr rfl) rfl ?_
        simp [go_sem, hkn, hun]
        try (refine And.intro (by kernel_rfl) ?_)
        apply k13_; clear k13_
        refine Do.ret ?_
        simp [endQ, rets, ret1, go_sem, hkn, hun]
        repeat (refine And.intro (by first | omega | (intros; omega) | (intros; exact And.intro (by assumption) (by omega)) | grind) ?_)
        exact TLe.refl _
      · have hP : Does Tryz.prog Gv 22 [Fm f p, Fl x.k x.n x.e x.m, Fl y.k y.n y.e y.m] (.t [Flt.pv ⟨0, false, 0, 0⟩, Flt.pv ⟨0, false, 0, 0⟩, .c (.i .i64 4)]) := hP.2 hk
        refine Does.of (nt := 106) Tryz.func8 rfl rfl rfl (by simp) ?_
        simp only [argTm, PV.ext, Ce.ext]
        refine Do.seqk fun _ k1_ => ?_
        refine Do.region [3,4,5] true ?_
        simp [go_sem]
        apply k1_; clear k1_
        refine Do.seqk fun _ k2_ => ?_
        refine Do.seqk fun _ k3_ => ?_
        refine Do.draw [3,4,5,29] true (by kernel_rfl) ?_
        simp [go_sem]
        repeat (refine And.intro (by first | omega | (intros; omega) | (intros; exact And.intro (by assumption) (by omega)) | kernel_rfl | grind) ?_)
        refine DoLD.call true 104 rfl rfl rfl rfl (by first | exact trivial | omega | (simp; done) | (simp; omega)) (hS) rfl (by first | exact .inl rfl | exact .inr rfl) rfl ?_
        simp [go_sem]
        repeat (refine And.intro (by first | omega | (intros; omega) | (intros; exact And.intro (by assumption) (by omega)) | kernel_rfl | grind) ?_)
        refine DoLD.callg true 108 rfl rfl rfl rfl rfl (by simp [go_sem] <;> omega) (fun _ => Fmt_does) rfl (by first | exact .inl rfl | exact .inr rfl) rfl ?_
        simp [go_sem]
        repeat (refine And.intro (by first | omega | (intros; omega) | (intros; exact And.intro (by assumption) (by omega)) | kernel_rfl | grind) ?_)
        refine DoLD.callg true 110 rfl rfl rfl rfl rfl (by simp [go_sem] <;> omega) (fun _ => Their_does) rfl (by first | exact .inl rfl | exact .inr rfl) rfl ?_
        simp [go_sem]
        repeat (refine And.intro (by first | omega | (intros; omega) | (intros; exact And.intro (by assumption) (by omega)) | kernel_rfl | grind) ?_)
        refine DoLD.callg true 112 rfl rfl rfl rfl rfl (by simp [go_sem] <;> omega) (fun _ => Their_does) rfl (by first | exact .inl rfl | exact .inr rfl) rfl ?_
        simp [go_sem]
        refine DoLD.gOn true 112 rfl rfl [23, 25] (by decide) (by simp [go_sem]) rfl (show 0 < 4 ∧ 2 * 4 ≤ 16777216 by decide) (fun _ => rfl) rfl rfl ?_
        simp [go_sem]
        refine DoLD.callg true 114 rfl rfl rfl rfl rfl (by simp [go_sem] <;> omega) (fun _ => hC) rfl (by first | exact .inl rfl | exact .inr rfl) rfl ?_
        simp [go_sem]
        try (refine And.intro (by kernel_rfl) ?_)
        apply k3_; clear k3_
        refine Do.cond [3,4,5] rfl (fun h => ?_) (fun h => ?_) <;> simp [go_sem] at h ⊢
        refine Do.skip ?_
        simp [go_sem]
        apply k2_; clear k2_
        refine Do.seqk fun _ k4_ => ?_
        refine Do.region [3,4,5,7,9] true ?_
        simp [go_sem]
        repeat (refine And.intro (by first | omega | (intros; omega) | (intros; exact And.intro (by assumption) (by omega)) | grind) ?_)
        refine DoL.call true 304 rfl rfl rfl rfl (by first | exact trivial | omega | (simp; done) | (simp; omega)) (hT) rfl (by first | exact .inl rfl | exact .inr rfl) rfl ?_
        simp [go_sem]
        repeat (refine And.intro (by first | omega | (intros; omega) | (intros; exact And.intro (by assumption) (by omega)) | grind) ?_)
        apply k4_; clear k4_
        refine Do.seqk fun _ k5_ => ?_
        refine Do.region [3,4,5,7,9,10,11,12] true ?_
        simp [go_sem]
        repeat (refine And.intro (by first | omega | (intros; omega) | (intros; exact And.intro (by assumption) (by omega)) | grind) ?_)
        refine DoL.call true 404 rfl rfl rfl rfl (by first | exact trivial | omega | (simp; done) | (simp; omega)) (hP) rfl (by first | exact .inl rfl | exact .inr rfl) rfl ?_
        simp [go_sem]
        repeat (refine And.intro (by first | omega | (intros; omega) | (intros; exact And.intro (by assumption) (by omega)) | grind) ?_)
        apply k5_; clear k5_
        refine Do.seqk fun _ k6_ => ?_
        refine Do.seqk fun _ k7_ => ?_
        refine Do.region [3,4,5,7,10,11,12,48] true ?_
        simp [go_sem]
        apply k7_; clear k7_
        refine Do.cond [3,4,5,7,10,11,12] rfl (fun h => ?_) (fun h => ?_) <;> simp [go_sem] at h ⊢
        refine Do.skip ?_
        simp [go_sem]
        apply k6_; clear k6_
        refine Do.seqk fun _ k8_ => ?_
        refine Do.seqk fun _ k9_ => ?_
        refine Do.region [3,4,5,7,10,11,12,56] true ?_
        simp [go_sem]
        repeat (refine And.intro (by first | omega | (intros; omega) | (intros; exact And.intro (by assumption) (by omega)) | grind) ?_)
        apply k9_; clear k9_
        refine Do.cond [3,4,5,7,10,11,12] rfl (fun h => ?_) (fun h => ?_) <;> simp [go_sem] at h ⊢
        · refine Do.seqk fun _ k10_ => ?_
          refine Do.region [6] true ?_
          simp [go_sem]
          refine DoL.callg true 804 rfl rfl rfl rfl rfl (by simp [go_sem] <;> omega) (fun _ => awake_does) rfl (by first | exact .inl rfl | exact .inr rfl) rfl ?_
          simp [go_sem]
          apply k10_; clear k10_
          refine Do.ret ?_
          simp [endQ, rets, ret1, go_sem]
          repeat (refine And.intro (by first | omega | (intros; omega) | (intros; exact And.intro (by assumption) (by omega)) | grind) ?_)
          exact TLe.refl _
        · omega
    · generalize argsE f p 0 false [x, y] = ae at *
      refine Does.of (nt := 106) Tryz.func8 rfl rfl rfl (by simp) ?_
      simp only [argTm, PV.ext, Ce.ext]
      refine Do.seqk fun _ k1_ => ?_
      refine Do.region [3,4,5] true ?_
      simp [go_sem]
      apply k1_; clear k1_
      refine Do.seqk fun _ k2_ => ?_
      refine Do.seqk fun _ k3_ => ?_
      refine Do.draw [3,4,5,29] true (by kernel_rfl) ?_
      simp [go_sem]
      repeat (refine And.intro (by first | omega | (intros; omega) | (intros; exact And.intro (by assumption) (by omega)) | kernel_rfl | grind) ?_)
      refine DoLD.call true 104 rfl rfl rfl rfl (by first | exact trivial | omega | (simp; done) | (simp; omega)) (hS) rfl (by first | exact .inl rfl | exact .inr rfl) rfl ?_
      simp [go_sem]
      repeat (refine And.intro (by first | omega | (intros; omega) | (intros; exact And.intro (by assumption) (by omega)) | kernel_rfl | grind) ?_)
      refine DoLD.callg true 108 rfl rfl rfl rfl rfl (by simp [go_sem] <;> omega) (fun _ => Fmt_does) rfl (by first | exact .inl rfl | exact .inr rfl) rfl ?_
      simp [go_sem]
      repeat (refine And.intro (by first | omega | (intros; omega) | (intros; exact And.intro (by assumption) (by omega)) | kernel_rfl | grind) ?_)
      refine DoLD.callg true 110 rfl rfl rfl rfl rfl (by simp [go_sem] <;> omega) (fun _ => Their_does) rfl (by first | exact .inl rfl | exact .inr rfl) rfl ?_
      simp [go_sem]
      repeat (refine And.intro (by first | omega | (intros; omega) | (intros; exact And.intro (by assumption) (by omega)) | kernel_rfl | grind) ?_)
      refine DoLD.callg true 112 rfl rfl rfl rfl rfl (by simp [go_sem] <;> omega) (fun _ => Their_does) rfl (by first | exact .inl rfl | exact .inr rfl) rfl ?_
      simp [go_sem]
      refine DoLD.gOn true 112 rfl rfl [23, 25] (by decide) (by simp [go_sem]) rfl (show 0 < 4 ∧ 2 * 4 ≤ 16777216 by decide) (fun _ => rfl) rfl rfl ?_
      simp [go_sem]
      refine DoLD.callg true 114 rfl rfl rfl rfl rfl (by simp [go_sem] <;> omega) (fun _ => hC) rfl (by first | exact .inl rfl | exact .inr rfl) rfl ?_
      simp [go_sem]
      try (refine And.intro (by kernel_rfl) ?_)
      apply k3_; clear k3_
      refine Do.cond [3,4,5] rfl (fun h => ?_) (fun h => ?_) <;> simp [go_sem] at h ⊢
      · refine Do.seqk fun _ k4_ => ?_
        refine Do.region [6] true ?_
        simp [go_sem]
        refine DoL.call true 201 rfl rfl rfl rfl (by first | exact trivial | omega | (simp; done) | (simp; omega)) (awake_does) rfl (by first | exact .inl rfl | exact .inr rfl) rfl ?_
        simp [go_sem]
        apply k4_; clear k4_
        refine Do.ret ?_
        simp [endQ, rets, ret1, go_sem]
        repeat (refine And.intro (by first | omega | (intros; omega) | (intros; exact And.intro (by assumption) (by omega)) | grind) ?_)
        exact TLe.refl _
      · exact absurd h he
end Go.Proofs.YtdaecibpkhcllaaGreatDoor
/- The row of SumError. No condition. -/
namespace Go.Proofs.YtdaecibpkhcllaaGreatDoor
set_option linter.unusedVariables false
set_option linter.unusedSimpArgs false
open Go.ChangeShapes Go.WideShapes Go.ChangeAt Go.RowKit
set_option maxRecDepth 100000
namespace sumError
set_option maxRecDepth 100000 in
theorem lifted (os : Os) (started : os.Started) (H : Type) (enc : TypeId × Value → H) :
    ReturnsInHanded {} Tryz.checked os 8 .any (fun w args => (Rows.sumErrorSpec.pre enc Tryz.prog Tryz.f8 [] false w args ∧ laidMetH Tryz.prog laidL w) ∧ sizedMet enc Tryz.prog Tryz.f8 (OpenSpec.ofChange Rows.sumErrorSpec) false w args)
      (Rows.sumErrorSpec.post enc Tryz.prog Tryz.f8 false true false false) := by
  refine returnsInHanded_of_change_and (C := Tryz.checked) (X := fun w _ => laidMetH Tryz.prog laidL w) (fun _ _ _ hh h => h.of_heap hh) own started (by kernel_rfl) Tryz.func8
    (ChangeSpec.witness_shaped (enc := enc) (C := Tryz.checked) (os := os) (X := fun w _ => laidMetH Tryz.prog laidL w) false (World.doorLaid Tryz.prog doorN os) #[.agg #[.int .i64 0, .int .i64 0], .agg #[.int .i64 0, .bool false, .int .i64 0, .slice Option.none 0 0], .agg #[.int .i64 0, .bool false, .int .i64 0, .slice Option.none 0 0]] doorK rfl (World.shaped_of_RefB (by kernel_rfl) (by kernel_rfl)) (by kernel_rfl) (by kernel_rfl) (by kernel_rfl) (door_met os _)) ?_
  intro W base args ds gs before hval0 hW _ _ hL _
  have hval : ∀ (j : Nat) t v, Tryz.f8.params[j]? = some t → args[j]? = some v → Value.okWide Tryz.prog W .any base t v := hval0
  have hW' := hW
  obtain ⟨p, q, hA0, hV, rfl, hfz, hnd⟩ := hW
  have hA : DataW.TrodAll enc Tryz.prog W 0 (fun _ => true) true Tryz.f8.params.toList args.toList ds p := hA0
  rw [Tryz.params8] at hA hval
  obtain ⟨v0, vs0, d0, ds0, p0, q0, hargs, rfl, rfl, h0, r0⟩ := trodAll_cons hA
  obtain ⟨v1, vs1, d1, ds1, p1, q1, rfl, rfl, rfl, h1, r1⟩ := trodAll_cons r0
  obtain ⟨v2, vs2, d2, ds2, p2, q2, rfl, rfl, rfl, h2, r2⟩ := trodAll_cons r1
  obtain ⟨rfl, rfl, rfl⟩ := trodAll_nil r2
  obtain rfl : args = #[v0, v1, v2] := by cases args; simp_all
  obtain ⟨rfl, rfl⟩ := trodVars_none hV
  have lt0 : ∀ x ∈ p0, x.block < W.heap.size := by obtain ⟨m, hm⟩ := h0; exact DataW.trod_lt m _ _ _ hm
  have lt1 : ∀ x ∈ p1, x.block < W.heap.size := by obtain ⟨m, hm⟩ := h1; exact DataW.trod_lt m _ _ _ hm
  have lt2 : ∀ x ∈ p2, x.block < W.heap.size := by obtain ⟨m, hm⟩ := h2; exact DataW.trod_lt m _ _ _ hm
  obtain ⟨f, fp, a0⟩ := arg_fm (hval 0 _ v0 rfl rfl) h0
  obtain ⟨x, wx, ex, a1⟩ := arg_fl (hval 1 _ v1 rfl rfl) h1
  obtain ⟨y, wy, ey, a2⟩ := arg_fl (hval 2 _ v2 rfl rfl) h2
  clear hA0 hval0
  refine (law_calls (vals := [v0, v1, v2]) (SumError_does (f := f) (p := fp) wx ex wy ey) Tryz.func8 rfl rfl (of_laid hL) (.cons a0 (.cons a1 (.cons a2 .nil)))).mono fun e W' ⟨he, bel⟩ => ?_
  subst he
  exact ⟨_, rfl, _, _, _, [], _, [], hW', trodAll_mk1 (shut_bool Tryz.underlying4 _), (trodAll_cons_mk (Below.trod laidOut (by kernel_rfl) (of_decide_eq_true (by kernel_rfl)) h0 bel lt0) (trodAll_cons_mk (Below.trod laidOut (by kernel_rfl) (of_decide_eq_true (by kernel_rfl)) h1 bel lt1) (trodAll_mk1 (Below.trod laidOut (by kernel_rfl) (of_decide_eq_true (by kernel_rfl)) h2 bel lt2)))), rfl, bel.frame _, fun h => by cases h⟩
theorem over : Rows.sumErrorRow.holds Tryz.pinned (OpenSpec.ofChange Rows.sumErrorSpec) :=
  OpenClaim.holds_of_wide 8 Tryz.f8 rfl rfl rfl rfl rfl rfl rfl ⟨rfl, rfl, rfl, rfl, rfl⟩ rfl rfl rfl rfl rfl (by kernel_rfl) Tryz.func8 (by kernel_rfl)
    (of_decide_eq_true (by kernel_rfl)) (by unfold Func.isWrapper; first | (rw [if_pos (by decide +kernel)]; kernel_rfl) | (rw [if_neg (by decide +kernel)]; exact ⟨rfl, rfl⟩))
    (fun os started H enc _ => lifted os started H enc)
end sumError
end Go.Proofs.YtdaecibpkhcllaaGreatDoor
/- The law SumError holds, for every input: the two floats of Pair are floats of the format whose values add up to the exact sum; there are some wherever the rounded sum is Finite or a Zero. Conditions: the two listed package variables hold what the program's text lays (tied by the card). -/
namespace Go.Proofs.YtdaecibpkhcllaaGreatDoor
set_option linter.unusedVariables false
set_option linter.unusedSimpArgs false
open Go
theorem sumError_holds : Rows.SumErrorCardSaid :=
  Claim7.holds_tied_plain_at .later [] [.data, .funcs] true Rows.sumErrorCard.stood.harness false
    sumError.over (fun _ h => by cases h) (by kernel_rfl) (fun _ h => by cases h) sumError_row_tie rfl ⟨rfl, rfl⟩ (by kernel_rfl) rfl
    (fun f fn hf hfn => by
      obtain rfl : f = 8 := Option.some.inj ((show Tryz.prog.funcNamed "reckoner/reckonerlaw17.SumError" = some 8 by kernel_rfl).symm.trans hf) |>.symm
      obtain rfl : fn = Tryz.f8 := (Option.some.inj (Tryz.func8.symm.trans hfn)).symm
      exact ⟨by kernel_rfl, fun j t ht => by
        have hm : t ∈ Tryz.f8.params.toList := by simpa using Array.mem_of_getElem? ht
        have hall : (Tryz.f8.params.toList.all fun u => !Tryz.prog.wantsStandIn u) = true := by kernel_rfl
        exact (show Tryz.prog.wantsStandIn t = false by simpa using List.all_eq_true.1 hall t hm)⟩)
    (by kernel_rfl)
#print axioms sumError_holds
end Go.Proofs.YtdaecibpkhcllaaGreatDoor
