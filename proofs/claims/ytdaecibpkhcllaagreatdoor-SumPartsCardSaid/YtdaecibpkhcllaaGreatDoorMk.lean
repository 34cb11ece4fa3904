/- The rational numbers of the reference. No condition. Operations under a test whose outcome is known, in a region whose order is open. No condition. A float as a rational number; Holds. No condition. What the floats of a pair add up to, plain. No condition. Sizes of floats of the reference; how expansions fall. No condition. What the floats of an expansion add up to, and how many they are. No condition. An expansion of few floats has few floats. No condition. -/
import Derived.Test.YtdaecibpkhcllaaGreatDoorMj
import Derived.Test.YtdaecibpkhcllaaGreatDoorMi
/- The rational numbers of the reference. No condition. -/
namespace Go.Proofs.YtdaecibpkhcllaaGreatDoor
set_option linter.unusedVariables false
set_option linter.unusedSimpArgs false
variable {G : Gl}
set_option maxHeartbeats 4000000
set_option maxRecDepth 10000
/-- An integer of a size that all that is asked of it allows. -/
abbrev Bz (z : Int) : Prop := bl z.natAbs ≤ 100000000
theorem Bz.len {z : Int} (h : Bz z) : (nat z.natAbs).length ≤ 1562501 := by have := len_bl h; omega
theorem IvMake {n : Bool} {v : Nat} (hv : bl v ≤ 200000000) : Does Tryz.prog G 33 [.c (.b n), Wd (nat v)] (.v (Iv (sgn n v))) := by
  have := @IMake11_does G n (nat v) (by have := len_bl hv; omega) (nat_ws _)
  rwa [val_nat] at this
theorem IvMul {a b : Int} (ha : Bz a) (hb : Bz b) : Does Tryz.prog G 32 [Iv a, Iv b] (.v (Iv (a * b))) := by
  have := @IMul_does G (decide (a < 0)) (decide (b < 0)) (nat a.natAbs) (nat b.natAbs) (by have := ha.len; omega) (nat_ws _) (by have := hb.len; omega) (nat_ws _)
  rwa [val_nat, val_nat, sgn_of, sgn_of] at this
theorem IvAdd {a b : Int} (ha : Bz a) (hb : Bz b) : Does Tryz.prog G 86 [Iv a, Iv b] (.v (Iv (a + b))) := by
  have := @IAdd_does G (decide (a < 0)) (decide (b < 0)) (nat a.natAbs) (nat b.natAbs) (by have := ha.len; omega) (nat_ws _) (by have := hb.len; omega) (nat_ws _)
  rwa [val_nat, val_nat, sgn_of, sgn_of] at this
theorem IvNeg3 {a : Int} (ha : Bz a) : Does Tryz.prog G 162 [Iv a] (.v (Iv (-a))) := by
  have := @INeg_does G (decide (a < 0)) (nat a.natAbs) (by have := ha.len; omega) (nat_ws _)
  rwa [val_nat, sgn_of] at this
theorem IvNeg {a : Int} (ha : Bz a) : Does Tryz.prog G 136 [Iv a] (.v (Iv (-a))) := by
  have h := @IvNeg3 G a ha
  generalize -a = b at *
  refine Does.of (nt := 5) Tryz.func136 rfl rfl rfl (by simp) ?_
  simp only [argTm, PV.ext, Ce.ext]
  refine Do.seqk fun _ k1_ => ?_
  refine Do.region [1,2] true ?_
  simp [go_sem]
  apply k1_; clear k1_
  refine Do.seqk fun _ k2_ => ?_
  refine Do.region [2] true ?_
  simp [go_sem]
  repeat (refine And.intro (by first | omega | (intros; omega) | (intros; exact And.intro (by assumption) (by omega)) | grind) ?_)
  refine DoL.call true 102 rfl rfl rfl rfl (by first | exact trivial | omega | (simp; done) | (simp; omega)) (h) rfl (by first | exact .inl rfl | exact .inr rfl) rfl ?_
  simp [go_sem]
  repeat (refine And.intro (by first | omega | (intros; omega) | (intros; exact And.intro (by assumption) (by omega)) | grind) ?_)
  apply k2_; clear k2_
  refine Do.ret ?_
  simp [endQ, rets, ret1, go_sem]
  repeat (refine And.intro (by first | omega | (intros; omega) | (intros; exact And.intro (by assumption) (by omega)) | grind) ?_)
  exact TLe.refl _
theorem IvSign {a : Int} (ha : bl a.natAbs ≤ 200000000) : Does Tryz.prog G 54 [Iv a] (.int .i64 a.sign) := by
  have := @ISign_does G (decide (a < 0)) (nat a.natAbs) (by have := len_bl ha; omega) (nat_ws _)
  rwa [val_nat, sgn_of] at this
theorem bl_sub_le (a b : Int) : bl (a - b).natAbs ≤ max (bl a.natAbs) (bl b.natAbs) + 1 := by
  rw [bl_lt, Nat.pow_succ]
  have h1 : a.natAbs < 2 ^ max (bl a.natAbs) (bl b.natAbs) := (bl_lt _ _).1 (Nat.le_max_left _ _)
  have h2 : b.natAbs < 2 ^ max (bl a.natAbs) (bl b.natAbs) := (bl_lt _ _).1 (Nat.le_max_right _ _)
  omega
theorem IvTrim {a : Int} (ha : Bz a) : Does Tryz.prog G 133 [Iv a] (.v (Iv a)) := by
  have h := @ITrim_does G (decide (a < 0)) (nat a.natAbs) (by have := ha.len; omega) (nat_ws _)
  rw [val_nat, sgn_of] at h
  refine Does.of (nt := 5) Tryz.func133 rfl rfl rfl (by simp) ?_
  simp only [argTm, PV.ext, Ce.ext]
  refine Do.seqk fun _ k1_ => ?_
  refine Do.region [1,2] true ?_
  simp [go_sem]
  apply k1_; clear k1_
  refine Do.seqk fun _ k2_ => ?_
  refine Do.region [2] true ?_
  simp [go_sem]
  repeat (refine And.intro (by first | omega | (intros; omega) | (intros; exact And.intro (by assumption) (by omega)) | grind) ?_)
  refine DoL.call true 102 rfl rfl rfl rfl (by first | exact trivial | omega | (simp; done) | (simp; omega)) (h) rfl (by first | exact .inl rfl | exact .inr rfl) rfl ?_
  simp [go_sem]
  repeat (refine And.intro (by first | omega | (intros; omega) | (intros; exact And.intro (by assumption) (by omega)) | grind) ?_)
  apply k2_; clear k2_
  refine Do.ret ?_
  simp [endQ, rets, ret1, go_sem]
  repeat (refine And.intro (by first | omega | (intros; omega) | (intros; exact And.intro (by assumption) (by omega)) | grind) ?_)
  exact TLe.refl _
/-- A rational number, as it is laid. -/
abbrev Qv (z : Int) (d : Nat) : PV := .a [.b (decide (z < 0)), .w false (nat z.natAbs), .w false (nat d)]
theorem PLe.qv {c1 c2 : Ce} {z : Int} {d : Nat} {b : Bool} (hb : b = decide (z < 0)) (h1 : PLe (.c c1) (.c (.w false (nat z.natAbs)))) (h2 : PLe (.c c2) (.c (.w false (nat d)))) : PLe (.a [.b b, c1, c2]) (Qv z d) := by
  subst hb
  exact PLe.agg (.cons (PLe.refl _) (.cons h1 (.cons h2 .nil)))
theorem QNorm {z : Int} {d : Nat} (hz : bl z.natAbs ≤ 200000000) (hd : bl d ≤ 200000000) (h0 : 0 < d) : Does Tryz.prog G 128 [Qv z d] (.v (Qv (nz z d) (nd z d))) := by
  have lz : (nat z.natAbs).length ≤ 3125001 := by have := len_bl hz; omega
  have ld : (nat d).length ≤ 3125001 := by have := len_bl hd; omega
  have hg := @RGcd_does G (nat z.natAbs) (nat d) (by omega) (nat_ws _) (by omega) (nat_ws _)
  rw [val_nat, val_nat] at hg
  have gp := gcd_pos (z := z) h0
  have gl : Nat.gcd z.natAbs d ≤ d := Nat.le_of_dvd h0 (Nat.gcd_dvd_right _ _)
  have gb := bl_mono gl
  have lg : (nat (Nat.gcd z.natAbs d)).length ≤ 3125001 := by have := len_bl (Nat.le_trans gb hd); omega
  have d1 := @RDiv_does G (nat z.natAbs) (nat (Nat.gcd z.natAbs d)) (by omega) (nat_ws _) (by omega) (nat_ws _) (by rw [val_nat]; exact gp)
  have d2 := @RDiv_does G (nat d) (nat (Nat.gcd z.natAbs d)) (by omega) (nat_ws _) (by omega) (nat_ws _) (by rw [val_nat]; exact gp)
  rw [val_nat, val_nat] at d1 d2
  have hm := @IvMake G (decide (z < 0)) (z.natAbs / Nat.gcd z.natAbs d) (by have := bl_mono (Nat.div_le_self z.natAbs (Nat.gcd z.natAbs d)); omega)
  rw [nz_sgn] at hm
  have e2 : d / Nat.gcd z.natAbs d = nd z d := rfl
  rw [e2] at d2
  generalize nz z d = z' at *
  generalize nd z d = d' at *
  generalize z.natAbs / Nat.gcd z.natAbs d = u at *
  generalize Nat.gcd z.natAbs d = g at *
  refine Does.of (nt := 24) Tryz.func128 rfl rfl rfl (by simp) ?_
  simp only [argTm, PV.ext, Ce.ext]
  refine Do.seqk fun _ k1_ => ?_
  refine Do.region [1,2] true ?_
  simp [go_sem]
  apply k1_; clear k1_
  refine Do.seqk fun _ k2_ => ?_
  refine Do.region [1,2,3] true ?_
  simp [go_sem]
  repeat (refine And.intro (by first | omega | (intros; omega) | (intros; exact And.intro (by assumption) (by omega)) | grind) ?_)
  refine DoL.call true 106 rfl rfl rfl rfl (by first | exact trivial | omega | (simp; done) | (simp; omega)) (hg) rfl (by first | exact .inl rfl | exact .inr rfl) rfl ?_
  simp [go_sem]
  apply k2_; clear k2_
  refine Do.seqk fun _ k3_ => ?_
  refine Do.draw [2] true (by kernel_rfl) ?_
  simp [go_sem]
  repeat (refine And.intro (by first | omega | (intros; omega) | (intros; exact And.intro (by assumption) (by omega)) | kernel_rfl | grind) ?_)
  refine DoLD.call true 208 rfl rfl rfl rfl (by first | exact trivial | omega | (simp; done) | (simp; omega)) (d1) rfl (by first | exact .inl rfl | exact .inr rfl) rfl ?_
  simp [go_sem]
  refine DoLD.call true 209 rfl rfl rfl rfl (by first | exact trivial | omega | (simp; done) | (simp; omega)) (hm) rfl (by first | exact .inl rfl | exact .inr rfl) rfl ?_
  simp [go_sem]
  repeat (refine And.intro (by first | omega | (intros; omega) | (intros; exact And.intro (by assumption) (by omega)) | kernel_rfl | grind) ?_)
  refine DoLD.call true 213 rfl rfl rfl rfl (by first | exact trivial | omega | (simp; done) | (simp; omega)) (d2) rfl (by first | exact .inl rfl | exact .inr rfl) rfl ?_
  simp [go_sem]
  repeat (refine And.intro (by first | omega | (intros; omega) | (intros; exact And.intro (by assumption) (by omega)) | kernel_rfl | grind) ?_)
  try (refine And.intro (by kernel_rfl) ?_)
  apply k3_; clear k3_
  refine Do.ret ?_
  simp [endQ, rets, ret1, go_sem]
  repeat (refine And.intro (by first | omega | (intros; omega) | (intros; exact And.intro (by assumption) (by omega)) | grind) ?_)
  exact TLe.v (PLe.qv rfl (PLe.refl _) (PLe.ext (.c (.w true _))))
theorem QMake {z : Int} {d : Nat} (hz : bl z.natAbs ≤ 200000000) (hd : bl d ≤ 200000000) (h0 : 0 < d) : Does Tryz.prog G 85 [Iv z, Wd (nat d)] (.v (Qv (nz z d) (nd z d))) := by
  have hn := @QNorm G z d hz hd h0
  generalize nz z d = z' at *
  generalize nd z d = d' at *
  refine Does.of (nt := 9) Tryz.func85 rfl rfl rfl (by simp) ?_
  simp only [argTm, PV.ext, Ce.ext]
  refine Do.seqk fun _ k1_ => ?_
  refine Do.region [1,2,4] true ?_
  simp [go_sem]
  apply k1_; clear k1_
  refine Do.seqk fun _ k2_ => ?_
  refine Do.region [4] true ?_
  simp [go_sem]
  repeat (refine And.intro (by first | omega | (intros; omega) | (intros; exact And.intro (by assumption) (by omega)) | grind) ?_)
  refine DoL.call true 104 rfl rfl rfl rfl (by first | exact trivial | omega | (simp; done) | (simp; omega)) (hn) rfl (by first | exact .inl rfl | exact .inr rfl) rfl ?_
  simp [go_sem]
  repeat (refine And.intro (by first | omega | (intros; omega) | (intros; exact And.intro (by assumption) (by omega)) | grind) ?_)
  apply k2_; clear k2_
  refine Do.ret ?_
  simp [endQ, rets, ret1, go_sem]
  repeat (refine And.intro (by first | omega | (intros; omega) | (intros; exact And.intro (by assumption) (by omega)) | grind) ?_)
  exact TLe.refl _
section
variable {K : Nat} {z1 z2 w1 w2 : Int} {d1 d2 : Nat}
theorem RMulN {a b : Nat} (ha : bl a ≤ 100000000) (hb : bl b ≤ 100000000) : Does Tryz.prog G 87 [Wd (nat a), Wd (nat b)] (.v (Wn (nat (a * b)))) := by
  have := @RMul_does G (nat a) (nat b) (by have := len_bl ha; omega) (nat_ws _) (by have := len_bl hb; omega) (nat_ws _)
  rwa [val_nat, val_nat] at this
theorem sgn_false (v : Nat) : sgn false v = (v : Int) := rfl
theorem bl_mulz (a b : Int) : bl (a * b).natAbs ≤ bl a.natAbs + bl b.natAbs := by
  rw [Int.natAbs_mul]
  rw [bl_lt, Nat.pow_add]
  have h1 := bl_self a.natAbs
  have h2 := bl_self b.natAbs
  exact Nat.mul_lt_mul_of_lt_of_le h1 (Nat.le_of_lt h2) (Nat.pow_pos (by decide))
theorem bl_mulN (a b : Nat) : bl (a * b) ≤ bl a + bl b := by
  rw [bl_lt, Nat.pow_add]
  exact Nat.mul_lt_mul_of_lt_of_le (bl_self a) (Nat.le_of_lt (bl_self b)) (Nat.pow_pos (by decide))
theorem bl_addz (a b : Int) : bl (a + b).natAbs ≤ max (bl a.natAbs) (bl b.natAbs) + 1 := by
  have := bl_sub_le a (-b)
  rw [Int.natAbs_neg] at this
  rwa [Int.sub_eq_add_neg, Int.neg_neg] at this
theorem QAdd (h1 : Dq K z1 d1 w1) (h2 : Dq K z2 d2 w2) (hK : K ≤ 8000000) (b1 : bl w1.natAbs ≤ 20000000) (b2 : bl w2.natAbs ≤ 20000000) : ∃ z d, Does Tryz.prog G 37 [Qv z1 d1, Qv z2 d2] (.v (Qv z d)) ∧ Dq K z d (w1 + w2) := by
  obtain ⟨s1, s2, s3⟩ := h1.small
  obtain ⟨t1, t2, t3⟩ := h2.small
  have m1 := bl_mulz z1 d2
  have m2 := bl_mulz z2 d1
  have m3 := bl_addz (z1 * d2) (z2 * d1)
  have m4 := bl_mulN d1 d2
  rw [Int.natAbs_natCast] at m1 m2
  have k1 := @IvMake G false d1 (by omega)
  have k2 := @IvMake G false d2 (by omega)
  have p1 := @IvMul G z1 d2 (by unfold Bz; omega) (by unfold Bz; rw [Int.natAbs_natCast]; omega)
  have p2 := @IvMul G z2 d1 (by unfold Bz; omega) (by unfold Bz; rw [Int.natAbs_natCast]; omega)
  have p3 := @IvAdd G (z1 * d2) (z2 * d1) (by unfold Bz; omega) (by unfold Bz; omega)
  have p4 := @RMulN G d1 d2 (by omega) (by omega)
  have p5 := @QMake G (z1 * d2 + z2 * d1) (d1 * d2) (by omega) (by omega) (Nat.mul_pos h1.pos h2.pos)
  refine ⟨_, _, ?_, Dq.norm (h1.add_eq h2) (Nat.mul_pos h1.pos h2.pos)⟩
  rw [sgn_false] at k1 k2
  generalize nz (z1 * d2 + z2 * d1) (d1 * d2) = z' at *
  generalize nd (z1 * d2 + z2 * d1) (d1 * d2) = d' at *
  generalize z1 * d2 + z2 * d1 = u at *
  generalize z1 * (d2 : Int) = u1 at *
  generalize z2 * (d1 : Int) = u2 at *
  generalize d1 * d2 = v at *
  generalize (d1 : Int) = y1 at *
  generalize (d2 : Int) = y2 at *
  refine Does.of (nt := 28) Tryz.func37 rfl rfl rfl (by simp) ?_
  simp only [argTm, PV.ext, Ce.ext]
  refine Do.seqk fun _ k1_ => ?_
  refine Do.region [2,3,4] true ?_
  simp [go_sem]
  apply k1_; clear k1_
  refine Do.seqk fun _ k2_ => ?_
  refine Do.draw [2,3,4,5,6] true (by kernel_rfl) ?_
  simp [go_sem]
  repeat (refine And.intro (by first | omega | (intros; omega) | (intros; exact And.intro (by assumption) (by omega)) | kernel_rfl | grind) ?_)
  refine DoLD.call true 105 rfl rfl rfl rfl (by first | exact trivial | omega | (simp; done) | (simp; omega)) (k2) rfl (by first | exact .inl rfl | exact .inr rfl) rfl ?_
  simp [go_sem]
  refine DoLD.call true 106 rfl rfl rfl rfl (by first | exact trivial | omega | (simp; done) | (simp; omega)) (p1) rfl (by first | exact .inl rfl | exact .inr rfl) rfl ?_
  simp [go_sem]
  repeat (refine And.intro (by first | omega | (intros; omega) | (intros; exact And.intro (by assumption) (by omega)) | kernel_rfl | grind) ?_)
  refine DoLD.call true 111 rfl rfl rfl rfl (by first | exact trivial | omega | (simp; done) | (simp; omega)) (k1) rfl (by first | exact .inl rfl | exact .inr rfl) rfl ?_
  simp [go_sem]
  refine DoLD.call true 112 rfl rfl rfl rfl (by first | exact trivial | omega | (simp; done) | (simp; omega)) (p2) rfl (by first | exact .inl rfl | exact .inr rfl) rfl ?_
  simp [go_sem]
  repeat (refine And.intro (by first | omega | (intros; omega) | (intros; exact And.intro (by assumption) (by omega)) | kernel_rfl | grind) ?_)
  try (refine And.intro (by kernel_rfl) ?_)
  apply k2_; clear k2_
  refine Do.seqk fun _ k3_ => ?_
  refine Do.draw [4] true (by kernel_rfl) ?_
  simp [go_sem]
  repeat (refine And.intro (by first | omega | (intros; omega) | (intros; exact And.intro (by assumption) (by omega)) | kernel_rfl | grind) ?_)
  refine DoLD.call true 203 rfl rfl rfl rfl (by first | exact trivial | omega | (simp; done) | (simp; omega)) (p3) rfl (by first | exact .inl rfl | exact .inr rfl) rfl ?_
  simp [go_sem]
  repeat (refine And.intro (by first | omega | (intros; omega) | (intros; exact And.intro (by assumption) (by omega)) | kernel_rfl | grind) ?_)
  refine DoLD.call true 208 rfl rfl rfl rfl (by first | exact trivial | omega | (simp; done) | (simp; omega)) (p4) rfl (by first | exact .inl rfl | exact .inr rfl) rfl ?_
  simp [go_sem]
  refine DoLD.call true 209 rfl rfl rfl rfl (by first | exact trivial | omega | (simp; done) | (simp; omega)) (p5) rfl (by first | exact .inl rfl | exact .inr rfl) rfl ?_
  simp [go_sem]
  repeat (refine And.intro (by first | omega | (intros; omega) | (intros; exact And.intro (by assumption) (by omega)) | kernel_rfl | grind) ?_)
  try (refine And.intro (by kernel_rfl) ?_)
  apply k3_; clear k3_
  refine Do.ret ?_
  simp [endQ, rets, ret1, go_sem]
  repeat (refine And.intro (by first | omega | (intros; omega) | (intros; exact And.intro (by assumption) (by omega)) | grind) ?_)
  exact TLe.refl _
theorem QNeg (h1 : Dq K z1 d1 w1) (hK : K ≤ 8000000) (b1 : bl w1.natAbs ≤ 20000000) : ∃ z d, Does Tryz.prog G 95 [Qv z1 d1] (.v (Qv z d)) ∧ Dq K z d (-w1) := by
  obtain ⟨s1, s2, s3⟩ := h1.small
  have p1 := @IvNeg G z1 (by unfold Bz; omega)
  have p2 := @QNorm G (-z1) d1 (by rw [Int.natAbs_neg]; omega) (by omega) h1.pos
  refine ⟨_, _, ?_, Dq.norm h1.neg.eq h1.pos⟩
  generalize nz (-z1) d1 = z' at *
  generalize nd (-z1) d1 = d' at *
  generalize -z1 = u at *
  refine Does.of (nt := 10) Tryz.func95 rfl rfl rfl (by simp) ?_
  simp only [argTm, PV.ext, Ce.ext]
  refine Do.seqk fun _ k1_ => ?_
  refine Do.region [1,2] true ?_
  simp [go_sem]
  apply k1_; clear k1_
  refine Do.seqk fun _ k2_ => ?_
  refine Do.draw [2] true (by kernel_rfl) ?_
  simp [go_sem]
  repeat (refine And.intro (by first | omega | (intros; omega) | (intros; exact And.intro (by assumption) (by omega)) | kernel_rfl | grind) ?_)
  refine DoLD.call true 103 rfl rfl rfl rfl (by first | exact trivial | omega | (simp; done) | (simp; omega)) (p1) rfl (by first | exact .inl rfl | exact .inr rfl) rfl ?_
  simp [go_sem]
  repeat (refine And.intro (by first | omega | (intros; omega) | (intros; exact And.intro (by assumption) (by omega)) | kernel_rfl | grind) ?_)
  refine DoLD.call true 107 rfl rfl rfl rfl (by first | exact trivial | omega | (simp; done) | (simp; omega)) (p2) rfl (by first | exact .inl rfl | exact .inr rfl) rfl ?_
  simp [go_sem]
  repeat (refine And.intro (by first | omega | (intros; omega) | (intros; exact And.intro (by assumption) (by omega)) | kernel_rfl | grind) ?_)
  try (refine And.intro (by kernel_rfl) ?_)
  apply k2_; clear k2_
  refine Do.ret ?_
  simp [endQ, rets, ret1, go_sem]
  repeat (refine And.intro (by first | omega | (intros; omega) | (intros; exact And.intro (by assumption) (by omega)) | grind) ?_)
  exact TLe.refl _
theorem QSub (h1 : Dq K z1 d1 w1) (h2 : Dq K z2 d2 w2) (hK : K ≤ 8000000) (b1 : bl w1.natAbs ≤ 20000000) (b2 : bl w2.natAbs ≤ 20000000) : ∃ z d, Does Tryz.prog G 46 [Qv z1 d1, Qv z2 d2] (.v (Qv z d)) ∧ Dq K z d (w1 - w2) := by
  obtain ⟨z3, d3, p1, h3⟩ := @QNeg G K z2 w2 d2 h2 hK b2
  obtain ⟨z, d, p2, h4⟩ := @QAdd G K z1 z3 w1 (-w2) d1 d3 h1 h3 hK b1 (by rw [Int.natAbs_neg]; exact b2)
  refine ⟨z, d, ?_, by rw [Int.sub_eq_add_neg]; exact h4⟩
  refine Does.of (nt := 9) Tryz.func46 rfl rfl rfl (by simp) ?_
  simp only [argTm, PV.ext, Ce.ext]
  refine Do.seqk fun _ k1_ => ?_
  refine Do.region [2,3,4] true ?_
  simp [go_sem]
  apply k1_; clear k1_
  refine Do.seqk fun _ k2_ => ?_
  refine Do.draw [4] true (by kernel_rfl) ?_
  simp [go_sem]
  repeat (refine And.intro (by first | omega | (intros; omega) | (intros; exact And.intro (by assumption) (by omega)) | kernel_rfl | grind) ?_)
  refine DoLD.call true 103 rfl rfl rfl rfl (by first | exact trivial | omega | (simp; done) | (simp; omega)) (p1) rfl (by first | exact .inl rfl | exact .inr rfl) rfl ?_
  simp [go_sem]
  refine DoLD.call true 104 rfl rfl rfl rfl (by first | exact trivial | omega | (simp; done) | (simp; omega)) (p2) rfl (by first | exact .inl rfl | exact .inr rfl) rfl ?_
  simp [go_sem]
  repeat (refine And.intro (by first | omega | (intros; omega) | (intros; exact And.intro (by assumption) (by omega)) | kernel_rfl | grind) ?_)
  try (refine And.intro (by kernel_rfl) ?_)
  apply k2_; clear k2_
  refine Do.ret ?_
  simp [endQ, rets, ret1, go_sem]
  repeat (refine And.intro (by first | omega | (intros; omega) | (intros; exact And.intro (by assumption) (by omega)) | grind) ?_)
  exact TLe.refl _
theorem QSign (h1 : Dq K z1 d1 w1) (b1 : bl w1.natAbs ≤ 20000000) : Does Tryz.prog G 47 [Qv z1 d1] (.int .i64 w1.sign) := by
  obtain ⟨s1, s2, s3⟩ := h1.small
  have p1 := @IvSign G z1 (by omega)
  rw [h1.sign] at p1
  generalize w1.sign = sg at *
  refine Does.of (nt := 6) Tryz.func47 rfl rfl rfl (by simp) ?_
  simp only [argTm, PV.ext, Ce.ext]
  refine Do.seqk fun _ k1_ => ?_
  refine Do.region [1] true ?_
  simp [go_sem]
  apply k1_; clear k1_
  refine Do.seqk fun _ k2_ => ?_
  refine Do.region [2] true ?_
  simp [go_sem]
  repeat (refine And.intro (by first | omega | (intros; omega) | (intros; exact And.intro (by assumption) (by omega)) | grind) ?_)
  refine DoL.call true 103 rfl rfl rfl rfl (by first | exact trivial | omega | (simp; done) | (simp; omega)) (p1) rfl (by first | exact .inl rfl | exact .inr rfl) rfl ?_
  simp [go_sem]
  apply k2_; clear k2_
  refine Do.ret ?_
  simp [endQ, rets, ret1, go_sem]
  repeat (refine And.intro (by first | omega | (intros; omega) | (intros; exact And.intro (by assumption) (by omega)) | grind) ?_)
  exact TLe.refl _
end
/-- Half of 2^64 is not needed: small integers as rational numbers. -/
theorem QFrom {k : Nat} (hk : k < 1000000) : Does Tryz.prog G 43 [.c (.i .i64 k), .c (.i .i64 1)] (.v (Qv k 1)) := by
  have h1 := @IFrom_does G k (by omega)
  have h2 := @RWord_does G 1 (by decide)
  have h3 := @QMake G k 1 (by rw [Int.natAbs_natCast]; have := (bl_lt k 20).2 (by omega); omega) (by decide) (by decide)
  rw [show nz (k : Int) 1 = k by unfold nz; simp, show nd (k : Int) 1 = 1 by unfold nd; simp] at h3
  refine Does.of (nt := 11) Tryz.func43 rfl rfl rfl (by simp) ?_
  simp only [argTm, PV.ext, Ce.ext]
  refine Do.seqk fun _ k1_ => ?_
  refine Do.region [0,1,4] true ?_
  simp [go_sem]
  apply k1_; clear k1_
  refine Do.seqk fun _ k2_ => ?_
  refine Do.region [4] true ?_
  simp [go_sem]
  refine DoL.call true 102 rfl rfl rfl rfl (by first | exact trivial | omega | (simp; done) | (simp; omega)) (h1) rfl (by first | exact .inl rfl | exact .inr rfl) rfl ?_
  simp [go_sem]
  repeat (refine And.intro (by first | omega | (intros; omega) | (intros; exact And.intro (by assumption) (by omega)) | grind) ?_)
  refine DoL.call true 105 rfl rfl rfl rfl (by first | exact trivial | omega | (simp; done) | (simp; omega)) (h2) rfl (by first | exact .inl rfl | exact .inr rfl) rfl ?_
  simp [go_sem]
  refine DoL.call true 106 rfl rfl rfl rfl (by first | exact trivial | omega | (simp; done) | (simp; omega)) (h3) rfl (by first | exact .inl rfl | exact .inr rfl) rfl ?_
  simp [go_sem]
  repeat (refine And.intro (by first | omega | (intros; omega) | (intros; exact And.intro (by assumption) (by omega)) | grind) ?_)
  apply k2_; clear k2_
  refine Do.ret ?_
  simp [endQ, rets, ret1, go_sem]
  repeat (refine And.intro (by first | omega | (intros; omega) | (intros; exact And.intro (by assumption) (by omega)) | grind) ?_)
  exact TLe.refl _
theorem QWhole {z : Int} (hz : Bz z) : Does Tryz.prog G 90 [Iv z] (.v (Qv z 1)) := by
  have h1 := @IvTrim G z hz
  have h2 := @RWord_does G 1 (by decide)
  refine Does.of (nt := 7) Tryz.func90 rfl rfl rfl (by simp) ?_
  simp only [argTm, PV.ext, Ce.ext]
  refine Do.seqk fun _ k1_ => ?_
  refine Do.region [1,2] true ?_
  simp [go_sem]
  apply k1_; clear k1_
  refine Do.seqk fun _ k2_ => ?_
  refine Do.region [2] true ?_
  simp [go_sem]
  repeat (refine And.intro (by first | omega | (intros; omega) | (intros; exact And.intro (by assumption) (by omega)) | grind) ?_)
  refine DoL.call true 102 rfl rfl rfl rfl (by first | exact trivial | omega | (simp; done) | (simp; omega)) (h1) rfl (by first | exact .inl rfl | exact .inr rfl) rfl ?_
  simp [go_sem]
  refine DoL.call true 103 rfl rfl rfl rfl (by first | exact trivial | omega | (simp; done) | (simp; omega)) (h2) rfl (by first | exact .inl rfl | exact .inr rfl) rfl ?_
  simp [go_sem]
  repeat (refine And.intro (by first | omega | (intros; omega) | (intros; exact And.intro (by assumption) (by omega)) | grind) ?_)
  apply k2_; clear k2_
  refine Do.ret ?_
  simp [endQ, rets, ret1, go_sem]
  repeat (refine And.intro (by first | omega | (intros; omega) | (intros; exact And.intro (by assumption) (by omega)) | grind) ?_)
  exact TLe.v (PLe.qv rfl (PLe.refl _) (PLe.ext (.c (.w true _))))
end Go.Proofs.YtdaecibpkhcllaaGreatDoor
/- Operations under a test whose outcome is known, in a region whose order is open. No condition. -/
namespace Go.Proofs.YtdaecibpkhcllaaGreatDoor
set_option linter.unusedVariables false
set_option linter.unusedSimpArgs false
section
variable {P : Program} {G : Gl} {nt : Nat} {st st0 : St} {cx : Cx} {a : Act} {W W' : World} {m : Nat → Option Nat} {ops l : List Oper} {acc : List Sm} {Q : List Sm → St → Prop} {o : Oper} {j : Nat} {want g : Bool}
theorem gOf_congr {tm tm' : List (Nat × TV)} (hg : o.guard = some (j, want)) (h : ∀ t ∈ rdOf ops o, lk t tm' = lk t tm) : gOf ops tm' j want = gOf ops tm j want := by
  unfold gOf
  split
  · rename_i d _ _ _ _ _ hj
    rw [h d (by unfold rdOf; simp only [List.mem_append, hg, hj]; exact .inr (by simp))]
  · rfl
theorem DoLD.gOff (md : Bool) (lab : Nat) (hg : o.guard = some (j, want)) (hgo : gOf ops st.tm j want = some false) (x : TV) (hx : x.labs = []) (hd : dstOk nt o.dst = true) (next : runsD P G nt md ops st0 Q lab l (acc ++ [⟨[], [], [], none⟩]) ⟨setv o.dst (some (.gd false x)) st.tm, st.ob⟩) : DoLD P G nt ops st0 Q (o :: l) acc st := by
  have h : OpOk P G nt ops (boxes st0.ob) o st ⟨o.dst, some (.gd false x), .none, 0, []⟩ := by
    refine ⟨rfl, fun cx a W m S hn _ hrd hus hfree hr Q' K hK => ?_⟩
    rw [gOf_spec hr ((gOf_congr hg hrd).trans hgo) hg, if_neg Bool.false_ne_true]
    exact hK _ _ (Rel.put hr hn hd (show RT _ (.gd false x) undef from ⟨(fun e => by cases e), fun _ => rfl⟩))
  refine DoLD.cons h (fun l hl => by simp [Tr.nw, Eff.isNew] at hl) rfl ?_
  have e1 : Tr.sm ⟨o.dst, some (.gd false x), .none, 0, []⟩ = ⟨[], [], [], none⟩ := by
    simp [Tr.sm, Tr.wr, Tr.mn, Tr.nw, Tr.ob, Eff.isNew, TV.labs, hx]
  rw [e1]
  exact DoLD.run next
/-- Slots that hold no more than they did. -/
theorem RelM.less (h : RelM G cx m st a W) {tm' : List (Nat × TV)} (hs : ∀ t y, lk t tm' = some y → ∃ z, lk t st.tm = some z ∧ ∀ E v, RT E z v → RT E y v) : RelM G cx m ⟨tm', st.ob⟩ a W :=
  { h with
    tm := fun t y hy => by
      have ⟨z, hz, hl⟩ := hs t y hy
      have ⟨v, hv, hr⟩ := h.tm t z hz
      exact ⟨v, hv, hl _ _ hr⟩ }
end
end Go.Proofs.YtdaecibpkhcllaaGreatDoor
/- A float as a rational number; Holds. No condition. -/
namespace Go.Proofs.YtdaecibpkhcllaaGreatDoor
set_option linter.unusedVariables false
set_option linter.unusedSimpArgs false
set_option maxHeartbeats 4000000
set_option maxRecDepth 10000
theorem tz_half {v : Nat} (h : 0 < v) : v / 2 ^ tz v % 2 = 1 := by
  obtain ⟨c, hc⟩ := tz_form h
  have : v / 2 ^ tz v = 2 * c + 1 := by
    conv => lhs; rw [hc]
    rw [tz_odd]
    exact Nat.mul_div_cancel_left _ (Nat.pow_pos (by decide))
  omega
theorem FRat {G : Gl} {x : Fla} (hx : Rt x) {K : Nat} (hK : K ≤ 8000000) (he : x.k = 1 → -(K : Int) ≤ x.e) : ∃ z d, Does Tryz.prog G 38 [Fl x.k x.n x.e x.m] (.v (Qv z d)) ∧ Dq K z d (fv (-K) x.flt) := by
  have hlen := hx.len
  by_cases hk : x.k = 1
  · have hc := canon_one hx.can hk
    have hv : 0 < val x.m := by have : x.flt.v ≠ 0 := hc.2.2; exact Nat.pos_of_ne_zero this
    have hc1 : -1048576 ≤ x.e := hc.1
    have hc2 : x.e + tz (val x.m) ≤ 1048576 := hc.2.1
    have hkk := he hk
    have ho := @odd_does G x.k x.e x.n x.m (by omega) hx.ws hx.md
    have hbv : bl (val x.m) ≤ 262144 := by have := bl_le_ws hx.ws; omega
    have hbv2 : bl (val x.m / 2 ^ tz (val x.m)) ≤ 262144 := Nat.le_trans (bl_mono (Nat.div_le_self _ _)) hbv
    obtain ⟨f1, f2⟩ := @Dq.float K x.n (val x.m / 2 ^ tz (val x.m)) (x.e + tz (val x.m)) (tz_half hv) (by omega)
    have hfv : fv (-K) ⟨1, x.n, x.e + tz (val x.m), val x.m / 2 ^ tz (val x.m)⟩ = fv (-K) x.flt := by
      have := @fv_rcan x.flt (-(K : Int)) (fun _ => hkk)
      rw [← this]
      unfold rcanon
      rw [if_pos (show x.flt.k = 1 from hk)]
      rfl
    rw [hfv] at f1 f2
    generalize val x.m / 2 ^ tz (val x.m) = v at *
    generalize hE : x.e + tz (val x.m) = E at *
    by_cases h0 : E < 0
    · refine ⟨_, _, ?_, f1 h0⟩
      have i1 := @IvMake G x.n v (by omega)
      have i2 := @RWord_does G 1 (by decide)
      have i3 := @RLeft_does G (nat 1) (-E).toNat (by rw [nat_one]; decide) (nat_ws _) (by omega)
      rw [val_nat, Nat.one_mul, show (((-E).toNat : Nat) : Int) = -E by omega] at i3
      generalize sgn x.n v = z at *
      generalize 2 ^ (-E).toNat = d at *
      refine Does.of (nt := 32) Tryz.func38 rfl rfl rfl (by simp) ?_
      simp only [argTm, PV.ext, Ce.ext]
      refine Do.seqk fun _ k1_ => ?_
      refine Do.region [1,2] true ?_
      simp [go_sem]
      apply k1_; clear k1_
      refine Do.seqk fun _ k2_ => ?_
      refine Do.seqk fun _ k3_ => ?_
      refine Do.region [1,2,7] true ?_
      simp [go_sem]
      repeat (refine And.intro (by first | omega | (intros; omega) | (intros; exact And.intro (by assumption) (by omega)) | grind) ?_)
      apply k3_; clear k3_
      refine Do.cond [1,2] rfl (fun h1 => ?_) (fun h1 => ?_) <;> simp [go_sem] at h1 ⊢
      · exact absurd hk h1
      · refine Do.skip ?_
        simp [go_sem]
        apply k2_; clear k2_
        refine Do.seqk fun _ k4_ => ?_
        refine Do.region [1,2,3,4] true ?_
        simp [go_sem]
        repeat (refine And.intro (by first | omega | (intros; omega) | (intros; exact And.intro (by assumption) (by omega)) | grind) ?_)
        refine DoL.call true 302 rfl rfl rfl rfl (by first | exact trivial | omega | (simp; done) | (simp; omega)) (ho) rfl (by first | exact .inl rfl | exact .inr rfl) rfl ?_
        simp [go_sem]
        apply k4_; clear k4_
        refine Do.seqk fun _ k5_ => ?_
        refine Do.seqk fun _ k6_ => ?_
        refine Do.region [1,2,3,4,15] true ?_
        simp [go_sem]
        apply k6_; clear k6_
        refine Do.cond [1,2,3,4] rfl (fun h2 => ?_) (fun h2 => ?_) <;> simp [go_sem] at h2 ⊢
        · refine Do.seqk fun _ k7_ => ?_
          refine Do.region [2] true ?_
          simp [go_sem]
          repeat (refine And.intro (by first | omega | (intros; omega) | (intros; exact And.intro (by assumption) (by omega)) | grind) ?_)
          refine DoL.call true 504 rfl rfl rfl rfl (by first | exact trivial | omega | (simp; done) | (simp; omega)) (i1) rfl (by first | exact .inl rfl | exact .inr rfl) rfl ?_
          simp [go_sem]
          refine DoL.call true 505 rfl rfl rfl rfl (by first | exact trivial | omega | (simp; done) | (simp; omega)) (i2) rfl (by first | exact .inl rfl | exact .inr rfl) rfl ?_
          simp [go_sem]
          repeat (refine And.intro (by first | omega | (intros; omega) | (intros; exact And.intro (by assumption) (by omega)) | grind) ?_)
          refine DoL.call true 508 rfl rfl rfl rfl (by first | exact trivial | omega | (simp; done) | (simp; omega)) (i3) rfl (by first | exact .inl rfl | exact .inr rfl) rfl ?_
          simp [go_sem]
          repeat (refine And.intro (by first | omega | (intros; omega) | (intros; exact And.intro (by assumption) (by omega)) | grind) ?_)
          apply k7_; clear k7_
          refine Do.ret ?_
          simp [endQ, rets, ret1, go_sem]
          repeat (refine And.intro (by first | omega | (intros; omega) | (intros; exact And.intro (by assumption) (by omega)) | grind) ?_)
          exact TLe.v (PLe.qv rfl (PLe.refl _) (PLe.ext (.c (.w true _))))
        · omega
    · refine ⟨_, _, ?_, f2 (by omega)⟩
      have hbl : bl (v * 2 ^ E.toNat) ≤ 2000000 := by
        have := bl_mulN v (2 ^ E.toNat)
        have h3 : bl (2 ^ E.toNat) ≤ E.toNat + 1 := by rw [bl_lt]; exact Nat.pow_lt_pow_right (by decide) (by omega)
        omega
      have i3 := @RLeft_does G (nat v) E.toNat (by have := len_bl hbv2; omega) (nat_ws _) (by omega)
      rw [val_nat, show ((E.toNat : Nat) : Int) = E by omega] at i3
      have i1 := @IvMake G x.n (v * 2 ^ E.toNat) (by omega)
      have i4 := @QWhole G (sgn x.n (v * 2 ^ E.toNat)) (by unfold Bz; rw [sgn_abs]; omega)
      generalize sgn x.n (v * 2 ^ E.toNat) = z at *
      generalize v * 2 ^ E.toNat = d at *
      refine Does.of (nt := 32) Tryz.func38 rfl rfl rfl (by simp) ?_
      simp only [argTm, PV.ext, Ce.ext]
      refine Do.seqk fun _ k1_ => ?_
      refine Do.region [1,2] true ?_
      simp [go_sem]
      apply k1_; clear k1_
      refine Do.seqk fun _ k2_ => ?_
      refine Do.seqk fun _ k3_ => ?_
      refine Do.region [1,2,7] true ?_
      simp [go_sem]
      repeat (refine And.intro (by first | omega | (intros; omega) | (intros; exact And.intro (by assumption) (by omega)) | grind) ?_)
      apply k3_; clear k3_
      refine Do.cond [1,2] rfl (fun h1 => ?_) (fun h1 => ?_) <;> simp [go_sem] at h1 ⊢
      · exact absurd hk h1
      · refine Do.skip ?_
        simp [go_sem]
        apply k2_; clear k2_
        refine Do.seqk fun _ k4_ => ?_
        refine Do.region [1,2,3,4] true ?_
        simp [go_sem]
        repeat (refine And.intro (by first | omega | (intros; omega) | (intros; exact And.intro (by assumption) (by omega)) | grind) ?_)
        refine DoL.call true 302 rfl rfl rfl rfl (by first | exact trivial | omega | (simp; done) | (simp; omega)) (ho) rfl (by first | exact .inl rfl | exact .inr rfl) rfl ?_
        simp [go_sem]
        apply k4_; clear k4_
        refine Do.seqk fun _ k5_ => ?_
        refine Do.seqk fun _ k6_ => ?_
        refine Do.region [1,2,3,4,15] true ?_
        simp [go_sem]
        apply k6_; clear k6_
        refine Do.cond [1,2,3,4] rfl (fun h2 => ?_) (fun h2 => ?_) <;> simp [go_sem] at h2 ⊢
        · omega
        · refine Do.skip ?_
          simp [go_sem]
          apply k5_; clear k5_
          refine Do.seqk fun _ k7_ => ?_
          refine Do.draw [2] true (by kernel_rfl) ?_
          simp [go_sem]
          repeat (refine And.intro (by first | omega | (intros; omega) | (intros; exact And.intro (by assumption) (by omega)) | kernel_rfl | grind) ?_)
          refine DoLD.call true 605 rfl rfl rfl rfl (by first | exact trivial | omega | (simp; done) | (simp; omega)) (i3) rfl (by first | exact .inl rfl | exact .inr rfl) rfl ?_
          simp [go_sem]
          refine DoLD.call true 606 rfl rfl rfl rfl (by first | exact trivial | omega | (simp; done) | (simp; omega)) (i1) rfl (by first | exact .inl rfl | exact .inr rfl) rfl ?_
          simp [go_sem]
          refine DoLD.call true 607 rfl rfl rfl rfl (by first | exact trivial | omega | (simp; done) | (simp; omega)) (i4) rfl (by first | exact .inl rfl | exact .inr rfl) rfl ?_
          simp [go_sem]
          repeat (refine And.intro (by first | omega | (intros; omega) | (intros; exact And.intro (by assumption) (by omega)) | kernel_rfl | grind) ?_)
          try (refine And.intro (by kernel_rfl) ?_)
          apply k7_; clear k7_
          refine Do.ret ?_
          simp [endQ, rets, ret1, go_sem]
          repeat (refine And.intro (by first | omega | (intros; omega) | (intros; exact And.intro (by assumption) (by omega)) | grind) ?_)
          exact TLe.refl _
  · have i1 : Does Tryz.prog G 43 [.c (.i .i64 0), .c (.i .i64 1)] (.v (Qv 0 1)) := @QFrom G 0 (by decide)
    have hz : fv (-K) x.flt = 0 := by unfold fv; rw [if_neg (show ¬ x.flt.k = 1 from hk)]
    rw [hz]
    refine ⟨0, 1, ?_, Dq.zero K⟩
    refine Does.of (nt := 32) Tryz.func38 rfl rfl rfl (by simp) ?_
    simp only [argTm, PV.ext, Ce.ext]
    refine Do.seqk fun _ k1_ => ?_
    refine Do.region [1,2] true ?_
    simp [go_sem]
    apply k1_; clear k1_
    refine Do.seqk fun _ k2_ => ?_
    refine Do.seqk fun _ k3_ => ?_
    refine Do.region [1,2,7] true ?_
    simp [go_sem]
    repeat (refine And.intro (by first | omega | (intros; omega) | (intros; exact And.intro (by assumption) (by omega)) | grind) ?_)
    apply k3_; clear k3_
    refine Do.cond [1,2] rfl (fun h1 => ?_) (fun h1 => ?_) <;> simp [go_sem] at h1 ⊢
    · refine Do.seqk fun _ k4_ => ?_
      refine Do.region [2] true ?_
      simp [go_sem]
      refine DoL.call true 201 rfl rfl rfl rfl (by first | exact trivial | omega | (simp; done) | (simp; omega)) (i1) rfl (by first | exact .inl rfl | exact .inr rfl) rfl ?_
      simp [go_sem]
      repeat (refine And.intro (by first | omega | (intros; omega) | (intros; exact And.intro (by assumption) (by omega)) | grind) ?_)
      apply k4_; clear k4_
      refine Do.ret ?_
      simp [endQ, rets, ret1, go_sem]
      repeat (refine And.intro (by first | omega | (intros; omega) | (intros; exact And.intro (by assumption) (by omega)) | grind) ?_)
      exact TLe.refl _
    · exact absurd (by omega) hk
theorem Holds_ok {f p : Int} {x : Fla} (hf : fmOk f p = true) (hx : x.Ok) (hl : x.m.length ≤ 4096) (h : (holdsP f p x.flt).2 = true) : Does Tryz.prog Gv 36 [Fm f p, Fl x.k x.n x.e x.m] (.v (.c (.i .i64 0))) := by
  have hO := @Floats_own f p [x] (by simp) (by simpa using hl) hf (by simpa using hx) (by simpa [allHold] using h)
  have hD : Does Tryz.prog Gv 84 [Fm f p, .s false [x.cs]] (.t [.s true ((heldL f p [x]).map Flt.cs), .c (.i .i64 0)]) := hO.does rfl (by simp)
  generalize (heldL f p [x]).map Flt.cs = rows at *
  refine Does.of (nt := 15) Tryz.func36 rfl rfl rfl (by simp) ?_
  simp only [argTm, PV.ext, Ce.ext]
  refine Do.seqk fun _ k1_ => ?_
  refine Do.region [2,3] true ?_
  simp [go_sem]
  apply k1_; clear k1_
  refine Do.seqk fun _ k2_ => ?_
  refine Do.region [6] true ?_
  simp [go_sem]
  repeat (refine And.intro (by first | omega | (intros; omega) | (intros; exact And.intro (by assumption) (by omega)) | grind) ?_)
  refine DoL.sealS true 103 102 rfl ?_
  simp [go_sem]
  refine DoL.call true 104 rfl rfl rfl rfl (by first | exact trivial | omega | (simp; done) | (simp; omega)) (hD) rfl (by first | exact .inl rfl | exact .inr rfl) rfl ?_
  simp [go_sem]
  apply k2_; clear k2_
  refine Do.seqk fun _ k3_ => ?_
  refine Do.region [4] true ?_
  simp [go_sem]
  apply k3_; clear k3_
  refine Do.ret ?_
  simp [endQ, rets, ret1, go_sem]
  repeat (refine And.intro (by first | omega | (intros; omega) | (intros; exact And.intro (by assumption) (by omega)) | grind) ?_)
  exact TLe.refl _
theorem Holds_flt {f p : Int} {x : Flt} (hf : fmOk f p = true) (hx : Fine x) (h : (holdsP f p x).2 = true) : Does Tryz.prog Gv 36 [Fm f p, x.pv] (.v (.c (.i .i64 0))) :=
  @Holds_ok f p x.fla hf ⟨hx.sh, nat_ws _, hx.e⟩ (by have := len_bl hx.v; show (nat x.v).length ≤ 4096; omega) (by rw [Flt.fla_flt]; exact h)
theorem Fine.rt {x : Flt} (hx : Fine x) : Rt x.fla := ⟨by rw [Flt.fla_flt]; exact hx.can, nat_ws _, by have := len_bl hx.v; show (nat x.v).length ≤ 4096; omega⟩
/-- A number in finer units. -/
theorem fv_fine {x : Flt} {z : Int} {K : Nat} (hK : -(K : Int) ≤ z) (hz : x.k = 1 → z ≤ x.e) : fv (-K) x = fv z x * ((2 ^ (z + K).toNat : Nat) : Int) := by
  unfold fv
  split
  · rename_i hk
    have h1 := hz hk
    unfold Nu.sv
    simp only []
    have h2 : x.v * 2 ^ (x.e - -(K : Int)).toNat = x.v * 2 ^ (x.e - z).toNat * 2 ^ (z + K).toNat := by
      rw [Nat.mul_assoc, ← Nat.pow_add]
      congr 2; omega
    rw [h2]
    split
    · rw [Int.natCast_mul (x.v * 2 ^ (x.e - z).toNat), Int.neg_mul]
    · rw [Int.natCast_mul (x.v * 2 ^ (x.e - z).toNat)]
  · simp
end Go.Proofs.YtdaecibpkhcllaaGreatDoor
/- What the floats of a pair add up to, plain. No condition. -/
namespace Go.Proofs.YtdaecibpkhcllaaGreatDoor
set_option linter.unusedVariables false
set_option linter.unusedSimpArgs false
set_option maxHeartbeats 4000000
set_option maxRecDepth 10000
theorem fv_bits {x : Flt} {K : Nat} (h : x.k = 1 → x.e ≤ 1048576) : bl (fv (-K) x).natAbs ≤ bl x.v + (1048577 + K) := by
  unfold fv
  split
  · rename_i hk
    have h1 := h hk
    have e : (Nu.sv (-(K : Int)) ⟨x.n, x.v, x.e⟩).natAbs = x.v * 2 ^ (x.e - -(K : Int)).toNat := by
      unfold Nu.sv
      simp only []
      generalize x.v * 2 ^ (x.e - -(K : Int)).toNat = u
      split <;> omega
    rw [e]
    have h2 := bl_mulN x.v (2 ^ (x.e - -(K : Int)).toNat)
    have h3 : bl (2 ^ (x.e - -(K : Int)).toNat) ≤ (x.e - -(K : Int)).toNat + 1 := by rw [bl_lt]; exact Nat.pow_lt_pow_right (by decide) (by omega)
    omega
  · rw [Int.natAbs_zero, bl_zero]; omega
/-- A right float as a rational number. -/
theorem FRatK {G : Gl} {x : Fla} (hx : Rt x) : ∃ z d, Does Tryz.prog G 38 [Fl x.k x.n x.e x.m] (.v (Qv z d)) ∧ Dq 1048576 z d (fv (-(1048576 : Nat)) x.flt) ∧ bl (fv (-(1048576 : Nat)) x.flt).natAbs ≤ 2400000 := by
  obtain ⟨z, d, h1, h2⟩ := @FRat G x hx 1048576 (by decide) (fun hk => (canon_one hx.can hk).1)
  refine ⟨z, d, h1, h2, ?_⟩
  have hb := @fv_bits x.flt 1048576 (fun hk => by have := canon_one hx.can hk; omega)
  have h3 := bl_le_ws hx.ws
  have h4 := hx.len
  have h5 : x.flt.v = val x.m := rfl
  rw [h5] at hb
  omega
end Go.Proofs.YtdaecibpkhcllaaGreatDoor
/- Sizes of floats of the reference; how expansions fall. No condition. -/
namespace Go.Proofs.YtdaecibpkhcllaaGreatDoor
set_option linter.unusedVariables false
set_option linter.unusedSimpArgs false
set_option maxHeartbeats 8000000
set_option maxRecDepth 10000
section
variable {G : Gl}
theorem RPlus15_does {x : Flt} (hx : Fine x) (hf : rcanon x = x) : Does Tryz.prog G 45 [x.pv] (.v (Flt.pv ⟨x.k, false, x.e, x.v⟩)) := by
  have hl := len_bl hx.v
  have h := @Canonical_does G x.k x.e x.n (nat x.v) (by omega) (nat_ws _) (good_md hx.can)
  rw [val_nat, show (⟨x.k, x.n, x.e, x.v⟩ : Flt) = x from rfl, hf] at h
  refine Does.of (nt := 7) Tryz.func45 rfl rfl rfl (by simp) ?_
  simp only [argTm, PV.ext, Ce.ext]
  refine Do.seqk fun _ k1_ => ?_
  refine Do.region [1,2] true ?_
  simp [go_sem]
  apply k1_; clear k1_
  refine Do.seqk fun _ k2_ => ?_
  refine Do.region [1,2] true ?_
  simp [go_sem]
  repeat (refine And.intro (by first | omega | (intros; omega) | (intros; exact And.intro (by assumption) (by omega)) | grind) ?_)
  refine DoL.call true 102 rfl rfl rfl rfl (by first | exact trivial | omega | (simp; done) | (simp; omega)) (h) rfl (by first | exact .inl rfl | exact .inr rfl) rfl ?_
  simp [go_sem]
  repeat (refine And.intro (by first | omega | (intros; omega) | (intros; exact And.intro (by assumption) (by omega)) | grind) ?_)
  apply k2_; clear k2_
  refine Do.seqk fun _ k3_ => ?_
  refine Do.region [1,2] true ?_
  simp [go_sem]
  repeat (refine And.intro (by first | omega | (intros; omega) | (intros; exact And.intro (by assumption) (by omega)) | grind) ?_)
  apply k3_; clear k3_
  refine Do.seqk fun _ k4_ => ?_
  refine Do.region [2] true ?_
  simp [go_sem]
  repeat (refine And.intro (by first | omega | (intros; omega) | (intros; exact And.intro (by assumption) (by omega)) | grind) ?_)
  apply k4_; clear k4_
  refine Do.ret ?_
  simp [endQ, rets, ret1, go_sem]
  repeat (refine And.intro (by first | omega | (intros; omega) | (intros; exact And.intro (by assumption) (by omega)) | grind) ?_)
  exact TLe.refl _
theorem rank_does {e : Int} {m : List Nat} : Does Tryz.prog G 92 [Fl 1 false e m] (.v (.c (.i .i64 1))) := by
  refine Does.of (nt := 15) Tryz.func92 rfl rfl rfl (by simp) ?_
  simp only [argTm, PV.ext, Ce.ext]
  refine Do.seqk fun _ k1_ => ?_
  refine Do.region [1] true ?_
  simp [go_sem]
  apply k1_; clear k1_
  refine Do.seqk fun _ k2_ => ?_
  refine Do.region [1,3] true ?_
  simp [go_sem]
  apply k2_; clear k2_
  refine Do.seqk fun _ k3_ => ?_
  refine Do.seqk fun _ k4_ => ?_
  refine Do.region [1,3,5] true ?_
  simp [go_sem]
  repeat (refine And.intro (by first | omega | (intros; omega) | (intros; exact And.intro (by assumption) (by omega)) | grind) ?_)
  apply k4_; clear k4_
  refine Do.block ?_
  refine Do.seqk fun _ k5_ => ?_
  refine Do.region [1,3,5,6] true ?_
  simp [go_sem]
  apply k5_; clear k5_
  refine Do.cond [1,3,5] rfl (fun h => ?_) (fun h => ?_) <;> simp [go_sem] at h ⊢
  refine Do.seqk fun _ k6_ => ?_
  refine Do.region [1,3,8] true ?_
  simp [go_sem]
  apply k6_; clear k6_
  refine Do.cond [1,3] rfl (fun h => ?_) (fun h => ?_) <;> simp [go_sem] at h ⊢
  refine Do.region [1,3] true ?_
  simp [go_sem]
  apply k3_; clear k3_
  refine Do.seqk fun _ k7_ => ?_
  refine Do.seqk fun _ k8_ => ?_
  refine Do.region [3,11] true ?_
  simp [go_sem]
  repeat (refine And.intro (by first | omega | (intros; omega) | (intros; exact And.intro (by assumption) (by omega)) | grind) ?_)
  apply k8_; clear k8_
  refine Do.cond [3] rfl (fun h => ?_) (fun h => ?_) <;> simp [go_sem] at h ⊢
  refine Do.skip ?_
  simp [go_sem]
  apply k7_; clear k7_
  refine Do.seqk fun _ k9_ => ?_
  refine Do.region [2] true ?_
  simp [go_sem]
  apply k9_; clear k9_
  refine Do.ret ?_
  simp [endQ, rets, ret1, go_sem]
  repeat (refine And.intro (by first | omega | (intros; omega) | (intros; exact And.intro (by assumption) (by omega)) | grind) ?_)
  exact TLe.refl _
theorem sign15_does {n : Int} (h : 0 < n) : Does Tryz.prog G 93 [.c (.i .i64 n)] (.v (.c (.i .i64 1))) := by
  refine Does.of (nt := 9) Tryz.func93 rfl rfl rfl (by simp) ?_
  simp only [argTm, PV.ext, Ce.ext]
  refine Do.seqk fun _ k1_ => ?_
  refine Do.region [0] true ?_
  simp [go_sem]
  apply k1_; clear k1_
  refine Do.seqk fun _ k2_ => ?_
  refine Do.block ?_
  refine Do.seqk fun _ k3_ => ?_
  refine Do.region [0,3] true ?_
  simp [go_sem]
  apply k3_; clear k3_
  refine Do.cond [0] rfl (fun h1 => ?_) (fun h1 => ?_) <;> simp [go_sem] at h1 ⊢
  · omega
  · refine Do.seqk fun _ k4_ => ?_
    refine Do.region [6] true ?_
    simp [go_sem]
    apply k4_; clear k4_
    refine Do.cond [] rfl (fun h2 => ?_) (fun h2 => ?_) <;> simp [go_sem] at h2 ⊢
    · refine Do.seqk fun _ k5_ => ?_
      refine Do.region [2] true ?_
      simp [go_sem]
      apply k5_; clear k5_
      refine Do.ret ?_
      simp [endQ, rets, ret1, go_sem]
      repeat (refine And.intro (by first | omega | (intros; omega) | (intros; exact And.intro (by assumption) (by omega)) | grind) ?_)
      exact TLe.refl _
    · omega
theorem RExp15_does {k e : Int} {n : Bool} {m : List Nat} (hm : m.length ≤ 1073741824) (wm : Ws m) (he : Md e) : Does Tryz.prog G 135 [Fl k n e m] (.v (.c (.i .i64 (bl (val m) - 1 + e)))) := by
  have h := @RLen_does G m hm wm
  have hb := bl_le_len wm (Nat.le_refl (val m))
  obtain ⟨h1, h2⟩ := he
  refine Does.of (nt := 10) Tryz.func135 rfl rfl rfl (by simp) ?_
  simp only [argTm, PV.ext, Ce.ext]
  refine Do.seqk fun _ k1_ => ?_
  refine Do.region [1] true ?_
  simp [go_sem]
  apply k1_; clear k1_
  refine Do.seqk fun _ k2_ => ?_
  refine Do.draw [2] true (by kernel_rfl) ?_
  simp [go_sem]
  repeat (refine And.intro (by first | omega | (intros; omega) | (intros; exact And.intro (by assumption) (by omega)) | kernel_rfl | grind) ?_)
  refine DoLD.call true 103 rfl rfl rfl rfl (by first | exact trivial | omega | (simp; done) | (simp; omega)) (h) rfl (by first | exact .inl rfl | exact .inr rfl) rfl ?_
  simp [go_sem]
  repeat (refine And.intro (by first | omega | (intros; omega) | (intros; exact And.intro (by assumption) (by omega)) | kernel_rfl | grind) ?_)
  try (refine And.intro (by kernel_rfl) ?_)
  apply k2_; clear k2_
  refine Do.ret ?_
  simp [endQ, rets, ret1, go_sem]
  repeat (refine And.intro (by first | omega | (intros; omega) | (intros; exact And.intro (by assumption) (by omega)) | grind) ?_)
  exact TLe.refl _
theorem Cmp15_does {x y : Flt} (hx : Fine x) (hy : Fine y) (kx : x.k = 1) (ky : y.k = 1) (h : y.e + bl y.v < x.e + bl x.v) : Does Tryz.prog G 44 [Flt.pv ⟨x.k, false, x.e, x.v⟩, Flt.pv ⟨y.k, false, y.e, y.v⟩] (.v (.c (.i .i64 1))) := by
  have hlx := len_bl hx.v
  have hly := len_bl hy.v
  have r1 := @rank_does G x.e (nat x.v)
  have r2 := @rank_does G y.e (nat y.v)
  have e1 := @RExp15_does G 1 x.e false (nat x.v) (by omega) (nat_ws _) (good_md hx.can)
  have e2 := @RExp15_does G 1 y.e false (nat y.v) (by omega) (nat_ws _) (good_md hy.can)
  rw [val_nat] at e1 e2
  have s1 := @sign15_does G (((bl x.v : Int) - 1 + x.e) - ((bl y.v : Int) - 1 + y.e)) (by omega)
  have cx := canon_one hx.can kx
  have cy := canon_one hy.can ky
  have vx := hx.v
  have vy := hy.v
  rw [kx, ky]
  have hsz : Does Tryz.prog G 94 [Fl 1 false x.e (nat x.v), Fl 1 false y.e (nat y.v)] (.v (.c (.i .i64 1))) := by
    have hne : ((bl x.v : Int) - 1 + x.e != (bl y.v : Int) - 1 + y.e) = true := by simp; omega
    generalize hA : (bl x.v : Int) - 1 + x.e = A at *
    generalize hB : (bl y.v : Int) - 1 + y.e = B at *
    refine Does.of (nt := 45) Tryz.func94 rfl rfl rfl (by simp) ?_
    simp only [argTm, PV.ext, Ce.ext]
    refine Do.seqk fun _ k1_ => ?_
    refine Do.region [2,3] true ?_
    simp [go_sem]
    apply k1_; clear k1_
    refine Do.seqk fun _ k2_ => ?_
    refine Do.seqk fun _ k3_ => ?_
    refine Do.draw [2,3,5,6] true (by kernel_rfl) ?_
    simp [go_sem]
    repeat (refine And.intro (by first | omega | (intros; omega) | (intros; exact And.intro (by assumption) (by omega)) | kernel_rfl | grind) ?_)
    refine DoLD.call true 102 rfl rfl rfl rfl (by first | exact trivial | omega | (simp; done) | (simp; omega)) (e1) rfl (by first | exact .inl rfl | exact .inr rfl) rfl ?_
    simp [go_sem]
    repeat (refine And.intro (by first | omega | (intros; omega) | (intros; exact And.intro (by assumption) (by omega)) | kernel_rfl | grind) ?_)
    refine DoLD.call true 104 rfl rfl rfl rfl (by first | exact trivial | omega | (simp; done) | (simp; omega)) (e2) rfl (by first | exact .inl rfl | exact .inr rfl) rfl ?_
    simp [go_sem]
    try (refine And.intro (by kernel_rfl) ?_)
    apply k3_; clear k3_
    refine Do.seqk fun _ k4_ => ?_
    refine Do.region [2,3,5,6,13] true ?_
    simp [go_sem, hne]
    apply k4_; clear k4_
    refine Do.cond [2,3,5,6] rfl (fun g => ?_) (fun g => ?_) <;> simp [go_sem, hne] at g ⊢
    refine Do.seqk fun _ k5_ => ?_
    refine Do.region [4] true ?_
    simp [go_sem, hne]
    repeat (refine And.intro (by first | omega | (intros; omega) | (intros; exact And.intro (by assumption) (by omega)) | grind) ?_)
    refine DoL.call true 304 rfl rfl rfl rfl (by first | exact trivial | omega | (simp; done) | (simp; omega)) (s1) rfl (by first | exact .inl rfl | exact .inr rfl) rfl ?_
    simp [go_sem, hne]
    apply k5_; clear k5_
    refine Do.ret ?_
    simp [endQ, rets, ret1, go_sem, hne]
    repeat (refine And.intro (by first | omega | (intros; omega) | (intros; exact And.intro (by assumption) (by omega)) | grind) ?_)
    exact TLe.refl _
  refine Does.of (nt := 35) Tryz.func44 rfl rfl rfl (by simp) ?_
  simp only [argTm, PV.ext, Ce.ext]
  refine Do.seqk fun _ k1_ => ?_
  refine Do.region [2,3] true ?_
  simp [go_sem]
  apply k1_; clear k1_
  refine Do.seqk fun _ k2_ => ?_
  refine Do.draw [2,3,5,6] true (by kernel_rfl) ?_
  simp [go_sem]
  repeat (refine And.intro (by first | omega | (intros; omega) | (intros; exact And.intro (by assumption) (by omega)) | kernel_rfl | grind) ?_)
  refine DoLD.call true 102 rfl rfl rfl rfl (by first | exact trivial | omega | (simp; done) | (simp; omega)) (r1) rfl (by first | exact .inl rfl | exact .inr rfl) rfl ?_
  simp [go_sem]
  repeat (refine And.intro (by first | omega | (intros; omega) | (intros; exact And.intro (by assumption) (by omega)) | kernel_rfl | grind) ?_)
  refine DoLD.call true 104 rfl rfl rfl rfl (by first | exact trivial | omega | (simp; done) | (simp; omega)) (r2) rfl (by first | exact .inl rfl | exact .inr rfl) rfl ?_
  simp [go_sem]
  try (refine And.intro (by kernel_rfl) ?_)
  apply k2_; clear k2_
  refine Do.seqk fun _ k3_ => ?_
  refine Do.seqk fun _ k4_ => ?_
  refine Do.region [2,3,5,6,22] true ?_
  simp [go_sem]
  apply k4_; clear k4_
  refine Do.cond [2,3,5,6] rfl (fun g => ?_) (fun g => ?_) <;> simp [go_sem] at g ⊢
  refine Do.skip ?_
  simp [go_sem]
  apply k3_; clear k3_
  refine Do.seqk fun _ k5_ => ?_
  refine Do.region [5,7] true ?_
  simp [go_sem]
  repeat (refine And.intro (by first | omega | (intros; omega) | (intros; exact And.intro (by assumption) (by omega)) | grind) ?_)
  refine DoL.call true 403 rfl rfl rfl rfl (by first | exact trivial | omega | (simp; done) | (simp; omega)) (hsz) rfl (by first | exact .inl rfl | exact .inr rfl) rfl ?_
  simp [go_sem]
  apply k5_; clear k5_
  refine Do.seqk fun _ k6_ => ?_
  refine Do.seqk fun _ k7_ => ?_
  refine Do.region [7,31] true ?_
  simp [go_sem]
  apply k7_; clear k7_
  refine Do.cond [7] rfl (fun g2 => ?_) (fun g2 => ?_) <;> simp [go_sem] at g2 ⊢
  refine Do.skip ?_
  simp [go_sem]
  apply k6_; clear k6_
  refine Do.seqk fun _ k8_ => ?_
  refine Do.region [4] true ?_
  simp [go_sem]
  apply k8_; clear k8_
  refine Do.ret ?_
  simp [endQ, rets, ret1, go_sem]
  repeat (refine And.intro (by first | omega | (intros; omega) | (intros; exact And.intro (by assumption) (by omega)) | grind) ?_)
  exact TLe.refl _
end
theorem round_top17 {f p r : Int} (hf : fmOk f p = true) {n : Bool} {V : Nat} {z : Int} (hV : 0 < V) (hk : (roundP f p r n V z false).1.k = 1) : (roundP f p r n V z false).1.e + bl (roundP f p r n V z false).1.v ≤ gOfE f + 1 ∧ (bl (roundP f p r n V z false).1.v : Int) ≤ p := by
  obtain ⟨b1, b2, b3, b4⟩ := fmOk_spec hf
  obtain ⟨b5, b6⟩ := gOfE_le b1 b2
  have hp := bl_pos hV
  have hu : 1 - gOfE f - (p - 1) ≤ stepP f p (z + bl V - 1) ∧ z + bl V - stepP f p (z + bl V - 1) ≤ p := by unfold stepP; split <;> omega
  unfold roundP at hk ⊢
  simp only [] at hk ⊢
  generalize stepP f p (z + bl V - 1) = u at *
  have hc : bl (cutP V (u - z) false).1 ≤ p.toNat := by
    unfold cutP
    split
    · simp only []
      rw [bl_mul_pow _ _ hV]; omega
    · simp only []
      rw [bl_div]; omega
  have hq : upP r n (cutP V (u - z) false).1 (cutP V (u - z) false).2 ≤ 2 ^ p.toNat := by
    have h1 := (bl_lt _ _).1 hc
    unfold upP
    split <;> omega
  generalize upP r n (cutP V (u - z) false).1 (cutP V (u - z) false).2 = q at *
  split at hk
  · rename_i h
    rw [if_pos h]
    split at hk
    · rename_i h2
      rw [if_pos h2]
      simp only []
      have : bl (2 ^ p.toNat - 1) ≤ p.toNat := (bl_lt _ _).2 (by have := Nat.pow_pos (n := p.toNat) (show 0 < 2 by decide); omega)
      omega
    · simp at hk
  · rename_i h
    rw [if_neg h]
    simp only [] at hk ⊢
    unfold mkP at hk ⊢
    split at hk
    · simp at hk
    · rename_i h0
      rw [if_neg h0]
      simp only [bl_div]
      have := tz_lt_bl (show 0 < q by omega)
      refine ⟨by omega, ?_⟩
      by_cases hqe : q = 2 ^ p.toNat
      · have ht := tz_odd p.toNat 0
        simp only [Nat.mul_zero, Nat.zero_add, Nat.mul_one] at ht
        have hb : bl (2 ^ p.toNat) = p.toNat + 1 := by have := bl_mul_pow 1 p.toNat (by decide); rw [Nat.one_mul] at this; rw [this]; rfl
        rw [hqe, ht, hb]; omega
      · have := (bl_lt q p.toNat).2 (by omega)
        omega
theorem stepX_held {f p : Int} (hf : fmOk f p = true) {R : Int} (hR : R ≠ 0) (hk : (stepX f p R).k ≠ 2) : holdsP f p (stepX f p R) = (stepX f p R, true) ∧ (stepX f p R).e + bl (stepX f p R).v ≤ gOfE f + 1 := by
  obtain ⟨hx, _⟩ := stepX_spec hf hR hk
  have ht := @round_top17 f p 0 hf (decide (R < 0)) R.natAbs (tiny f p) (by omega) hx.k
  have hc : canon (stepX f p R) = (stepX f p R, true) := by
    refine Prod.ext ?_ hx.fine.can
    show (canon (stepX f p R)).1 = _
    rw [← rcanon_good hx.fine.can, hx.fix]
  refine ⟨?_, ht.1⟩
  have hl := hx.low
  have hkk := hx.k
  have h1 : (stepX f p R).e + bl (stepX f p R).v ≤ gOfE f + 1 := ht.1
  have h2 : (bl (stepX f p R).v : Int) ≤ p := ht.2
  have htd : tiny f p = 1 - gOfE f - (p - 1) := rfl
  unfold holdsP
  rw [hc]
  simp only []
  rw [if_neg (by simp [hkk])]
  congr 1
  simp; omega
/-- The next float is smaller by the precision. -/
theorem step_drop {f p : Int} (hf : fmOk f p = true) {R : Int} (hR : R ≠ 0) (hk : (stepX f p R).k ≠ 2) (hR2 : nextX f p R ≠ 0) (hk2 : (stepX f p (nextX f p R)).k ≠ 2) : (stepX f p (nextX f p R)).e + bl (stepX f p (nextX f p R)).v + p ≤ (stepX f p R).e + bl (stepX f p R).v := by
  obtain ⟨b1, b2, b3, b4⟩ := fmOk_spec hf
  obtain ⟨q, j, hn, hm, hv⟩ := round_step hf hR hk
  obtain ⟨q', j', hn', hm', hv'⟩ := round_step hf hR2 hk2
  have e0 : (stepX f p R) = mkP (decide (R < 0)) q (tiny f p + j) := hm
  have e0' : stepX f p (nextX f p R) = mkP (decide (nextX f p R < 0)) q' (tiny f p + j') := hm'
  have hx := (stepX_spec hf hR hk).1.k
  have hx' := (stepX_spec hf hR2 hk2).1.k
  rw [e0] at hx
  rw [e0'] at hx'
  have hq : q ≠ 0 := fun h => by unfold mkP at hx; rw [if_pos h] at hx; cases hx
  have hq' : q' ≠ 0 := fun h => by unfold mkP at hx'; rw [if_pos h] at hx'; cases hx'
  have ex : (stepX f p R).e + bl (stepX f p R).v = tiny f p + j + bl q := by
    rw [e0]
    unfold mkP
    rw [if_neg hq]
    simp only [bl_div]
    have := tz_lt_bl (Nat.pos_of_ne_zero hq)
    omega
  have ex' : (stepX f p (nextX f p R)).e + bl (stepX f p (nextX f p R)).v = tiny f p + j' + bl q' := by
    rw [e0']
    unfold mkP
    rw [if_neg hq']
    simp only [bl_div]
    have := tz_lt_bl (Nat.pos_of_ne_zero hq')
    omega
  rw [ex, ex']
  have e2 : (nextX f p R).natAbs = ((R.natAbs : Int) - (q * 2 ^ j : Nat)).natAbs := by
    have e3 : fv (tiny f p) (stepX f p R) = sgn (decide (R < 0)) (q * 2 ^ j) := hv
    unfold nextX
    rw [e3]
    generalize q * 2 ^ j = X
    unfold sgn
    split <;> rename_i h <;> simp at h <;> omega
  obtain ⟨_, big, up, dn⟩ := hn
  obtain ⟨_, big', up', dn'⟩ := hn'
  have hV2 : 0 < (nextX f p R).natAbs := by omega
  generalize (nextX f p R).natAbs = V' at *
  generalize R.natAbs = V at *
  have hj : j ≠ 0 := fun h => by
    subst h
    rw [Nat.pow_zero, Nat.mul_one] at up dn e2
    omega
  obtain ⟨i, rfl⟩ : ∃ i, j = i + 1 := ⟨j - 1, by omega⟩
  have big : 2 ^ (p.toNat - 1) * 2 ^ (i + 1) ≤ V := by
    rcases big with h | h
    · omega
    · exact h
  rw [Nat.pow_succ] at up dn e2 big
  have hV' : V' ≤ 2 ^ i := by
    generalize q * (2 ^ i * 2) = X at *
    omega
  have hqb : 2 ^ (p.toNat - 1) ≤ q := by
    apply Nat.le_of_not_lt
    intro h
    have h2 : (q + 1) * (2 ^ i * 2) ≤ 2 ^ (p.toNat - 1) * (2 ^ i * 2) := Nat.mul_le_mul_right _ h
    have h3 := Nat.pow_pos (n := i) (show 0 < 2 by decide)
    rw [Nat.add_mul, Nat.one_mul] at h2
    generalize q * (2 ^ i * 2) = X at *
    omega
  have hbq : p.toNat ≤ bl q := by
    have := (bl_le q (p.toNat - 1)).2 hqb
    omega
  have hs : q' * 2 ^ j' < 2 ^ (i + 1) := by
    rw [Nat.pow_succ]
    rcases big' with h | h
    · have : j' = 0 := by omega
      subst this
      rw [Nat.pow_zero, Nat.mul_one] at up' dn' ⊢
      have h3 := Nat.pow_pos (n := i) (show 0 < 2 by decide)
      omega
    · have h4 : 2 ≤ 2 ^ (p.toNat - 1) := by
        obtain ⟨m, hm⟩ : ∃ m, p.toNat - 1 = m + 1 := ⟨p.toNat - 2, by omega⟩
        have := Nat.pow_pos (n := m) (show 0 < 2 by decide)
        rw [hm, Nat.pow_succ]; omega
      have h5 := Nat.mul_le_mul_right (2 ^ j') h4
      have h3 := Nat.pow_pos (n := j') (show 0 < 2 by decide)
      generalize q' * 2 ^ j' = Y at *
      omega
  have hbs : bl (q' * 2 ^ j') ≤ i + 1 := (bl_lt _ _).2 hs
  rw [bl_mul_pow _ _ (Nat.pos_of_ne_zero hq')] at hbs
  omega
end Go.Proofs.YtdaecibpkhcllaaGreatDoor
/- What the floats of an expansion add up to, and how many they are. No condition. -/
namespace Go.Proofs.YtdaecibpkhcllaaGreatDoor
set_option linter.unusedVariables false
set_option linter.unusedSimpArgs false
set_option maxHeartbeats 8000000
set_option maxRecDepth 10000
def exq (x : Flt) : Int := x.e + bl x.v
theorem expX_head {f p : Int} {n : Nat} {R : Int} {s : Flt} {l : List Flt} (h : expX f p n R = some (s :: l)) : R ≠ 0 ∧ s = stepX f p R ∧ (stepX f p R).k ≠ 2 ∧ ∃ m, expX f p m (nextX f p R) = some l := by
  cases n with
  | zero => simp [expX] at h
  | succ n =>
    rw [expX] at h
    split at h
    · simp at h
    · rename_i hR
      split at h
      · cases h
      · rename_i hk
        obtain ⟨l', h1, h2⟩ := Option.map_eq_some_iff.1 h
        injection h2 with h2 h3
        subst h3
        exact ⟨hR, h2.symm, hk, n, h1⟩
theorem expX_nil {f p : Int} {n : Nat} {R : Int} (h : expX f p n R = some []) : R = 0 := by
  cases n with
  | zero => simp [expX] at h
  | succ n =>
    rw [expX] at h
    split at h
    · assumption
    · split at h
      · cases h
      · obtain ⟨l', h1, h2⟩ := Option.map_eq_some_iff.1 h
        cases h2
theorem svs_cons (z : Int) (x : Flt) (l : List Flt) : svs z (x :: l) = fv z x + svs z l := rfl
theorem expX_sum {f p : Int} : ∀ {out : List Flt} {n : Nat} {R : Int}, expX f p n R = some out → svs (tiny f p) out = R
  | [], n, R, h => by rw [expX_nil h]; rfl
  | s :: l, n, R, h => by
    obtain ⟨hR, hs, hk, m, h1⟩ := expX_head h
    rw [svs_cons, expX_sum h1, hs]
    unfold nextX
    omega
theorem expX_count {f p : Int} (hf : fmOk f p = true) : ∀ {l : List Flt} {s : Flt} {n : Nat} {R : Int}, expX f p n R = some (s :: l) → (l.length : Int) * p + tiny f p + 1 ≤ exq s
  | [], s, n, R, h => by
    obtain ⟨hR, hs, hk, m, h1⟩ := expX_head h
    obtain ⟨hx, _⟩ := stepX_spec hf hR hk
    have h2 := hx.low
    have h3 := bl_pos (Nat.pos_of_ne_zero (canon_one hx.fine.can hx.k).2.2)
    rw [hs]
    unfold exq
    simp only [List.length_nil]
    omega
  | s' :: l, s, n, R, h => by
    obtain ⟨hR, hs, hk, m, h1⟩ := expX_head h
    obtain ⟨hR2, hs2, hk2, m2, h2⟩ := expX_head h1
    have h3 := expX_count hf h1
    have h4 := step_drop hf hR hk hR2 hk2
    rw [← hs2, ← hs] at h4
    unfold exq at h3 ⊢
    rw [List.length_cons]
    have e : ((l.length + 1 : Nat) : Int) * p = (l.length : Int) * p + p := by
      rw [Int.natCast_add, Int.add_mul]; simp
    rw [e]
    omega
theorem expX_desc {f p : Int} (hf : fmOk f p = true) : ∀ {out : List Flt} {n : Nat} {R : Int}, expX f p n R = some out → ∀ (i : Nat) (x y : Flt), out[i]? = some x → out[i + 1]? = some y → exq y + p ≤ exq x
  | [], n, R, h, i, x, y, hx, hy => by simp at hx
  | [s], n, R, h, i, x, y, hx, hy => by simp at hy
  | s :: s' :: l, n, R, h, i, x, y, hx, hy => by
    obtain ⟨hR, hs, hk, m, h1⟩ := expX_head h
    cases i with
    | zero =>
      obtain ⟨hR2, hs2, hk2, m2, h2⟩ := expX_head h1
      have h4 := step_drop hf hR hk hR2 hk2
      rw [← hs2, ← hs] at h4
      simp only [List.getElem?_cons_zero, Option.some.injEq] at hx
      simp only [Nat.zero_add, List.getElem?_cons_succ, List.getElem?_cons_zero, Option.some.injEq] at hy
      subst hx
      subst hy
      exact h4
    | succ i =>
      rw [List.getElem?_cons_succ] at hx hy
      exact expX_desc hf h1 i x y hx hy
theorem expX_holds {f p : Int} (hf : fmOk f p = true) : ∀ {out : List Flt} {n : Nat} {R : Int}, expX f p n R = some out → ∀ x ∈ out, Exf f p x ∧ holdsP f p x = (x, true) ∧ exq x ≤ gOfE f + 1
  | [], n, R, h, x, hx => by cases hx
  | s :: l, n, R, h, x, hx => by
    obtain ⟨hR, hs, hk, m, h1⟩ := expX_head h
    rcases List.mem_cons.1 hx with rfl | hx
    · rw [hs]
      exact ⟨(stepX_spec hf hR hk).1, stepX_held hf hR hk⟩
    · exact expX_holds hf h1 x hx
theorem svs_lowK {z : Int} {K : Nat} (hK : -(K : Int) ≤ z) : ∀ {L : List Flt}, (∀ x ∈ L, x.k = 1 → z ≤ x.e) → svs (-K) L = svs z L * ((2 ^ (z + K).toNat : Nat) : Int)
  | [], _ => by simp [svs]
  | x :: L, h => by
    rw [svs_cons, svs_cons, Int.add_mul, svs_lowK hK (fun y hy => h y (List.mem_cons_of_mem _ hy)), fv_fine hK (h x (List.mem_cons_self ..))]
theorem svs_few {K : Nat} {L : List Flt} (hK : K ≤ 2000000) (hl : L.length ≤ 300000) (h : ∀ x ∈ L, x.k = 1 → -(K : Int) ≤ x.e ∧ exq x ≤ 16384) : bl (svs (-K) L).natAbs ≤ 3000000 := by
  obtain ⟨B, hB⟩ : ∃ B, B = K + 16385 := ⟨_, rfl⟩
  have hb := @svs_bound (-K) (2 ^ B) L fun x hx hk => Nat.le_of_lt ((bl_lt _ _).1 (by
    obtain ⟨h1, h2⟩ := h x hx hk
    unfold exq at h2
    by_cases h0 : x.v = 0
    · rw [h0]; simp [bl_zero]
    · rw [bl_mul_pow _ _ (by omega)]; omega))
  have h2 : bl (svs (-K) L).natAbs ≤ 20 + B := by
    rw [bl_lt]
    refine Nat.lt_of_le_of_lt hb ?_
    rw [Nat.pow_add]
    exact Nat.mul_lt_mul_of_pos_right (Nat.lt_of_le_of_lt hl (by decide)) (Nat.pow_pos (by decide))
  omega
/-- The sum of the first i of some floats. -/
def sumF (K : Nat) (l : List Fla) (i : Nat) : Int := svs (-K) ((l.take i).map Fla.flt)
theorem sumF_next {K : Nat} {l : List Fla} {i : Nat} {x : Fla} (h : l[i]? = some x) : sumF K l (i + 1) = sumF K l i + fv (-K) x.flt := by
  unfold sumF
  rw [List.take_add_one, h]
  simp only [Option.toList_some, List.map_append, List.map_cons, List.map_nil]
  rw [svs_append, svs_cons]
  simp [svs]
theorem sumF_bl {K : Nat} {l : List Fla} (h : ∀ x ∈ l, bl (fv (-K) x.flt).natAbs ≤ 2400000) : ∀ i, i ≤ l.length → bl (sumF K l i).natAbs ≤ 2400000 + i
  | 0, _ => by unfold sumF; simp [svs, bl_zero]
  | i + 1, hi => by
    obtain ⟨x, hx⟩ : ∃ x, l[i]? = some x := ⟨_, List.getElem?_eq_getElem (by omega)⟩
    rw [sumF_next hx]
    have h1 := sumF_bl h i (by omega)
    have h2 := h x (List.mem_of_getElem? hx)
    have h3 := bl_addz (sumF K l i) (fv (-K) x.flt)
    omega
theorem sumF_all {K : Nat} {f p : Int} {l : List Fla} (h : ∀ x ∈ l, (holdsP f p x.flt).2 = true ∧ (x.k = 1 → -(K : Int) ≤ x.e)) : sumF K l l.length = svs (-K) (heldL f p l) := by
  unfold sumF
  rw [List.take_length]
  induction l with
  | nil => rfl
  | cons x l ih =>
    have h1 := h x (List.mem_cons_self ..)
    simp only [heldL, List.map_cons]
    rw [svs_cons, svs_cons, ih (fun y hy => h y (List.mem_cons_of_mem _ hy)), ← (held_rcanon h1.1).1, fv_rcan (fun hk => h1.2 hk)]
    rfl
end Go.Proofs.YtdaecibpkhcllaaGreatDoor
/- An expansion of few floats has few floats. No condition. -/
namespace Go.Proofs.YtdaecibpkhcllaaGreatDoor
set_option linter.unusedVariables false
set_option linter.unusedSimpArgs false
set_option maxHeartbeats 8000000
set_option maxRecDepth 10000
theorem step_unit {f p : Int} (hf : fmOk f p = true) {R : Int} (hR : R ≠ 0) (hk : (stepX f p R).k ≠ 2) : ∃ j : Nat, ((2 ^ j : Nat) : Int) ∣ R - nextX f p R ∧ 2 * (nextX f p R).natAbs ≤ 2 ^ j ∧ (j = 0 ∨ 2 ^ (p.toNat - 1) * 2 ^ j ≤ R.natAbs) := by
  obtain ⟨q, j, hn, hm, hv⟩ := round_step hf hR hk
  have e3 : fv (tiny f p) (stepX f p R) = sgn (decide (R < 0)) (q * 2 ^ j) := hv
  obtain ⟨_, big, up, dn⟩ := hn
  refine ⟨j, ?_, ?_, ?_⟩
  · have e : R - nextX f p R = sgn (decide (R < 0)) (q * 2 ^ j) := by
      unfold nextX; rw [e3]; omega
    rw [e]
    refine ⟨sgn (decide (R < 0)) q, ?_⟩
    unfold sgn
    split
    · rw [Int.natCast_mul, Int.mul_neg, Int.mul_comm (q : Int)]
    · rw [Int.natCast_mul, Int.mul_comm (q : Int)]
  · unfold nextX
    rw [e3]
    generalize q * 2 ^ j = X at *
    unfold sgn
    split <;> rename_i h <;> simp at h <;> omega
  · rcases big with h | h
    · exact .inl (by omega)
    · exact .inr h
theorem dvd_small {P : Nat} {R : Int} (h : (P : Int) ∣ R) (hl : R.natAbs < P) : R = 0 := by
  have h1 := Int.natAbs_dvd_natAbs.2 h
  rw [Int.natAbs_natCast] at h1
  have := Nat.eq_zero_of_dvd_of_lt h1 hl
  omega
theorem pow_dvd_int {a b : Nat} (h : a ≤ b) : ((2 ^ a : Nat) : Int) ∣ ((2 ^ b : Nat) : Int) := Int.natCast_dvd_natCast.2 (Nat.pow_dvd_pow 2 h)
theorem svs_cut {z : Int} {j : Nat} : ∀ {L : List Flt}, (∀ x ∈ L, x.k = 1 → z ≤ x.e) → ((2 ^ j : Nat) : Int) ∣ svs z L - svs z (L.filter fun x => decide (x.k = 1) && decide (x.e - z < j))
  | [], _ => by simp [svs]
  | x :: L, h => by
    have ih := svs_cut (z := z) (j := j) (L := L) (fun y hy => h y (List.mem_cons_of_mem _ hy))
    by_cases hx : (decide (x.k = 1) && decide (x.e - z < j)) = true
    · rw [List.filter_cons_of_pos (by exact hx), svs_cons, svs_cons]
      rw [show fv z x + svs z L - (fv z x + svs z (L.filter fun x => decide (x.k = 1) && decide (x.e - z < j))) = svs z L - svs z (L.filter fun x => decide (x.k = 1) && decide (x.e - z < j)) by omega]
      exact ih
    · rw [List.filter_cons_of_neg (by exact hx), svs_cons]
      have hd : ((2 ^ j : Nat) : Int) ∣ fv z x := by
        unfold fv
        split
        · rename_i hk
          have he : (j : Int) ≤ x.e - z := by
            simp [hk] at hx; omega
          have e1 : x.v * 2 ^ (x.e - z).toNat = x.v * 2 ^ ((x.e - z).toNat - j) * 2 ^ j := by
            rw [Nat.mul_assoc, ← Nat.pow_add]; congr 2; omega
          unfold Nu.sv
          simp only []
          rw [e1]
          have h2 : ((2 ^ j : Nat) : Int) ∣ ((x.v * 2 ^ ((x.e - z).toNat - j) * 2 ^ j : Nat) : Int) := Int.natCast_dvd_natCast.2 (Nat.dvd_mul_left _ _)
          split
          · exact Int.dvd_neg.2 h2
          · exact h2
        · exact Int.dvd_zero _
      rw [show fv z x + svs z L - svs z (L.filter fun x => decide (x.k = 1) && decide (x.e - z < j)) = fv z x + (svs z L - svs z (L.filter fun x => decide (x.k = 1) && decide (x.e - z < j))) by omega]
      exact Int.dvd_add hd ih
theorem max_one : ∀ (L : List Flt), (∀ x ∈ L, x.k ≠ 1) ∨ ∃ x ∈ L, x.k = 1 ∧ ∀ y ∈ L, y.k = 1 → y.e ≤ x.e
  | [] => .inl (fun x hx => by cases hx)
  | a :: L => by
    rcases max_one L with h | ⟨x, hx, hk, hm⟩
    · by_cases ha : a.k = 1
      · refine .inr ⟨a, List.mem_cons_self .., ha, fun y hy hyk => ?_⟩
        rcases List.mem_cons.1 hy with rfl | hy
        · exact Int.le_refl _
        · exact absurd hyk (h y hy)
      · refine .inl fun y hy => ?_
        rcases List.mem_cons.1 hy with rfl | hy
        · exact ha
        · exact h y hy
    · by_cases ha : a.k = 1 ∧ x.e < a.e
      · refine .inr ⟨a, List.mem_cons_self .., ha.1, fun y hy hyk => ?_⟩
        rcases List.mem_cons.1 hy with rfl | hy
        · exact Int.le_refl _
        · have := hm y hy hyk; omega
      · refine .inr ⟨x, List.mem_cons_of_mem _ hx, hk, fun y hy hyk => ?_⟩
        rcases List.mem_cons.1 hy with rfl | hy
        · omega
        · exact hm y hy hyk
theorem svs_none {z : Int} : ∀ {L : List Flt}, (∀ x ∈ L, x.k ≠ 1) → svs z L = 0
  | [], _ => rfl
  | x :: L, h => by
    rw [svs_cons, svs_none (fun y hy => h y (List.mem_cons_of_mem _ hy))]
    unfold fv
    rw [if_neg (h x (List.mem_cons_self ..))]
    rfl
theorem expX_out {f p : Int} {n : Nat} {out : List Flt} (h : expX f p n 0 = some out) : out = [] := by
  cases n with
  | zero => simp [expX] at h
  | succ n =>
    rw [expX, if_pos rfl] at h
    injection h with h
    exact h.symm
theorem few_out {f p : Int} (hf : fmOk f p = true) : ∀ (N : Nat) {L : List Flt}, L.length ≤ N → N ≤ 30 → (∀ x ∈ L, x.k = 1 → tiny f p ≤ x.e ∧ (bl x.v : Int) ≤ p) → ∀ {m n : Nat} {R : Int} {out : List Flt}, expX f p n R = some out → ((2 ^ m : Nat) : Int) ∣ R - svs (tiny f p) L → 2 * R.natAbs ≤ 2 ^ m → out.length ≤ 4 * N
  | N, L, hl, hN, hL, m, n, R, out, h, hd, hm => by
    obtain ⟨b1, b2, b3, b4⟩ := fmOk_spec hf
    have hpm : 0 < 2 ^ m := Nat.pow_pos (by decide)
    rcases max_one L with h0 | ⟨x, hx, hxk, hmax⟩
    · rw [svs_none h0, Int.sub_zero] at hd
      have := dvd_small hd (by omega)
      subst this
      rw [expX_out h]
      simp
    · obtain ⟨N', rfl⟩ : ∃ N', N = N' + 1 := ⟨N - 1, by
        have : 0 < L.length := List.length_pos_of_mem hx
        omega⟩
      obtain ⟨E, hE⟩ : ∃ E : Nat, x.e - tiny f p = E := ⟨(x.e - tiny f p).toNat, by have := (hL x hx hxk).1; omega⟩
      have hP : 0 < 2 ^ (E + p.toNat) := Nat.pow_pos (by decide)
      have hS : (svs (tiny f p) L).natAbs ≤ L.length * 2 ^ (E + p.toNat) := @svs_bound (tiny f p) (2 ^ (E + p.toNat)) L fun y hy hyk => Nat.le_of_lt ((bl_lt _ _).1 (by
        have h1 := hL y hy hyk
        have h2 := hmax y hy hyk
        by_cases hv : y.v = 0
        · rw [hv]; simp [bl_zero]
        · rw [bl_mul_pow _ _ (by omega)]; omega))
      have hS2 : (svs (tiny f p) L).natAbs ≤ 30 * 2 ^ (E + p.toNat) := Nat.le_trans hS (Nat.mul_le_mul_right _ (by omega))
      have hRb : R.natAbs ≤ 32 * 2 ^ (E + p.toNat) := by
        by_cases hmE : m ≤ E + p.toNat + 6
        · have h1 : 2 ^ m ≤ 2 ^ (E + p.toNat + 6) := Nat.pow_le_pow_right (by decide) hmE
          rw [Nat.pow_add 2 (E + p.toNat) 6] at h1
          generalize 2 ^ (E + p.toNat) = Q at *
          generalize 2 ^ m = M at *
          omega
        · have h1 : 2 ^ (E + p.toNat + 7) ≤ 2 ^ m := Nat.pow_le_pow_right (by decide) (by omega)
          rw [Nat.pow_add 2 (E + p.toNat) 7] at h1
          have h2 : R - svs (tiny f p) L = 0 := dvd_small hd (by
            generalize 2 ^ (E + p.toNat) = Q at *
            generalize 2 ^ m = M at *
            omega)
          generalize 2 ^ (E + p.toNat) = Q at *
          omega
      match out, h with
      | [], _ => simp
      | [_], _ => simp; omega
      | [_, _], _ => simp; omega
      | [_, _, _], _ => simp; omega
      | s1 :: s2 :: s3 :: s4 :: rest, h =>
        obtain ⟨k1, _, c1, n1, h1⟩ := expX_head h
        obtain ⟨k2, _, c2, n2, h2⟩ := expX_head h1
        obtain ⟨k3, _, c3, n3, h3⟩ := expX_head h2
        obtain ⟨k4, _, c4, n4, h4⟩ := expX_head h3
        obtain ⟨j1, d1, u1, v1⟩ := step_unit hf k1 c1
        obtain ⟨j2, d2, u2, v2⟩ := step_unit hf k2 c2
        obtain ⟨j3, d3, u3, v3⟩ := step_unit hf k3 c3
        obtain ⟨j4, d4, u4, v4⟩ := step_unit hf k4 c4
        generalize hR1 : nextX f p R = R1 at *
        generalize hR2 : nextX f p R1 = R2 at *
        generalize hR3 : nextX f p R2 = R3 at *
        generalize hR4 : nextX f p R3 = R4 at *
        have key : ∀ (j j' : Nat) (V : Int), V ≠ 0 → 2 * V.natAbs ≤ 2 ^ j → (j' = 0 ∨ 2 ^ (p.toNat - 1) * 2 ^ j' ≤ V.natAbs) → 1 ≤ j ∧ (j' = 0 ∨ j' + 2 ≤ j) := fun j j' V hV ha hb => by
          have hj : 1 ≤ j := by
            cases j with
            | zero => rw [Nat.pow_zero] at ha; omega
            | succ j => omega
          refine ⟨hj, ?_⟩
          rcases hb with hb | hb
          · exact .inl hb
          · right
            rw [← Nat.pow_add] at hb
            have h5 : 2 ^ (p.toNat - 1 + j' + 1) ≤ 2 ^ j := by rw [Nat.pow_succ]; omega
            have := (Nat.pow_le_pow_iff_right (show 1 < 2 by decide)).1 h5
            omega
        have g2 := key j1 j2 R1 k2 u1 v2
        have g3 := key j2 j3 R2 k3 u2 v3
        have g4 := key j3 j4 R3 k4 u3 v4
        have g1 : j1 ≤ E + 6 := by
          rcases v1 with v1 | v1
          · omega
          · rw [← Nat.pow_add] at v1
            have h5 : 2 ^ (p.toNat - 1 + j1) ≤ 2 ^ (E + p.toNat + 5) := by
              rw [Nat.pow_add 2 (E + p.toNat) 5]; omega
            have := (Nat.pow_le_pow_iff_right (show 1 < 2 by decide)).1 h5
            omega
        have gm : j1 ≤ m := by
          rcases v1 with v1 | v1
          · omega
          · rw [← Nat.pow_add] at v1
            have h5 : 2 ^ (p.toNat - 1 + j1) ≤ 2 ^ m := by omega
            have := (Nat.pow_le_pow_iff_right (show 1 < 2 by decide)).1 h5
            omega
        have hj4 : j4 ≤ E := by omega
        have hdd : ((2 ^ j4 : Nat) : Int) ∣ R4 - svs (tiny f p) (L.filter fun x => decide (x.k = 1) && decide (x.e - tiny f p < j4)) := by
          have a1 := Int.dvd_trans (pow_dvd_int (show j4 ≤ j1 by omega)) d1
          have a2 := Int.dvd_trans (pow_dvd_int (show j4 ≤ j2 by omega)) d2
          have a3 := Int.dvd_trans (pow_dvd_int (show j4 ≤ j3 by omega)) d3
          have a5 := Int.dvd_trans (pow_dvd_int (show j4 ≤ m by omega)) hd
          have a6 := svs_cut (z := tiny f p) (j := j4) (L := L) (fun y hy hyk => (hL y hy hyk).1)
          generalize svs (tiny f p) (L.filter fun x => decide (x.k = 1) && decide (x.e - tiny f p < j4)) = S2 at *
          generalize svs (tiny f p) L = S1 at *
          have e : R4 - S2 = (R - S1) + (S1 - S2) - ((R - R1) + (R1 - R2) + (R2 - R3) + (R3 - R4)) := by omega
          rw [e]
          exact Int.dvd_sub (Int.dvd_add a5 a6) (Int.dvd_add (Int.dvd_add (Int.dvd_add a1 a2) a3) d4)
        have hlen : (L.filter fun x => decide (x.k = 1) && decide (x.e - tiny f p < j4)).length < L.length :=
          List.length_filter_lt_length_iff_exists.2 ⟨x, hx, by simp [hxk]; omega⟩
        have ih := few_out hf N' (L := L.filter fun x => decide (x.k = 1) && decide (x.e - tiny f p < j4)) (by omega) (by omega) (fun y hy hyk => hL y (List.mem_filter.1 hy).1 hyk) h4 hdd u4
        simp only [List.length_cons]
        omega
theorem expand_few {f p : Int} (hf : fmOk f p = true) {L : List Flt} (hl : L.length ≤ 30) (hL : ∀ x ∈ L, x.k = 1 → tiny f p ≤ x.e ∧ (bl x.v : Int) ≤ p) {n : Nat} {out : List Flt} (h : expX f p n (svs (tiny f p) L) = some out) : out.length ≤ 120 :=
  few_out hf 30 hl (Nat.le_refl _) hL (m := bl (svs (tiny f p) L).natAbs + 1) h (by rw [Int.sub_self]; exact Int.dvd_zero _) (by
    have := bl_self (svs (tiny f p) L).natAbs
    rw [Nat.pow_succ]; omega)
end Go.Proofs.YtdaecibpkhcllaaGreatDoor
