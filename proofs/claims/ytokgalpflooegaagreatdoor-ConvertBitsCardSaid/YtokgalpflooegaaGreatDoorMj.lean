/- The rational numbers of the reference. No condition. Operations under a test whose outcome is known, in a region whose order is open. No condition. A float as a rational number; Holds. No condition. What the floats of a pair add up to, plain. No condition. Division by 1; a ratio by 1, rounded. No condition. Conversions, plain. No condition. The integer part of a number; the arguments of conversions. No condition. -/
import Derived.Test.YtokgalpflooegaaGreatDoorMi
import Derived.Test.YtokgalpflooegaaGreatDoorMf
import Derived.Test.YtokgalpflooegaaGreatDoorMg
import Derived.Test.YtokgalpflooegaaGreatDoorMd
import Derived.Test.YtokgalpflooegaaGreatDoorMh
/- The rational numbers of the reference. No condition. -/
namespace Go.Proofs.YtokgalpflooegaaGreatDoor
set_option linter.unusedVariables false
set_option linter.unusedSimpArgs false
variable {G : Gl}
set_option maxHeartbeats 4000000
set_option maxRecDepth 10000
/-- An integer of a size that all that is asked of it allows. -/
abbrev Bz (z : Int) : Prop := bl z.natAbs ≤ 100000000
theorem Bz.len {z : Int} (h : Bz z) : (nat z.natAbs).length ≤ 1562501 := by have := len_bl h; omega
theorem IvMake {n : Bool} {v : Nat} (hv : bl v ≤ 200000000) : Does Tryz.prog G 56 [.c (.b n), Wd (nat v)] (.v (Iv (sgn n v))) := by
  have := @IMake11_does G n (nat v) (by have := len_bl hv; omega) (nat_ws _)
  rwa [val_nat] at this
theorem IvNeg3 {a : Int} (ha : Bz a) : Does Tryz.prog G 183 [Iv a] (.v (Iv (-a))) := by
  have := @INeg_does G (decide (a < 0)) (nat a.natAbs) (by have := ha.len; omega) (nat_ws _)
  rwa [val_nat, sgn_of] at this
theorem IvNeg {a : Int} (ha : Bz a) : Does Tryz.prog G 152 [Iv a] (.v (Iv (-a))) := by
  have h := @IvNeg3 G a ha
  generalize -a = b at *
  refine Does.of (nt := 5) Tryz.func152 rfl rfl rfl (by simp) ?_
  simp only [argTm, PV.ext, Ce.ext]
  refine Do.seqk fun _ k1_ => ?_
  refine Do.region [1,2] true ?_
  simp [go_sem]
  apply k1_; clear k1_
  refine Do.seqk fun _ k2_ => ?_
  refine Do.region [2] true ?_
  simp [go_sem]
  repeat (refine And.intro (by first | omega | (intros; omega) | (intros; exact And.intro (by assumption) (by omega)) | grind) ?_)
  refine DoL.call true 102 rfl rfl rfl rfl (by first | exact trivial | omega | (simp; done) | (simp; omega)) (h) rfl (by first | exact .inl rfl | exact .inr rfl) rfl ?_
  simp [go_sem]
  repeat (refine And.intro (by first | omega | (intros; omega) | (intros; exact And.intro (by assumption) (by omega)) | grind) ?_)
  apply k2_; clear k2_
  refine Do.ret ?_
  simp [endQ, rets, ret1, go_sem]
  repeat (refine And.intro (by first | omega | (intros; omega) | (intros; exact And.intro (by assumption) (by omega)) | grind) ?_)
  exact TLe.refl _
theorem IvSub3 {a b : Int} (ha : Bz a) (hb : Bz b) : Does Tryz.prog G 182 [Iv a, Iv b] (.v (Iv (a - b))) := by
  have h1 := @IvNeg3 G b hb
  have h2 : Does Tryz.prog G 163 [Iv a, Iv (-b)] (.v (Iv (a - b))) := by
    have hb' : Bz (-b) := by unfold Bz; rw [Int.natAbs_neg]; exact hb
    have := @IAdd3_does G (decide (a < 0)) (decide (-b < 0)) (nat a.natAbs) (nat (-b).natAbs) (by have := ha.len; omega) (nat_ws _) (by have := hb'.len; omega) (nat_ws _)
    rwa [val_nat, val_nat, sgn_of, sgn_of, ← Int.sub_eq_add_neg] at this
  generalize a - b = c at *
  generalize -b = b' at *
  refine Does.of (nt := 9) Tryz.func182 rfl rfl rfl (by simp) ?_
  simp only [argTm, PV.ext, Ce.ext]
  refine Do.seqk fun _ k1_ => ?_
  refine Do.region [2,3,4] true ?_
  simp [go_sem]
  apply k1_; clear k1_
  refine Do.seqk fun _ k2_ => ?_
  refine Do.draw [4] true (by kernel_rfl) ?_
  simp [go_sem]
  repeat (refine And.intro (by first | omega | (intros; omega) | (intros; exact And.intro (by assumption) (by omega)) | kernel_rfl | grind) ?_)
  refine DoLD.call true 103 rfl rfl rfl rfl (by first | exact trivial | omega | (simp; done) | (simp; omega)) (h1) rfl (by first | exact .inl rfl | exact .inr rfl) rfl ?_
  simp [go_sem]
  refine DoLD.call true 104 rfl rfl rfl rfl (by first | exact trivial | omega | (simp; done) | (simp; omega)) (h2) rfl (by first | exact .inl rfl | exact .inr rfl) rfl ?_
  simp [go_sem]
  repeat (refine And.intro (by first | omega | (intros; omega) | (intros; exact And.intro (by assumption) (by omega)) | kernel_rfl | grind) ?_)
  try (refine And.intro (by kernel_rfl) ?_)
  apply k2_; clear k2_
  refine Do.ret ?_
  simp [endQ, rets, ret1, go_sem]
  repeat (refine And.intro (by first | omega | (intros; omega) | (intros; exact And.intro (by assumption) (by omega)) | grind) ?_)
  exact TLe.refl _
theorem IvSub {a b : Int} (ha : Bz a) (hb : Bz b) : Does Tryz.prog G 151 [Iv a, Iv b] (.v (Iv (a - b))) := by
  have h := @IvSub3 G a b ha hb
  generalize a - b = c at *
  refine Does.of (nt := 8) Tryz.func151 rfl rfl rfl (by simp) ?_
  simp only [argTm, PV.ext, Ce.ext]
  refine Do.seqk fun _ k1_ => ?_
  refine Do.region [2,3,4] true ?_
  simp [go_sem]
  apply k1_; clear k1_
  refine Do.seqk fun _ k2_ => ?_
  refine Do.region [4] true ?_
  simp [go_sem]
  repeat (refine And.intro (by first | omega | (intros; omega) | (intros; exact And.intro (by assumption) (by omega)) | grind) ?_)
  refine DoL.call true 103 rfl rfl rfl rfl (by first | exact trivial | omega | (simp; done) | (simp; omega)) (h) rfl (by first | exact .inl rfl | exact .inr rfl) rfl ?_
  simp [go_sem]
  repeat (refine And.intro (by first | omega | (intros; omega) | (intros; exact And.intro (by assumption) (by omega)) | grind) ?_)
  apply k2_; clear k2_
  refine Do.ret ?_
  simp [endQ, rets, ret1, go_sem]
  repeat (refine And.intro (by first | omega | (intros; omega) | (intros; exact And.intro (by assumption) (by omega)) | grind) ?_)
  exact TLe.refl _
theorem IvSign {a : Int} (ha : bl a.natAbs ≤ 200000000) : Does Tryz.prog G 117 [Iv a] (.int .i64 a.sign) := by
  have := @ISign_does G (decide (a < 0)) (nat a.natAbs) (by have := len_bl ha; omega) (nat_ws _)
  rwa [val_nat, sgn_of] at this
theorem bl_sub_le (a b : Int) : bl (a - b).natAbs ≤ max (bl a.natAbs) (bl b.natAbs) + 1 := by
  rw [bl_lt, Nat.pow_succ]
  have h1 : a.natAbs < 2 ^ max (bl a.natAbs) (bl b.natAbs) := (bl_lt _ _).1 (Nat.le_max_left _ _)
  have h2 : b.natAbs < 2 ^ max (bl a.natAbs) (bl b.natAbs) := (bl_lt _ _).1 (Nat.le_max_right _ _)
  omega
theorem IvCmp {a b : Int} (ha : Bz a) (hb : Bz b) : Does Tryz.prog G 92 [Iv a, Iv b] (.int .i64 (a - b).sign) := by
  have h := @IvSub G a b ha hb
  have h2 := @IvSign G (a - b) (by have := bl_sub_le a b; unfold Bz at *; omega)
  generalize a - b = c at *
  refine Does.of (nt := 9) Tryz.func92 rfl rfl rfl (by simp) ?_
  simp only [argTm, PV.ext, Ce.ext]
  refine Do.seqk fun _ k1_ => ?_
  refine Do.region [2,3] true ?_
  simp [go_sem]
  apply k1_; clear k1_
  refine Do.seqk fun _ k2_ => ?_
  refine Do.region [4] true ?_
  simp [go_sem]
  repeat (refine And.intro (by first | omega | (intros; omega) | (intros; exact And.intro (by assumption) (by omega)) | grind) ?_)
  refine DoL.call true 103 rfl rfl rfl rfl (by first | exact trivial | omega | (simp; done) | (simp; omega)) (h) rfl (by first | exact .inl rfl | exact .inr rfl) rfl ?_
  simp [go_sem]
  refine DoL.call true 104 rfl rfl rfl rfl (by first | exact trivial | omega | (simp; done) | (simp; omega)) (h2) rfl (by first | exact .inl rfl | exact .inr rfl) rfl ?_
  simp [go_sem]
  apply k2_; clear k2_
  refine Do.ret ?_
  simp [endQ, rets, ret1, go_sem]
  repeat (refine And.intro (by first | omega | (intros; omega) | (intros; exact And.intro (by assumption) (by omega)) | grind) ?_)
  exact TLe.refl _
theorem IvTrim {a : Int} (ha : Bz a) : Does Tryz.prog G 147 [Iv a] (.v (Iv a)) := by
  have h := @ITrim_does G (decide (a < 0)) (nat a.natAbs) (by have := ha.len; omega) (nat_ws _)
  rw [val_nat, sgn_of] at h
  refine Does.of (nt := 5) Tryz.func147 rfl rfl rfl (by simp) ?_
  simp only [argTm, PV.ext, Ce.ext]
  refine Do.seqk fun _ k1_ => ?_
  refine Do.region [1,2] true ?_
  simp [go_sem]
  apply k1_; clear k1_
  refine Do.seqk fun _ k2_ => ?_
  refine Do.region [2] true ?_
  simp [go_sem]
  repeat (refine And.intro (by first | omega | (intros; omega) | (intros; exact And.intro (by assumption) (by omega)) | grind) ?_)
  refine DoL.call true 102 rfl rfl rfl rfl (by first | exact trivial | omega | (simp; done) | (simp; omega)) (h) rfl (by first | exact .inl rfl | exact .inr rfl) rfl ?_
  simp [go_sem]
  repeat (refine And.intro (by first | omega | (intros; omega) | (intros; exact And.intro (by assumption) (by omega)) | grind) ?_)
  apply k2_; clear k2_
  refine Do.ret ?_
  simp [endQ, rets, ret1, go_sem]
  repeat (refine And.intro (by first | omega | (intros; omega) | (intros; exact And.intro (by assumption) (by omega)) | grind) ?_)
  exact TLe.refl _
/-- A rational number, as it is laid. -/
abbrev Qv (z : Int) (d : Nat) : PV := .a [.b (decide (z < 0)), .w false (nat z.natAbs), .w false (nat d)]
theorem PLe.qv {c1 c2 : Ce} {z : Int} {d : Nat} {b : Bool} (hb : b = decide (z < 0)) (h1 : PLe (.c c1) (.c (.w false (nat z.natAbs)))) (h2 : PLe (.c c2) (.c (.w false (nat d)))) : PLe (.a [.b b, c1, c2]) (Qv z d) := by
  subst hb
  exact PLe.agg (.cons (PLe.refl _) (.cons h1 (.cons h2 .nil)))
theorem QNorm {z : Int} {d : Nat} (hz : bl z.natAbs ≤ 200000000) (hd : bl d ≤ 200000000) (h0 : 0 < d) : Does Tryz.prog G 106 [Qv z d] (.v (Qv (nz z d) (nd z d))) := by
  have lz : (nat z.natAbs).length ≤ 3125001 := by have := len_bl hz; omega
  have ld : (nat d).length ≤ 3125001 := by have := len_bl hd; omega
  have hg := @RGcd_does G (nat z.natAbs) (nat d) (by omega) (nat_ws _) (by omega) (nat_ws _)
  rw [val_nat, val_nat] at hg
  have gp := gcd_pos (z := z) h0
  have gl : Nat.gcd z.natAbs d ≤ d := Nat.le_of_dvd h0 (Nat.gcd_dvd_right _ _)
  have gb := bl_mono gl
  have lg : (nat (Nat.gcd z.natAbs d)).length ≤ 3125001 := by have := len_bl (Nat.le_trans gb hd); omega
  have d1 := @RDiv_does G (nat z.natAbs) (nat (Nat.gcd z.natAbs d)) (by omega) (nat_ws _) (by omega) (nat_ws _) (by rw [val_nat]; exact gp)
  have d2 := @RDiv_does G (nat d) (nat (Nat.gcd z.natAbs d)) (by omega) (nat_ws _) (by omega) (nat_ws _) (by rw [val_nat]; exact gp)
  rw [val_nat, val_nat] at d1 d2
  have hm := @IvMake G (decide (z < 0)) (z.natAbs / Nat.gcd z.natAbs d) (by have := bl_mono (Nat.div_le_self z.natAbs (Nat.gcd z.natAbs d)); omega)
  rw [nz_sgn] at hm
  have e2 : d / Nat.gcd z.natAbs d = nd z d := rfl
  rw [e2] at d2
  generalize nz z d = z' at *
  generalize nd z d = d' at *
  generalize z.natAbs / Nat.gcd z.natAbs d = u at *
  generalize Nat.gcd z.natAbs d = g at *
  refine Does.of (nt := 24) Tryz.func106 rfl rfl rfl (by simp) ?_
  simp only [argTm, PV.ext, Ce.ext]
  refine Do.seqk fun _ k1_ => ?_
  refine Do.region [1,2] true ?_
  simp [go_sem]
  apply k1_; clear k1_
  refine Do.seqk fun _ k2_ => ?_
  refine Do.region [1,2,3] true ?_
  simp [go_sem]
  repeat (refine And.intro (by first | omega | (intros; omega) | (intros; exact And.intro (by assumption) (by omega)) | grind) ?_)
  refine DoL.call true 106 rfl rfl rfl rfl (by first | exact trivial | omega | (simp; done) | (simp; omega)) (hg) rfl (by first | exact .inl rfl | exact .inr rfl) rfl ?_
  simp [go_sem]
  apply k2_; clear k2_
  refine Do.seqk fun _ k3_ => ?_
  refine Do.draw [2] true (by kernel_rfl) ?_
  simp [go_sem]
  repeat (refine And.intro (by first | omega | (intros; omega) | (intros; exact And.intro (by assumption) (by omega)) | kernel_rfl | grind) ?_)
  refine DoLD.call true 208 rfl rfl rfl rfl (by first | exact trivial | omega | (simp; done) | (simp; omega)) (d1) rfl (by first | exact .inl rfl | exact .inr rfl) rfl ?_
  simp [go_sem]
  refine DoLD.call true 209 rfl rfl rfl rfl (by first | exact trivial | omega | (simp; done) | (simp; omega)) (hm) rfl (by first | exact .inl rfl | exact .inr rfl) rfl ?_
  simp [go_sem]
  repeat (refine And.intro (by first | omega | (intros; omega) | (intros; exact And.intro (by assumption) (by omega)) | kernel_rfl | grind) ?_)
  refine DoLD.call true 213 rfl rfl rfl rfl (by first | exact trivial | omega | (simp; done) | (simp; omega)) (d2) rfl (by first | exact .inl rfl | exact .inr rfl) rfl ?_
  simp [go_sem]
  repeat (refine And.intro (by first | omega | (intros; omega) | (intros; exact And.intro (by assumption) (by omega)) | kernel_rfl | grind) ?_)
  try (refine And.intro (by kernel_rfl) ?_)
  apply k3_; clear k3_
  refine Do.ret ?_
  simp [endQ, rets, ret1, go_sem]
  repeat (refine And.intro (by first | omega | (intros; omega) | (intros; exact And.intro (by assumption) (by omega)) | grind) ?_)
  exact TLe.v (PLe.qv rfl (PLe.refl _) (PLe.ext (.c (.w true _))))
theorem QMake {z : Int} {d : Nat} (hz : bl z.natAbs ≤ 200000000) (hd : bl d ≤ 200000000) (h0 : 0 < d) : Does Tryz.prog G 102 [Iv z, Wd (nat d)] (.v (Qv (nz z d) (nd z d))) := by
  have hn := @QNorm G z d hz hd h0
  generalize nz z d = z' at *
  generalize nd z d = d' at *
  refine Does.of (nt := 9) Tryz.func102 rfl rfl rfl (by simp) ?_
  simp only [argTm, PV.ext, Ce.ext]
  refine Do.seqk fun _ k1_ => ?_
  refine Do.region [1,2,4] true ?_
  simp [go_sem]
  apply k1_; clear k1_
  refine Do.seqk fun _ k2_ => ?_
  refine Do.region [4] true ?_
  simp [go_sem]
  repeat (refine And.intro (by first | omega | (intros; omega) | (intros; exact And.intro (by assumption) (by omega)) | grind) ?_)
  refine DoL.call true 104 rfl rfl rfl rfl (by first | exact trivial | omega | (simp; done) | (simp; omega)) (hn) rfl (by first | exact .inl rfl | exact .inr rfl) rfl ?_
  simp [go_sem]
  repeat (refine And.intro (by first | omega | (intros; omega) | (intros; exact And.intro (by assumption) (by omega)) | grind) ?_)
  apply k2_; clear k2_
  refine Do.ret ?_
  simp [endQ, rets, ret1, go_sem]
  repeat (refine And.intro (by first | omega | (intros; omega) | (intros; exact And.intro (by assumption) (by omega)) | grind) ?_)
  exact TLe.refl _
section
variable {K : Nat} {z1 z2 w1 w2 : Int} {d1 d2 : Nat}
theorem sgn_false (v : Nat) : sgn false v = (v : Int) := rfl
theorem bl_mulN (a b : Nat) : bl (a * b) ≤ bl a + bl b := by
  rw [bl_lt, Nat.pow_add]
  exact Nat.mul_lt_mul_of_lt_of_le (bl_self a) (Nat.le_of_lt (bl_self b)) (Nat.pow_pos (by decide))
theorem QSign (h1 : Dq K z1 d1 w1) (b1 : bl w1.natAbs ≤ 20000000) : Does Tryz.prog G 131 [Qv z1 d1] (.int .i64 w1.sign) := by
  obtain ⟨s1, s2, s3⟩ := h1.small
  have p1 := @IvSign G z1 (by omega)
  rw [h1.sign] at p1
  generalize w1.sign = sg at *
  refine Does.of (nt := 6) Tryz.func131 rfl rfl rfl (by simp) ?_
  simp only [argTm, PV.ext, Ce.ext]
  refine Do.seqk fun _ k1_ => ?_
  refine Do.region [1] true ?_
  simp [go_sem]
  apply k1_; clear k1_
  refine Do.seqk fun _ k2_ => ?_
  refine Do.region [2] true ?_
  simp [go_sem]
  repeat (refine And.intro (by first | omega | (intros; omega) | (intros; exact And.intro (by assumption) (by omega)) | grind) ?_)
  refine DoL.call true 103 rfl rfl rfl rfl (by first | exact trivial | omega | (simp; done) | (simp; omega)) (p1) rfl (by first | exact .inl rfl | exact .inr rfl) rfl ?_
  simp [go_sem]
  apply k2_; clear k2_
  refine Do.ret ?_
  simp [endQ, rets, ret1, go_sem]
  repeat (refine And.intro (by first | omega | (intros; omega) | (intros; exact And.intro (by assumption) (by omega)) | grind) ?_)
  exact TLe.refl _
end
/-- Half of 2^64 is not needed: small integers as rational numbers. -/
theorem QFrom {k : Nat} (hk : k < 1000000) : Does Tryz.prog G 41 [.c (.i .i64 k), .c (.i .i64 1)] (.v (Qv k 1)) := by
  have h1 := @IFrom_does G k (by omega)
  have h2 := @RWord_does G 1 (by decide)
  have h3 := @QMake G k 1 (by rw [Int.natAbs_natCast]; have := (bl_lt k 20).2 (by omega); omega) (by decide) (by decide)
  rw [show nz (k : Int) 1 = k by unfold nz; simp, show nd (k : Int) 1 = 1 by unfold nd; simp] at h3
  refine Does.of (nt := 11) Tryz.func41 rfl rfl rfl (by simp) ?_
  simp only [argTm, PV.ext, Ce.ext]
  refine Do.seqk fun _ k1_ => ?_
  refine Do.region [0,1,4] true ?_
  simp [go_sem]
  apply k1_; clear k1_
  refine Do.seqk fun _ k2_ => ?_
  refine Do.region [4] true ?_
  simp [go_sem]
  refine DoL.call true 102 rfl rfl rfl rfl (by first | exact trivial | omega | (simp; done) | (simp; omega)) (h1) rfl (by first | exact .inl rfl | exact .inr rfl) rfl ?_
  simp [go_sem]
  repeat (refine And.intro (by first | omega | (intros; omega) | (intros; exact And.intro (by assumption) (by omega)) | grind) ?_)
  refine DoL.call true 105 rfl rfl rfl rfl (by first | exact trivial | omega | (simp; done) | (simp; omega)) (h2) rfl (by first | exact .inl rfl | exact .inr rfl) rfl ?_
  simp [go_sem]
  refine DoL.call true 106 rfl rfl rfl rfl (by first | exact trivial | omega | (simp; done) | (simp; omega)) (h3) rfl (by first | exact .inl rfl | exact .inr rfl) rfl ?_
  simp [go_sem]
  repeat (refine And.intro (by first | omega | (intros; omega) | (intros; exact And.intro (by assumption) (by omega)) | grind) ?_)
  apply k2_; clear k2_
  refine Do.ret ?_
  simp [endQ, rets, ret1, go_sem]
  repeat (refine And.intro (by first | omega | (intros; omega) | (intros; exact And.intro (by assumption) (by omega)) | grind) ?_)
  exact TLe.refl _
theorem QWhole {z : Int} (hz : Bz z) : Does Tryz.prog G 83 [Iv z] (.v (Qv z 1)) := by
  have h1 := @IvTrim G z hz
  have h2 := @RWord_does G 1 (by decide)
  refine Does.of (nt := 7) Tryz.func83 rfl rfl rfl (by simp) ?_
  simp only [argTm, PV.ext, Ce.ext]
  refine Do.seqk fun _ k1_ => ?_
  refine Do.region [1,2] true ?_
  simp [go_sem]
  apply k1_; clear k1_
  refine Do.seqk fun _ k2_ => ?_
  refine Do.region [2] true ?_
  simp [go_sem]
  repeat (refine And.intro (by first | omega | (intros; omega) | (intros; exact And.intro (by assumption) (by omega)) | grind) ?_)
  refine DoL.call true 102 rfl rfl rfl rfl (by first | exact trivial | omega | (simp; done) | (simp; omega)) (h1) rfl (by first | exact .inl rfl | exact .inr rfl) rfl ?_
  simp [go_sem]
  refine DoL.call true 103 rfl rfl rfl rfl (by first | exact trivial | omega | (simp; done) | (simp; omega)) (h2) rfl (by first | exact .inl rfl | exact .inr rfl) rfl ?_
  simp [go_sem]
  repeat (refine And.intro (by first | omega | (intros; omega) | (intros; exact And.intro (by assumption) (by omega)) | grind) ?_)
  apply k2_; clear k2_
  refine Do.ret ?_
  simp [endQ, rets, ret1, go_sem]
  repeat (refine And.intro (by first | omega | (intros; omega) | (intros; exact And.intro (by assumption) (by omega)) | grind) ?_)
  exact TLe.v (PLe.qv rfl (PLe.refl _) (PLe.ext (.c (.w true _))))
end Go.Proofs.YtokgalpflooegaaGreatDoor
/- Operations under a test whose outcome is known, in a region whose order is open. No condition. -/
namespace Go.Proofs.YtokgalpflooegaaGreatDoor
set_option linter.unusedVariables false
set_option linter.unusedSimpArgs false
section
variable {P : Program} {G : Gl} {nt : Nat} {st st0 : St} {cx : Cx} {a : Act} {W W' : World} {m : Nat → Option Nat} {ops l : List Oper} {acc : List Sm} {Q : List Sm → St → Prop} {o : Oper} {j : Nat} {want g : Bool}
theorem gOf_congr {tm tm' : List (Nat × TV)} (hg : o.guard = some (j, want)) (h : ∀ t ∈ rdOf ops o, lk t tm' = lk t tm) : gOf ops tm' j want = gOf ops tm j want := by
  unfold gOf
  split
  · rename_i d _ _ _ _ _ hj
    rw [h d (by unfold rdOf; simp only [List.mem_append, hg, hj]; exact .inr (by simp))]
  · rfl
theorem DoLD.gOff (md : Bool) (lab : Nat) (hg : o.guard = some (j, want)) (hgo : gOf ops st.tm j want = some false) (x : TV) (hx : x.labs = []) (hd : dstOk nt o.dst = true) (next : runsD P G nt md ops st0 Q lab l (acc ++ [⟨[], [], [], none⟩]) ⟨setv o.dst (some (.gd false x)) st.tm, st.ob⟩) : DoLD P G nt ops st0 Q (o :: l) acc st := by
  have h : OpOk P G nt ops (boxes st0.ob) o st ⟨o.dst, some (.gd false x), .none, 0, []⟩ := by
    refine ⟨rfl, fun cx a W m S hn _ hrd hus hfree hr Q' K hK => ?_⟩
    rw [gOf_spec hr ((gOf_congr hg hrd).trans hgo) hg, if_neg Bool.false_ne_true]
    exact hK _ _ (Rel.put hr hn hd (show RT _ (.gd false x) undef from ⟨(fun e => by cases e), fun _ => rfl⟩))
  refine DoLD.cons h (fun l hl => by simp [Tr.nw, Eff.isNew] at hl) rfl ?_
  have e1 : Tr.sm ⟨o.dst, some (.gd false x), .none, 0, []⟩ = ⟨[], [], [], none⟩ := by
    simp [Tr.sm, Tr.wr, Tr.mn, Tr.nw, Tr.ob, Eff.isNew, TV.labs, hx]
  rw [e1]
  exact DoLD.run next
/-- Slots that hold no more than they did. -/
theorem RelM.less (h : RelM G cx m st a W) {tm' : List (Nat × TV)} (hs : ∀ t y, lk t tm' = some y → ∃ z, lk t st.tm = some z ∧ ∀ E v, RT E z v → RT E y v) : RelM G cx m ⟨tm', st.ob⟩ a W :=
  { h with
    tm := fun t y hy => by
      have ⟨z, hz, hl⟩ := hs t y hy
      have ⟨v, hv, hr⟩ := h.tm t z hz
      exact ⟨v, hv, hl _ _ hr⟩ }
end
end Go.Proofs.YtokgalpflooegaaGreatDoor
/- A float as a rational number; Holds. No condition. -/
namespace Go.Proofs.YtokgalpflooegaaGreatDoor
set_option linter.unusedVariables false
set_option linter.unusedSimpArgs false
set_option maxHeartbeats 4000000
set_option maxRecDepth 10000
theorem tz_half {v : Nat} (h : 0 < v) : v / 2 ^ tz v % 2 = 1 := by
  obtain ⟨c, hc⟩ := tz_form h
  have : v / 2 ^ tz v = 2 * c + 1 := by
    conv => lhs; rw [hc]
    rw [tz_odd]
    exact Nat.mul_div_cancel_left _ (Nat.pow_pos (by decide))
  omega
theorem FRat {G : Gl} {x : Fla} (hx : Rt x) {K : Nat} (hK : K ≤ 8000000) (he : x.k = 1 → -(K : Int) ≤ x.e) : ∃ z d, Does Tryz.prog G 40 [Fl x.k x.n x.e x.m] (.v (Qv z d)) ∧ Dq K z d (fv (-K) x.flt) := by
  have hlen := hx.len
  by_cases hk : x.k = 1
  · have hc := canon_one hx.can hk
    have hv : 0 < val x.m := by have : x.flt.v ≠ 0 := hc.2.2; exact Nat.pos_of_ne_zero this
    have hc1 : -1048576 ≤ x.e := hc.1
    have hc2 : x.e + tz (val x.m) ≤ 1048576 := hc.2.1
    have hkk := he hk
    have ho := @odd_does G x.k x.e x.n x.m (by omega) hx.ws hx.md
    have hbv : bl (val x.m) ≤ 262144 := by have := bl_le_ws hx.ws; omega
    have hbv2 : bl (val x.m / 2 ^ tz (val x.m)) ≤ 262144 := Nat.le_trans (bl_mono (Nat.div_le_self _ _)) hbv
    obtain ⟨f1, f2⟩ := @Dq.float K x.n (val x.m / 2 ^ tz (val x.m)) (x.e + tz (val x.m)) (tz_half hv) (by omega)
    have hfv : fv (-K) ⟨1, x.n, x.e + tz (val x.m), val x.m / 2 ^ tz (val x.m)⟩ = fv (-K) x.flt := by
      have := @fv_rcan x.flt (-(K : Int)) (fun _ => hkk)
      rw [← this]
      unfold rcanon
      rw [if_pos (show x.flt.k = 1 from hk)]
      rfl
    rw [hfv] at f1 f2
    generalize val x.m / 2 ^ tz (val x.m) = v at *
    generalize hE : x.e + tz (val x.m) = E at *
    by_cases h0 : E < 0
    · refine ⟨_, _, ?_, f1 h0⟩
      have i1 := @IvMake G x.n v (by omega)
      have i2 := @RWord_does G 1 (by decide)
      have i3 := @RLeft_does G (nat 1) (-E).toNat (by rw [nat_one]; decide) (nat_ws _) (by omega)
      rw [val_nat, Nat.one_mul, show (((-E).toNat : Nat) : Int) = -E by omega] at i3
      generalize sgn x.n v = z at *
      generalize 2 ^ (-E).toNat = d at *
      refine Does.of (nt := 32) Tryz.func40 rfl rfl rfl (by simp) ?_
      simp only [argTm, PV.ext, Ce.ext]
      refine Do.seqk fun _ k1_ => ?_
      refine Do.region [1,2] true ?_
      simp [go_sem]
      apply k1_; clear k1_
      refine Do.seqk fun _ k2_ => ?_
      refine Do.seqk fun _ k3_ => ?_
      refine Do.region [1,2,7] true ?_
      simp [go_sem]
      repeat (refine And.intro (by first | omega | (intros; omega) | (intros; exact And.intro (by assumption) (by omega)) | grind) ?_)
      apply k3_; clear k3_
      refine Do.cond [1,2] rfl (fun h1 => ?_) (fun h1 => ?_) <;> simp [go_sem] at h1 ⊢
      · exact absurd hk h1
      · refine Do.skip ?_
        simp [go_sem]
        apply k2_; clear k2_
        refine Do.seqk fun _ k4_ => ?_
        refine Do.region [1,2,3,4] true ?_
        simp [go_sem]
        repeat (refine And.intro (by first | omega | (intros; omega) | (intros; exact And.intro (by assumption) (by omega)) | grind) ?_)
        refine DoL.call true 302 rfl rfl rfl rfl (by first | exact trivial | omega | (simp; done) | (simp; omega)) (ho) rfl (by first | exact .inl rfl | exact .inr rfl) rfl ?_
        simp [go_sem]
        apply k4_; clear k4_
        refine Do.seqk fun _ k5_ => ?_
        refine Do.seqk fun _ k6_ => ?_
        refine Do.region [1,2,3,4,15] true ?_
        simp [go_sem]
        apply k6_; clear k6_
        refine Do.cond [1,2,3,4] rfl (fun h2 => ?_) (fun h2 => ?_) <;> simp [go_sem] at h2 ⊢
        · refine Do.seqk fun _ k7_ => ?_
          refine Do.region [2] true ?_
          simp [go_sem]
          repeat (refine And.intro (by first | omega | (intros; omega) | (intros; exact And.intro (by assumption) (by omega)) | grind) ?_)
          refine DoL.call true 504 rfl rfl rfl rfl (by first | exact trivial | omega | (simp; done) | (simp; omega)) (i1) rfl (by first | exact .inl rfl | exact .inr rfl) rfl ?_
          simp [go_sem]
          refine DoL.call true 505 rfl rfl rfl rfl (by first | exact trivial | omega | (simp; done) | (simp; omega)) (i2) rfl (by first | exact .inl rfl | exact .inr rfl) rfl ?_
          simp [go_sem]
          repeat (refine And.intro (by first | omega | (intros; omega) | (intros; exact And.intro (by assumption) (by omega)) | grind) ?_)
          refine DoL.call true 508 rfl rfl rfl rfl (by first | exact trivial | omega | (simp; done) | (simp; omega)) (i3) rfl (by first | exact .inl rfl | exact .inr rfl) rfl ?_
          simp [go_sem]
          repeat (refine And.intro (by first | omega | (intros; omega) | (intros; exact And.intro (by assumption) (by omega)) | grind) ?_)
          apply k7_; clear k7_
          refine Do.ret ?_
          simp [endQ, rets, ret1, go_sem]
          repeat (refine And.intro (by first | omega | (intros; omega) | (intros; exact And.intro (by assumption) (by omega)) | grind) ?_)
          exact TLe.v (PLe.qv rfl (PLe.refl _) (PLe.ext (.c (.w true _))))
        · omega
    · refine ⟨_, _, ?_, f2 (by omega)⟩
      have hbl : bl (v * 2 ^ E.toNat) ≤ 2000000 := by
        have := bl_mulN v (2 ^ E.toNat)
        have h3 : bl (2 ^ E.toNat) ≤ E.toNat + 1 := by rw [bl_lt]; exact Nat.pow_lt_pow_right (by decide) (by omega)
        omega
      have i3 := @RLeft_does G (nat v) E.toNat (by have := len_bl hbv2; omega) (nat_ws _) (by omega)
      rw [val_nat, show ((E.toNat : Nat) : Int) = E by omega] at i3
      have i1 := @IvMake G x.n (v * 2 ^ E.toNat) (by omega)
      have i4 := @QWhole G (sgn x.n (v * 2 ^ E.toNat)) (by unfold Bz; rw [sgn_abs]; omega)
      generalize sgn x.n (v * 2 ^ E.toNat) = z at *
      generalize v * 2 ^ E.toNat = d at *
      refine Does.of (nt := 32) Tryz.func40 rfl rfl rfl (by simp) ?_
      simp only [argTm, PV.ext, Ce.ext]
      refine Do.seqk fun _ k1_ => ?_
      refine Do.region [1,2] true ?_
      simp [go_sem]
      apply k1_; clear k1_
      refine Do.seqk fun _ k2_ => ?_
      refine Do.seqk fun _ k3_ => ?_
      refine Do.region [1,2,7] true ?_
      simp [go_sem]
      repeat (refine And.intro (by first | omega | (intros; omega) | (intros; exact And.intro (by assumption) (by omega)) | grind) ?_)
      apply k3_; clear k3_
      refine Do.cond [1,2] rfl (fun h1 => ?_) (fun h1 => ?_) <;> simp [go_sem] at h1 ⊢
      · exact absurd hk h1
      · refine Do.skip ?_
        simp [go_sem]
        apply k2_; clear k2_
        refine Do.seqk fun _ k4_ => ?_
        refine Do.region [1,2,3,4] true ?_
        simp [go_sem]
        repeat (refine And.intro (by first | omega | (intros; omega) | (intros; exact And.intro (by assumption) (by omega)) | grind) ?_)
        refine DoL.call true 302 rfl rfl rfl rfl (by first | exact trivial | omega | (simp; done) | (simp; omega)) (ho) rfl (by first | exact .inl rfl | exact .inr rfl) rfl ?_
        simp [go_sem]
        apply k4_; clear k4_
        refine Do.seqk fun _ k5_ => ?_
        refine Do.seqk fun _ k6_ => ?_
        refine Do.region [1,2,3,4,15] true ?_
        simp [go_sem]
        apply k6_; clear k6_
        refine Do.cond [1,2,3,4] rfl (fun h2 => ?_) (fun h2 => ?_) <;> simp [go_sem] at h2 ⊢
        · omega
        · refine Do.skip ?_
          simp [go_sem]
          apply k5_; clear k5_
          refine Do.seqk fun _ k7_ => ?_
          refine Do.draw [2] true (by kernel_rfl) ?_
          simp [go_sem]
          repeat (refine And.intro (by first | omega | (intros; omega) | (intros; exact And.intro (by assumption) (by omega)) | kernel_rfl | grind) ?_)
          refine DoLD.call true 605 rfl rfl rfl rfl (by first | exact trivial | omega | (simp; done) | (simp; omega)) (i3) rfl (by first | exact .inl rfl | exact .inr rfl) rfl ?_
          simp [go_sem]
          refine DoLD.call true 606 rfl rfl rfl rfl (by first | exact trivial | omega | (simp; done) | (simp; omega)) (i1) rfl (by first | exact .inl rfl | exact .inr rfl) rfl ?_
          simp [go_sem]
          refine DoLD.call true 607 rfl rfl rfl rfl (by first | exact trivial | omega | (simp; done) | (simp; omega)) (i4) rfl (by first | exact .inl rfl | exact .inr rfl) rfl ?_
          simp [go_sem]
          repeat (refine And.intro (by first | omega | (intros; omega) | (intros; exact And.intro (by assumption) (by omega)) | kernel_rfl | grind) ?_)
          try (refine And.intro (by kernel_rfl) ?_)
          apply k7_; clear k7_
          refine Do.ret ?_
          simp [endQ, rets, ret1, go_sem]
          repeat (refine And.intro (by first | omega | (intros; omega) | (intros; exact And.intro (by assumption) (by omega)) | grind) ?_)
          exact TLe.refl _
  · have i1 : Does Tryz.prog G 41 [.c (.i .i64 0), .c (.i .i64 1)] (.v (Qv 0 1)) := @QFrom G 0 (by decide)
    have hz : fv (-K) x.flt = 0 := by unfold fv; rw [if_neg (show ¬ x.flt.k = 1 from hk)]
    rw [hz]
    refine ⟨0, 1, ?_, Dq.zero K⟩
    refine Does.of (nt := 32) Tryz.func40 rfl rfl rfl (by simp) ?_
    simp only [argTm, PV.ext, Ce.ext]
    refine Do.seqk fun _ k1_ => ?_
    refine Do.region [1,2] true ?_
    simp [go_sem]
    apply k1_; clear k1_
    refine Do.seqk fun _ k2_ => ?_
    refine Do.seqk fun _ k3_ => ?_
    refine Do.region [1,2,7] true ?_
    simp [go_sem]
    repeat (refine And.intro (by first | omega | (intros; omega) | (intros; exact And.intro (by assumption) (by omega)) | grind) ?_)
    apply k3_; clear k3_
    refine Do.cond [1,2] rfl (fun h1 => ?_) (fun h1 => ?_) <;> simp [go_sem] at h1 ⊢
    · refine Do.seqk fun _ k4_ => ?_
      refine Do.region [2] true ?_
      simp [go_sem]
      refine DoL.call true 201 rfl rfl rfl rfl (by first | exact trivial | omega | (simp; done) | (simp; omega)) (i1) rfl (by first | exact .inl rfl | exact .inr rfl) rfl ?_
      simp [go_sem]
      repeat (refine And.intro (by first | omega | (intros; omega) | (intros; exact And.intro (by assumption) (by omega)) | grind) ?_)
      apply k4_; clear k4_
      refine Do.ret ?_
      simp [endQ, rets, ret1, go_sem]
      repeat (refine And.intro (by first | omega | (intros; omega) | (intros; exact And.intro (by assumption) (by omega)) | grind) ?_)
      exact TLe.refl _
    · exact absurd (by omega) hk
end Go.Proofs.YtokgalpflooegaaGreatDoor
/- What the floats of a pair add up to, plain. No condition. -/
namespace Go.Proofs.YtokgalpflooegaaGreatDoor
set_option linter.unusedVariables false
set_option linter.unusedSimpArgs false
set_option maxHeartbeats 4000000
set_option maxRecDepth 10000
theorem fv_bits {x : Flt} {K : Nat} (h : x.k = 1 → x.e ≤ 1048576) : bl (fv (-K) x).natAbs ≤ bl x.v + (1048577 + K) := by
  unfold fv
  split
  · rename_i hk
    have h1 := h hk
    have e : (Nu.sv (-(K : Int)) ⟨x.n, x.v, x.e⟩).natAbs = x.v * 2 ^ (x.e - -(K : Int)).toNat := by
      unfold Nu.sv
      simp only []
      generalize x.v * 2 ^ (x.e - -(K : Int)).toNat = u
      split <;> omega
    rw [e]
    have h2 := bl_mulN x.v (2 ^ (x.e - -(K : Int)).toNat)
    have h3 : bl (2 ^ (x.e - -(K : Int)).toNat) ≤ (x.e - -(K : Int)).toNat + 1 := by rw [bl_lt]; exact Nat.pow_lt_pow_right (by decide) (by omega)
    omega
  · rw [Int.natAbs_zero, bl_zero]; omega
/-- A right float as a rational number. -/
theorem FRatK {G : Gl} {x : Fla} (hx : Rt x) : ∃ z d, Does Tryz.prog G 40 [Fl x.k x.n x.e x.m] (.v (Qv z d)) ∧ Dq 1048576 z d (fv (-(1048576 : Nat)) x.flt) ∧ bl (fv (-(1048576 : Nat)) x.flt).natAbs ≤ 2400000 := by
  obtain ⟨z, d, h1, h2⟩ := @FRat G x hx 1048576 (by decide) (fun hk => (canon_one hx.can hk).1)
  refine ⟨z, d, h1, h2, ?_⟩
  have hb := @fv_bits x.flt 1048576 (fun hk => by have := canon_one hx.can hk; omega)
  have h3 := bl_le_ws hx.ws
  have h4 := hx.len
  have h5 : x.flt.v = val x.m := rfl
  rw [h5] at hb
  omega
end Go.Proofs.YtokgalpflooegaaGreatDoor
/- Division by 1; a ratio by 1, rounded. No condition. -/
namespace Go.Proofs.YtokgalpflooegaaGreatDoor
set_option linter.unusedVariables false
set_option linter.unusedSimpArgs false
variable {G : Gl}
set_option maxHeartbeats 4000000
set_option maxRecDepth 10000
theorem Div64_low {lo w : Nat} (hl : lo < 18446744073709551616) (hw : 0 < w) : Does Tryz.prog G 193 [.c (.n 0), .c (.n lo), .c (.n w)] (.t [.c (.n (lo / w)), .c (.n (lo % w))]) := by
  have hw0 : ¬ w = 0 := by omega
  have hw1 : ¬ w ≤ 0 := by omega
  refine Does.of (nt := 135) Tryz.func193 rfl rfl rfl (by simp) ?_
  simp only [argTm, PV.ext, Ce.ext]
  refine Do.seqk fun _ k1_ => ?_
  refine Do.region [0,1,2] true ?_
  simp [go_sem, hw0, hw1]
  apply k1_; clear k1_
  refine Do.seqk fun _ k2_ => ?_
  refine Do.seqk fun _ k3_ => ?_
  refine Do.region [0,1,2,20] true ?_
  simp [go_sem, hw0, hw1]
  apply k3_; clear k3_
  refine Do.cond [0,1,2] rfl (fun h1 => ?_) (fun h1 => ?_) <;> simp [go_sem, hw0, hw1] at h1 ⊢
  refine Do.skip ?_
  simp [go_sem]
  apply k2_; clear k2_
  refine Do.seqk fun _ k4_ => ?_
  refine Do.seqk fun _ k5_ => ?_
  refine Do.region [0,1,2,24] true ?_
  simp [go_sem, hw0, hw1]
  apply k5_; clear k5_
  refine Do.cond [0,1,2] rfl (fun h2 => ?_) (fun h2 => ?_) <;> simp [go_sem, hw0, hw1] at h2 ⊢
  refine Do.skip ?_
  simp [go_sem]
  apply k4_; clear k4_
  refine Do.seqk fun _ k6_ => ?_
  refine Do.seqk fun _ k7_ => ?_
  refine Do.region [0,1,2,27] true ?_
  simp [go_sem, hw0, hw1]
  apply k7_; clear k7_
  refine Do.cond [0,1,2] rfl (fun h3 => ?_) (fun h3 => ?_) <;> simp [go_sem, hw0, hw1] at h3 ⊢
  refine Do.seqk fun _ k8_ => ?_
  refine Do.draw [6,7] true (by kernel_rfl) ?_
  simp [go_sem, hw0, hw1]
  repeat (refine And.intro (by first | omega | (intros; omega) | (intros; exact And.intro (by assumption) (by omega)) | kernel_rfl | grind) ?_)
  try (refine And.intro (by kernel_rfl) ?_)
  apply k8_; clear k8_
  refine Do.ret ?_
  simp [endQ, rets, ret1, go_sem, hw0, hw1]
  repeat (refine And.intro (by first | omega | (intros; omega) | (intros; exact And.intro (by assumption) (by omega)) | grind) ?_)
  exact TLe.refl _
theorem drop_set {x : List Nat} {s : Nat} (hs : s < x.length) {w : Nat} (hw : x[s]? = some w) : (List.replicate (s + 1) 0 ++ x.drop (s + 1)).set s w = List.replicate s 0 ++ x.drop s := by
  rw [List.replicate_succ', List.append_assoc, List.set_append_right _ _ (by simp)]
  simp only [List.length_replicate, Nat.sub_self, List.cons_append, List.nil_append, List.set_cons_zero]
  rw [List.drop_eq_getElem_cons hs]
  congr 2
  rw [List.getElem?_eq_getElem hs] at hw
  exact (Option.some.inj hw).symm
theorem divWord_one {x : List Nat} (hx : x.length < 1073741824) (wx : Ws x) : Does Tryz.prog G 186 [Wd x, .c (.n 1)] (.t [Wn (nat (val x)), .c (.n 0)]) := by
  have hT := @Trim_does G x (by unfold Sh; omega) wx
  have hlen : ∀ s, s ≤ x.length → (List.replicate s 0 ++ x.drop s).length = x.length := fun s hs => by simp; omega
  refine Does.of (nt := 35) Tryz.func186 rfl rfl rfl (by simp) ?_
  simp only [argTm, PV.ext, Ce.ext]
  refine Do.seqk fun _ k1_ => ?_
  refine Do.region [0,1] true ?_
  simp [go_sem, -List.reduceReplicate]
  apply k1_; clear k1_
  refine Do.seqk fun _ k2_ => ?_
  refine Do.region [0,1,6] true ?_
  simp [go_sem, -List.reduceReplicate]
  repeat (refine And.intro (by first | omega | (intros; omega) | (intros; exact And.intro (by assumption) (by omega)) | grind) ?_)
  apply k2_; clear k2_
  refine Do.seqk fun _ k3_ => ?_
  refine Do.region [0,1,6,7] true ?_
  simp [go_sem, -List.reduceReplicate]
  apply k3_; clear k3_
  refine Do.seqk fun _ k4_ => ?_
  refine Do.seqk fun _ k5_ => ?_
  refine Do.region [0,1,6,7,8] true ?_
  simp [go_sem, -List.reduceReplicate]
  repeat (refine And.intro (by first | omega | (intros; omega) | (intros; exact And.intro (by assumption) (by omega)) | grind) ?_)
  apply k5_; clear k5_
  refine Do.block ?_
  refine Do.loopF [0,1,6,7,8] (fun (s : Nat) => [(7, .v (.c (.n 0))), (8, .int .i64 ((s : Int) - 1))]) (fun (s : Nat) => [(102, .wr (List.replicate s 0 ++ x.drop s))]) (fun (s : Nat) => s ≤ x.length) (fun (s : Nat) => s) (x.length) (fun _ => by first | (simp [go_sem, mixS]; done) | (simp [go_sem, mixS]; rfl)) (St.le_of (by simp [keep]) (by simp [keep])) (Nat.le_refl _) ?_
  intro s hs
  refine Do.seqk fun _ k6_ => ?_
  refine Do.seqk fun _ k7_ => ?_
  refine Do.region [0,1,6,7,8,16] true ?_
  simp [go_sem, -List.reduceReplicate]
  apply k7_; clear k7_
  refine Do.cond [0,1,6,7,8] rfl (fun h => ?_) (fun h => ?_) <;> simp [go_sem, -List.reduceReplicate] at h ⊢
  · obtain ⟨j, rfl⟩ : ∃ j, s = j + 1 := ⟨s - 1, by omega⟩
    obtain ⟨w, hw⟩ : ∃ w, x[j]? = some w := ⟨_, List.getElem?_eq_getElem (by omega)⟩
    have hwl := wx w (List.mem_of_getElem? hw)
    have hD := @Div64_low G w 1 hwl (by decide)
    rw [Nat.div_one, Nat.mod_one] at hD
    have hset := drop_set (show j < x.length by omega) hw
    have hl := hlen (j + 1) hs
    refine Do.skip ?_
    simp [go_sem]
    apply k6_; clear k6_
    refine Do.seqk fun _ k8_ => ?_
    refine Do.block ?_
    refine Do.region [0,1,6,7,8] true ?_
    simp [go_sem, show ((j : Int) + 1 - 1) = j by omega, hw, hl, -List.reduceReplicate]
    repeat (refine And.intro (by first | omega | (intros; omega) | (intros; exact And.intro (by assumption) (by omega)) | grind) ?_)
    refine DoL.call true 609 rfl rfl rfl rfl (by first | exact trivial | omega | (simp; done) | (simp; omega)) (hD) rfl (by first | exact .inl rfl | exact .inr rfl) rfl ?_
    simp [go_sem, show ((j : Int) + 1 - 1) = j by omega, hw, hl, -List.reduceReplicate]
    repeat (refine And.intro (by first | omega | (intros; omega) | (intros; exact And.intro (by assumption) (by omega)) | grind) ?_)
    apply k8_; clear k8_
    refine Do.region [0,1,6,7,8] true ?_
    simp [go_sem, show ((j : Int) + 1 - 1) = j by omega, hw, hl, -List.reduceReplicate]
    repeat (refine And.intro (by first | omega | (intros; omega) | (intros; exact And.intro (by assumption) (by omega)) | grind) ?_)
    refine ⟨j, St.le_of rfl (by simp [keep, ← hset, List.set_append_left]), by omega, by simp⟩
  · obtain rfl : s = 0 := by omega
    refine Do.exit ?_
    simp [go_sem]
    apply k4_; clear k4_
    refine Do.seqk fun _ k9_ => ?_
    refine Do.frz 102 rfl ?_
    simp [go_sem]
    refine Do.region [4,5] true ?_
    simp [go_sem, -List.reduceReplicate]
    refine DoL.call true 702 rfl rfl rfl rfl (by first | exact trivial | omega | (simp; done) | (simp; omega)) (hT) rfl (by first | exact .inl rfl | exact .inr rfl) rfl ?_
    simp [go_sem, -List.reduceReplicate]
    apply k9_; clear k9_
    refine Do.ret ?_
    simp [endQ, rets, ret1, go_sem, -List.reduceReplicate]
    repeat (refine And.intro (by first | omega | (intros; omega) | (intros; exact And.intro (by assumption) (by omega)) | grind) ?_)
    exact TLe.refl _
theorem WWord_zero : Does Tryz.prog G 187 [.c (.n 0)] (.v (Wn (nat 0))) := by
  have hT := @Trim_does G [0] (by decide) (fun w hw => by simp at hw; omega)
  refine Does.of (nt := 6) Tryz.func187 rfl rfl rfl (by simp) ?_
  simp only [argTm, PV.ext, Ce.ext]
  refine Do.seqk fun _ k1_ => ?_
  refine Do.region [0] true ?_
  simp [go_sem]
  apply k1_; clear k1_
  refine Do.seqk fun _ k2_ => ?_
  refine Do.region [2] true ?_
  simp [go_sem]
  refine DoL.frz true 102 101 rfl ?_
  simp [go_sem]
  refine DoL.call true 103 rfl rfl rfl rfl (by first | exact trivial | omega | (simp; done) | (simp; omega)) (hT) rfl (by first | exact .inl rfl | exact .inr rfl) rfl ?_
  simp [go_sem]
  apply k2_; clear k2_
  refine Do.ret ?_
  simp [endQ, rets, ret1, go_sem]
  repeat (refine And.intro (by first | omega | (intros; omega) | (intros; exact And.intro (by assumption) (by omega)) | grind) ?_)
  exact TLe.refl _
theorem WDivMod_one {x : List Nat} (hx : x.length < 1073741824) (wx : Ws x) (h0 : 0 < val x) : Does Tryz.prog G 168 [Wd x, Wd [1]] (.t [Wn (nat (val x)), Wn (nat 0)]) := by
  have w1 : Ws [1] := fun w hw => by simp at hw; omega
  have h1 := @view_does G x (by unfold Sh; omega)
  have h2 : Does Tryz.prog G 125 [Wd [1]] (.v (Wd [1])) := @view_does G [1] (by decide)
  have hn := norm_length x
  have h3 := @Cmp_does G (norm x) [1] (by unfold Sh; omega) (by decide) (norm_ws wx) w1
  rw [val_norm, show val [1] = 1 from rfl, if_neg (by omega)] at h3
  have h4 := @divWord_one G (norm x) (by omega) (norm_ws wx)
  rw [val_norm] at h4
  have h5 : ¬ (if 1 < val x then (1 : Int) else 0) < 0 := by split <;> omega
  refine Does.of (nt := 127) Tryz.func168 rfl rfl rfl (by simp) ?_
  simp only [argTm, PV.ext, Ce.ext]
  refine Do.seqk fun _ k1_ => ?_
  refine Do.region [0,1] true ?_
  simp [go_sem]
  apply k1_; clear k1_
  refine Do.seqk fun _ k2_ => ?_
  refine Do.region [0,1] true ?_
  simp [go_sem]
  refine DoL.call true 102 rfl rfl rfl rfl (by first | exact trivial | omega | (simp; done) | (simp; omega)) (h1) rfl (by first | exact .inl rfl | exact .inr rfl) rfl ?_
  simp [go_sem]
  refine DoL.call true 104 rfl rfl rfl rfl (by first | exact trivial | omega | (simp; done) | (simp; omega)) (h2) rfl (by first | exact .inl rfl | exact .inr rfl) rfl ?_
  simp [go_sem]
  apply k2_; clear k2_
  refine Do.seqk fun _ k3_ => ?_
  refine Do.seqk fun _ k4_ => ?_
  refine Do.region [0,1,22] true ?_
  simp [go_sem, h5]
  refine DoL.call true 203 rfl rfl rfl rfl (by first | exact trivial | omega | (simp; done) | (simp; omega)) (h3) rfl (by first | exact .inl rfl | exact .inr rfl) rfl ?_
  simp [go_sem, h5]
  apply k4_; clear k4_
  refine Do.cond [0,1] rfl (fun g1 => ?_) (fun g1 => ?_) <;> simp [go_sem, h5] at g1 ⊢
  refine Do.skip ?_
  simp [go_sem]
  apply k3_; clear k3_
  refine Do.seqk fun _ k5_ => ?_
  refine Do.seqk fun _ k6_ => ?_
  refine Do.region [0,1,27] true ?_
  simp [go_sem, h5]
  repeat (refine And.intro (by first | omega | (intros; omega) | (intros; exact And.intro (by assumption) (by omega)) | grind) ?_)
  apply k6_; clear k6_
  refine Do.cond [0,1] rfl (fun g2 => ?_) (fun g2 => ?_) <;> simp [go_sem, h5] at g2 ⊢
  refine Do.seqk fun _ k7_ => ?_
  refine Do.region [6,7] true ?_
  simp [go_sem, h5]
  repeat (refine And.intro (by first | omega | (intros; omega) | (intros; exact And.intro (by assumption) (by omega)) | grind) ?_)
  refine DoL.call true 505 rfl rfl rfl rfl (by first | exact trivial | omega | (simp; done) | (simp; omega)) (h4) rfl (by first | exact .inl rfl | exact .inr rfl) rfl ?_
  simp [go_sem, h5]
  apply k7_; clear k7_
  refine Do.seqk fun _ k8_ => ?_
  refine Do.region [4,5] true ?_
  simp [go_sem, h5]
  refine DoL.call true 603 rfl rfl rfl rfl (by first | exact trivial | omega | (simp; done) | (simp; omega)) (WWord_zero) rfl (by first | exact .inl rfl | exact .inr rfl) rfl ?_
  simp [go_sem, h5]
  apply k8_; clear k8_
  refine Do.ret ?_
  simp [endQ, rets, ret1, go_sem, h5]
  repeat (refine And.intro (by first | omega | (intros; omega) | (intros; exact And.intro (by assumption) (by omega)) | grind) ?_)
  exact TLe.refl _
theorem Ratio_one {f p r : Int} (hf : fmOk f p = true) (hr : 0 ≤ r) (hr' : r ≤ 4) {n : Bool} {m : List Nat} (hm : m.length ≤ 4096) (wm : Ws m) (h0 : 0 < val m) : Does Tryz.prog Gv 122 [Fm f p, .c (.i .i64 r), .c (.b n), Wd m, Wd [1], .c (.i .i64 0)] (.t [(roundP f p r n (val m) 0 false).1.pv, .c (.i .i64 (roundP f p r n (val m) 0 false).2)]) := by
  obtain ⟨b1, b2, b3, b4⟩ := fmOk_spec hf
  obtain ⟨b5, b6⟩ := gOfE_le b1 b2
  have w1 : Ws [1] := fun w hw => by simp at hw; omega
  have hb : bl (val m) ≤ 64 * m.length := bl_le_len wm (Nat.le_refl _)
  have hL := @Len_does Gv m (by unfold Sh; omega) wm
  have hL1 : Does Tryz.prog Gv 62 [Wd [1]] (.int .i64 1) := @Len_does Gv [1] (by decide) w1
  by_cases hs : p + 3 - bl (val m) + 1 > 0
  · obtain ⟨s, hs'⟩ : ∃ s : Nat, p + 3 - bl (val m) + 1 = s := ⟨(p + 3 - bl (val m) + 1).toNat, by omega⟩
    have hS := @Shl_does Gv m (by unfold Sh; omega) wm s (by omega)
    have hpos : 0 < val m * 2 ^ s := Nat.mul_pos h0 (Nat.pow_pos (by decide))
    have hbl : bl (val m * 2 ^ s) = s + bl (val m) := bl_mul_pow _ _ h0
    have hD := @WDivMod_one Gv (nat (val m * 2 ^ s)) (by have := nat_len_bl (val m * 2 ^ s); omega) (nat_ws _) (by rw [val_nat]; exact hpos)
    rw [val_nat] at hD
    have hZ := @Zero_does Gv (nat 0) (by rw [nat_zero]; decide)
    rw [val_nat] at hZ
    have hF := @Float_does f p r hf hr hr' n (val m * 2 ^ s) (0 - (s : Int)) false (by omega) (by omega)
    rw [roundP_scale s h0] at hF
    generalize roundP f p r n (val m) 0 false = z at *
    generalize val m * 2 ^ s = u at *
    rw [Int.zero_sub] at hF
    refine Does.of (nt := 50) Tryz.func122 rfl rfl rfl (by simp) ?_
    simp only [argTm, PV.ext, Ce.ext]
    refine Do.seqk fun _ k1_ => ?_
    refine Do.region [1,2,3,4,5,6,12] true ?_
    simp [go_sem]
    apply k1_; clear k1_
    refine Do.seqk fun _ k2_ => ?_
    refine Do.draw [1,2,3,4,5,6,12,14] true (by kernel_rfl) ?_
    simp [go_sem]
    repeat (refine And.intro (by first | omega | (intros; omega) | (intros; exact And.intro (by assumption) (by omega)) | kernel_rfl | grind) ?_)
    refine DoLD.call true 105 rfl rfl rfl rfl (by first | exact trivial | omega | (simp; done) | (simp; omega)) (hL) rfl (by first | exact .inl rfl | exact .inr rfl) rfl ?_
    simp [go_sem]
    repeat (refine And.intro (by first | omega | (intros; omega) | (intros; exact And.intro (by assumption) (by omega)) | kernel_rfl | grind) ?_)
    refine DoLD.call true 108 rfl rfl rfl rfl (by first | exact trivial | omega | (simp; done) | (simp; omega)) (hL1) rfl (by first | exact .inl rfl | exact .inr rfl) rfl ?_
    simp [go_sem]
    repeat (refine And.intro (by first | omega | (intros; omega) | (intros; exact And.intro (by assumption) (by omega)) | kernel_rfl | grind) ?_)
    try (refine And.intro (by kernel_rfl) ?_)
    apply k2_; clear k2_
    refine Do.seqk fun _ k3_ => ?_
    refine Do.seqk fun _ k4_ => ?_
    refine Do.region [1,2,3,4,5,6,12,14,27] true ?_
    simp [go_sem, hs']
    apply k4_; clear k4_
    refine Do.cond [1,2,3,4,5,6,12,14] rfl (fun g1 => ?_) (fun g1 => ?_) <;> simp [go_sem, hs'] at g1 ⊢
    · refine Do.region [1,2,3,4,5,6,12,14] true ?_
      simp [go_sem, hs']
      refine DoL.call true 303 rfl rfl rfl rfl (by first | exact trivial | omega | (simp; done) | (simp; omega)) (hS) rfl (by first | exact .inl rfl | exact .inr rfl) rfl ?_
      simp [go_sem, hs']
      apply k3_; clear k3_
      refine Do.seqk fun _ k5_ => ?_
      refine Do.region [1,2,5,6,12,14,15,16] true ?_
      simp [go_sem, hs']
      refine DoL.call true 503 rfl rfl rfl rfl (by first | exact trivial | omega | (simp; done) | (simp; omega)) (hD) rfl (by first | exact .inl rfl | exact .inr rfl) rfl ?_
      simp [go_sem, hs']
      apply k5_; clear k5_
      refine Do.seqk fun _ k6_ => ?_
      refine Do.draw [12,13] true (by kernel_rfl) ?_
      simp [go_sem, hs']
      repeat (refine And.intro (by first | omega | (intros; omega) | (intros; exact And.intro (by assumption) (by omega)) | kernel_rfl | grind) ?_)
      refine DoLD.call true 609 rfl rfl rfl rfl (by first | exact trivial | omega | (simp; done) | (simp; omega)) (hZ) rfl (by first | exact .inl rfl | exact .inr rfl) rfl ?_
      simp [go_sem, hs']
      repeat (refine And.intro (by first | omega | (intros; omega) | (intros; exact And.intro (by assumption) (by omega)) | kernel_rfl | grind) ?_)
      refine DoLD.call true 611 rfl rfl rfl rfl (by first | exact trivial | omega | (simp; done) | (simp; omega)) (hF) rfl (by first | exact .inl rfl | exact .inr rfl) rfl ?_
      simp [go_sem, hs']
      repeat (refine And.intro (by first | omega | (intros; omega) | (intros; exact And.intro (by assumption) (by omega)) | kernel_rfl | grind) ?_)
      try (refine And.intro (by kernel_rfl) ?_)
      apply k6_; clear k6_
      refine Do.ret ?_
      simp [endQ, rets, ret1, go_sem, hs']
      repeat (refine And.intro (by first | omega | (intros; omega) | (intros; exact And.intro (by assumption) (by omega)) | grind) ?_)
      exact TLe.refl _
    · omega
  · have hD := @WDivMod_one Gv m (by omega) wm h0
    have hZ := @Zero_does Gv (nat 0) (by rw [nat_zero]; decide)
    rw [val_nat] at hZ
    have hF := @Float_does f p r hf hr hr' n (val m) 0 false (by omega) (by omega)
    generalize roundP f p r n (val m) 0 false = z at *
    generalize hv : val m = v at *
    refine Does.of (nt := 50) Tryz.func122 rfl rfl rfl (by simp) ?_
    simp only [argTm, PV.ext, Ce.ext]
    refine Do.seqk fun _ k1_ => ?_
    refine Do.region [1,2,3,4,5,6,12] true ?_
    simp [go_sem]
    apply k1_; clear k1_
    refine Do.seqk fun _ k2_ => ?_
    refine Do.draw [1,2,3,4,5,6,12,14] true (by kernel_rfl) ?_
    simp [go_sem]
    repeat (refine And.intro (by first | omega | (intros; omega) | (intros; exact And.intro (by assumption) (by omega)) | kernel_rfl | grind) ?_)
    refine DoLD.call true 105 rfl rfl rfl rfl (by first | exact trivial | omega | (simp; done) | (simp; omega)) (hL) rfl (by first | exact .inl rfl | exact .inr rfl) rfl ?_
    simp [go_sem]
    repeat (refine And.intro (by first | omega | (intros; omega) | (intros; exact And.intro (by assumption) (by omega)) | kernel_rfl | grind) ?_)
    refine DoLD.call true 108 rfl rfl rfl rfl (by first | exact trivial | omega | (simp; done) | (simp; omega)) (hL1) rfl (by first | exact .inl rfl | exact .inr rfl) rfl ?_
    simp [go_sem]
    repeat (refine And.intro (by first | omega | (intros; omega) | (intros; exact And.intro (by assumption) (by omega)) | kernel_rfl | grind) ?_)
    try (refine And.intro (by kernel_rfl) ?_)
    apply k2_; clear k2_
    refine Do.seqk fun _ k3_ => ?_
    refine Do.seqk fun _ k4_ => ?_
    refine Do.region [1,2,3,4,5,6,12,14,27] true ?_
    simp [go_sem]
    apply k4_; clear k4_
    refine Do.cond [1,2,3,4,5,6,12,14] rfl (fun g1 => ?_) (fun g1 => ?_) <;> simp [go_sem] at g1 ⊢
    · exact absurd g1 (by omega)
    · refine Do.region [1,2,3,4,5,6,12,14] true ?_
      simp [go_sem]
      apply k3_; clear k3_
      refine Do.seqk fun _ k5_ => ?_
      refine Do.region [1,2,5,6,12,14,15,16] true ?_
      simp [go_sem]
      refine DoL.call true 503 rfl rfl rfl rfl (by first | exact trivial | omega | (simp; done) | (simp; omega)) (hD) rfl (by first | exact .inl rfl | exact .inr rfl) rfl ?_
      simp [go_sem]
      apply k5_; clear k5_
      refine Do.seqk fun _ k6_ => ?_
      refine Do.draw [12,13] true (by kernel_rfl) ?_
      simp [go_sem]
      repeat (refine And.intro (by first | omega | (intros; omega) | (intros; exact And.intro (by assumption) (by omega)) | kernel_rfl | grind) ?_)
      refine DoLD.call true 609 rfl rfl rfl rfl (by first | exact trivial | omega | (simp; done) | (simp; omega)) (hZ) rfl (by first | exact .inl rfl | exact .inr rfl) rfl ?_
      simp [go_sem]
      repeat (refine And.intro (by first | omega | (intros; omega) | (intros; exact And.intro (by assumption) (by omega)) | kernel_rfl | grind) ?_)
      refine DoLD.call true 611 rfl rfl rfl rfl (by first | exact trivial | omega | (simp; done) | (simp; omega)) (hF) rfl (by first | exact .inl rfl | exact .inr rfl) rfl ?_
      simp [go_sem]
      repeat (refine And.intro (by first | omega | (intros; omega) | (intros; exact And.intro (by assumption) (by omega)) | kernel_rfl | grind) ?_)
      try (refine And.intro (by kernel_rfl) ?_)
      apply k6_; clear k6_
      refine Do.ret ?_
      simp [endQ, rets, ret1, go_sem]
      repeat (refine And.intro (by first | omega | (intros; omega) | (intros; exact And.intro (by assumption) (by omega)) | grind) ?_)
      exact TLe.refl _
end Go.Proofs.YtokgalpflooegaaGreatDoor
/- Conversions, plain. No condition. -/
namespace Go.Proofs.YtokgalpflooegaaGreatDoor
set_option linter.unusedVariables false
set_option linter.unusedSimpArgs false
set_option maxHeartbeats 4000000
set_option maxRecDepth 10000
/-- The error of a conversion's arguments. -/
def argsC (f p g q r : Int) (b : Bool) (x : Fla) : Int :=
  if 4096 < x.m.length then 2 else if (decide (0 ≤ r) && decide (r ≤ 4) && !b) = false then 1 else if fmOk f p = false ∨ fmOk g q = false then 150 else if (holdsP f p x.flt).2 = false then 151 else 0
theorem argsC_same (f p r : Int) (b : Bool) (x : Fla) : argsC f p f p r b x = argsE f p r b [x] := by
  unfold argsC argsE
  simp [anyLarge, allHold]
theorem argsC_zero {f p g q r : Int} {b : Bool} {x : Fla} (h : argsC f p g q r b x = 0) : x.m.length ≤ 4096 ∧ 0 ≤ r ∧ r ≤ 4 ∧ b = false ∧ fmOk f p = true ∧ fmOk g q = true ∧ (holdsP f p x.flt).2 = true := by
  unfold argsC at h
  by_cases h1 : 4096 < x.m.length
  · simp [h1] at h
  · cases h2 : (decide (0 ≤ r) && decide (r ≤ 4) && !b) <;> cases h3 : fmOk f p <;> cases h4 : fmOk g q <;> cases h5 : (holdsP f p x.flt).2 <;> simp [h1, h2, h3, h4, h5] at h
    simp only [Bool.and_eq_true, decide_eq_true_eq, Bool.not_eq_true'] at h2
    exact ⟨by omega, h2.1.1, h2.1.2, h2.2, rfl, rfl, rfl⟩
/-- A float, rounded to a format. -/
def convA (g q r : Int) (a : Flt) : Flt × Int := if a.k = 1 then (Nu.mk a.n a.v a.e).round g q r false else (a, 0)
def convP (f p g q r : Int) (x : Fla) : Flt × Int × Int :=
  if argsC f p g q r false x = 0 then ((convA g q r (holdsP f p x.flt).1).1, (convA g q r (holdsP f p x.flt).1).2, 0) else (⟨0, false, 0, 0⟩, 0, argsC f p g q r false x)
/-- Is every float of a format one of another? -/
def fitP (f p g q : Int) : Bool := decide (p ≤ q) && decide (gOfE f ≤ gOfE g) && decide (1 - gOfE g - (q - 1) ≤ 1 - gOfE f - (p - 1))
theorem held_fin20 {f p : Int} {x : Flt} (h : (holdsP f p x).2 = true) (hk : (holdsP f p x).1.k = 1) : (bl (holdsP f p x).1.v : Int) ≤ p ∧ 1 - gOfE f - (p - 1) ≤ (holdsP f p x).1.e ∧ (holdsP f p x).1.e + bl (holdsP f p x).1.v ≤ gOfE f + 1 := by
  unfold holdsP at *
  split at h
  · rename_i hc
    rw [if_pos hc] at hk
    rcases hc with hc | hc
    · rw [h] at hc; cases hc
    · exact absurd hk hc
  · rename_i hc
    rw [if_neg hc]
    simp only [Bool.and_eq_true, decide_eq_true_eq] at h
    simp only []
    omega
theorem canon_rc {x : Flt} (h : (canon x).2 = true) : (canon (rcanon x)).2 = true := by
  have hk := (canon_kind h).1
  by_cases h1 : x.k = 1
  · have hb := canon_one h h1
    have e1 : rcanon x = ⟨1, x.n, x.e + tz x.v, x.v / 2 ^ tz x.v⟩ := by simp [rcanon, h1]
    have hd : x.v / 2 ^ tz x.v ≠ 0 := by
      obtain ⟨m, hm⟩ := tz_form (show 0 < x.v by omega)
      have : x.v / 2 ^ tz x.v = 2 * m + 1 := by
        conv => lhs; arg 1; rw [hm]
        exact Nat.mul_div_cancel_left _ (Nat.pow_pos (by decide))
      omega
    rw [e1]
    unfold canon
    simp only []
    rw [if_neg (by omega), if_neg (by omega), if_pos trivial, if_neg (by omega)]
    simp [tz_rest (show 0 < x.v by omega)]; omega
  · have e1 : rcanon x = ⟨x.k, x.n, 0, 0⟩ := by simp [rcanon, h1]
    rw [e1]
    unfold canon
    simp only []
    rcases hk with hk | hk | hk | hk
    · rw [if_pos (by omega)]; simp
    · exact absurd hk h1
    · rw [if_pos (by omega)]; simp
    · rw [if_neg (by omega), if_pos hk]; simp [(canon_kind h).2 hk]
/-- What is held: its canonical form is itself. -/
theorem held_canon {f p : Int} {x : Flt} (h : (holdsP f p x).2 = true) : canon (holdsP f p x).1 = ((holdsP f p x).1, true) := by
  have hr := held_rcanon h
  have h2 : (canon (holdsP f p x).1).2 = true := by
    rw [← hr.1]
    exact canon_rc hr.2
  have h4 : (canon (holdsP f p x).1).1 = (holdsP f p x).1 := by
    rw [← rcanon_good h2, ← hr.1]; exact rcanon_idem _
  exact Prod.ext h4 h2
end Go.Proofs.YtokgalpflooegaaGreatDoor
/- The integer part of a number; the arguments of conversions. No condition. -/
namespace Go.Proofs.YtokgalpflooegaaGreatDoor
set_option linter.unusedVariables false
set_option linter.unusedSimpArgs false
set_option maxHeartbeats 4000000
set_option maxRecDepth 10000
/-- A number, rounded to an integer, and whether it is one. -/
def wholeP (r : Int) (x : Nu) : Nat × Bool := (upP r x.n (cutP x.v (-x.e) false).1 (cutP x.v (-x.e) false).2, decide ((cutP x.v (-x.e) false).2 = 0))
theorem sgn_neg (n : Bool) (v : Nat) : (n && decide (0 < ((nat v).length : Int))) = decide (sgn n v < 0) := by
  have h : 0 < (nat v).length ↔ v ≠ 0 := nat_len_zero v
  cases n
  · simp [sgn]
  · simp only [Bool.true_and, sgn, if_true]
    congr 1
    apply propext
    constructor
    · intro h1
      have := h.1 (by omega)
      omega
    · intro h1
      have := h.2 (by omega)
      omega
theorem PLe.iv20 {n : Bool} {v : Nat} {c : Ce} {b : Bool} (hb : b = decide (sgn n v < 0)) (h : PLe (.c c) (.c (.w false (nat v)))) : PLe (.a [.b b, c]) (Iv (sgn n v)) := by
  subst hb
  show PLe _ (Ig (decide (sgn n v < 0)) (nat (sgn n v).natAbs))
  rw [sgn_abs]
  exact PLe.agg (.cons (PLe.refl _) (.cons h .nil))
theorem WholeN_does {r : Int} (hr : 0 ≤ r) (hr' : r ≤ 4) {x : Nu} (hx : x.Ok) : Does Tryz.prog Gv 80 [x.pv, .c (.i .i64 r)] (.t [Iv (sgn x.n (wholeP r x).1), .c (.b (wholeP r x).2)]) := by
  obtain ⟨n, v, e⟩ := x
  have hl := hx.len
  obtain ⟨h1, h2⟩ := hx
  simp only [] at h1 h2 hl
  unfold wholeP
  simp only []
  have hc := @cut_does (nat v) (-e) false (by omega) (nat_ws _) (by omega) (by omega)
  have hcl := cutP_bl v (-e) false
  rw [val_nat] at hc
  generalize cutP v (-e) false = c at *
  obtain ⟨c1, c2⟩ := c
  simp only [] at hc hcl
  have hlc := nat_len_bl c1
  have hu := @up_does r n (nat c1) c2 hr hr' (by omega) (nat_ws _)
  rw [val_nat] at hu
  simp only []
  generalize upP r n c1 c2 = u at *
  have hs := sgn_neg n u
  refine Does.of (nt := 34) Tryz.func80 rfl rfl rfl (by simp) ?_
  simp only [argTm, PV.ext, Ce.ext]
  refine Do.seqk fun _ k1_ => ?_
  refine Do.region [1,2,4] true ?_
  simp [go_sem]
  apply k1_; clear k1_
  refine Do.seqk fun _ k2_ => ?_
  refine Do.region [1,2,4,6,7] true ?_
  simp [go_sem]
  repeat (refine And.intro (by first | omega | (intros; omega) | (intros; exact And.intro (by assumption) (by omega)) | grind) ?_)
  refine DoL.call true 106 rfl rfl rfl rfl (by first | exact trivial | omega | (simp; done) | (simp; omega)) (hc) rfl (by first | exact .inl rfl | exact .inr rfl) rfl ?_
  simp [go_sem]
  apply k2_; clear k2_
  refine Do.seqk fun _ k3_ => ?_
  refine Do.region [2,4,6,7] true ?_
  simp [go_sem]
  repeat (refine And.intro (by first | omega | (intros; omega) | (intros; exact And.intro (by assumption) (by omega)) | grind) ?_)
  refine DoL.call true 206 rfl rfl rfl rfl (by first | exact trivial | omega | (simp; done) | (simp; omega)) (hu) rfl (by first | exact .inl rfl | exact .inr rfl) rfl ?_
  simp [go_sem]
  apply k3_; clear k3_
  refine Do.seqk fun _ k4_ => ?_
  refine Do.region [4,5] true ?_
  simp [go_sem]
  repeat (refine And.intro (by first | omega | (intros; omega) | (intros; exact And.intro (by assumption) (by omega)) | grind) ?_)
  apply k4_; clear k4_
  refine Do.ret ?_
  simp [endQ, rets, ret1, go_sem]
  repeat (refine And.intro (by first | omega | (intros; omega) | (intros; exact And.intro (by assumption) (by omega)) | grind) ?_)
  exact TLe.t (.cons (PLe.iv20 (by simpa using hs) (by first | exact PLe.refl _ | exact PLe.ext (.c (.w true _)))) (.cons (PLe.refl _) .nil))
theorem cargs_does {f p g q r : Int} {b : Bool} {x : Fla} (hx : x.Ok) : Does Tryz.prog Gv 47 [Fm f p, Fm g q, .c (.i .i64 r), .c (.b b), Fl x.k x.n x.e x.m] (.t [(if argsC f p g q r b x = 0 then (holdsP f p x.flt).1 else ⟨0, false, 0, 0⟩).pv, .c (.i .i64 (argsC f p g q r b x))]) := by
  have hsh := hx.sh
  by_cases he : argsC f p g q r b x = 0
  · obtain ⟨h1, h2, h3, h4, h5, h6, h7⟩ := argsC_zero he
    rw [if_pos he, he]
    have hO : DoesO Tryz.prog Gv 99 [Fm f p, .s false [x.cs]] 4 [(holdsP f p x.flt).1.cs] [.c (.i .i64 0)] := @Floats_own f p [x] (by simp) (by simpa using h1) h5 (by simpa using hx) (by simpa [allHold] using h7)
    generalize (holdsP f p x.flt).1 = a at *
    have hc1 : Does Tryz.prog Gv 110 [Fm f p] (.v (.c (.i .i64 0))) := by have := @Check_does Gv f p; rwa [if_pos h5] at this
    have hc2 : Does Tryz.prog Gv 110 [Fm g q] (.v (.c (.i .i64 0))) := by have := @Check_does Gv g q; rwa [if_pos h6] at this
    have hR : Does Tryz.prog Gv 109 [.c (.i .i64 r)] (.v (.c (.b true))) := by have := @Right_does Gv r; rwa [show (decide (0 ≤ r) && decide (r ≤ 4)) = true by simp; omega] at this
    subst h4
    refine Does.of (nt := 52) Tryz.func47 rfl rfl rfl (by simp) ?_
    simp only [argTm, PV.ext, Ce.ext]
    refine Do.seqk fun _ k1_ => ?_
    refine Do.region [2,3,5,6,9,10] true ?_
    simp [go_sem]
    apply k1_; clear k1_
    refine Do.seqk fun _ k2_ => ?_
    refine Do.block ?_
    refine Do.seqk fun _ k3_ => ?_
    refine Do.region [2,3,5,6,9,10,14] true ?_
    simp [go_sem]
    repeat (refine And.intro (by first | omega | (intros; omega) | (intros; exact And.intro (by assumption) (by omega)) | grind) ?_)
    apply k3_; clear k3_
    refine Do.cond [2,3,5,6,9,10] rfl (fun g1 => ?_) (fun g1 => ?_) <;> simp [go_sem] at g1 ⊢
    · omega
    · refine Do.seqk fun _ k4_ => ?_
      refine Do.region [5,6,9,10,20] true ?_
      simp [go_sem]
      refine DoL.call true 302 rfl rfl rfl rfl (by first | exact trivial | omega | (simp; done) | (simp; omega)) (hR) rfl (by first | exact .inl rfl | exact .inr rfl) rfl ?_
      simp [go_sem]
      repeat (refine And.intro (by first | omega | (intros; omega) | (intros; exact And.intro (by assumption) (by omega)) | grind) ?_)
      apply k4_; clear k4_
      refine Do.cond [5,6,9,10] rfl (fun g2 => ?_) (fun g2 => ?_) <;> simp [go_sem] at g2 ⊢
      refine Do.seqk fun _ k5_ => ?_
      refine Do.region [5,9,10,28] true ?_
      simp [go_sem]
      repeat (refine And.intro (by first | omega | (intros; omega) | (intros; exact And.intro (by assumption) (by omega)) | grind) ?_)
      refine DoL.call true 502 rfl rfl rfl rfl (by first | exact trivial | omega | (simp; done) | (simp; omega)) (hc1) rfl (by first | exact .inl rfl | exact .inr rfl) rfl ?_
      simp [go_sem]
      repeat (refine And.intro (by first | omega | (intros; omega) | (intros; exact And.intro (by assumption) (by omega)) | grind) ?_)
      refine DoL.callg true 506 rfl rfl rfl rfl rfl (by simp [go_sem] <;> omega) (fun _ => hc2) rfl (by first | exact .inl rfl | exact .inr rfl) rfl ?_
      simp [go_sem]
      apply k5_; clear k5_
      refine Do.cond [5,9,10] rfl (fun g3 => ?_) (fun g3 => ?_) <;> simp [go_sem] at g3 ⊢
      refine Do.skip ?_
      simp [go_sem]
      apply k2_; clear k2_
      refine Do.seqk fun _ k6_ => ?_
      refine Do.region [10,12,13] true ?_
      simp [go_sem]
      repeat (refine And.intro (by first | omega | (intros; omega) | (intros; exact And.intro (by assumption) (by omega)) | grind) ?_)
      refine DoL.sealS true 703 702 rfl ?_
      simp [go_sem]
      refine DoL.callO true 704 3000 rfl rfl rfl rfl (by first | exact trivial | omega | (simp; done) | (simp; omega)) (hO) rfl rfl rfl ?_
      simp [go_sem]
      apply k6_; clear k6_
      refine Do.seqk fun _ k7_ => ?_
      refine Do.seqk fun _ k8_ => ?_
      refine Do.region [10,12,13,46] true ?_
      simp [go_sem]
      apply k8_; clear k8_
      refine Do.cond [10,12,13] rfl (fun g4 => ?_) (fun g4 => ?_) <;> simp [go_sem] at g4 ⊢
      refine Do.skip ?_
      simp [go_sem]
      apply k7_; clear k7_
      refine Do.seqk fun _ k9_ => ?_
      refine Do.region [10,11] true ?_
      simp [go_sem]
      repeat (refine And.intro (by first | omega | (intros; omega) | (intros; exact And.intro (by assumption) (by omega)) | grind) ?_)
      apply k9_; clear k9_
      refine Do.ret ?_
      simp [endQ, rets, ret1, go_sem]
      repeat (refine And.intro (by first | omega | (intros; omega) | (intros; exact And.intro (by assumption) (by omega)) | grind) ?_)
      exact TLe.refl _
  · rw [if_neg he]
    have hc1 := @Check_does Gv f p
    have hc2 := @Check_does Gv g q
    have hR := @Right_does Gv r
    have hz : argsC f p g q r b x = argsC f p g q r b x := rfl
    conv at hz => rhs; unfold argsC
    have hF : x.m.length ≤ 4096 → fmOk f p = true → (holdsP f p x.flt).2 = false → Does Tryz.prog Gv 99 [Fm f p, .s false [x.cs]] (.t [.c .z, .c (.i .i64 151)]) := fun a1 a2 a3 => (@Floats_fine f p [x] (by simp) (by simpa using a1) (by simpa using hx)).2 a2 (by simpa [allHold] using a3)
    generalize argsC f p g q r b x = z at *
    by_cases g1 : 4096 < x.m.length
    · rw [if_pos g1] at hz
      subst hz
      refine Does.of (nt := 52) Tryz.func47 rfl rfl rfl (by simp) ?_
      simp only [argTm, PV.ext, Ce.ext]
      refine Do.seqk fun _ k1_ => ?_
      refine Do.region [2,3,5,6,9,10] true ?_
      simp [go_sem]
      apply k1_; clear k1_
      refine Do.seqk fun _ k2_ => ?_
      refine Do.block ?_
      refine Do.seqk fun _ k3_ => ?_
      refine Do.region [2,3,5,6,9,10,14] true ?_
      simp [go_sem]
      repeat (refine And.intro (by first | omega | (intros; omega) | (intros; exact And.intro (by assumption) (by omega)) | grind) ?_)
      apply k3_; clear k3_
      refine Do.cond [2,3,5,6,9,10] rfl (fun g2 => ?_) (fun g2 => ?_) <;> simp [go_sem] at g2 ⊢
      · refine Do.seqk fun _ k4_ => ?_
        refine Do.region [10,11] true ?_
        simp [go_sem]
        repeat (refine And.intro (by first | omega | (intros; omega) | (intros; exact And.intro (by assumption) (by omega)) | grind) ?_)
        apply k4_; clear k4_
        refine Do.ret ?_
        simp [endQ, rets, ret1, go_sem]
        repeat (refine And.intro (by first | omega | (intros; omega) | (intros; exact And.intro (by assumption) (by omega)) | grind) ?_)
        exact TLe.t (.cons (PLe.flt (ret_z rfl)) (.cons (PLe.refl _) .nil))
      · omega
    · rw [if_neg g1] at hz
      cases g2 : (decide (0 ≤ r) && decide (r ≤ 4) && !b) with
      | false =>
        rw [if_pos g2] at hz
        subst hz
        generalize (decide (0 ≤ r) && decide (r ≤ 4)) = rr at *
        have g3 : (!rr || b) = true := by cases rr <;> cases b <;> simp_all
        refine Does.of (nt := 52) Tryz.func47 rfl rfl rfl (by simp) ?_
        simp only [argTm, PV.ext, Ce.ext]
        refine Do.seqk fun _ k1_ => ?_
        refine Do.region [2,3,5,6,9,10] true ?_
        simp [go_sem]
        apply k1_; clear k1_
        refine Do.seqk fun _ k2_ => ?_
        refine Do.block ?_
        refine Do.seqk fun _ k3_ => ?_
        refine Do.region [2,3,5,6,9,10,14] true ?_
        simp [go_sem]
        repeat (refine And.intro (by first | omega | (intros; omega) | (intros; exact And.intro (by assumption) (by omega)) | grind) ?_)
        apply k3_; clear k3_
        refine Do.cond [2,3,5,6,9,10] rfl (fun g4 => ?_) (fun g4 => ?_) <;> simp [go_sem] at g4 ⊢
        · omega
        · refine Do.seqk fun _ k4_ => ?_
          refine Do.region [5,6,9,10,20] true ?_
          simp [go_sem]
          refine DoL.call true 302 rfl rfl rfl rfl (by first | exact trivial | omega | (simp; done) | (simp; omega)) (hR) rfl (by first | exact .inl rfl | exact .inr rfl) rfl ?_
          simp [go_sem]
          repeat (refine And.intro (by first | omega | (intros; omega) | (intros; exact And.intro (by assumption) (by omega)) | grind) ?_)
          apply k4_; clear k4_
          refine Do.cond [5,6,9,10] rfl (fun g5 => ?_) (fun g5 => ?_) <;> simp [go_sem, g3] at g5 ⊢
          refine Do.seqk fun _ k5_ => ?_
          refine Do.region [10,11] true ?_
          simp [go_sem, g3]
          repeat (refine And.intro (by first | omega | (intros; omega) | (intros; exact And.intro (by assumption) (by omega)) | grind) ?_)
          apply k5_; clear k5_
          refine Do.ret ?_
          simp [endQ, rets, ret1, go_sem, g3]
          repeat (refine And.intro (by first | omega | (intros; omega) | (intros; exact And.intro (by assumption) (by omega)) | grind) ?_)
          exact TLe.t (.cons (PLe.flt (ret_z rfl)) (.cons (PLe.refl _) .nil))
      | true =>
        rw [if_neg (by simp [g2])] at hz
        generalize (decide (0 ≤ r) && decide (r ≤ 4)) = rr at *
        have g3 : (!rr || b) = false := by cases rr <;> cases b <;> simp_all
        by_cases g6 : fmOk f p = false ∨ fmOk g q = false
        · rw [if_pos g6] at hz
          subst hz
          refine Does.of (nt := 52) Tryz.func47 rfl rfl rfl (by simp) ?_
          simp only [argTm, PV.ext, Ce.ext]
          refine Do.seqk fun _ k1_ => ?_
          refine Do.region [2,3,5,6,9,10] true ?_
          simp [go_sem]
          apply k1_; clear k1_
          refine Do.seqk fun _ k2_ => ?_
          refine Do.block ?_
          refine Do.seqk fun _ k3_ => ?_
          refine Do.region [2,3,5,6,9,10,14] true ?_
          simp [go_sem]
          repeat (refine And.intro (by first | omega | (intros; omega) | (intros; exact And.intro (by assumption) (by omega)) | grind) ?_)
          apply k3_; clear k3_
          refine Do.cond [2,3,5,6,9,10] rfl (fun g4 => ?_) (fun g4 => ?_) <;> simp [go_sem] at g4 ⊢
          · omega
          · refine Do.seqk fun _ k4_ => ?_
            refine Do.region [5,6,9,10,20] true ?_
            simp [go_sem]
            refine DoL.call true 302 rfl rfl rfl rfl (by first | exact trivial | omega | (simp; done) | (simp; omega)) (hR) rfl (by first | exact .inl rfl | exact .inr rfl) rfl ?_
            simp [go_sem]
            repeat (refine And.intro (by first | omega | (intros; omega) | (intros; exact And.intro (by assumption) (by omega)) | grind) ?_)
            apply k4_; clear k4_
            refine Do.cond [5,6,9,10] rfl (fun g5 => ?_) (fun g5 => ?_) <;> simp [go_sem, g3] at g5 ⊢
            refine Do.seqk fun _ k5_ => ?_
            refine Do.region [5,9,10,28] true ?_
            simp [go_sem, g3]
            repeat (refine And.intro (by first | omega | (intros; omega) | (intros; exact And.intro (by assumption) (by omega)) | grind) ?_)
            refine DoL.call true 502 rfl rfl rfl rfl (by first | exact trivial | omega | (simp; done) | (simp; omega)) (hc1) rfl (by first | exact .inl rfl | exact .inr rfl) rfl ?_
            simp [go_sem, g3]
            repeat (refine And.intro (by first | omega | (intros; omega) | (intros; exact And.intro (by assumption) (by omega)) | grind) ?_)
            refine DoL.callg true 506 rfl rfl rfl rfl rfl (by simp [go_sem] <;> omega) (fun _ => hc2) rfl (by first | exact .inl rfl | exact .inr rfl) rfl ?_
            simp [go_sem, g3]
            apply k5_; clear k5_
            refine Do.cond [5,9,10] rfl (fun g7 => ?_) (fun g7 => ?_) <;> simp [go_sem, g3] at g7 ⊢
            · refine Do.seqk fun _ k6_ => ?_
              refine Do.region [10,11] true ?_
              simp [go_sem, g3]
              repeat (refine And.intro (by first | omega | (intros; omega) | (intros; exact And.intro (by assumption) (by omega)) | grind) ?_)
              apply k6_; clear k6_
              refine Do.ret ?_
              simp [endQ, rets, ret1, go_sem, g3]
              repeat (refine And.intro (by first | omega | (intros; omega) | (intros; exact And.intro (by assumption) (by omega)) | grind) ?_)
              exact TLe.t (.cons (PLe.flt (ret_z rfl)) (.cons (PLe.refl _) .nil))
            · rcases g6 with g6 | g6 <;> simp [g6] at g7
        · rw [if_neg g6] at hz
          simp only [not_or, Bool.not_eq_false] at g6
          obtain ⟨g7, g8⟩ := g6
          rw [if_pos g7] at hc1
          rw [if_pos g8] at hc2
          cases g9 : (holdsP f p x.flt).2 with
          | true => rw [if_neg (by simp [g9])] at hz; exact absurd hz he
          | false =>
            rw [if_pos g9] at hz
            subst hz
            have hF := hF (by omega) g7 g9
            refine Does.of (nt := 52) Tryz.func47 rfl rfl rfl (by simp) ?_
            simp only [argTm, PV.ext, Ce.ext]
            refine Do.seqk fun _ k1_ => ?_
            refine Do.region [2,3,5,6,9,10] true ?_
            simp [go_sem]
            apply k1_; clear k1_
            refine Do.seqk fun _ k2_ => ?_
            refine Do.block ?_
            refine Do.seqk fun _ k3_ => ?_
            refine Do.region [2,3,5,6,9,10,14] true ?_
            simp [go_sem]
            repeat (refine And.intro (by first | omega | (intros; omega) | (intros; exact And.intro (by assumption) (by omega)) | grind) ?_)
            apply k3_; clear k3_
            refine Do.cond [2,3,5,6,9,10] rfl (fun g4 => ?_) (fun g4 => ?_) <;> simp [go_sem] at g4 ⊢
            · omega
            · refine Do.seqk fun _ k4_ => ?_
              refine Do.region [5,6,9,10,20] true ?_
              simp [go_sem]
              refine DoL.call true 302 rfl rfl rfl rfl (by first | exact trivial | omega | (simp; done) | (simp; omega)) (hR) rfl (by first | exact .inl rfl | exact .inr rfl) rfl ?_
              simp [go_sem]
              repeat (refine And.intro (by first | omega | (intros; omega) | (intros; exact And.intro (by assumption) (by omega)) | grind) ?_)
              apply k4_; clear k4_
              refine Do.cond [5,6,9,10] rfl (fun g5 => ?_) (fun g5 => ?_) <;> simp [go_sem, g3] at g5 ⊢
              refine Do.seqk fun _ k5_ => ?_
              refine Do.region [5,9,10,28] true ?_
              simp [go_sem, g3]
              repeat (refine And.intro (by first | omega | (intros; omega) | (intros; exact And.intro (by assumption) (by omega)) | grind) ?_)
              refine DoL.call true 502 rfl rfl rfl rfl (by first | exact trivial | omega | (simp; done) | (simp; omega)) (hc1) rfl (by first | exact .inl rfl | exact .inr rfl) rfl ?_
              simp [go_sem, g3]
              repeat (refine And.intro (by first | omega | (intros; omega) | (intros; exact And.intro (by assumption) (by omega)) | grind) ?_)
              refine DoL.callg true 506 rfl rfl rfl rfl rfl (by simp [go_sem] <;> omega) (fun _ => hc2) rfl (by first | exact .inl rfl | exact .inr rfl) rfl ?_
              simp [go_sem, g3]
              apply k5_; clear k5_
              refine Do.cond [5,9,10] rfl (fun g10 => ?_) (fun g10 => ?_) <;> simp [go_sem, g3] at g10 ⊢
              refine Do.skip ?_
              simp [go_sem]
              apply k2_; clear k2_
              refine Do.seqk fun _ k6_ => ?_
              refine Do.region [10,12,13] true ?_
              simp [go_sem, g3]
              repeat (refine And.intro (by first | omega | (intros; omega) | (intros; exact And.intro (by assumption) (by omega)) | grind) ?_)
              refine DoL.sealS true 703 702 rfl ?_
              simp [go_sem]
              refine DoL.call true 704 rfl rfl rfl rfl (by first | exact trivial | omega | (simp; done) | (simp; omega)) (hF) rfl (by first | exact .inl rfl | exact .inr rfl) rfl ?_
              simp [go_sem, g3]
              apply k6_; clear k6_
              refine Do.seqk fun _ k7_ => ?_
              refine Do.seqk fun _ k8_ => ?_
              refine Do.region [10,12,13,46] true ?_
              simp [go_sem, g3]
              apply k8_; clear k8_
              refine Do.cond [10,12,13] rfl (fun g11 => ?_) (fun g11 => ?_) <;> simp [go_sem, g3] at g11 ⊢
              refine Do.seqk fun _ k9_ => ?_
              refine Do.region [10,11] true ?_
              simp [go_sem, g3]
              repeat (refine And.intro (by first | omega | (intros; omega) | (intros; exact And.intro (by assumption) (by omega)) | grind) ?_)
              apply k9_; clear k9_
              refine Do.ret ?_
              simp [endQ, rets, ret1, go_sem, g3]
              repeat (refine And.intro (by first | omega | (intros; omega) | (intros; exact And.intro (by assumption) (by omega)) | grind) ?_)
              exact TLe.t (.cons (PLe.flt (ret_z rfl)) (.cons (PLe.refl _) .nil))
theorem number_does20 {k : Int} {n : Bool} {e : Int} {m : List Nat} : Does Tryz.prog Gv 79 [Fl k n e m] (.v (.c (.b (decide (k = 1) || decide (k = 0))))) := by
  refine Does.of (nt := 11) Tryz.func79 rfl rfl rfl (by simp) ?_
  simp only [argTm, PV.ext, Ce.ext]
  refine Do.seqk fun _ k1_ => ?_
  refine Do.region [1] true ?_
  simp [go_sem]
  apply k1_; clear k1_
  refine Do.seqk fun _ k2_ => ?_
  refine Do.region [2] true ?_
  simp [go_sem]
  repeat (refine And.intro (by first | omega | (intros; omega) | (intros; exact And.intro (by assumption) (by omega)) | grind) ?_)
  apply k2_; clear k2_
  refine Do.ret ?_
  simp [endQ, rets, ret1, go_sem]
  repeat (refine And.intro (by first | omega | (intros; omega) | (intros; exact And.intro (by assumption) (by omega)) | grind) ?_)
  exact TLe.refl _
theorem flag_does20 {b : Bool} : Does Tryz.prog Gv 81 [.c (.b b)] (.v (.c (.i .i64 (if b then 0 else 1)))) := by
  cases b
  · skip
    refine Does.of (nt := 4) Tryz.func81 rfl rfl rfl (by simp) ?_
    simp only [argTm, PV.ext, Ce.ext]
    refine Do.seqk fun _ k1_ => ?_
    refine Do.region [0] true ?_
    simp [go_sem]
    apply k1_; clear k1_
    refine Do.seqk fun _ k2_ => ?_
    refine Do.seqk fun _ k3_ => ?_
    refine Do.region [3] true ?_
    simp [go_sem]
    apply k3_; clear k3_
    refine Do.cond [] rfl (fun h => ?_) (fun h => ?_) <;> simp [go_sem] at h ⊢
    refine Do.skip ?_
    simp [go_sem]
    apply k2_; clear k2_
    refine Do.seqk fun _ k4_ => ?_
    refine Do.region [2] true ?_
    simp [go_sem]
    apply k4_; clear k4_
    refine Do.ret ?_
    simp [endQ, rets, ret1, go_sem]
    repeat (refine And.intro (by first | omega | (intros; omega) | (intros; exact And.intro (by assumption) (by omega)) | grind) ?_)
    exact TLe.refl _
  · skip
    refine Does.of (nt := 4) Tryz.func81 rfl rfl rfl (by simp) ?_
    simp only [argTm, PV.ext, Ce.ext]
    refine Do.seqk fun _ k1_ => ?_
    refine Do.region [0] true ?_
    simp [go_sem]
    apply k1_; clear k1_
    refine Do.seqk fun _ k2_ => ?_
    refine Do.seqk fun _ k3_ => ?_
    refine Do.region [3] true ?_
    simp [go_sem]
    apply k3_; clear k3_
    refine Do.cond [] rfl (fun h => ?_) (fun h => ?_) <;> simp [go_sem] at h ⊢
    refine Do.seqk fun _ k4_ => ?_
    refine Do.region [2] true ?_
    simp [go_sem]
    apply k4_; clear k4_
    refine Do.ret ?_
    simp [endQ, rets, ret1, go_sem]
    repeat (refine And.intro (by first | omega | (intros; omega) | (intros; exact And.intro (by assumption) (by omega)) | grind) ?_)
    exact TLe.refl _
theorem Convert_does {f p g q r : Int} {x : Fla} (hx : x.Ok) : Does Tryz.prog Gv 12 [Fm f p, Fm g q, .c (.i .i64 r), Fl x.k x.n x.e x.m] (Res (convP f p g q r x)) := by
  have hA := @cargs_does f p g q r false x hx
  unfold convP
  by_cases he : argsC f p g q r false x = 0
  · obtain ⟨h1, h2, h3, h4, h5, h6, h7⟩ := argsC_zero he
    rw [if_pos he, he] at hA
    rw [if_pos he]
    have hb := holdsP_bound h5 h7
    generalize (holdsP f p x.flt).1 = a at *
    have hF := fun (ok : (Nu.mk a.n a.v a.e).Ok) => @NFloat_does g q r h6 h2 h3 (Nu.mk a.n a.v a.e) false ok
    unfold convA
    by_cases hk : a.k = 1
    · rw [if_pos hk]
      have hF := hF ⟨(hb hk).1, by have := (hb hk).2; show a.e + bl a.v ≤ 4194304; omega⟩
      generalize (Nu.mk a.n a.v a.e).round g q r false = z at *
      refine Does.of (nt := 41) Tryz.func12 rfl rfl rfl (by simp) ?_
      simp only [argTm, PV.ext, Ce.ext]
      refine Do.seqk fun _ k1_ => ?_
      refine Do.region [2,4,5,7,8] true ?_
      simp [go_sem]
      apply k1_; clear k1_
      refine Do.seqk fun _ k2_ => ?_
      refine Do.region [2,5,7,8,11] true ?_
      simp [go_sem]
      repeat (refine And.intro (by first | omega | (intros; omega) | (intros; exact And.intro (by assumption) (by omega)) | grind) ?_)
      refine DoL.call true 105 rfl rfl rfl rfl (by first | exact trivial | omega | (simp; done) | (simp; omega)) (hA) rfl (by first | exact .inl rfl | exact .inr rfl) rfl ?_
      simp [go_sem]
      repeat (refine And.intro (by first | omega | (intros; omega) | (intros; exact And.intro (by assumption) (by omega)) | grind) ?_)
      apply k2_; clear k2_
      refine Do.seqk fun _ k3_ => ?_
      refine Do.seqk fun _ k4_ => ?_
      refine Do.region [2,5,7,8,11,28] true ?_
      simp [go_sem]
      repeat (refine And.intro (by first | omega | (intros; omega) | (intros; exact And.intro (by assumption) (by omega)) | grind) ?_)
      apply k4_; clear k4_
      refine Do.cond [2,5,7,8,11] rfl (fun g1 => ?_) (fun g1 => ?_) <;> simp [go_sem] at g1 ⊢
      · exact absurd hk g1
      · refine Do.skip ?_
        simp [go_sem]
        apply k3_; clear k3_
        refine Do.seqk fun _ k5_ => ?_
        refine Do.draw [8,12,13] true (by kernel_rfl) ?_
        simp [go_sem]
        repeat (refine And.intro (by first | omega | (intros; omega) | (intros; exact And.intro (by assumption) (by omega)) | kernel_rfl | grind) ?_)
        refine DoLD.call true 402 rfl rfl rfl rfl (by first | exact trivial | omega | (simp; done) | (simp; omega)) (Of_does) rfl (by first | exact .inl rfl | exact .inr rfl) rfl ?_
        simp [go_sem]
        repeat (refine And.intro (by first | omega | (intros; omega) | (intros; exact And.intro (by assumption) (by omega)) | kernel_rfl | grind) ?_)
        refine DoLD.call true 405 rfl rfl rfl rfl (by first | exact trivial | omega | (simp; done) | (simp; omega)) (hF) rfl (by first | exact .inl rfl | exact .inr rfl) rfl ?_
        simp [go_sem]
        repeat (refine And.intro (by first | omega | (intros; omega) | (intros; exact And.intro (by assumption) (by omega)) | kernel_rfl | grind) ?_)
        try (refine And.intro (by kernel_rfl) ?_)
        apply k5_; clear k5_
        refine Do.seqk fun _ k6_ => ?_
        refine Do.region [8,9,10] true ?_
        simp [go_sem]
        repeat (refine And.intro (by first | omega | (intros; omega) | (intros; exact And.intro (by assumption) (by omega)) | grind) ?_)
        apply k6_; clear k6_
        refine Do.ret ?_
        simp [endQ, rets, ret1, go_sem]
        repeat (refine And.intro (by first | omega | (intros; omega) | (intros; exact And.intro (by assumption) (by omega)) | grind) ?_)
        exact TLe.refl _
    · rw [if_neg hk]
      refine Does.of (nt := 41) Tryz.func12 rfl rfl rfl (by simp) ?_
      simp only [argTm, PV.ext, Ce.ext]
      refine Do.seqk fun _ k1_ => ?_
      refine Do.region [2,4,5,7,8] true ?_
      simp [go_sem]
      apply k1_; clear k1_
      refine Do.seqk fun _ k2_ => ?_
      refine Do.region [2,5,7,8,11] true ?_
      simp [go_sem]
      repeat (refine And.intro (by first | omega | (intros; omega) | (intros; exact And.intro (by assumption) (by omega)) | grind) ?_)
      refine DoL.call true 105 rfl rfl rfl rfl (by first | exact trivial | omega | (simp; done) | (simp; omega)) (hA) rfl (by first | exact .inl rfl | exact .inr rfl) rfl ?_
      simp [go_sem]
      repeat (refine And.intro (by first | omega | (intros; omega) | (intros; exact And.intro (by assumption) (by omega)) | grind) ?_)
      apply k2_; clear k2_
      refine Do.seqk fun _ k3_ => ?_
      refine Do.seqk fun _ k4_ => ?_
      refine Do.region [2,5,7,8,11,28] true ?_
      simp [go_sem]
      repeat (refine And.intro (by first | omega | (intros; omega) | (intros; exact And.intro (by assumption) (by omega)) | grind) ?_)
      apply k4_; clear k4_
      refine Do.cond [2,5,7,8,11] rfl (fun g1 => ?_) (fun g1 => ?_) <;> simp [go_sem] at g1 ⊢
      · refine Do.seqk fun _ k5_ => ?_
        refine Do.region [8,9,10] true ?_
        simp [go_sem]
        repeat (refine And.intro (by first | omega | (intros; omega) | (intros; exact And.intro (by assumption) (by omega)) | grind) ?_)
        apply k5_; clear k5_
        refine Do.ret ?_
        simp [endQ, rets, ret1, go_sem]
        repeat (refine And.intro (by first | omega | (intros; omega) | (intros; exact And.intro (by assumption) (by omega)) | grind) ?_)
        exact TLe.refl _
      · exact absurd g1 hk
  · rw [if_neg he] at hA
    rw [if_neg he]
    generalize argsC f p g q r false x = z at *
    have hz : (z != 0) = true := by simpa using he
    refine Does.of (nt := 41) Tryz.func12 rfl rfl rfl (by simp) ?_
    simp only [argTm, PV.ext, Ce.ext]
    refine Do.seqk fun _ k1_ => ?_
    refine Do.region [2,4,5,7,8] true ?_
    simp [go_sem]
    apply k1_; clear k1_
    refine Do.seqk fun _ k2_ => ?_
    refine Do.region [2,5,7,8,11] true ?_
    simp [go_sem]
    repeat (refine And.intro (by first | omega | (intros; omega) | (intros; exact And.intro (by assumption) (by omega)) | grind) ?_)
    refine DoL.call true 105 rfl rfl rfl rfl (by first | exact trivial | omega | (simp; done) | (simp; omega)) (hA) rfl (by first | exact .inl rfl | exact .inr rfl) rfl ?_
    simp [go_sem]
    repeat (refine And.intro (by first | omega | (intros; omega) | (intros; exact And.intro (by assumption) (by omega)) | grind) ?_)
    apply k2_; clear k2_
    refine Do.seqk fun _ k3_ => ?_
    refine Do.seqk fun _ k4_ => ?_
    refine Do.region [2,5,7,8,11,28] true ?_
    simp [go_sem, hz]
    repeat (refine And.intro (by first | omega | (intros; omega) | (intros; exact And.intro (by assumption) (by omega)) | grind) ?_)
    apply k4_; clear k4_
    refine Do.cond [2,5,7,8,11] rfl (fun g1 => ?_) (fun g1 => ?_) <;> simp [go_sem, hz] at g1 ⊢
    refine Do.seqk fun _ k5_ => ?_
    refine Do.region [8,9,10] true ?_
    simp [go_sem, hz]
    repeat (refine And.intro (by first | omega | (intros; omega) | (intros; exact And.intro (by assumption) (by omega)) | grind) ?_)
    apply k5_; clear k5_
    refine Do.ret ?_
    simp [endQ, rets, ret1, go_sem, hz]
    repeat (refine And.intro (by first | omega | (intros; omega) | (intros; exact And.intro (by assumption) (by omega)) | grind) ?_)
    exact TLe.refl _
theorem Fit_does20 {f p g q : Int} (hf : fmOk f p = true) (hg : fmOk g q = true) : Does Tryz.prog Gv 46 [Fm f p, Fm g q] (.t [.c (.b (fitP f p g q)), .c (.i .i64 0)]) := by
  have h1 := @Range_does Gv f p hf
  have h2 := @Range_does Gv g q hg
  unfold fitP
  generalize (1 - gOfE f - (p - 1)) = t1 at *
  generalize (1 - gOfE g - (q - 1)) = t2 at *
  refine Does.of (nt := 48) Tryz.func46 rfl rfl rfl (by simp) ?_
  simp only [argTm, PV.ext, Ce.ext]
  refine Do.seqk fun _ k1_ => ?_
  refine Do.region [2,3] true ?_
  simp [go_sem]
  apply k1_; clear k1_
  refine Do.seqk fun _ k2_ => ?_
  refine Do.region [2,3,7,8,9] true ?_
  simp [go_sem]
  repeat (refine And.intro (by first | omega | (intros; omega) | (intros; exact And.intro (by assumption) (by omega)) | grind) ?_)
  refine DoL.call true 102 rfl rfl rfl rfl (by first | exact trivial | omega | (simp; done) | (simp; omega)) (h1) rfl (by first | exact .inl rfl | exact .inr rfl) rfl ?_
  simp [go_sem]
  apply k2_; clear k2_
  refine Do.seqk fun _ k3_ => ?_
  refine Do.seqk fun _ k4_ => ?_
  refine Do.region [2,3,7,8,9,21] true ?_
  simp [go_sem]
  apply k4_; clear k4_
  refine Do.cond [2,3,7,8,9] rfl (fun g1 => ?_) (fun g1 => ?_) <;> simp [go_sem] at g1 ⊢
  refine Do.skip ?_
  simp [go_sem]
  apply k3_; clear k3_
  refine Do.seqk fun _ k5_ => ?_
  refine Do.region [2,3,7,8,9,11,12] true ?_
  simp [go_sem]
  repeat (refine And.intro (by first | omega | (intros; omega) | (intros; exact And.intro (by assumption) (by omega)) | grind) ?_)
  refine DoL.call true 402 rfl rfl rfl rfl (by first | exact trivial | omega | (simp; done) | (simp; omega)) (h2) rfl (by first | exact .inl rfl | exact .inr rfl) rfl ?_
  simp [go_sem]
  apply k5_; clear k5_
  refine Do.seqk fun _ k6_ => ?_
  refine Do.seqk fun _ k7_ => ?_
  refine Do.region [2,3,7,8,9,11,12,31] true ?_
  simp [go_sem]
  apply k7_; clear k7_
  refine Do.cond [2,3,7,8,9,11,12] rfl (fun g1 => ?_) (fun g1 => ?_) <;> simp [go_sem] at g1 ⊢
  refine Do.skip ?_
  simp [go_sem]
  apply k6_; clear k6_
  refine Do.seqk fun _ k8_ => ?_
  refine Do.region [4,5] true ?_
  simp [go_sem]
  repeat (refine And.intro (by first | omega | (intros; omega) | (intros; exact And.intro (by assumption) (by omega)) | grind) ?_)
  apply k8_; clear k8_
  refine Do.ret ?_
  simp [endQ, rets, ret1, go_sem]
  repeat (refine And.intro (by first | omega | (intros; omega) | (intros; exact And.intro (by assumption) (by omega)) | grind) ?_)
  exact TLe.refl _
theorem ToInt_does {f p r : Int} {x : Fla} (hx : x.Ok) (he : argsC f p f p r false x = 0) {a : Flt} (ha : (holdsP f p x.flt).1 = a) (hk : a.k = 0 ∨ a.k = 1) (hok : (Nu.mk a.n a.v a.e).Ok) : Does Tryz.prog Gv 25 [Fm f p, .c (.i .i64 r), Fl x.k x.n x.e x.m] (.t [Iv (sgn a.n (wholeP r ⟨a.n, a.v, a.e⟩).1), .c (.i .i64 (if (wholeP r ⟨a.n, a.v, a.e⟩).2 then 0 else 1)), .c (.i .i64 0)]) := by
  have hA := @cargs_does f p f p r false x hx
  obtain ⟨h1, h2, h3, h4, h5, h6, h7⟩ := argsC_zero he
  rw [if_pos he, he, ha] at hA
  have hW := @WholeN_does r h2 h3 ⟨a.n, a.v, a.e⟩ hok
  generalize wholeP r ⟨a.n, a.v, a.e⟩ = w at *
  generalize sgn a.n w.1 = z at *
  have hFl := @flag_does20 w.2
  generalize (if w.2 = true then (0 : Int) else 1) = fl at *
  refine Does.of (nt := 40) Tryz.func25 rfl rfl rfl (by simp) ?_
  simp only [argTm, PV.ext, Ce.ext]
  refine Do.seqk fun _ k1_ => ?_
  refine Do.region [1,3,5,6] true ?_
  simp [go_sem]
  apply k1_; clear k1_
  refine Do.seqk fun _ k2_ => ?_
  refine Do.region [1,5,6,9] true ?_
  simp [go_sem]
  repeat (refine And.intro (by first | omega | (intros; omega) | (intros; exact And.intro (by assumption) (by omega)) | grind) ?_)
  refine DoL.call true 105 rfl rfl rfl rfl (by first | exact trivial | omega | (simp; done) | (simp; omega)) (hA) rfl (by first | exact .inl rfl | exact .inr rfl) rfl ?_
  simp [go_sem]
  repeat (refine And.intro (by first | omega | (intros; omega) | (intros; exact And.intro (by assumption) (by omega)) | grind) ?_)
  apply k2_; clear k2_
  refine Do.seqk fun _ k3_ => ?_
  refine Do.block ?_
  refine Do.seqk fun _ k4_ => ?_
  refine Do.region [1,5,6,9,20] true ?_
  simp [go_sem]
  apply k4_; clear k4_
  refine Do.cond [1,5,6,9] rfl (fun g1 => ?_) (fun g1 => ?_) <;> simp [go_sem] at g1 ⊢
  refine Do.seqk fun _ k5_ => ?_
  refine Do.region [1,5,6,25] true ?_
  simp [go_sem]
  repeat (refine And.intro (by first | omega | (intros; omega) | (intros; exact And.intro (by assumption) (by omega)) | grind) ?_)
  refine DoL.call true 402 rfl rfl rfl rfl (by first | exact trivial | omega | (simp; done) | (simp; omega)) (number_does20) rfl (by first | exact .inl rfl | exact .inr rfl) rfl ?_
  simp [go_sem]
  repeat (refine And.intro (by first | omega | (intros; omega) | (intros; exact And.intro (by assumption) (by omega)) | grind) ?_)
  apply k5_; clear k5_
  refine Do.cond [1,5,6] rfl (fun g2 => ?_) (fun g2 => ?_) <;> simp [go_sem] at g2 ⊢
  · omega
  · refine Do.skip ?_
    simp [go_sem]
    apply k3_; clear k3_
    refine Do.seqk fun _ k6_ => ?_
    refine Do.region [6,10,11] true ?_
    simp [go_sem]
    repeat (refine And.intro (by first | omega | (intros; omega) | (intros; exact And.intro (by assumption) (by omega)) | grind) ?_)
    refine DoL.call true 602 rfl rfl rfl rfl (by first | exact trivial | omega | (simp; done) | (simp; omega)) (Of_does) rfl (by first | exact .inl rfl | exact .inr rfl) rfl ?_
    simp [go_sem]
    refine DoL.call true 604 rfl rfl rfl rfl (by first | exact trivial | omega | (simp; done) | (simp; omega)) (hW) rfl (by first | exact .inl rfl | exact .inr rfl) rfl ?_
    simp [go_sem]
    repeat (refine And.intro (by first | omega | (intros; omega) | (intros; exact And.intro (by assumption) (by omega)) | grind) ?_)
    apply k6_; clear k6_
    refine Do.seqk fun _ k7_ => ?_
    refine Do.draw [6,7,8] true (by kernel_rfl) ?_
    simp [go_sem]
    repeat (refine And.intro (by first | omega | (intros; omega) | (intros; exact And.intro (by assumption) (by omega)) | kernel_rfl | grind) ?_)
    refine DoLD.call true 703 rfl rfl rfl rfl (by first | exact trivial | omega | (simp; done) | (simp; omega)) (hFl) rfl (by first | exact .inl rfl | exact .inr rfl) rfl ?_
    simp [go_sem]
    repeat (refine And.intro (by first | omega | (intros; omega) | (intros; exact And.intro (by assumption) (by omega)) | kernel_rfl | grind) ?_)
    try (refine And.intro (by kernel_rfl) ?_)
    apply k7_; clear k7_
    refine Do.ret ?_
    simp [endQ, rets, ret1, go_sem]
    repeat (refine And.intro (by first | omega | (intros; omega) | (intros; exact And.intro (by assumption) (by omega)) | grind) ?_)
    exact TLe.refl _
end Go.Proofs.YtokgalpflooegaaGreatDoor
