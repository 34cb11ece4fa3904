/- A rational number of the reference, rounded to an integer. No condition. The law ConvertIntegrals. No condition. The integer part of a float of a format, and the rest, plain. No condition. The two parts of a float; the law ConvertJoins. No condition. The float with a rational value; the law ConvertParts. No condition. -/
import Derived.Test.YtokgalpflooegaaGreatDoorMj
import Derived.Test.YtokgalpflooegaaGreatDoorMi
import Derived.Test.YtokgalpflooegaaGreatDoorMk
/- A rational number of the reference, rounded to an integer. No condition. -/
namespace Go.Proofs.YtokgalpflooegaaGreatDoor
set_option linter.unusedVariables false
set_option linter.unusedSimpArgs false
variable {G : Gl}
set_option maxHeartbeats 4000000
set_option maxRecDepth 10000
theorem RRatio_does {a d : Nat} (ha : bl a ≤ 50000000) (hd : bl d ≤ 50000000) (h0 : 0 < d) : Does Tryz.prog G 148 [Wd (nat a), Wd (nat d)] (.v (Pt (a * 2 / d / 2) (decide (a * 2 / d % 2 = 1)) (!decide (a * 2 % d = 0)))) := by
  have la := len_bl ha
  have ld := len_bl hd
  have h1 := @RLeft_does G (nat a) 1 (by omega) (nat_ws _) (by decide)
  rw [val_nat, Nat.pow_one] at h1
  have hb : bl (a * 2) ≤ 50000002 := by
    have := bl_mulN a 2
    have : bl 2 = 2 := by decide
    omega
  have l2 := len_bl hb
  have h2 := @RDivMod_does G (nat (a * 2)) (nat d) (by omega) (nat_ws _) (by omega) (nat_ws _) (by rw [val_nat]; exact h0)
  rw [val_nat, val_nat] at h2
  have l3 := len_bl (Nat.le_trans (bl_mono (Nat.div_le_self (a * 2) d)) hb)
  have l4 := len_bl (Nat.le_trans (bl_mono (Nat.mod_le (a * 2) d)) hb)
  have h3 := @RRight_does G (nat (a * 2 / d)) 1 (by omega) (nat_ws _) (by decide)
  have h4 := @RBit_does G (nat (a * 2 / d)) (by omega) (nat_ws _) 0 (by constructor <;> decide)
  have h5 := @IsZero_does G (nat (a * 2 % d)) (by omega) (nat_ws _)
  rw [val_nat] at h3 h4 h5
  simp only [Nat.pow_one, Int.toNat_zero, Nat.pow_zero, Nat.div_one, decide_true, Bool.true_and, Int.le_refl] at h3 h4 h5
  generalize a * 2 / d = q at *
  generalize a * 2 % d = w at *
  generalize a * 2 = a2 at *
  refine Does.of (nt := 22) Tryz.func148 rfl rfl rfl (by simp) ?_
  simp only [argTm, PV.ext, Ce.ext]
  refine Do.seqk fun _ k1_ => ?_
  refine Do.region [0,1,4] true ?_
  simp [go_sem]
  apply k1_; clear k1_
  refine Do.seqk fun _ k2_ => ?_
  refine Do.region [4,5,6] true ?_
  simp [go_sem]
  refine DoL.call true 102 rfl rfl rfl rfl (by first | exact trivial | omega | (simp; done) | (simp; omega)) (h1) rfl (by first | exact .inl rfl | exact .inr rfl) rfl ?_
  simp [go_sem]
  refine DoL.call true 104 rfl rfl rfl rfl (by first | exact trivial | omega | (simp; done) | (simp; omega)) (h2) rfl (by first | exact .inl rfl | exact .inr rfl) rfl ?_
  simp [go_sem]
  apply k2_; clear k2_
  refine Do.seqk fun _ k3_ => ?_
  refine Do.region [4] true ?_
  simp [go_sem]
  refine DoL.call true 202 rfl rfl rfl rfl (by first | exact trivial | omega | (simp; done) | (simp; omega)) (h3) rfl (by first | exact .inl rfl | exact .inr rfl) rfl ?_
  simp [go_sem]
  refine DoL.call true 204 rfl rfl rfl rfl (by first | exact trivial | omega | (simp; done) | (simp; omega)) (h4) rfl (by first | exact .inl rfl | exact .inr rfl) rfl ?_
  simp [go_sem]
  refine DoL.call true 206 rfl rfl rfl rfl (by first | exact trivial | omega | (simp; done) | (simp; omega)) (h5) rfl (by first | exact .inl rfl | exact .inr rfl) rfl ?_
  simp [go_sem]
  repeat (refine And.intro (by first | omega | (intros; omega) | (intros; exact And.intro (by assumption) (by omega)) | grind) ?_)
  apply k3_; clear k3_
  refine Do.ret ?_
  simp [endQ, rets, ret1, go_sem]
  repeat (refine And.intro (by first | omega | (intros; omega) | (intros; exact And.intro (by assumption) (by omega)) | grind) ?_)
  exact pt_le (PLe.ext (.c (.w true _)))
theorem sv_nat (x : Nu) (z : Int) : (x.sv z).natAbs = x.v * 2 ^ (x.e - z).toNat := by
  unfold Nu.sv
  generalize x.v * 2 ^ (x.e - z).toNat = u
  split <;> omega
theorem whole_ratio {x : Nu} {K : Nat} {z : Int} {d : Nat} (hK : -(K : Int) ≤ x.e) (hD : Dq K z d (x.sv (-K))) :
    z.natAbs * 2 / d / 2 = (cutP x.v (-x.e) false).1 ∧ pcode (decide (z.natAbs * 2 / d % 2 = 1)) (!decide (z.natAbs * 2 % d = 0)) = (cutP x.v (-x.e) false).2 := by
  have h1 : z.natAbs * 2 ^ K = x.v * 2 ^ (x.e - -(K : Int)).toNat * d := by
    have := congrArg Int.natAbs hD.eq
    rw [Int.natAbs_mul, Int.natAbs_mul, sv_nat] at this
    exact this
  have hd := hD.pos
  have hP : 0 < 2 ^ K := Nat.pow_pos (by decide)
  have hmul : z.natAbs * 2 * 2 ^ K = x.v * 2 ^ (x.e - -(K : Int)).toNat * 2 * d := by
    rw [Nat.mul_right_comm, h1, Nat.mul_right_comm]
  have e1 : z.natAbs * 2 / d = x.v * 2 ^ (x.e - -(K : Int)).toNat * 2 / 2 ^ K := by
    rw [← Nat.mul_div_mul_right (z.natAbs * 2) d hP, hmul, Nat.mul_comm d (2 ^ K), Nat.mul_div_mul_right _ _ hd]
  have e2 : z.natAbs * 2 % d = 0 ↔ x.v * 2 ^ (x.e - -(K : Int)).toNat * 2 % 2 ^ K = 0 := by
    have a1 := Nat.mul_mod_mul_right (2 ^ K) (z.natAbs * 2) d
    have a2 := Nat.mul_mod_mul_right d (x.v * 2 ^ (x.e - -(K : Int)).toNat * 2) (2 ^ K)
    rw [hmul, Nat.mul_comm d (2 ^ K), a2] at a1
    constructor
    · intro h
      rw [h, Nat.zero_mul] at a1
      rcases Nat.mul_eq_zero.1 a1 with h | h
      · exact h
      · omega
    · intro h
      rw [h, Nat.zero_mul] at a1
      rcases Nat.mul_eq_zero.1 a1.symm with h | h
      · exact h
      · omega
  rw [e1]
  simp only [e2]
  clear e1 e2 hmul h1 hD
  unfold cutP
  by_cases he : 0 ≤ x.e
  · rw [if_pos (by omega)]
    simp only []
    have e3 : x.v * 2 ^ (x.e - -(K : Int)).toNat * 2 = x.v * 2 ^ x.e.toNat * 2 * 2 ^ K := by
      rw [show (x.e - -(K : Int)).toNat = x.e.toNat + K by omega, Nat.pow_add, ← Nat.mul_assoc, Nat.mul_right_comm]
    rw [e3, Nat.mul_div_cancel _ hP, Nat.mul_mod_left, show (- -x.e).toNat = x.e.toNat by omega]
    refine ⟨Nat.mul_div_cancel _ (by decide), ?_⟩
    rw [Nat.mul_mod_left]
    rfl
  · rw [if_neg (by omega)]
    simp only []
    obtain ⟨s, hs⟩ : ∃ s : Nat, x.e = -((s : Int) + 1) := ⟨(-x.e - 1).toNat, by omega⟩
    have hsK : s + 1 ≤ K := by omega
    rw [show (x.e - -(K : Int)).toNat = K - (s + 1) by omega, show (-x.e).toNat = s + 1 by omega, show (-x.e - 1).toNat = s by omega]
    have e3 : x.v * 2 ^ (K - (s + 1)) * 2 = x.v * 2 ^ (K - s) := by
      rw [Nat.mul_assoc, ← Nat.pow_succ]; congr 2; omega
    have e4 : 2 ^ K = 2 ^ s * 2 ^ (K - s) := by rw [← Nat.pow_add]; congr 1; omega
    have hQ : 0 < 2 ^ (K - s) := Nat.pow_pos (by decide)
    rw [e3, e4, Nat.mul_div_mul_right _ _ hQ, Nat.mul_mod_mul_right]
    have e5 : x.v % 2 ^ s * 2 ^ (K - s) = 0 ↔ x.v % 2 ^ s = 0 := by
      constructor
      · intro h
        rcases Nat.mul_eq_zero.1 h with h | h
        · exact h
        · omega
      · intro h; rw [h, Nat.zero_mul]
    simp only [e5]
    refine ⟨by rw [Nat.div_div_eq_div_mul, ← Nat.pow_succ], ?_⟩
    by_cases g1 : x.v / 2 ^ s % 2 = 1 <;> by_cases g2 : x.v % 2 ^ s = 0 <;> simp [g1, g2, pcode]
theorem cut_none (s : Int) : cutP 0 s false = (0, 0) := by
  unfold cutP
  split <;> simp
theorem whole_sign (r : Int) (x : Nu) (z : Int) : upP r (decide (x.sv z < 0)) (cutP x.v (-x.e) false).1 (cutP x.v (-x.e) false).2 = (wholeP r x).1 ∧ sgn (decide (x.sv z < 0)) (wholeP r x).1 = sgn x.n (wholeP r x).1 := by
  unfold wholeP
  simp only []
  by_cases hv : x.v = 0
  · rw [hv, cut_none]
    simp only [upP_none]
    refine ⟨trivial, ?_⟩
    unfold sgn
    split <;> split <;> rfl
  · have h : decide (x.sv z < 0) = x.n := by
      have hp : 0 < x.v * 2 ^ (x.e - z).toNat := Nat.mul_pos (Nat.pos_of_ne_zero hv) (Nat.pow_pos (by decide))
      unfold Nu.sv
      generalize x.v * 2 ^ (x.e - z).toNat = u at *
      cases x.n
      · simp
      · simp; omega
    rw [h]
    exact ⟨rfl, rfl⟩
theorem whole_code (r : Int) (x : Nu) {h s : Bool} (e : pcode h s = (cutP x.v (-x.e) false).2) : (pcode h s == 0) = (wholeP r x).2 := by
  rw [e]; unfold wholeP; simp only []
  cases hh : decide ((cutP x.v (-x.e) false).2 = 0) <;> simp_all
theorem wholeP_bl (r : Int) (x : Nu) : bl (wholeP r x).1 ≤ bl x.v + x.e.toNat + 1 := by
  unfold wholeP
  have h1 := cutP_bl x.v (-x.e) false
  have h2 := upP_bl r x.n (cutP x.v (-x.e) false).1 (cutP x.v (-x.e) false).2
  rw [Int.neg_neg] at h1
  simp only []
  omega
theorem RInteger_does {r : Int} (hr : 0 ≤ r) (hr' : r ≤ 4) {x : Nu} {K : Nat} {z : Int} {d : Nat} (hK : K ≤ 8000000) (hKe : -(K : Int) ≤ x.e) (hD : Dq K z d (x.sv (-K))) (hb : bl (x.sv (-K)).natAbs ≤ 20000000) : Does Tryz.prog G 84 [.c (.i .i64 r), Qv z d] (.t [Iv (sgn x.n (wholeP r x).1), .c (.b (wholeP r x).2)]) := by
  obtain ⟨s1, s2, s3⟩ := hD.small
  have hN := @QNorm G z d (by omega) (by omega) hD.pos
  have hD2 := Dq.norm hD.eq hD.pos
  generalize nz z d = z' at *
  generalize nd z d = d' at *
  obtain ⟨t1, t2, t3⟩ := hD2.small
  obtain ⟨w1, w2⟩ := whole_ratio hKe hD2
  obtain ⟨v1, v2⟩ := whole_sign r x (-K)
  have v3 := whole_code r x w2
  have hQ := @IvSign G z' (by omega)
  have hsg : decide (z'.sign < 0) = decide (x.sv (-(K : Int)) < 0) := by
    rw [hD2.sign]
    congr 1
    apply propext
    rw [Int.sign_neg_iff]
  have hz0 : decide (z' < 0) = decide (x.sv (-(K : Int)) < 0) := by
    rw [← hsg]
    congr 1
    apply propext
    rw [Int.sign_neg_iff]
  have hR := @RRatio_does G z'.natAbs d' (by omega) (by omega) hD2.pos
  rw [w1] at hR
  have hcb : bl (cutP x.v (-x.e) false).1 ≤ 40000002 := by
    rw [← w1]
    have a1 := bl_mono (Nat.div_le_self (z'.natAbs * 2 / d') 2)
    have a2 := bl_mono (Nat.div_le_self (z'.natAbs * 2) d')
    have a3 := bl_mulN z'.natAbs 2
    have : bl 2 = 2 := by decide
    omega
  have hU := @Rounded_does G r hr hr' (decide (x.sv (-(K : Int)) < 0)) (decide (z'.natAbs * 2 / d' % 2 = 1)) (!decide (z'.natAbs * 2 % d' = 0)) (cutP x.v (-x.e) false).1 (by omega)
  rw [v3, w2, v1] at hU
  have hub : bl (wholeP r x).1 ≤ 40000003 := by
    have := upP_bl r x.n (cutP x.v (-x.e) false).1 (cutP x.v (-x.e) false).2
    have e : (wholeP r x).1 = upP r x.n (cutP x.v (-x.e) false).1 (cutP x.v (-x.e) false).2 := rfl
    rw [e]; omega
  have hM := @IvMake G (decide (x.sv (-(K : Int)) < 0)) (wholeP r x).1 (by omega)
  rw [v2] at hM
  have hN : Does Tryz.prog G 106 [Qv z d] (.v (.a [.b (decide (x.sv (-(K : Int)) < 0)), .w false (nat z'.natAbs), .w false (nat d')])) := by
    rw [← hz0]; exact hN
  have hQ : Does Tryz.prog G 131 [.a [.b (decide (x.sv (-(K : Int)) < 0)), .w false (nat z'.natAbs), .w false (nat d')]] (.int .i64 z'.sign) := by
    have h := @QSign G K z' (x.sv (-(K : Int))) d' hD2 hb
    rw [← hD2.sign] at h
    rw [← hz0]; exact h
  clear hD hD2 v1 v2 v3 w1 w2
  generalize decide (x.sv (-(K : Int)) < 0) = bb at *
  generalize decide (z'.natAbs * 2 / d' % 2 = 1) = b1 at *
  generalize (!decide (z'.natAbs * 2 % d' = 0)) = b2 at *
  generalize (cutP x.v (-x.e) false).1 = c1 at *
  generalize sgn x.n (wholeP r x).1 = Z at *
  generalize (wholeP r x).1 = W1 at *
  generalize (wholeP r x).2 = W2 at *
  generalize z'.sign = sg at *
  refine Does.of (nt := 30) Tryz.func84 rfl rfl rfl (by simp) ?_
  simp only [argTm, PV.ext, Ce.ext]
  refine Do.seqk fun _ k1_ => ?_
  refine Do.region [0,3,4] true ?_
  simp [go_sem]
  apply k1_; clear k1_
  refine Do.seqk fun _ k2_ => ?_
  refine Do.region [0,3,4] true ?_
  simp [go_sem]
  repeat (refine And.intro (by first | omega | (intros; omega) | (intros; exact And.intro (by assumption) (by omega)) | grind) ?_)
  refine DoL.call true 102 rfl rfl rfl rfl (by first | exact trivial | omega | (simp; done) | (simp; omega)) (hN) rfl (by first | exact .inl rfl | exact .inr rfl) rfl ?_
  simp [go_sem]
  repeat (refine And.intro (by first | omega | (intros; omega) | (intros; exact And.intro (by assumption) (by omega)) | grind) ?_)
  apply k2_; clear k2_
  refine Do.seqk fun _ k3_ => ?_
  refine Do.draw [3,4,6,7] true (by kernel_rfl) ?_
  simp [go_sem]
  repeat (refine And.intro (by first | omega | (intros; omega) | (intros; exact And.intro (by assumption) (by omega)) | kernel_rfl | grind) ?_)
  refine DoLD.call true 203 rfl rfl rfl rfl (by first | exact trivial | omega | (simp; done) | (simp; omega)) (hQ) rfl (by first | exact .inl rfl | exact .inr rfl) rfl ?_
  simp [go_sem]
  repeat (refine And.intro (by first | omega | (intros; omega) | (intros; exact And.intro (by assumption) (by omega)) | kernel_rfl | grind) ?_)
  refine DoLD.call true 210 rfl rfl rfl rfl (by first | exact trivial | omega | (simp; done) | (simp; omega)) (hR) rfl (by first | exact .inl rfl | exact .inr rfl) rfl ?_
  simp [go_sem, hsg]
  refine DoLD.call true 211 rfl rfl rfl rfl (by first | exact trivial | omega | (simp; done) | (simp; omega)) (hU) rfl (by first | exact .inl rfl | exact .inr rfl) rfl ?_
  simp [go_sem, hsg]
  try (refine And.intro (by kernel_rfl) ?_)
  apply k3_; clear k3_
  refine Do.seqk fun _ k4_ => ?_
  refine Do.region [4,5] true ?_
  simp [go_sem, hsg]
  repeat (refine And.intro (by first | omega | (intros; omega) | (intros; exact And.intro (by assumption) (by omega)) | grind) ?_)
  refine DoL.call true 305 rfl rfl rfl rfl (by first | exact trivial | omega | (simp; done) | (simp; omega)) (hM) rfl (by first | exact .inl rfl | exact .inr rfl) rfl ?_
  simp [go_sem, hsg]
  repeat (refine And.intro (by first | omega | (intros; omega) | (intros; exact And.intro (by assumption) (by omega)) | grind) ?_)
  apply k4_; clear k4_
  refine Do.ret ?_
  simp [endQ, rets, ret1, go_sem, hsg]
  repeat (refine And.intro (by first | omega | (intros; omega) | (intros; exact And.intro (by assumption) (by omega)) | grind) ?_)
  exact TLe.refl _
theorem fv_sv {a : Flt} (hf : rcanon a = a) (hk : a.k = 0 ∨ a.k = 1) (z : Int) : fv z a = (Nu.mk a.n a.v a.e).sv z := by
  unfold fv
  split
  · rfl
  · rename_i h
    have h0 : a.v = 0 := by
      unfold rcanon at hf
      rw [if_neg h] at hf
      have := congrArg Flt.v hf
      simpa using this.symm
    unfold Nu.sv
    simp [h0]
theorem RToInt_does {r : Int} (hr : 0 ≤ r) (hr' : r ≤ 4) {x : Fla} (hx : Rt x) {a : Flt} (ha : rcanon x.flt = a) (hk : a.k = 0 ∨ a.k = 1) : Does Tryz.prog G 28 [.c (.i .i64 r), Fl x.k x.n x.e x.m] (.t [Iv (sgn a.n (wholeP r ⟨a.n, a.v, a.e⟩).1), .c (.i .i64 (if (wholeP r ⟨a.n, a.v, a.e⟩).2 then 0 else 1))]) := by
  obtain ⟨z, d, h1, h2, h3⟩ := @FRatK G x hx
  have hfv : fv (-(1048576 : Nat)) x.flt = fv (-(1048576 : Nat)) a := by
    rw [← ha]; exact (@fv_rcan x.flt (-(1048576 : Nat)) (fun hk => (canon_one hx.can hk).1)).symm
  have hfix : rcanon a = a := by rw [← ha]; exact rcanon_idem _
  have hae : -((1048576 : Nat) : Int) ≤ a.e := by
    rcases hk with hk | hk
    · unfold rcanon at hfix
      rw [if_neg (by omega)] at hfix
      have := congrArg Flt.e hfix
      simp only [] at this
      omega
    · have hc := canon_rc hx.can
      rw [ha] at hc
      exact (canon_one hc hk).1
  rw [hfv, fv_sv hfix hk] at h2 h3
  have hI := @RInteger_does G r hr hr' ⟨a.n, a.v, a.e⟩ 1048576 z d (by decide) hae h2 (by omega)
  simp only [] at hI
  generalize sgn a.n (wholeP r ⟨a.n, a.v, a.e⟩).1 = Z at *
  generalize (wholeP r ⟨a.n, a.v, a.e⟩).2 = W at *
  cases W with
  | false =>
    refine Does.of (nt := 19) Tryz.func28 rfl rfl rfl (by simp) ?_
    simp only [argTm, PV.ext, Ce.ext]
    refine Do.seqk fun _ k1_ => ?_
    refine Do.region [0,3,4] true ?_
    simp [go_sem]
    apply k1_; clear k1_
    refine Do.seqk fun _ k2_ => ?_
    refine Do.region [4,6,7] true ?_
    simp [go_sem]
    repeat (refine And.intro (by first | omega | (intros; omega) | (intros; exact And.intro (by assumption) (by omega)) | grind) ?_)
    refine DoL.call true 103 rfl rfl rfl rfl (by first | exact trivial | omega | (simp; done) | (simp; omega)) (h1) rfl (by first | exact .inl rfl | exact .inr rfl) rfl ?_
    simp [go_sem]
    refine DoL.call true 104 rfl rfl rfl rfl (by first | exact trivial | omega | (simp; done) | (simp; omega)) (hI) rfl (by first | exact .inl rfl | exact .inr rfl) rfl ?_
    simp [go_sem]
    repeat (refine And.intro (by first | omega | (intros; omega) | (intros; exact And.intro (by assumption) (by omega)) | grind) ?_)
    apply k2_; clear k2_
    refine Do.seqk fun _ k3_ => ?_
    refine Do.seqk fun _ k4_ => ?_
    refine Do.region [4,6,16] true ?_
    simp [go_sem]
    repeat (refine And.intro (by first | omega | (intros; omega) | (intros; exact And.intro (by assumption) (by omega)) | grind) ?_)
    apply k4_; clear k4_
    refine Do.cond [4,6] rfl (fun g => ?_) (fun g => ?_) <;> simp [go_sem] at g ⊢
    refine Do.seqk fun _ k5_ => ?_
    refine Do.region [4,5] true ?_
    simp [go_sem]
    repeat (refine And.intro (by first | omega | (intros; omega) | (intros; exact And.intro (by assumption) (by omega)) | grind) ?_)
    apply k5_; clear k5_
    refine Do.ret ?_
    simp [endQ, rets, ret1, go_sem]
    repeat (refine And.intro (by first | omega | (intros; omega) | (intros; exact And.intro (by assumption) (by omega)) | grind) ?_)
    exact TLe.refl _
  | true =>
    refine Does.of (nt := 19) Tryz.func28 rfl rfl rfl (by simp) ?_
    simp only [argTm, PV.ext, Ce.ext]
    refine Do.seqk fun _ k1_ => ?_
    refine Do.region [0,3,4] true ?_
    simp [go_sem]
    apply k1_; clear k1_
    refine Do.seqk fun _ k2_ => ?_
    refine Do.region [4,6,7] true ?_
    simp [go_sem]
    repeat (refine And.intro (by first | omega | (intros; omega) | (intros; exact And.intro (by assumption) (by omega)) | grind) ?_)
    refine DoL.call true 103 rfl rfl rfl rfl (by first | exact trivial | omega | (simp; done) | (simp; omega)) (h1) rfl (by first | exact .inl rfl | exact .inr rfl) rfl ?_
    simp [go_sem]
    refine DoL.call true 104 rfl rfl rfl rfl (by first | exact trivial | omega | (simp; done) | (simp; omega)) (hI) rfl (by first | exact .inl rfl | exact .inr rfl) rfl ?_
    simp [go_sem]
    repeat (refine And.intro (by first | omega | (intros; omega) | (intros; exact And.intro (by assumption) (by omega)) | grind) ?_)
    apply k2_; clear k2_
    refine Do.seqk fun _ k3_ => ?_
    refine Do.seqk fun _ k4_ => ?_
    refine Do.region [4,6,16] true ?_
    simp [go_sem]
    repeat (refine And.intro (by first | omega | (intros; omega) | (intros; exact And.intro (by assumption) (by omega)) | grind) ?_)
    apply k4_; clear k4_
    refine Do.cond [4,6] rfl (fun g => ?_) (fun g => ?_) <;> simp [go_sem] at g ⊢
    refine Do.skip ?_
    simp [go_sem]
    apply k3_; clear k3_
    refine Do.seqk fun _ k5_ => ?_
    refine Do.region [4,5] true ?_
    simp [go_sem]
    repeat (refine And.intro (by first | omega | (intros; omega) | (intros; exact And.intro (by assumption) (by omega)) | grind) ?_)
    apply k5_; clear k5_
    refine Do.ret ?_
    simp [endQ, rets, ret1, go_sem]
    repeat (refine And.intro (by first | omega | (intros; omega) | (intros; exact And.intro (by assumption) (by omega)) | grind) ?_)
    exact TLe.refl _
end Go.Proofs.YtokgalpflooegaaGreatDoor
/- The law ConvertIntegrals. No condition. -/
namespace Go.Proofs.YtokgalpflooegaaGreatDoor
set_option linter.unusedVariables false
set_option linter.unusedSimpArgs false
set_option maxHeartbeats 4000000
set_option maxRecDepth 10000
/-- An integer as a float; 0 gets a sign. -/
def fromP (z : Int) (n : Bool) : Flt := if z = 0 then ⟨0, n, 0, 0⟩ else rcanon ⟨1, decide (z < 0), 0, z.natAbs⟩
theorem fromP_rest {z : Int} (h : z ≠ 0) (n : Bool) : fromP z n = restP 0 z := by
  unfold fromP restP
  rw [if_neg h, if_neg h]
theorem RFrom_does {G : Gl} {z : Int} {n : Bool} (hz : bl z.natAbs ≤ 1000000) : Does Tryz.prog G 87 [Iv z, .c (.b n)] (.v (fromP z n).pw) := by
  have h1 := @IvSign G z (by omega)
  have hl := len_bl hz
  have hc := @Canonical_new G 1 0 (decide (z < 0)) (nat z.natAbs) (by omega) (nat_ws _) (by constructor <;> decide)
  rw [val_nat] at hc
  unfold fromP
  by_cases h0 : z = 0
  · rw [if_pos h0]
    subst h0
    refine Does.of (nt := 16) Tryz.func87 rfl rfl rfl (by simp) ?_
    simp only [argTm, PV.ext, Ce.ext]
    refine Do.seqk fun _ k1_ => ?_
    refine Do.region [1,2,4] true ?_
    simp [go_sem]
    apply k1_; clear k1_
    refine Do.seqk fun _ k2_ => ?_
    refine Do.seqk fun _ k3_ => ?_
    refine Do.region [1,2,4,7] true ?_
    simp [go_sem]
    repeat (refine And.intro (by first | omega | (intros; omega) | (intros; exact And.intro (by assumption) (by omega)) | grind) ?_)
    refine DoL.call true 102 rfl rfl rfl rfl (by first | exact trivial | omega | (simp; done) | (simp; omega)) (h1) rfl (by first | exact .inl rfl | exact .inr rfl) rfl ?_
    simp [go_sem]
    apply k3_; clear k3_
    refine Do.cond [1,2,4] rfl (fun g => ?_) (fun g => ?_) <;> simp [go_sem] at g ⊢
    refine Do.seqk fun _ k4_ => ?_
    refine Do.region [4] true ?_
    simp [go_sem]
    repeat (refine And.intro (by first | omega | (intros; omega) | (intros; exact And.intro (by assumption) (by omega)) | grind) ?_)
    apply k4_; clear k4_
    refine Do.ret ?_
    simp [endQ, rets, ret1, go_sem]
    repeat (refine And.intro (by first | omega | (intros; omega) | (intros; exact And.intro (by assumption) (by omega)) | grind) ?_)
    exact TLe.v (PLe.flw (ret_zw rfl))
  · rw [if_neg h0]
    have hs : (z.sign == 0) = false := by
      rw [beq_eq_false_iff_ne, ne_eq, Int.sign_eq_zero_iff_zero]; exact h0
    have hc : Does Tryz.prog G 53 [Fl 1 (decide (z < 0)) 0 (nat z.natAbs)] (.v (rcanon ⟨1, decide (z < 0), 0, z.natAbs⟩).pw) := hc
    generalize rcanon ⟨1, decide (z < 0), 0, z.natAbs⟩ = y at *
    generalize z.sign = sg at *
    refine Does.of (nt := 16) Tryz.func87 rfl rfl rfl (by simp) ?_
    simp only [argTm, PV.ext, Ce.ext]
    refine Do.seqk fun _ k1_ => ?_
    refine Do.region [1,2,4] true ?_
    simp [go_sem]
    apply k1_; clear k1_
    refine Do.seqk fun _ k2_ => ?_
    refine Do.seqk fun _ k3_ => ?_
    refine Do.region [1,2,4,7] true ?_
    simp [go_sem]
    repeat (refine And.intro (by first | omega | (intros; omega) | (intros; exact And.intro (by assumption) (by omega)) | grind) ?_)
    refine DoL.call true 102 rfl rfl rfl rfl (by first | exact trivial | omega | (simp; done) | (simp; omega)) (h1) rfl (by first | exact .inl rfl | exact .inr rfl) rfl ?_
    simp [go_sem]
    apply k3_; clear k3_
    refine Do.cond [1,2,4] rfl (fun g => ?_) (fun g => ?_) <;> simp [go_sem, hs] at g ⊢
    refine Do.skip ?_
    simp [go_sem]
    apply k2_; clear k2_
    refine Do.seqk fun _ k4_ => ?_
    refine Do.region [4] true ?_
    simp [go_sem, hs]
    repeat (refine And.intro (by first | omega | (intros; omega) | (intros; exact And.intro (by assumption) (by omega)) | grind) ?_)
    refine DoL.call true 306 rfl rfl rfl rfl (by first | exact trivial | omega | (simp; done) | (simp; omega)) (hc) rfl (by first | exact .inl rfl | exact .inr rfl) rfl ?_
    simp [go_sem, hs]
    repeat (refine And.intro (by first | omega | (intros; omega) | (intros; exact And.intro (by assumption) (by omega)) | grind) ?_)
    apply k4_; clear k4_
    refine Do.ret ?_
    simp [endQ, rets, ret1, go_sem, hs]
    repeat (refine And.intro (by first | omega | (intros; omega) | (intros; exact And.intro (by assumption) (by omega)) | grind) ?_)
    exact TLe.refl _
theorem integral_does {f p : Int} (hf : fmOk f p = true) {z : Int} {n : Bool} (hz : bl z.natAbs ≤ 1000000) : Does Tryz.prog Gv 86 [Fm f p, Iv z, .c (.b n)] (.t [((Nu.mk (decide (z < 0)) z.natAbs 0).round f p 0 n).1.pv, .c (.b (((Nu.mk (decide (z < 0)) z.natAbs 0).round f p 0 n).2 == 0))]) := by
  have h := @NFloat_does f p 0 hf (by decide) (by decide) (Nu.mk (decide (z < 0)) z.natAbs 0) n ⟨by show (-4194304 : Int) ≤ 0; decide, by show (0 : Int) + bl z.natAbs ≤ 4194304; omega⟩
  have h : Does Tryz.prog Gv 49 [.a [.b (decide (z < 0)), .w false (nat z.natAbs), .i .i64 0], Fm f p, .c (.i .i64 0), .c (.b n)] (.t [((Nu.mk (decide (z < 0)) z.natAbs 0).round f p 0 n).1.pv, .c (.i .i64 ((Nu.mk (decide (z < 0)) z.natAbs 0).round f p 0 n).2)]) := h
  generalize (Nu.mk (decide (z < 0)) z.natAbs 0).round f p 0 n = y at *
  refine Does.of (nt := 24) Tryz.func86 rfl rfl rfl (by simp) ?_
  simp only [argTm, PV.ext, Ce.ext]
  refine Do.seqk fun _ k1_ => ?_
  refine Do.region [2,3,4,6] true ?_
  simp [go_sem]
  apply k1_; clear k1_
  refine Do.seqk fun _ k2_ => ?_
  refine Do.region [6,8,9] true ?_
  simp [go_sem]
  repeat (refine And.intro (by first | omega | (intros; omega) | (intros; exact And.intro (by assumption) (by omega)) | grind) ?_)
  refine DoL.call true 108 rfl rfl rfl rfl (by first | exact trivial | omega | (simp; done) | (simp; omega)) (h) rfl (by first | exact .inl rfl | exact .inr rfl) rfl ?_
  simp [go_sem]
  repeat (refine And.intro (by first | omega | (intros; omega) | (intros; exact And.intro (by assumption) (by omega)) | grind) ?_)
  apply k2_; clear k2_
  refine Do.seqk fun _ k3_ => ?_
  refine Do.region [6,7] true ?_
  simp [go_sem]
  repeat (refine And.intro (by first | omega | (intros; omega) | (intros; exact And.intro (by assumption) (by omega)) | grind) ?_)
  apply k3_; clear k3_
  refine Do.ret ?_
  simp [endQ, rets, ret1, go_sem]
  repeat (refine And.intro (by first | omega | (intros; omega) | (intros; exact And.intro (by assumption) (by omega)) | grind) ?_)
  exact TLe.refl _
/-- What an integer rounded to a format without flags is. -/
theorem integral_ok {f p : Int} (hf : fmOk f p = true) (z : Int) (n : Bool) : (((Nu.mk (decide (z < 0)) z.natAbs 0).round f p 0 n).2 == 0) = inP f p (fromP z n) ∧ (inP f p (fromP z n) = true → ((Nu.mk (decide (z < 0)) z.natAbs 0).round f p 0 n).1 = fromP z n) := by
  by_cases h0 : z = 0
  · subst h0
    have e : (Nu.mk (decide ((0 : Int) < 0)) (0 : Int).natAbs 0).round f p 0 n = (⟨0, n, 0, 0⟩, 0) := rfl
    rw [e]
    exact ⟨rfl, fun _ => rfl⟩
  · have hr : (Nu.mk (decide (z < 0)) z.natAbs 0).round f p 0 n = (Nu.mk (decide (z < 0)) z.natAbs 0).round f p 0 false := by
      unfold Nu.round
      simp only []
      rw [if_neg (by omega), if_neg (by omega)]
    obtain ⟨i1, i2⟩ := @inP_flags f p hf 0 z ⟨decide (z < 0), z.natAbs, 0⟩ (Int.le_refl _) (sv_abs _ _)
    rw [hr, fromP_rest h0]
    cases hi : inP f p (restP 0 z) with
    | true =>
      rw [i1 hi]
      exact ⟨rfl, fun _ => rfl⟩
    | false =>
      refine ⟨?_, fun h => by cases h⟩
      rw [beq_eq_false_iff_ne]
      intro h
      rw [i2 h] at hi
      cases hi
theorem fromP_fine {f p : Int} (hf : fmOk f p = true) {z : Int} {n : Bool} (h : inP f p (fromP z n) = true) : Fine (fromP z n) ∧ rcanon (fromP z n) = fromP z n := by
  rw [← (integral_ok hf z n).2 h]
  unfold Nu.round
  split
  · exact ⟨fine_zero, rfl⟩
  · exact ⟨roundP_fine hf, roundP_fix hf⟩
section
variable {f p r : Int} {x : Fla} {a : Flt}
end
end Go.Proofs.YtokgalpflooegaaGreatDoor
/- The integer part of a float of a format, and the rest, plain. No condition. -/
namespace Go.Proofs.YtokgalpflooegaaGreatDoor
set_option linter.unusedVariables false
set_option linter.unusedSimpArgs false
set_option maxHeartbeats 4000000
set_option maxRecDepth 10000
def truncW (a : Flt) : Nat := (wholeP 2 ⟨a.n, a.v, a.e⟩).1
/-- The integer part. -/
def truncZ (a : Flt) : Int := sgn a.n (truncW a)
/-- The rest, in units of 2^z. -/
def remN (z : Int) (a : Flt) : Nat := if 0 ≤ a.e then 0 else a.v % 2 ^ (-a.e).toNat * 2 ^ (a.e - z).toNat
def remD (z : Int) (a : Flt) : Int := sgn a.n (remN z a)
theorem truncW_eq (a : Flt) : truncW a = if 0 ≤ a.e then a.v * 2 ^ a.e.toNat else a.v / 2 ^ (-a.e).toNat := by
  have h : ∀ q c, upP 2 a.n q c = q := fun q c => by simp [upP, moreP]
  show upP 2 a.n (cutP a.v (-a.e) false).1 (cutP a.v (-a.e) false).2 = _
  rw [h]
  unfold cutP
  by_cases he : 0 ≤ a.e
  · rw [if_pos (by omega), if_pos he, Int.neg_neg]
  · rw [if_neg (by omega), if_neg he]
/-- Both parts add up to the float. -/
theorem trunc_rem {z : Int} {a : Flt} (hz : z ≤ 0) (hze : z ≤ a.e) : a.v * 2 ^ (a.e - z).toNat = truncW a * 2 ^ (-z).toNat + remN z a ∧ remN z a < 2 ^ (-z).toNat := by
  rw [truncW_eq]
  unfold remN
  by_cases he : 0 ≤ a.e
  · rw [if_pos he, if_pos he]
    refine ⟨?_, Nat.pow_pos (by decide)⟩
    rw [Nat.add_zero, Nat.mul_assoc, ← Nat.pow_add]
    congr 2; omega
  · rw [if_neg he, if_neg he]
    have e1 : 2 ^ (-z).toNat = 2 ^ (-a.e).toNat * 2 ^ (a.e - z).toNat := by rw [← Nat.pow_add]; congr 1; omega
    rw [e1, ← Nat.mul_assoc, ← Nat.add_mul]
    have h1 := Nat.div_add_mod a.v (2 ^ (-a.e).toNat)
    have h2 := Nat.mod_lt a.v (Nat.pow_pos (n := (-a.e).toNat) (show 0 < 2 by decide))
    have h3 := Nat.pow_pos (n := (a.e - z).toNat) (show 0 < 2 by decide)
    refine ⟨?_, Nat.mul_lt_mul_of_pos_right h2 h3⟩
    congr 1
    rw [Nat.mul_comm (a.v / 2 ^ (-a.e).toNat)]; omega
theorem sgn_add (n : Bool) (u v : Nat) : sgn n (u + v) = sgn n u + sgn n v := by unfold sgn; split <;> omega
theorem sgn_mul (n : Bool) (u v : Nat) : sgn n (u * v) = sgn n u * (v : Int) := by
  unfold sgn
  split
  · rw [Int.neg_mul, Int.natCast_mul]
  · rw [Int.natCast_mul]
theorem sv_sgn (x : Nu) (z : Int) : x.sv z = sgn x.n (x.v * 2 ^ (x.e - z).toNat) := rfl
theorem trunc_sum {z : Int} {a : Flt} (hz : z ≤ 0) (hze : z ≤ a.e) : (Nu.mk a.n a.v a.e).sv z = truncZ a * ((2 ^ (-z).toNat : Nat) : Int) + remD z a := by
  rw [sv_sgn]
  simp only []
  rw [(trunc_rem hz hze).1, sgn_add, sgn_mul]
  rfl
theorem restP_kind20 (z D : Int) : (restP z D).k = 0 ∨ (restP z D).k = 1 := by
  unfold restP
  split
  · exact .inl rfl
  · rw [rcanon_k]; exact .inr rfl
section
variable {f p : Int} {a : Flt}
theorem tiny_neg (hf : fmOk f p = true) : tiny f p ≤ 0 := by
  obtain ⟨b1, b2, b3, b4⟩ := fmOk_spec hf
  obtain ⟨b5, b6⟩ := gOfE_le b1 b2
  show 1 - gOfE f - (p - 1) ≤ 0
  omega
theorem trunc_flags (hf : fmOk f p = true) (hv : a.v ≠ 0) (h1 : (bl a.v : Int) ≤ p) (h2 : tiny f p ≤ a.e) (h3 : a.e + bl a.v ≤ gOfE f + 1) : ((Nu.mk (decide (truncZ a < 0)) (truncZ a).natAbs 0).round f p 0 a.n).2 = 0 := by
  have ht := tiny_neg hf
  have htd : tiny f p = 1 - gOfE f - (p - 1) := rfl
  have e1 : (truncZ a).natAbs = truncW a := sgn_abs _ _
  rw [e1]
  unfold Nu.round
  simp only []
  by_cases h0 : truncW a = 0
  · rw [if_pos h0]
  · rw [if_neg h0]
    have hw := truncW_eq a
    by_cases he : 0 ≤ a.e
    · rw [if_pos he] at hw
      rw [hw]
      have hs := @roundP_scale f p 0 (decide (truncZ a < 0)) a.v a.e.toNat a.e (Nat.pos_of_ne_zero hv)
      rw [show a.e - (a.e.toNat : Int) = 0 by omega] at hs
      rw [hs, roundP_exact hf (Nat.pos_of_ne_zero hv) (by omega) h1 h3]
    · rw [if_neg he] at hw
      have hb : bl (truncW a) = bl a.v - (-a.e).toNat := by rw [hw, bl_div]
      have hb0 := bl_pos (Nat.pos_of_ne_zero h0)
      rw [roundP_exact hf (Nat.pos_of_ne_zero h0) (by omega) (by omega) (by omega)]
theorem trunc_in (hf : fmOk f p = true) (hv : a.v ≠ 0) (h1 : (bl a.v : Int) ≤ p) (h2 : tiny f p ≤ a.e) (h3 : a.e + bl a.v ≤ gOfE f + 1) : inP f p (fromP (truncZ a) a.n) = true := by
  rw [← (integral_ok hf (truncZ a) a.n).1, trunc_flags hf hv h1 h2 h3]
  rfl
theorem rem_of (hf : fmOk f p = true) (h1 : (bl a.v : Int) ≤ p) (h2 : tiny f p ≤ a.e) (h3 : a.e + bl a.v ≤ gOfE f + 1) : ∃ d k, OfF f p (tiny f p) (remD (tiny f p) a) d k := by
  have ht := tiny_neg hf
  have htd : tiny f p = 1 - gOfE f - (p - 1) := rfl
  obtain ⟨b1, b2, b3, b4⟩ := fmOk_spec hf
  obtain ⟨b5, b6⟩ := gOfE_le b1 b2
  have e1 : (remD (tiny f p) a).natAbs = remN (tiny f p) a := sgn_abs _ _
  by_cases he : 0 ≤ a.e
  · have e2 : remN (tiny f p) a = 0 := by unfold remN; rw [if_pos he]
    exact ⟨0, tiny f p, ⟨Int.le_refl _, by rw [bl_zero]; omega, by rw [bl_zero]; omega, by rw [e1, e2, Nat.zero_mul]⟩⟩
  · have e2 : remN (tiny f p) a = a.v % 2 ^ (-a.e).toNat * 2 ^ (a.e - tiny f p).toNat := by unfold remN; rw [if_neg he]
    have hb := bl_mono (Nat.mod_le a.v (2 ^ (-a.e).toNat))
    exact ⟨a.v % 2 ^ (-a.e).toNat, a.e, ⟨h2, by omega, by omega, by rw [e1, e2]⟩⟩
/-- The rest as a float. -/
def partP (f p : Int) (a : Flt) : Flt := if remD (tiny f p) a = 0 then ⟨0, a.n, 0, 0⟩ else restP (tiny f p) (remD (tiny f p) a)
theorem sv_zero_v {x : Nu} {z : Int} (h : x.sv z = 0) : x.v = 0 := by
  have h1 := sv_nat x z
  rw [h] at h1
  rcases Nat.mul_eq_zero.1 h1.symm with h2 | h2
  · exact h2
  · have := Nat.pow_pos (n := (x.e - z).toNat) (show 0 < 2 by decide); omega
theorem part_round (hf : fmOk f p = true) (h1 : (bl a.v : Int) ≤ p) (h2 : tiny f p ≤ a.e) (h3 : a.e + bl a.v ≤ gOfE f + 1) {y : Nu} (hy : tiny f p ≤ y.e) (hs : y.sv (tiny f p) = remD (tiny f p) a) : (y.round f p 2 a.n).1 = partP f p a := by
  unfold partP
  by_cases h0 : remD (tiny f p) a = 0
  · rw [if_pos h0]
    rw [h0] at hs
    unfold Nu.round
    rw [if_pos (sv_zero_v hs)]
  · rw [if_neg h0]
    obtain ⟨d, k, ho⟩ := rem_of hf h1 h2 h3
    have hv : y.v ≠ 0 := fun h => h0 (by rw [← hs, sv_sgn, h]; simp [sgn])
    have hq : y.round f p 2 a.n = y.round f p 2 false := by unfold Nu.round; rw [if_neg hv, if_neg hv]
    rw [hq, Nu.round_sv hy (b := ⟨decide (remD (tiny f p) a < 0), (remD (tiny f p) a).natAbs, tiny f p⟩) (Int.le_refl _) (by rw [sv_abs, hs]) f p 2 false, round_exact hf (Int.le_refl _) ho]
theorem part_fine (hf : fmOk f p = true) (h1 : (bl a.v : Int) ≤ p) (h2 : tiny f p ≤ a.e) (h3 : a.e + bl a.v ≤ gOfE f + 1) : Fine (partP f p a) ∧ rcanon (partP f p a) = partP f p a ∧ (holdsP f p (partP f p a)).2 = true := by
  unfold partP
  split
  · refine ⟨fine_zero, rfl, ?_⟩
    simp [holdsP, canon]
  · exact ⟨restP_fine hf (Int.le_refl _) (rem_of hf h1 h2 h3), restP_fix _ _, restP_held hf (rem_of hf h1 h2 h3)⟩
theorem part_kn (f p : Int) (a : Flt) : ((partP f p a).k = 0 ∨ (partP f p a).k = 1) ∧ (partP f p a).n = a.n := by
  unfold partP
  split
  · exact ⟨.inl rfl, rfl⟩
  · rename_i h
    refine ⟨restP_kind20 _ _, ?_⟩
    unfold restP
    rw [if_neg h, rcanon_n]
    have h2 : remN (tiny f p) a ≠ 0 := fun h3 => h (by unfold remD; rw [h3]; simp [sgn])
    exact sgn_dec h2
theorem from_kn (a : Flt) : ((fromP (truncZ a) a.n).k = 0 ∨ (fromP (truncZ a) a.n).k = 1) ∧ (fromP (truncZ a) a.n).n = a.n := by
  unfold fromP
  split
  · exact ⟨.inl rfl, rfl⟩
  · rename_i h
    refine ⟨.inr (by rw [rcanon_k]), ?_⟩
    rw [rcanon_n]
    have h2 : truncW a ≠ 0 := fun h3 => h (by unfold truncZ; rw [h3]; simp [sgn])
    exact sgn_dec h2
theorem from_fv (z : Int) (n : Bool) (K : Nat) : fv (-K) (fromP z n) = z * ((2 ^ K : Nat) : Int) := by
  by_cases h : z = 0
  · subst h
    unfold fromP fv
    simp
  · rw [fromP_rest h, restP_fv (by omega)]
    rw [show ((0 : Int) + K).toNat = K by omega]
theorem part_fv {K : Nat} (hK : -(K : Int) ≤ tiny f p) : fv (-K) (partP f p a) = remD (tiny f p) a * ((2 ^ (tiny f p + K).toNat : Nat) : Int) := by
  unfold partP
  split
  · rename_i h
    rw [h]
    simp [fv]
  · exact restP_fv hK
/-- What both parts add up to. -/
theorem parts_fv {K : Nat} (hf : fmOk f p = true) (hk : a.k = 1) (h2 : tiny f p ≤ a.e) (hK : -(K : Int) ≤ tiny f p) : fv (-K) (fromP (truncZ a) a.n) + fv (-K) (partP f p a) = fv (-K) a ∧ (fv (-K) (partP f p a)).natAbs < 2 ^ K := by
  have ht := tiny_neg hf
  have e0 : ((2 ^ K : Nat) : Int) = ((2 ^ (-(tiny f p)).toNat : Nat) : Int) * ((2 ^ (tiny f p + K).toNat : Nat) : Int) := by
    rw [← Int.natCast_mul, ← Nat.pow_add]
    congr 2; omega
  constructor
  · rw [from_fv, part_fv hK, fv_fine hK (fun _ => h2), e0]
    have e1 : fv (tiny f p) a = (Nu.mk a.n a.v a.e).sv (tiny f p) := by unfold fv; rw [if_pos hk]
    rw [e1, trunc_sum ht h2, Int.add_mul, Int.mul_assoc]
  · rw [part_fv hK, Int.natAbs_mul, Int.natAbs_natCast]
    have e1 : (remD (tiny f p) a).natAbs = remN (tiny f p) a := sgn_abs _ _
    rw [e1]
    have h3 := (trunc_rem ht h2).2
    have e2 : 2 ^ K = 2 ^ (-(tiny f p)).toNat * 2 ^ (tiny f p + K).toNat := by rw [← Nat.pow_add]; congr 1; omega
    rw [e2]
    exact Nat.mul_lt_mul_of_pos_right h3 (Nat.pow_pos (by decide))
end
end Go.Proofs.YtokgalpflooegaaGreatDoor
/- The two parts of a float; the law ConvertJoins. No condition. -/
namespace Go.Proofs.YtokgalpflooegaaGreatDoor
set_option linter.unusedVariables false
set_option linter.unusedSimpArgs false
set_option maxHeartbeats 8000000
set_option maxRecDepth 10000
theorem sv_not (n : Bool) (v : Nat) (e z : Int) : (Nu.mk (!n) v e).sv z = -(Nu.mk n v e).sv z := by
  unfold Nu.sv
  cases n <;> simp
theorem from_e (z : Int) (n : Bool) : 0 ≤ (fromP z n).e := by
  unfold fromP
  split
  · exact Int.le_refl _
  · unfold rcanon
    rw [if_pos rfl]
    simp only []
    omega
theorem Parts_does {f p : Int} {x : Fla} (hx : x.Ok) (he : argsC f p f p 2 false x = 0) {a : Flt} (ha : (holdsP f p x.flt).1 = a) (hk : a.k = 1) : Does Tryz.prog Gv 34 [Fm f p, Fl x.k x.n x.e x.m] (.t [(fromP (truncZ a) a.n).pv, (partP f p a).pv, .c (.i .i64 0)]) := by
  have hA := @cargs_does f p f p 2 false x hx
  obtain ⟨h1, h2, h3, h4, h5, h6, h7⟩ := argsC_zero he
  obtain ⟨b1, b2, b3, b4⟩ := fmOk_spec h5
  obtain ⟨b5, b6⟩ := gOfE_le b1 b2
  have hbd := holdsP_bound h5 h7
  have hsb := held_fin20 h7
  have hps := held_pos h7
  rw [if_pos he, he, ha] at hA
  rw [ha] at hbd hsb hps
  have hbd := hbd hk
  have hps := hps hk
  obtain ⟨s1, s2, s3⟩ := hsb hk
  have hok : (Nu.mk a.n a.v a.e).Ok := ⟨hbd.1, by show a.e + bl a.v ≤ 4194304; omega⟩
  have hW := @WholeN_does 2 h2 h3 ⟨a.n, a.v, a.e⟩ hok
  have hwb := wholeP_bl 2 ⟨a.n, a.v, a.e⟩
  simp only [] at hwb
  have hzb : bl (truncZ a).natAbs ≤ 1000000 := by show bl (sgn a.n (wholeP 2 ⟨a.n, a.v, a.e⟩).1).natAbs ≤ _; rw [sgn_abs]; omega
  have hI := @integral_does f p h5 (truncZ a) a.n hzb
  have htr := trunc_in h5 hps s1 s2 s3
  obtain ⟨o1, o2⟩ := integral_ok h5 (truncZ a) a.n
  obtain ⟨wf, wfx⟩ := fromP_fine h5 htr
  have wkn := from_kn a
  have wfv := from_fv (truncZ a) a.n (-(tiny f p)).toNat
  have we0 := from_e (truncZ a) a.n
  have ht := tiny_neg h5
  rw [o1, o2 htr, htr] at hI
  rw [show -(((-(tiny f p)).toNat : Nat) : Int) = tiny f p by omega] at wfv
  have hsum := trunc_sum ht s2
  have hpr := @part_round f p a h5 s1 s2 s3
  have hW : Does Tryz.prog Gv 80 [Nm a.n (nat a.v) a.e, .c (.i .i64 2)] (.t [Iv (truncZ a), .c (.b (wholeP 2 ⟨a.n, a.v, a.e⟩).2)]) := hW
  generalize (wholeP 2 ⟨a.n, a.v, a.e⟩).2 = wx at *
  generalize fromP (truncZ a) a.n = w at *
  generalize truncZ a = z at *
  rw [fv_sv wfx wkn.1] at wfv
  have okw : -4194304 ≤ w.e ∧ w.e + bl w.v ≤ 1148576 := by
    have hv := wf.v
    rcases wkn.1 with h | h
    · unfold rcanon at wfx
      rw [if_neg (by omega)] at wfx
      have e1 := congrArg Flt.e wfx
      simp only [] at e1
      omega
    · have := canon_one wf.can h; omega
  have P := @Plus_does Gv ⟨a.n, a.v, a.e⟩ ⟨!w.n, w.v, w.e⟩ ⟨hok.1, hok.2⟩ ⟨okw.1, by simp only []; omega⟩
  have ps := @Nu.plus_sv (tiny f p) ⟨a.n, a.v, a.e⟩ ⟨!w.n, w.v, w.e⟩ s2 (by simp only []; omega)
  have po := @Nu.plus_ok ⟨a.n, a.v, a.e⟩ ⟨!w.n, w.v, w.e⟩ 1148576 ⟨hok.1, by simp only []; omega⟩ okw
  generalize (Nu.mk a.n a.v a.e).plus ⟨!w.n, w.v, w.e⟩ = y at *
  have hys : y.sv (tiny f p) = remD (tiny f p) a := by
    rw [ps.1, sv_not, wfv, hsum]; omega
  have hF := @NFloat_does f p 2 h5 (by decide) (by decide) y a.n ⟨po.1, by omega⟩
  rw [hpr ps.2 hys] at hF
  generalize partP f p a = u at *
  generalize (y.round f p 2 a.n).2 = fl at *
  have hk3 : ¬ a.k = 3 := by omega
  refine Does.of (nt := 67) Tryz.func34 rfl rfl rfl (by simp) ?_
  simp only [argTm, PV.ext, Ce.ext]
  refine Do.seqk fun _ k1_ => ?_
  refine Do.region [2,3,4,5] true ?_
  simp [go_sem]
  apply k1_; clear k1_
  refine Do.seqk fun _ k2_ => ?_
  refine Do.region [2,3,4,5,6] true ?_
  simp [go_sem]
  repeat (refine And.intro (by first | omega | (intros; omega) | (intros; exact And.intro (by assumption) (by omega)) | grind) ?_)
  refine DoL.call true 104 rfl rfl rfl rfl (by first | exact trivial | omega | (simp; done) | (simp; omega)) (hA) rfl (by first | exact .inl rfl | exact .inr rfl) rfl ?_
  simp [go_sem]
  repeat (refine And.intro (by first | omega | (intros; omega) | (intros; exact And.intro (by assumption) (by omega)) | grind) ?_)
  apply k2_; clear k2_
  refine Do.seqk fun _ k3_ => ?_
  refine Do.region [2,3,4,5,6,7] true ?_
  simp [go_sem]
  repeat (refine And.intro (by first | omega | (intros; omega) | (intros; exact And.intro (by assumption) (by omega)) | grind) ?_)
  apply k3_; clear k3_
  refine Do.seqk fun _ k4_ => ?_
  refine Do.block ?_
  refine Do.seqk fun _ k5_ => ?_
  refine Do.region [2,3,4,5,6,7,20] true ?_
  simp [go_sem]
  apply k5_; clear k5_
  refine Do.cond [2,3,4,5,6,7] rfl (fun g1 => ?_) (fun g1 => ?_) <;> simp [go_sem] at g1 ⊢
  refine Do.seqk fun _ k6_ => ?_
  refine Do.region [2,3,4,5,7,26] true ?_
  simp [go_sem]
  repeat (refine And.intro (by first | omega | (intros; omega) | (intros; exact And.intro (by assumption) (by omega)) | grind) ?_)
  apply k6_; clear k6_
  refine Do.cond [2,3,4,5,7] rfl (fun g2 => ?_) (fun g2 => ?_) <;> simp [go_sem] at g2 ⊢
  · exact absurd g2 hk3
  · refine Do.seqk fun _ k7_ => ?_
    refine Do.region [2,3,4,5,7,32] true ?_
    simp [go_sem]
    repeat (refine And.intro (by first | omega | (intros; omega) | (intros; exact And.intro (by assumption) (by omega)) | grind) ?_)
    apply k7_; clear k7_
    refine Do.cond [2,3,4,5,7] rfl (fun g3 => ?_) (fun g3 => ?_) <;> simp [go_sem] at g3 ⊢
    · exact absurd hk g3
    · refine Do.skip ?_
      simp [go_sem]
      apply k4_; clear k4_
      refine Do.seqk fun _ k8_ => ?_
      refine Do.region [2,3,4,5,8] true ?_
      simp [go_sem]
      repeat (refine And.intro (by first | omega | (intros; omega) | (intros; exact And.intro (by assumption) (by omega)) | grind) ?_)
      refine DoL.call true 902 rfl rfl rfl rfl (by first | exact trivial | omega | (simp; done) | (simp; omega)) (Of_does) rfl (by first | exact .inl rfl | exact .inr rfl) rfl ?_
      simp [go_sem]
      refine DoL.call true 903 rfl rfl rfl rfl (by first | exact trivial | omega | (simp; done) | (simp; omega)) (hW) rfl (by first | exact .inl rfl | exact .inr rfl) rfl ?_
      simp [go_sem]
      repeat (refine And.intro (by first | omega | (intros; omega) | (intros; exact And.intro (by assumption) (by omega)) | grind) ?_)
      apply k8_; clear k8_
      refine Do.seqk fun _ k9_ => ?_
      refine Do.region [2,3,4,5] true ?_
      simp [go_sem]
      repeat (refine And.intro (by first | omega | (intros; omega) | (intros; exact And.intro (by assumption) (by omega)) | grind) ?_)
      refine DoL.call true 1005 rfl rfl rfl rfl (by first | exact trivial | omega | (simp; done) | (simp; omega)) (hI) rfl (by first | exact .inl rfl | exact .inr rfl) rfl ?_
      simp [go_sem]
      repeat (refine And.intro (by first | omega | (intros; omega) | (intros; exact And.intro (by assumption) (by omega)) | grind) ?_)
      apply k9_; clear k9_
      refine Do.seqk fun _ k10_ => ?_
      refine Do.draw [4,5] true (by kernel_rfl) ?_
      simp [go_sem]
      repeat (refine And.intro (by first | omega | (intros; omega) | (intros; exact And.intro (by assumption) (by omega)) | kernel_rfl | grind) ?_)
      refine DoLD.call true 1102 rfl rfl rfl rfl (by first | exact trivial | omega | (simp; done) | (simp; omega)) (Of_does) rfl (by first | exact .inl rfl | exact .inr rfl) rfl ?_
      simp [go_sem]
      repeat (refine And.intro (by first | omega | (intros; omega) | (intros; exact And.intro (by assumption) (by omega)) | kernel_rfl | grind) ?_)
      refine DoLD.call true 1104 rfl rfl rfl rfl (by first | exact trivial | omega | (simp; done) | (simp; omega)) (Of_does) rfl (by first | exact .inl rfl | exact .inr rfl) rfl ?_
      simp [go_sem]
      refine DoLD.call true 1105 rfl rfl rfl rfl (by first | exact trivial | omega | (simp; done) | (simp; omega)) (Minus_does) rfl (by first | exact .inl rfl | exact .inr rfl) rfl ?_
      simp [go_sem]
      refine DoLD.call true 1106 rfl rfl rfl rfl (by first | exact trivial | omega | (simp; done) | (simp; omega)) (P) rfl (by first | exact .inl rfl | exact .inr rfl) rfl ?_
      simp [go_sem]
      repeat (refine And.intro (by first | omega | (intros; omega) | (intros; exact And.intro (by assumption) (by omega)) | kernel_rfl | grind) ?_)
      refine DoLD.call true 1110 rfl rfl rfl rfl (by first | exact trivial | omega | (simp; done) | (simp; omega)) (hF) rfl (by first | exact .inl rfl | exact .inr rfl) rfl ?_
      simp [go_sem]
      repeat (refine And.intro (by first | omega | (intros; omega) | (intros; exact And.intro (by assumption) (by omega)) | kernel_rfl | grind) ?_)
      try (refine And.intro (by kernel_rfl) ?_)
      apply k10_; clear k10_
      refine Do.seqk fun _ k11_ => ?_
      refine Do.draw [4,5,6] true (by kernel_rfl) ?_
      simp [go_sem]
      repeat (refine And.intro (by first | omega | (intros; omega) | (intros; exact And.intro (by assumption) (by omega)) | kernel_rfl | grind) ?_)
      try (refine And.intro (by kernel_rfl) ?_)
      apply k11_; clear k11_
      refine Do.ret ?_
      simp [endQ, rets, ret1, go_sem]
      repeat (refine And.intro (by first | omega | (intros; omega) | (intros; exact And.intro (by assumption) (by omega)) | grind) ?_)
      exact TLe.refl _
theorem Dq.one (K : Nat) : Dq K 1 1 ((2 ^ K : Nat) : Int) := ⟨by rw [Int.one_mul, Int.natCast_one, Int.mul_one], by decide, by decide⟩
theorem Dq.int {K : Nat} {z w : Int} {d : Nat} (h : Dq K z d (w * ((2 ^ K : Nat) : Int))) : d = 1 := by
  have e := h.eq
  have hp : ((2 ^ K : Nat) : Int) ≠ 0 := pow_ne K
  have e2 : z = w * (d : Int) := by
    have : z * ((2 ^ K : Nat) : Int) = w * (d : Int) * ((2 ^ K : Nat) : Int) := by rw [e]; ac_rfl
    exact Int.eq_of_mul_eq_mul_right hp this
  have hc := h.cop
  rw [e2, Int.natAbs_mul, Int.natAbs_natCast] at hc
  have : d ∣ Nat.gcd (w.natAbs * d) d := Nat.dvd_gcd (Nat.dvd_mul_left _ _) (Nat.dvd_refl _)
  rw [hc] at this
  exact Nat.dvd_one.1 this
theorem pow_bits (n : Nat) : bl (((2 ^ n : Nat) : Int)).natAbs ≤ n + 1 := by
  rw [Int.natAbs_natCast, bl_lt]
  exact Nat.pow_lt_pow_right (by decide) (Nat.lt_succ_self n)
end Go.Proofs.YtokgalpflooegaaGreatDoor
/- The float with a rational value; the law ConvertParts. No condition. -/
namespace Go.Proofs.YtokgalpflooegaaGreatDoor
set_option linter.unusedVariables false
set_option linter.unusedSimpArgs false
set_option maxHeartbeats 8000000
set_option maxRecDepth 10000
theorem two_dvd : ∀ {K d : Nat}, d ∣ 2 ^ K → ∃ t, t ≤ K ∧ d = 2 ^ t
  | 0, d, h => ⟨0, Nat.le_refl _, Nat.dvd_one.1 h⟩
  | K + 1, d, h => by
    by_cases h2 : d % 2 = 0
    · obtain ⟨c, rfl⟩ : ∃ c, d = 2 * c := ⟨d / 2, by omega⟩
      have : c ∣ 2 ^ K := by
        rw [Nat.pow_succ, Nat.mul_comm (2 ^ K)] at h
        exact Nat.dvd_of_mul_dvd_mul_left (by decide) h
      obtain ⟨t, h3, rfl⟩ := two_dvd this
      exact ⟨t + 1, by omega, by rw [Nat.pow_succ, Nat.mul_comm]⟩
    · have hc : Nat.Coprime d 2 := by
        rw [Nat.coprime_iff_gcd_eq_one]
        have h3 := Nat.gcd_dvd_right d 2
        have h4 := Nat.gcd_dvd_left d 2
        have h5 : Nat.gcd d 2 ≤ 2 := Nat.le_of_dvd (by decide) h3
        have h6 : 0 < Nat.gcd d 2 := Nat.gcd_pos_of_pos_right _ (by decide)
        rcases (show Nat.gcd d 2 = 1 ∨ Nat.gcd d 2 = 2 by omega) with h7 | h7
        · exact h7
        · rw [h7] at h4; omega
      rw [Nat.pow_succ] at h
      obtain ⟨t, h3, h4⟩ := two_dvd (hc.dvd_of_dvd_mul_right h)
      exact ⟨t, by omega, h4⟩
theorem pow_bit {t j : Nat} (h : j ≤ t) : (2 ^ t / 2 ^ j % 2 = 1) ↔ j = t := by
  have e : 2 ^ t / 2 ^ j = 2 ^ (t - j) := by
    rw [show 2 ^ t = 2 ^ (t - j) * 2 ^ j by rw [← Nat.pow_add]; congr 1; omega]
    exact Nat.mul_div_cancel _ (Nat.pow_pos (by decide))
  rw [e]
  constructor
  · intro h1
    by_cases h2 : j = t
    · exact h2
    · rw [show t - j = t - j - 1 + 1 by omega, Nat.pow_succ] at h1; omega
  · intro h1
    rw [h1, Nat.sub_self]
theorem RBits_does {G : Gl} {t : Nat} (ht : t ≤ 8000000) : Does Tryz.prog G 132 [Wd (nat (2 ^ t))] (.t [.c (.i .i64 t), .c (.i .i64 1)]) := by
  have hb : bl (2 ^ t) = t + 1 := by have := bl_mul_pow 1 t (by decide); rw [Nat.one_mul] at this; rw [this]; rfl
  have hl := len_bl (Nat.le_of_eq hb)
  have h1 := @RLen_does G (nat (2 ^ t)) (by omega) (nat_ws _)
  rw [val_nat, hb] at h1
  have h2 := fun j (hj : j < 100000000) => @RBit_does G (nat (2 ^ t)) (by omega) (nat_ws _) (j : Nat) (by constructor <;> omega)
  rw [val_nat] at h2
  have hp := fun j (hj : j ≤ t) => @pow_bit t j hj
  generalize 2 ^ t = P at *
  refine Does.of (nt := 22) Tryz.func132 rfl rfl rfl (by simp) ?_
  simp only [argTm, PV.ext, Ce.ext]
  refine Do.seqk fun _ k1_ => ?_
  refine Do.region [0] true ?_
  simp [go_sem]
  apply k1_; clear k1_
  refine Do.seqk fun _ k2_ => ?_
  refine Do.region [0,4,5] true ?_
  simp [go_sem]
  apply k2_; clear k2_
  refine Do.seqk fun _ k3_ => ?_
  refine Do.seqk fun _ k4_ => ?_
  refine Do.region [0,4,5,6] true ?_
  simp [go_sem]
  refine DoL.call true 202 rfl rfl rfl rfl (by first | exact trivial | omega | (simp; done) | (simp; omega)) (h1) rfl (by first | exact .inl rfl | exact .inr rfl) rfl ?_
  simp [go_sem]
  repeat (refine And.intro (by first | omega | (intros; omega) | (intros; exact And.intro (by assumption) (by omega)) | grind) ?_)
  apply k4_; clear k4_
  refine Do.block ?_
  refine Do.loopF [0,4,5,6] (fun (s : Nat) => [(4, .int .i64 (if s ≤ t then (t : Int) else 0)), (5, .int .i64 (if s ≤ t then 1 else 0)), (6, .int .i64 ((s : Int) - 1))]) (fun (s : Nat) => []) (fun (s : Nat) => s ≤ t + 1) (fun (s : Nat) => s) ((t + 1)) (fun _ => by first | (simp [go_sem, mixS]; done) | (simp [go_sem, mixS]; rfl)) (St.le_of (by simp [keep, show ¬ t + 1 ≤ t by omega]) (by simp [keep])) (Nat.le_refl _) ?_
  intro s hs
  refine Do.seqk fun _ k5_ => ?_
  refine Do.seqk fun _ k6_ => ?_
  refine Do.region [0,4,5,6,11] true ?_
  simp [go_sem]
  apply k6_; clear k6_
  refine Do.cond [0,4,5,6] rfl (fun g => ?_) (fun g => ?_) <;> simp [go_sem] at g ⊢
  · obtain ⟨j, rfl⟩ : ∃ j, s = j + 1 := ⟨s - 1, by omega⟩
    have hj := h2 j (by omega)
    have hpj := hp j (by omega)
    refine Do.skip ?_
    simp [go_sem]
    apply k5_; clear k5_
    refine Do.seqk fun _ k7_ => ?_
    refine Do.block ?_
    refine Do.seqk fun _ k8_ => ?_
    refine Do.region [0,4,5,6,16] true ?_
    simp [go_sem, show ((j : Int) + 1 - 1) = j by omega]
    refine DoL.call true 503 rfl rfl rfl rfl (by first | exact trivial | omega | (simp; done) | (simp; omega)) (hj) rfl (by first | exact .inl rfl | exact .inr rfl) rfl ?_
    simp [go_sem, show ((j : Int) + 1 - 1) = j by omega]
    apply k8_; clear k8_
    refine Do.cond [0,4,5,6] rfl (fun g2 => ?_) (fun g2 => ?_) <;> simp [go_sem, show ((j : Int) + 1 - 1) = j by omega] at g2 ⊢
    · obtain rfl : j = t := hpj.1 (by simpa using g2)
      refine Do.seqk fun _ k9_ => ?_
      refine Do.region [0,4,5,6] true ?_
      simp [go_sem, show ((j : Int) + 1 - 1) = j by omega, show ¬ (j + 1 ≤ j) by omega]
      apply k9_; clear k9_
      refine Do.region [0,4,5,6] true ?_
      simp [go_sem, show ((j : Int) + 1 - 1) = j by omega, show ¬ (j + 1 ≤ j) by omega]
      repeat (refine And.intro (by first | omega | (intros; omega) | (intros; exact And.intro (by assumption) (by omega)) | grind) ?_)
      apply k7_; clear k7_
      refine Do.region [0,4,5,6] true ?_
      simp [go_sem, show ((j : Int) + 1 - 1) = j by omega, show ¬ (j + 1 ≤ j) by omega]
      repeat (refine And.intro (by first | omega | (intros; omega) | (intros; exact And.intro (by assumption) (by omega)) | grind) ?_)
      refine ⟨j, St.le_of (by simp [keep]) (by simp [keep]), by omega, by simp⟩
    · have hne : j ≠ t := fun h => by have := hpj.2 h; omega
      have hj1 : j + 1 ≤ t := by omega
      have hj2 : j ≤ t := by omega
      refine Do.skip ?_
      simp [go_sem]
      apply k7_; clear k7_
      refine Do.region [0,4,5,6] true ?_
      simp [go_sem, show ((j : Int) + 1 - 1) = j by omega, hj1, hj2]
      repeat (refine And.intro (by first | omega | (intros; omega) | (intros; exact And.intro (by assumption) (by omega)) | grind) ?_)
      refine ⟨j, St.le_of (by simp [keep, hj1, hj2]) (by simp [keep]), by omega, by simp⟩
  · obtain rfl : s = 0 := by omega
    refine Do.exit ?_
    simp [go_sem]
    apply k3_; clear k3_
    refine Do.seqk fun _ k10_ => ?_
    refine Do.region [2,3] true ?_
    simp [go_sem]
    apply k10_; clear k10_
    refine Do.ret ?_
    simp [endQ, rets, ret1, go_sem]
    repeat (refine And.intro (by first | omega | (intros; omega) | (intros; exact And.intro (by assumption) (by omega)) | grind) ?_)
    exact TLe.refl _
theorem Dq.whole (K : Nat) (z : Int) : Dq K z 1 (z * ((2 ^ K : Nat) : Int)) := ⟨by simp, by decide, by simp⟩
/-- A rational number as the float that it is. -/
theorem of_rest {K : Nat} {z w : Int} {t : Nat} (h : Dq K z (2 ^ t) w) (ht : t ≤ K) : restP (-(t : Int)) z = restP (-(K : Int)) w := by
  have e : w = z * 2 ^ (-(t : Int) - -(K : Int)).toNat := by
    have h1 := h.eq
    rw [show K = (K - t) + t by omega, Nat.pow_add, Int.natCast_mul, ← Int.mul_assoc] at h1
    have h2 := Int.eq_of_mul_eq_mul_right (pow_ne t) h1
    rw [← h2, show (-(t : Int) - -(K : Int)).toNat = K - t by omega]
    simp
  rw [e, restP_low (by omega)]
theorem ROf20_does {G : Gl} {K : Nat} {z w : Int} {d : Nat} (h : Dq K z d w) (hK : K ≤ 1048576) (hw : w.natAbs < 2 ^ K) (hb : bl w.natAbs ≤ 2000000) : Does Tryz.prog G 68 [Qv z d] (.t [(restP (-(K : Int)) w).pw, .c (.b true)]) := by
  obtain ⟨s1, s2, s3⟩ := h.small
  have hN := @QNorm G z d (by omega) (by omega) h.pos
  have h2 := Dq.norm h.eq h.pos
  generalize nz z d = z' at *
  generalize nd z d = d' at *
  clear h s1 s2 s3
  obtain ⟨s1, s2, s3⟩ := h2.small
  have hS := @QSign G K z' w d' h2 (by omega)
  rw [← h2.sign] at hS
  have hdv : d' ∣ 2 ^ K := by
    have e := congrArg Int.natAbs h2.eq
    rw [Int.natAbs_mul, Int.natAbs_mul, Int.natAbs_natCast, Int.natAbs_natCast] at e
    have hc : Nat.Coprime d' z'.natAbs := by rw [Nat.coprime_iff_gcd_eq_one, Nat.gcd_comm]; exact h2.cop
    exact hc.dvd_of_dvd_mul_left ⟨w.natAbs, by rw [e, Nat.mul_comm]⟩
  obtain ⟨t, ht, rfl⟩ := two_dvd hdv
  rw [← of_rest h2 ht]
  have hB := @RBits_does G t (by omega)
  unfold restP
  by_cases h0 : z' = 0
  · rw [if_pos h0]
    have hs : (z'.sign == 0) = true := by rw [h0]; rfl
    generalize z'.sign = sg at *
    refine Does.of (nt := 37) Tryz.func68 rfl rfl rfl (by simp) ?_
    simp only [argTm, PV.ext, Ce.ext]
    refine Do.seqk fun _ k1_ => ?_
    refine Do.region [1,2] true ?_
    simp [go_sem]
    apply k1_; clear k1_
    refine Do.seqk fun _ k2_ => ?_
    refine Do.region [1,2] true ?_
    simp [go_sem]
    repeat (refine And.intro (by first | omega | (intros; omega) | (intros; exact And.intro (by assumption) (by omega)) | grind) ?_)
    refine DoL.call true 102 rfl rfl rfl rfl (by first | exact trivial | omega | (simp; done) | (simp; omega)) (hN) rfl (by first | exact .inl rfl | exact .inr rfl) rfl ?_
    simp [go_sem]
    repeat (refine And.intro (by first | omega | (intros; omega) | (intros; exact And.intro (by assumption) (by omega)) | grind) ?_)
    apply k2_; clear k2_
    refine Do.seqk fun _ k3_ => ?_
    refine Do.seqk fun _ k4_ => ?_
    refine Do.region [1,2,11] true ?_
    simp [go_sem]
    repeat (refine And.intro (by first | omega | (intros; omega) | (intros; exact And.intro (by assumption) (by omega)) | grind) ?_)
    refine DoL.call true 202 rfl rfl rfl rfl (by first | exact trivial | omega | (simp; done) | (simp; omega)) (hS) rfl (by first | exact .inl rfl | exact .inr rfl) rfl ?_
    simp [go_sem]
    apply k4_; clear k4_
    refine Do.cond [1,2] rfl (fun g => ?_) (fun g => ?_) <;> simp [go_sem, hs] at g ⊢
    refine Do.seqk fun _ k5_ => ?_
    refine Do.region [2,3] true ?_
    simp [go_sem, hs]
    repeat (refine And.intro (by first | omega | (intros; omega) | (intros; exact And.intro (by assumption) (by omega)) | grind) ?_)
    apply k5_; clear k5_
    refine Do.ret ?_
    simp [endQ, rets, ret1, go_sem, hs]
    repeat (refine And.intro (by first | omega | (intros; omega) | (intros; exact And.intro (by assumption) (by omega)) | grind) ?_)
    exact TLe.t (.cons (PLe.flw (ret_zw rfl)) (.cons (PLe.refl _) .nil))
  · rw [if_neg h0]
    have hs : (z'.sign == 0) = false := by
      rw [beq_eq_false_iff_ne, ne_eq, Int.sign_eq_zero_iff_zero]; exact h0
    have hl := len_bl (show bl z'.natAbs ≤ 2000000 by omega)
    have ht0 : t ≠ 0 := by
      intro e
      subst e
      have e := congrArg Int.natAbs h2.eq
      rw [Int.natAbs_mul, Int.natAbs_mul, Int.natAbs_natCast, Int.natAbs_natCast, Nat.pow_zero, Nat.mul_one] at e
      have h3 : 1 ≤ z'.natAbs := by omega
      have h4 : 1 * 2 ^ K ≤ z'.natAbs * 2 ^ K := Nat.mul_le_mul_right _ h3
      rw [Nat.one_mul] at h4
      exact absurd hw (Nat.not_lt.2 (by rw [← e]; exact h4))
    have hodd : tz z'.natAbs = 0 := by
      obtain ⟨m, hm⟩ := tz_form (show 0 < z'.natAbs by omega)
      by_cases h5 : tz z'.natAbs = 0
      · exact h5
      · have h6 : 2 ∣ z'.natAbs := by
          rw [hm, show tz z'.natAbs = tz z'.natAbs - 1 + 1 by omega, Nat.pow_succ, Nat.mul_comm (2 ^ _) 2, Nat.mul_assoc]
          exact Nat.dvd_mul_right _ _
        have h7 : 2 ∣ 2 ^ t := by
          rw [show t = t - 1 + 1 by omega, Nat.pow_succ]
          exact Nat.dvd_mul_left _ _
        have h8 := Nat.dvd_gcd h6 h7
        rw [h2.cop] at h8
        exact absurd (Nat.le_of_dvd (by decide) h8) (by decide)
    have hcan : (canon ⟨1, decide (z' < 0), -(t : Int), z'.natAbs⟩).2 = true := by
      unfold canon
      rw [if_neg (by simp only []; omega), if_neg (by simp only []; omega), if_pos rfl, if_neg (by simp only []; omega)]
      simp only [hodd, decide_eq_true_eq]
      omega
    have hG := @Good_does G 1 (-(t : Int)) (decide (z' < 0)) (nat z'.natAbs) (by omega) (nat_ws _)
    rw [val_nat, hcan] at hG
    have hC := @Canonical_new G 1 (-(t : Int)) (decide (z' < 0)) (nat z'.natAbs) (by omega) (nat_ws _) (by constructor <;> omega)
    rw [val_nat] at hC
    generalize rcanon ⟨1, decide (z' < 0), -(t : Int), z'.natAbs⟩ = y at *
    generalize z'.sign = sg at *
    refine Does.of (nt := 37) Tryz.func68 rfl rfl rfl (by simp) ?_
    simp only [argTm, PV.ext, Ce.ext]
    refine Do.seqk fun _ k1_ => ?_
    refine Do.region [1,2] true ?_
    simp [go_sem]
    apply k1_; clear k1_
    refine Do.seqk fun _ k2_ => ?_
    refine Do.region [1,2] true ?_
    simp [go_sem]
    repeat (refine And.intro (by first | omega | (intros; omega) | (intros; exact And.intro (by assumption) (by omega)) | grind) ?_)
    refine DoL.call true 102 rfl rfl rfl rfl (by first | exact trivial | omega | (simp; done) | (simp; omega)) (hN) rfl (by first | exact .inl rfl | exact .inr rfl) rfl ?_
    simp [go_sem]
    repeat (refine And.intro (by first | omega | (intros; omega) | (intros; exact And.intro (by assumption) (by omega)) | grind) ?_)
    apply k2_; clear k2_
    refine Do.seqk fun _ k3_ => ?_
    refine Do.seqk fun _ k4_ => ?_
    refine Do.region [1,2,11] true ?_
    simp [go_sem]
    repeat (refine And.intro (by first | omega | (intros; omega) | (intros; exact And.intro (by assumption) (by omega)) | grind) ?_)
    refine DoL.call true 202 rfl rfl rfl rfl (by first | exact trivial | omega | (simp; done) | (simp; omega)) (hS) rfl (by first | exact .inl rfl | exact .inr rfl) rfl ?_
    simp [go_sem]
    apply k4_; clear k4_
    refine Do.cond [1,2] rfl (fun g => ?_) (fun g => ?_) <;> simp [go_sem, hs] at g ⊢
    refine Do.skip ?_
    simp [go_sem]
    apply k3_; clear k3_
    refine Do.seqk fun _ k5_ => ?_
    refine Do.region [1,2,4,5] true ?_
    simp [go_sem, hs]
    repeat (refine And.intro (by first | omega | (intros; omega) | (intros; exact And.intro (by assumption) (by omega)) | grind) ?_)
    refine DoL.call true 403 rfl rfl rfl rfl (by first | exact trivial | omega | (simp; done) | (simp; omega)) (hB) rfl (by first | exact .inl rfl | exact .inr rfl) rfl ?_
    simp [go_sem, hs]
    apply k5_; clear k5_
    refine Do.seqk fun _ k6_ => ?_
    refine Do.seqk fun _ k7_ => ?_
    refine Do.region [1,2,4,20] true ?_
    simp [go_sem, hs]
    apply k7_; clear k7_
    refine Do.cond [1,2,4] rfl (fun g2 => ?_) (fun g2 => ?_) <;> simp [go_sem, hs] at g2 ⊢
    refine Do.skip ?_
    simp [go_sem]
    apply k6_; clear k6_
    refine Do.seqk fun _ k8_ => ?_
    refine Do.region [2,6] true ?_
    simp [go_sem, hs]
    repeat (refine And.intro (by first | omega | (intros; omega) | (intros; exact And.intro (by assumption) (by omega)) | grind) ?_)
    apply k8_; clear k8_
    refine Do.seqk fun _ k9_ => ?_
    refine Do.seqk fun _ k10_ => ?_
    refine Do.region [2,6,33] true ?_
    simp [go_sem, hs]
    repeat (refine And.intro (by first | omega | (intros; omega) | (intros; exact And.intro (by assumption) (by omega)) | grind) ?_)
    refine DoL.call true 802 rfl rfl rfl rfl (by first | exact trivial | omega | (simp; done) | (simp; omega)) (hG) rfl (by first | exact .inl rfl | exact .inr rfl) rfl ?_
    simp [go_sem, hs]
    repeat (refine And.intro (by first | omega | (intros; omega) | (intros; exact And.intro (by assumption) (by omega)) | grind) ?_)
    apply k10_; clear k10_
    refine Do.cond [2,6] rfl (fun g3 => ?_) (fun g3 => ?_) <;> simp [go_sem, hs] at g3 ⊢
    refine Do.skip ?_
    simp [go_sem]
    apply k9_; clear k9_
    refine Do.seqk fun _ k11_ => ?_
    refine Do.region [2,3] true ?_
    simp [go_sem, hs]
    repeat (refine And.intro (by first | omega | (intros; omega) | (intros; exact And.intro (by assumption) (by omega)) | grind) ?_)
    refine DoL.call true 1002 rfl rfl rfl rfl (by first | exact trivial | omega | (simp; done) | (simp; omega)) (hC) rfl (by first | exact .inl rfl | exact .inr rfl) rfl ?_
    simp [go_sem, hs]
    repeat (refine And.intro (by first | omega | (intros; omega) | (intros; exact And.intro (by assumption) (by omega)) | grind) ?_)
    apply k11_; clear k11_
    refine Do.ret ?_
    simp [endQ, rets, ret1, go_sem, hs]
    repeat (refine And.intro (by first | omega | (intros; omega) | (intros; exact And.intro (by assumption) (by omega)) | grind) ?_)
    exact TLe.refl _
theorem sub_of (a b c : Int) (h : b + c = a) : a - b = c := by omega
theorem part_low {f p : Int} {a : Flt} {K : Nat} (hK : -(K : Int) ≤ tiny f p) (h : remD (tiny f p) a ≠ 0) : restP (-(K : Int)) (fv (-K) (partP f p a)) = partP f p a := by
  rw [part_fv hK]
  unfold partP
  rw [if_neg h, show (tiny f p + (K : Int)).toNat = (tiny f p - -(K : Int)).toNat by omega]
  have e := @restP_low (tiny f p) (-(K : Int)) hK (remD (tiny f p) a)
  rw [← e]
  congr 2
theorem RParts_does {G : Gl} {f p : Int} (hf : fmOk f p = true) {x : Fla} (hx : Rt x) {a : Flt} (ha : rcanon x.flt = a) (hk : a.k = 1) (han : Fine a) (s1 : (bl a.v : Int) ≤ p) (s2 : tiny f p ≤ a.e) (s3 : a.e + bl a.v ≤ gOfE f + 1) : Does Tryz.prog G 37 [Fl x.k x.n x.e x.m] (.t [(fromP (truncZ a) a.n).pw, (partP f p a).pw]) := by
  have hlen := hx.len
  obtain ⟨b1, b2, b3, b4⟩ := fmOk_spec hf
  obtain ⟨b5, b6⟩ := gOfE_le b1 b2
  have htd : tiny f p = 1 - gOfE f - (p - 1) := rfl
  have hC := @Canonical_does G x.k x.e x.n x.m (by omega) hx.ws hx.md
  rw [show (⟨x.k, x.n, x.e, val x.m⟩ : Flt) = x.flt from rfl, ha] at hC
  have hfix : rcanon a = a := by rw [← ha]; exact rcanon_idem _
  have hT := @RToInt_does G 2 (by decide) (by decide) a.fla han.rt a (by rw [Flt.fla_flt]; exact hfix) (.inr hk)
  have hT : Does Tryz.prog G 28 [.c (.i .i64 2), Fl a.k a.n a.e (nat a.v)] (.t [Iv (truncZ a), .c (.i .i64 (if (wholeP 2 ⟨a.n, a.v, a.e⟩).2 then 0 else 1))]) := hT
  obtain ⟨za, da, r1, r2, r3⟩ := @FRatK G a.fla han.rt
  rw [Flt.fla_flt] at r2 r3
  have r1 : Does Tryz.prog G 40 [Fl a.k a.n a.e (nat a.v)] (.v (Qv za da)) := r1
  have hwb := wholeP_bl 2 ⟨a.n, a.v, a.e⟩
  simp only [] at hwb
  have hzb : bl (truncZ a).natAbs ≤ 1000000 := by show bl (sgn a.n (wholeP 2 ⟨a.n, a.v, a.e⟩).1).natAbs ≤ _; rw [sgn_abs]; omega
  have hW := @QWhole G (truncZ a) (by unfold Bz; omega)
  obtain ⟨q1, q2⟩ := @parts_fv f p a 1048576 hf hk s2 (by omega)
  have hw : fv (-(1048576 : Nat)) a - truncZ a * ((2 ^ 1048576 : Nat) : Int) = fv (-(1048576 : Nat)) (partP f p a) := by
    rw [from_fv] at q1
    exact sub_of _ _ _ q1
  have hbw : bl (truncZ a * ((2 ^ 1048576 : Nat) : Int)).natAbs ≤ 20000000 := by
    have h1 := bl_mulz (truncZ a) ((2 ^ 1048576 : Nat) : Int)
    have h2 := pow_bits 1048576
    omega
  obtain ⟨z3, d3, A1, A2⟩ := @QSub G _ _ _ _ _ _ _ r2 (Dq.whole 1048576 (truncZ a)) (by decide) (by omega) hbw
  rw [hw] at A2
  have hO := @ROf20_does G 1048576 z3 _ d3 A2 (Nat.le_refl _) q2 (by have := (bl_lt _ _).2 q2; omega)
  have hFr := @RFrom_does G (truncZ a) a.n hzb
  have hpk := part_kn f p a
  by_cases h0 : remD (tiny f p) a = 0
  · have hp : partP f p a = ⟨0, a.n, 0, 0⟩ := by unfold partP; rw [if_pos h0]
    have hz : fv (-(1048576 : Nat)) (partP f p a) = 0 := by rw [hp]; rfl
    rw [hz] at hO
    have hO : Does Tryz.prog G 68 [Qv z3 d3] (.t [Flt.pw ⟨0, false, 0, 0⟩, .c (.b true)]) := hO
    rw [hp]
    generalize (if (wholeP 2 ⟨a.n, a.v, a.e⟩).2 = true then (0 : Int) else 1) = fl at *
    generalize fromP (truncZ a) a.n = y at *
    generalize truncZ a = z at *
    refine Does.of (nt := 44) Tryz.func37 rfl rfl rfl (by simp) ?_
    simp only [argTm, PV.ext, Ce.ext]
    refine Do.seqk fun _ k1_ => ?_
    refine Do.region [1,2,3] true ?_
    simp [go_sem]
    apply k1_; clear k1_
    refine Do.seqk fun _ k2_ => ?_
    refine Do.region [1,2,3] true ?_
    simp [go_sem]
    repeat (refine And.intro (by first | omega | (intros; omega) | (intros; exact And.intro (by assumption) (by omega)) | grind) ?_)
    refine DoL.call true 102 rfl rfl rfl rfl (by first | exact trivial | omega | (simp; done) | (simp; omega)) (hC) rfl (by first | exact .inl rfl | exact .inr rfl) rfl ?_
    simp [go_sem]
    repeat (refine And.intro (by first | omega | (intros; omega) | (intros; exact And.intro (by assumption) (by omega)) | grind) ?_)
    apply k2_; clear k2_
    refine Do.seqk fun _ k3_ => ?_
    refine Do.region [1,2,3,4] true ?_
    simp [go_sem]
    repeat (refine And.intro (by first | omega | (intros; omega) | (intros; exact And.intro (by assumption) (by omega)) | grind) ?_)
    apply k3_; clear k3_
    refine Do.seqk fun _ k4_ => ?_
    refine Do.seqk fun _ k5_ => ?_
    refine Do.region [1,2,3,4,17] true ?_
    simp [go_sem]
    repeat (refine And.intro (by first | omega | (intros; omega) | (intros; exact And.intro (by assumption) (by omega)) | grind) ?_)
    apply k5_; clear k5_
    refine Do.cond [1,2,3,4] rfl (fun g => ?_) (fun g => ?_) <;> simp [go_sem] at g ⊢
    · exact absurd hk g
    · refine Do.skip ?_
      simp [go_sem]
      apply k4_; clear k4_
      refine Do.seqk fun _ k6_ => ?_
      refine Do.region [1,2,3,4,5] true ?_
      simp [go_sem]
      repeat (refine And.intro (by first | omega | (intros; omega) | (intros; exact And.intro (by assumption) (by omega)) | grind) ?_)
      refine DoL.call true 502 rfl rfl rfl rfl (by first | exact trivial | omega | (simp; done) | (simp; omega)) (hT) rfl (by first | exact .inl rfl | exact .inr rfl) rfl ?_
      simp [go_sem]
      repeat (refine And.intro (by first | omega | (intros; omega) | (intros; exact And.intro (by assumption) (by omega)) | grind) ?_)
      apply k6_; clear k6_
      refine Do.seqk fun _ k7_ => ?_
      refine Do.draw [1,2,3,4,5,7] true (by kernel_rfl) ?_
      simp [go_sem]
      repeat (refine And.intro (by first | omega | (intros; omega) | (intros; exact And.intro (by assumption) (by omega)) | kernel_rfl | grind) ?_)
      refine DoLD.call true 602 rfl rfl rfl rfl (by first | exact trivial | omega | (simp; done) | (simp; omega)) (r1) rfl (by first | exact .inl rfl | exact .inr rfl) rfl ?_
      simp [go_sem]
      repeat (refine And.intro (by first | omega | (intros; omega) | (intros; exact And.intro (by assumption) (by omega)) | kernel_rfl | grind) ?_)
      refine DoLD.call true 604 rfl rfl rfl rfl (by first | exact trivial | omega | (simp; done) | (simp; omega)) (hW) rfl (by first | exact .inl rfl | exact .inr rfl) rfl ?_
      simp [go_sem]
      refine DoLD.call true 605 rfl rfl rfl rfl (by first | exact trivial | omega | (simp; done) | (simp; omega)) (A1) rfl (by first | exact .inl rfl | exact .inr rfl) rfl ?_
      simp [go_sem]
      repeat (refine And.intro (by first | omega | (intros; omega) | (intros; exact And.intro (by assumption) (by omega)) | kernel_rfl | grind) ?_)
      try (refine And.intro (by kernel_rfl) ?_)
      apply k7_; clear k7_
      refine Do.seqk fun _ k8_ => ?_
      refine Do.region [1,2,3,4,5,8] true ?_
      simp [go_sem]
      repeat (refine And.intro (by first | omega | (intros; omega) | (intros; exact And.intro (by assumption) (by omega)) | grind) ?_)
      refine DoL.call true 702 rfl rfl rfl rfl (by first | exact trivial | omega | (simp; done) | (simp; omega)) (hO) rfl (by first | exact .inl rfl | exact .inr rfl) rfl ?_
      simp [go_sem]
      repeat (refine And.intro (by first | omega | (intros; omega) | (intros; exact And.intro (by assumption) (by omega)) | grind) ?_)
      apply k8_; clear k8_
      refine Do.seqk fun _ k9_ => ?_
      refine Do.seqk fun _ k10_ => ?_
      refine Do.region [1,2,3,4,5,8,37] true ?_
      simp [go_sem]
      repeat (refine And.intro (by first | omega | (intros; omega) | (intros; exact And.intro (by assumption) (by omega)) | grind) ?_)
      apply k10_; clear k10_
      refine Do.cond [1,2,3,4,5,8] rfl (fun g2 => ?_) (fun g2 => ?_) <;> simp [go_sem] at g2 ⊢
      refine Do.region [1,2,3,5,8] true ?_
      simp [go_sem]
      repeat (refine And.intro (by first | omega | (intros; omega) | (intros; exact And.intro (by assumption) (by omega)) | grind) ?_)
      apply k9_; clear k9_
      refine Do.seqk fun _ k11_ => ?_
      refine Do.draw [2,3] true (by kernel_rfl) ?_
      simp [go_sem]
      repeat (refine And.intro (by first | omega | (intros; omega) | (intros; exact And.intro (by assumption) (by omega)) | kernel_rfl | grind) ?_)
      refine DoLD.call true 1004 rfl rfl rfl rfl (by first | exact trivial | omega | (simp; done) | (simp; omega)) (hFr) rfl (by first | exact .inl rfl | exact .inr rfl) rfl ?_
      simp [go_sem]
      repeat (refine And.intro (by first | omega | (intros; omega) | (intros; exact And.intro (by assumption) (by omega)) | kernel_rfl | grind) ?_)
      try (refine And.intro (by kernel_rfl) ?_)
      apply k11_; clear k11_
      refine Do.ret ?_
      simp [endQ, rets, ret1, go_sem]
      repeat (refine And.intro (by first | omega | (intros; omega) | (intros; exact And.intro (by assumption) (by omega)) | grind) ?_)
      exact TLe.t (.cons (PLe.refl _) (.cons (PLe.flw (ret_zw rfl)) .nil))
  · have hlow := @part_low f p a 1048576 (by omega) h0
    rw [hlow] at hO
    have huk : (partP f p a).k = 1 := by
      rcases hpk.1 with h | h
      · exfalso
        unfold partP at h
        rw [if_neg h0] at h
        unfold restP at h
        rw [if_neg h0, rcanon_k] at h
        cases h
      · exact h
    generalize (if (wholeP 2 ⟨a.n, a.v, a.e⟩).2 = true then (0 : Int) else 1) = fl at *
    generalize fromP (truncZ a) a.n = y at *
    generalize truncZ a = z at *
    generalize partP f p a = u at *
    have huz : ¬ u.k = 0 := by omega
    refine Does.of (nt := 44) Tryz.func37 rfl rfl rfl (by simp) ?_
    simp only [argTm, PV.ext, Ce.ext]
    refine Do.seqk fun _ k1_ => ?_
    refine Do.region [1,2,3] true ?_
    simp [go_sem]
    apply k1_; clear k1_
    refine Do.seqk fun _ k2_ => ?_
    refine Do.region [1,2,3] true ?_
    simp [go_sem]
    repeat (refine And.intro (by first | omega | (intros; omega) | (intros; exact And.intro (by assumption) (by omega)) | grind) ?_)
    refine DoL.call true 102 rfl rfl rfl rfl (by first | exact trivial | omega | (simp; done) | (simp; omega)) (hC) rfl (by first | exact .inl rfl | exact .inr rfl) rfl ?_
    simp [go_sem]
    repeat (refine And.intro (by first | omega | (intros; omega) | (intros; exact And.intro (by assumption) (by omega)) | grind) ?_)
    apply k2_; clear k2_
    refine Do.seqk fun _ k3_ => ?_
    refine Do.region [1,2,3,4] true ?_
    simp [go_sem]
    repeat (refine And.intro (by first | omega | (intros; omega) | (intros; exact And.intro (by assumption) (by omega)) | grind) ?_)
    apply k3_; clear k3_
    refine Do.seqk fun _ k4_ => ?_
    refine Do.seqk fun _ k5_ => ?_
    refine Do.region [1,2,3,4,17] true ?_
    simp [go_sem]
    repeat (refine And.intro (by first | omega | (intros; omega) | (intros; exact And.intro (by assumption) (by omega)) | grind) ?_)
    apply k5_; clear k5_
    refine Do.cond [1,2,3,4] rfl (fun g => ?_) (fun g => ?_) <;> simp [go_sem] at g ⊢
    · exact absurd hk g
    · refine Do.skip ?_
      simp [go_sem]
      apply k4_; clear k4_
      refine Do.seqk fun _ k6_ => ?_
      refine Do.region [1,2,3,4,5] true ?_
      simp [go_sem]
      repeat (refine And.intro (by first | omega | (intros; omega) | (intros; exact And.intro (by assumption) (by omega)) | grind) ?_)
      refine DoL.call true 502 rfl rfl rfl rfl (by first | exact trivial | omega | (simp; done) | (simp; omega)) (hT) rfl (by first | exact .inl rfl | exact .inr rfl) rfl ?_
      simp [go_sem]
      repeat (refine And.intro (by first | omega | (intros; omega) | (intros; exact And.intro (by assumption) (by omega)) | grind) ?_)
      apply k6_; clear k6_
      refine Do.seqk fun _ k7_ => ?_
      refine Do.draw [1,2,3,4,5,7] true (by kernel_rfl) ?_
      simp [go_sem]
      repeat (refine And.intro (by first | omega | (intros; omega) | (intros; exact And.intro (by assumption) (by omega)) | kernel_rfl | grind) ?_)
      refine DoLD.call true 602 rfl rfl rfl rfl (by first | exact trivial | omega | (simp; done) | (simp; omega)) (r1) rfl (by first | exact .inl rfl | exact .inr rfl) rfl ?_
      simp [go_sem]
      repeat (refine And.intro (by first | omega | (intros; omega) | (intros; exact And.intro (by assumption) (by omega)) | kernel_rfl | grind) ?_)
      refine DoLD.call true 604 rfl rfl rfl rfl (by first | exact trivial | omega | (simp; done) | (simp; omega)) (hW) rfl (by first | exact .inl rfl | exact .inr rfl) rfl ?_
      simp [go_sem]
      refine DoLD.call true 605 rfl rfl rfl rfl (by first | exact trivial | omega | (simp; done) | (simp; omega)) (A1) rfl (by first | exact .inl rfl | exact .inr rfl) rfl ?_
      simp [go_sem]
      repeat (refine And.intro (by first | omega | (intros; omega) | (intros; exact And.intro (by assumption) (by omega)) | kernel_rfl | grind) ?_)
      try (refine And.intro (by kernel_rfl) ?_)
      apply k7_; clear k7_
      refine Do.seqk fun _ k8_ => ?_
      refine Do.region [1,2,3,4,5,8] true ?_
      simp [go_sem]
      repeat (refine And.intro (by first | omega | (intros; omega) | (intros; exact And.intro (by assumption) (by omega)) | grind) ?_)
      refine DoL.call true 702 rfl rfl rfl rfl (by first | exact trivial | omega | (simp; done) | (simp; omega)) (hO) rfl (by first | exact .inl rfl | exact .inr rfl) rfl ?_
      simp [go_sem]
      repeat (refine And.intro (by first | omega | (intros; omega) | (intros; exact And.intro (by assumption) (by omega)) | grind) ?_)
      apply k8_; clear k8_
      refine Do.seqk fun _ k9_ => ?_
      refine Do.seqk fun _ k10_ => ?_
      refine Do.region [1,2,3,4,5,8,37] true ?_
      simp [go_sem]
      repeat (refine And.intro (by first | omega | (intros; omega) | (intros; exact And.intro (by assumption) (by omega)) | grind) ?_)
      apply k10_; clear k10_
      refine Do.cond [1,2,3,4,5,8] rfl (fun g2 => ?_) (fun g2 => ?_) <;> simp [go_sem] at g2 ⊢
      · exact absurd g2 huz
      · refine Do.skip ?_
        simp [go_sem]
        apply k9_; clear k9_
        refine Do.seqk fun _ k11_ => ?_
        refine Do.draw [2,3] true (by kernel_rfl) ?_
        simp [go_sem]
        repeat (refine And.intro (by first | omega | (intros; omega) | (intros; exact And.intro (by assumption) (by omega)) | kernel_rfl | grind) ?_)
        refine DoLD.call true 1004 rfl rfl rfl rfl (by first | exact trivial | omega | (simp; done) | (simp; omega)) (hFr) rfl (by first | exact .inl rfl | exact .inr rfl) rfl ?_
        simp [go_sem]
        repeat (refine And.intro (by first | omega | (intros; omega) | (intros; exact And.intro (by assumption) (by omega)) | kernel_rfl | grind) ?_)
        try (refine And.intro (by kernel_rfl) ?_)
        apply k11_; clear k11_
        refine Do.ret ?_
        simp [endQ, rets, ret1, go_sem]
        repeat (refine And.intro (by first | omega | (intros; omega) | (intros; exact And.intro (by assumption) (by omega)) | grind) ?_)
        exact TLe.refl _
theorem RParts_other {G : Gl} {x : Fla} (hx : Rt x) {a : Flt} (ha : rcanon x.flt = a) (hk : a.k ≠ 1) : Does Tryz.prog G 37 [Fl x.k x.n x.e x.m] (.t [a.pv, Flt.pv ⟨0, a.n, 0, 0⟩]) := by
  have hlen := hx.len
  have hC := @Canonical_does G x.k x.e x.n x.m (by omega) hx.ws hx.md
  rw [show (⟨x.k, x.n, x.e, val x.m⟩ : Flt) = x.flt from rfl, ha] at hC
  refine Does.of (nt := 44) Tryz.func37 rfl rfl rfl (by simp) ?_
  simp only [argTm, PV.ext, Ce.ext]
  refine Do.seqk fun _ k1_ => ?_
  refine Do.region [1,2,3] true ?_
  simp [go_sem]
  apply k1_; clear k1_
  refine Do.seqk fun _ k2_ => ?_
  refine Do.region [1,2,3] true ?_
  simp [go_sem]
  repeat (refine And.intro (by first | omega | (intros; omega) | (intros; exact And.intro (by assumption) (by omega)) | grind) ?_)
  refine DoL.call true 102 rfl rfl rfl rfl (by first | exact trivial | omega | (simp; done) | (simp; omega)) (hC) rfl (by first | exact .inl rfl | exact .inr rfl) rfl ?_
  simp [go_sem]
  repeat (refine And.intro (by first | omega | (intros; omega) | (intros; exact And.intro (by assumption) (by omega)) | grind) ?_)
  apply k2_; clear k2_
  refine Do.seqk fun _ k3_ => ?_
  refine Do.region [1,2,3,4] true ?_
  simp [go_sem]
  repeat (refine And.intro (by first | omega | (intros; omega) | (intros; exact And.intro (by assumption) (by omega)) | grind) ?_)
  apply k3_; clear k3_
  refine Do.seqk fun _ k4_ => ?_
  refine Do.seqk fun _ k5_ => ?_
  refine Do.region [1,2,3,4,17] true ?_
  simp [go_sem]
  repeat (refine And.intro (by first | omega | (intros; omega) | (intros; exact And.intro (by assumption) (by omega)) | grind) ?_)
  apply k5_; clear k5_
  refine Do.cond [1,2,3,4] rfl (fun g => ?_) (fun g => ?_) <;> simp [go_sem] at g ⊢
  · refine Do.seqk fun _ k6_ => ?_
    refine Do.draw [2,3] true (by kernel_rfl) ?_
    simp [go_sem]
    repeat (refine And.intro (by first | omega | (intros; omega) | (intros; exact And.intro (by assumption) (by omega)) | kernel_rfl | grind) ?_)
    try (refine And.intro (by kernel_rfl) ?_)
    apply k6_; clear k6_
    refine Do.ret ?_
    simp [endQ, rets, ret1, go_sem]
    repeat (refine And.intro (by first | omega | (intros; omega) | (intros; exact And.intro (by assumption) (by omega)) | grind) ?_)
    exact TLe.t (.cons (PLe.refl _) (.cons (PLe.flt (ret_z rfl)) .nil))
  · exact absurd g hk
theorem Parts_other {f p : Int} {x : Fla} (hx : x.Ok) (he : argsC f p f p 2 false x = 0) {a : Flt} (ha : (holdsP f p x.flt).1 = a) (hk : a.k ≠ 1) : (a.k = 3 → Does Tryz.prog Gv 34 [Fm f p, Fl x.k x.n x.e x.m] (.t [Flt.pv ⟨0, false, 0, 0⟩, Flt.pv ⟨0, false, 0, 0⟩, .c (.i .i64 4)])) ∧ (a.k ≠ 3 → Does Tryz.prog Gv 34 [Fm f p, Fl x.k x.n x.e x.m] (.t [a.pv, Flt.pv ⟨0, a.n, 0, 0⟩, .c (.i .i64 0)])) := by
  have hA := @cargs_does f p f p 2 false x hx
  rw [if_pos he, he, ha] at hA
  refine ⟨fun h3 => ?_, fun h3 => ?_⟩
  · skip
    refine Does.of (nt := 67) Tryz.func34 rfl rfl rfl (by simp) ?_
    simp only [argTm, PV.ext, Ce.ext]
    refine Do.seqk fun _ k1_ => ?_
    refine Do.region [2,3,4,5] true ?_
    simp [go_sem]
    apply k1_; clear k1_
    refine Do.seqk fun _ k2_ => ?_
    refine Do.region [2,3,4,5,6] true ?_
    simp [go_sem]
    repeat (refine And.intro (by first | omega | (intros; omega) | (intros; exact And.intro (by assumption) (by omega)) | grind) ?_)
    refine DoL.call true 104 rfl rfl rfl rfl (by first | exact trivial | omega | (simp; done) | (simp; omega)) (hA) rfl (by first | exact .inl rfl | exact .inr rfl) rfl ?_
    simp [go_sem]
    repeat (refine And.intro (by first | omega | (intros; omega) | (intros; exact And.intro (by assumption) (by omega)) | grind) ?_)
    apply k2_; clear k2_
    refine Do.seqk fun _ k3_ => ?_
    refine Do.region [2,3,4,5,6,7] true ?_
    simp [go_sem]
    repeat (refine And.intro (by first | omega | (intros; omega) | (intros; exact And.intro (by assumption) (by omega)) | grind) ?_)
    apply k3_; clear k3_
    refine Do.seqk fun _ k4_ => ?_
    refine Do.block ?_
    refine Do.seqk fun _ k5_ => ?_
    refine Do.region [2,3,4,5,6,7,20] true ?_
    simp [go_sem]
    apply k5_; clear k5_
    refine Do.cond [2,3,4,5,6,7] rfl (fun g1 => ?_) (fun g1 => ?_) <;> simp [go_sem] at g1 ⊢
    refine Do.seqk fun _ k6_ => ?_
    refine Do.region [2,3,4,5,7,26] true ?_
    simp [go_sem]
    repeat (refine And.intro (by first | omega | (intros; omega) | (intros; exact And.intro (by assumption) (by omega)) | grind) ?_)
    apply k6_; clear k6_
    refine Do.cond [2,3,4,5,7] rfl (fun g2 => ?_) (fun g2 => ?_) <;> simp [go_sem] at g2 ⊢
    · refine Do.seqk fun _ k7_ => ?_
      refine Do.region [4,5,6] true ?_
      simp [go_sem]
      repeat (refine And.intro (by first | omega | (intros; omega) | (intros; exact And.intro (by assumption) (by omega)) | grind) ?_)
      apply k7_; clear k7_
      refine Do.ret ?_
      simp [endQ, rets, ret1, go_sem]
      repeat (refine And.intro (by first | omega | (intros; omega) | (intros; exact And.intro (by assumption) (by omega)) | grind) ?_)
      exact TLe.t (.cons (PLe.flt (ret_z rfl)) (.cons (PLe.flt (ret_z rfl)) (.cons (PLe.refl _) .nil)))
    · exact absurd h3 g2
  · skip
    refine Does.of (nt := 67) Tryz.func34 rfl rfl rfl (by simp) ?_
    simp only [argTm, PV.ext, Ce.ext]
    refine Do.seqk fun _ k1_ => ?_
    refine Do.region [2,3,4,5] true ?_
    simp [go_sem]
    apply k1_; clear k1_
    refine Do.seqk fun _ k2_ => ?_
    refine Do.region [2,3,4,5,6] true ?_
    simp [go_sem]
    repeat (refine And.intro (by first | omega | (intros; omega) | (intros; exact And.intro (by assumption) (by omega)) | grind) ?_)
    refine DoL.call true 104 rfl rfl rfl rfl (by first | exact trivial | omega | (simp; done) | (simp; omega)) (hA) rfl (by first | exact .inl rfl | exact .inr rfl) rfl ?_
    simp [go_sem]
    repeat (refine And.intro (by first | omega | (intros; omega) | (intros; exact And.intro (by assumption) (by omega)) | grind) ?_)
    apply k2_; clear k2_
    refine Do.seqk fun _ k3_ => ?_
    refine Do.region [2,3,4,5,6,7] true ?_
    simp [go_sem]
    repeat (refine And.intro (by first | omega | (intros; omega) | (intros; exact And.intro (by assumption) (by omega)) | grind) ?_)
    apply k3_; clear k3_
    refine Do.seqk fun _ k4_ => ?_
    refine Do.block ?_
    refine Do.seqk fun _ k5_ => ?_
    refine Do.region [2,3,4,5,6,7,20] true ?_
    simp [go_sem]
    apply k5_; clear k5_
    refine Do.cond [2,3,4,5,6,7] rfl (fun g1 => ?_) (fun g1 => ?_) <;> simp [go_sem] at g1 ⊢
    refine Do.seqk fun _ k6_ => ?_
    refine Do.region [2,3,4,5,7,26] true ?_
    simp [go_sem]
    repeat (refine And.intro (by first | omega | (intros; omega) | (intros; exact And.intro (by assumption) (by omega)) | grind) ?_)
    apply k6_; clear k6_
    refine Do.cond [2,3,4,5,7] rfl (fun g2 => ?_) (fun g2 => ?_) <;> simp [go_sem] at g2 ⊢
    · exact absurd g2 h3
    · refine Do.seqk fun _ k7_ => ?_
      refine Do.region [2,3,4,5,7,32] true ?_
      simp [go_sem]
      repeat (refine And.intro (by first | omega | (intros; omega) | (intros; exact And.intro (by assumption) (by omega)) | grind) ?_)
      apply k7_; clear k7_
      refine Do.cond [2,3,4,5,7] rfl (fun g3 => ?_) (fun g3 => ?_) <;> simp [go_sem] at g3 ⊢
      · refine Do.seqk fun _ k8_ => ?_
        refine Do.draw [4,5,6] true (by kernel_rfl) ?_
        simp [go_sem]
        repeat (refine And.intro (by first | omega | (intros; omega) | (intros; exact And.intro (by assumption) (by omega)) | kernel_rfl | grind) ?_)
        try (refine And.intro (by kernel_rfl) ?_)
        apply k8_; clear k8_
        refine Do.ret ?_
        simp [endQ, rets, ret1, go_sem]
        repeat (refine And.intro (by first | omega | (intros; omega) | (intros; exact And.intro (by assumption) (by omega)) | grind) ?_)
        exact TLe.t (.cons (PLe.refl _) (.cons (PLe.flt (ret_z rfl)) (.cons (PLe.refl _) .nil)))
      · exact absurd g3 hk
theorem argsE_zero2 (f p : Int) (x : Fla) : argsE f p 0 false [x] = argsC f p f p 2 false x := by
  rw [argsC_same]
  unfold argsE
  simp
theorem ConvertParts_does {f p : Int} {x : Fla} (hx : Ws x.m) (ex : I64 x.e) : Does Tryz.prog Gv 8 [Fm f p, Fl x.k x.n x.e x.m] (.v (.c (.b true))) := by
  have hS : Does Tryz.prog Gv 10 [.s false [x.cs]] (.v (.c (.b (shortP [x])))) := Short15_does (l := [x]) (by simp)
  cases hs : shortP [x] with
  | false =>
    rw [hs] at hS
    refine Does.of (nt := 73) Tryz.func8 rfl rfl rfl (by simp) ?_
    simp only [argTm, PV.ext, Ce.ext]
    refine Do.seqk fun _ k1_ => ?_
    refine Do.region [2,3] true ?_
    simp [go_sem]
    apply k1_; clear k1_
    refine Do.seqk fun _ k2_ => ?_
    refine Do.seqk fun _ k3_ => ?_
    refine Do.region [2,3,14] true ?_
    simp [go_sem]
    repeat (refine And.intro (by first | omega | (intros; omega) | (intros; exact And.intro (by assumption) (by omega)) | grind) ?_)
    refine DoL.sealS true 102 101 rfl ?_
    simp [go_sem]
    refine DoL.call true 103 rfl rfl rfl rfl (by first | exact trivial | omega | (simp; done) | (simp; omega)) (hS) rfl (by first | exact .inl rfl | exact .inr rfl) rfl ?_
    simp [go_sem]
    repeat (refine And.intro (by first | omega | (intros; omega) | (intros; exact And.intro (by assumption) (by omega)) | grind) ?_)
    apply k3_; clear k3_
    refine Do.cond [2,3] rfl (fun h => ?_) (fun h => ?_) <;> simp [go_sem] at h ⊢
    refine Do.seqk fun _ k4_ => ?_
    refine Do.region [4] true ?_
    simp [go_sem]
    refine DoL.call true 201 rfl rfl rfl rfl (by first | exact trivial | omega | (simp; done) | (simp; omega)) (awake20_does) rfl (by first | exact .inl rfl | exact .inr rfl) rfl ?_
    simp [go_sem]
    apply k4_; clear k4_
    refine Do.ret ?_
    simp [endQ, rets, ret1, go_sem]
    repeat (refine And.intro (by first | omega | (intros; omega) | (intros; exact And.intro (by assumption) (by omega)) | grind) ?_)
    exact TLe.refl _
  | true =>
    rw [hs] at hS
    have hsx : x.m.length ≤ 40 := by simpa [shortP] using hs
    have ox : x.Ok := ⟨by simp [Sh]; omega, hx, ex⟩
    have hC : Does Tryz.prog Gv 35 [Fm f p, .s false [x.cs]] (.int .i64 (argsE f p 0 false [x])) := @RCheck_does Gv f p [x] (by simp) (by simp [ox])
    have hN := @None_does Gv 0 0 false [] (by simp [Sh])
    rw [argsE_zero2] at hC
    by_cases he : argsC f p f p 2 false x = 0
    · rw [he] at hC
      obtain ⟨h1, h2, h3, h4, h5, h6, h7⟩ := argsC_zero he
      have hrt := held_rt (f := f) (p := p) (l := [x]) (by simpa [allHold] using h7) (by simp [ox]) (by simpa using h1) x (by simp)
      have hra := (held_rcanon h7).1
      have hsb := held_fin20 h7
      obtain ⟨f1, f2⟩ := held_fine20 h5 h7
      obtain ⟨a, ha⟩ : ∃ a, (holdsP f p x.flt).1 = a := ⟨_, rfl⟩
      rw [ha] at hra hsb f1 f2
      have hak : a.k = x.k := by rw [← hra, rcanon_k]; rfl
      have hI1 := @LIs_same Gv a f1 f2
      by_cases hk : a.k = 1
      · obtain ⟨s1, s2, s3⟩ := hsb hk
        have hP := @Parts_does f p x ox he a ha hk
        have hR := @RParts_does Gv f p h5 x hrt a hra hk f1 s1 s2 s3
        have hps := held_pos h7 (by rw [ha]; exact hk)
        rw [ha] at hps
        obtain ⟨w1, w2⟩ := fromP_fine h5 (trunc_in h5 hps s1 s2 s3)
        obtain ⟨u1, u2, u3⟩ := part_fine h5 s1 s2 s3
        have hI1 := @LIs_same Gv _ w1 w2
        have hI2 := @LIs_same Gv _ u1 u2
        generalize fromP (truncZ a) a.n = w at *
        generalize partP f p a = u at *
        have hx3 : ¬ x.k = 3 := by omega
        refine Does.of (nt := 73) Tryz.func8 rfl rfl rfl (by simp) ?_
        simp only [argTm, PV.ext, Ce.ext]
        refine Do.seqk fun _ k1_ => ?_
        refine Do.region [2,3] true ?_
        simp [go_sem]
        apply k1_; clear k1_
        refine Do.seqk fun _ k2_ => ?_
        refine Do.seqk fun _ k3_ => ?_
        refine Do.region [2,3,14] true ?_
        simp [go_sem]
        repeat (refine And.intro (by first | omega | (intros; omega) | (intros; exact And.intro (by assumption) (by omega)) | grind) ?_)
        refine DoL.sealS true 102 101 rfl ?_
        simp [go_sem]
        refine DoL.call true 103 rfl rfl rfl rfl (by first | exact trivial | omega | (simp; done) | (simp; omega)) (hS) rfl (by first | exact .inl rfl | exact .inr rfl) rfl ?_
        simp [go_sem]
        repeat (refine And.intro (by first | omega | (intros; omega) | (intros; exact And.intro (by assumption) (by omega)) | grind) ?_)
        apply k3_; clear k3_
        refine Do.cond [2,3] rfl (fun h => ?_) (fun h => ?_) <;> simp [go_sem] at h ⊢
        refine Do.skip ?_
        simp [go_sem]
        apply k2_; clear k2_
        refine Do.seqk fun _ k4_ => ?_
        refine Do.region [2,3,5,6,7] true ?_
        simp [go_sem]
        repeat (refine And.intro (by first | omega | (intros; omega) | (intros; exact And.intro (by assumption) (by omega)) | grind) ?_)
        refine DoL.call true 303 rfl rfl rfl rfl (by first | exact trivial | omega | (simp; done) | (simp; omega)) (hP) rfl (by first | exact .inl rfl | exact .inr rfl) rfl ?_
        simp [go_sem]
        repeat (refine And.intro (by first | omega | (intros; omega) | (intros; exact And.intro (by assumption) (by omega)) | grind) ?_)
        apply k4_; clear k4_
        refine Do.seqk fun _ k5_ => ?_
        refine Do.draw [3,5,6,7,8] true (by kernel_rfl) ?_
        simp [go_sem]
        repeat (refine And.intro (by first | omega | (intros; omega) | (intros; exact And.intro (by assumption) (by omega)) | kernel_rfl | grind) ?_)
        refine DoLD.call true 402 rfl rfl rfl rfl (by first | exact trivial | omega | (simp; done) | (simp; omega)) (Fmt_does) rfl (by first | exact .inl rfl | exact .inr rfl) rfl ?_
        simp [go_sem]
        repeat (refine And.intro (by first | omega | (intros; omega) | (intros; exact And.intro (by assumption) (by omega)) | kernel_rfl | grind) ?_)
        refine DoLD.call true 404 rfl rfl rfl rfl (by first | exact trivial | omega | (simp; done) | (simp; omega)) (Their_does) rfl (by first | exact .inl rfl | exact .inr rfl) rfl ?_
        simp [go_sem]
        refine DoLD.call true 406 rfl rfl rfl rfl (by first | exact trivial | omega | (simp; done) | (simp; omega)) (hC) rfl (by first | exact .inl rfl | exact .inr rfl) rfl ?_
        simp [go_sem]
        try (refine And.intro (by kernel_rfl) ?_)
        apply k5_; clear k5_
        refine Do.seqk fun _ k6_ => ?_
        refine Do.seqk fun _ k7_ => ?_
        refine Do.region [3,5,6,7,8,35] true ?_
        simp [go_sem]
        repeat (refine And.intro (by first | omega | (intros; omega) | (intros; exact And.intro (by assumption) (by omega)) | grind) ?_)
        apply k7_; clear k7_
        refine Do.cond [3,5,6,7,8] rfl (fun h => ?_) (fun h => ?_) <;> simp [go_sem] at h ⊢
        · exact absurd h hx3
        · refine Do.skip ?_
          simp [go_sem]
          apply k6_; clear k6_
          refine Do.seqk fun _ k8_ => ?_
          refine Do.seqk fun _ k9_ => ?_
          refine Do.region [3,5,6,7,8,37] true ?_
          simp [go_sem]
          apply k9_; clear k9_
          refine Do.cond [3,5,6,7,8] rfl (fun h => ?_) (fun h => ?_) <;> simp [go_sem] at h ⊢
          refine Do.skip ?_
          simp [go_sem]
          apply k8_; clear k8_
          refine Do.seqk fun _ k10_ => ?_
          refine Do.region [5,6,7,9,10] true ?_
          simp [go_sem]
          repeat (refine And.intro (by first | omega | (intros; omega) | (intros; exact And.intro (by assumption) (by omega)) | grind) ?_)
          refine DoL.call true 902 rfl rfl rfl rfl (by first | exact trivial | omega | (simp; done) | (simp; omega)) (Their_does) rfl (by first | exact .inl rfl | exact .inr rfl) rfl ?_
          simp [go_sem]
          refine DoL.call true 903 rfl rfl rfl rfl (by first | exact trivial | omega | (simp; done) | (simp; omega)) (hR) rfl (by first | exact .inl rfl | exact .inr rfl) rfl ?_
          simp [go_sem]
          repeat (refine And.intro (by first | omega | (intros; omega) | (intros; exact And.intro (by assumption) (by omega)) | grind) ?_)
          apply k10_; clear k10_
          refine Do.seqk fun _ k11_ => ?_
          refine Do.region [4] true ?_
          simp [go_sem]
          repeat (refine And.intro (by first | omega | (intros; omega) | (intros; exact And.intro (by assumption) (by omega)) | grind) ?_)
          refine DoL.callg true 1006 rfl rfl rfl rfl rfl (by simp [go_sem] <;> omega) (fun _ => hI1) rfl (by first | exact .inl rfl | exact .inr rfl) rfl ?_
          simp [go_sem]
          repeat (refine And.intro (by first | omega | (intros; omega) | (intros; exact And.intro (by assumption) (by omega)) | grind) ?_)
          refine DoL.callg true 1011 rfl rfl rfl rfl rfl (by simp [go_sem] <;> omega) (fun _ => hI2) rfl (by first | exact .inl rfl | exact .inr rfl) rfl ?_
          simp [go_sem]
          refine DoL.callg true 1014 rfl rfl rfl rfl rfl (by simp [go_sem] <;> omega) (fun _ => awake20_does) rfl (by first | exact .inl rfl | exact .inr rfl) rfl ?_
          simp [go_sem]
          apply k11_; clear k11_
          refine Do.ret ?_
          simp [endQ, rets, ret1, go_sem]
          repeat (refine And.intro (by first | omega | (intros; omega) | (intros; exact And.intro (by assumption) (by omega)) | grind) ?_)
          exact TLe.refl _
      · obtain ⟨p1, p2⟩ := @Parts_other f p x ox he a ha hk
        by_cases h3 : a.k = 3
        · have p1 : Does Tryz.prog Gv 34 [Fm f p, Fl x.k x.n x.e x.m] (.t [Fl 0 false 0 (nat 0), Fl 0 false 0 (nat 0), .c (.i .i64 4)]) := p1 h3
          rw [nat_zero] at p1
          have hx3 : x.k = 3 := by omega
          refine Does.of (nt := 73) Tryz.func8 rfl rfl rfl (by simp) ?_
          simp only [argTm, PV.ext, Ce.ext]
          refine Do.seqk fun _ k1_ => ?_
          refine Do.region [2,3] true ?_
          simp [go_sem]
          apply k1_; clear k1_
          refine Do.seqk fun _ k2_ => ?_
          refine Do.seqk fun _ k3_ => ?_
          refine Do.region [2,3,14] true ?_
          simp [go_sem]
          repeat (refine And.intro (by first | omega | (intros; omega) | (intros; exact And.intro (by assumption) (by omega)) | grind) ?_)
          refine DoL.sealS true 102 101 rfl ?_
          simp [go_sem]
          refine DoL.call true 103 rfl rfl rfl rfl (by first | exact trivial | omega | (simp; done) | (simp; omega)) (hS) rfl (by first | exact .inl rfl | exact .inr rfl) rfl ?_
          simp [go_sem]
          repeat (refine And.intro (by first | omega | (intros; omega) | (intros; exact And.intro (by assumption) (by omega)) | grind) ?_)
          apply k3_; clear k3_
          refine Do.cond [2,3] rfl (fun h => ?_) (fun h => ?_) <;> simp [go_sem] at h ⊢
          refine Do.skip ?_
          simp [go_sem]
          apply k2_; clear k2_
          refine Do.seqk fun _ k4_ => ?_
          refine Do.region [2,3,5,6,7] true ?_
          simp [go_sem]
          repeat (refine And.intro (by first | omega | (intros; omega) | (intros; exact And.intro (by assumption) (by omega)) | grind) ?_)
          refine DoL.call true 303 rfl rfl rfl rfl (by first | exact trivial | omega | (simp; done) | (simp; omega)) (p1) rfl (by first | exact .inl rfl | exact .inr rfl) rfl ?_
          simp [go_sem]
          repeat (refine And.intro (by first | omega | (intros; omega) | (intros; exact And.intro (by assumption) (by omega)) | grind) ?_)
          apply k4_; clear k4_
          refine Do.seqk fun _ k5_ => ?_
          refine Do.draw [3,5,6,7,8] true (by kernel_rfl) ?_
          simp [go_sem]
          repeat (refine And.intro (by first | omega | (intros; omega) | (intros; exact And.intro (by assumption) (by omega)) | kernel_rfl | grind) ?_)
          refine DoLD.call true 402 rfl rfl rfl rfl (by first | exact trivial | omega | (simp; done) | (simp; omega)) (Fmt_does) rfl (by first | exact .inl rfl | exact .inr rfl) rfl ?_
          simp [go_sem]
          repeat (refine And.intro (by first | omega | (intros; omega) | (intros; exact And.intro (by assumption) (by omega)) | kernel_rfl | grind) ?_)
          refine DoLD.call true 404 rfl rfl rfl rfl (by first | exact trivial | omega | (simp; done) | (simp; omega)) (Their_does) rfl (by first | exact .inl rfl | exact .inr rfl) rfl ?_
          simp [go_sem]
          refine DoLD.call true 406 rfl rfl rfl rfl (by first | exact trivial | omega | (simp; done) | (simp; omega)) (hC) rfl (by first | exact .inl rfl | exact .inr rfl) rfl ?_
          simp [go_sem]
          try (refine And.intro (by kernel_rfl) ?_)
          apply k5_; clear k5_
          refine Do.seqk fun _ k6_ => ?_
          refine Do.seqk fun _ k7_ => ?_
          refine Do.region [3,5,6,7,8,35] true ?_
          simp [go_sem]
          repeat (refine And.intro (by first | omega | (intros; omega) | (intros; exact And.intro (by assumption) (by omega)) | grind) ?_)
          apply k7_; clear k7_
          refine Do.cond [3,5,6,7,8] rfl (fun h => ?_) (fun h => ?_) <;> simp [go_sem] at h ⊢
          · refine Do.region [3,5,6,7,8] true ?_
            simp [go_sem]
            apply k6_; clear k6_
            refine Do.seqk fun _ k8_ => ?_
            refine Do.seqk fun _ k9_ => ?_
            refine Do.region [3,5,6,7,8,37] true ?_
            simp [go_sem]
            apply k9_; clear k9_
            refine Do.cond [3,5,6,7,8] rfl (fun h => ?_) (fun h => ?_) <;> simp [go_sem] at h ⊢
            refine Do.seqk fun _ k10_ => ?_
            refine Do.region [4] true ?_
            simp [go_sem]
            repeat (refine And.intro (by first | omega | (intros; omega) | (intros; exact And.intro (by assumption) (by omega)) | grind) ?_)
            refine DoL.callg true 806 rfl rfl rfl rfl rfl (by simp [go_sem] <;> omega) (fun _ => hN) rfl (by first | exact .inl rfl | exact .inr rfl) rfl ?_
            simp [go_sem]
            repeat (refine And.intro (by first | omega | (intros; omega) | (intros; exact And.intro (by assumption) (by omega)) | grind) ?_)
            refine DoL.callg true 810 rfl rfl rfl rfl rfl (by simp [go_sem] <;> omega) (fun _ => hN) rfl (by first | exact .inl rfl | exact .inr rfl) rfl ?_
            simp [go_sem]
            refine DoL.callg true 813 rfl rfl rfl rfl rfl (by simp [go_sem] <;> omega) (fun _ => awake20_does) rfl (by first | exact .inl rfl | exact .inr rfl) rfl ?_
            simp [go_sem]
            apply k10_; clear k10_
            refine Do.ret ?_
            simp [endQ, rets, ret1, go_sem]
            repeat (refine And.intro (by first | omega | (intros; omega) | (intros; exact And.intro (by assumption) (by omega)) | grind) ?_)
            exact TLe.refl _
          · exact absurd hx3 h
        · have p2 := p2 h3
          have hR := @RParts_other Gv x hrt a hra hk
          have hI2 := @LIs_same Gv ⟨0, a.n, 0, 0⟩ fine_zero rfl
          have hx3 : ¬ x.k = 3 := by omega
          refine Does.of (nt := 73) Tryz.func8 rfl rfl rfl (by simp) ?_
          simp only [argTm, PV.ext, Ce.ext]
          refine Do.seqk fun _ k1_ => ?_
          refine Do.region [2,3] true ?_
          simp [go_sem]
          apply k1_; clear k1_
          refine Do.seqk fun _ k2_ => ?_
          refine Do.seqk fun _ k3_ => ?_
          refine Do.region [2,3,14] true ?_
          simp [go_sem]
          repeat (refine And.intro (by first | omega | (intros; omega) | (intros; exact And.intro (by assumption) (by omega)) | grind) ?_)
          refine DoL.sealS true 102 101 rfl ?_
          simp [go_sem]
          refine DoL.call true 103 rfl rfl rfl rfl (by first | exact trivial | omega | (simp; done) | (simp; omega)) (hS) rfl (by first | exact .inl rfl | exact .inr rfl) rfl ?_
          simp [go_sem]
          repeat (refine And.intro (by first | omega | (intros; omega) | (intros; exact And.intro (by assumption) (by omega)) | grind) ?_)
          apply k3_; clear k3_
          refine Do.cond [2,3] rfl (fun h => ?_) (fun h => ?_) <;> simp [go_sem] at h ⊢
          refine Do.skip ?_
          simp [go_sem]
          apply k2_; clear k2_
          refine Do.seqk fun _ k4_ => ?_
          refine Do.region [2,3,5,6,7] true ?_
          simp [go_sem]
          repeat (refine And.intro (by first | omega | (intros; omega) | (intros; exact And.intro (by assumption) (by omega)) | grind) ?_)
          refine DoL.call true 303 rfl rfl rfl rfl (by first | exact trivial | omega | (simp; done) | (simp; omega)) (p2) rfl (by first | exact .inl rfl | exact .inr rfl) rfl ?_
          simp [go_sem]
          repeat (refine And.intro (by first | omega | (intros; omega) | (intros; exact And.intro (by assumption) (by omega)) | grind) ?_)
          apply k4_; clear k4_
          refine Do.seqk fun _ k5_ => ?_
          refine Do.draw [3,5,6,7,8] true (by kernel_rfl) ?_
          simp [go_sem]
          repeat (refine And.intro (by first | omega | (intros; omega) | (intros; exact And.intro (by assumption) (by omega)) | kernel_rfl | grind) ?_)
          refine DoLD.call true 402 rfl rfl rfl rfl (by first | exact trivial | omega | (simp; done) | (simp; omega)) (Fmt_does) rfl (by first | exact .inl rfl | exact .inr rfl) rfl ?_
          simp [go_sem]
          repeat (refine And.intro (by first | omega | (intros; omega) | (intros; exact And.intro (by assumption) (by omega)) | kernel_rfl | grind) ?_)
          refine DoLD.call true 404 rfl rfl rfl rfl (by first | exact trivial | omega | (simp; done) | (simp; omega)) (Their_does) rfl (by first | exact .inl rfl | exact .inr rfl) rfl ?_
          simp [go_sem]
          refine DoLD.call true 406 rfl rfl rfl rfl (by first | exact trivial | omega | (simp; done) | (simp; omega)) (hC) rfl (by first | exact .inl rfl | exact .inr rfl) rfl ?_
          simp [go_sem]
          try (refine And.intro (by kernel_rfl) ?_)
          apply k5_; clear k5_
          refine Do.seqk fun _ k6_ => ?_
          refine Do.seqk fun _ k7_ => ?_
          refine Do.region [3,5,6,7,8,35] true ?_
          simp [go_sem]
          repeat (refine And.intro (by first | omega | (intros; omega) | (intros; exact And.intro (by assumption) (by omega)) | grind) ?_)
          apply k7_; clear k7_
          refine Do.cond [3,5,6,7,8] rfl (fun h => ?_) (fun h => ?_) <;> simp [go_sem] at h ⊢
          · exact absurd h hx3
          · refine Do.skip ?_
            simp [go_sem]
            apply k6_; clear k6_
            refine Do.seqk fun _ k8_ => ?_
            refine Do.seqk fun _ k9_ => ?_
            refine Do.region [3,5,6,7,8,37] true ?_
            simp [go_sem]
            apply k9_; clear k9_
            refine Do.cond [3,5,6,7,8] rfl (fun h => ?_) (fun h => ?_) <;> simp [go_sem] at h ⊢
            refine Do.skip ?_
            simp [go_sem]
            apply k8_; clear k8_
            refine Do.seqk fun _ k10_ => ?_
            refine Do.region [5,6,7,9,10] true ?_
            simp [go_sem]
            repeat (refine And.intro (by first | omega | (intros; omega) | (intros; exact And.intro (by assumption) (by omega)) | grind) ?_)
            refine DoL.call true 902 rfl rfl rfl rfl (by first | exact trivial | omega | (simp; done) | (simp; omega)) (Their_does) rfl (by first | exact .inl rfl | exact .inr rfl) rfl ?_
            simp [go_sem]
            refine DoL.call true 903 rfl rfl rfl rfl (by first | exact trivial | omega | (simp; done) | (simp; omega)) (hR) rfl (by first | exact .inl rfl | exact .inr rfl) rfl ?_
            simp [go_sem]
            repeat (refine And.intro (by first | omega | (intros; omega) | (intros; exact And.intro (by assumption) (by omega)) | grind) ?_)
            apply k10_; clear k10_
            refine Do.seqk fun _ k11_ => ?_
            refine Do.region [4] true ?_
            simp [go_sem]
            repeat (refine And.intro (by first | omega | (intros; omega) | (intros; exact And.intro (by assumption) (by omega)) | grind) ?_)
            refine DoL.callg true 1006 rfl rfl rfl rfl rfl (by simp [go_sem] <;> omega) (fun _ => hI1) rfl (by first | exact .inl rfl | exact .inr rfl) rfl ?_
            simp [go_sem]
            repeat (refine And.intro (by first | omega | (intros; omega) | (intros; exact And.intro (by assumption) (by omega)) | grind) ?_)
            refine DoL.callg true 1011 rfl rfl rfl rfl rfl (by simp [go_sem] <;> omega) (fun _ => hI2) rfl (by first | exact .inl rfl | exact .inr rfl) rfl ?_
            simp [go_sem]
            refine DoL.callg true 1014 rfl rfl rfl rfl rfl (by simp [go_sem] <;> omega) (fun _ => awake20_does) rfl (by first | exact .inl rfl | exact .inr rfl) rfl ?_
            simp [go_sem]
            apply k11_; clear k11_
            refine Do.ret ?_
            simp [endQ, rets, ret1, go_sem]
            repeat (refine And.intro (by first | omega | (intros; omega) | (intros; exact And.intro (by assumption) (by omega)) | grind) ?_)
            exact TLe.refl _
    · have hP := @Parts_err f p x ox he
      generalize argsC f p f p 2 false x = ae at *
      have hP : Does Tryz.prog Gv 34 [Fm f p, Fl x.k x.n x.e x.m] (.t [Fl 0 false 0 (nat 0), Fl 0 false 0 (nat 0), .c (.i .i64 ae)]) := hP
      rw [nat_zero] at hP
      have hz : (ae != 0) = true := by simpa using he
      have hz2 : (ae == 0) = false := by simpa using he
      refine Does.of (nt := 73) Tryz.func8 rfl rfl rfl (by simp) ?_
      simp only [argTm, PV.ext, Ce.ext]
      refine Do.seqk fun _ k1_ => ?_
      refine Do.region [2,3] true ?_
      simp [go_sem]
      apply k1_; clear k1_
      refine Do.seqk fun _ k2_ => ?_
      refine Do.seqk fun _ k3_ => ?_
      refine Do.region [2,3,14] true ?_
      simp [go_sem]
      repeat (refine And.intro (by first | omega | (intros; omega) | (intros; exact And.intro (by assumption) (by omega)) | grind) ?_)
      refine DoL.sealS true 102 101 rfl ?_
      simp [go_sem]
      refine DoL.call true 103 rfl rfl rfl rfl (by first | exact trivial | omega | (simp; done) | (simp; omega)) (hS) rfl (by first | exact .inl rfl | exact .inr rfl) rfl ?_
      simp [go_sem]
      repeat (refine And.intro (by first | omega | (intros; omega) | (intros; exact And.intro (by assumption) (by omega)) | grind) ?_)
      apply k3_; clear k3_
      refine Do.cond [2,3] rfl (fun h => ?_) (fun h => ?_) <;> simp [go_sem] at h ⊢
      refine Do.skip ?_
      simp [go_sem]
      apply k2_; clear k2_
      refine Do.seqk fun _ k4_ => ?_
      refine Do.region [2,3,5,6,7] true ?_
      simp [go_sem]
      repeat (refine And.intro (by first | omega | (intros; omega) | (intros; exact And.intro (by assumption) (by omega)) | grind) ?_)
      refine DoL.call true 303 rfl rfl rfl rfl (by first | exact trivial | omega | (simp; done) | (simp; omega)) (hP) rfl (by first | exact .inl rfl | exact .inr rfl) rfl ?_
      simp [go_sem]
      repeat (refine And.intro (by first | omega | (intros; omega) | (intros; exact And.intro (by assumption) (by omega)) | grind) ?_)
      apply k4_; clear k4_
      refine Do.seqk fun _ k5_ => ?_
      refine Do.draw [3,5,6,7,8] true (by kernel_rfl) ?_
      simp [go_sem]
      repeat (refine And.intro (by first | omega | (intros; omega) | (intros; exact And.intro (by assumption) (by omega)) | kernel_rfl | grind) ?_)
      refine DoLD.call true 402 rfl rfl rfl rfl (by first | exact trivial | omega | (simp; done) | (simp; omega)) (Fmt_does) rfl (by first | exact .inl rfl | exact .inr rfl) rfl ?_
      simp [go_sem]
      repeat (refine And.intro (by first | omega | (intros; omega) | (intros; exact And.intro (by assumption) (by omega)) | kernel_rfl | grind) ?_)
      refine DoLD.call true 404 rfl rfl rfl rfl (by first | exact trivial | omega | (simp; done) | (simp; omega)) (Their_does) rfl (by first | exact .inl rfl | exact .inr rfl) rfl ?_
      simp [go_sem]
      refine DoLD.call true 406 rfl rfl rfl rfl (by first | exact trivial | omega | (simp; done) | (simp; omega)) (hC) rfl (by first | exact .inl rfl | exact .inr rfl) rfl ?_
      simp [go_sem]
      try (refine And.intro (by kernel_rfl) ?_)
      apply k5_; clear k5_
      refine Do.seqk fun _ k6_ => ?_
      refine Do.seqk fun _ k7_ => ?_
      refine Do.region [3,5,6,7,8,35] true ?_
      simp [go_sem, hz, hz2]
      repeat (refine And.intro (by first | omega | (intros; omega) | (intros; exact And.intro (by assumption) (by omega)) | grind) ?_)
      apply k7_; clear k7_
      refine Do.cond [3,5,6,7,8] rfl (fun h => ?_) (fun h => ?_) <;> simp [go_sem, hz, hz2] at h ⊢
      refine Do.skip ?_
      simp [go_sem]
      apply k6_; clear k6_
      refine Do.seqk fun _ k8_ => ?_
      refine Do.seqk fun _ k9_ => ?_
      refine Do.region [3,5,6,7,8,37] true ?_
      simp [go_sem, hz, hz2]
      apply k9_; clear k9_
      refine Do.cond [3,5,6,7,8] rfl (fun h => ?_) (fun h => ?_) <;> simp [go_sem, hz, hz2] at h ⊢
      refine Do.seqk fun _ k10_ => ?_
      refine Do.region [4] true ?_
      simp [go_sem, hz, hz2]
      repeat (refine And.intro (by first | omega | (intros; omega) | (intros; exact And.intro (by assumption) (by omega)) | grind) ?_)
      refine DoL.callg true 806 rfl rfl rfl rfl rfl (by simp [go_sem] <;> omega) (fun _ => hN) rfl (by first | exact .inl rfl | exact .inr rfl) rfl ?_
      simp [go_sem, hz, hz2]
      repeat (refine And.intro (by first | omega | (intros; omega) | (intros; exact And.intro (by assumption) (by omega)) | grind) ?_)
      refine DoL.callg true 810 rfl rfl rfl rfl rfl (by simp [go_sem] <;> omega) (fun _ => hN) rfl (by first | exact .inl rfl | exact .inr rfl) rfl ?_
      simp [go_sem, hz, hz2]
      refine DoL.callg true 813 rfl rfl rfl rfl rfl (by simp [go_sem] <;> omega) (fun _ => awake20_does) rfl (by first | exact .inl rfl | exact .inr rfl) rfl ?_
      simp [go_sem, hz, hz2]
      apply k10_; clear k10_
      refine Do.ret ?_
      simp [endQ, rets, ret1, go_sem, hz, hz2]
      repeat (refine And.intro (by first | omega | (intros; omega) | (intros; exact And.intro (by assumption) (by omega)) | grind) ?_)
      exact TLe.refl _
end Go.Proofs.YtokgalpflooegaaGreatDoor
