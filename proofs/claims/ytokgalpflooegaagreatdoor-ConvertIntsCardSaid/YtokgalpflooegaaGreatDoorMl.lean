/- The law ConvertInts holds, for every input: any integer of up to 40 words, rounded to any format, and any float, rounded to an integer, with their flags, or the error. Conditions: the two listed package variables hold what the program's text lays (tied by the card). -/
import Derived.Test.YtokgalpflooegaaGreatDoorMj
import Derived.Test.YtokgalpflooegaaGreatDoorMi
import Derived.Test.YtokgalpflooegaaGreatDoorMk
import Derived.KernelRfl
import Derived.Test.YtokgalpflooegaaGreatDoorCards
import Derived.Test.YtokgalpflooegaaGreatDoorTie
import Derived.SevenTiedAt
/- A rational number of the reference, rounded to an integer. No condition. -/
namespace Go.Proofs.YtokgalpflooegaaGreatDoor
set_option linter.unusedVariables false
set_option linter.unusedSimpArgs false
variable {G : Gl}
set_option maxHeartbeats 4000000
set_option maxRecDepth 10000
theorem RRatio_does {a d : Nat} (ha : bl a ≤ 50000000) (hd : bl d ≤ 50000000) (h0 : 0 < d) : Does Tryz.prog G 148 [Wd (nat a), Wd (nat d)] (.v (Pt (a * 2 / d / 2) (decide (a * 2 / d % 2 = 1)) (!decide (a * 2 % d = 0)))) := by
  have la := len_bl ha
  have ld := len_bl hd
  have h1 := @RLeft_does G (nat a) 1 (by omega) (nat_ws _) (by decide)
  rw [val_nat, Nat.pow_one] at h1
  have hb : bl (a * 2) ≤ 50000002 := by
    have := bl_mulN a 2
    have : bl 2 = 2 := by decide
    omega
  have l2 := len_bl hb
  have h2 := @RDivMod_does G (nat (a * 2)) (nat d) (by omega) (nat_ws _) (by omega) (nat_ws _) (by rw [val_nat]; exact h0)
  rw [val_nat, val_nat] at h2
  have l3 := len_bl (Nat.le_trans (bl_mono (Nat.div_le_self (a * 2) d)) hb)
  have l4 := len_bl (Nat.le_trans (bl_mono (Nat.mod_le (a * 2) d)) hb)
  have h3 := @RRight_does G (nat (a * 2 / d)) 1 (by omega) (nat_ws _) (by decide)
  have h4 := @RBit_does G (nat (a * 2 / d)) (by omega) (nat_ws _) 0 (by constructor <;> decide)
  have h5 := @IsZero_does G (nat (a * 2 % d)) (by omega) (nat_ws _)
  rw [val_nat] at h3 h4 h5
  simp only [Nat.pow_one, Int.toNat_zero, Nat.pow_zero, Nat.div_one, decide_true, Bool.true_and, Int.le_refl] at h3 h4 h5
  generalize a * 2 / d = q at *
  generalize a * 2 % d = w at *
  generalize a * 2 = a2 at *
  refine Does.of (nt := 22) Tryz.func148 rfl rfl rfl (by simp) ?_
  simp only [argTm, PV.ext, Ce.ext]
  refine Do.seqk fun _ k1_ => ?_
  refine Do.region [0,1,4] true ?_
  simp [go_sem]
  apply k1_; clear k1_
  refine Do.seqk fun _ k2_ => ?_
  refine Do.region [4,5,6] true ?_
  simp [go_sem]
  refine DoL.call true 102 rfl rfl rfl rfl (by first | exact trivial | omega | (simp; done) | (simp; omega)) (h1) rfl (by first | exact .inl rfl | exact .inr rfl) rfl ?_
  simp [go_sem]
  refine DoL.call true 104 rfl rfl rfl rfl (by first | exact trivial | omega | (simp; done) | (simp; omega)) (h2) rfl (by first | exact .inl rfl | exact .inr rfl) rfl ?_
  simp [go_sem]
  apply k2_; clear k2_
  refine Do.seqk fun _ k3_ => ?_
  refine Do.region [4] true ?_
  simp [go_sem]
  refine DoL.call true 202 rfl rfl rfl rfl (by first | exact trivial | omega | (simp; done) | (simp; omega)) (h3) rfl (by first | exact .inl rfl | exact .inr rfl) rfl ?_
  simp [go_sem]
  refine DoL.call true 204 rfl rfl rfl rfl (by first | exact trivial | omega | (simp; done) | (simp; omega)) (h4) rfl (by first | exact .inl rfl | exact .inr rfl) rfl ?_
  simp [go_sem]
  refine DoL.call true 206 rfl rfl rfl rfl (by first | exact trivial | omega | (simp; done) | (simp; omega)) (h5) rfl (by first | exact .inl rfl | exact .inr rfl) rfl ?_
  simp [go_sem]
  repeat (refine And.intro (by first | omega | (intros; omega) | (intros; exact And.intro (by assumption) (by omega)) | grind) ?_)
  apply k3_; clear k3_
  refine Do.ret ?_
  simp [endQ, rets, ret1, go_sem]
  repeat (refine And.intro (by first | omega | (intros; omega) | (intros; exact And.intro (by assumption) (by omega)) | grind) ?_)
  exact pt_le (PLe.ext (.c (.w true _)))
theorem sv_nat (x : Nu) (z : Int) : (x.sv z).natAbs = x.v * 2 ^ (x.e - z).toNat := by
  unfold Nu.sv
  generalize x.v * 2 ^ (x.e - z).toNat = u
  split <;> omega
theorem whole_ratio {x : Nu} {K : Nat} {z : Int} {d : Nat} (hK : -(K : Int) ≤ x.e) (hD : Dq K z d (x.sv (-K))) :
    z.natAbs * 2 / d / 2 = (cutP x.v (-x.e) false).1 ∧ pcode (decide (z.natAbs * 2 / d % 2 = 1)) (!decide (z.natAbs * 2 % d = 0)) = (cutP x.v (-x.e) false).2 := by
  have h1 : z.natAbs * 2 ^ K = x.v * 2 ^ (x.e - -(K : Int)).toNat * d := by
    have := congrArg Int.natAbs hD.eq
    rw [Int.natAbs_mul, Int.natAbs_mul, sv_nat] at this
    exact this
  have hd := hD.pos
  have hP : 0 < 2 ^ K := Nat.pow_pos (by decide)
  have hmul : z.natAbs * 2 * 2 ^ K = x.v * 2 ^ (x.e - -(K : Int)).toNat * 2 * d := by
    rw [Nat.mul_right_comm, h1, Nat.mul_right_comm]
  have e1 : z.natAbs * 2 / d = x.v * 2 ^ (x.e - -(K : Int)).toNat * 2 / 2 ^ K := by
    rw [← Nat.mul_div_mul_right (z.natAbs * 2) d hP, hmul, Nat.mul_comm d (2 ^ K), Nat.mul_div_mul_right _ _ hd]
  have e2 : z.natAbs * 2 % d = 0 ↔ x.v * 2 ^ (x.e - -(K : Int)).toNat * 2 % 2 ^ K = 0 := by
    have a1 := Nat.mul_mod_mul_right (2 ^ K) (z.natAbs * 2) d
    have a2 := Nat.mul_mod_mul_right d (x.v * 2 ^ (x.e - -(K : Int)).toNat * 2) (2 ^ K)
    rw [hmul, Nat.mul_comm d (2 ^ K), a2] at a1
    constructor
    · intro h
      rw [h, Nat.zero_mul] at a1
      rcases Nat.mul_eq_zero.1 a1 with h | h
      · exact h
      · omega
    · intro h
      rw [h, Nat.zero_mul] at a1
      rcases Nat.mul_eq_zero.1 a1.symm with h | h
      · exact h
      · omega
  rw [e1]
  simp only [e2]
  clear e1 e2 hmul h1 hD
  unfold cutP
  by_cases he : 0 ≤ x.e
  · rw [if_pos (by omega)]
    simp only []
    have e3 : x.v * 2 ^ (x.e - -(K : Int)).toNat * 2 = x.v * 2 ^ x.e.toNat * 2 * 2 ^ K := by
      rw [show (x.e - -(K : Int)).toNat = x.e.toNat + K by omega, Nat.pow_add, ← Nat.mul_assoc, Nat.mul_right_comm]
    rw [e3, Nat.mul_div_cancel _ hP, Nat.mul_mod_left, show (- -x.e).toNat = x.e.toNat by omega]
    refine ⟨Nat.mul_div_cancel _ (by decide), ?_⟩
    rw [Nat.mul_mod_left]
    rfl
  · rw [if_neg (by omega)]
    simp only []
    obtain ⟨s, hs⟩ : ∃ s : Nat, x.e = -((s : Int) + 1) := ⟨(-x.e - 1).toNat, by omega⟩
    have hsK : s + 1 ≤ K := by omega
    rw [show (x.e - -(K : Int)).toNat = K - (s + 1) by omega, show (-x.e).toNat = s + 1 by omega, show (-x.e - 1).toNat = s by omega]
    have e3 : x.v * 2 ^ (K - (s + 1)) * 2 = x.v * 2 ^ (K - s) := by
      rw [Nat.mul_assoc, ← Nat.pow_succ]; congr 2; omega
    have e4 : 2 ^ K = 2 ^ s * 2 ^ (K - s) := by rw [← Nat.pow_add]; congr 1; omega
    have hQ : 0 < 2 ^ (K - s) := Nat.pow_pos (by decide)
    rw [e3, e4, Nat.mul_div_mul_right _ _ hQ, Nat.mul_mod_mul_right]
    have e5 : x.v % 2 ^ s * 2 ^ (K - s) = 0 ↔ x.v % 2 ^ s = 0 := by
      constructor
      · intro h
        rcases Nat.mul_eq_zero.1 h with h | h
        · exact h
        · omega
      · intro h; rw [h, Nat.zero_mul]
    simp only [e5]
    refine ⟨by rw [Nat.div_div_eq_div_mul, ← Nat.pow_succ], ?_⟩
    by_cases g1 : x.v / 2 ^ s % 2 = 1 <;> by_cases g2 : x.v % 2 ^ s = 0 <;> simp [g1, g2, pcode]
theorem cut_none (s : Int) : cutP 0 s false = (0, 0) := by
  unfold cutP
  split <;> simp
theorem whole_sign (r : Int) (x : Nu) (z : Int) : upP r (decide (x.sv z < 0)) (cutP x.v (-x.e) false).1 (cutP x.v (-x.e) false).2 = (wholeP r x).1 ∧ sgn (decide (x.sv z < 0)) (wholeP r x).1 = sgn x.n (wholeP r x).1 := by
  unfold wholeP
  simp only []
  by_cases hv : x.v = 0
  · rw [hv, cut_none]
    simp only [upP_none]
    refine ⟨trivial, ?_⟩
    unfold sgn
    split <;> split <;> rfl
  · have h : decide (x.sv z < 0) = x.n := by
      have hp : 0 < x.v * 2 ^ (x.e - z).toNat := Nat.mul_pos (Nat.pos_of_ne_zero hv) (Nat.pow_pos (by decide))
      unfold Nu.sv
      generalize x.v * 2 ^ (x.e - z).toNat = u at *
      cases x.n
      · simp
      · simp; omega
    rw [h]
    exact ⟨rfl, rfl⟩
theorem whole_code (r : Int) (x : Nu) {h s : Bool} (e : pcode h s = (cutP x.v (-x.e) false).2) : (pcode h s == 0) = (wholeP r x).2 := by
  rw [e]; unfold wholeP; simp only []
  cases hh : decide ((cutP x.v (-x.e) false).2 = 0) <;> simp_all
theorem wholeP_bl (r : Int) (x : Nu) : bl (wholeP r x).1 ≤ bl x.v + x.e.toNat + 1 := by
  unfold wholeP
  have h1 := cutP_bl x.v (-x.e) false
  have h2 := upP_bl r x.n (cutP x.v (-x.e) false).1 (cutP x.v (-x.e) false).2
  rw [Int.neg_neg] at h1
  simp only []
  omega
theorem RInteger_does {r : Int} (hr : 0 ≤ r) (hr' : r ≤ 4) {x : Nu} {K : Nat} {z : Int} {d : Nat} (hK : K ≤ 8000000) (hKe : -(K : Int) ≤ x.e) (hD : Dq K z d (x.sv (-K))) (hb : bl (x.sv (-K)).natAbs ≤ 20000000) : Does Tryz.prog G 84 [.c (.i .i64 r), Qv z d] (.t [Iv (sgn x.n (wholeP r x).1), .c (.b (wholeP r x).2)]) := by
  obtain ⟨s1, s2, s3⟩ := hD.small
  have hN := @QNorm G z d (by omega) (by omega) hD.pos
  have hD2 := Dq.norm hD.eq hD.pos
  generalize nz z d = z' at *
  generalize nd z d = d' at *
  obtain ⟨t1, t2, t3⟩ := hD2.small
  obtain ⟨w1, w2⟩ := whole_ratio hKe hD2
  obtain ⟨v1, v2⟩ := whole_sign r x (-K)
  have v3 := whole_code r x w2
  have hQ := @IvSign G z' (by omega)
  have hsg : decide (z'.sign < 0) = decide (x.sv (-(K : Int)) < 0) := by
    rw [hD2.sign]
    congr 1
    apply propext
    rw [Int.sign_neg_iff]
  have hz0 : decide (z' < 0) = decide (x.sv (-(K : Int)) < 0) := by
    rw [← hsg]
    congr 1
    apply propext
    rw [Int.sign_neg_iff]
  have hR := @RRatio_does G z'.natAbs d' (by omega) (by omega) hD2.pos
  rw [w1] at hR
  have hcb : bl (cutP x.v (-x.e) false).1 ≤ 40000002 := by
    rw [← w1]
    have a1 := bl_mono (Nat.div_le_self (z'.natAbs * 2 / d') 2)
    have a2 := bl_mono (Nat.div_le_self (z'.natAbs * 2) d')
    have a3 := bl_mulN z'.natAbs 2
    have : bl 2 = 2 := by decide
    omega
  have hU := @Rounded_does G r hr hr' (decide (x.sv (-(K : Int)) < 0)) (decide (z'.natAbs * 2 / d' % 2 = 1)) (!decide (z'.natAbs * 2 % d' = 0)) (cutP x.v (-x.e) false).1 (by omega)
  rw [v3, w2, v1] at hU
  have hub : bl (wholeP r x).1 ≤ 40000003 := by
    have := upP_bl r x.n (cutP x.v (-x.e) false).1 (cutP x.v (-x.e) false).2
    have e : (wholeP r x).1 = upP r x.n (cutP x.v (-x.e) false).1 (cutP x.v (-x.e) false).2 := rfl
    rw [e]; omega
  have hM := @IvMake G (decide (x.sv (-(K : Int)) < 0)) (wholeP r x).1 (by omega)
  rw [v2] at hM
  have hN : Does Tryz.prog G 106 [Qv z d] (.v (.a [.b (decide (x.sv (-(K : Int)) < 0)), .w false (nat z'.natAbs), .w false (nat d')])) := by
    rw [← hz0]; exact hN
  have hQ : Does Tryz.prog G 131 [.a [.b (decide (x.sv (-(K : Int)) < 0)), .w false (nat z'.natAbs), .w false (nat d')]] (.int .i64 z'.sign) := by
    have h := @QSign G K z' (x.sv (-(K : Int))) d' hD2 hb
    rw [← hD2.sign] at h
    rw [← hz0]; exact h
  clear hD hD2 v1 v2 v3 w1 w2
  generalize decide (x.sv (-(K : Int)) < 0) = bb at *
  generalize decide (z'.natAbs * 2 / d' % 2 = 1) = b1 at *
  generalize (!decide (z'.natAbs * 2 % d' = 0)) = b2 at *
  generalize (cutP x.v (-x.e) false).1 = c1 at *
  generalize sgn x.n (wholeP r x).1 = Z at *
  generalize (wholeP r x).1 = W1 at *
  generalize (wholeP r x).2 = W2 at *
  generalize z'.sign = sg at *
  refine Does.of (nt := 30) Tryz.func84 rfl rfl rfl (by simp) ?_
  simp only [argTm, PV.ext, Ce.ext]
  refine Do.seqk fun _ k1_ => ?_
  refine Do.region [0,3,4] true ?_
  simp [go_sem]
  apply k1_; clear k1_
  refine Do.seqk fun _ k2_ => ?_
  refine Do.region [0,3,4] true ?_
  simp [go_sem]
  repeat (refine And.intro (by first | omega | (intros; omega) | (intros; exact And.intro (by assumption) (by omega)) | grind) ?_)
  refine DoL.call true 102 rfl rfl rfl rfl (by first | exact trivial | omega | (simp; done) | (simp; omega)) (hN) rfl (by first | exact .inl rfl | exact .inr rfl) rfl ?_
  simp [go_sem]
  repeat (refine And.intro (by first | omega | (intros; omega) | (intros; exact And.intro (by assumption) (by omega)) | grind) ?_)
  apply k2_; clear k2_
  refine Do.seqk fun _ k3_ => ?_
  refine Do.draw [3,4,6,7] true (by kernel_rfl) ?_
  simp [go_sem]
  repeat (refine And.intro (by first | omega | (intros; omega) | (intros; exact And.intro (by assumption) (by omega)) | kernel_rfl | grind) ?_)
  refine DoLD.call true 203 rfl rfl rfl rfl (by first | exact trivial | omega | (simp; done) | (simp; omega)) (hQ) rfl (by first | exact .inl rfl | exact .inr rfl) rfl ?_
  simp [go_sem]
  repeat (refine And.intro (by first | omega | (intros; omega) | (intros; exact And.intro (by assumption) (by omega)) | kernel_rfl | grind) ?_)
  refine DoLD.call true 210 rfl rfl rfl rfl (by first | exact trivial | omega | (simp; done) | (simp; omega)) (hR) rfl (by first | exact .inl rfl | exact .inr rfl) rfl ?_
  simp [go_sem, hsg]
  refine DoLD.call true 211 rfl rfl rfl rfl (by first | exact trivial | omega | (simp; done) | (simp; omega)) (hU) rfl (by first | exact .inl rfl | exact .inr rfl) rfl ?_
  simp [go_sem, hsg]
  try (refine And.intro (by kernel_rfl) ?_)
  apply k3_; clear k3_
  refine Do.seqk fun _ k4_ => ?_
  refine Do.region [4,5] true ?_
  simp [go_sem, hsg]
  repeat (refine And.intro (by first | omega | (intros; omega) | (intros; exact And.intro (by assumption) (by omega)) | grind) ?_)
  refine DoL.call true 305 rfl rfl rfl rfl (by first | exact trivial | omega | (simp; done) | (simp; omega)) (hM) rfl (by first | exact .inl rfl | exact .inr rfl) rfl ?_
  simp [go_sem, hsg]
  repeat (refine And.intro (by first | omega | (intros; omega) | (intros; exact And.intro (by assumption) (by omega)) | grind) ?_)
  apply k4_; clear k4_
  refine Do.ret ?_
  simp [endQ, rets, ret1, go_sem, hsg]
  repeat (refine And.intro (by first | omega | (intros; omega) | (intros; exact And.intro (by assumption) (by omega)) | grind) ?_)
  exact TLe.refl _
theorem fv_sv {a : Flt} (hf : rcanon a = a) (hk : a.k = 0 ∨ a.k = 1) (z : Int) : fv z a = (Nu.mk a.n a.v a.e).sv z := by
  unfold fv
  split
  · rfl
  · rename_i h
    have h0 : a.v = 0 := by
      unfold rcanon at hf
      rw [if_neg h] at hf
      have := congrArg Flt.v hf
      simpa using this.symm
    unfold Nu.sv
    simp [h0]
theorem RToInt_does {r : Int} (hr : 0 ≤ r) (hr' : r ≤ 4) {x : Fla} (hx : Rt x) {a : Flt} (ha : rcanon x.flt = a) (hk : a.k = 0 ∨ a.k = 1) : Does Tryz.prog G 28 [.c (.i .i64 r), Fl x.k x.n x.e x.m] (.t [Iv (sgn a.n (wholeP r ⟨a.n, a.v, a.e⟩).1), .c (.i .i64 (if (wholeP r ⟨a.n, a.v, a.e⟩).2 then 0 else 1))]) := by
  obtain ⟨z, d, h1, h2, h3⟩ := @FRatK G x hx
  have hfv : fv (-(1048576 : Nat)) x.flt = fv (-(1048576 : Nat)) a := by
    rw [← ha]; exact (@fv_rcan x.flt (-(1048576 : Nat)) (fun hk => (canon_one hx.can hk).1)).symm
  have hfix : rcanon a = a := by rw [← ha]; exact rcanon_idem _
  have hae : -((1048576 : Nat) : Int) ≤ a.e := by
    rcases hk with hk | hk
    · unfold rcanon at hfix
      rw [if_neg (by omega)] at hfix
      have := congrArg Flt.e hfix
      simp only [] at this
      omega
    · have hc := canon_rc hx.can
      rw [ha] at hc
      exact (canon_one hc hk).1
  rw [hfv, fv_sv hfix hk] at h2 h3
  have hI := @RInteger_does G r hr hr' ⟨a.n, a.v, a.e⟩ 1048576 z d (by decide) hae h2 (by omega)
  simp only [] at hI
  generalize sgn a.n (wholeP r ⟨a.n, a.v, a.e⟩).1 = Z at *
  generalize (wholeP r ⟨a.n, a.v, a.e⟩).2 = W at *
  cases W with
  | false =>
    refine Does.of (nt := 19) Tryz.func28 rfl rfl rfl (by simp) ?_
    simp only [argTm, PV.ext, Ce.ext]
    refine Do.seqk fun _ k1_ => ?_
    refine Do.region [0,3,4] true ?_
    simp [go_sem]
    apply k1_; clear k1_
    refine Do.seqk fun _ k2_ => ?_
    refine Do.region [4,6,7] true ?_
    simp [go_sem]
    repeat (refine And.intro (by first | omega | (intros; omega) | (intros; exact And.intro (by assumption) (by omega)) | grind) ?_)
    refine DoL.call true 103 rfl rfl rfl rfl (by first | exact trivial | omega | (simp; done) | (simp; omega)) (h1) rfl (by first | exact .inl rfl | exact .inr rfl) rfl ?_
    simp [go_sem]
    refine DoL.call true 104 rfl rfl rfl rfl (by first | exact trivial | omega | (simp; done) | (simp; omega)) (hI) rfl (by first | exact .inl rfl | exact .inr rfl) rfl ?_
    simp [go_sem]
    repeat (refine And.intro (by first | omega | (intros; omega) | (intros; exact And.intro (by assumption) (by omega)) | grind) ?_)
    apply k2_; clear k2_
    refine Do.seqk fun _ k3_ => ?_
    refine Do.seqk fun _ k4_ => ?_
    refine Do.region [4,6,16] true ?_
    simp [go_sem]
    repeat (refine And.intro (by first | omega | (intros; omega) | (intros; exact And.intro (by assumption) (by omega)) | grind) ?_)
    apply k4_; clear k4_
    refine Do.cond [4,6] rfl (fun g => ?_) (fun g => ?_) <;> simp [go_sem] at g ⊢
    refine Do.seqk fun _ k5_ => ?_
    refine Do.region [4,5] true ?_
    simp [go_sem]
    repeat (refine And.intro (by first | omega | (intros; omega) | (intros; exact And.intro (by assumption) (by omega)) | grind) ?_)
    apply k5_; clear k5_
    refine Do.ret ?_
    simp [endQ, rets, ret1, go_sem]
    repeat (refine And.intro (by first | omega | (intros; omega) | (intros; exact And.intro (by assumption) (by omega)) | grind) ?_)
    exact TLe.refl _
  | true =>
    refine Does.of (nt := 19) Tryz.func28 rfl rfl rfl (by simp) ?_
    simp only [argTm, PV.ext, Ce.ext]
    refine Do.seqk fun _ k1_ => ?_
    refine Do.region [0,3,4] true ?_
    simp [go_sem]
    apply k1_; clear k1_
    refine Do.seqk fun _ k2_ => ?_
    refine Do.region [4,6,7] true ?_
    simp [go_sem]
    repeat (refine And.intro (by first | omega | (intros; omega) | (intros; exact And.intro (by assumption) (by omega)) | grind) ?_)
    refine DoL.call true 103 rfl rfl rfl rfl (by first | exact trivial | omega | (simp; done) | (simp; omega)) (h1) rfl (by first | exact .inl rfl | exact .inr rfl) rfl ?_
    simp [go_sem]
    refine DoL.call true 104 rfl rfl rfl rfl (by first | exact trivial | omega | (simp; done) | (simp; omega)) (hI) rfl (by first | exact .inl rfl | exact .inr rfl) rfl ?_
    simp [go_sem]
    repeat (refine And.intro (by first | omega | (intros; omega) | (intros; exact And.intro (by assumption) (by omega)) | grind) ?_)
    apply k2_; clear k2_
    refine Do.seqk fun _ k3_ => ?_
    refine Do.seqk fun _ k4_ => ?_
    refine Do.region [4,6,16] true ?_
    simp [go_sem]
    repeat (refine And.intro (by first | omega | (intros; omega) | (intros; exact And.intro (by assumption) (by omega)) | grind) ?_)
    apply k4_; clear k4_
    refine Do.cond [4,6] rfl (fun g => ?_) (fun g => ?_) <;> simp [go_sem] at g ⊢
    refine Do.skip ?_
    simp [go_sem]
    apply k3_; clear k3_
    refine Do.seqk fun _ k5_ => ?_
    refine Do.region [4,5] true ?_
    simp [go_sem]
    repeat (refine And.intro (by first | omega | (intros; omega) | (intros; exact And.intro (by assumption) (by omega)) | grind) ?_)
    apply k5_; clear k5_
    refine Do.ret ?_
    simp [endQ, rets, ret1, go_sem]
    repeat (refine And.intro (by first | omega | (intros; omega) | (intros; exact And.intro (by assumption) (by omega)) | grind) ?_)
    exact TLe.refl _
end Go.Proofs.YtokgalpflooegaaGreatDoor
/- The law ConvertIntegrals. No condition. -/
namespace Go.Proofs.YtokgalpflooegaaGreatDoor
set_option linter.unusedVariables false
set_option linter.unusedSimpArgs false
set_option maxHeartbeats 4000000
set_option maxRecDepth 10000
section
variable {f p r : Int} {x : Fla} {a : Flt}
end
end Go.Proofs.YtokgalpflooegaaGreatDoor
/- Integers, natural and rational numbers among the arguments of a law. No condition. -/
namespace Go.Proofs.YtokgalpflooegaaGreatDoor
set_option linter.unusedVariables false
set_option linter.unusedSimpArgs false
open Go.ChangeShapes Go.WideShapes Go.ChangeAt Go.RowKit
set_option maxRecDepth 100000
theorem arg_ig {H : Type} {enc : TypeId × Value → H} {W : World} {b0 : Nat} {sp : Nat → Bool} {held : Bool} {v : Value} {d : DataW H} {ps : List MemPlace} (hval : Value.okWide Tryz.prog W .any b0 48 v) (h : DataW.Trod enc Tryz.prog W 0 sp held 48 v d ps) : ∃ n m, Ws m ∧ RP (enA W fun b => b < W.heap.size) (.a [.b n, .w false m]) v := by
  obtain ⟨ces, h1, h2⟩ := open_struct (ok := fun b => b < W.heap.size) (f := 2) (cts := [.b, .w]) (fun _ h => h) Tryz.underlying48 (by kernel_rfl) hval h
  cases h2 with | cons g h2 => cases h2 with | cons g' h2 => cases h2 with | nil =>
  obtain ⟨n, rfl⟩ := g
  obtain ⟨m, rfl, hm⟩ := g'
  exact ⟨n, m, hm, h1⟩
end Go.Proofs.YtokgalpflooegaaGreatDoor
/- The field of a value, under a test that holds, in a region whose order is open. No condition. -/
namespace Go.Proofs.YtokgalpflooegaaGreatDoor
set_option linter.unusedVariables false
set_option linter.unusedSimpArgs false
section
variable {P : Program} {G : Gl} {nt : Nat} {st st0 : St} {ops l : List Oper} {acc : List Sm} {Q : List Sm → St → Prop} {o : Oper} {j : Nat} {want : Bool}
theorem DoLD.field0 (md : Bool) (lab : Nat) (hg : o.guard = some (j, want)) (hgo : gOf ops st.tm j want = some true) {t s : Nat} {c0 c1 : Ce} (hop : o.op = .field t (.tmp s) 0) (hs : lk s st.tm = some (.gd true (.v (.a [c0, c1])))) (hm : s ∈ rdOf ops o) (hF : ∀ a b W, (Instr.field t (.agg #[a, b]) 0).run P W = .ok a W)
    (hx : (TV.gd true (.v (.c c0))).labs = []) (hd : dstOk nt o.dst = true) (next : runsD P G nt md ops st0 Q lab l (acc ++ [⟨[], [], [], none⟩]) ⟨setv o.dst (some (.gd true (.v (.c c0)))) st.tm, st.ob⟩) : DoLD P G nt ops st0 Q (o :: l) acc st := by
  have h : OpOk P G nt ops (boxes st0.ob) o st ⟨o.dst, some (.gd true (.v (.c c0))), .none, 0, []⟩ := by
    refine ⟨rfl, fun cx a W m S hn _ hrd hus hfree hr Q' K hK => ?_⟩
    rw [gOf_spec hr ((gOf_congr hg hrd).trans hgo) hg, if_pos rfl]
    have hsS : opv S.tm (.tmp s) = some (.gd true (.v (.a [c0, c1]))) := by
      show lk s S.tm = _
      rw [hrd s hm]; exact hs
    have hrt := hr.opv hsS
    obtain ⟨vs, e1, h2⟩ := hrt.1 rfl
    obtain ⟨v0, r0, e2, a0, h2⟩ := h2.cons_iff
    obtain ⟨v1, r1, rfl, a1, h2⟩ := h2.cons_iff
    cases h2
    have e3 : vs = #[v0, v1] := Array.toList_inj.1 (by rw [e2])
    subst e3
    unfold Oper.wp
    have hexec : (execOp a.eval o).run P W = .ok (.value v0) W := by
      simp [execOp, hop, e1, hF]
    rw [hexec]
    exact hK _ _ (Rel.put hr hn hd (show RT _ (.gd true (.v (.c c0))) v0 from ⟨fun _ => a0, fun e => by cases e⟩))
  refine DoLD.cons h (fun l hl => by simp [Tr.nw, Eff.isNew] at hl) rfl ?_
  have e1 : Tr.sm ⟨o.dst, some (.gd true (.v (.c c0))), .none, 0, []⟩ = ⟨[], [], [], none⟩ := by
    simp [Tr.sm, Tr.wr, Tr.mn, Tr.nw, Tr.ob, Eff.isNew, hx]
  rw [e1]
  exact DoLD.run next
end
theorem int_field : ∀ a b W, (Instr.field 48 (.agg #[a, b]) 0).run Tryz.prog W = .ok a W := fun a b W => by kernel_rfl
end Go.Proofs.YtokgalpflooegaaGreatDoor
/- Integers that are alike. No condition. -/
namespace Go.Proofs.YtokgalpflooegaaGreatDoor
set_option linter.unusedVariables false
set_option linter.unusedSimpArgs false
variable {G : Gl}
set_option maxHeartbeats 4000000
set_option maxRecDepth 10000
theorem cn_top : ∀ {l : List Nat}, norm l = l → l ≠ [] → ∃ w, l[l.length - 1]? = some w ∧ w ≠ 0
  | [], _, h => absurd rfl h
  | w :: l, hn, _ => by
    rw [norm_cons] at hn
    split at hn
    · cases hn
    · rename_i hc
      have hl : norm l = l := (List.cons.inj hn).2
      by_cases h0 : l = []
      · subst h0
        exact ⟨w, by simp, fun h => hc ⟨hl, h⟩⟩
      · obtain ⟨u, h1, h2⟩ := cn_top hl h0
        refine ⟨u, ?_, h2⟩
        obtain ⟨k, hk⟩ : ∃ k, l.length = k + 1 := ⟨l.length - 1, by have := List.length_pos_iff.2 h0; omega⟩
        rw [List.length_cons, Nat.add_sub_cancel, hk, List.getElem?_cons_succ]
        rw [hk, Nat.add_sub_cancel] at h1
        exact h1
theorem RCanon_does {v : Nat} (hl : (nat v).length ≤ 1073741824) : Does Tryz.prog G 180 [Wd (nat v)] (.v (.c (.b true))) := by
  by_cases h0 : nat v = []
  · rw [h0]
    refine Does.of (nt := 15) Tryz.func180 rfl rfl rfl (by simp) ?_
    simp only [argTm, PV.ext, Ce.ext]
    refine Do.seqk fun _ k1_ => ?_
    refine Do.region [0] true ?_
    simp [go_sem]
    apply k1_; clear k1_
    refine Do.seqk fun _ k2_ => ?_
    refine Do.region [2] true ?_
    simp [go_sem]
    repeat (refine And.intro (by first | omega | (intros; omega) | (intros; exact And.intro (by assumption) (by omega)) | grind) ?_)
    apply k2_; clear k2_
    refine Do.ret ?_
    simp [endQ, rets, ret1, go_sem]
    repeat (refine And.intro (by first | omega | (intros; omega) | (intros; exact And.intro (by assumption) (by omega)) | grind) ?_)
    exact TLe.refl _
  · obtain ⟨w, h1, h2⟩ := cn_top (nat_cn v) h0
    have hlen := List.length_pos_iff.2 h0
    generalize nat v = l at *
    obtain ⟨k, hk⟩ : ∃ k, l.length = k + 1 := ⟨l.length - 1, by omega⟩
    rw [hk, Nat.add_sub_cancel] at h1
    have hg : ∀ h : k < l.length, l[k]'h = w := fun h => by rw [List.getElem?_eq_getElem h] at h1; exact Option.some.inj h1
    refine Does.of (nt := 15) Tryz.func180 rfl rfl rfl (by simp) ?_
    simp only [argTm, PV.ext, Ce.ext]
    refine Do.seqk fun _ k1_ => ?_
    refine Do.region [0] true ?_
    simp [go_sem, hk, h1, h2]
    apply k1_; clear k1_
    refine Do.seqk fun _ k2_ => ?_
    refine Do.region [2] true ?_
    simp [go_sem, hk, h1, h2]
    repeat (refine And.intro (by first | omega | (intros; omega) | (intros; exact And.intro (by assumption) (by omega)) | grind) ?_)
    apply k2_; clear k2_
    refine Do.ret ?_
    simp [endQ, rets, ret1, go_sem, hk, h1, h2]
    repeat (refine And.intro (by first | omega | (intros; omega) | (intros; exact And.intro (by assumption) (by omega)) | grind) ?_)
    exact ret_b (by simp [hg, h2])
theorem RSame_does {l : List Nat} (hl : l.length ≤ 1073741824) : Does Tryz.prog G 181 [Wd l, Wd l] (.v (.c (.b true))) := by
  refine Does.of (nt := 26) Tryz.func181 rfl rfl rfl (by simp) ?_
  simp only [argTm, PV.ext, Ce.ext]
  refine Do.seqk fun _ k1_ => ?_
  refine Do.region [0,1] true ?_
  simp [go_sem]
  apply k1_; clear k1_
  refine Do.seqk fun _ k2_ => ?_
  refine Do.seqk fun _ k3_ => ?_
  refine Do.region [0,1,10] true ?_
  simp [go_sem]
  repeat (refine And.intro (by first | omega | (intros; omega) | (intros; exact And.intro (by assumption) (by omega)) | grind) ?_)
  apply k3_; clear k3_
  refine Do.cond [0,1] rfl (fun h => ?_) (fun h => ?_) <;> simp [go_sem] at h ⊢
  refine Do.skip ?_
  simp [go_sem]
  apply k2_; clear k2_
  refine Do.seqk fun _ k4_ => ?_
  refine Do.seqk fun _ k5_ => ?_
  refine Do.region [0,1,5] true ?_
  simp [go_sem]
  apply k5_; clear k5_
  refine Do.block ?_
  refine Do.loopF [0,1,5] (fun (i : Nat) => [(5, .int .i64 i)]) (fun (i : Nat) => []) (fun (i : Nat) => i ≤ l.length) (fun (i : Nat) => l.length - i) (0) (fun _ => by first | (simp [go_sem, mixS]; done) | (simp [go_sem, mixS]; rfl)) (St.le_of (by first | rfl | simp [keep]) (by first | rfl | simp [keep])) (Nat.zero_le _) ?_
  intro i hi
  refine Do.seqk fun _ k6_ => ?_
  refine Do.seqk fun _ k7_ => ?_
  refine Do.region [0,1,5,14] true ?_
  simp [go_sem]
  repeat (refine And.intro (by first | omega | (intros; omega) | (intros; exact And.intro (by assumption) (by omega)) | grind) ?_)
  apply k7_; clear k7_
  refine Do.cond [0,1,5] rfl (fun h5 => ?_) (fun h5 => ?_) <;> simp [go_sem] at h5 ⊢
  · obtain ⟨w, hw⟩ : ∃ w, l[i]? = some w := ⟨_, List.getElem?_eq_getElem h5⟩
    refine Do.skip ?_
    simp [go_sem]
    apply k6_; clear k6_
    refine Do.seqk fun _ k8_ => ?_
    refine Do.block ?_
    refine Do.seqk fun _ k9_ => ?_
    refine Do.draw [0,1,5,25] true (by kernel_rfl) ?_
    simp [go_sem, hw]
    repeat (refine And.intro (by first | omega | (intros; omega) | (intros; exact And.intro (by assumption) (by omega)) | kernel_rfl | grind) ?_)
    try (refine And.intro (by kernel_rfl) ?_)
    apply k9_; clear k9_
    refine Do.cond [0,1,5] rfl (fun h6 => ?_) (fun h6 => ?_) <;> simp [go_sem, hw] at h6 ⊢
    refine Do.skip ?_
    simp [go_sem]
    apply k8_; clear k8_
    refine Do.region [0,1,5] true ?_
    simp [go_sem, hw]
    repeat (refine And.intro (by first | omega | (intros; omega) | (intros; exact And.intro (by assumption) (by omega)) | grind) ?_)
    refine ⟨i + 1, St.le_of (by first | rfl | simp [keep]) (by first | rfl | simp [keep]), by omega, by first | (simp; done) | (simp; omega)⟩
  · refine Do.exit ?_
    simp [go_sem]
    apply k4_; clear k4_
    refine Do.seqk fun _ k10_ => ?_
    refine Do.region [4] true ?_
    simp [go_sem]
    apply k10_; clear k10_
    refine Do.ret ?_
    simp [endQ, rets, ret1, go_sem]
    repeat (refine And.intro (by first | omega | (intros; omega) | (intros; exact And.intro (by assumption) (by omega)) | grind) ?_)
    exact TLe.refl _
theorem RIs_does {m : List Nat} (hm : m.length ≤ 1073741824) (wm : Ws m) : Does Tryz.prog G 149 [Wd (nat (val m)), Wd m] (.v (.c (.b true))) := by
  have hl := nat_len_le wm (Nat.le_refl _)
  have h1 := @RCanon_does G (val m) (by omega)
  have h2 := @RTrim_does G m hm wm
  have h3 := @RSame_does G (nat (val m)) (by omega)
  generalize nat (val m) = l at *
  refine Does.of (nt := 13) Tryz.func149 rfl rfl rfl (by simp) ?_
  simp only [argTm, PV.ext, Ce.ext]
  refine Do.seqk fun _ k1_ => ?_
  refine Do.region [0,1] true ?_
  simp [go_sem]
  apply k1_; clear k1_
  refine Do.seqk fun _ k2_ => ?_
  refine Do.region [4] true ?_
  simp [go_sem]
  refine DoL.call true 102 rfl rfl rfl rfl (by first | exact trivial | omega | (simp; done) | (simp; omega)) (h1) rfl (by first | exact .inl rfl | exact .inr rfl) rfl ?_
  simp [go_sem]
  refine DoL.callg true 106 rfl rfl rfl rfl rfl (by simp [go_sem] <;> omega) (fun _ => h2) rfl (by first | exact .inl rfl | exact .inr rfl) rfl ?_
  simp [go_sem]
  refine DoL.callg true 107 rfl rfl rfl rfl rfl (by simp [go_sem] <;> omega) (fun _ => h3) rfl (by first | exact .inl rfl | exact .inr rfl) rfl ?_
  simp [go_sem]
  apply k2_; clear k2_
  refine Do.ret ?_
  simp [endQ, rets, ret1, go_sem]
  repeat (refine And.intro (by first | omega | (intros; omega) | (intros; exact And.intro (by assumption) (by omega)) | grind) ?_)
  exact TLe.refl _
theorem IIs_does {n : Bool} {m : List Nat} (hm : m.length ≤ 1073741824) (wm : Ws m) : Does Tryz.prog G 29 [Iv (sgn n (val m)), .a [.b n, .w false m]] (.v (.c (.b true))) := by
  have h1 := @RIs_does G m hm wm
  have h2 := @ITrim_does G n m hm wm
  have h3 : Does Tryz.prog G 85 [Iv (sgn n (val m)), .a [.b n, .w false m]] (.v (.c (.b true))) := by
    rw [show (nat (val m)) = nat (sgn n (val m)).natAbs by rw [sgn_abs]] at h1
    generalize sgn n (val m) = z at *
    have h2 : Does Tryz.prog G 150 [Ig n m] (.v (.a [.b (decide (z < 0)), .w false (nat z.natAbs)])) := h2
    refine Does.of (nt := 18) Tryz.func85 rfl rfl rfl (by simp) ?_
    simp only [argTm, PV.ext, Ce.ext]
    refine Do.seqk fun _ k1_ => ?_
    refine Do.region [2,3] true ?_
    simp [go_sem]
    apply k1_; clear k1_
    refine Do.seqk fun _ k2_ => ?_
    refine Do.draw [4] true (by kernel_rfl) ?_
    simp [go_sem]
    repeat (refine And.intro (by first | omega | (intros; omega) | (intros; exact And.intro (by assumption) (by omega)) | kernel_rfl | grind) ?_)
    refine DoLD.call true 105 rfl rfl rfl rfl (by first | exact trivial | omega | (simp; done) | (simp; omega)) (h1) rfl (by first | exact .inl rfl | exact .inr rfl) rfl ?_
    simp [go_sem]
    repeat (refine And.intro (by first | omega | (intros; omega) | (intros; exact And.intro (by assumption) (by omega)) | kernel_rfl | grind) ?_)
    refine DoLD.callg true 110 rfl rfl rfl rfl rfl (by simp [go_sem] <;> omega) (fun _ => h2) rfl (by first | exact .inl rfl | exact .inr rfl) rfl ?_
    simp [go_sem]
    refine DoLD.field0 true 111 rfl rfl rfl rfl (by decide) int_field rfl rfl ?_
    simp [go_sem]
    try (refine And.intro (by kernel_rfl) ?_)
    apply k2_; clear k2_
    refine Do.ret ?_
    simp [endQ, rets, ret1, go_sem]
    repeat (refine And.intro (by first | omega | (intros; omega) | (intros; exact And.intro (by assumption) (by omega)) | grind) ?_)
    exact TLe.refl _
  generalize sgn n (val m) = z at *
  refine Does.of (nt := 8) Tryz.func29 rfl rfl rfl (by simp) ?_
  simp only [argTm, PV.ext, Ce.ext]
  refine Do.seqk fun _ k1_ => ?_
  refine Do.region [2,3] true ?_
  simp [go_sem]
  apply k1_; clear k1_
  refine Do.seqk fun _ k2_ => ?_
  refine Do.region [4] true ?_
  simp [go_sem]
  repeat (refine And.intro (by first | omega | (intros; omega) | (intros; exact And.intro (by assumption) (by omega)) | grind) ?_)
  refine DoL.call true 103 rfl rfl rfl rfl (by first | exact trivial | omega | (simp; done) | (simp; omega)) (h3) rfl (by first | exact .inl rfl | exact .inr rfl) rfl ?_
  simp [go_sem]
  apply k2_; clear k2_
  refine Do.ret ?_
  simp [endQ, rets, ret1, go_sem]
  repeat (refine And.intro (by first | omega | (intros; omega) | (intros; exact And.intro (by assumption) (by omega)) | grind) ?_)
  exact TLe.refl _
end Go.Proofs.YtokgalpflooegaaGreatDoor
/- The law ConvertWhole. No condition. -/
namespace Go.Proofs.YtokgalpflooegaaGreatDoor
set_option linter.unusedVariables false
set_option linter.unusedSimpArgs false
set_option maxHeartbeats 4000000
set_option maxRecDepth 10000
theorem brief_does {n : Bool} {m : List Nat} : Does Tryz.prog Gv 23 [.a [.b n, .w false m]] (.v (.c (.b (decide (m.length ≤ 40))))) := by
  refine Does.of (nt := 7) Tryz.func23 rfl rfl rfl (by simp) ?_
  simp only [argTm, PV.ext, Ce.ext]
  refine Do.seqk fun _ k1_ => ?_
  refine Do.region [1] true ?_
  simp [go_sem]
  apply k1_; clear k1_
  refine Do.seqk fun _ k2_ => ?_
  refine Do.region [2] true ?_
  simp [go_sem]
  repeat (refine And.intro (by first | omega | (intros; omega) | (intros; exact And.intro (by assumption) (by omega)) | grind) ?_)
  apply k2_; clear k2_
  refine Do.ret ?_
  simp [endQ, rets, ret1, go_sem]
  repeat (refine And.intro (by first | omega | (intros; omega) | (intros; exact And.intro (by assumption) (by omega)) | grind) ?_)
  exact ret_b (by congr 1; simp; omega)
theorem PLe.znil : PLe (.c .z) (.s false []) := fun E v h => ⟨none, 0, 0, h, Nat.le_refl _, fun i cs hi => by simp at hi⟩
/-- The error of a format and a rounding. -/
def argsR (f p r : Int) : Int := if (decide (0 ≤ r) && decide (r ≤ 4)) = false then 1 else if fmOk f p = false then 150 else 0
theorem KArgs_nil {f p r : Int} : Does Tryz.prog Gv 13 [Fm f p, .c (.i .i64 r), .c .z] (.int .i64 (argsR f p r)) := by
  have h : Does Tryz.prog Gv 13 [Fm f p, .c (.i .i64 r), .s false []] (.int .i64 (argsE f p r false [])) := @KArgs_does Gv f p r [] (by simp) (by simp)
  have e : argsE f p r false [] = argsR f p r := by
    unfold argsE argsR
    simp [anyLarge, allHold]
  rw [e] at h
  exact h.weak (.cons (PLe.refl _) (.cons (PLe.refl _) (.cons PLe.znil .nil)))
theorem argsR_zero {f p r : Int} (h : argsR f p r = 0) : 0 ≤ r ∧ r ≤ 4 ∧ fmOk f p = true := by
  unfold argsR at h
  split at h
  · omega
  · rename_i h1
    split at h
    · omega
    · rename_i h2
      simp at h1 h2
      exact ⟨h1.1, h1.2, h2⟩
end Go.Proofs.YtokgalpflooegaaGreatDoor
/- The law ConvertInts. No condition. -/
namespace Go.Proofs.YtokgalpflooegaaGreatDoor
set_option linter.unusedVariables false
set_option linter.unusedSimpArgs false
set_option maxHeartbeats 8000000
set_option maxRecDepth 10000
theorem Dq.zint (z : Int) : Dq 0 z 1 z := ⟨by simp, by decide, by simp⟩
theorem ROf_does {G : Gl} {z : Int} (hz : bl z.natAbs ≤ 1000000) : Does Tryz.prog G 70 [Qv z 1] (.v (Rl (decide (z < 0)) z.natAbs 0)) := by
  have hl := len_bl hz
  have h1 := @QSign G 0 z z 1 (Dq.zint z) (by omega)
  have h2 := @RTrim_does G (nat z.natAbs) (by omega) (nat_ws _)
  have h3 := @RTrim_does G (nat 1) (by rw [nat_one]; decide) (nat_ws _)
  rw [val_nat] at h2 h3
  have hsg : decide (z.sign < 0) = decide (z < 0) := by
    congr 1
    apply propext
    rw [Int.sign_neg_iff]
  generalize z.sign = sg at *
  refine Does.of (nt := 14) Tryz.func70 rfl rfl rfl (by simp) ?_
  simp only [argTm, PV.ext, Ce.ext]
  refine Do.seqk fun _ k1_ => ?_
  refine Do.region [1,2] true ?_
  simp [go_sem]
  apply k1_; clear k1_
  refine Do.seqk fun _ k2_ => ?_
  refine Do.draw [2] true (by kernel_rfl) ?_
  simp [go_sem]
  repeat (refine And.intro (by first | omega | (intros; omega) | (intros; exact And.intro (by assumption) (by omega)) | kernel_rfl | grind) ?_)
  refine DoLD.call true 102 rfl rfl rfl rfl (by first | exact trivial | omega | (simp; done) | (simp; omega)) (h1) rfl (by first | exact .inl rfl | exact .inr rfl) rfl ?_
  simp [go_sem]
  repeat (refine And.intro (by first | omega | (intros; omega) | (intros; exact And.intro (by assumption) (by omega)) | kernel_rfl | grind) ?_)
  refine DoLD.call true 107 rfl rfl rfl rfl (by first | exact trivial | omega | (simp; done) | (simp; omega)) (h2) rfl (by first | exact .inl rfl | exact .inr rfl) rfl ?_
  simp [go_sem, hsg]
  repeat (refine And.intro (by first | omega | (intros; omega) | (intros; exact And.intro (by assumption) (by omega)) | kernel_rfl | grind) ?_)
  refine DoLD.call true 110 rfl rfl rfl rfl (by first | exact trivial | omega | (simp; done) | (simp; omega)) (h3) rfl (by first | exact .inl rfl | exact .inr rfl) rfl ?_
  simp [go_sem, hsg]
  repeat (refine And.intro (by first | omega | (intros; omega) | (intros; exact And.intro (by assumption) (by omega)) | kernel_rfl | grind) ?_)
  try (refine And.intro (by kernel_rfl) ?_)
  apply k2_; clear k2_
  refine Do.ret ?_
  simp [endQ, rets, ret1, go_sem, hsg]
  repeat (refine And.intro (by first | omega | (intros; omega) | (intros; exact And.intro (by assumption) (by omega)) | grind) ?_)
  exact TLe.v (PLe.agg (.cons (PLe.refl _) (.cons (PLe.ext (.c (.w true _))) (.cons (PLe.ext (.c (.w true _))) (.cons (PLe.refl _) (.cons (PLe.refl _) .nil))))))
/-- An integer, rounded to a format. -/
def intR (f p r : Int) (n : Bool) (v : Nat) : Flt × Int := if v = 0 then (⟨0, false, 0, 0⟩, 0) else roundP f p r n v 0 false
theorem intR_fine {f p r : Int} (hf : fmOk f p = true) (n : Bool) (v : Nat) : Fine (intR f p r n v).1 ∧ rcanon (intR f p r n v).1 = (intR f p r n v).1 := by
  unfold intR
  split
  · exact ⟨fine_zero, rfl⟩
  · exact ⟨roundP_fine hf, roundP_fix hf⟩
theorem RRat_does {G : Gl} {f p r : Int} (hf : fmOk f p = true) (hr : 0 ≤ r) (hr' : r ≤ 4) {n : Bool} {v : Nat} (hv : bl v ≤ 1000000) : Does Tryz.prog G 82 [Fm f p, .c (.i .i64 r), Qv (sgn n v) 1, .c (.b false)] (.t [(intR f p r n v).1.pw, .c (.i .i64 (intR f p r n v).2)]) := by
  have hb : bl (sgn n v).natAbs ≤ 1000000 := by rw [sgn_abs]; exact hv
  have h1 := @QSign G 0 (sgn n v) (sgn n v) 1 (Dq.zint _) (by omega)
  have h2 := @ROf_does G (sgn n v) hb
  rw [sgn_abs] at h2
  unfold intR
  by_cases h0 : v = 0
  · subst h0
    rw [if_pos rfl]
    have e : sgn n 0 = 0 := by cases n <;> rfl
    rw [e] at h1 ⊢
    refine Does.of (nt := 22) Tryz.func82 rfl rfl rfl (by simp) ?_
    simp only [argTm, PV.ext, Ce.ext]
    refine Do.seqk fun _ k1_ => ?_
    refine Do.region [1,3,4,6,8] true ?_
    simp [go_sem]
    apply k1_; clear k1_
    refine Do.seqk fun _ k2_ => ?_
    refine Do.seqk fun _ k3_ => ?_
    refine Do.region [1,3,4,6,8,12] true ?_
    simp [go_sem]
    repeat (refine And.intro (by first | omega | (intros; omega) | (intros; exact And.intro (by assumption) (by omega)) | grind) ?_)
    refine DoL.call true 102 rfl rfl rfl rfl (by first | exact trivial | omega | (simp; done) | (simp; omega)) (h1) rfl (by first | exact .inl rfl | exact .inr rfl) rfl ?_
    simp [go_sem]
    apply k3_; clear k3_
    refine Do.cond [1,3,4,6,8] rfl (fun g => ?_) (fun g => ?_) <;> simp [go_sem] at g ⊢
    refine Do.seqk fun _ k4_ => ?_
    refine Do.region [8,9] true ?_
    simp [go_sem]
    repeat (refine And.intro (by first | omega | (intros; omega) | (intros; exact And.intro (by assumption) (by omega)) | grind) ?_)
    apply k4_; clear k4_
    refine Do.ret ?_
    simp [endQ, rets, ret1, go_sem]
    repeat (refine And.intro (by first | omega | (intros; omega) | (intros; exact And.intro (by assumption) (by omega)) | grind) ?_)
    exact TLe.t (.cons (PLe.flw (ret_zw rfl)) (.cons (PLe.refl _) .nil))
  · rw [if_neg h0]
    rw [sgn_dec h0] at h2
    have h3 := @Round_new G f p r hf hr hr' n v 0 (Nat.pos_of_ne_zero h0) (by omega) (by omega)
    have hs : ((sgn n v).sign == 0) = false := by
      rw [beq_eq_false_iff_ne, ne_eq, Int.sign_eq_zero_iff_zero]
      intro h
      have := sgn_abs n v
      rw [h] at this
      exact h0 this.symm
    generalize roundP f p r n v 0 false = y at *
    generalize (sgn n v).sign = sg at *
    generalize sgn n v = z at *
    refine Does.of (nt := 22) Tryz.func82 rfl rfl rfl (by simp) ?_
    simp only [argTm, PV.ext, Ce.ext]
    refine Do.seqk fun _ k1_ => ?_
    refine Do.region [1,3,4,6,8] true ?_
    simp [go_sem]
    apply k1_; clear k1_
    refine Do.seqk fun _ k2_ => ?_
    refine Do.seqk fun _ k3_ => ?_
    refine Do.region [1,3,4,6,8,12] true ?_
    simp [go_sem]
    repeat (refine And.intro (by first | omega | (intros; omega) | (intros; exact And.intro (by assumption) (by omega)) | grind) ?_)
    refine DoL.call true 102 rfl rfl rfl rfl (by first | exact trivial | omega | (simp; done) | (simp; omega)) (h1) rfl (by first | exact .inl rfl | exact .inr rfl) rfl ?_
    simp [go_sem]
    apply k3_; clear k3_
    refine Do.cond [1,3,4,6,8] rfl (fun g => ?_) (fun g => ?_) <;> simp [go_sem, hs] at g ⊢
    refine Do.skip ?_
    simp [go_sem]
    apply k2_; clear k2_
    refine Do.seqk fun _ k4_ => ?_
    refine Do.draw [8,9] true (by kernel_rfl) ?_
    simp [go_sem, hs]
    repeat (refine And.intro (by first | omega | (intros; omega) | (intros; exact And.intro (by assumption) (by omega)) | kernel_rfl | grind) ?_)
    refine DoLD.call true 304 rfl rfl rfl rfl (by first | exact trivial | omega | (simp; done) | (simp; omega)) (h2) rfl (by first | exact .inl rfl | exact .inr rfl) rfl ?_
    simp [go_sem, hs]
    refine DoLD.call true 305 rfl rfl rfl rfl (by first | exact trivial | omega | (simp; done) | (simp; omega)) (h3) rfl (by first | exact .inl rfl | exact .inr rfl) rfl ?_
    simp [go_sem, hs]
    repeat (refine And.intro (by first | omega | (intros; omega) | (intros; exact And.intro (by assumption) (by omega)) | kernel_rfl | grind) ?_)
    try (refine And.intro (by kernel_rfl) ?_)
    apply k4_; clear k4_
    refine Do.ret ?_
    simp [endQ, rets, ret1, go_sem, hs]
    repeat (refine And.intro (by first | omega | (intros; omega) | (intros; exact And.intro (by assumption) (by omega)) | grind) ?_)
    exact TLe.refl _
theorem QWhole_raw {G : Gl} {n : Bool} {m : List Nat} (hm : m.length ≤ 1073741824) (wm : Ws m) : Does Tryz.prog G 83 [.a [.b n, .w false m]] (.v (Qv (sgn n (val m)) 1)) := by
  have h := @ITrim_does G n m hm wm
  have h1 : Does Tryz.prog G 147 [.a [.b n, .w false m]] (.v (Iv (sgn n (val m)))) := by
    generalize sgn n (val m) = z at *
    refine Does.of (nt := 5) Tryz.func147 rfl rfl rfl (by simp) ?_
    simp only [argTm, PV.ext, Ce.ext]
    refine Do.seqk fun _ k1_ => ?_
    refine Do.region [1,2] true ?_
    simp [go_sem]
    apply k1_; clear k1_
    refine Do.seqk fun _ k2_ => ?_
    refine Do.region [2] true ?_
    simp [go_sem]
    repeat (refine And.intro (by first | omega | (intros; omega) | (intros; exact And.intro (by assumption) (by omega)) | grind) ?_)
    refine DoL.call true 102 rfl rfl rfl rfl (by first | exact trivial | omega | (simp; done) | (simp; omega)) (h) rfl (by first | exact .inl rfl | exact .inr rfl) rfl ?_
    simp [go_sem]
    repeat (refine And.intro (by first | omega | (intros; omega) | (intros; exact And.intro (by assumption) (by omega)) | grind) ?_)
    apply k2_; clear k2_
    refine Do.ret ?_
    simp [endQ, rets, ret1, go_sem]
    repeat (refine And.intro (by first | omega | (intros; omega) | (intros; exact And.intro (by assumption) (by omega)) | grind) ?_)
    exact TLe.refl _
  have h2 := @RWord_does G 1 (by decide)
  generalize sgn n (val m) = z at *
  refine Does.of (nt := 7) Tryz.func83 rfl rfl rfl (by simp) ?_
  simp only [argTm, PV.ext, Ce.ext]
  refine Do.seqk fun _ k1_ => ?_
  refine Do.region [1,2] true ?_
  simp [go_sem]
  apply k1_; clear k1_
  refine Do.seqk fun _ k2_ => ?_
  refine Do.region [2] true ?_
  simp [go_sem]
  repeat (refine And.intro (by first | omega | (intros; omega) | (intros; exact And.intro (by assumption) (by omega)) | grind) ?_)
  refine DoL.call true 102 rfl rfl rfl rfl (by first | exact trivial | omega | (simp; done) | (simp; omega)) (h1) rfl (by first | exact .inl rfl | exact .inr rfl) rfl ?_
  simp [go_sem]
  refine DoL.call true 103 rfl rfl rfl rfl (by first | exact trivial | omega | (simp; done) | (simp; omega)) (h2) rfl (by first | exact .inl rfl | exact .inr rfl) rfl ?_
  simp [go_sem]
  repeat (refine And.intro (by first | omega | (intros; omega) | (intros; exact And.intro (by assumption) (by omega)) | grind) ?_)
  apply k2_; clear k2_
  refine Do.ret ?_
  simp [endQ, rets, ret1, go_sem]
  repeat (refine And.intro (by first | omega | (intros; omega) | (intros; exact And.intro (by assumption) (by omega)) | grind) ?_)
  exact TLe.v (PLe.qv rfl (PLe.refl _) (PLe.ext (.c (.w true _))))
theorem RFromInt_does {G : Gl} {f p r : Int} (hf : fmOk f p = true) (hr : 0 ≤ r) (hr' : r ≤ 4) {n : Bool} {m : List Nat} (hm : m.length ≤ 40) (wm : Ws m) : Does Tryz.prog G 26 [Fm f p, .c (.i .i64 r), .a [.b n, .w false m]] (.t [(intR f p r n (val m)).1.pw, .c (.i .i64 (intR f p r n (val m)).2)]) := by
  have h1 := @QWhole_raw G n m (by omega) wm
  have h2 := @RRat_does G f p r hf hr hr' n (val m) (by have := bl_le_len wm (Nat.le_refl (val m)); omega)
  generalize intR f p r n (val m) = y at *
  generalize sgn n (val m) = z at *
  refine Does.of (nt := 15) Tryz.func26 rfl rfl rfl (by simp) ?_
  simp only [argTm, PV.ext, Ce.ext]
  refine Do.seqk fun _ k1_ => ?_
  refine Do.region [1,3,5,6] true ?_
  simp [go_sem]
  apply k1_; clear k1_
  refine Do.seqk fun _ k2_ => ?_
  refine Do.draw [6,7] true (by kernel_rfl) ?_
  simp [go_sem]
  repeat (refine And.intro (by first | omega | (intros; omega) | (intros; exact And.intro (by assumption) (by omega)) | kernel_rfl | grind) ?_)
  refine DoLD.call true 104 rfl rfl rfl rfl (by first | exact trivial | omega | (simp; done) | (simp; omega)) (h1) rfl (by first | exact .inl rfl | exact .inr rfl) rfl ?_
  simp [go_sem]
  refine DoLD.call true 105 rfl rfl rfl rfl (by first | exact trivial | omega | (simp; done) | (simp; omega)) (h2) rfl (by first | exact .inl rfl | exact .inr rfl) rfl ?_
  simp [go_sem]
  repeat (refine And.intro (by first | omega | (intros; omega) | (intros; exact And.intro (by assumption) (by omega)) | kernel_rfl | grind) ?_)
  try (refine And.intro (by kernel_rfl) ?_)
  apply k2_; clear k2_
  refine Do.ret ?_
  simp [endQ, rets, ret1, go_sem]
  repeat (refine And.intro (by first | omega | (intros; omega) | (intros; exact And.intro (by assumption) (by omega)) | grind) ?_)
  exact TLe.refl _
theorem argsE_argsR {f p r : Int} {x : Fla} (hx : x.m.length ≤ 40) : argsE f p r false [x] = if argsR f p r ≠ 0 then argsR f p r else if (holdsP f p x.flt).2 = false then 151 else 0 := by
  rw [← argsC_same]
  unfold argsC argsR
  rw [if_neg (by omega)]
  cases h1 : (decide (0 ≤ r) && decide (r ≤ 4)) <;> cases h2 : fmOk f p <;> simp [h1, h2]
theorem IIs_same {G : Gl} {z : Int} (hz : bl z.natAbs ≤ 1000000) : Does Tryz.prog G 29 [Iv z, Iv z] (.v (.c (.b true))) := by
  have h := @IIs_does G (decide (z < 0)) (nat z.natAbs) (by have := len_bl hz; omega) (nat_ws _)
  rw [val_nat, sgn_of] at h
  exact h
theorem ConvertInts_does {f p r : Int} {n : Bool} {m : List Nat} {x : Fla} (wm : Ws m) (hx : Ws x.m) (ex : I64 x.e) : Does Tryz.prog Gv 5 [Fm f p, .c (.i .i64 r), .a [.b n, .w false m], Fl x.k x.n x.e x.m] (.v (.c (.b true))) := by
  have hB := @brief_does n m
  have hS : Does Tryz.prog Gv 10 [.s false [x.cs]] (.v (.c (.b (shortP [x])))) := Short15_does (l := [x]) (by simp)
  by_cases hb : m.length ≤ 40
  case neg =>
    rw [decide_eq_false hb] at hB
    refine Does.of (nt := 118) Tryz.func5 rfl rfl rfl (by simp) ?_
    simp only [argTm, PV.ext, Ce.ext]
    refine Do.seqk fun _ k1_ => ?_
    refine Do.region [1,4,6,7] true ?_
    simp [go_sem]
    apply k1_; clear k1_
    refine Do.seqk fun _ k2_ => ?_
    refine Do.seqk fun _ k3_ => ?_
    refine Do.region [1,4,6,7,28] true ?_
    simp [go_sem]
    repeat (refine And.intro (by first | omega | (intros; omega) | (intros; exact And.intro (by assumption) (by omega)) | grind) ?_)
    refine DoL.call true 102 rfl rfl rfl rfl (by first | exact trivial | omega | (simp; done) | (simp; omega)) (hB) rfl (by first | exact .inl rfl | exact .inr rfl) rfl ?_
    simp [go_sem]
    repeat (refine And.intro (by first | omega | (intros; omega) | (intros; exact And.intro (by assumption) (by omega)) | grind) ?_)
    refine DoL.gOff true 105 rfl rfl (.v (.s true [x.cs])) rfl ?_
    simp [go_sem]
    refine DoL.gOff true 107 rfl rfl (.v (.c (.b true))) rfl ?_
    simp [go_sem]
    repeat (refine And.intro (by first | omega | (intros; omega) | (intros; exact And.intro (by assumption) (by omega)) | grind) ?_)
    apply k3_; clear k3_
    refine Do.cond [1,4,6,7] rfl (fun h => ?_) (fun h => ?_) <;> simp [go_sem] at h ⊢
    refine Do.seqk fun _ k4_ => ?_
    refine Do.region [8] true ?_
    simp [go_sem]
    refine DoL.call true 201 rfl rfl rfl rfl (by first | exact trivial | omega | (simp; done) | (simp; omega)) (awake20_does) rfl (by first | exact .inl rfl | exact .inr rfl) rfl ?_
    simp [go_sem]
    apply k4_; clear k4_
    refine Do.ret ?_
    simp [endQ, rets, ret1, go_sem]
    repeat (refine And.intro (by first | omega | (intros; omega) | (intros; exact And.intro (by assumption) (by omega)) | grind) ?_)
    exact TLe.refl _
  rw [decide_eq_true hb] at hB
  have hm0 : Sh m := by unfold Sh; omega
  cases hs : shortP [x] with
  | false =>
    rw [hs] at hS
    refine Does.of (nt := 118) Tryz.func5 rfl rfl rfl (by simp) ?_
    simp only [argTm, PV.ext, Ce.ext]
    refine Do.seqk fun _ k1_ => ?_
    refine Do.region [1,4,6,7] true ?_
    simp [go_sem]
    apply k1_; clear k1_
    refine Do.seqk fun _ k2_ => ?_
    refine Do.seqk fun _ k3_ => ?_
    refine Do.region [1,4,6,7,28] true ?_
    simp [go_sem]
    repeat (refine And.intro (by first | omega | (intros; omega) | (intros; exact And.intro (by assumption) (by omega)) | grind) ?_)
    refine DoL.call true 102 rfl rfl rfl rfl (by first | exact trivial | omega | (simp; done) | (simp; omega)) (hB) rfl (by first | exact .inl rfl | exact .inr rfl) rfl ?_
    simp [go_sem]
    repeat (refine And.intro (by first | omega | (intros; omega) | (intros; exact And.intro (by assumption) (by omega)) | grind) ?_)
    refine DoL.gOn true 105 rfl rfl [24] (by simp [go_sem]) ?_
    simp [go_sem]
    refine DoL.sealS true 106 105 rfl ?_
    simp [go_sem]
    refine DoL.callg true 107 rfl rfl rfl rfl rfl (by simp [go_sem] <;> omega) (fun _ => hS) rfl (by first | exact .inl rfl | exact .inr rfl) rfl ?_
    simp [go_sem]
    repeat (refine And.intro (by first | omega | (intros; omega) | (intros; exact And.intro (by assumption) (by omega)) | grind) ?_)
    apply k3_; clear k3_
    refine Do.cond [1,4,6,7] rfl (fun h => ?_) (fun h => ?_) <;> simp [go_sem] at h ⊢
    refine Do.seqk fun _ k4_ => ?_
    refine Do.region [8] true ?_
    simp [go_sem]
    refine DoL.call true 201 rfl rfl rfl rfl (by first | exact trivial | omega | (simp; done) | (simp; omega)) (awake20_does) rfl (by first | exact .inl rfl | exact .inr rfl) rfl ?_
    simp [go_sem]
    apply k4_; clear k4_
    refine Do.ret ?_
    simp [endQ, rets, ret1, go_sem]
    repeat (refine And.intro (by first | omega | (intros; omega) | (intros; exact And.intro (by assumption) (by omega)) | grind) ?_)
    exact TLe.refl _
  | true =>
    rw [hs] at hS
    have hsx : x.m.length ≤ 40 := by simpa [shortP] using hs
    have ox : x.Ok := ⟨by simp [Sh]; omega, hx, ex⟩
    have hN := @KArgs_nil f p r
    have hA : Does Tryz.prog Gv 13 [Fm f p, .c (.i .i64 r), .s false [x.cs]] (.int .i64 (argsE f p r false [x])) := @KArgs_does Gv f p r [x] (by simp) (by simp [ox])
    have hI := @FromInt_does f p r n m hm0 wm
    have hNo := @NoInt_does20 0 false [] (by decide)
    have hNo : Does Tryz.prog Gv 27 [.a [.b false, .z]] (.v (.c (.b true))) := hNo.weak (.cons (PLe.agg (.cons (PLe.refl _) (.cons (PLe.z false) .nil))) .nil)
    have hEe := @argsE_argsR f p r x hsx
    by_cases hr0 : argsR f p r = 0
    · obtain ⟨h1, h2, h3⟩ := argsR_zero hr0
      rw [hr0] at hN
      rw [if_neg (by omega)] at hEe
      have hq : checkQ r m [1] = 0 := by
        unfold checkQ
        rw [if_neg (by simp; omega), if_neg (by decide), if_pos ⟨h1, h2⟩]
      have hqI : roundQ f p r n m = ((intR f p r n (val m)).1, (intR f p r n (val m)).2, 0) := by
        rw [roundQ, hq, if_neg (by simp), if_neg (by simp [h3])]
        unfold intR
        split <;> rfl
      rw [hqI] at hI
      have hR := @RFromInt_does Gv f p r h3 h1 h2 n m hb wm
      obtain ⟨f1, f2⟩ := @intR_fine f p r h3 n (val m)
      generalize intR f p r n (val m) = y at *
      have hF := @Fits_same Gv y.1 y.2 f1 f2
      have hI : Does Tryz.prog Gv 24 [Fm f p, .c (.i .i64 r), .a [.b n, .w false m]] (.t [y.1.pv, .c (.i .i64 y.2), .c (.i .i64 0)]) := hI
      cases h7 : (holdsP f p x.flt).2 with
      | false =>
        rw [if_pos h7] at hEe
        rw [hEe] at hA
        have hT := @ToInt_err f p r x ox (by rw [argsC_same, hEe]; decide)
        rw [argsC_same, hEe] at hT
        refine Does.of (nt := 118) Tryz.func5 rfl rfl rfl (by simp) ?_
        simp only [argTm, PV.ext, Ce.ext]
        refine Do.seqk fun _ k1_ => ?_
        refine Do.region [1,4,6,7] true ?_
        simp [go_sem]
        apply k1_; clear k1_
        refine Do.seqk fun _ k2_ => ?_
        refine Do.seqk fun _ k3_ => ?_
        refine Do.region [1,4,6,7,28] true ?_
        simp [go_sem]
        repeat (refine And.intro (by first | omega | (intros; omega) | (intros; exact And.intro (by assumption) (by omega)) | grind) ?_)
        refine DoL.call true 102 rfl rfl rfl rfl (by first | exact trivial | omega | (simp; done) | (simp; omega)) (hB) rfl (by first | exact .inl rfl | exact .inr rfl) rfl ?_
        simp [go_sem]
        repeat (refine And.intro (by first | omega | (intros; omega) | (intros; exact And.intro (by assumption) (by omega)) | grind) ?_)
        refine DoL.gOn true 105 rfl rfl [24] (by simp [go_sem]) ?_
        simp [go_sem]
        refine DoL.sealS true 106 105 rfl ?_
        simp [go_sem]
        refine DoL.callg true 107 rfl rfl rfl rfl rfl (by simp [go_sem] <;> omega) (fun _ => hS) rfl (by first | exact .inl rfl | exact .inr rfl) rfl ?_
        simp [go_sem]
        repeat (refine And.intro (by first | omega | (intros; omega) | (intros; exact And.intro (by assumption) (by omega)) | grind) ?_)
        apply k3_; clear k3_
        refine Do.cond [1,4,6,7] rfl (fun h => ?_) (fun h => ?_) <;> simp [go_sem] at h ⊢
        refine Do.skip ?_
        simp [go_sem]
        apply k2_; clear k2_
        refine Do.seqk fun _ k4_ => ?_
        refine Do.region [1,4,6,7,9,10,11] true ?_
        simp [go_sem]
        repeat (refine And.intro (by first | omega | (intros; omega) | (intros; exact And.intro (by assumption) (by omega)) | grind) ?_)
        refine DoL.call true 304 rfl rfl rfl rfl (by first | exact trivial | omega | (simp; done) | (simp; omega)) (hI) rfl (by first | exact .inl rfl | exact .inr rfl) rfl ?_
        simp [go_sem]
        repeat (refine And.intro (by first | omega | (intros; omega) | (intros; exact And.intro (by assumption) (by omega)) | grind) ?_)
        apply k4_; clear k4_
        refine Do.seqk fun _ k5_ => ?_
        refine Do.region [1,4,6,7,9,10,11,12,13,14] true ?_
        simp [go_sem]
        repeat (refine And.intro (by first | omega | (intros; omega) | (intros; exact And.intro (by assumption) (by omega)) | grind) ?_)
        refine DoL.call true 404 rfl rfl rfl rfl (by first | exact trivial | omega | (simp; done) | (simp; omega)) (hT) rfl (by first | exact .inl rfl | exact .inr rfl) rfl ?_
        simp [go_sem]
        repeat (refine And.intro (by first | omega | (intros; omega) | (intros; exact And.intro (by assumption) (by omega)) | grind) ?_)
        apply k5_; clear k5_
        refine Do.seqk fun _ k6_ => ?_
        refine Do.region [1,4,6,7,9,10,11,12,13,14,15] true ?_
        simp [go_sem]
        repeat (refine And.intro (by first | omega | (intros; omega) | (intros; exact And.intro (by assumption) (by omega)) | grind) ?_)
        refine DoL.call true 503 rfl rfl rfl rfl (by first | exact trivial | omega | (simp; done) | (simp; omega)) (hN) rfl (by first | exact .inl rfl | exact .inr rfl) rfl ?_
        simp [go_sem]
        apply k6_; clear k6_
        refine Do.seqk fun _ k7_ => ?_
        refine Do.region [1,4,6,7,9,10,11,12,13,14,15,16,17] true ?_
        simp [go_sem]
        repeat (refine And.intro (by first | omega | (intros; omega) | (intros; exact And.intro (by assumption) (by omega)) | grind) ?_)
        apply k7_; clear k7_
        refine Do.seqk fun _ k8_ => ?_
        refine Do.seqk fun _ k9_ => ?_
        refine Do.region [1,4,6,7,9,10,11,12,13,14,15,16,17,51] true ?_
        simp [go_sem]
        apply k9_; clear k9_
        refine Do.cond [1,4,6,7,9,10,11,12,13,14,15,16,17] rfl (fun h => ?_) (fun h => ?_) <;> simp [go_sem] at h ⊢
        refine Do.draw [1,4,7,9,10,11,12,13,14,15,16,17] true (by kernel_rfl) ?_
        simp [go_sem]
        repeat (refine And.intro (by first | omega | (intros; omega) | (intros; exact And.intro (by assumption) (by omega)) | kernel_rfl | grind) ?_)
        refine DoLD.call true 802 rfl rfl rfl rfl (by first | exact trivial | omega | (simp; done) | (simp; omega)) (Fmt_does) rfl (by first | exact .inl rfl | exact .inr rfl) rfl ?_
        simp [go_sem]
        repeat (refine And.intro (by first | omega | (intros; omega) | (intros; exact And.intro (by assumption) (by omega)) | kernel_rfl | grind) ?_)
        refine DoLD.call true 805 rfl rfl rfl rfl (by first | exact trivial | omega | (simp; done) | (simp; omega)) (hR) rfl (by first | exact .inl rfl | exact .inr rfl) rfl ?_
        simp [go_sem]
        repeat (refine And.intro (by first | omega | (intros; omega) | (intros; exact And.intro (by assumption) (by omega)) | kernel_rfl | grind) ?_)
        try (refine And.intro (by kernel_rfl) ?_)
        apply k8_; clear k8_
        refine Do.seqk fun _ k10_ => ?_
        refine Do.seqk fun _ k11_ => ?_
        refine Do.region [1,4,7,12,13,14,67] true ?_
        simp [go_sem]
        repeat (refine And.intro (by first | omega | (intros; omega) | (intros; exact And.intro (by assumption) (by omega)) | grind) ?_)
        refine DoL.call true 907 rfl rfl rfl rfl (by first | exact trivial | omega | (simp; done) | (simp; omega)) (hF) rfl (by first | exact .inl rfl | exact .inr rfl) rfl ?_
        simp [go_sem]
        repeat (refine And.intro (by first | omega | (intros; omega) | (intros; exact And.intro (by assumption) (by omega)) | grind) ?_)
        apply k11_; clear k11_
        refine Do.cond [1,4,7,12,13,14] rfl (fun h => ?_) (fun h => ?_) <;> simp [go_sem] at h ⊢
        refine Do.skip ?_
        simp [go_sem]
        apply k10_; clear k10_
        refine Do.seqk fun _ k12_ => ?_
        refine Do.seqk fun _ k13_ => ?_
        refine Do.region [1,7,12,13,14,15] true ?_
        simp [go_sem]
        repeat (refine And.intro (by first | omega | (intros; omega) | (intros; exact And.intro (by assumption) (by omega)) | grind) ?_)
        refine DoL.sealS true 1104 1103 rfl ?_
        simp [go_sem]
        refine DoL.call true 1105 rfl rfl rfl rfl (by first | exact trivial | omega | (simp; done) | (simp; omega)) (hA) rfl (by first | exact .inl rfl | exact .inr rfl) rfl ?_
        simp [go_sem]
        apply k13_; clear k13_
        refine Do.seqk fun _ k14_ => ?_
        refine Do.region [1,7,12,13,14,15,79] true ?_
        simp [go_sem]
        repeat (refine And.intro (by first | omega | (intros; omega) | (intros; exact And.intro (by assumption) (by omega)) | grind) ?_)
        apply k14_; clear k14_
        refine Do.cond [1,7,12,13,14,15] rfl (fun h => ?_) (fun h => ?_) <;> simp [go_sem] at h ⊢
        refine Do.skip ?_
        simp [go_sem]
        apply k12_; clear k12_
        refine Do.seqk fun _ k15_ => ?_
        refine Do.seqk fun _ k16_ => ?_
        refine Do.region [1,7,12,13,14,15,81] true ?_
        simp [go_sem]
        apply k16_; clear k16_
        refine Do.cond [1,7,12,13,14,15] rfl (fun h => ?_) (fun h => ?_) <;> simp [go_sem] at h ⊢
        refine Do.seqk fun _ k17_ => ?_
        refine Do.region [8] true ?_
        simp [go_sem]
        repeat (refine And.intro (by first | omega | (intros; omega) | (intros; exact And.intro (by assumption) (by omega)) | grind) ?_)
        refine DoL.callg true 1506 rfl rfl rfl rfl rfl (by simp [go_sem] <;> omega) (fun _ => hNo) rfl (by first | exact .inl rfl | exact .inr rfl) rfl ?_
        simp [go_sem]
        refine DoL.callg true 1513 rfl rfl rfl rfl rfl (by simp [go_sem] <;> omega) (fun _ => awake20_does) rfl (by first | exact .inl rfl | exact .inr rfl) rfl ?_
        simp [go_sem]
        apply k17_; clear k17_
        refine Do.ret ?_
        simp [endQ, rets, ret1, go_sem]
        repeat (refine And.intro (by first | omega | (intros; omega) | (intros; exact And.intro (by assumption) (by omega)) | grind) ?_)
        exact TLe.refl _
      | true =>
        rw [if_neg (by simp [h7])] at hEe
        rw [hEe] at hA
        have hc : argsC f p f p r false x = 0 := by rw [argsC_same]; exact hEe
        have hra := (held_rcanon h7).1
        obtain ⟨a, ha⟩ : ∃ a, (holdsP f p x.flt).1 = a := ⟨_, rfl⟩
        have hbd := holdsP_bound h3 h7
        have hk4 := (canon_kind (held_rcanon h7).2).1
        have hfn := held_fine20 h3 h7
        rw [ha] at hra hbd hfn
        have hak : a.k = x.k := by rw [← hra, rcanon_k]; rfl
        have hk4 : x.k = 0 ∨ x.k = 1 ∨ x.k = 2 ∨ x.k = 3 := hk4
        by_cases hk : a.k = 0 ∨ a.k = 1
        · have hok : (Nu.mk a.n a.v a.e).Ok ∧ a.e.toNat + bl a.v ≤ 100000 := by
            rcases hk with hk | hk
            · have h := hfn.2
              unfold rcanon at h
              rw [if_neg (by omega)] at h
              have e1 := congrArg Flt.e h
              have e2 := congrArg Flt.v h
              simp only [] at e1 e2
              rw [← e1, ← e2]
              exact ⟨⟨by show (-4194304 : Int) ≤ 0; decide, by show (0 : Int) + (bl 0 : Nat) ≤ 4194304; rw [bl_zero]; decide⟩, by decide⟩
            · have h := hbd hk
              have h2 := hfn.1.v
              have h3 := held_fin20 h7 (by rw [ha]; exact hk)
              rw [ha] at h3
              obtain ⟨b1, b2, b3, b4⟩ := fmOk_spec ‹fmOk f p = true›
              exact ⟨⟨h.1, by show a.e + bl a.v ≤ 4194304; omega⟩, by omega⟩
          have hT := @ToInt_does f p r x ox hc a ha hk hok.1
          have hrt := held_rt (f := f) (p := p) (l := [x]) (by simpa [allHold] using h7) (by simp [ox]) (by simp; omega) x (by simp)
          have hRT := @RToInt_does Gv r h1 h2 x hrt a hra hk
          have hzb : bl (sgn a.n (wholeP r ⟨a.n, a.v, a.e⟩).1).natAbs ≤ 1000000 := by
            rw [sgn_abs]
            have := wholeP_bl r ⟨a.n, a.v, a.e⟩
            simp only [] at this
            have := hok.2
            omega
          have hIs := @IIs_same Gv _ hzb
          generalize sgn a.n (wholeP r ⟨a.n, a.v, a.e⟩).1 = z at *
          generalize (if (wholeP r ⟨a.n, a.v, a.e⟩).2 = true then (0 : Int) else 1) = fl at *
          have hxk : ¬ 1 < x.k := by omega
          refine Does.of (nt := 118) Tryz.func5 rfl rfl rfl (by simp) ?_
          simp only [argTm, PV.ext, Ce.ext]
          refine Do.seqk fun _ k1_ => ?_
          refine Do.region [1,4,6,7] true ?_
          simp [go_sem]
          apply k1_; clear k1_
          refine Do.seqk fun _ k2_ => ?_
          refine Do.seqk fun _ k3_ => ?_
          refine Do.region [1,4,6,7,28] true ?_
          simp [go_sem]
          repeat (refine And.intro (by first | omega | (intros; omega) | (intros; exact And.intro (by assumption) (by omega)) | grind) ?_)
          refine DoL.call true 102 rfl rfl rfl rfl (by first | exact trivial | omega | (simp; done) | (simp; omega)) (hB) rfl (by first | exact .inl rfl | exact .inr rfl) rfl ?_
          simp [go_sem]
          repeat (refine And.intro (by first | omega | (intros; omega) | (intros; exact And.intro (by assumption) (by omega)) | grind) ?_)
          refine DoL.gOn true 105 rfl rfl [24] (by simp [go_sem]) ?_
          simp [go_sem]
          refine DoL.sealS true 106 105 rfl ?_
          simp [go_sem]
          refine DoL.callg true 107 rfl rfl rfl rfl rfl (by simp [go_sem] <;> omega) (fun _ => hS) rfl (by first | exact .inl rfl | exact .inr rfl) rfl ?_
          simp [go_sem]
          repeat (refine And.intro (by first | omega | (intros; omega) | (intros; exact And.intro (by assumption) (by omega)) | grind) ?_)
          apply k3_; clear k3_
          refine Do.cond [1,4,6,7] rfl (fun h => ?_) (fun h => ?_) <;> simp [go_sem] at h ⊢
          refine Do.skip ?_
          simp [go_sem]
          apply k2_; clear k2_
          refine Do.seqk fun _ k4_ => ?_
          refine Do.region [1,4,6,7,9,10,11] true ?_
          simp [go_sem]
          repeat (refine And.intro (by first | omega | (intros; omega) | (intros; exact And.intro (by assumption) (by omega)) | grind) ?_)
          refine DoL.call true 304 rfl rfl rfl rfl (by first | exact trivial | omega | (simp; done) | (simp; omega)) (hI) rfl (by first | exact .inl rfl | exact .inr rfl) rfl ?_
          simp [go_sem]
          repeat (refine And.intro (by first | omega | (intros; omega) | (intros; exact And.intro (by assumption) (by omega)) | grind) ?_)
          apply k4_; clear k4_
          refine Do.seqk fun _ k5_ => ?_
          refine Do.region [1,4,6,7,9,10,11,12,13,14] true ?_
          simp [go_sem]
          repeat (refine And.intro (by first | omega | (intros; omega) | (intros; exact And.intro (by assumption) (by omega)) | grind) ?_)
          refine DoL.call true 404 rfl rfl rfl rfl (by first | exact trivial | omega | (simp; done) | (simp; omega)) (hT) rfl (by first | exact .inl rfl | exact .inr rfl) rfl ?_
          simp [go_sem]
          repeat (refine And.intro (by first | omega | (intros; omega) | (intros; exact And.intro (by assumption) (by omega)) | grind) ?_)
          apply k5_; clear k5_
          refine Do.seqk fun _ k6_ => ?_
          refine Do.region [1,4,6,7,9,10,11,12,13,14,15] true ?_
          simp [go_sem]
          repeat (refine And.intro (by first | omega | (intros; omega) | (intros; exact And.intro (by assumption) (by omega)) | grind) ?_)
          refine DoL.call true 503 rfl rfl rfl rfl (by first | exact trivial | omega | (simp; done) | (simp; omega)) (hN) rfl (by first | exact .inl rfl | exact .inr rfl) rfl ?_
          simp [go_sem]
          apply k6_; clear k6_
          refine Do.seqk fun _ k7_ => ?_
          refine Do.region [1,4,6,7,9,10,11,12,13,14,15,16,17] true ?_
          simp [go_sem]
          repeat (refine And.intro (by first | omega | (intros; omega) | (intros; exact And.intro (by assumption) (by omega)) | grind) ?_)
          apply k7_; clear k7_
          refine Do.seqk fun _ k8_ => ?_
          refine Do.seqk fun _ k9_ => ?_
          refine Do.region [1,4,6,7,9,10,11,12,13,14,15,16,17,51] true ?_
          simp [go_sem]
          apply k9_; clear k9_
          refine Do.cond [1,4,6,7,9,10,11,12,13,14,15,16,17] rfl (fun h => ?_) (fun h => ?_) <;> simp [go_sem] at h ⊢
          refine Do.draw [1,4,7,9,10,11,12,13,14,15,16,17] true (by kernel_rfl) ?_
          simp [go_sem]
          repeat (refine And.intro (by first | omega | (intros; omega) | (intros; exact And.intro (by assumption) (by omega)) | kernel_rfl | grind) ?_)
          refine DoLD.call true 802 rfl rfl rfl rfl (by first | exact trivial | omega | (simp; done) | (simp; omega)) (Fmt_does) rfl (by first | exact .inl rfl | exact .inr rfl) rfl ?_
          simp [go_sem]
          repeat (refine And.intro (by first | omega | (intros; omega) | (intros; exact And.intro (by assumption) (by omega)) | kernel_rfl | grind) ?_)
          refine DoLD.call true 805 rfl rfl rfl rfl (by first | exact trivial | omega | (simp; done) | (simp; omega)) (hR) rfl (by first | exact .inl rfl | exact .inr rfl) rfl ?_
          simp [go_sem]
          repeat (refine And.intro (by first | omega | (intros; omega) | (intros; exact And.intro (by assumption) (by omega)) | kernel_rfl | grind) ?_)
          try (refine And.intro (by kernel_rfl) ?_)
          apply k8_; clear k8_
          refine Do.seqk fun _ k10_ => ?_
          refine Do.seqk fun _ k11_ => ?_
          refine Do.region [1,4,7,12,13,14,67] true ?_
          simp [go_sem]
          repeat (refine And.intro (by first | omega | (intros; omega) | (intros; exact And.intro (by assumption) (by omega)) | grind) ?_)
          refine DoL.call true 907 rfl rfl rfl rfl (by first | exact trivial | omega | (simp; done) | (simp; omega)) (hF) rfl (by first | exact .inl rfl | exact .inr rfl) rfl ?_
          simp [go_sem]
          repeat (refine And.intro (by first | omega | (intros; omega) | (intros; exact And.intro (by assumption) (by omega)) | grind) ?_)
          apply k11_; clear k11_
          refine Do.cond [1,4,7,12,13,14] rfl (fun h => ?_) (fun h => ?_) <;> simp [go_sem] at h ⊢
          refine Do.skip ?_
          simp [go_sem]
          apply k10_; clear k10_
          refine Do.seqk fun _ k12_ => ?_
          refine Do.seqk fun _ k13_ => ?_
          refine Do.region [1,7,12,13,14,15] true ?_
          simp [go_sem]
          repeat (refine And.intro (by first | omega | (intros; omega) | (intros; exact And.intro (by assumption) (by omega)) | grind) ?_)
          refine DoL.sealS true 1104 1103 rfl ?_
          simp [go_sem]
          refine DoL.call true 1105 rfl rfl rfl rfl (by first | exact trivial | omega | (simp; done) | (simp; omega)) (hA) rfl (by first | exact .inl rfl | exact .inr rfl) rfl ?_
          simp [go_sem]
          apply k13_; clear k13_
          refine Do.seqk fun _ k14_ => ?_
          refine Do.region [1,7,12,13,14,15,79] true ?_
          simp [go_sem]
          repeat (refine And.intro (by first | omega | (intros; omega) | (intros; exact And.intro (by assumption) (by omega)) | grind) ?_)
          apply k14_; clear k14_
          refine Do.cond [1,7,12,13,14,15] rfl (fun h => ?_) (fun h => ?_) <;> simp [go_sem] at h ⊢
          · exact absurd h hxk
          · refine Do.skip ?_
            simp [go_sem]
            apply k12_; clear k12_
            refine Do.seqk fun _ k15_ => ?_
            refine Do.seqk fun _ k16_ => ?_
            refine Do.region [1,7,12,13,14,15,81] true ?_
            simp [go_sem]
            apply k16_; clear k16_
            refine Do.cond [1,7,12,13,14,15] rfl (fun h => ?_) (fun h => ?_) <;> simp [go_sem] at h ⊢
            refine Do.skip ?_
            simp [go_sem]
            apply k15_; clear k15_
            refine Do.seqk fun _ k17_ => ?_
            refine Do.region [12,13,14,18,19] true ?_
            simp [go_sem]
            repeat (refine And.intro (by first | omega | (intros; omega) | (intros; exact And.intro (by assumption) (by omega)) | grind) ?_)
            refine DoL.call true 1603 rfl rfl rfl rfl (by first | exact trivial | omega | (simp; done) | (simp; omega)) (Their_does) rfl (by first | exact .inl rfl | exact .inr rfl) rfl ?_
            simp [go_sem]
            refine DoL.call true 1604 rfl rfl rfl rfl (by first | exact trivial | omega | (simp; done) | (simp; omega)) (hRT) rfl (by first | exact .inl rfl | exact .inr rfl) rfl ?_
            simp [go_sem]
            repeat (refine And.intro (by first | omega | (intros; omega) | (intros; exact And.intro (by assumption) (by omega)) | grind) ?_)
            apply k17_; clear k17_
            refine Do.seqk fun _ k18_ => ?_
            refine Do.region [8] true ?_
            simp [go_sem]
            repeat (refine And.intro (by first | omega | (intros; omega) | (intros; exact And.intro (by assumption) (by omega)) | grind) ?_)
            refine DoL.callg true 1706 rfl rfl rfl rfl rfl (by simp [go_sem] <;> omega) (fun _ => hIs) rfl (by first | exact .inl rfl | exact .inr rfl) rfl ?_
            simp [go_sem]
            refine DoL.callg true 1714 rfl rfl rfl rfl rfl (by simp [go_sem] <;> omega) (fun _ => awake20_does) rfl (by first | exact .inl rfl | exact .inr rfl) rfl ?_
            simp [go_sem]
            apply k18_; clear k18_
            refine Do.ret ?_
            simp [endQ, rets, ret1, go_sem]
            repeat (refine And.intro (by first | omega | (intros; omega) | (intros; exact And.intro (by assumption) (by omega)) | grind) ?_)
            exact TLe.refl _
        · have hT := @ToInt_none f p r x ox hc (by rw [ha]; exact hk)
          have hxk : 1 < x.k := by omega
          refine Does.of (nt := 118) Tryz.func5 rfl rfl rfl (by simp) ?_
          simp only [argTm, PV.ext, Ce.ext]
          refine Do.seqk fun _ k1_ => ?_
          refine Do.region [1,4,6,7] true ?_
          simp [go_sem]
          apply k1_; clear k1_
          refine Do.seqk fun _ k2_ => ?_
          refine Do.seqk fun _ k3_ => ?_
          refine Do.region [1,4,6,7,28] true ?_
          simp [go_sem]
          repeat (refine And.intro (by first | omega | (intros; omega) | (intros; exact And.intro (by assumption) (by omega)) | grind) ?_)
          refine DoL.call true 102 rfl rfl rfl rfl (by first | exact trivial | omega | (simp; done) | (simp; omega)) (hB) rfl (by first | exact .inl rfl | exact .inr rfl) rfl ?_
          simp [go_sem]
          repeat (refine And.intro (by first | omega | (intros; omega) | (intros; exact And.intro (by assumption) (by omega)) | grind) ?_)
          refine DoL.gOn true 105 rfl rfl [24] (by simp [go_sem]) ?_
          simp [go_sem]
          refine DoL.sealS true 106 105 rfl ?_
          simp [go_sem]
          refine DoL.callg true 107 rfl rfl rfl rfl rfl (by simp [go_sem] <;> omega) (fun _ => hS) rfl (by first | exact .inl rfl | exact .inr rfl) rfl ?_
          simp [go_sem]
          repeat (refine And.intro (by first | omega | (intros; omega) | (intros; exact And.intro (by assumption) (by omega)) | grind) ?_)
          apply k3_; clear k3_
          refine Do.cond [1,4,6,7] rfl (fun h => ?_) (fun h => ?_) <;> simp [go_sem] at h ⊢
          refine Do.skip ?_
          simp [go_sem]
          apply k2_; clear k2_
          refine Do.seqk fun _ k4_ => ?_
          refine Do.region [1,4,6,7,9,10,11] true ?_
          simp [go_sem]
          repeat (refine And.intro (by first | omega | (intros; omega) | (intros; exact And.intro (by assumption) (by omega)) | grind) ?_)
          refine DoL.call true 304 rfl rfl rfl rfl (by first | exact trivial | omega | (simp; done) | (simp; omega)) (hI) rfl (by first | exact .inl rfl | exact .inr rfl) rfl ?_
          simp [go_sem]
          repeat (refine And.intro (by first | omega | (intros; omega) | (intros; exact And.intro (by assumption) (by omega)) | grind) ?_)
          apply k4_; clear k4_
          refine Do.seqk fun _ k5_ => ?_
          refine Do.region [1,4,6,7,9,10,11,12,13,14] true ?_
          simp [go_sem]
          repeat (refine And.intro (by first | omega | (intros; omega) | (intros; exact And.intro (by assumption) (by omega)) | grind) ?_)
          refine DoL.call true 404 rfl rfl rfl rfl (by first | exact trivial | omega | (simp; done) | (simp; omega)) (hT) rfl (by first | exact .inl rfl | exact .inr rfl) rfl ?_
          simp [go_sem]
          repeat (refine And.intro (by first | omega | (intros; omega) | (intros; exact And.intro (by assumption) (by omega)) | grind) ?_)
          apply k5_; clear k5_
          refine Do.seqk fun _ k6_ => ?_
          refine Do.region [1,4,6,7,9,10,11,12,13,14,15] true ?_
          simp [go_sem]
          repeat (refine And.intro (by first | omega | (intros; omega) | (intros; exact And.intro (by assumption) (by omega)) | grind) ?_)
          refine DoL.call true 503 rfl rfl rfl rfl (by first | exact trivial | omega | (simp; done) | (simp; omega)) (hN) rfl (by first | exact .inl rfl | exact .inr rfl) rfl ?_
          simp [go_sem]
          apply k6_; clear k6_
          refine Do.seqk fun _ k7_ => ?_
          refine Do.region [1,4,6,7,9,10,11,12,13,14,15,16,17] true ?_
          simp [go_sem]
          repeat (refine And.intro (by first | omega | (intros; omega) | (intros; exact And.intro (by assumption) (by omega)) | grind) ?_)
          apply k7_; clear k7_
          refine Do.seqk fun _ k8_ => ?_
          refine Do.seqk fun _ k9_ => ?_
          refine Do.region [1,4,6,7,9,10,11,12,13,14,15,16,17,51] true ?_
          simp [go_sem]
          apply k9_; clear k9_
          refine Do.cond [1,4,6,7,9,10,11,12,13,14,15,16,17] rfl (fun h => ?_) (fun h => ?_) <;> simp [go_sem] at h ⊢
          refine Do.draw [1,4,7,9,10,11,12,13,14,15,16,17] true (by kernel_rfl) ?_
          simp [go_sem]
          repeat (refine And.intro (by first | omega | (intros; omega) | (intros; exact And.intro (by assumption) (by omega)) | kernel_rfl | grind) ?_)
          refine DoLD.call true 802 rfl rfl rfl rfl (by first | exact trivial | omega | (simp; done) | (simp; omega)) (Fmt_does) rfl (by first | exact .inl rfl | exact .inr rfl) rfl ?_
          simp [go_sem]
          repeat (refine And.intro (by first | omega | (intros; omega) | (intros; exact And.intro (by assumption) (by omega)) | kernel_rfl | grind) ?_)
          refine DoLD.call true 805 rfl rfl rfl rfl (by first | exact trivial | omega | (simp; done) | (simp; omega)) (hR) rfl (by first | exact .inl rfl | exact .inr rfl) rfl ?_
          simp [go_sem]
          repeat (refine And.intro (by first | omega | (intros; omega) | (intros; exact And.intro (by assumption) (by omega)) | kernel_rfl | grind) ?_)
          try (refine And.intro (by kernel_rfl) ?_)
          apply k8_; clear k8_
          refine Do.seqk fun _ k10_ => ?_
          refine Do.seqk fun _ k11_ => ?_
          refine Do.region [1,4,7,12,13,14,67] true ?_
          simp [go_sem]
          repeat (refine And.intro (by first | omega | (intros; omega) | (intros; exact And.intro (by assumption) (by omega)) | grind) ?_)
          refine DoL.call true 907 rfl rfl rfl rfl (by first | exact trivial | omega | (simp; done) | (simp; omega)) (hF) rfl (by first | exact .inl rfl | exact .inr rfl) rfl ?_
          simp [go_sem]
          repeat (refine And.intro (by first | omega | (intros; omega) | (intros; exact And.intro (by assumption) (by omega)) | grind) ?_)
          apply k11_; clear k11_
          refine Do.cond [1,4,7,12,13,14] rfl (fun h => ?_) (fun h => ?_) <;> simp [go_sem] at h ⊢
          refine Do.skip ?_
          simp [go_sem]
          apply k10_; clear k10_
          refine Do.seqk fun _ k12_ => ?_
          refine Do.seqk fun _ k13_ => ?_
          refine Do.region [1,7,12,13,14,15] true ?_
          simp [go_sem]
          repeat (refine And.intro (by first | omega | (intros; omega) | (intros; exact And.intro (by assumption) (by omega)) | grind) ?_)
          refine DoL.sealS true 1104 1103 rfl ?_
          simp [go_sem]
          refine DoL.call true 1105 rfl rfl rfl rfl (by first | exact trivial | omega | (simp; done) | (simp; omega)) (hA) rfl (by first | exact .inl rfl | exact .inr rfl) rfl ?_
          simp [go_sem]
          apply k13_; clear k13_
          refine Do.seqk fun _ k14_ => ?_
          refine Do.region [1,7,12,13,14,15,79] true ?_
          simp [go_sem]
          repeat (refine And.intro (by first | omega | (intros; omega) | (intros; exact And.intro (by assumption) (by omega)) | grind) ?_)
          apply k14_; clear k14_
          refine Do.cond [1,7,12,13,14,15] rfl (fun h => ?_) (fun h => ?_) <;> simp [go_sem] at h ⊢
          · refine Do.region [1,7,12,13,14,15] true ?_
            simp [go_sem]
            apply k12_; clear k12_
            refine Do.seqk fun _ k15_ => ?_
            refine Do.seqk fun _ k16_ => ?_
            refine Do.region [1,7,12,13,14,15,81] true ?_
            simp [go_sem]
            apply k16_; clear k16_
            refine Do.cond [1,7,12,13,14,15] rfl (fun h => ?_) (fun h => ?_) <;> simp [go_sem] at h ⊢
            refine Do.seqk fun _ k17_ => ?_
            refine Do.region [8] true ?_
            simp [go_sem]
            repeat (refine And.intro (by first | omega | (intros; omega) | (intros; exact And.intro (by assumption) (by omega)) | grind) ?_)
            refine DoL.callg true 1506 rfl rfl rfl rfl rfl (by simp [go_sem] <;> omega) (fun _ => hNo) rfl (by first | exact .inl rfl | exact .inr rfl) rfl ?_
            simp [go_sem]
            refine DoL.callg true 1513 rfl rfl rfl rfl rfl (by simp [go_sem] <;> omega) (fun _ => awake20_does) rfl (by first | exact .inl rfl | exact .inr rfl) rfl ?_
            simp [go_sem]
            apply k17_; clear k17_
            refine Do.ret ?_
            simp [endQ, rets, ret1, go_sem]
            repeat (refine And.intro (by first | omega | (intros; omega) | (intros; exact And.intro (by assumption) (by omega)) | grind) ?_)
            exact TLe.refl _
          · omega
    · rw [if_pos hr0] at hEe
      rw [hEe] at hA
      have hT := @ToInt_err f p r x ox (by rw [argsC_same, hEe]; exact hr0)
      rw [argsC_same, hEe] at hT
      have hqI : roundQ f p r n m = (⟨0, false, 0, 0⟩, 0, argsR f p r) := by
        unfold roundQ argsR checkQ
        rw [if_neg (show ¬ (4096 < m.length ∨ 4096 < [1].length) by simp; omega), if_neg (show ¬ val [1] = 0 by decide)]
        unfold argsR at hr0
        by_cases g1 : 0 ≤ r ∧ r ≤ 4
        · rw [if_pos g1]
          have g2 : (decide (0 ≤ r) && decide (r ≤ 4)) = true := by simp [g1]
          rw [if_neg (by simp [g2])] at hr0 ⊢
          cases g3 : fmOk f p <;> simp [g2, g3] at hr0 ⊢
        · have g2 : (decide (0 ≤ r) && decide (r ≤ 4)) = false := by
            rw [Bool.and_eq_false_iff, decide_eq_false_iff_not, decide_eq_false_iff_not]; omega
          rw [if_neg g1, if_pos g2]
          rfl
      rw [hqI] at hI
      have hF := @Fits_none 0 0 false [] 0 (argsR f p r) ⟨rfl, rfl, rfl, rfl⟩ hr0 (argsR f p r)
      generalize argsR f p r = ae at *
      have hI : Does Tryz.prog Gv 24 [Fm f p, .c (.i .i64 r), .a [.b n, .w false m]] (.t [Fl 0 false 0 (nat 0), .c (.i .i64 0), .c (.i .i64 ae)]) := hI
      rw [nat_zero] at hI
      have hz : (ae != 0) = true := by simpa using hr0
      have hz2 : (ae == 0) = false := by simpa using hr0
      refine Does.of (nt := 118) Tryz.func5 rfl rfl rfl (by simp) ?_
      simp only [argTm, PV.ext, Ce.ext]
      refine Do.seqk fun _ k1_ => ?_
      refine Do.region [1,4,6,7] true ?_
      simp [go_sem]
      apply k1_; clear k1_
      refine Do.seqk fun _ k2_ => ?_
      refine Do.seqk fun _ k3_ => ?_
      refine Do.region [1,4,6,7,28] true ?_
      simp [go_sem]
      repeat (refine And.intro (by first | omega | (intros; omega) | (intros; exact And.intro (by assumption) (by omega)) | grind) ?_)
      refine DoL.call true 102 rfl rfl rfl rfl (by first | exact trivial | omega | (simp; done) | (simp; omega)) (hB) rfl (by first | exact .inl rfl | exact .inr rfl) rfl ?_
      simp [go_sem]
      repeat (refine And.intro (by first | omega | (intros; omega) | (intros; exact And.intro (by assumption) (by omega)) | grind) ?_)
      refine DoL.gOn true 105 rfl rfl [24] (by simp [go_sem]) ?_
      simp [go_sem]
      refine DoL.sealS true 106 105 rfl ?_
      simp [go_sem]
      refine DoL.callg true 107 rfl rfl rfl rfl rfl (by simp [go_sem] <;> omega) (fun _ => hS) rfl (by first | exact .inl rfl | exact .inr rfl) rfl ?_
      simp [go_sem]
      repeat (refine And.intro (by first | omega | (intros; omega) | (intros; exact And.intro (by assumption) (by omega)) | grind) ?_)
      apply k3_; clear k3_
      refine Do.cond [1,4,6,7] rfl (fun h => ?_) (fun h => ?_) <;> simp [go_sem] at h ⊢
      refine Do.skip ?_
      simp [go_sem]
      apply k2_; clear k2_
      refine Do.seqk fun _ k4_ => ?_
      refine Do.region [1,4,6,7,9,10,11] true ?_
      simp [go_sem]
      repeat (refine And.intro (by first | omega | (intros; omega) | (intros; exact And.intro (by assumption) (by omega)) | grind) ?_)
      refine DoL.call true 304 rfl rfl rfl rfl (by first | exact trivial | omega | (simp; done) | (simp; omega)) (hI) rfl (by first | exact .inl rfl | exact .inr rfl) rfl ?_
      simp [go_sem]
      repeat (refine And.intro (by first | omega | (intros; omega) | (intros; exact And.intro (by assumption) (by omega)) | grind) ?_)
      apply k4_; clear k4_
      refine Do.seqk fun _ k5_ => ?_
      refine Do.region [1,4,6,7,9,10,11,12,13,14] true ?_
      simp [go_sem]
      repeat (refine And.intro (by first | omega | (intros; omega) | (intros; exact And.intro (by assumption) (by omega)) | grind) ?_)
      refine DoL.call true 404 rfl rfl rfl rfl (by first | exact trivial | omega | (simp; done) | (simp; omega)) (hT) rfl (by first | exact .inl rfl | exact .inr rfl) rfl ?_
      simp [go_sem]
      repeat (refine And.intro (by first | omega | (intros; omega) | (intros; exact And.intro (by assumption) (by omega)) | grind) ?_)
      apply k5_; clear k5_
      refine Do.seqk fun _ k6_ => ?_
      refine Do.region [1,4,6,7,9,10,11,12,13,14,15] true ?_
      simp [go_sem]
      repeat (refine And.intro (by first | omega | (intros; omega) | (intros; exact And.intro (by assumption) (by omega)) | grind) ?_)
      refine DoL.call true 503 rfl rfl rfl rfl (by first | exact trivial | omega | (simp; done) | (simp; omega)) (hN) rfl (by first | exact .inl rfl | exact .inr rfl) rfl ?_
      simp [go_sem]
      apply k6_; clear k6_
      refine Do.seqk fun _ k7_ => ?_
      refine Do.region [1,4,6,7,9,10,11,12,13,14,15,16,17] true ?_
      simp [go_sem, hz, hz2]
      repeat (refine And.intro (by first | omega | (intros; omega) | (intros; exact And.intro (by assumption) (by omega)) | grind) ?_)
      apply k7_; clear k7_
      refine Do.seqk fun _ k8_ => ?_
      refine Do.seqk fun _ k9_ => ?_
      refine Do.region [1,4,6,7,9,10,11,12,13,14,15,16,17,51] true ?_
      simp [go_sem, hz, hz2]
      apply k9_; clear k9_
      refine Do.cond [1,4,6,7,9,10,11,12,13,14,15,16,17] rfl (fun h => ?_) (fun h => ?_) <;> simp [go_sem, hz, hz2] at h ⊢
      refine Do.skip ?_
      simp [go_sem]
      apply k8_; clear k8_
      refine Do.seqk fun _ k10_ => ?_
      refine Do.seqk fun _ k11_ => ?_
      refine Do.region [1,4,7,12,13,14,67] true ?_
      simp [go_sem, hz, hz2]
      repeat (refine And.intro (by first | omega | (intros; omega) | (intros; exact And.intro (by assumption) (by omega)) | grind) ?_)
      refine DoL.call true 907 rfl rfl rfl rfl (by first | exact trivial | omega | (simp; done) | (simp; omega)) (hF) rfl (by first | exact .inl rfl | exact .inr rfl) rfl ?_
      simp [go_sem, hz, hz2]
      repeat (refine And.intro (by first | omega | (intros; omega) | (intros; exact And.intro (by assumption) (by omega)) | grind) ?_)
      apply k11_; clear k11_
      refine Do.cond [1,4,7,12,13,14] rfl (fun h => ?_) (fun h => ?_) <;> simp [go_sem, hz, hz2] at h ⊢
      refine Do.skip ?_
      simp [go_sem]
      apply k10_; clear k10_
      refine Do.seqk fun _ k12_ => ?_
      refine Do.seqk fun _ k13_ => ?_
      refine Do.region [1,7,12,13,14,15] true ?_
      simp [go_sem, hz, hz2]
      repeat (refine And.intro (by first | omega | (intros; omega) | (intros; exact And.intro (by assumption) (by omega)) | grind) ?_)
      refine DoL.sealS true 1104 1103 rfl ?_
      simp [go_sem]
      refine DoL.call true 1105 rfl rfl rfl rfl (by first | exact trivial | omega | (simp; done) | (simp; omega)) (hA) rfl (by first | exact .inl rfl | exact .inr rfl) rfl ?_
      simp [go_sem, hz, hz2]
      apply k13_; clear k13_
      refine Do.seqk fun _ k14_ => ?_
      refine Do.region [1,7,12,13,14,15,79] true ?_
      simp [go_sem, hz, hz2]
      repeat (refine And.intro (by first | omega | (intros; omega) | (intros; exact And.intro (by assumption) (by omega)) | grind) ?_)
      apply k14_; clear k14_
      refine Do.cond [1,7,12,13,14,15] rfl (fun h => ?_) (fun h => ?_) <;> simp [go_sem, hz, hz2] at h ⊢
      refine Do.skip ?_
      simp [go_sem]
      apply k12_; clear k12_
      refine Do.seqk fun _ k15_ => ?_
      refine Do.seqk fun _ k16_ => ?_
      refine Do.region [1,7,12,13,14,15,81] true ?_
      simp [go_sem, hz, hz2]
      apply k16_; clear k16_
      refine Do.cond [1,7,12,13,14,15] rfl (fun h => ?_) (fun h => ?_) <;> simp [go_sem, hz, hz2] at h ⊢
      refine Do.seqk fun _ k17_ => ?_
      refine Do.region [8] true ?_
      simp [go_sem, hz, hz2]
      repeat (refine And.intro (by first | omega | (intros; omega) | (intros; exact And.intro (by assumption) (by omega)) | grind) ?_)
      refine DoL.callg true 1506 rfl rfl rfl rfl rfl (by simp [go_sem] <;> omega) (fun _ => hNo) rfl (by first | exact .inl rfl | exact .inr rfl) rfl ?_
      simp [go_sem, hz, hz2]
      refine DoL.callg true 1513 rfl rfl rfl rfl rfl (by simp [go_sem] <;> omega) (fun _ => awake20_does) rfl (by first | exact .inl rfl | exact .inr rfl) rfl ?_
      simp [go_sem, hz, hz2]
      apply k17_; clear k17_
      refine Do.ret ?_
      simp [endQ, rets, ret1, go_sem, hz, hz2]
      repeat (refine And.intro (by first | omega | (intros; omega) | (intros; exact And.intro (by assumption) (by omega)) | grind) ?_)
      exact TLe.refl _
end Go.Proofs.YtokgalpflooegaaGreatDoor
/- The row of ConvertInts. No condition. -/
namespace Go.Proofs.YtokgalpflooegaaGreatDoor
set_option linter.unusedVariables false
set_option linter.unusedSimpArgs false
open Go.ChangeShapes Go.WideShapes Go.ChangeAt Go.RowKit
set_option maxRecDepth 100000
namespace convertInts
set_option maxRecDepth 100000 in
theorem lifted (os : Os) (started : os.Started) (H : Type) (enc : TypeId × Value → H) :
    ReturnsInHanded {} Tryz.checked os 5 .any (fun w args => (Rows.convertIntsSpec.pre enc Tryz.prog Tryz.f5 [] false w args ∧ laidMetH Tryz.prog laidL w) ∧ sizedMet enc Tryz.prog Tryz.f5 (OpenSpec.ofChange Rows.convertIntsSpec) false w args)
      (Rows.convertIntsSpec.post enc Tryz.prog Tryz.f5 false true false false) := by
  refine returnsInHanded_of_change_and (C := Tryz.checked) (X := fun w _ => laidMetH Tryz.prog laidL w) (fun _ _ _ hh h => h.of_heap hh) own started (by kernel_rfl) Tryz.func5
    (ChangeSpec.witness_shaped (enc := enc) (C := Tryz.checked) (os := os) (X := fun w _ => laidMetH Tryz.prog laidL w) false (World.doorLaid Tryz.prog doorN os) #[.agg #[.int .i64 0, .int .i64 0], .int .i64 0, .agg #[.bool false, .slice Option.none 0 0], .agg #[.int .i64 0, .bool false, .int .i64 0, .slice Option.none 0 0]] doorK rfl (World.shaped_of_RefB (by kernel_rfl) (by kernel_rfl)) (by kernel_rfl) (by kernel_rfl) (by kernel_rfl) (door_met os _)) ?_
  intro W base args ds gs before hval0 hW _ _ hL _
  have hval : ∀ (j : Nat) t v, Tryz.f5.params[j]? = some t → args[j]? = some v → Value.okWide Tryz.prog W .any base t v := hval0
  have hW' := hW
  obtain ⟨p, q, hA0, hV, rfl, hfz, hnd⟩ := hW
  have hA : DataW.TrodAll enc Tryz.prog W 0 (fun _ => true) true Tryz.f5.params.toList args.toList ds p := hA0
  rw [Tryz.params5] at hA hval
  obtain ⟨v0, vs0, d0, ds0, p0, q0, hargs, rfl, rfl, h0, r0⟩ := trodAll_cons hA
  obtain ⟨v1, vs1, d1, ds1, p1, q1, rfl, rfl, rfl, h1, r1⟩ := trodAll_cons r0
  obtain ⟨v2, vs2, d2, ds2, p2, q2, rfl, rfl, rfl, h2, r2⟩ := trodAll_cons r1
  obtain ⟨v3, vs3, d3, ds3, p3, q3, rfl, rfl, rfl, h3, r3⟩ := trodAll_cons r2
  obtain ⟨rfl, rfl, rfl⟩ := trodAll_nil r3
  obtain rfl : args = #[v0, v1, v2, v3] := by cases args; simp_all
  obtain ⟨rfl, rfl⟩ := trodVars_none hV
  have lt0 : ∀ x ∈ p0, x.block < W.heap.size := by obtain ⟨m, hm⟩ := h0; exact DataW.trod_lt m _ _ _ hm
  have lt1 : ∀ x ∈ p1, x.block < W.heap.size := by obtain ⟨m, hm⟩ := h1; exact DataW.trod_lt m _ _ _ hm
  have lt2 : ∀ x ∈ p2, x.block < W.heap.size := by obtain ⟨m, hm⟩ := h2; exact DataW.trod_lt m _ _ _ hm
  have lt3 : ∀ x ∈ p3, x.block < W.heap.size := by obtain ⟨m, hm⟩ := h3; exact DataW.trod_lt m _ _ _ hm
  obtain ⟨f, fp, a0⟩ := arg_fm (hval 0 _ v0 rfl rfl) h0
  have k1 := h1
  obtain ⟨r, rfl, rfl, rfl, w1⟩ := open_int Tryz.underlying24 (hval 1 _ v1 rfl rfl) h1
  obtain ⟨n, m, wm, a2⟩ := arg_ig (hval 2 _ v2 rfl rfl) h2
  obtain ⟨x, wx, ex, a3⟩ := arg_fl (hval 3 _ v3 rfl rfl) h3
  clear hA0 hval0
  refine (law_calls (vals := [v0, .int .i64 r, v2, v3]) (ConvertInts_does (f := f) (p := fp) (r := r) (n := n) (m := m) wm wx ex) Tryz.func5 rfl rfl (of_laid hL) (.cons a0 (.cons rfl (.cons a2 (.cons a3 .nil))))).mono fun e W' ⟨he, bel⟩ => ?_
  subst he
  exact ⟨_, rfl, _, _, _, [], _, [], hW', trodAll_mk1 (shut_bool Tryz.underlying4 _), (trodAll_cons_mk (Below.trod laidOut (by kernel_rfl) (of_decide_eq_true (by kernel_rfl)) h0 bel lt0) (trodAll_cons_mk (Below.trod laidOut (by kernel_rfl) (of_decide_eq_true (by kernel_rfl)) k1 bel lt1) (trodAll_cons_mk (Below.trod laidOut (by kernel_rfl) (of_decide_eq_true (by kernel_rfl)) h2 bel lt2) (trodAll_mk1 (Below.trod laidOut (by kernel_rfl) (of_decide_eq_true (by kernel_rfl)) h3 bel lt3))))), rfl, bel.frame _, fun h => by cases h⟩
theorem over : Rows.convertIntsRow.holds Tryz.pinned (OpenSpec.ofChange Rows.convertIntsSpec) :=
  OpenClaim.holds_of_wide 5 Tryz.f5 rfl rfl rfl rfl rfl rfl rfl ⟨rfl, rfl, rfl, rfl, rfl⟩ rfl rfl rfl rfl rfl (by kernel_rfl) Tryz.func5 (by kernel_rfl)
    (of_decide_eq_true (by kernel_rfl)) (by unfold Func.isWrapper; first | (rw [if_pos (by decide +kernel)]; kernel_rfl) | (rw [if_neg (by decide +kernel)]; exact ⟨rfl, rfl⟩))
    (fun os started H enc _ => lifted os started H enc)
end convertInts
end Go.Proofs.YtokgalpflooegaaGreatDoor
/- The law ConvertInts holds, for every input: any integer of up to 40 words, rounded to any format, and any float, rounded to an integer, with their flags, or the error. Conditions: the two listed package variables hold what the program's text lays (tied by the card). -/
namespace Go.Proofs.YtokgalpflooegaaGreatDoor
set_option linter.unusedVariables false
set_option linter.unusedSimpArgs false
open Go
theorem convertInts_holds : Rows.ConvertIntsCardSaid :=
  Claim7.holds_tied_plain_at .later [] [.data, .funcs] true Rows.convertIntsCard.stood.harness false
    convertInts.over (fun _ h => by cases h) (by kernel_rfl) (fun _ h => by cases h) convertInts_row_tie rfl ⟨rfl, rfl⟩ (by kernel_rfl) rfl
    (fun f fn hf hfn => by
      obtain rfl : f = 5 := Option.some.inj ((show Tryz.prog.funcNamed "reckoner/reckonerlaw20.ConvertInts" = some 5 by kernel_rfl).symm.trans hf) |>.symm
      obtain rfl : fn = Tryz.f5 := (Option.some.inj (Tryz.func5.symm.trans hfn)).symm
      exact ⟨by kernel_rfl, fun j t ht => by
        have hm : t ∈ Tryz.f5.params.toList := by simpa using Array.mem_of_getElem? ht
        have hall : (Tryz.f5.params.toList.all fun u => !Tryz.prog.wantsStandIn u) = true := by kernel_rfl
        exact (show Tryz.prog.wantsStandIn t = false by simpa using List.all_eq_true.1 hall t hm)⟩)
    (by kernel_rfl)
#print axioms convertInts_holds
end Go.Proofs.YtokgalpflooegaaGreatDoor
