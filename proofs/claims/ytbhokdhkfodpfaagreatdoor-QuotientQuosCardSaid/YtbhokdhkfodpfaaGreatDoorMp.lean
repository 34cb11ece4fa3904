/- Square roots; the program of ch. 19 awake. No condition. A quotient rounded to an integer, twice: as a part, and by its rest; plain. No condition. -/
import Derived.Test.YtbhokdhkfodpfaaGreatDoorMo
import Derived.KernelRfl
import Derived.Test.YtbhokdhkfodpfaaGreatDoorMm
import Derived.Test.YtbhokdhkfodpfaaGreatDoorMi
/- Square roots; the program of ch. 19 awake. No condition. -/
namespace Go.Proofs.YtbhokdhkfodpfaaGreatDoor
set_option linter.unusedVariables false
set_option linter.unusedSimpArgs false
set_option maxHeartbeats 8000000
set_option maxRecDepth 10000
/-- The square root of a float, rounded. -/
def sqrtF (f p r : Int) (u : Flt) (m : Nat) : Flt × Int := roundP f p r false m ((u.e - rootS p u.v u.e 2) / 2) (!decide (m ^ 2 = u.v * 2 ^ rootS p u.v u.e 2))
theorem QSqrt_fin {f p r : Int} {x : Fla} (hx : x.Ok) (he : argsE f p r false [x] = 0) {u : Flt} (hu : (holdsP f p x.flt).1 = u) (ku : u.k = 1) (nu : u.n = false) {m : Nat} (h1 : m ^ 2 ≤ u.v * 2 ^ rootS p u.v u.e 2) (h2 : u.v * 2 ^ rootS p u.v u.e 2 < (m + 1) ^ 2) :
    Does Tryz.prog Gv 15 [Fm f p, .c (.i .i64 r), Fl x.k x.n x.e x.m] (.t [(sqrtF f p r u m).1.pv, .c (.i .i64 (sqrtF f p r u m).2), .c (.i .i64 0)]) := by
  have hl : [x].length < 1099511627776 := by simp
  have ho : ∀ u ∈ [x], u.Ok := by simp [hx]
  have hA : DoesO Tryz.prog Gv 65 [Fm f p, .c (.i .i64 r), .c (.b false), .s false [x.cs]] 4 [(holdsP f p x.flt).1.cs] [.c (.i .i64 0)] := Args_own hl ho he
  obtain ⟨q1, q2, q3, q4, q5, q6⟩ := argsE_zero he
  have hhx : (holdsP f p x.flt).2 = true := by simpa using List.all_eq_true.1 q6 x (by simp)
  have sx := held_small q5 hhx
  have cx := held_cf hhx
  rw [hu] at sx cx hA
  have pu := Nat.pos_of_ne_zero (cx.pos ku)
  have hR0 := @qroot_does f p r q5 q2 q3 false u.v u.e 2 m pu (by omega) (by omega) (by decide) (by decide) h1 h2
  have hR : Does Tryz.prog Gv 87 [Fm f p, .c (.i .i64 r), .c (.b false), Wd (nat u.v), .c (.i .i64 u.e), .c (.i .i64 2)] (.t [(sqrtF f p r u m).1.pv, .c (.i .i64 (sqrtF f p r u m).2)]) := hR0
  clear hR0
  generalize sqrtF f p r u m = z at *
  obtain ⟨uk, un, ue, uv⟩ := u
  simp only at ku nu hR
  subst ku
  subst nu
  have hRoot : Does Tryz.prog Gv 53 [Fm f p, .c (.i .i64 r), Fl x.k x.n x.e x.m, .c (.i .i64 2)] (.t [z.1.pv, .c (.i .i64 z.2), .c (.i .i64 0)]) := by
    refine Does.of (nt := 75) Tryz.func53 rfl rfl rfl (by simp) ?_
    simp only [argTm, PV.ext, Ce.ext]
    refine Do.seqk fun _ k1_ => ?_
    refine Do.region [1,3,4,6,8] true ?_
    simp [go_sem]
    apply k1_; clear k1_
    refine Do.seqk fun _ k2_ => ?_
    refine Do.region [1,3,4,6,8,11,12] true ?_
    simp [go_sem]
    repeat (refine And.intro (by first | omega | (intros; omega) | grind) ?_)
    refine DoL.sealS true 110 109 rfl ?_
    simp [go_sem]
    refine DoL.callO true 111 3000 rfl rfl rfl rfl (by first | exact trivial | omega | (simp; done) | (simp; omega)) (hA) rfl rfl rfl ?_
    simp [go_sem]
    apply k2_; clear k2_
    refine Do.seqk fun _ k3_ => ?_
    refine Do.seqk fun _ k4_ => ?_
    refine Do.region [1,3,4,6,8,11,12,30] true ?_
    simp [go_sem]
    apply k4_; clear k4_
    refine Do.cond [1,3,4,6,8,11,12] rfl (fun h => ?_) (fun h => ?_) <;> simp [go_sem] at h ⊢
    refine Do.skip ?_
    simp [go_sem]
    apply k3_; clear k3_
    refine Do.seqk fun _ k5_ => ?_
    refine Do.sealS 3000 rfl ?_
    simp [go_sem]
    refine Do.region [1,3,4,6,8] true ?_
    simp [go_sem]
    repeat (refine And.intro (by first | omega | (intros; omega) | grind) ?_)
    apply k5_; clear k5_
    refine Do.seqk fun _ k6_ => ?_
    refine Do.block ?_
    refine Do.seqk fun _ k7_ => ?_
    refine Do.region [1,3,4,6,8,36] true ?_
    simp [go_sem]
    repeat (refine And.intro (by first | omega | (intros; omega) | grind) ?_)
    apply k7_; clear k7_
    refine Do.cond [1,3,4,6,8] rfl (fun h => ?_) (fun h => ?_) <;> simp [go_sem] at h ⊢
    refine Do.seqk fun _ k8_ => ?_
    refine Do.region [1,3,4,6,8,46] true ?_
    simp [go_sem]
    repeat (refine And.intro (by first | omega | (intros; omega) | grind) ?_)
    apply k8_; clear k8_
    refine Do.cond [1,3,4,6,8] rfl (fun h => ?_) (fun h => ?_) <;> simp [go_sem] at h ⊢
    refine Do.seqk fun _ k9_ => ?_
    refine Do.region [1,3,4,6,8,55] true ?_
    simp [go_sem]
    repeat (refine And.intro (by first | omega | (intros; omega) | grind) ?_)
    apply k9_; clear k9_
    refine Do.cond [1,3,4,6,8] rfl (fun h => ?_) (fun h => ?_) <;> simp [go_sem] at h ⊢
    refine Do.skip ?_
    simp [go_sem]
    apply k6_; clear k6_
    refine Do.seqk fun _ k10_ => ?_
    refine Do.region [8,13,14] true ?_
    simp [go_sem]
    repeat (refine And.intro (by first | omega | (intros; omega) | grind) ?_)
    refine DoL.call true 1110 rfl rfl rfl rfl (by first | exact trivial | omega | (simp; done) | (simp; omega)) (hR) rfl (by first | exact .inl rfl | exact .inr rfl) rfl ?_
    simp [go_sem]
    repeat (refine And.intro (by first | omega | (intros; omega) | grind) ?_)
    apply k10_; clear k10_
    refine Do.seqk fun _ k11_ => ?_
    refine Do.region [8,9,10] true ?_
    simp [go_sem]
    repeat (refine And.intro (by first | omega | (intros; omega) | grind) ?_)
    apply k11_; clear k11_
    refine Do.ret ?_
    simp [endQ, rets, ret1, go_sem]
    repeat (refine And.intro (by first | omega | (intros; omega) | grind) ?_)
    exact TLe.refl _
  refine Does.of (nt := 16) Tryz.func15 rfl rfl rfl (by simp) ?_
  simp only [argTm, PV.ext, Ce.ext]
  refine Do.seqk fun _ k1_ => ?_
  refine Do.region [1,3,5,6] true ?_
  simp [go_sem]
  apply k1_; clear k1_
  refine Do.seqk fun _ k2_ => ?_
  refine Do.region [6,7,8] true ?_
  simp [go_sem]
  repeat (refine And.intro (by first | omega | (intros; omega) | grind) ?_)
  refine DoL.call true 104 rfl rfl rfl rfl (by first | exact trivial | omega | (simp; done) | (simp; omega)) (hRoot) rfl (by first | exact .inl rfl | exact .inr rfl) rfl ?_
  simp [go_sem]
  repeat (refine And.intro (by first | omega | (intros; omega) | grind) ?_)
  apply k2_; clear k2_
  refine Do.ret ?_
  simp [endQ, rets, ret1, go_sem]
  repeat (refine And.intro (by first | omega | (intros; omega) | grind) ?_)
  exact TLe.refl _
theorem awk19_a : argsE 5 11 0 false [⟨1, false, 0, [1]⟩, ⟨1, false, 0, [3]⟩] = 0 := by kernel_rfl
theorem awk19_b : argsE 5 11 0 false [⟨1, false, 1, [1]⟩] = 0 := by kernel_rfl
theorem awk19_c : argsE 5 11 0 false [⟨1, false, 0, [3]⟩, ⟨1, false, 1, [1]⟩] = 0 := by kernel_rfl
theorem awk19_d : argsE 5 11 0 false [⟨1, false, 0, [1]⟩, ⟨0, false, 0, []⟩] = 0 := by kernel_rfl
theorem awk19_1 : (holdsP 5 11 (⟨1, false, 0, [1]⟩ : Fla).flt).1 = ⟨1, false, 0, 1⟩ := by kernel_rfl
theorem awk19_3 : (holdsP 5 11 (⟨1, false, 0, [3]⟩ : Fla).flt).1 = ⟨1, false, 0, 3⟩ := by kernel_rfl
theorem awk19_2 : (holdsP 5 11 (⟨1, false, 1, [1]⟩ : Fla).flt).1 = ⟨1, false, 1, 1⟩ := by kernel_rfl
theorem awk19_0 : (holdsP 5 11 (⟨0, false, 0, []⟩ : Fla).flt).1 = ⟨0, false, 0, 0⟩ := by kernel_rfl
theorem awk19_div : ratE 5 11 0 false 1 3 (0 - 0) 16 = (⟨1, false, -12, 1365⟩, 1) := by kernel_rfl
theorem awk19_s : rootS 11 1 1 2 = 27 := by kernel_rfl
theorem awk19_rt : sqrtF 5 11 0 ⟨1, false, 1, 1⟩ 11585 = (⟨1, false, -7, 181⟩, 1) := by kernel_rfl
theorem awk19_rm : (restF 0 ⟨1, false, 0, 3⟩ ⟨1, false, 1, 1⟩).round 5 11 0 false = (⟨1, true, 0, 1⟩, 0) := by kernel_rfl
theorem awake19_does : Does Tryz.prog Gv 8 [] (.v (.c (.b true))) := by
  have o1 : (Fla.mk 1 false 0 [1]).Ok := ⟨by simp [Sh], fun u hu => by simp at hu; omega, by constructor <;> simp⟩
  have o2 : (Fla.mk 1 false 1 [1]).Ok := ⟨by simp [Sh], fun u hu => by simp at hu; omega, by constructor <;> simp⟩
  have o3 : (Fla.mk 1 false 0 [3]).Ok := ⟨by simp [Sh], fun u hu => by simp at hu; omega, by constructor <;> simp⟩
  have o0 : (Fla.mk 0 false 0 []).Ok := ⟨by simp [Sh], fun u hu => by simp at hu, by constructor <;> simp⟩
  have h1 := @QDiv_fin 5 11 0 _ _ o1 o3 awk19_a _ _ awk19_1 awk19_3 rfl rfl 16 (by decide)
  have e1 : ratE 5 11 0 ((Flt.mk 1 false 0 1).n != (Flt.mk 1 false 0 3).n) (Flt.mk 1 false 0 1).v (Flt.mk 1 false 0 3).v ((Flt.mk 1 false 0 1).e - (Flt.mk 1 false 0 3).e) 16 = (⟨1, false, -12, 1365⟩, 1) := awk19_div
  rw [e1] at h1
  have h1 : Does Tryz.prog Gv 37 [Fm 5 11, .c (.i .i64 0), Fl 1 false 0 [1], Fl 1 false 0 [3]] (.t [Fl 1 false (-12) (nat 1365), .c (.i .i64 1), .c (.i .i64 0)]) := h1
  have h2 := @QSqrt_fin 5 11 0 _ o2 awk19_b _ awk19_2 rfl rfl 11585 (by show 11585 ^ 2 ≤ 1 * 2 ^ rootS 11 1 1 2; rw [awk19_s]; decide) (by show 1 * 2 ^ rootS 11 1 1 2 < (11585 + 1) ^ 2; rw [awk19_s]; decide)
  rw [awk19_rt] at h2
  have h2 : Does Tryz.prog Gv 15 [Fm 5 11, .c (.i .i64 0), Fl 1 false 1 [1]] (.t [Fl 1 false (-7) (nat 181), .c (.i .i64 1), .c (.i .i64 0)]) := h2
  have h3 := @QRest_fin 5 11 0 _ _ o3 o2 awk19_c _ _ awk19_3 awk19_2 rfl rfl
  have e3 : (restF 0 ⟨1, false, 0, 3⟩ ⟨1, false, 1, 1⟩).round 5 11 0 (Flt.mk 1 false 0 3).n = (⟨1, true, 0, 1⟩, 0) := awk19_rm
  rw [e3] at h3
  have h3 : Does Tryz.prog Gv 59 [Fm 5 11, .c (.i .i64 0), Fl 1 false 0 [3], Fl 1 false 1 [1]] (.t [Fl 1 true 0 (nat 1), .c (.i .i64 0), .c (.i .i64 0)]) := h3
  have h3 : Does Tryz.prog Gv 22 [Fm 5 11, Fl 1 false 0 [3], Fl 1 false 1 [1]] (.t [Fl 1 true 0 (nat 1), .c (.i .i64 0), .c (.i .i64 0)]) := by
    refine Does.of (nt := 16) Tryz.func22 rfl rfl rfl (by simp) ?_
    simp only [argTm, PV.ext, Ce.ext]
    refine Do.seqk fun _ k1_ => ?_
    refine Do.region [3,4,5,6] true ?_
    simp [go_sem]
    apply k1_; clear k1_
    refine Do.seqk fun _ k2_ => ?_
    refine Do.region [6,7,8] true ?_
    simp [go_sem]
    repeat (refine And.intro (by first | omega | (intros; omega) | grind) ?_)
    refine DoL.call true 104 rfl rfl rfl rfl (by first | exact trivial | omega | (simp; done) | (simp; omega)) (h3) rfl (by first | exact .inl rfl | exact .inr rfl) rfl ?_
    simp [go_sem]
    repeat (refine And.intro (by first | omega | (intros; omega) | grind) ?_)
    apply k2_; clear k2_
    refine Do.ret ?_
    simp [endQ, rets, ret1, go_sem]
    repeat (refine And.intro (by first | omega | (intros; omega) | grind) ?_)
    exact TLe.refl _
  have h4 := @QDiv_zero 5 11 0 _ _ o1 o0 awk19_d _ _ awk19_1 awk19_0 rfl rfl
  have h4 : Does Tryz.prog Gv 37 [Fm 5 11, .c (.i .i64 0), Fl 1 false 0 [1], Fl 0 false 0 []] (.t [Fl 2 false 0 (nat 0), .c (.i .i64 8), .c (.i .i64 0)]) := h4
  have h4 : Does Tryz.prog Gv 37 [Fm 5 11, .c (.i .i64 0), Fl 1 false 0 [1], .a [.i .i64 0, .b false, .i .i64 0, .z]] (.t [Fl 2 false 0 (nat 0), .c (.i .i64 8), .c (.i .i64 0)]) := h4.weak (.cons (PLe.refl _) (.cons (PLe.refl _) (.cons (PLe.refl _) (.cons (PLe.flt (PLe.z false)) .nil))))
  rw [nat_word (by decide) (by decide)] at h1 h2 h3
  rw [nat_zero] at h4
  refine Does.of (nt := 148) Tryz.func8 rfl rfl rfl (by simp) ?_
  simp only [argTm, PV.ext, Ce.ext]
  refine Do.seqk fun _ k1_ => ?_
  refine Do.region [] true ?_
  simp [go_sem]
  apply k1_; clear k1_
  refine Do.seqk fun _ k2_ => ?_
  refine Do.region [1] true ?_
  simp [go_sem]
  repeat (refine And.intro (by first | omega | (intros; omega) | grind) ?_)
  apply k2_; clear k2_
  refine Do.seqk fun _ k3_ => ?_
  refine Do.region [1,2] true ?_
  simp [go_sem]
  repeat (refine And.intro (by first | omega | (intros; omega) | grind) ?_)
  apply k3_; clear k3_
  refine Do.seqk fun _ k4_ => ?_
  refine Do.region [1,2,3] true ?_
  simp [go_sem]
  repeat (refine And.intro (by first | omega | (intros; omega) | grind) ?_)
  apply k4_; clear k4_
  refine Do.seqk fun _ k5_ => ?_
  refine Do.region [1,2,3,4] true ?_
  simp [go_sem]
  repeat (refine And.intro (by first | omega | (intros; omega) | grind) ?_)
  apply k5_; clear k5_
  refine Do.seqk fun _ k6_ => ?_
  refine Do.frz 200 rfl ?_
  simp [go_sem]
  refine Do.frz 300 rfl ?_
  simp [go_sem]
  refine Do.frz 400 rfl ?_
  simp [go_sem]
  refine Do.region [1,2,3,4,5,6,7] true ?_
  simp [go_sem]
  repeat (refine And.intro (by first | omega | (intros; omega) | grind) ?_)
  refine DoL.call true 504 rfl rfl rfl rfl (by first | exact trivial | omega | (simp; done) | (simp; omega)) (h1) rfl (by first | exact .inl rfl | exact .inr rfl) rfl ?_
  simp [go_sem]
  repeat (refine And.intro (by first | omega | (intros; omega) | grind) ?_)
  apply k6_; clear k6_
  refine Do.seqk fun _ k7_ => ?_
  refine Do.region [1,2,3,4,5,6,7,8,9,10] true ?_
  simp [go_sem]
  repeat (refine And.intro (by first | omega | (intros; omega) | grind) ?_)
  refine DoL.call true 603 rfl rfl rfl rfl (by first | exact trivial | omega | (simp; done) | (simp; omega)) (h2) rfl (by first | exact .inl rfl | exact .inr rfl) rfl ?_
  simp [go_sem]
  repeat (refine And.intro (by first | omega | (intros; omega) | grind) ?_)
  apply k7_; clear k7_
  refine Do.seqk fun _ k8_ => ?_
  refine Do.region [1,2,5,6,7,8,9,10,11,12,13] true ?_
  simp [go_sem]
  repeat (refine And.intro (by first | omega | (intros; omega) | grind) ?_)
  refine DoL.call true 704 rfl rfl rfl rfl (by first | exact trivial | omega | (simp; done) | (simp; omega)) (h3) rfl (by first | exact .inl rfl | exact .inr rfl) rfl ?_
  simp [go_sem]
  repeat (refine And.intro (by first | omega | (intros; omega) | grind) ?_)
  apply k8_; clear k8_
  refine Do.seqk fun _ k9_ => ?_
  refine Do.region [5,6,7,8,9,10,11,12,13,14,15,16] true ?_
  simp (maxSteps := 2000000) [go_sem]
  repeat (refine And.intro (by first | omega | (intros; omega) | grind) ?_)
  refine DoL.call true 804 rfl rfl rfl rfl (by first | exact trivial | omega | (simp; done) | (simp; omega)) (h4) rfl (by first | exact .inl rfl | exact .inr rfl) rfl ?_
  simp [go_sem]
  repeat (refine And.intro (by first | omega | (intros; omega) | grind) ?_)
  apply k9_; clear k9_
  refine Do.seqk fun _ k10_ => ?_
  refine Do.region [0] true ?_
  simp (maxSteps := 2000000) [go_sem]
  repeat (refine And.intro (by first | omega | (intros; omega) | grind) ?_)
  apply k10_; clear k10_
  refine Do.ret ?_
  simp [endQ, rets, ret1, go_sem]
  repeat (refine And.intro (by first | omega | (intros; omega) | grind) ?_)
  exact TLe.refl _
end Go.Proofs.YtbhokdhkfodpfaaGreatDoor
/- A quotient rounded to an integer, twice: as a part, and by its rest; plain. No condition. -/
namespace Go.Proofs.YtbhokdhkfodpfaaGreatDoor
set_option linter.unusedVariables false
set_option linter.unusedSimpArgs false
set_option maxHeartbeats 4000000
set_option maxRecDepth 10000
theorem ratio_code {N D : Nat} (hD : 0 < D) : N * 2 / D / 2 = N / D ∧ pcode (decide (N * 2 / D % 2 = 1)) (!decide (N * 2 % D = 0)) = cmpR (N % D) D := by
  have h1 := Nat.div_add_mod N D
  have h2 := Nat.mod_lt N hD
  obtain ⟨q, hq⟩ : ∃ q, N / D = q := ⟨_, rfl⟩
  obtain ⟨w, hw⟩ : ∃ w, N % D = w := ⟨_, rfl⟩
  rw [hq, hw] at h1
  rw [hw] at h2
  rw [hq, hw]
  have e0 : N * 2 = w * 2 + D * (q * 2) := by
    rw [← h1, Nat.add_mul, Nat.mul_assoc]; omega
  have e1 : N * 2 / D = w * 2 / D + q * 2 := by rw [e0, Nat.add_mul_div_left _ _ hD]
  have e2 : N * 2 % D = w * 2 % D := by rw [e0, Nat.add_mul_mod_self_left]
  rw [e1, e2]
  unfold cmpR
  by_cases h3 : w * 2 < D
  · rw [Nat.div_eq_of_lt h3, Nat.mod_eq_of_lt h3]
    refine ⟨by omega, ?_⟩
    have e3 : ¬ (0 + q * 2) % 2 = 1 := by omega
    by_cases h0 : w = 0
    · subst h0
      simp [pcode]
    · have e4 : ¬ w * 2 = 0 := by omega
      rw [if_neg h0, if_pos h3]
      simp [pcode, e4]
  · have e3 : w * 2 / D = 1 := by
      apply Nat.le_antisymm
      · have : w * 2 / D < 2 := by rw [Nat.div_lt_iff_lt_mul hD]; omega
        omega
      · rw [Nat.le_div_iff_mul_le hD]; omega
    have e4 : w * 2 % D = w * 2 - D := by
      rw [Nat.mod_eq_sub_mod (by omega), Nat.mod_eq_of_lt (by omega)]
    rw [e3, e4]
    refine ⟨by omega, ?_⟩
    have e5 : (1 + q * 2) % 2 = 1 := by omega
    have h0 : ¬ w = 0 := by omega
    rw [if_neg h0, if_neg h3]
    by_cases h4 : D < w * 2
    · rw [if_pos h4]
      have e6 : ¬ w * 2 - D = 0 := by omega
      simp [pcode, e5, e6]
    · rw [if_neg h4]
      have e6 : w * 2 - D = 0 := by omega
      simp [pcode, e5, e6]
end Go.Proofs.YtbhokdhkfodpfaaGreatDoor
