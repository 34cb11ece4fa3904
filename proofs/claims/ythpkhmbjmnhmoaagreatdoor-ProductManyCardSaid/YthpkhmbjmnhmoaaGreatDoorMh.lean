/- The floats of the reference. No condition. The formats of the reference, and its check of arguments. No condition. What the laws' packages compute of floats. No condition. The errors of Pair and Expand. No condition. The program awake: three sums. No condition. Arguments that read as data, as cells. No condition. The order of a sum's terms; a rounded result is canonical. No condition. Digits of sums, differences and products. No condition. The digits of a sum, a difference, and which number is less. No condition. -/
import Derived.Test.YthpkhmbjmnhmoaaGreatDoorMg
import Derived.Test.YthpkhmbjmnhmoaaGreatDoorMd
import Derived.Test.YthpkhmbjmnhmoaaGreatDoorMc
import Derived.ChangeSlices
import Derived.ChangeArms
import Derived.WideShapes
import Derived.ProofKit
/- The floats of the reference. No condition. -/
namespace Go.Proofs.YthpkhmbjmnhmoaaGreatDoor
set_option linter.unusedVariables false
set_option linter.unusedSimpArgs false
variable {G : Gl}
set_option maxHeartbeats 2000000
abbrev Md (e : Int) : Prop := -4611686018427387904 ≤ e ∧ e ≤ 4611686018427387904
theorem odd_does {k e : Int} {n : Bool} {m : List Nat} (hm : m.length ≤ 1073741824) (wm : Ws m) (he : Md e) : Does Tryz.prog G 56 [Fl k n e m] (.t [Wn (nat (val m / 2 ^ tz (val m))), .c (.i .i64 (e + tz (val m)))]) := by
  have ht : tz (val m) < 64 * m.length + 1 := by
    by_cases h : val m = 0
    · rw [h, tz_zero]; omega
    · have := tz_bound wm h; omega
  refine Does.of (nt := 20) Tryz.func56 rfl rfl rfl (by simp) ?_
  simp only [argTm, PV.ext, Ce.ext]
  refine Do.seqk fun _ k1_ => ?_
  refine Do.region [1] true ?_
  simp [go_sem]
  apply k1_; clear k1_
  refine Do.seqk fun _ k2_ => ?_
  refine Do.region [1,4] true ?_
  simp [go_sem]
  repeat (refine And.intro (by first | omega | (intros; omega) | (intros; exact And.intro (by assumption) (by omega)) | grind) ?_)
  refine DoL.call true 103 rfl rfl rfl rfl (by first | exact trivial | omega | (simp; done) | (simp; omega)) (Bits_does hm wm) rfl (by first | exact .inl rfl | exact .inr rfl) rfl ?_
  simp [go_sem]
  apply k2_; clear k2_
  refine Do.seqk fun _ k3_ => ?_
  refine Do.draw [2,3] true (by kernel_rfl) ?_
  simp [go_sem]
  repeat (refine And.intro (by first | omega | (intros; omega) | (intros; exact And.intro (by assumption) (by omega)) | kernel_rfl | grind) ?_)
  refine DoLD.call true 204 rfl rfl rfl rfl (by first | exact trivial | omega | (simp; done) | (simp; omega)) (RRight_does hm wm (s := tz (val m)) (by omega)) rfl (by first | exact .inl rfl | exact .inr rfl) rfl ?_
  simp [go_sem]
  repeat (refine And.intro (by first | omega | (intros; omega) | (intros; exact And.intro (by assumption) (by omega)) | kernel_rfl | grind) ?_)
  try (refine And.intro (by kernel_rfl) ?_)
  apply k3_; clear k3_
  refine Do.ret ?_
  simp [endQ, rets, ret1, go_sem]
  repeat (refine And.intro (by first | omega | (intros; omega) | (intros; exact And.intro (by assumption) (by omega)) | grind) ?_)
  exact TLe.refl _
theorem Good_does {k e : Int} {n : Bool} {m : List Nat} (hm : m.length ≤ 1073741824) (wm : Ws m) : Does Tryz.prog G 67 [Fl k n e m] (.v (.c (.b (canon ⟨k, n, e, val m⟩).2))) := by
  have hz := @IsZero_does G m hm wm
  rcases (show k = 0 ∨ k = 2 ∨ k = 3 ∨ k = 1 ∨ (k ≠ 0 ∧ k ≠ 2 ∧ k ≠ 3 ∧ k ≠ 1) by omega) with hk | hk | hk | hk | hk
  · subst hk
    refine Does.of (nt := 55) Tryz.func67 rfl rfl rfl (by simp) ?_
    simp only [argTm, PV.ext, Ce.ext]
    refine Do.seqk fun _ k1_ => ?_
    refine Do.region [1] true ?_
    simp [go_sem]
    apply k1_; clear k1_
    refine Do.seqk fun _ k2_ => ?_
    refine Do.seqk fun _ k3_ => ?_
    refine Do.region [1,6] true ?_
    simp [go_sem]
    repeat (refine And.intro (by first | omega | (intros; omega) | (intros; exact And.intro (by assumption) (by omega)) | grind) ?_)
    apply k3_; clear k3_
    refine Do.block ?_
    refine Do.seqk fun _ k4_ => ?_
    refine Do.seqk fun _ k5_ => ?_
    refine Do.region [1,6,7] true ?_
    simp [go_sem]
    apply k5_; clear k5_
    refine Do.cond [1,6,7] rfl (fun h => ?_) (fun h => ?_) <;> simp [go_sem] at h ⊢
    refine Do.skip ?_
    simp [go_sem]
    apply k4_; clear k4_
    refine Do.cond [1,6] rfl (fun h => ?_) (fun h => ?_) <;> simp [go_sem] at h ⊢
    refine Do.seqk fun _ k6_ => ?_
    refine Do.region [2] true ?_
    simp [go_sem]
    repeat (refine And.intro (by first | omega | (intros; omega) | (intros; exact And.intro (by assumption) (by omega)) | grind) ?_)
    refine DoL.callg true 407 rfl rfl rfl rfl rfl (by simp [go_sem] <;> omega) (fun _ => hz) rfl (by first | exact .inl rfl | exact .inr rfl) rfl ?_
    simp [go_sem]
    apply k6_; clear k6_
    refine Do.ret ?_
    simp [endQ, rets, ret1, go_sem]
    repeat (refine And.intro (by first | omega | (intros; omega) | (intros; exact And.intro (by assumption) (by omega)) | grind) ?_)
    exact ret_b (by simp [canon])
  · subst hk
    refine Does.of (nt := 55) Tryz.func67 rfl rfl rfl (by simp) ?_
    simp only [argTm, PV.ext, Ce.ext]
    refine Do.seqk fun _ k1_ => ?_
    refine Do.region [1] true ?_
    simp [go_sem]
    apply k1_; clear k1_
    refine Do.seqk fun _ k2_ => ?_
    refine Do.seqk fun _ k3_ => ?_
    refine Do.region [1,6] true ?_
    simp [go_sem]
    repeat (refine And.intro (by first | omega | (intros; omega) | (intros; exact And.intro (by assumption) (by omega)) | grind) ?_)
    apply k3_; clear k3_
    refine Do.block ?_
    refine Do.seqk fun _ k4_ => ?_
    refine Do.seqk fun _ k5_ => ?_
    refine Do.region [1,6,7] true ?_
    simp [go_sem]
    apply k5_; clear k5_
    refine Do.cond [1,6,7] rfl (fun h => ?_) (fun h => ?_) <;> simp [go_sem] at h ⊢
    refine Do.region [1,6,7] true ?_
    simp [go_sem]
    apply k4_; clear k4_
    refine Do.cond [1,6] rfl (fun h => ?_) (fun h => ?_) <;> simp [go_sem] at h ⊢
    refine Do.seqk fun _ k6_ => ?_
    refine Do.region [2] true ?_
    simp [go_sem]
    repeat (refine And.intro (by first | omega | (intros; omega) | (intros; exact And.intro (by assumption) (by omega)) | grind) ?_)
    refine DoL.callg true 407 rfl rfl rfl rfl rfl (by simp [go_sem] <;> omega) (fun _ => hz) rfl (by first | exact .inl rfl | exact .inr rfl) rfl ?_
    simp [go_sem]
    apply k6_; clear k6_
    refine Do.ret ?_
    simp [endQ, rets, ret1, go_sem]
    repeat (refine And.intro (by first | omega | (intros; omega) | (intros; exact And.intro (by assumption) (by omega)) | grind) ?_)
    exact ret_b (by simp [canon])
  · subst hk
    refine Does.of (nt := 55) Tryz.func67 rfl rfl rfl (by simp) ?_
    simp only [argTm, PV.ext, Ce.ext]
    refine Do.seqk fun _ k1_ => ?_
    refine Do.region [1] true ?_
    simp [go_sem]
    apply k1_; clear k1_
    refine Do.seqk fun _ k2_ => ?_
    refine Do.seqk fun _ k3_ => ?_
    refine Do.region [1,6] true ?_
    simp [go_sem]
    repeat (refine And.intro (by first | omega | (intros; omega) | (intros; exact And.intro (by assumption) (by omega)) | grind) ?_)
    apply k3_; clear k3_
    refine Do.block ?_
    refine Do.seqk fun _ k4_ => ?_
    refine Do.seqk fun _ k5_ => ?_
    refine Do.region [1,6,7] true ?_
    simp [go_sem]
    apply k5_; clear k5_
    refine Do.cond [1,6,7] rfl (fun h => ?_) (fun h => ?_) <;> simp [go_sem] at h ⊢
    refine Do.region [1,6,7] true ?_
    simp [go_sem]
    apply k4_; clear k4_
    refine Do.cond [1,6] rfl (fun h => ?_) (fun h => ?_) <;> simp [go_sem] at h ⊢
    refine Do.seqk fun _ k6_ => ?_
    refine Do.region [1,6,18] true ?_
    simp [go_sem]
    apply k6_; clear k6_
    refine Do.cond [1,6] rfl (fun h => ?_) (fun h => ?_) <;> simp [go_sem] at h ⊢
    refine Do.seqk fun _ k7_ => ?_
    refine Do.region [2] true ?_
    simp [go_sem]
    repeat (refine And.intro (by first | omega | (intros; omega) | (intros; exact And.intro (by assumption) (by omega)) | grind) ?_)
    refine DoL.callg true 612 rfl rfl rfl rfl rfl (by simp [go_sem] <;> omega) (fun _ => hz) rfl (by first | exact .inl rfl | exact .inr rfl) rfl ?_
    simp [go_sem]
    apply k7_; clear k7_
    refine Do.ret ?_
    simp [endQ, rets, ret1, go_sem]
    repeat (refine And.intro (by first | omega | (intros; omega) | (intros; exact And.intro (by assumption) (by omega)) | grind) ?_)
    exact ret_b (by simp [canon, Bool.and_assoc])
  · subst hk
    refine Does.of (nt := 55) Tryz.func67 rfl rfl rfl (by simp) ?_
    simp only [argTm, PV.ext, Ce.ext]
    refine Do.seqk fun _ k1_ => ?_
    refine Do.region [1] true ?_
    simp [go_sem]
    apply k1_; clear k1_
    refine Do.seqk fun _ k2_ => ?_
    refine Do.seqk fun _ k3_ => ?_
    refine Do.region [1,6] true ?_
    simp [go_sem]
    repeat (refine And.intro (by first | omega | (intros; omega) | (intros; exact And.intro (by assumption) (by omega)) | grind) ?_)
    apply k3_; clear k3_
    refine Do.block ?_
    refine Do.seqk fun _ k4_ => ?_
    refine Do.seqk fun _ k5_ => ?_
    refine Do.region [1,6,7] true ?_
    simp [go_sem]
    apply k5_; clear k5_
    refine Do.cond [1,6,7] rfl (fun h => ?_) (fun h => ?_) <;> simp [go_sem] at h ⊢
    refine Do.region [1,6,7] true ?_
    simp [go_sem]
    apply k4_; clear k4_
    refine Do.cond [1,6] rfl (fun h => ?_) (fun h => ?_) <;> simp [go_sem] at h ⊢
    refine Do.seqk fun _ k6_ => ?_
    refine Do.region [1,6,18] true ?_
    simp [go_sem]
    apply k6_; clear k6_
    refine Do.cond [1,6] rfl (fun h => ?_) (fun h => ?_) <;> simp [go_sem] at h ⊢
    refine Do.seqk fun _ k7_ => ?_
    refine Do.region [1,33] true ?_
    simp [go_sem]
    apply k7_; clear k7_
    refine Do.cond [1] rfl (fun h => ?_) (fun h => ?_) <;> simp [go_sem] at h ⊢
    refine Do.seqk fun _ k8_ => ?_
    refine Do.seqk fun _ k9_ => ?_
    refine Do.region [1,47] true ?_
    simp [go_sem]
    repeat (refine And.intro (by first | omega | (intros; omega) | (intros; exact And.intro (by assumption) (by omega)) | grind) ?_)
    refine DoL.call true 803 rfl rfl rfl rfl (by first | exact trivial | omega | (simp; done) | (simp; omega)) (hz) rfl (by first | exact .inl rfl | exact .inr rfl) rfl ?_
    simp [go_sem]
    repeat (refine And.intro (by first | omega | (intros; omega) | (intros; exact And.intro (by assumption) (by omega)) | grind) ?_)
    apply k9_; clear k9_
    refine Do.cond [1] rfl (fun h => ?_) (fun h => ?_) <;> simp [go_sem] at h ⊢
    · refine Do.seqk fun _ k10_ => ?_
      refine Do.region [2] true ?_
      simp [go_sem]
      apply k10_; clear k10_
      refine Do.ret ?_
      simp [endQ, rets, ret1, go_sem]
      repeat (refine And.intro (by first | omega | (intros; omega) | (intros; exact And.intro (by assumption) (by omega)) | grind) ?_)
      refine ret_b ?_
      unfold canon
      rw [if_neg (by simp), if_neg (by simp), if_pos rfl, if_pos (by simp; omega)]
    · refine Do.skip ?_
      simp [go_sem]
      apply k8_; clear k8_
      refine Do.seqk fun _ k11_ => ?_
      refine Do.region [4] true ?_
      simp [go_sem]
      repeat (refine And.intro (by first | omega | (intros; omega) | (intros; exact And.intro (by assumption) (by omega)) | grind) ?_)
      refine DoL.call true 1002 rfl rfl rfl rfl (by first | exact trivial | omega | (simp; done) | (simp; omega)) (odd_does hm wm ⟨by omega, by omega⟩) rfl (by first | exact .inl rfl | exact .inr rfl) rfl ?_
      simp [go_sem]
      apply k11_; clear k11_
      refine Do.seqk fun _ k12_ => ?_
      refine Do.region [2] true ?_
      simp [go_sem]
      apply k12_; clear k12_
      refine Do.ret ?_
      simp [endQ, rets, ret1, go_sem]
      repeat (refine And.intro (by first | omega | (intros; omega) | (intros; exact And.intro (by assumption) (by omega)) | grind) ?_)
      refine ret_b ?_
      unfold canon
      rw [if_neg (by simp), if_neg (by simp), if_pos rfl, if_neg (by simp; omega)]
  ·
    refine Does.of (nt := 55) Tryz.func67 rfl rfl rfl (by simp) ?_
    simp only [argTm, PV.ext, Ce.ext]
    refine Do.seqk fun _ k1_ => ?_
    refine Do.region [1] true ?_
    simp [go_sem]
    apply k1_; clear k1_
    refine Do.seqk fun _ k2_ => ?_
    refine Do.seqk fun _ k3_ => ?_
    refine Do.region [1,6] true ?_
    simp [go_sem]
    repeat (refine And.intro (by first | omega | (intros; omega) | (intros; exact And.intro (by assumption) (by omega)) | grind) ?_)
    apply k3_; clear k3_
    refine Do.block ?_
    refine Do.seqk fun _ k4_ => ?_
    refine Do.seqk fun _ k5_ => ?_
    refine Do.region [1,6,7] true ?_
    simp [go_sem]
    apply k5_; clear k5_
    refine Do.cond [1,6,7] rfl (fun h => ?_) (fun h => ?_) <;> simp [go_sem] at h ⊢
    · exact absurd h hk.1
    · refine Do.region [1,6,7] true ?_
      simp [go_sem]
      apply k4_; clear k4_
      refine Do.cond [1,6] rfl (fun h => ?_) (fun h => ?_) <;> simp [go_sem] at h ⊢
      · exact absurd h hk.2.1
      · refine Do.seqk fun _ k6_ => ?_
        refine Do.region [1,6,18] true ?_
        simp [go_sem]
        apply k6_; clear k6_
        refine Do.cond [1,6] rfl (fun h => ?_) (fun h => ?_) <;> simp [go_sem] at h ⊢
        · exact absurd h hk.2.2.1
        · refine Do.seqk fun _ k7_ => ?_
          refine Do.region [1,33] true ?_
          simp [go_sem]
          apply k7_; clear k7_
          refine Do.cond [1] rfl (fun h => ?_) (fun h => ?_) <;> simp [go_sem] at h ⊢
          · exact absurd h hk.2.2.2
          · refine Do.skip ?_
            simp [go_sem]
            apply k2_; clear k2_
            refine Do.seqk fun _ k8_ => ?_
            refine Do.region [2] true ?_
            simp [go_sem]
            apply k8_; clear k8_
            refine Do.ret ?_
            simp [endQ, rets, ret1, go_sem]
            repeat (refine And.intro (by first | omega | (intros; omega) | (intros; exact And.intro (by assumption) (by omega)) | grind) ?_)
            exact ret_b (by simp [canon, hk])
/-- The float that the reference takes as canonical. -/
def rcanon (x : Flt) : Flt := if x.k = 1 then ⟨1, x.n, x.e + tz x.v, x.v / 2 ^ tz x.v⟩ else ⟨x.k, x.n, 0, 0⟩
theorem rcanon_good {x : Flt} (h : (canon x).2 = true) : rcanon x = (canon x).1 := by
  unfold rcanon
  unfold canon at h ⊢
  split
  · rename_i hk
    rw [if_neg (by omega), if_neg (by omega), if_pos hk] at h
    rw [if_neg (by omega), if_neg (by omega)]
    split at h
    · cases h
    · rename_i h1; rw [if_neg h1]
  · rename_i hk
    split
    · rfl
    · split
      · rename_i h1 h2
        rw [if_neg h1, if_pos h2] at h
        simp at h
        simp [h, h2]
      · rename_i h1 h2
        rw [if_neg h1, if_neg h2, if_neg hk] at h
        cases h
theorem Canonical_does {k e : Int} {n : Bool} {m : List Nat} (hm : m.length ≤ 1073741824) (wm : Ws m) (he : Md e) : Does Tryz.prog G 73 [Fl k n e m] (.v (rcanon ⟨k, n, e, val m⟩).pv) := by
  refine Does.of (nt := 23) Tryz.func73 rfl rfl rfl (by simp) ?_
  simp only [argTm, PV.ext, Ce.ext]
  refine Do.seqk fun _ k1_ => ?_
  refine Do.region [1,2] true ?_
  simp [go_sem]
  apply k1_; clear k1_
  refine Do.seqk fun _ k2_ => ?_
  refine Do.seqk fun _ k3_ => ?_
  refine Do.region [1,2,7] true ?_
  simp [go_sem]
  repeat (refine And.intro (by first | omega | (intros; omega) | (intros; exact And.intro (by assumption) (by omega)) | grind) ?_)
  apply k3_; clear k3_
  refine Do.cond [1,2] rfl (fun h => ?_) (fun h => ?_) <;> simp [go_sem] at h ⊢
  · refine Do.seqk fun _ k4_ => ?_
    refine Do.region [2] true ?_
    simp [go_sem]
    repeat (refine And.intro (by first | omega | (intros; omega) | (intros; exact And.intro (by assumption) (by omega)) | grind) ?_)
    apply k4_; clear k4_
    refine Do.ret ?_
    simp [endQ, rets, ret1, go_sem]
    repeat (refine And.intro (by first | omega | (intros; omega) | (intros; exact And.intro (by assumption) (by omega)) | grind) ?_)
    rw [rcanon, if_neg h]
    exact ret_f1 (ret_z rfl) rfl
  · refine Do.skip ?_
    simp [go_sem]
    apply k2_; clear k2_
    refine Do.seqk fun _ k5_ => ?_
    refine Do.region [1,2,3,4] true ?_
    simp [go_sem]
    repeat (refine And.intro (by first | omega | (intros; omega) | (intros; exact And.intro (by assumption) (by omega)) | grind) ?_)
    refine DoL.call true 302 rfl rfl rfl rfl (by first | exact trivial | omega | (simp; done) | (simp; omega)) (odd_does hm wm he) rfl (by first | exact .inl rfl | exact .inr rfl) rfl ?_
    simp [go_sem]
    apply k5_; clear k5_
    refine Do.seqk fun _ k6_ => ?_
    refine Do.region [2] true ?_
    simp [go_sem]
    repeat (refine And.intro (by first | omega | (intros; omega) | (intros; exact And.intro (by assumption) (by omega)) | grind) ?_)
    apply k6_; clear k6_
    refine Do.ret ?_
    simp [endQ, rets, ret1, go_sem]
    repeat (refine And.intro (by first | omega | (intros; omega) | (intros; exact And.intro (by assumption) (by omega)) | grind) ?_)
    rw [rcanon, if_pos h]
    exact ret_f1 (PLe.ext _) rfl
theorem Equal_does {k e : Int} {n : Bool} {m : List Nat} {k' e' : Int} {n' : Bool} {m' : List Nat} (hm : m.length ≤ 1073741824) (wm : Ws m) (wm' : Ws m') : Does Tryz.prog G 114 [Fl k n e m, Fl k' n' e' m'] (.v (.c (.b (k == k' && n == n' && e == e' && decide (m = m'))))) := by
  refine Does.of (nt := 52) Tryz.func114 rfl rfl rfl (by simp) ?_
  simp only [argTm, PV.ext, Ce.ext]
  refine Do.seqk fun _ k1_ => ?_
  refine Do.region [2,3] true ?_
  simp [go_sem]
  apply k1_; clear k1_
  refine Do.seqk fun _ k2_ => ?_
  refine Do.seqk fun _ k3_ => ?_
  refine Do.region [2,3,33] true ?_
  simp [go_sem]
  repeat (refine And.intro (by first | omega | (intros; omega) | (intros; exact And.intro (by assumption) (by omega)) | grind) ?_)
  apply k3_; clear k3_
  refine Do.cond [2,3] rfl (fun h => ?_) (fun h => ?_) <;> simp [go_sem] at h ⊢
  · refine Do.seqk fun _ k4_ => ?_
    refine Do.region [4] true ?_
    simp [go_sem]
    apply k4_; clear k4_
    refine Do.ret ?_
    simp [endQ, rets, ret1, go_sem]
    repeat (refine And.intro (by first | omega | (intros; omega) | (intros; exact And.intro (by assumption) (by omega)) | grind) ?_)
    refine ret_b ?_
    rcases h with ((h | h) | h) | h
    · simp [h]
    · simp [h]
    · simp [h]
    · have : m ≠ m' := fun e => h (by rw [e])
      simp [this]
  · obtain ⟨⟨⟨h1, h2⟩, h3⟩, h4⟩ := h
    refine Do.skip ?_
    simp [go_sem]
    apply k2_; clear k2_
    refine Do.seqk fun _ k5_ => ?_
    refine Do.seqk fun _ k6_ => ?_
    refine Do.region [2,3,5] true ?_
    simp [go_sem]
    apply k6_; clear k6_
    refine Do.block ?_
    refine Do.loopF [2,3,5] (fun (i : Nat) => [(5, .int .i64 i)]) (fun (i : Nat) => []) (fun (i : Nat) => i ≤ m.length ∧ ∀ j, j < i → m[j]?.getD 0 = m'[j]?.getD 0) (fun (i : Nat) => m.length - i) (0) (fun _ => by first | (simp [go_sem, mixS]; done) | (simp [go_sem, mixS]; rfl)) (St.le_of (by first | rfl | simp [keep]) (by first | rfl | simp [keep])) (⟨Nat.zero_le _, fun j hj => absurd hj (Nat.not_lt_zero j)⟩) ?_
    rintro i ⟨hi, hz⟩
    refine Do.seqk fun _ k7_ => ?_
    refine Do.seqk fun _ k8_ => ?_
    refine Do.region [2,3,5,38] true ?_
    simp [go_sem]
    repeat (refine And.intro (by first | omega | (intros; omega) | (intros; exact And.intro (by assumption) (by omega)) | grind) ?_)
    apply k8_; clear k8_
    refine Do.cond [2,3,5] rfl (fun h5 => ?_) (fun h5 => ?_) <;> simp [go_sem] at h5 ⊢
    · have hg := ws_get wm (i := i) (by omega)
      have hg' := ws_get wm' (i := i) (by omega)
      refine Do.skip ?_
      simp [go_sem]
      apply k7_; clear k7_
      refine Do.seqk fun _ k9_ => ?_
      refine Do.block ?_
      refine Do.seqk fun _ k10_ => ?_
      refine Do.draw [2,3,5,51] true (by kernel_rfl) ?_
      simp [go_sem]
      repeat (refine And.intro (by first | omega | (intros; omega) | (intros; exact And.intro (by assumption) (by omega)) | kernel_rfl | grind) ?_)
      try (refine And.intro (by kernel_rfl) ?_)
      apply k10_; clear k10_
      refine Do.cond [2,3,5] rfl (fun h6 => ?_) (fun h6 => ?_) <;> simp [go_sem] at h6 ⊢
      · refine Do.seqk fun _ k11_ => ?_
        refine Do.region [4] true ?_
        simp [go_sem]
        apply k11_; clear k11_
        refine Do.ret ?_
        simp [endQ, rets, ret1, go_sem]
        repeat (refine And.intro (by first | omega | (intros; omega) | (intros; exact And.intro (by assumption) (by omega)) | grind) ?_)
        refine ret_b ?_
        have : m ≠ m' := fun e => h6 (by rw [e])
        simp [this]
      · refine Do.skip ?_
        simp [go_sem]
        apply k9_; clear k9_
        refine Do.region [2,3,5] true ?_
        simp [go_sem]
        repeat (refine And.intro (by first | omega | (intros; omega) | (intros; exact And.intro (by assumption) (by omega)) | grind) ?_)
        refine ⟨i + 1, St.le_of (by first | rfl | simp [keep]) (by first | rfl | simp [keep]), ⟨by omega, ?_⟩, by simp; omega⟩
        intro j hj
        by_cases e : j = i
        · subst e; exact h6
        · exact hz j (by omega)
    · refine Do.exit ?_
      simp [go_sem]
      apply k5_; clear k5_
      refine Do.seqk fun _ k12_ => ?_
      refine Do.region [4] true ?_
      simp [go_sem]
      apply k12_; clear k12_
      refine Do.ret ?_
      simp [endQ, rets, ret1, go_sem]
      repeat (refine And.intro (by first | omega | (intros; omega) | (intros; exact And.intro (by assumption) (by omega)) | grind) ?_)
      refine ret_b ?_
      have e : m = m' := by
        apply List.ext_getElem?
        intro j
        by_cases hj : j < i
        · have := hz j hj
          rw [List.getElem?_eq_getElem (show j < m.length by omega), List.getElem?_eq_getElem (show j < m'.length by omega)] at this ⊢
          simpa using this
        · rw [List.getElem?_eq_none (by omega), List.getElem?_eq_none (by omega)]
      simp [h1, h2, h3, e]
theorem Is_does {k e : Int} {n : Bool} {m : List Nat} {k' e' : Int} {n' : Bool} {m' : List Nat} (hm : m.length ≤ 1073741824) (wm : Ws m) (hm' : m'.length ≤ 1073741824) (wm' : Ws m') (he' : Md e') : Does Tryz.prog G 70 [Fl k n e m, Fl k' n' e' m'] (.v (.c (.b (k == (rcanon ⟨k', n', e', val m'⟩).k && n == (rcanon ⟨k', n', e', val m'⟩).n && e == (rcanon ⟨k', n', e', val m'⟩).e && decide (m = nat (rcanon ⟨k', n', e', val m'⟩).v))))) := by
  have hc := @Canonical_does G k' e' n' m' hm' wm' he'
  generalize rcanon ⟨k', n', e', val m'⟩ = y at *
  refine Does.of (nt := 9) Tryz.func70 rfl rfl rfl (by simp) ?_
  simp only [argTm, PV.ext, Ce.ext]
  refine Do.seqk fun _ k1_ => ?_
  refine Do.region [2,3] true ?_
  simp [go_sem]
  apply k1_; clear k1_
  refine Do.seqk fun _ k2_ => ?_
  refine Do.draw [4] true (by kernel_rfl) ?_
  simp [go_sem]
  repeat (refine And.intro (by first | omega | (intros; omega) | (intros; exact And.intro (by assumption) (by omega)) | kernel_rfl | grind) ?_)
  refine DoLD.call true 103 rfl rfl rfl rfl (by first | exact trivial | omega | (simp; done) | (simp; omega)) (hc) rfl (by first | exact .inl rfl | exact .inr rfl) rfl ?_
  simp [go_sem]
  refine DoLD.call true 104 rfl rfl rfl rfl (by first | exact trivial | omega | (simp; done) | (simp; omega)) (Equal_does hm wm (nat_ws _)) rfl (by first | exact .inl rfl | exact .inr rfl) rfl ?_
  simp [go_sem]
  try (refine And.intro (by kernel_rfl) ?_)
  apply k2_; clear k2_
  refine Do.ret ?_
  simp [endQ, rets, ret1, go_sem]
  repeat (refine And.intro (by first | omega | (intros; omega) | (intros; exact And.intro (by assumption) (by omega)) | grind) ?_)
  exact TLe.refl _
theorem RGreatest_does {f p : Int} (hf : fmOk f p = true) : Does Tryz.prog G 92 [Fm f p] (.int .i64 (gOfE f)) := by
  obtain ⟨b1, b2, b3, b4⟩ := fmOk_spec hf
  obtain ⟨b5, b6⟩ := gOfE_le b1 b2
  have hg : (2 : Int) ^ (f.toNat - 1) = gOfE f + 1 := by unfold gOfE; omega
  refine Does.of (nt := 8) Tryz.func92 rfl rfl rfl (by simp) ?_
  simp only [argTm, PV.ext, Ce.ext]
  refine Do.seqk fun _ k1_ => ?_
  refine Do.region [1] true ?_
  simp [go_sem]
  apply k1_; clear k1_
  refine Do.seqk fun _ k2_ => ?_
  refine Do.region [2] true ?_
  simp [go_sem]
  repeat (refine And.intro (by first | omega | (intros; omega) | (intros; exact And.intro (by assumption) (by omega)) | grind) ?_)
  rw [hg]
  repeat (refine And.intro (by omega) ?_)
  apply k2_; clear k2_
  refine Do.ret ?_
  simp [endQ, rets, ret1, go_sem]
  repeat (refine And.intro (by first | omega | (intros; omega) | (intros; exact And.intro (by assumption) (by omega)) | grind) ?_)
  exact ret_i (by omega)
end Go.Proofs.YthpkhmbjmnhmoaaGreatDoor
/- The formats of the reference, and its check of arguments. No condition. -/
namespace Go.Proofs.YthpkhmbjmnhmoaaGreatDoor
set_option linter.unusedVariables false
set_option linter.unusedSimpArgs false
variable {G : Gl}
set_option maxHeartbeats 2000000
theorem RLeast_does {f p : Int} (hf : fmOk f p = true) : Does Tryz.prog G 74 [Fm f p] (.int .i64 (1 - gOfE f)) := by
  obtain ⟨b1, b2, b3, b4⟩ := fmOk_spec hf
  obtain ⟨b5, b6⟩ := gOfE_le b1 b2
  refine Does.of (nt := 6) Tryz.func74 rfl rfl rfl (by simp) ?_
  simp only [argTm, PV.ext, Ce.ext]
  refine Do.seqk fun _ k1_ => ?_
  refine Do.region [1] true ?_
  simp [go_sem]
  apply k1_; clear k1_
  refine Do.seqk fun _ k2_ => ?_
  refine Do.region [2] true ?_
  simp [go_sem]
  repeat (refine And.intro (by first | omega | (intros; omega) | (intros; exact And.intro (by assumption) (by omega)) | grind) ?_)
  refine DoL.call true 102 rfl rfl rfl rfl (by first | exact trivial | omega | (simp; done) | (simp; omega)) (RGreatest_does hf) rfl (by first | exact .inl rfl | exact .inr rfl) rfl ?_
  simp [go_sem]
  repeat (refine And.intro (by first | omega | (intros; omega) | (intros; exact And.intro (by assumption) (by omega)) | grind) ?_)
  apply k2_; clear k2_
  refine Do.ret ?_
  simp [endQ, rets, ret1, go_sem]
  repeat (refine And.intro (by first | omega | (intros; omega) | (intros; exact And.intro (by assumption) (by omega)) | grind) ?_)
  exact TLe.refl _
theorem RTiny_does {f p : Int} (hf : fmOk f p = true) : Does Tryz.prog G 32 [Fm f p] (.int .i64 (1 - gOfE f - (p - 1))) := by
  obtain ⟨b1, b2, b3, b4⟩ := fmOk_spec hf
  obtain ⟨b5, b6⟩ := gOfE_le b1 b2
  refine Does.of (nt := 9) Tryz.func32 rfl rfl rfl (by simp) ?_
  simp only [argTm, PV.ext, Ce.ext]
  refine Do.seqk fun _ k1_ => ?_
  refine Do.region [1] true ?_
  simp [go_sem]
  apply k1_; clear k1_
  refine Do.seqk fun _ k2_ => ?_
  refine Do.draw [2] true (by kernel_rfl) ?_
  simp [go_sem]
  repeat (refine And.intro (by first | omega | (intros; omega) | (intros; exact And.intro (by assumption) (by omega)) | kernel_rfl | grind) ?_)
  refine DoLD.call true 102 rfl rfl rfl rfl (by first | exact trivial | omega | (simp; done) | (simp; omega)) (RLeast_does hf) rfl (by first | exact .inl rfl | exact .inr rfl) rfl ?_
  simp [go_sem]
  repeat (refine And.intro (by first | omega | (intros; omega) | (intros; exact And.intro (by assumption) (by omega)) | kernel_rfl | grind) ?_)
  try (refine And.intro (by kernel_rfl) ?_)
  apply k2_; clear k2_
  refine Do.ret ?_
  simp [endQ, rets, ret1, go_sem]
  repeat (refine And.intro (by first | omega | (intros; omega) | (intros; exact And.intro (by assumption) (by omega)) | grind) ?_)
  exact TLe.refl _
theorem RRightF_does {f p : Int} : Does Tryz.prog G 66 [Fm f p] (.v (.c (.b (fmOk f p)))) := by
  refine Does.of (nt := 21) Tryz.func66 rfl rfl rfl (by simp) ?_
  simp only [argTm, PV.ext, Ce.ext]
  refine Do.seqk fun _ k1_ => ?_
  refine Do.region [1] true ?_
  simp [go_sem]
  apply k1_; clear k1_
  refine Do.seqk fun _ k2_ => ?_
  refine Do.region [2] true ?_
  simp [go_sem]
  repeat (refine And.intro (by first | omega | (intros; omega) | (intros; exact And.intro (by assumption) (by omega)) | grind) ?_)
  apply k2_; clear k2_
  refine Do.ret ?_
  simp [endQ, rets, ret1, go_sem]
  repeat (refine And.intro (by first | omega | (intros; omega) | (intros; exact And.intro (by assumption) (by omega)) | grind) ?_)
  exact ret_b (by simp [fmOk])
theorem NLarge_does {m : List Nat} (hm : Sh m) : Does Tryz.prog G 42 [Wd m] (.v (.c (.b (decide (4096 < (m.length : Int)))))) := by
  refine Does.of (nt := 6) Tryz.func42 rfl rfl rfl (by simp) ?_
  simp only [argTm, PV.ext, Ce.ext]
  refine Do.seqk fun _ k1_ => ?_
  refine Do.region [0] true ?_
  simp [go_sem]
  apply k1_; clear k1_
  refine Do.seqk fun _ k2_ => ?_
  refine Do.region [2] true ?_
  simp [go_sem]
  repeat (refine And.intro (by first | omega | (intros; omega) | (intros; exact And.intro (by assumption) (by omega)) | grind) ?_)
  apply k2_; clear k2_
  refine Do.ret ?_
  simp [endQ, rets, ret1, go_sem]
  repeat (refine And.intro (by first | omega | (intros; omega) | (intros; exact And.intro (by assumption) (by omega)) | grind) ?_)
  exact TLe.refl _
theorem FLarge_does {k e : Int} {n : Bool} {m : List Nat} (hm : Sh m) : Does Tryz.prog G 65 [Fl k n e m] (.v (.c (.b (decide (4096 < (m.length : Int)))))) := by
  refine Does.of (nt := 6) Tryz.func65 rfl rfl rfl (by simp) ?_
  simp only [argTm, PV.ext, Ce.ext]
  refine Do.seqk fun _ k1_ => ?_
  refine Do.region [1] true ?_
  simp [go_sem]
  apply k1_; clear k1_
  refine Do.seqk fun _ k2_ => ?_
  refine Do.region [2] true ?_
  simp [go_sem]
  repeat (refine And.intro (by first | omega | (intros; omega) | (intros; exact And.intro (by assumption) (by omega)) | grind) ?_)
  refine DoL.call true 103 rfl rfl rfl rfl (by first | exact trivial | omega | (simp; done) | (simp; omega)) (NLarge_does hm) rfl (by first | exact .inl rfl | exact .inr rfl) rfl ?_
  simp [go_sem]
  apply k2_; clear k2_
  refine Do.ret ?_
  simp [endQ, rets, ret1, go_sem]
  repeat (refine And.intro (by first | omega | (intros; omega) | (intros; exact And.intro (by assumption) (by omega)) | grind) ?_)
  exact TLe.refl _
/-- Is a float one of a format, by the reference? -/
def inP (f p : Int) (x : Flt) : Bool :=
  if x.k = 1 then decide ((bl (rcanon x).v : Int) ≤ p) && decide (1 - gOfE f - (p - 1) ≤ (rcanon x).e) && decide ((bl (rcanon x).v : Int) + (rcanon x).e ≤ gOfE f + 1) else true
theorem inP_good {f p : Int} {x : Flt} (h : (canon x).2 = true) : inP f p x = (holdsP f p x).2 := by
  have h1 := rcanon_good h
  have hk : (canon x).1.k = x.k := by rw [← h1]; unfold rcanon; split <;> simp_all
  unfold inP holdsP
  rw [h1]
  by_cases hk1 : x.k = 1
  · rw [if_pos hk1, if_neg (by simp [h, hk, hk1])]
    simp only []
    congr 1
    rw [decide_eq_decide]; omega
  · rw [if_neg hk1, if_pos (by simp [hk, hk1]), h]
theorem holds_good {f p : Int} {x : Flt} : ((canon x).2 && inP f p x) = (holdsP f p x).2 := by
  cases h : (canon x).2 with
  | true => rw [Bool.true_and, inP_good h]
  | false => unfold holdsP; rw [if_pos (.inl h), h]; rfl
theorem rv_le {k e : Int} {n : Bool} {m : List Nat} : (rcanon ⟨k, n, e, val m⟩).v ≤ val m := by
  unfold rcanon; split
  · exact Nat.div_le_self _ _
  · exact Nat.zero_le _
theorem In_does {f p k e : Int} {n : Bool} {m : List Nat} (hf : fmOk f p = true) (hm : m.length ≤ 1073741824) (wm : Ws m) (he : Md e) : Does Tryz.prog G 68 [Fm f p, Fl k n e m] (.v (.c (.b (inP f p ⟨k, n, e, val m⟩)))) := by
  obtain ⟨b1, b2, b3, b4⟩ := fmOk_spec hf
  obtain ⟨b5, b6⟩ := gOfE_le b1 b2
  have hv := bl_le_len wm (Nat.div_le_self (val m) (2 ^ tz (val m)))
  have hl := nat_len_le wm (Nat.div_le_self (val m) (2 ^ tz (val m)))
  have hn := @RLen_does G (nat (val m / 2 ^ tz (val m))) (by omega) (nat_ws _)
  rw [val_nat] at hn
  have ht : tz (val m) < 64 * m.length + 1 := by
    by_cases h : val m = 0
    · rw [h, tz_zero]; omega
    · have := tz_bound wm h; omega
  refine Does.of (nt := 36) Tryz.func68 rfl rfl rfl (by simp) ?_
  simp only [argTm, PV.ext, Ce.ext]
  refine Do.seqk fun _ k1_ => ?_
  refine Do.region [2,3] true ?_
  simp [go_sem]
  apply k1_; clear k1_
  refine Do.seqk fun _ k2_ => ?_
  refine Do.seqk fun _ k3_ => ?_
  refine Do.region [2,3,9] true ?_
  simp [go_sem]
  repeat (refine And.intro (by first | omega | (intros; omega) | (intros; exact And.intro (by assumption) (by omega)) | grind) ?_)
  apply k3_; clear k3_
  refine Do.cond [2,3] rfl (fun h => ?_) (fun h => ?_) <;> simp [go_sem] at h ⊢
  · refine Do.seqk fun _ k4_ => ?_
    refine Do.region [4] true ?_
    simp [go_sem]
    apply k4_; clear k4_
    refine Do.ret ?_
    simp [endQ, rets, ret1, go_sem]
    repeat (refine And.intro (by first | omega | (intros; omega) | (intros; exact And.intro (by assumption) (by omega)) | grind) ?_)
    refine ret_b ?_
    rw [inP, if_neg h]
  · refine Do.skip ?_
    simp [go_sem]
    apply k2_; clear k2_
    refine Do.seqk fun _ k5_ => ?_
    refine Do.region [2,5,6] true ?_
    simp [go_sem]
    repeat (refine And.intro (by first | omega | (intros; omega) | (intros; exact And.intro (by assumption) (by omega)) | grind) ?_)
    refine DoL.call true 302 rfl rfl rfl rfl (by first | exact trivial | omega | (simp; done) | (simp; omega)) (odd_does hm wm he) rfl (by first | exact .inl rfl | exact .inr rfl) rfl ?_
    simp [go_sem]
    apply k5_; clear k5_
    refine Do.seqk fun _ k6_ => ?_
    refine Do.draw [4] true (by kernel_rfl) ?_
    simp [go_sem]
    refine DoLD.call true 402 rfl rfl rfl rfl (by first | exact trivial | omega | (simp; done) | (simp; omega)) (hn) rfl (by first | exact .inl rfl | exact .inr rfl) rfl ?_
    simp [go_sem]
    repeat (refine And.intro (by first | omega | (intros; omega) | (intros; exact And.intro (by assumption) (by omega)) | kernel_rfl | grind) ?_)
    refine DoLD.callg true 409 rfl rfl rfl rfl rfl (by simp [go_sem] <;> omega) (fun _ => RTiny_does hf) rfl (by first | exact .inl rfl | exact .inr rfl) rfl ?_
    simp [go_sem]
    refine DoLD.callg true 414 rfl rfl rfl rfl rfl (by simp [go_sem] <;> omega) (fun _ => hn) rfl (by first | exact .inl rfl | exact .inr rfl) rfl ?_
    simp [go_sem]
    repeat (refine And.intro (by first | omega | (intros; omega) | (intros; exact And.intro (by assumption) (by omega)) | kernel_rfl | grind) ?_)
    refine DoLD.callg true 418 rfl rfl rfl rfl rfl (by simp [go_sem] <;> omega) (fun _ => RGreatest_does hf) rfl (by first | exact .inl rfl | exact .inr rfl) rfl ?_
    simp [go_sem]
    repeat (refine And.intro (by first | omega | (intros; omega) | (intros; exact And.intro (by assumption) (by omega)) | kernel_rfl | grind) ?_)
    try (refine And.intro (by kernel_rfl) ?_)
    apply k6_; clear k6_
    refine Do.ret ?_
    simp [endQ, rets, ret1, go_sem]
    repeat (refine And.intro (by first | omega | (intros; omega) | (intros; exact And.intro (by assumption) (by omega)) | grind) ?_)
    refine ret_b ?_
    rw [inP, if_pos h, rcanon, if_pos h]
theorem Known_does {r : Int} : Does Tryz.prog G 43 [.c (.i .i64 r)] (.v (.c (.b (decide (0 ≤ r) && decide (r ≤ 4))))) := by
  refine Does.of (nt := 9) Tryz.func43 rfl rfl rfl (by simp) ?_
  simp only [argTm, PV.ext, Ce.ext]
  refine Do.seqk fun _ k1_ => ?_
  refine Do.region [0] true ?_
  simp [go_sem]
  apply k1_; clear k1_
  refine Do.seqk fun _ k2_ => ?_
  refine Do.region [2] true ?_
  simp [go_sem]
  apply k2_; clear k2_
  refine Do.ret ?_
  simp [endQ, rets, ret1, go_sem]
  repeat (refine And.intro (by first | omega | (intros; omega) | (intros; exact And.intro (by assumption) (by omega)) | grind) ?_)
  exact TLe.refl _
theorem good_md {x : Flt} (h : (canon x).2 = true) : Md x.e := by
  unfold canon at h
  split at h
  · simp at h; omega
  · split at h
    · simp at h; omega
    · split at h
      · split at h
        · cases h
        · constructor <;> omega
      · cases h
theorem RCheck_does {f p : Int} {l : List Fla} (hl : l.length < 1099511627776) (ho : ∀ x ∈ l, x.Ok) : Does Tryz.prog G 27 [Fm f p, Rows l] (.int .i64 (argsE f p 0 false l)) := by
  refine Does.of (nt := 42) Tryz.func27 rfl rfl rfl (by simp) ?_
  simp only [argTm, PV.ext, Ce.ext]
  refine Do.seqk fun _ k1_ => ?_
  refine Do.region [1,2] true ?_
  simp [go_sem]
  apply k1_; clear k1_
  refine Do.seqk fun _ k2_ => ?_
  refine Do.seqk fun _ k3_ => ?_
  refine Do.region [1,2,5] true ?_
  simp [go_sem]
  apply k3_; clear k3_
  refine Do.block ?_
  refine Do.loopF [1,2,5] (fun (i : Nat) => [(5, .int .i64 i)]) (fun (i : Nat) => []) (fun (i : Nat) => i ≤ l.length ∧ ∀ j, j < i → ∀ x, l[j]? = some x → x.m.length ≤ 4096) (fun (i : Nat) => l.length - i) (0) (fun _ => by first | (simp [go_sem, mixS]; done) | (simp [go_sem, mixS]; rfl)) (St.le_of (by first | rfl | simp [keep]) (by first | rfl | simp [keep])) (⟨Nat.zero_le _, fun j hj => absurd hj (Nat.not_lt_zero j)⟩) ?_
  rintro i ⟨hi, hz⟩
  refine Do.seqk fun _ k4_ => ?_
  refine Do.seqk fun _ k5_ => ?_
  refine Do.region [1,2,5,10] true ?_
  simp [go_sem]
  repeat (refine And.intro (by first | omega | (intros; omega) | (intros; exact And.intro (by assumption) (by omega)) | grind) ?_)
  apply k5_; clear k5_
  refine Do.cond [1,2,5] rfl (fun h2 => ?_) (fun h2 => ?_) <;> simp [go_sem] at h2 ⊢
  · obtain ⟨x, hx⟩ : ∃ x, l[i]? = some x := ⟨_, List.getElem?_eq_getElem h2⟩
    have hxo := ho x (List.mem_of_getElem? hx)
    refine Do.skip ?_
    simp [go_sem]
    apply k4_; clear k4_
    refine Do.seqk fun _ k6_ => ?_
    refine Do.block ?_
    refine Do.seqk fun _ k7_ => ?_
    refine Do.region [1,2,5,17] true ?_
    simp [go_sem, hx]
    repeat (refine And.intro (by first | omega | (intros; omega) | (intros; exact And.intro (by assumption) (by omega)) | grind) ?_)
    refine DoL.call true 405 rfl rfl rfl rfl (by first | exact trivial | omega | (simp; done) | (simp; omega)) (FLarge_does hxo.sh) rfl (by first | exact .inl rfl | exact .inr rfl) rfl ?_
    simp [go_sem, hx]
    apply k7_; clear k7_
    refine Do.cond [1,2,5] rfl (fun h3 => ?_) (fun h3 => ?_) <;> simp [go_sem, hx] at h3 ⊢
    · refine Do.seqk fun _ k8_ => ?_
      refine Do.region [4] true ?_
      simp [go_sem, hx]
      apply k8_; clear k8_
      refine Do.ret ?_
      simp [endQ, rets, ret1, go_sem, hx]
      repeat (refine And.intro (by first | omega | (intros; omega) | (intros; exact And.intro (by assumption) (by omega)) | grind) ?_)
      refine ret_i ?_
      rw [argsE, if_pos]
      rw [anyLarge, List.any_eq_true]
      exact ⟨x, List.mem_of_getElem? hx, by simp; omega⟩
    · refine Do.skip ?_
      simp [go_sem]
      apply k6_; clear k6_
      refine Do.region [1,2,5] true ?_
      simp [go_sem, hx]
      repeat (refine And.intro (by first | omega | (intros; omega) | (intros; exact And.intro (by assumption) (by omega)) | grind) ?_)
      refine ⟨i + 1, St.le_of (by first | rfl | simp [keep]) (by first | rfl | simp [keep]), ⟨by omega, ?_⟩, by simp; omega⟩
      intro j hj y hy
      by_cases e : j = i
      · subst e; rw [hx] at hy; injection hy with hy; subst hy; omega
      · exact hz j (by omega) y hy
  · have e : i = l.length := by omega
    have hal : anyLarge l = false := by
      rw [anyLarge, List.any_eq_false]
      intro x hx
      obtain ⟨j, hj, e2⟩ := List.getElem_of_mem hx
      have := hz j (by omega) x (by rw [List.getElem?_eq_getElem hj, e2])
      simp; omega
    have hsm := notLarge hal
    refine Do.exit ?_
    simp [go_sem]
    apply k2_; clear k2_
    refine Do.seqk fun _ k9_ => ?_
    refine Do.seqk fun _ k10_ => ?_
    refine Do.region [1,2,20] true ?_
    simp [go_sem]
    repeat (refine And.intro (by first | omega | (intros; omega) | (intros; exact And.intro (by assumption) (by omega)) | grind) ?_)
    refine DoL.call true 602 rfl rfl rfl rfl (by first | exact trivial | omega | (simp; done) | (simp; omega)) (RRightF_does) rfl (by first | exact .inl rfl | exact .inr rfl) rfl ?_
    simp [go_sem]
    repeat (refine And.intro (by first | omega | (intros; omega) | (intros; exact And.intro (by assumption) (by omega)) | grind) ?_)
    apply k10_; clear k10_
    refine Do.cond [1,2] rfl (fun h3 => ?_) (fun h3 => ?_) <;> simp [go_sem] at h3 ⊢
    · refine Do.seqk fun _ k11_ => ?_
      refine Do.region [4] true ?_
      simp [go_sem]
      apply k11_; clear k11_
      refine Do.ret ?_
      simp [endQ, rets, ret1, go_sem]
      repeat (refine And.intro (by first | omega | (intros; omega) | (intros; exact And.intro (by assumption) (by omega)) | grind) ?_)
      refine ret_i ?_
      simp [argsE, hal, h3]
    · refine Do.skip ?_
      simp [go_sem]
      apply k9_; clear k9_
      refine Do.seqk fun _ k12_ => ?_
      refine Do.seqk fun _ k13_ => ?_
      refine Do.region [1,2,6] true ?_
      simp [go_sem]
      apply k13_; clear k13_
      refine Do.block ?_
      refine Do.loopF [1,2,6] (fun (i : Nat) => [(6, .int .i64 i)]) (fun (i : Nat) => []) (fun (i : Nat) => i ≤ l.length ∧ ∀ j, j < i → ∀ x, l[j]? = some x → (holdsP f p x.flt).2 = true) (fun (i : Nat) => l.length - i) (0) (fun _ => by first | (simp [go_sem, mixS]; done) | (simp [go_sem, mixS]; rfl)) (St.le_of (by first | rfl | simp [keep]) (by first | rfl | simp [keep])) (⟨Nat.zero_le _, fun j hj => absurd hj (Nat.not_lt_zero j)⟩) ?_
      rintro i ⟨hi, hz⟩
      refine Do.seqk fun _ k14_ => ?_
      refine Do.seqk fun _ k15_ => ?_
      refine Do.region [1,2,6,24] true ?_
      simp [go_sem]
      repeat (refine And.intro (by first | omega | (intros; omega) | (intros; exact And.intro (by assumption) (by omega)) | grind) ?_)
      apply k15_; clear k15_
      refine Do.cond [1,2,6] rfl (fun h2 => ?_) (fun h2 => ?_) <;> simp [go_sem] at h2 ⊢
      · obtain ⟨x, hx⟩ : ∃ x, l[i]? = some x := ⟨_, List.getElem?_eq_getElem h2⟩
        have hxo := ho x (List.mem_of_getElem? hx)
        have hxl := hsm x (List.mem_of_getElem? hx)
        have hg := @holds_good f p x.flt
        refine Do.skip ?_
        simp [go_sem]
        apply k14_; clear k14_
        refine Do.seqk fun _ k16_ => ?_
        refine Do.block ?_
        refine Do.seqk fun _ k17_ => ?_
        refine Do.draw [1,2,6,41] true (by kernel_rfl) ?_
        simp [go_sem, hx]
        repeat (refine And.intro (by first | omega | (intros; omega) | (intros; exact And.intro (by assumption) (by omega)) | kernel_rfl | grind) ?_)
        refine DoLD.call true 1105 rfl rfl rfl rfl (by first | exact trivial | omega | (simp; done) | (simp; omega)) (Good_does (by omega) hxo.ws) rfl (by first | exact .inl rfl | exact .inr rfl) rfl ?_
        simp [go_sem, hx]
        repeat (refine And.intro (by first | omega | (intros; omega) | (intros; exact And.intro (by assumption) (by omega)) | kernel_rfl | grind) ?_)
        refine DoLD.callg true 1113 rfl rfl rfl rfl rfl (by simp [go_sem] <;> omega) (fun h => In_does h3 (by omega) hxo.ws (good_md (by simpa using h))) rfl (by first | exact .inl rfl | exact .inr rfl) rfl ?_
        simp [go_sem, hx]
        repeat (refine And.intro (by first | omega | (intros; omega) | (intros; exact And.intro (by assumption) (by omega)) | kernel_rfl | grind) ?_)
        try (refine And.intro (by kernel_rfl) ?_)
        apply k17_; clear k17_
        refine Do.cond [1,2,6] rfl (fun h4 => ?_) (fun h4 => ?_) <;> simp [go_sem, hx] at h4 ⊢
        · refine Do.seqk fun _ k18_ => ?_
          refine Do.region [4] true ?_
          simp [go_sem, hx]
          apply k18_; clear k18_
          refine Do.ret ?_
          simp [endQ, rets, ret1, go_sem, hx]
          repeat (refine And.intro (by first | omega | (intros; omega) | (intros; exact And.intro (by assumption) (by omega)) | grind) ?_)
          refine ret_i ?_
          have hn : (holdsP f p x.flt).2 = false := by
            rw [← hg]
            rcases h4 with h4 | h4
            · rw [show x.flt = ⟨x.k, x.n, x.e, val x.m⟩ from rfl, h4]; rfl
            · rw [show x.flt = ⟨x.k, x.n, x.e, val x.m⟩ from rfl, h4]; simp
          have hall : allHold f p l = false := by
            rw [allHold, List.all_eq_false]
            exact ⟨x, List.mem_of_getElem? hx, by rw [hn]; exact Bool.false_ne_true⟩
          simp [argsE, hal, h3, hall]
        · refine Do.skip ?_
          simp [go_sem]
          apply k16_; clear k16_
          refine Do.region [1,2,6] true ?_
          simp [go_sem, hx]
          repeat (refine And.intro (by first | omega | (intros; omega) | (intros; exact And.intro (by assumption) (by omega)) | grind) ?_)
          refine ⟨i + 1, St.le_of (by first | rfl | simp [keep]) (by first | rfl | simp [keep]), ⟨by omega, ?_⟩, by simp; omega⟩
          intro j hj y hy
          by_cases e : j = i
          · subst e; rw [hx] at hy; injection hy with hy; subst hy
            rw [← hg, show x.flt = ⟨x.k, x.n, x.e, val x.m⟩ from rfl, h4.1, h4.2]; rfl
          · exact hz j (by omega) y hy
      · refine Do.exit ?_
        simp [go_sem]
        apply k12_; clear k12_
        refine Do.seqk fun _ k19_ => ?_
        refine Do.region [4] true ?_
        simp [go_sem]
        apply k19_; clear k19_
        refine Do.ret ?_
        simp [endQ, rets, ret1, go_sem]
        repeat (refine And.intro (by first | omega | (intros; omega) | (intros; exact And.intro (by assumption) (by omega)) | grind) ?_)
        refine ret_i ?_
        have e : i = l.length := by omega
        have hall : allHold f p l = true := by
          rw [allHold, List.all_eq_true]
          intro x hx
          obtain ⟨j, hj, e2⟩ := List.getElem_of_mem hx
          exact hz j (by omega) x (by rw [List.getElem?_eq_getElem hj, e2])
        simp [argsE, hal, h3, hall]
end Go.Proofs.YthpkhmbjmnhmoaaGreatDoor
/- What the laws' packages compute of floats. No condition. -/
namespace Go.Proofs.YthpkhmbjmnhmoaaGreatDoor
set_option linter.unusedVariables false
set_option linter.unusedSimpArgs false
variable {G : Gl}
set_option maxHeartbeats 2000000
def shortP (l : List Fla) : Bool := l.all fun x => decide (x.m.length ≤ 40)
theorem Short15_does {l : List Fla} (hl : l.length < 1099511627776) : Does Tryz.prog G 10 [Rows l] (.v (.c (.b (shortP l)))) := by
  refine Does.of (nt := 17) Tryz.func10 rfl rfl rfl (by simp) ?_
  simp only [argTm, PV.ext, Ce.ext]
  refine Do.seqk fun _ k1_ => ?_
  refine Do.region [0] true ?_
  simp [go_sem]
  apply k1_; clear k1_
  refine Do.seqk fun _ k2_ => ?_
  refine Do.seqk fun _ k3_ => ?_
  refine Do.region [0,3] true ?_
  simp [go_sem]
  apply k3_; clear k3_
  refine Do.block ?_
  refine Do.loopF [0,3] (fun (i : Nat) => [(3, .int .i64 i)]) (fun (i : Nat) => []) (fun (i : Nat) => i ≤ l.length ∧ ∀ j, j < i → ∀ x, l[j]? = some x → x.m.length ≤ 40) (fun (i : Nat) => l.length - i) (0) (fun _ => by first | (simp [go_sem, mixS]; done) | (simp [go_sem, mixS]; rfl)) (St.le_of (by first | rfl | simp [keep]) (by first | rfl | simp [keep])) (⟨Nat.zero_le _, fun j hj => absurd hj (Nat.not_lt_zero j)⟩) ?_
  rintro i ⟨hi, hz⟩
  refine Do.seqk fun _ k4_ => ?_
  refine Do.seqk fun _ k5_ => ?_
  refine Do.region [0,3,7] true ?_
  simp [go_sem]
  repeat (refine And.intro (by first | omega | (intros; omega) | (intros; exact And.intro (by assumption) (by omega)) | grind) ?_)
  apply k5_; clear k5_
  refine Do.cond [0,3] rfl (fun h2 => ?_) (fun h2 => ?_) <;> simp [go_sem] at h2 ⊢
  · obtain ⟨x, hx⟩ : ∃ x, l[i]? = some x := ⟨_, List.getElem?_eq_getElem h2⟩
    refine Do.skip ?_
    simp [go_sem]
    apply k4_; clear k4_
    refine Do.seqk fun _ k6_ => ?_
    refine Do.block ?_
    refine Do.seqk fun _ k7_ => ?_
    refine Do.region [0,3,16] true ?_
    simp [go_sem, hx]
    repeat (refine And.intro (by first | omega | (intros; omega) | (intros; exact And.intro (by assumption) (by omega)) | grind) ?_)
    apply k7_; clear k7_
    refine Do.cond [0,3] rfl (fun h3 => ?_) (fun h3 => ?_) <;> simp [go_sem, hx] at h3 ⊢
    · refine Do.seqk fun _ k8_ => ?_
      refine Do.region [2] true ?_
      simp [go_sem, hx]
      apply k8_; clear k8_
      refine Do.ret ?_
      simp [endQ, rets, ret1, go_sem, hx]
      repeat (refine And.intro (by first | omega | (intros; omega) | (intros; exact And.intro (by assumption) (by omega)) | grind) ?_)
      refine ret_b (Eq.symm ?_)
      rw [shortP, List.all_eq_false]
      exact ⟨x, List.mem_of_getElem? hx, by simp; omega⟩
    · refine Do.skip ?_
      simp [go_sem]
      apply k6_; clear k6_
      refine Do.region [0,3] true ?_
      simp [go_sem, hx]
      repeat (refine And.intro (by first | omega | (intros; omega) | (intros; exact And.intro (by assumption) (by omega)) | grind) ?_)
      refine ⟨i + 1, St.le_of (by first | rfl | simp [keep]) (by first | rfl | simp [keep]), ⟨by omega, ?_⟩, by simp; omega⟩
      intro j hj y hy
      by_cases e : j = i
      · subst e; rw [hx] at hy; injection hy with hy; subst hy; omega
      · exact hz j (by omega) y hy
  · refine Do.exit ?_
    simp [go_sem]
    apply k2_; clear k2_
    refine Do.seqk fun _ k9_ => ?_
    refine Do.region [2] true ?_
    simp [go_sem]
    apply k9_; clear k9_
    refine Do.ret ?_
    simp [endQ, rets, ret1, go_sem]
    repeat (refine And.intro (by first | omega | (intros; omega) | (intros; exact And.intro (by assumption) (by omega)) | grind) ?_)
    refine ret_b (Eq.symm ?_)
    rw [shortP, List.all_eq_true]
    intro x hx
    obtain ⟨j, hj, e2⟩ := List.getElem_of_mem hx
    have := hz j (by omega) x (by rw [List.getElem?_eq_getElem hj, e2])
    simpa using this
theorem Their_does {k e : Int} {n : Bool} {m : List Nat} : Does Tryz.prog G 17 [Fl k n e m] (.v (Fl k n e m)) := by
  refine Does.of (nt := 12) Tryz.func17 rfl rfl rfl (by simp) ?_
  simp only [argTm, PV.ext, Ce.ext]
  refine Do.seqk fun _ k1_ => ?_
  refine Do.region [1,2] true ?_
  simp [go_sem]
  apply k1_; clear k1_
  refine Do.seqk fun _ k2_ => ?_
  refine Do.region [2] true ?_
  simp [go_sem]
  repeat (refine And.intro (by first | omega | (intros; omega) | (intros; exact And.intro (by assumption) (by omega)) | grind) ?_)
  apply k2_; clear k2_
  refine Do.ret ?_
  simp [endQ, rets, ret1, go_sem]
  repeat (refine And.intro (by first | omega | (intros; omega) | (intros; exact And.intro (by assumption) (by omega)) | grind) ?_)
  exact TLe.refl _
theorem Fmt_does {f p : Int} : Does Tryz.prog G 16 [Fm f p] (.v (Fm f p)) := by
  refine Does.of (nt := 8) Tryz.func16 rfl rfl rfl (by simp) ?_
  simp only [argTm, PV.ext, Ce.ext]
  refine Do.seqk fun _ k1_ => ?_
  refine Do.region [1,2] true ?_
  simp [go_sem]
  apply k1_; clear k1_
  refine Do.seqk fun _ k2_ => ?_
  refine Do.region [2] true ?_
  simp [go_sem]
  repeat (refine And.intro (by first | omega | (intros; omega) | (intros; exact And.intro (by assumption) (by omega)) | grind) ?_)
  apply k2_; clear k2_
  refine Do.ret ?_
  simp [endQ, rets, ret1, go_sem]
  repeat (refine And.intro (by first | omega | (intros; omega) | (intros; exact And.intro (by assumption) (by omega)) | grind) ?_)
  exact TLe.refl _
theorem Theirs_does {l : List Fla} (hl : l.length < 1099511627776) : Does Tryz.prog G 21 [Rows l] (.v (.s true (l.map Fla.cs))) := by
  refine Does.of (nt := 20) Tryz.func21 rfl rfl rfl (by simp) ?_
  simp only [argTm, PV.ext, Ce.ext]
  refine Do.seqk fun _ k1_ => ?_
  refine Do.region [0] true ?_
  simp [go_sem]
  apply k1_; clear k1_
  refine Do.seqk fun _ k2_ => ?_
  refine Do.region [0,3] true ?_
  simp [go_sem]
  apply k2_; clear k2_
  refine Do.seqk fun _ k3_ => ?_
  refine Do.seqk fun _ k4_ => ?_
  refine Do.region [0,3,4] true ?_
  simp [go_sem]
  apply k4_; clear k4_
  refine Do.block ?_
  refine Do.own 3 900 4 rfl rfl (by decide) ?_
  simp [go_sem]
  refine Do.loopF [0,3,4] (fun (i : Nat) => [(3, .v (.c (.r 900 i))), (4, .int .i64 i)]) (fun (i : Nat) => [(900, .sr 4 ((l.map Fla.cs).take i))]) (fun (i : Nat) => i ≤ l.length) (fun (i : Nat) => l.length - i) (0) (fun _ => by first | (simp [go_sem, mixS]; done) | (simp [go_sem, mixS]; rfl)) (St.le_of (by first | rfl | simp [keep]) (by first | rfl | simp [keep])) (Nat.zero_le _) ?_
  intro i hi
  refine Do.seqk fun _ k5_ => ?_
  refine Do.seqk fun _ k6_ => ?_
  refine Do.region [0,3,4,8] true ?_
  simp [go_sem]
  repeat (refine And.intro (by first | omega | (intros; omega) | (intros; exact And.intro (by assumption) (by omega)) | grind) ?_)
  apply k6_; clear k6_
  refine Do.cond [0,3,4] rfl (fun h2 => ?_) (fun h2 => ?_) <;> simp [go_sem] at h2 ⊢
  · obtain ⟨x, hx⟩ : ∃ x, l[i]? = some x := ⟨_, List.getElem?_eq_getElem h2⟩
    have hmin : min i l.length = i := by omega
    refine Do.skip ?_
    simp [go_sem]
    apply k5_; clear k5_
    refine Do.seqk fun _ k7_ => ?_
    refine Do.block ?_
    refine Do.region [0,3,4] true ?_
    simp [go_sem, hx, hmin]
    repeat (refine And.intro (by first | omega | (intros; omega) | (intros; exact And.intro (by assumption) (by omega)) | grind) ?_)
    refine DoL.call true 506 rfl rfl rfl rfl (by first | exact trivial | omega | (simp; done) | (simp; omega)) (Their_does) rfl (by first | exact .inl rfl | exact .inr rfl) rfl ?_
    simp [go_sem, hx, hmin]
    repeat (refine And.intro (by first | omega | (intros; omega) | (intros; exact And.intro (by assumption) (by omega)) | grind) ?_)
    apply k7_; clear k7_
    refine Do.region [0,3,4] true ?_
    simp [go_sem, hx, hmin]
    repeat (refine And.intro (by first | omega | (intros; omega) | (intros; exact And.intro (by assumption) (by omega)) | grind) ?_)
    refine ⟨i + 1, St.le_of rfl (by simp [keep, List.take_add_one, hx]), by omega, by simp; omega⟩
  · refine Do.exit ?_
    simp [go_sem]
    apply k3_; clear k3_
    refine Do.seqk fun _ k8_ => ?_
    refine Do.region [2] true ?_
    simp [go_sem]
    apply k8_; clear k8_
    refine Do.ret ?_
    simp [endQ, rets, ret1, go_sem]
    repeat (refine And.intro (by first | omega | (intros; omega) | (intros; exact And.intro (by assumption) (by omega)) | grind) ?_)
    have e : i = l.length := by omega
    rw [List.take_of_length_le (by simp; omega)]
    exact TLe.refl _
theorem None_does {k e : Int} {n : Bool} {m : List Nat} (hm : Sh m) : Does Tryz.prog G 28 [Fl k n e m] (.v (.c (.b (k == 0 && !n && e == 0 && decide (m = []))))) := by
  refine Does.of (nt := 22) Tryz.func28 rfl rfl rfl (by simp) ?_
  simp only [argTm, PV.ext, Ce.ext]
  refine Do.seqk fun _ k1_ => ?_
  refine Do.region [1] true ?_
  simp [go_sem]
  apply k1_; clear k1_
  refine Do.seqk fun _ k2_ => ?_
  refine Do.region [2] true ?_
  simp [go_sem]
  repeat (refine And.intro (by first | omega | (intros; omega) | (intros; exact And.intro (by assumption) (by omega)) | grind) ?_)
  apply k2_; clear k2_
  refine Do.ret ?_
  simp [endQ, rets, ret1, go_sem]
  repeat (refine And.intro (by first | omega | (intros; omega) | (intros; exact And.intro (by assumption) (by omega)) | grind) ?_)
  refine ret_b ?_
  cases m with
  | nil => simp
  | cons w m => simp; intro _ _ _; omega
/-- Is a float the canonical one of another, by the words? -/
def isP (k : Int) (n : Bool) (e : Int) (m : List Nat) (y : Flt) : Bool := k == y.k && n == y.n && e == y.e && decide (m = nat y.v)
theorem LIs_does {k e : Int} {n : Bool} {m : List Nat} {k' e' : Int} {n' : Bool} {m' : List Nat} (hm : m.length ≤ 1073741824) (wm : Ws m) (hm' : m'.length ≤ 1073741824) (wm' : Ws m') (he' : Md e') : Does Tryz.prog G 30 [Fl k n e m, Fl k' n' e' m'] (.v (.c (.b (isP k n e m (rcanon ⟨k', n', e', val m'⟩))))) := by
  refine Does.of (nt := 9) Tryz.func30 rfl rfl rfl (by simp) ?_
  simp only [argTm, PV.ext, Ce.ext]
  refine Do.seqk fun _ k1_ => ?_
  refine Do.region [2,3] true ?_
  simp [go_sem]
  apply k1_; clear k1_
  refine Do.seqk fun _ k2_ => ?_
  refine Do.draw [4] true (by kernel_rfl) ?_
  simp [go_sem]
  repeat (refine And.intro (by first | omega | (intros; omega) | (intros; exact And.intro (by assumption) (by omega)) | kernel_rfl | grind) ?_)
  refine DoLD.call true 102 rfl rfl rfl rfl (by first | exact trivial | omega | (simp; done) | (simp; omega)) (Their_does) rfl (by first | exact .inl rfl | exact .inr rfl) rfl ?_
  simp [go_sem]
  repeat (refine And.intro (by first | omega | (intros; omega) | (intros; exact And.intro (by assumption) (by omega)) | kernel_rfl | grind) ?_)
  refine DoLD.call true 104 rfl rfl rfl rfl (by first | exact trivial | omega | (simp; done) | (simp; omega)) (Is_does hm wm hm' wm' he') rfl (by first | exact .inl rfl | exact .inr rfl) rfl ?_
  simp [go_sem]
  try (refine And.intro (by kernel_rfl) ?_)
  apply k2_; clear k2_
  refine Do.ret ?_
  simp [endQ, rets, ret1, go_sem]
  repeat (refine And.intro (by first | omega | (intros; omega) | (intros; exact And.intro (by assumption) (by omega)) | grind) ?_)
  exact TLe.refl _
/-- Does a result fit? -/
def fitsP (x : Fla) (k e : Int) (y : Fla) (fl w : Int) : Bool :=
  if w = 0 then e == 0 && isP x.k x.n x.e x.m (rcanon y.flt) && k == fl else e == w && (x.k == 0 && !x.n && x.e == 0 && decide (x.m = [])) && k == 0
theorem Fits_does {x y : Fla} {k e fl w : Int} (hx : x.m.length ≤ 1073741824) (wx : Ws x.m) (hy : y.m.length ≤ 1073741824) (wy : Ws y.m) (ey : Md y.e) : Does Tryz.prog G 14 [Fl x.k x.n x.e x.m, .c (.i .i64 k), .c (.i .i64 e), Fl y.k y.n y.e y.m, .c (.i .i64 fl), .c (.i .i64 w)] (.v (.c (.b (fitsP x k e y fl w)))) := by
  have hI := @LIs_does G x.k x.e x.n x.m y.k y.e y.n y.m hx wx hy wy ey
  refine Does.of (nt := 38) Tryz.func14 rfl rfl rfl (by simp) ?_
  simp only [argTm, PV.ext, Ce.ext]
  refine Do.seqk fun _ k1_ => ?_
  refine Do.region [1,2,4,5,6,9] true ?_
  simp [go_sem]
  apply k1_; clear k1_
  refine Do.seqk fun _ k2_ => ?_
  refine Do.seqk fun _ k3_ => ?_
  refine Do.region [1,2,4,5,6,9,14] true ?_
  simp [go_sem]
  apply k3_; clear k3_
  refine Do.cond [1,2,4,5,6,9] rfl (fun h => ?_) (fun h => ?_) <;> simp [go_sem] at h ⊢
  · refine Do.seqk fun _ k4_ => ?_
    refine Do.region [12] true ?_
    simp [go_sem]
    repeat (refine And.intro (by first | omega | (intros; omega) | (intros; exact And.intro (by assumption) (by omega)) | grind) ?_)
    refine DoL.callg true 206 rfl rfl rfl rfl rfl (by simp [go_sem] <;> omega) (fun _ => None_does (by omega)) rfl (by first | exact .inl rfl | exact .inr rfl) rfl ?_
    simp [go_sem]
    apply k4_; clear k4_
    refine Do.ret ?_
    simp [endQ, rets, ret1, go_sem]
    repeat (refine And.intro (by first | omega | (intros; omega) | (intros; exact And.intro (by assumption) (by omega)) | grind) ?_)
    exact ret_b (by simp [fitsP, h])
  · refine Do.skip ?_
    simp [go_sem]
    apply k2_; clear k2_
    refine Do.seqk fun _ k5_ => ?_
    refine Do.region [12] true ?_
    simp [go_sem]
    repeat (refine And.intro (by first | omega | (intros; omega) | (intros; exact And.intro (by assumption) (by omega)) | grind) ?_)
    refine DoL.callg true 306 rfl rfl rfl rfl rfl (by simp [go_sem] <;> omega) (fun _ => hI) rfl (by first | exact .inl rfl | exact .inr rfl) rfl ?_
    simp [go_sem]
    apply k5_; clear k5_
    refine Do.ret ?_
    simp [endQ, rets, ret1, go_sem]
    repeat (refine And.intro (by first | omega | (intros; omega) | (intros; exact And.intro (by assumption) (by omega)) | grind) ?_)
    exact ret_b (by simp [fitsP, h, Fla.flt])
theorem KArgs_does {f p r : Int} {l : List Fla} (hl : l.length < 1099511627776) (ho : ∀ x ∈ l, x.Ok) : Does Tryz.prog G 13 [Fm f p, .c (.i .i64 r), Rows l] (.int .i64 (argsE f p r false l)) := by
  refine Does.of (nt := 28) Tryz.func13 rfl rfl rfl (by simp) ?_
  simp only [argTm, PV.ext, Ce.ext]
  refine Do.seqk fun _ k1_ => ?_
  refine Do.region [1,2,3] true ?_
  simp [go_sem]
  apply k1_; clear k1_
  refine Do.seqk fun _ k2_ => ?_
  refine Do.seqk fun _ k3_ => ?_
  refine Do.region [1,2,3,7] true ?_
  simp [go_sem]
  apply k3_; clear k3_
  refine Do.block ?_
  refine Do.loopF [1,2,3,7] (fun (i : Nat) => [(7, .int .i64 i)]) (fun (i : Nat) => []) (fun (i : Nat) => i ≤ l.length ∧ ∀ j, j < i → ∀ x, l[j]? = some x → x.m.length ≤ 4096) (fun (i : Nat) => l.length - i) (0) (fun _ => by first | (simp [go_sem, mixS]; done) | (simp [go_sem, mixS]; rfl)) (St.le_of (by first | rfl | simp [keep]) (by first | rfl | simp [keep])) (⟨Nat.zero_le _, fun j hj => absurd hj (Nat.not_lt_zero j)⟩) ?_
  rintro i ⟨hi, hz⟩
  refine Do.seqk fun _ k4_ => ?_
  refine Do.seqk fun _ k5_ => ?_
  refine Do.region [1,2,3,7,11] true ?_
  simp [go_sem]
  repeat (refine And.intro (by first | omega | (intros; omega) | (intros; exact And.intro (by assumption) (by omega)) | grind) ?_)
  apply k5_; clear k5_
  refine Do.cond [1,2,3,7] rfl (fun h2 => ?_) (fun h2 => ?_) <;> simp [go_sem] at h2 ⊢
  · obtain ⟨x, hx⟩ : ∃ x, l[i]? = some x := ⟨_, List.getElem?_eq_getElem h2⟩
    have hxo := ho x (List.mem_of_getElem? hx)
    refine Do.skip ?_
    simp [go_sem]
    apply k4_; clear k4_
    refine Do.seqk fun _ k6_ => ?_
    refine Do.block ?_
    refine Do.seqk fun _ k7_ => ?_
    refine Do.region [1,2,3,7,19] true ?_
    simp [go_sem, hx]
    repeat (refine And.intro (by first | omega | (intros; omega) | (intros; exact And.intro (by assumption) (by omega)) | grind) ?_)
    refine DoL.call true 406 rfl rfl rfl rfl (by first | exact trivial | omega | (simp; done) | (simp; omega)) (NLarge_does hxo.sh) rfl (by first | exact .inl rfl | exact .inr rfl) rfl ?_
    simp [go_sem, hx]
    apply k7_; clear k7_
    refine Do.cond [1,2,3,7] rfl (fun h3 => ?_) (fun h3 => ?_) <;> simp [go_sem, hx] at h3 ⊢
    · refine Do.seqk fun _ k8_ => ?_
      refine Do.region [6] true ?_
      simp [go_sem, hx]
      apply k8_; clear k8_
      refine Do.ret ?_
      simp [endQ, rets, ret1, go_sem, hx]
      repeat (refine And.intro (by first | omega | (intros; omega) | (intros; exact And.intro (by assumption) (by omega)) | grind) ?_)
      refine ret_i ?_
      rw [argsE, if_pos]
      rw [anyLarge, List.any_eq_true]
      exact ⟨x, List.mem_of_getElem? hx, by simp; omega⟩
    · refine Do.skip ?_
      simp [go_sem]
      apply k6_; clear k6_
      refine Do.region [1,2,3,7] true ?_
      simp [go_sem, hx]
      repeat (refine And.intro (by first | omega | (intros; omega) | (intros; exact And.intro (by assumption) (by omega)) | grind) ?_)
      refine ⟨i + 1, St.le_of (by first | rfl | simp [keep]) (by first | rfl | simp [keep]), ⟨by omega, ?_⟩, by simp; omega⟩
      intro j hj y hy
      by_cases e : j = i
      · subst e; rw [hx] at hy; injection hy with hy; subst hy; omega
      · exact hz j (by omega) y hy
  · have hal : anyLarge l = false := by
      rw [anyLarge, List.any_eq_false]
      intro x hx
      obtain ⟨j, hj, e2⟩ := List.getElem_of_mem hx
      have := hz j (by omega) x (by rw [List.getElem?_eq_getElem hj, e2])
      simp; omega
    refine Do.exit ?_
    simp [go_sem]
    apply k2_; clear k2_
    refine Do.seqk fun _ k9_ => ?_
    refine Do.seqk fun _ k10_ => ?_
    refine Do.region [2,3,22] true ?_
    simp [go_sem]
    refine DoL.call true 602 rfl rfl rfl rfl (by first | exact trivial | omega | (simp; done) | (simp; omega)) (Known_does) rfl (by first | exact .inl rfl | exact .inr rfl) rfl ?_
    simp [go_sem]
    repeat (refine And.intro (by first | omega | (intros; omega) | (intros; exact And.intro (by assumption) (by omega)) | grind) ?_)
    apply k10_; clear k10_
    refine Do.cond [2,3] rfl (fun h3 => ?_) (fun h3 => ?_) <;> simp [go_sem] at h3 ⊢
    · refine Do.seqk fun _ k11_ => ?_
      refine Do.region [6] true ?_
      simp [go_sem]
      apply k11_; clear k11_
      refine Do.ret ?_
      simp [endQ, rets, ret1, go_sem]
      repeat (refine And.intro (by first | omega | (intros; omega) | (intros; exact And.intro (by assumption) (by omega)) | grind) ?_)
      refine ret_i ?_
      have : (decide (0 ≤ r) && decide (r ≤ 4) && !false) = false := by simp; omega
      rw [argsE, if_neg (by rw [hal]; exact Bool.false_ne_true), if_pos this]
    · refine Do.skip ?_
      simp [go_sem]
      apply k9_; clear k9_
      refine Do.seqk fun _ k12_ => ?_
      refine Do.region [6] true ?_
      simp [go_sem]
      repeat (refine And.intro (by first | omega | (intros; omega) | (intros; exact And.intro (by assumption) (by omega)) | grind) ?_)
      refine DoL.call true 802 rfl rfl rfl rfl (by first | exact trivial | omega | (simp; done) | (simp; omega)) (Fmt_does) rfl (by first | exact .inl rfl | exact .inr rfl) rfl ?_
      simp [go_sem]
      refine DoL.call true 804 rfl rfl rfl rfl (by first | exact trivial | omega | (simp; done) | (simp; omega)) (Theirs_does hl) rfl (by first | exact .inl rfl | exact .inr rfl) rfl ?_
      simp [go_sem]
      refine DoL.call true 805 rfl rfl rfl rfl (by first | exact trivial | omega | (simp; done) | (simp; omega)) (RCheck_does hl ho) rfl (by first | exact .inl rfl | exact .inr rfl) rfl ?_
      simp [go_sem]
      apply k12_; clear k12_
      refine Do.ret ?_
      simp [endQ, rets, ret1, go_sem]
      repeat (refine And.intro (by first | omega | (intros; omega) | (intros; exact And.intro (by assumption) (by omega)) | grind) ?_)
      refine ret_i ?_
      simp [argsE, hal, h3]
end Go.Proofs.YthpkhmbjmnhmoaaGreatDoor
/- The errors of Pair and Expand. No condition. -/
namespace Go.Proofs.YthpkhmbjmnhmoaaGreatDoor
set_option linter.unusedVariables false
set_option linter.unusedSimpArgs false
set_option maxHeartbeats 2000000
end Go.Proofs.YthpkhmbjmnhmoaaGreatDoor
/- The program awake: three sums. No condition. -/
namespace Go.Proofs.YthpkhmbjmnhmoaaGreatDoor
set_option linter.unusedVariables false
set_option linter.unusedSimpArgs false
set_option maxHeartbeats 4000000
set_option maxRecDepth 10000
end Go.Proofs.YthpkhmbjmnhmoaaGreatDoor
/- Arguments that read as data, as cells. No condition. -/
namespace Go.Proofs.YthpkhmbjmnhmoaaGreatDoor
set_option linter.unusedVariables false
set_option linter.unusedSimpArgs false
open Go.RowKit
/-- What one cell of an argument is. -/
inductive CT where
  | i (k : IntKind)
  | n
  | b
  | w
def ctFields (P : Program) (g : TypeId → Option (List CT)) : List Field → Nat → Option (List CT)
  | [], _ => some []
  | fd :: r, off => match g fd.type with
    | some l => if fd.offset = off ∧ P.cellsOf fd.type = l.length then (ctFields P g r (off + l.length)).map (l ++ ·) else none
    | none => none
def ctOf (P : Program) : Nat → TypeId → Option (List CT)
  | 0, _ => none
  | f + 1, t => match P.underlying t with
    | some .bool => some [.b]
    | some (.int .u64) => some [.n]
    | some (.int k) => some [.i k]
    | some (.slice e) => match P.underlying e with
      | some (.int .u64) => if P.cellsOf e = 1 then some [.w] else none
      | _ => none
    | some (.struct fs) => match ctFields P (ctOf P f) fs.toList 0 with
      | some l => if P.cellsOf t = l.length then some l else none
      | none => none
    | _ => none
/-- A cell of such a kind. -/
def CtIs : CT → Ce → Prop
  | .i k, c => ∃ x, c = .i k x ∧ (Lit.int k x).wf = true
  | .n, c => ∃ x, c = .n x ∧ x < 18446744073709551616
  | .b, c => ∃ x, c = .b x
  | .w, c => ∃ l, c = .w false l ∧ Ws l
section
variable {H : Type} {enc : TypeId × Value → H} {P : Program} {W : World} {ok : Nat → Prop} {base : Nat} {sp : Nat → Bool} {held : Bool}
theorem wf_u64 {x : Int} (h : (Lit.int .u64 x).wf = true) : 0 ≤ x ∧ x < 18446744073709551616 := by
  simp only [Lit.wf, Bool.and_eq_true, decide_eq_true_eq] at h
  have h1 : IntKind.min .u64 = 0 := rfl
  have h2 : IntKind.max .u64 = 18446744073709551615 := rfl
  rw [h1, h2] at h; omega
theorem wf_i64 {x : Int} (h : (Lit.int .i64 x).wf = true) : -9223372036854775808 ≤ x ∧ x ≤ 9223372036854775807 := by
  simp only [Lit.wf, Bool.and_eq_true, decide_eq_true_eq] at h
  have h1 : IntKind.min .i64 = -9223372036854775808 := rfl
  have h2 : IntKind.max .i64 = 9223372036854775807 := rfl
  rw [h1, h2] at h; exact h
theorem words_cell (hok : ∀ b, b < W.heap.size → ok b) {t e : TypeId} {fuel : Nat} {cs : List Value} {x : DataW H × List MemPlace} (ht : P.underlying t = some (.slice e)) (he : P.underlying e = some (.int .u64)) (hc : P.cellsOf e = 1)
    (h : DataW.trod enc P W base sp held fuel t cs = some x) : ∃ l, Ws l ∧ ∃ v, cs = [v] ∧ RC (enA W ok) (.w false l) v := by
  rcases ChangeShapes.open_ints ht he hc h with ⟨rfl, _⟩ | ⟨a, len, cap, zs, rfl, _, hl, hm, hz, _, hcell, hwf⟩
  · exact ⟨[], by simp [Ws], _, rfl, none, 0, rfl, Nat.le_refl _, fun i x hi => by simp at hi⟩
  · have hlz : len ≤ zs.length := by rw [hz]; split <;> omega
    have hz0 : ∀ n ∈ zs, 0 ≤ n ∧ n < 18446744073709551616 := fun n hn => wf_u64 (hwf n hn)
    have hll : ((zs.take len).map Int.toNat).length = len := by simp; omega
    refine ⟨(zs.take len).map Int.toNat, fun w hw => ?_, _, rfl, some a, cap, by rw [hll], by rw [hll]; exact hl, fun i x hi => ?_⟩
    · obtain ⟨n, hn, rfl⟩ := List.mem_map.1 hw
      have := hz0 n (List.mem_of_mem_take hn); omega
    · have hil : i < len := by rw [← hll]; exact (List.getElem?_eq_some_iff.1 hi).1
      have hc1 := hcell i (by omega)
      have hx : zs.getD i 0 = x := by
        rw [List.getElem?_map, List.getElem?_take, if_pos hil, List.getElem?_eq_getElem (show i < zs.length by omega)] at hi
        simp only [Option.map_some, Option.some.injEq] at hi
        have := hz0 zs[i] (List.getElem_mem _)
        simp [List.getD, List.getElem?_eq_getElem (show i < zs.length by omega)]; omega
      rw [hx] at hc1
      refine ⟨a, rfl, hok _ ?_, (fun e => by cases e), hc1⟩
      have := World.block_lt_of_cell? W _ hc1
      rwa [add_block] at this
theorem fields_cells (hok : ∀ b, b < W.heap.size → ok b) {g : TypeId → Option (List CT)} {n : Nat} {cs : List Value} (ih : ∀ (t : TypeId) (cts : List CT) (ds : List Value) (y : DataW H × List MemPlace), g t = some cts → DataW.trod enc P W base sp held n t ds = some y → ∃ ces, All2 (RC (enA W ok)) ces ds ∧ All2 CtIs cts ces) :
    ∀ (fs : List Field) (off : Nat) (cts : List CT), ctFields P g fs off = some cts → (∀ fd ∈ fs, ∃ y, DataW.trod enc P W base sp held n fd.type ((cs.drop fd.offset).take (P.cellsOf fd.type)) = some y) → cs.length = off + cts.length → ∃ ces, All2 (RC (enA W ok)) ces (cs.drop off) ∧ All2 CtIs cts ces
  | [], off, cts, h, _, hl => by
    simp only [ctFields, Option.some.injEq] at h; subst h
    rw [List.drop_of_length_le (by simp at hl; omega)]
    exact ⟨[], .nil, .nil⟩
  | fd :: r, off, cts, h, hf, hl => by
    simp only [ctFields] at h
    split at h
    · rename_i l hg
      split at h
      · rename_i ho
        obtain ⟨ho, hc⟩ := ho
        cases hr : ctFields P g r (off + l.length) with
        | none => simp [hr] at h
        | some l2 =>
          simp only [hr, Option.map_some, Option.some.injEq] at h; subst h
          rw [List.length_append] at hl
          obtain ⟨y, hy⟩ := hf fd (by simp)
          rw [ho, hc] at hy
          obtain ⟨c1, a1, m1⟩ := ih _ _ _ _ hg hy
          obtain ⟨c2, a2, m2⟩ := fields_cells hok ih r (off + l.length) l2 hr (fun fd' hf' => hf fd' (List.mem_cons_of_mem _ hf')) (by omega)
          refine ⟨c1 ++ c2, ?_, m1.append m2⟩
          have := a1.append a2
          rwa [show cs.drop (off + l.length) = (cs.drop off).drop l.length by rw [List.drop_drop], List.take_append_drop] at this
      · cases h
    · cases h
theorem trod_cells (hok : ∀ b, b < W.heap.size → ok b) : ∀ (f n : Nat) (t : TypeId) (cts : List CT) (cs : List Value) (x : DataW H × List MemPlace), ctOf P f t = some cts → DataW.trod enc P W base sp held n t cs = some x → ∃ ces, All2 (RC (enA W ok)) ces cs ∧ All2 CtIs cts ces
  | 0, n, t, cts, cs, x, h, _ => by simp [ctOf] at h
  | f + 1, n, t, cts, cs, x, h, hd => by
    simp only [ctOf] at h
    split at h
    · rename_i ht
      injection h with h; subst h
      obtain ⟨b, rfl, _⟩ := DataW.trod_bool ht hd
      exact ⟨[.b b], .cons rfl .nil, .cons ⟨b, rfl⟩ .nil⟩
    · rename_i ht
      injection h with h; subst h
      obtain ⟨n, rfl, _, hw⟩ := DataW.trod_int ht hd
      have := wf_u64 hw
      exact ⟨[.n n.toNat], .cons (by show Value.int .u64 n = .int .u64 (n.toNat : Nat); rw [Int.toNat_of_nonneg this.1]) .nil, .cons ⟨n.toNat, rfl, by omega⟩ .nil⟩
    · rename_i k _ ht
      injection h with h; subst h
      obtain ⟨n, rfl, _, hw⟩ := DataW.trod_int ht hd
      exact ⟨[.i k n], .cons rfl .nil, .cons ⟨n, rfl, hw⟩ .nil⟩
    · rename_i e ht
      split at h
      · rename_i he
        split at h
        · rename_i hc
          injection h with h; subst h
          obtain ⟨l, hw, v, rfl, hv⟩ := words_cell (ok := ok) hok ht he hc hd
          exact ⟨[.w false l], .cons hv .nil, .cons ⟨l, rfl, hw⟩ .nil⟩
        · cases h
      · cases h
    · rename_i fs ht
      split at h
      · rename_i l hl
        split at h
        · rename_i hc
          injection h with h; subst h
          obtain ⟨xs, m, rfl, _, hlen, hxs, hel⟩ := DataW.trod_struct ht hd
          have hff : ∀ fd ∈ fs.toList, ∃ y, DataW.trod enc P W base sp held m fd.type ((cs.drop fd.offset).take (P.cellsOf fd.type)) = some y := fun fd hfd => by
            obtain ⟨i, hi, rfl⟩ := List.getElem_of_mem hfd
            have hi' : i < fs.size := by simpa using hi
            have := hel i fs[i] (by simp [hi'])
            rw [List.getElem?_eq_getElem (by omega)] at this
            exact ⟨_, by simpa using this⟩
          obtain ⟨ces, h1, h2⟩ := fields_cells (cs := cs) hok (fun t cts ds y hg hy => trod_cells hok f m t cts ds y hg hy) fs.toList 0 l hl hff (by omega)
          exact ⟨ces, by simpa using h1, h2⟩
        · cases h
      · cases h
    · cases h
/-- A struct among the arguments. -/
theorem open_struct {b0 : Nat} (hok : ∀ b, b < W.heap.size → ok b) {t : TypeId} {v : Value} {d : DataW H} {ps : List MemPlace} {fs : Array Field} {f : Nat} {cts : List CT} (ht : P.underlying t = some (.struct fs)) (hc : ctOf P f t = some cts) (hval : Value.okWide P W .any b0 t v) (h : DataW.Trod enc P W base sp held t v d ps) : ∃ ces, RP (enA W ok) (.a ces) v ∧ All2 CtIs cts ces := by
  obtain ⟨vs, rfl, _⟩ := WideShapes.okWide_struct ht hval
  obtain ⟨n, hd⟩ := h
  obtain ⟨ces, h1, h2⟩ := trod_cells hok f n t cts _ _ hc hd
  exact ⟨ces, ⟨vs, rfl, h1⟩, h2⟩
end
end Go.Proofs.YthpkhmbjmnhmoaaGreatDoor
/- The order of a sum's terms; a rounded result is canonical. No condition. -/
namespace Go.Proofs.YthpkhmbjmnhmoaaGreatDoor
set_option linter.unusedVariables false
set_option linter.unusedSimpArgs false
/-- The signed value over a low exponent. -/
def Nu.sv (z : Int) (x : Nu) : Int := if x.n then -((x.v * 2 ^ (x.e - z).toNat : Nat) : Int) else ((x.v * 2 ^ (x.e - z).toNat : Nat) : Int)
theorem pow_split {a b c : Int} (h1 : a ≤ b) (h2 : b ≤ c) : 2 ^ (c - a).toNat = 2 ^ (c - b).toNat * 2 ^ (b - a).toNat := by
  rw [← Nat.pow_add]; congr 1; omega
theorem Nu.plus_sv {z : Int} {a b : Nu} (ha : z ≤ a.e) (hb : z ≤ b.e) : (a.plus b).sv z = a.sv z + b.sv z ∧ z ≤ (a.plus b).e := by
  obtain ⟨n, v, e⟩ := a
  obtain ⟨n', v', e'⟩ := b
  simp only at ha hb
  unfold Nu.plus
  by_cases h0 : v = 0
  · subst h0; simp [Nu.sv, hb]
  · by_cases h1 : v' = 0
    · subst h1; simp [Nu.sv, h0, ha]
    · simp only [h0, h1, if_false]
      generalize hm : (if e' < e then e' else e) = m
      have hm1 : m ≤ e ∧ m ≤ e' ∧ z ≤ m := by split at hm <;> omega
      have e1 : v * 2 ^ (e - z).toNat = v * 2 ^ (e - m).toNat * 2 ^ (m - z).toNat := by rw [pow_split hm1.2.2 hm1.1, Nat.mul_assoc]
      have e2 : v' * 2 ^ (e' - z).toNat = v' * 2 ^ (e' - m).toNat * 2 ^ (m - z).toNat := by rw [pow_split hm1.2.2 hm1.2.1, Nat.mul_assoc]
      simp only [Nu.sv, e1, e2]
      generalize v * 2 ^ (e - m).toNat = x
      generalize v' * 2 ^ (e' - m).toNat = y
      obtain ⟨k, hk⟩ : ∃ k, 2 ^ (m - z).toNat = k := ⟨_, rfl⟩
      simp only [hk]
      have hp : (x + y) * k = x * k + y * k := Nat.add_mul x y k
      have hs : (x - y) * k = x * k - y * k := Nat.sub_mul x y k
      have hs' : (y - x) * k = y * k - x * k := Nat.sub_mul y x k
      have hle := fun h : y ≤ x => Nat.mul_le_mul_right k h
      have hle' := fun h : ¬ y ≤ x => Nat.mul_le_mul_right k (show x ≤ y by omega)
      generalize x * k = X at *
      generalize y * k = Y at *
      by_cases hyx : y ≤ x
      · have := hle hyx
        cases n <;> cases n' <;> simp only [hyx, if_true, if_false, hk, hp, hs, reduceCtorEq, Bool.false_eq_true] <;> omega
      · have := hle' hyx
        cases n <;> cases n' <;> simp only [hyx, if_true, if_false, hk, hp, hs', reduceCtorEq, Bool.false_eq_true] <;> omega
/-- The signed values of the finite terms, added. -/
def svs (z : Int) : List Flt → Int
  | [] => 0
  | x :: l => (if x.k = 1 then (⟨x.n, x.v, x.e⟩ : Nu).sv z else 0) + svs z l
theorem svs_append (z : Int) (l m : List Flt) : svs z (l ++ m) = svs z l + svs z m := by
  induction l with
  | nil => simp [svs]
  | cons x l ih => simp only [List.cons_append, svs, ih]; omega
/-- What holds of a sum of such terms. -/
structure GaIs (z : Int) (l : List Flt) (g : Ga) : Prop where
  sum : g.sum.sv z = svs z l
  low : z ≤ g.sum.e
  nan : g.nan = l.any fun x => x.k == 3
  inv : g.inv = false
  plus : g.plus = l.any fun x => x.k == 2 && !x.n
  minus : g.minus = l.any fun x => x.k == 2 && x.n
  seen : g.seen = l.any fun _ => true
  some_ : g.some_ = l.any fun x => x.k == 1 || (x.k != 2 && x.k != 3 && !x.n)
  other : g.other = l.any fun x => x.k == 1 || (x.k != 2 && x.k != 3 && x.n)
theorem GaIs.put {z : Int} {l : List Flt} {g : Ga} (h : GaIs z l g) {x : Flt} (hx : x.k = 1 → z ≤ x.e) : GaIs z (l ++ [x]) (g.put x.k ⟨x.n, x.v, x.e⟩) := by
  obtain ⟨h1, h2, h3, h4, h5, h6, h7, h8, h9⟩ := h
  obtain ⟨k, n, e, v⟩ := x
  simp only at hx
  unfold Ga.put
  by_cases k3 : k = 3
  · subst k3; constructor <;> simp_all [svs_append, svs]
  · by_cases k2 : k = 2
    · subst k2; constructor <;> simp_all [svs_append, svs]
    · by_cases k1 : k = 1
      · subst k1
        have := Nu.plus_sv h2 (b := ⟨n, v, e⟩) (hx rfl)
        constructor <;> simp_all [svs_append, svs]
      · have b1 : (k == 1) = false := by simp [k1]
        have b2 : (k == 2) = false := by simp [k2]
        have b3 : (k == 3) = false := by simp [k3]
        constructor <;> simp [svs_append, svs, bne, b1, b2, b3, k1, k2, k3, h1, h2, h3, h4, h5, h6, h7, h8, h9]
theorem gather_is {z : Int} (hz : z ≤ 0) {l : List Flt} (h : ∀ x ∈ l, x.k = 1 → z ≤ x.e) : GaIs z l (gatherP l) := by
  suffices H : ∀ i, GaIs z (l.take i) (gatherP (l.take i)) by have := H l.length; rwa [List.take_length] at this
  intro i
  induction i with
  | zero => constructor <;> simp [gatherP, Ga.zero, Nu.sv, svs, hz]
  | succ i ih =>
    cases hx : l[i]? with
    | none =>
      have hl : l.length ≤ i := List.getElem?_eq_none_iff.1 hx
      rw [List.take_of_length_le (by omega)] at ih ⊢
      exact ih
    | some x =>
      rw [gatherP_take hx, List.take_add_one, hx]
      exact ih.put (h x (List.mem_of_getElem? hx))
theorem cutP_scale (v k : Nat) (s : Int) : cutP (v * 2 ^ k) (s + k) false = cutP v s false := by
  unfold cutP
  by_cases h : s ≤ 0
  · rw [if_pos h]
    by_cases h' : s + k ≤ 0
    · rw [if_pos h', Nat.mul_assoc, ← Nat.pow_add, show k + (-(s + k)).toNat = (-s).toNat by omega]
    · rw [if_neg h']
      have e1 : v * 2 ^ k = v * 2 ^ (-s).toNat * 2 ^ (s + k).toNat := by rw [Nat.mul_assoc, ← Nat.pow_add, show (-s).toNat + (s + k).toNat = k by omega]
      have e2 : 2 ^ (s + k).toNat = 2 * 2 ^ (s + k - 1).toNat := by rw [show (s + k).toNat = (s + k - 1).toNat + 1 by omega, Nat.pow_succ']
      have hp : 0 < 2 ^ (s + k - 1).toNat := Nat.pow_pos (by decide)
      have e3 : v * 2 ^ k = v * 2 ^ (-s).toNat * 2 * 2 ^ (s + k - 1).toNat := by rw [e1, e2, Nat.mul_assoc, Nat.mul_assoc, Nat.mul_assoc]
      rw [e3, Nat.mul_mod_left, Nat.mul_div_cancel _ hp, ← e3, e1, Nat.mul_div_cancel _ (Nat.pow_pos (by decide))]
      simp
  · rw [if_neg h, if_neg (by omega)]
    have e1 : (s + k).toNat = s.toNat + k := by omega
    have e2 : (s + k - 1).toNat = (s - 1).toNat + k := by omega
    have hp : 0 < 2 ^ k := Nat.pow_pos (by decide)
    rw [e1, e2, Nat.pow_add, Nat.pow_add, Nat.mul_div_mul_right _ _ hp, Nat.mul_div_mul_right _ _ hp, Nat.mul_mod_mul_right]
    have : decide (v % 2 ^ (s - 1).toNat * 2 ^ k = 0) = decide (v % 2 ^ (s - 1).toNat = 0) := by
      congr 1
      simp only [Nat.mul_eq_zero, eq_iff_iff]
      exact ⟨fun h => h.resolve_right (by omega), .inl⟩
    rw [this]
theorem roundP_scale {f p r : Int} {n : Bool} {v : Nat} (k : Nat) {e : Int} (hv : 0 < v) : roundP f p r n (v * 2 ^ k) (e - k) false = roundP f p r n v e false := by
  unfold roundP
  rw [bl_mul_pow _ _ hv, show e - k + ((k + bl v : Nat) : Int) - 1 = e + bl v - 1 by omega]
  simp only [show ∀ u : Int, u - (e - k) = u - e + k from fun u => by omega, cutP_scale]
theorem Nu.round_sv {z : Int} {a b : Nu} (ha : z ≤ a.e) (hb : z ≤ b.e) (h : a.sv z = b.sv z) (f p r : Int) (q : Bool) : a.round f p r q = b.round f p r q := by
  obtain ⟨n, v, e⟩ := a
  obtain ⟨n', v', e'⟩ := b
  simp only at ha hb
  unfold Nu.sv at h
  unfold Nu.round
  simp only at h ⊢
  have p1 : 0 < 2 ^ (e - z).toNat := Nat.pow_pos (by decide)
  have p2 : 0 < 2 ^ (e' - z).toNat := Nat.pow_pos (by decide)
  have z1 : v * 2 ^ (e - z).toNat = 0 ↔ v = 0 := by rw [Nat.mul_eq_zero]; omega
  have z2 : v' * 2 ^ (e' - z).toNat = 0 ↔ v' = 0 := by rw [Nat.mul_eq_zero]; omega
  have s1 := fun hv => @roundP_scale f p r n v (e - z).toNat e hv
  have s2 := fun hv => @roundP_scale f p r n' v' (e' - z).toNat e' hv
  rw [show e - ((e - z).toNat : Int) = z by omega] at s1
  rw [show e' - ((e' - z).toNat : Int) = z by omega] at s2
  generalize v * 2 ^ (e - z).toNat = A at *
  generalize v' * 2 ^ (e' - z).toNat = B at *
  by_cases h0 : v = 0
  · have : v' = 0 := by rw [← z2]; have := z1.2 h0; cases n <;> cases n' <;> simp at h <;> omega
    rw [if_pos h0, if_pos this]
  · have hA : A ≠ 0 := fun h => h0 (z1.1 h)
    have : v' ≠ 0 := by intro h; have := z2.2 h; cases n <;> cases n' <;> simp at h <;> omega
    rw [if_neg h0, if_neg this, ← s1 (by omega), ← s2 (by omega)]
    have hB : B ≠ 0 := fun h => this (z2.1 h)
    cases n <;> cases n' <;> simp at h <;> first | omega | (obtain rfl : A = B := by omega
                                                            rfl)
theorem float_is {z : Int} {l m : List Flt} {g g' : Ga} (h : GaIs z l g) (h' : GaIs z m g') (hs : svs z l = svs z m) (hm : ∀ q : Flt → Bool, l.any q = m.any q) (f p r : Int) : g.float f p r = g'.float f p r := by
  unfold Ga.float
  rw [h.nan, h'.nan, h.inv, h'.inv, h.plus, h'.plus, h.minus, h'.minus, h.seen, h'.seen, h.some_, h'.some_, h.other, h'.other]
  simp only [hm]
  rw [Nu.round_sv h.low h'.low (by rw [h.sum, h'.sum, hs])]
/-- A result that Same and Is answer of. -/
structure Fine (x : Flt) : Prop where
  can : (canon x).2 = true
  v : bl x.v ≤ 100000
theorem fine_zero {n : Bool} : Fine ⟨0, n, 0, 0⟩ := ⟨rfl, (show bl 0 ≤ 100000 by decide)⟩
theorem fine_inf {n : Bool} : Fine ⟨2, n, 0, 0⟩ := ⟨rfl, (show bl 0 ≤ 100000 by decide)⟩
theorem fine_nan : Fine ⟨3, false, 0, 0⟩ := ⟨rfl, (show bl 0 ≤ 100000 by decide)⟩
theorem tz_lt_bl {q : Nat} (h : 0 < q) : tz q < bl q := by
  rw [bl_le]
  obtain ⟨m, hm⟩ := tz_form h
  conv => rhs; rw [hm]
  exact Nat.le_mul_of_pos_right _ (by omega)
theorem tz_rest {q : Nat} (h : 0 < q) : tz (q / 2 ^ tz q) = 0 := by
  obtain ⟨m, hm⟩ := tz_form h
  have : q / 2 ^ tz q = 2 * m + 1 := by
    conv => lhs; arg 1; rw [hm]
    exact Nat.mul_div_cancel_left _ (Nat.pow_pos (by decide))
  rw [this]
  exact tz_odd1 (by omega)
theorem fine_one {n : Bool} {v : Nat} {e : Int} (h1 : 0 < v) (h2 : tz v = 0) (h3 : -1048576 ≤ e) (h4 : e ≤ 1048576) (h5 : bl v ≤ 100000) : Fine ⟨1, n, e, v⟩ := by
  refine ⟨?_, h5⟩
  unfold canon
  simp only []
  rw [if_neg (by omega), if_neg (by omega), if_pos trivial, if_neg (by omega)]
  simp [h2]; omega
theorem mkP_fine {n : Bool} {q : Nat} {u : Int} (h1 : -1048576 ≤ u) (h2 : u + bl q ≤ 1048576) (h3 : bl q ≤ 100000) : Fine (mkP n q u) := by
  unfold mkP
  split
  · exact fine_zero
  · have hq : 0 < q := by omega
    have := tz_lt_bl hq
    have h := Nat.div_pos (Nat.le_of_lt_succ (Nat.lt_succ_of_le ((bl_le q (tz q)).1 this))) (Nat.pow_pos (n := tz q) (show 0 < 2 by decide))
    exact fine_one h (tz_rest hq) (by omega) (by omega) (Nat.le_trans (bl_mono (Nat.div_le_self _ _)) h3)
theorem roundP_fine {f p r : Int} (hf : fmOk f p = true) {n : Bool} {v : Nat} {e : Int} {st : Bool} : Fine (roundP f p r n v e st).1 := by
  obtain ⟨b1, b2, b3, b4⟩ := fmOk_spec hf
  obtain ⟨b5, b6⟩ := gOfE_le b1 b2
  unfold roundP
  simp only []
  have hu : 1 - gOfE f - (p - 1) ≤ stepP f p (e + bl v - 1) := by unfold stepP; split <;> omega
  generalize stepP f p (e + bl v - 1) = u at *
  generalize upP r n (cutP v (u - e) st).1 (cutP v (u - e) st).2 = q
  split
  · split
    · obtain ⟨m, hm⟩ : ∃ m, p.toNat = m + 1 := ⟨p.toNat - 1, by omega⟩
      have h2 : 2 ^ p.toNat = 2 * 2 ^ m := by rw [hm, Nat.pow_succ']
      have h3 : 0 < 2 ^ m := Nat.pow_pos (by decide)
      refine fine_one (by omega) (tz_odd1 (by omega)) (by simp only [gOfE] at *; omega) (by omega) ?_
      have : bl (2 ^ p.toNat - 1) ≤ p.toNat := (bl_lt _ _).2 (by omega)
      omega
    · exact fine_inf
  · exact mkP_fine (by omega) (by omega) (by omega)
theorem float_fine {f p r : Int} (hf : fmOk f p = true) {g : Ga} : Fine (g.float f p r).1 := by
  unfold Ga.float
  split
  · exact fine_nan
  · split
    · exact fine_nan
    · split
      · exact fine_inf
      · unfold Nu.round
        split
        · exact fine_zero
        · exact roundP_fine hf
theorem Fine.same {x : Flt} (h : Fine x) : sameP x x = true := by simp [sameP, h.can]
theorem Fine.sh {x : Flt} (h : Fine x) : Sh (nat x.v) := by
  have := nat_len_bl x.v
  have := h.v
  unfold Sh
  omega
theorem Fine.e {x : Flt} (h : Fine x) : I64 x.e := by
  have := good_md h.can
  simp only [Md, I64] at *
  omega
end Go.Proofs.YthpkhmbjmnhmoaaGreatDoor
/- Digits of sums, differences and products. No condition. -/
namespace Go.Proofs.YthpkhmbjmnhmoaaGreatDoor
set_option linter.unusedVariables false
set_option linter.unusedSimpArgs false
/-- The i-th digit. -/
def dig (n i : Nat) : Nat := n / 4294967296 ^ i % 4294967296
theorem Hpos (i : Nat) : 0 < 4294967296 ^ i := Nat.pow_pos (by decide)
theorem dig_lt (n i : Nat) : dig n i < 4294967296 := Nat.mod_lt _ (by decide)
theorem dg_dig {k n i : Nat} (h : i < k) : (dg n k)[i]? = some (dig n i) := dg_get h
theorem dg_add (n k : Nat) : dg n (k + 1) = dg n k ++ [dig n k] := dg_snoc k n
theorem dig_none {n k i : Nat} (h : n < 4294967296 ^ k) (hi : k ≤ i) : dig n i = 0 := dg_lt h hi
theorem dig_low {n p x : Nat} (h : x < p) : dig (n % 4294967296 ^ p) x = dig n x := by
  obtain ⟨q, rfl⟩ : ∃ q, p = x + (q + 1) := ⟨p - x - 1, by omega⟩
  unfold dig
  rw [Nat.pow_add, Nat.mod_mul_right_div_self, Nat.pow_succ, Nat.mul_comm _ 4294967296, Nat.mod_mul_right_mod]
theorem dig_high {n p x : Nat} (h : p ≤ x) : dig n x = dig (n / 4294967296 ^ p) (x - p) := by
  unfold dig
  rw [Nat.div_div_eq_div_mul, ← Nat.pow_add, show p + (x - p) = x by omega]
theorem dig_top {n k : Nat} (h : n < 4294967296 ^ (k + 1)) : dig n k = n / 4294967296 ^ k := by
  unfold dig
  rw [Nat.mod_eq_of_lt]
  rw [Nat.div_lt_iff_lt_mul (Hpos k), Nat.mul_comm, ← Nat.pow_succ]; exact h
theorem low_step (n i : Nat) : n % 4294967296 ^ (i + 1) = n % 4294967296 ^ i + dig n i * 4294967296 ^ i := by
  unfold dig
  rw [Nat.pow_succ, Nat.mod_mul, Nat.mul_comm (4294967296 ^ i)]
theorem high_step (n i : Nat) : n / 4294967296 ^ i = n / 4294967296 ^ (i + 1) * 4294967296 + dig n i := by
  unfold dig
  rw [Nat.pow_succ, ← Nat.div_div_eq_div_mul]; omega
theorem dg_ext {l : List Nat} {n k : Nat} (h : l.length = k) (he : ∀ i, i < k → l[i]? = some (dig n i)) : l = dg n k := by
  apply List.ext_getElem?
  intro i
  by_cases hi : i < k
  · rw [he i hi, dg_dig hi]
  · rw [List.getElem?_eq_none (by omega), List.getElem?_eq_none (by rw [dg_len]; omega)]
theorem dg_zero (k : Nat) : List.replicate k 0 = dg 0 k := dg_ext (by simp) fun i hi => by simp [dig, hi]
/-- The carry into digit i of a sum. -/
def cy (a b i : Nat) : Nat := (a % 4294967296 ^ i + b % 4294967296 ^ i) / 4294967296 ^ i
theorem cy_zero (a b : Nat) : cy a b 0 = 0 := by simp [cy, Nat.mod_one]
theorem plus_step (a b i : Nat) : (cy a b i + dig a i + dig b i) % 4294967296 = dig (a + b) i ∧ (cy a b i + dig a i + dig b i) / 4294967296 = cy a b (i + 1) ∧ cy a b i ≤ 1 := by
  have h1 : cy a b (i + 1) = (cy a b i + dig a i + dig b i) / 4294967296 := by
    unfold cy
    rw [low_step, low_step, Nat.pow_succ, ← Nat.div_div_eq_div_mul]
    rw [show a % 4294967296 ^ i + dig a i * 4294967296 ^ i + (b % 4294967296 ^ i + dig b i * 4294967296 ^ i) = a % 4294967296 ^ i + b % 4294967296 ^ i + (dig a i + dig b i) * 4294967296 ^ i by rw [Nat.add_mul]; omega, Nat.add_mul_div_right _ _ (Hpos i), Nat.add_assoc]
  have h2 : dig (a + b) i = (cy a b i + dig a i + dig b i) % 4294967296 := by
    unfold dig cy
    have e : a + b = a % 4294967296 ^ i + b % 4294967296 ^ i + (a / 4294967296 ^ i + b / 4294967296 ^ i) * 4294967296 ^ i := by
      have := Nat.div_add_mod' a (4294967296 ^ i)
      have := Nat.div_add_mod' b (4294967296 ^ i)
      rw [Nat.add_mul]; omega
    conv => lhs; rw [e, Nat.add_mul_div_right _ _ (Hpos i)]
    omega
  refine ⟨h2.symm, h1.symm, ?_⟩
  unfold cy
  have h3 := Nat.mod_lt a (Hpos i)
  have h4 := Nat.mod_lt b (Hpos i)
  exact Nat.le_of_lt_succ ((Nat.div_lt_iff_lt_mul (Hpos i)).2 (by omega))
theorem cy_end {a b m : Nat} (ha : a < 4294967296 ^ m) (hb : b < 4294967296 ^ m) : cy a b m = dig (a + b) m := by
  rw [dig_top (by rw [Nat.pow_succ]; omega)]
  unfold cy
  rw [Nat.mod_eq_of_lt ha, Nat.mod_eq_of_lt hb]
/-- d is a less b; u: above j digits one was borrowed. -/
def Less (a b d j : Nat) (u : Bool) : Prop := d + b = a + (if u then 4294967296 ^ j else 0) ∧ a < 4294967296 ^ j ∧ b < 4294967296 ^ j ∧ d < 4294967296 ^ j
theorem Less.step {a b d j : Nat} {u : Bool} (h : Less a b d j u) {i : Nat} (hi : i < j) : (dig a i + 4294967296 - dig b i - cy d b i) % 4294967296 = dig d i ∧ 1 - (dig a i + 4294967296 - dig b i - cy d b i) / 4294967296 = cy d b (i + 1) := by
  have ⟨h1, h2, h3⟩ := plus_step d b i
  have h4 : dig (d + b) i = dig a i := by
    rw [h.1]
    cases u with
    | false => simp
    | true =>
      simp only [if_true]
      rw [← dig_low hi, Nat.add_mod_right, dig_low hi]
  rw [h4] at h1
  have := dig_lt a i
  have := dig_lt b i
  have := dig_lt d i
  omega
theorem Less.fin {a b d j : Nat} {u : Bool} (h : Less a b d j u) : cy d b j = if u then 1 else 0 := by
  obtain ⟨h1, h2, h3, h4⟩ := h
  unfold cy
  rw [Nat.mod_eq_of_lt h4, Nat.mod_eq_of_lt h3, h1]
  cases u with
  | false => simp [Nat.div_eq_of_lt h2]
  | true => simp only [if_true]; rw [Nat.add_div_right _ (Hpos j), Nat.div_eq_of_lt h2]
theorem less_ex {a b j : Nat} (ha : a < 4294967296 ^ j) (hb : b < 4294967296 ^ j) : ∃ d, Less a b d j (decide (a < b)) ∧ (b ≤ a → d = a - b) := by
  by_cases h : a < b
  · exact ⟨a + 4294967296 ^ j - b, ⟨by simp [h]; omega, ha, hb, by omega⟩, fun h' => by omega⟩
  · exact ⟨a - b, ⟨by simp [h]; omega, ha, hb, by omega⟩, fun _ => rfl⟩
/-- The higher part. -/
def hgh (n i : Nat) : Nat := n / 4294967296 ^ i
theorem hi_step (n i : Nat) : hgh n i = hgh n (i + 1) * 4294967296 + dig n i := high_step n i
theorem hi_zero (n : Nat) : hgh n 0 = n := by simp [hgh]
theorem hi_none {n k : Nat} (h : n < 4294967296 ^ k) {i : Nat} (hi' : k ≤ i) : hgh n i = 0 := Nat.div_eq_of_lt (Nat.lt_of_lt_of_le h (Nat.pow_le_pow_right (by decide) hi'))
theorem hi_lt {a b i : Nat} (h : hgh a i < hgh b i) : a < b := by
  apply Classical.byContradiction
  intro hn
  have := Nat.div_le_div_right (c := 4294967296 ^ i) (Nat.le_of_not_lt hn)
  unfold hgh at h
  omega
/-- How two numbers compare. -/
def cmpP (a b : Nat) : Int := if a < b then -1 else if b < a then 1 else 0
theorem dg_set {Q n p v : Nat} (hp : p < n) (hv : v < 4294967296) : ∃ Q', (dg Q n).set p v = dg Q' n ∧ Q' + dig Q p * 4294967296 ^ p = Q + v * 4294967296 ^ p ∧ ∀ m, p < m → Q < 4294967296 ^ m → Q' < 4294967296 ^ m := by
  have e0 : Q = Q % 4294967296 ^ p + (dig Q p + Q / 4294967296 ^ (p + 1) * 4294967296) * 4294967296 ^ p := by
    have h1 := Nat.div_add_mod' Q (4294967296 ^ p)
    rw [high_step, Nat.add_comm (_ * 4294967296)] at h1
    omega
  obtain ⟨Q', hQ⟩ : ∃ Q', Q' = Q % 4294967296 ^ p + (v + Q / 4294967296 ^ (p + 1) * 4294967296) * 4294967296 ^ p := ⟨_, rfl⟩
  have l1 := Nat.mod_lt Q (Hpos p)
  have h1 : Q' % 4294967296 ^ p = Q % 4294967296 ^ p := by rw [hQ, Nat.add_mul_mod_self_right, Nat.mod_mod]
  have h2 : Q' / 4294967296 ^ p = v + Q / 4294967296 ^ (p + 1) * 4294967296 := by rw [hQ, Nat.add_mul_div_right _ _ (Hpos p), Nat.div_eq_of_lt l1, Nat.zero_add]
  have h3 : Q' / 4294967296 ^ (p + 1) = Q / 4294967296 ^ (p + 1) := by
    rw [Nat.pow_succ, ← Nat.div_div_eq_div_mul, h2, Nat.pow_succ]; omega
  refine ⟨Q', dg_ext (by rw [List.length_set, dg_len]) fun i hi => ?_, ?_, fun m hm h => ?_⟩
  · rw [List.getElem?_set]
    by_cases he : p = i
    · subst he
      rw [if_pos rfl, if_pos (by rw [dg_len]; exact hp)]
      unfold dig
      rw [h2]
      congr 1
      omega
    · rw [if_neg he, dg_dig hi]
      congr 1
      rcases Nat.lt_or_gt_of_ne he with h | h
      · rw [dig_high (show p + 1 ≤ i by omega), dig_high (show p + 1 ≤ i by omega), h3]
      · rw [← dig_low h, ← h1, dig_low h]
  · rw [hQ]
    conv => rhs; rw [e0]
    rw [Nat.add_mul, Nat.add_mul]; omega
  · obtain ⟨q, rfl⟩ : ∃ q, m = (p + 1) + q := ⟨m - (p + 1), by omega⟩
    rw [Nat.pow_add, Nat.mul_comm, ← Nat.div_lt_iff_lt_mul (Hpos _)] at h ⊢
    rw [h3]; exact h
end Go.Proofs.YthpkhmbjmnhmoaaGreatDoor
/- The digits of a sum, a difference, and which number is less. No condition. -/
namespace Go.Proofs.YthpkhmbjmnhmoaaGreatDoor
set_option linter.unusedVariables false
set_option linter.unusedSimpArgs false
variable {G : Gl}
set_option maxHeartbeats 2000000
theorem digit_does {n k i : Nat} (h : n < 4294967296 ^ k) : Does Tryz.prog G 169 [Wd (dg n k), .c (.i .i64 i)] (.v (.c (.n (dig n i)))) := by
  have h0 := @dig_none n k i h
  clear h
  by_cases hi : i < k
  · have hg := @dg_dig k n i hi
    refine Does.of (nt := 13) Tryz.func169 rfl rfl rfl (by simp) ?_
    simp only [argTm, PV.ext, Ce.ext]
    refine Do.seqk fun _ k1_ => ?_
    refine Do.region [0,1] true ?_
    simp [go_sem, hi]
    apply k1_; clear k1_
    refine Do.seqk fun _ k2_ => ?_
    refine Do.seqk fun _ k3_ => ?_
    refine Do.region [0,1,8] true ?_
    simp [go_sem, hi]
    repeat (refine And.intro (by first | omega | (intros; omega) | (intros; exact And.intro (by assumption) (by omega)) | grind) ?_)
    apply k3_; clear k3_
    refine Do.cond [0,1] rfl (fun h => ?_) (fun h => ?_) <;> simp [go_sem, hi] at h ⊢
    refine Do.seqk fun _ k4_ => ?_
    refine Do.region [4] true ?_
    simp [go_sem, hg]
    repeat (refine And.intro (by first | omega | (intros; omega) | (intros; exact And.intro (by assumption) (by omega)) | grind) ?_)
    apply k4_; clear k4_
    refine Do.ret ?_
    simp [endQ, rets, ret1, go_sem, hg]
    repeat (refine And.intro (by first | omega | (intros; omega) | (intros; exact And.intro (by assumption) (by omega)) | grind) ?_)
    exact TLe.refl _
  · rw [h0 (by omega)]
    refine Does.of (nt := 13) Tryz.func169 rfl rfl rfl (by simp) ?_
    simp only [argTm, PV.ext, Ce.ext]
    refine Do.seqk fun _ k1_ => ?_
    refine Do.region [0,1] true ?_
    simp [go_sem, hi]
    apply k1_; clear k1_
    refine Do.seqk fun _ k2_ => ?_
    refine Do.seqk fun _ k3_ => ?_
    refine Do.region [0,1,8] true ?_
    simp [go_sem, hi]
    repeat (refine And.intro (by first | omega | (intros; omega) | (intros; exact And.intro (by assumption) (by omega)) | grind) ?_)
    apply k3_; clear k3_
    refine Do.cond [0,1] rfl (fun h => ?_) (fun h => ?_) <;> simp [go_sem, hi] at h ⊢
    refine Do.skip ?_
    simp [go_sem]
    apply k2_; clear k2_
    refine Do.seqk fun _ k4_ => ?_
    refine Do.region [4] true ?_
    simp [go_sem, hi]
    apply k4_; clear k4_
    refine Do.ret ?_
    simp [endQ, rets, ret1, go_sem, hi]
    repeat (refine And.intro (by first | omega | (intros; omega) | (intros; exact And.intro (by assumption) (by omega)) | grind) ?_)
    exact TLe.refl _
theorem Word_does {w : Nat} (h : w < 18446744073709551616) : Does Tryz.prog G 106 [.c (.n w)] (.v (Wn (dg w 2))) := by
  have e : dg w 2 = [w % 4294967296, w / 4294967296] := by simp only [dg]; rw [Nat.mod_eq_of_lt (show w / 4294967296 < 4294967296 by omega)]
  rw [e]
  refine Does.of (nt := 8) Tryz.func106 rfl rfl rfl (by simp) ?_
  simp only [argTm, PV.ext, Ce.ext]
  refine Do.seqk fun _ k1_ => ?_
  refine Do.region [0] true ?_
  simp [go_sem]
  apply k1_; clear k1_
  refine Do.seqk fun _ k2_ => ?_
  refine Do.region [2] true ?_
  simp [go_sem]
  repeat (refine And.intro (by first | omega | (intros; omega) | (intros; exact And.intro (by assumption) (by omega)) | grind) ?_)
  apply k2_; clear k2_
  refine Do.ret ?_
  simp [endQ, rets, ret1, go_sem]
  repeat (refine And.intro (by first | omega | (intros; omega) | (intros; exact And.intro (by assumption) (by omega)) | grind) ?_)
  exact TLe.refl _
theorem Plus_r_does {a b j k m : Nat} (ha : a < 4294967296 ^ j) (hb : b < 4294967296 ^ k) (hj : j ≤ 4294967296) (hk : k ≤ 4294967296) (hm : m = if j < k then k else j) : Does Tryz.prog G 161 [Wd (dg a j), Wd (dg b k)] (.v (Wn (dg (a + b) (m + 1)))) := by
  have hda := fun i => @digit_does G a j i ha
  have hdb := fun i => @digit_does G b k i hb
  have hjm : j ≤ m := by split at hm <;> omega
  have hkm : k ≤ m := by split at hm <;> omega
  have hend := @cy_end a b m (Nat.lt_of_lt_of_le ha (Nat.pow_le_pow_right (by decide) hjm)) (Nat.lt_of_lt_of_le hb (Nat.pow_le_pow_right (by decide) hkm))
  clear ha hb
  have hmm : m ≤ 4294967296 := by split at hm <;> omega
  refine Does.of (nt := 40) Tryz.func161 rfl rfl rfl (by simp) ?_
  simp only [argTm, PV.ext, Ce.ext]
  refine Do.seqk fun _ k1_ => ?_
  refine Do.region [0,1] true ?_
  simp [go_sem]
  apply k1_; clear k1_
  refine Do.seqk fun _ k2_ => ?_
  refine Do.region [0,1,5] true ?_
  simp [go_sem]
  apply k2_; clear k2_
  refine Do.seqk fun _ k3_ => ?_
  refine Do.region [0,1,5,6] true ?_
  simp [go_sem]
  apply k3_; clear k3_
  refine Do.seqk fun _ k4_ => ?_
  refine Do.seqk fun _ k5_ => ?_
  refine Do.region [0,1,5,6,7] true ?_
  simp [go_sem]
  apply k5_; clear k5_
  refine Do.block ?_
  refine Do.ownW 5 900 rfl rfl (by decide) ?_
  simp [go_sem]
  refine Do.loopF [0,1,5,6,7] (fun (i : Nat) => [(5, .v (.c (.r 900 i))), (6, .v (.c (.n (cy a b i)))), (7, .int .i64 i)]) (fun (i : Nat) => [(900, .wr (dg (a + b) i))]) (fun (i : Nat) => i ≤ m) (fun (i : Nat) => m - i) (0) (fun _ => by first | (simp [go_sem, mixS]; done) | (simp [go_sem, mixS]; rfl)) (St.le_of (by simp [keep, cy_zero]) (by simp [keep, dg])) (Nat.zero_le _) ?_
  intro i hi
  refine Do.seqk fun _ k6_ => ?_
  refine Do.seqk fun _ k7_ => ?_
  refine Do.region [0,1,5,6,7,17] true ?_
  simp [go_sem]
  repeat (refine And.intro (by first | omega | (intros; omega) | (intros; exact And.intro (by assumption) (by omega)) | grind) ?_)
  apply k7_; clear k7_
  refine Do.cond [0,1,5,6,7] rfl (fun h => ?_) (fun h => ?_) <;> simp [go_sem] at h ⊢
  · have hs := plus_step a b i
    have l1 := dig_lt a i
    have l2 := dig_lt b i
    refine Do.skip ?_
    simp [go_sem]
    apply k6_; clear k6_
    refine Do.seqk fun _ k8_ => ?_
    refine Do.block ?_
    refine Do.seqk fun _ k9_ => ?_
    refine Do.region [0,1,5,6,7] true ?_
    simp [go_sem]
    refine DoL.call true 604 rfl rfl rfl rfl (by first | exact trivial | omega | (simp; done) | (simp; omega)) (hda i) rfl (by first | exact .inl rfl | exact .inr rfl) rfl ?_
    simp [go_sem]
    repeat (refine And.intro (by first | omega | (intros; omega) | (intros; exact And.intro (by assumption) (by omega)) | grind) ?_)
    refine DoL.call true 608 rfl rfl rfl rfl (by first | exact trivial | omega | (simp; done) | (simp; omega)) (hdb i) rfl (by first | exact .inl rfl | exact .inr rfl) rfl ?_
    simp [go_sem]
    repeat (refine And.intro (by first | omega | (intros; omega) | (intros; exact And.intro (by assumption) (by omega)) | grind) ?_)
    apply k9_; clear k9_
    refine Do.seqk fun _ k10_ => ?_
    refine Do.region [0,1,5,6,7] true ?_
    simp [go_sem]
    repeat (refine And.intro (by first | omega | (intros; omega) | (intros; exact And.intro (by assumption) (by omega)) | grind) ?_)
    apply k10_; clear k10_
    refine Do.region [0,1,5,6,7] true ?_
    simp [go_sem]
    repeat (refine And.intro (by first | omega | (intros; omega) | (intros; exact And.intro (by assumption) (by omega)) | grind) ?_)
    apply k8_; clear k8_
    refine Do.region [0,1,5,6,7] true ?_
    simp [go_sem]
    repeat (refine And.intro (by first | omega | (intros; omega) | (intros; exact And.intro (by assumption) (by omega)) | grind) ?_)
    refine ⟨i + 1, St.le_of (by simp [keep, hs.1, hs.2.1]) (by simp [keep, dg_add, hs.1]), by omega, by simp; omega⟩
  · obtain rfl : i = m := by split at hm <;> omega
    refine Do.exit ?_
    simp [go_sem]
    apply k4_; clear k4_
    refine Do.seqk fun _ k11_ => ?_
    refine Do.region [4] true ?_
    simp [go_sem]
    repeat (refine And.intro (by first | omega | (intros; omega) | (intros; exact And.intro (by assumption) (by omega)) | grind) ?_)
    apply k11_; clear k11_
    refine Do.ret ?_
    simp [endQ, rets, ret1, go_sem]
    repeat (refine And.intro (by first | omega | (intros; omega) | (intros; exact And.intro (by assumption) (by omega)) | grind) ?_)
    rw [dg_add, ← hend]
    exact TLe.refl _
theorem Minus_r_does {a b d j k : Nat} {u : Bool} (hb : b < 4294967296 ^ k) (h : Less a b d j u) (hj : j ≤ 4294967296) : Does Tryz.prog G 168 [Wd (dg a j), Wd (dg b k)] (.t [Wn (dg d j), .c (.b u)]) := by
  have hdb := fun i => @digit_does G b k i hb
  have hst := fun i (hi : i < j) => h.step hi
  have hfin := h.fin
  clear h hb
  refine Does.of (nt := 38) Tryz.func168 rfl rfl rfl (by simp) ?_
  simp only [argTm, PV.ext, Ce.ext]
  refine Do.seqk fun _ k1_ => ?_
  refine Do.region [0,1] true ?_
  simp [go_sem]
  apply k1_; clear k1_
  refine Do.seqk fun _ k2_ => ?_
  refine Do.region [0,1,6] true ?_
  simp [go_sem]
  apply k2_; clear k2_
  refine Do.seqk fun _ k3_ => ?_
  refine Do.region [0,1,6,7] true ?_
  simp [go_sem]
  apply k3_; clear k3_
  refine Do.seqk fun _ k4_ => ?_
  refine Do.seqk fun _ k5_ => ?_
  refine Do.region [0,1,6,7,8] true ?_
  simp [go_sem]
  apply k5_; clear k5_
  refine Do.block ?_
  refine Do.ownW 6 900 rfl rfl (by decide) ?_
  simp [go_sem]
  refine Do.loopF [0,1,6,7,8] (fun (i : Nat) => [(6, .v (.c (.r 900 i))), (7, .v (.c (.n (cy d b i)))), (8, .int .i64 i)]) (fun (i : Nat) => [(900, .wr (dg d i))]) (fun (i : Nat) => i ≤ j) (fun (i : Nat) => j - i) (0) (fun _ => by first | (simp [go_sem, mixS]; done) | (simp [go_sem, mixS]; rfl)) (St.le_of (by simp [keep, cy_zero]) (by simp [keep, dg])) (Nat.zero_le _) ?_
  intro i hi
  refine Do.seqk fun _ k6_ => ?_
  refine Do.seqk fun _ k7_ => ?_
  refine Do.region [0,1,6,7,8,13] true ?_
  simp [go_sem]
  repeat (refine And.intro (by first | omega | (intros; omega) | (intros; exact And.intro (by assumption) (by omega)) | grind) ?_)
  apply k7_; clear k7_
  refine Do.cond [0,1,6,7,8] rfl (fun h2 => ?_) (fun h2 => ?_) <;> simp [go_sem] at h2 ⊢
  · have hs := hst i h2
    have l1 := dig_lt a i
    have l2 := dig_lt b i
    have l3 := (plus_step d b i).2.2
    have hg := @dg_dig j a i h2
    have hb1 : cy d b i ≤ dig a i + 4294967296 - dig b i := by omega
    have hb2 : dig a i + 4294967296 - dig b i < M64 := by unfold M64; omega
    refine Do.skip ?_
    simp [go_sem]
    apply k6_; clear k6_
    refine Do.seqk fun _ k8_ => ?_
    refine Do.block ?_
    refine Do.seqk fun _ k9_ => ?_
    refine Do.draw [0,1,6,8,9] true (by kernel_rfl) ?_
    simp [go_sem, hg, hb1, hb2]
    repeat (refine And.intro (by first | omega | (intros; omega) | (intros; exact And.intro (by assumption) (by omega)) | kernel_rfl | grind) ?_)
    refine DoLD.call true 608 rfl rfl rfl rfl (by first | exact trivial | omega | (simp; done) | (simp; omega)) (hdb i) rfl (by first | exact .inl rfl | exact .inr rfl) rfl ?_
    simp [go_sem, hg, hb1, hb2]
    repeat (refine And.intro (by first | omega | (intros; omega) | (intros; exact And.intro (by assumption) (by omega)) | kernel_rfl | grind) ?_)
    try (refine And.intro (by kernel_rfl) ?_)
    apply k9_; clear k9_
    refine Do.seqk fun _ k10_ => ?_
    refine Do.region [0,1,6,8,9] true ?_
    simp [go_sem, hg, hb1, hb2]
    repeat (refine And.intro (by first | omega | (intros; omega) | (intros; exact And.intro (by assumption) (by omega)) | grind) ?_)
    apply k10_; clear k10_
    refine Do.region [0,1,6,7,8] true ?_
    simp [go_sem, hg, hb1, hb2]
    repeat (refine And.intro (by first | omega | (intros; omega) | (intros; exact And.intro (by assumption) (by omega)) | grind) ?_)
    apply k8_; clear k8_
    refine Do.region [0,1,6,7,8] true ?_
    simp [go_sem, hg, hb1, hb2]
    repeat (refine And.intro (by first | omega | (intros; omega) | (intros; exact And.intro (by assumption) (by omega)) | grind) ?_)
    refine ⟨i + 1, St.le_of (by simp [keep, hs.2]) (by simp [keep, dg_add, hs.1]), by omega, by simp; omega⟩
  · obtain rfl : i = j := by omega
    refine Do.exit ?_
    simp [go_sem]
    apply k4_; clear k4_
    refine Do.seqk fun _ k11_ => ?_
    refine Do.region [4,5] true ?_
    simp [go_sem]
    apply k11_; clear k11_
    refine Do.ret ?_
    simp [endQ, rets, ret1, go_sem]
    repeat (refine And.intro (by first | omega | (intros; omega) | (intros; exact And.intro (by assumption) (by omega)) | grind) ?_)
    rw [hfin]
    cases u <;> exact TLe.refl _
theorem Compare_does {a b j k : Nat} (ha : a < 4294967296 ^ j) (hb : b < 4294967296 ^ k) (hj : j ≤ 4294967296) (hk : k ≤ 4294967296) : Does Tryz.prog G 165 [Wd (dg a j), Wd (dg b k)] (.int .i64 (cmpP a b)) := by
  have hda := fun i => @digit_does G a j i ha
  have hdb := fun i => @digit_does G b k i hb
  have hza := fun i => @hi_none a j ha i
  have hzb := fun i => @hi_none b k hb i
  clear ha hb
  refine Does.of (nt := 32) Tryz.func165 rfl rfl rfl (by simp) ?_
  simp only [argTm, PV.ext, Ce.ext]
  refine Do.seqk fun _ k1_ => ?_
  refine Do.region [0,1] true ?_
  simp [go_sem]
  apply k1_; clear k1_
  refine Do.seqk fun _ k2_ => ?_
  refine Do.seqk fun _ k3_ => ?_
  refine Do.region [0,1,5] true ?_
  simp [go_sem]
  repeat (refine And.intro (by first | omega | (intros; omega) | (intros; exact And.intro (by assumption) (by omega)) | grind) ?_)
  apply k3_; clear k3_
  refine Do.block ?_
  refine Do.loopF [0,1,5] (fun (i : Nat) => [(5, .int .i64 ((i : Int) - 1))]) (fun (i : Nat) => []) (fun (i : Nat) => hgh a i = hgh b i ∧ i ≤ 4294967296) (fun (i : Nat) => i) (if j < k then k else j) (fun _ => by first | (simp [go_sem, mixS]; done) | (simp [go_sem, mixS]; rfl)) (St.le_of (by simp [keep]; split <;> rfl) (by simp [keep])) (⟨by rw [hza _ (by split <;> omega), hzb _ (by split <;> omega)], by split <;> omega⟩) ?_
  rintro i ⟨hi1, hi2⟩
  refine Do.seqk fun _ k4_ => ?_
  refine Do.seqk fun _ k5_ => ?_
  refine Do.region [0,1,5,15] true ?_
  simp [go_sem]
  apply k5_; clear k5_
  refine Do.cond [0,1,5] rfl (fun h => ?_) (fun h => ?_) <;> simp [go_sem] at h ⊢
  · obtain ⟨i, rfl⟩ : ∃ x, i = x + 1 := ⟨i - 1, by omega⟩
    rw [show ((i + 1 : Nat) : Int) - 1 = i by omega]
    have e1 := hi_step a i
    have e2 := hi_step b i
    refine Do.skip ?_
    simp [go_sem]
    apply k4_; clear k4_
    refine Do.seqk fun _ k6_ => ?_
    refine Do.block ?_
    refine Do.seqk fun _ k7_ => ?_
    refine Do.region [0,1,5,6,7] true ?_
    simp [go_sem]
    refine DoL.call true 403 rfl rfl rfl rfl (by first | exact trivial | omega | (simp; done) | (simp; omega)) (hda i) rfl (by first | exact .inl rfl | exact .inr rfl) rfl ?_
    simp [go_sem]
    refine DoL.call true 406 rfl rfl rfl rfl (by first | exact trivial | omega | (simp; done) | (simp; omega)) (hdb i) rfl (by first | exact .inl rfl | exact .inr rfl) rfl ?_
    simp [go_sem]
    apply k7_; clear k7_
    refine Do.block ?_
    refine Do.seqk fun _ k8_ => ?_
    refine Do.region [0,1,5,6,7,24] true ?_
    simp [go_sem]
    apply k8_; clear k8_
    refine Do.cond [0,1,5,6,7] rfl (fun h1 => ?_) (fun h1 => ?_) <;> simp [go_sem] at h1 ⊢
    · refine Do.seqk fun _ k9_ => ?_
      refine Do.region [4] true ?_
      simp [go_sem]
      apply k9_; clear k9_
      refine Do.ret ?_
      simp [endQ, rets, ret1, go_sem]
      repeat (refine And.intro (by first | omega | (intros; omega) | (intros; exact And.intro (by assumption) (by omega)) | grind) ?_)
      have : a < b := hi_lt (i := i) (by omega)
      refine ret_i ?_
      simp [cmpP, this]
    · refine Do.seqk fun _ k10_ => ?_
      refine Do.region [0,1,5,28] true ?_
      simp [go_sem]
      apply k10_; clear k10_
      refine Do.cond [0,1,5] rfl (fun h2 => ?_) (fun h2 => ?_) <;> simp [go_sem] at h2 ⊢
      · refine Do.seqk fun _ k11_ => ?_
        refine Do.region [4] true ?_
        simp [go_sem]
        apply k11_; clear k11_
        refine Do.ret ?_
        simp [endQ, rets, ret1, go_sem]
        repeat (refine And.intro (by first | omega | (intros; omega) | (intros; exact And.intro (by assumption) (by omega)) | grind) ?_)
        have : b < a := hi_lt (i := i) (by omega)
        refine ret_i ?_
        rw [cmpP, if_neg (by omega), if_pos this]
      · refine Do.skip ?_
        simp [go_sem]
        apply k6_; clear k6_
        refine Do.region [0,1,5] true ?_
        simp [go_sem]
        repeat (refine And.intro (by first | omega | (intros; omega) | (intros; exact And.intro (by assumption) (by omega)) | grind) ?_)
        refine ⟨i, St.le_of (by first | rfl | simp [keep]) (by first | rfl | simp [keep]), ⟨by omega, by omega⟩, by simp⟩
  · refine Do.exit ?_
    simp [go_sem]
    apply k2_; clear k2_
    refine Do.seqk fun _ k12_ => ?_
    refine Do.region [4] true ?_
    simp [go_sem]
    apply k12_; clear k12_
    refine Do.ret ?_
    simp [endQ, rets, ret1, go_sem]
    repeat (refine And.intro (by first | omega | (intros; omega) | (intros; exact And.intro (by assumption) (by omega)) | grind) ?_)
    refine ret_i ?_
    obtain rfl : i = 0 := by omega
    rw [hi_zero, hi_zero] at hi1
    rw [cmpP, if_neg (by omega), if_neg (by omega)]
end Go.Proofs.YthpkhmbjmnhmoaaGreatDoor
