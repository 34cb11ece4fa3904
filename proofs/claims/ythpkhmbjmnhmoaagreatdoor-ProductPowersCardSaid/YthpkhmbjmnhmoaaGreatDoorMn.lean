/- The law ProductPowers holds, for every input: a power of a float of up to 40 words, rounded once, and its flags are the document's, or the error is. Conditions: the two listed package variables hold what the program's text lays (tied by the card). -/
import Derived.Test.YthpkhmbjmnhmoaaGreatDoorMm
import Derived.Test.YthpkhmbjmnhmoaaGreatDoorMk
import Derived.Test.YthpkhmbjmnhmoaaGreatDoorCards
import Derived.Test.YthpkhmbjmnhmoaaGreatDoorTie
import Derived.SevenTiedAt
/- Powers. No condition. -/
namespace Go.Proofs.YthpkhmbjmnhmoaaGreatDoor
set_option linter.unusedVariables false
set_option linter.unusedSimpArgs false
set_option maxHeartbeats 4000000
set_option maxRecDepth 10000
theorem pow_half (b k : Nat) : b ^ k = (b * b) ^ (k / 2) * b ^ (k % 2) := by
  conv => lhs; rw [← Nat.div_add_mod k 2, Nat.pow_add, Nat.pow_mul, Nat.pow_two]
theorem pow_le_self {b k : Nat} (hb : 0 < b) (hk : 0 < k) : b ≤ b ^ k := by
  obtain ⟨m, rfl⟩ : ∃ m, k = m + 1 := ⟨k - 1, by omega⟩
  rw [Nat.pow_succ]
  exact Nat.le_mul_of_pos_left _ (Nat.pow_pos hb)
/-- What holds within the loop of a power. -/
structure PowI (T k o b : Nat) : Prop where
  eq : o * b ^ k = T
  o : 0 < o
  b : 0 < b
theorem PowI.small {T k o b : Nat} (h : PowI T k o b) (hk : 0 < k) : o ≤ T ∧ b ≤ T ∧ o * b ≤ T ∧ (1 < k → b * b ≤ T) := by
  have h1 := pow_le_self h.b hk
  have hp := Nat.pow_pos (n := k) h.b
  have h2 : o ≤ o * b ^ k := Nat.le_mul_of_pos_right _ hp
  have h3 : b ^ k ≤ o * b ^ k := Nat.le_mul_of_pos_left _ h.o
  have h4 : o * b ≤ o * b ^ k := Nat.mul_le_mul_left _ h1
  rw [h.eq] at h2 h3 h4
  refine ⟨h2, by omega, h4, fun hk2 => ?_⟩
  have : b ^ 2 ≤ b ^ k := Nat.pow_le_pow_right h.b (by omega)
  rw [Nat.pow_two] at this
  omega
theorem PowI.odd {T k o b : Nat} (h : PowI T k o b) (hk : k % 2 = 1) : PowI T (k / 2) (o * b) (b * b) := by
  refine ⟨?_, Nat.mul_pos h.o h.b, Nat.mul_pos h.b h.b⟩
  rw [← h.eq, pow_half b k, hk, Nat.pow_one]
  rw [Nat.mul_assoc, Nat.mul_comm b]
theorem PowI.even {T k o b : Nat} (h : PowI T k o b) (hk : k % 2 = 0) : PowI T (k / 2) o (b * b) := by
  refine ⟨?_, h.o, Nat.mul_pos h.b h.b⟩
  rw [← h.eq, pow_half b k, hk, Nat.pow_zero, Nat.mul_one]
theorem PowI.last {T k o b b' : Nat} (h : PowI T (k / 2) o b) (hk : k ≤ 1) (hb : 0 < b') : PowI T (k / 2) o b' := by
  have : k / 2 = 0 := by omega
  rw [this] at h ⊢
  exact ⟨by have := h.eq; simpa using this, h.o, hb⟩
theorem WPow_does {v n : Nat} (hv : 0 < v) (hb : bl (v ^ n) ≤ 1000000) (hn : n ≤ 1000) : Does Tryz.prog Gv 82 [Wd (nat v), .c (.i .i64 n)] (.v (Wn (nat (v ^ n)))) := by
  obtain ⟨T, hT⟩ : ∃ T, v ^ n = T := ⟨_, rfl⟩
  have h0 : PowI T n 1 v := ⟨by rw [Nat.one_mul, hT], by omega, hv⟩
  have hlen : ∀ u, u ≤ T → (nat u).length < 536870912 := fun u hu => by
    have h1 := bl_mono hu
    have h2 := nat_len_bl u
    rw [hT] at hb
    omega
  rw [hT]
  clear hT hb
  refine Does.of (nt := 25) Tryz.func82 rfl rfl rfl (by simp) ?_
  simp only [argTm, PV.ext, Ce.ext]
  refine Do.seqk fun _ k1_ => ?_
  refine Do.region [0,1] true ?_
  simp [go_sem]
  apply k1_; clear k1_
  refine Do.seqk fun _ k2_ => ?_
  refine Do.region [0,1,5] true ?_
  simp [go_sem]
  apply k2_; clear k2_
  refine Do.seqk fun _ k3_ => ?_
  refine Do.seqk fun _ k4_ => ?_
  refine Do.frz 100 rfl ?_
  simp [go_sem]
  refine Do.region [1,5,6] true ?_
  simp [go_sem]
  apply k4_; clear k4_
  refine Do.block ?_
  refine Do.loopF [1,5,6] (fun (s : Nat × Nat × Nat) => [(1, .int .i64 s.1), (5, .v (Wn (nat s.2.1))), (6, .v (Wd (nat s.2.2)))]) (fun (s : Nat × Nat × Nat) => []) (fun (s : Nat × Nat × Nat) => s.1 ≤ n ∧ PowI T s.1 s.2.1 s.2.2) (fun (s : Nat × Nat × Nat) => s.1) ((n, 1, v)) (fun _ => by first | (simp [go_sem, mixS]; done) | (simp [go_sem, mixS]; rfl)) (St.le_of (by simp [keep, nat_one]) (by simp [keep])) (⟨Nat.le_refl _, h0⟩) ?_
  rintro ⟨k, o, b⟩ ⟨hk, hI⟩
  simp only [] at hk hI
  refine Do.seqk fun _ k5_ => ?_
  refine Do.seqk fun _ k6_ => ?_
  refine Do.region [1,5,6,10] true ?_
  simp [go_sem]
  apply k6_; clear k6_
  refine Do.cond [1,5,6] rfl (fun h1 => ?_) (fun h1 => ?_) <;> simp [go_sem] at h1 ⊢
  · have hpos : 0 < k := by omega
    obtain ⟨s1, s2, s3, s4⟩ := hI.small hpos
    have hM1 := @WMul_does Gv (nat o) (nat b) (hlen o s1) (hlen b s2) (nat_ws _) (nat_ws _)
    rw [val_nat, val_nat] at hM1
    have hM2 : Does Tryz.prog Gv 134 [Wd (nat b), Wd (nat b)] (.v (Wd (nat (b * b)))) := by
      have := @WMul_does Gv (nat b) (nat b) (hlen b s2) (hlen b s2) (nat_ws _) (nat_ws _)
      rw [val_nat] at this
      exact this.mono (TLe.v (PLe.ext (.c (.w true _))))
    have hkm : (k : Int) ≤ 9223372036854775807 := by omega
    refine Do.skip ?_
    simp [go_sem]
    apply k5_; clear k5_
    refine Do.seqk fun _ k7_ => ?_
    refine Do.block ?_
    refine Do.seqk fun _ k8_ => ?_
    refine Do.seqk fun _ k9_ => ?_
    refine Do.region [1,5,6,15] true ?_
    simp [go_sem, hkm]
    apply k9_; clear k9_
    refine Do.cond [1,5,6] rfl (fun h2 => ?_) (fun h2 => ?_) <;> simp [go_sem, hkm] at h2 ⊢
    · have hI2 := hI.odd (by omega)
      refine Do.region [1,5,6] true ?_
      simp [go_sem, hkm]
      refine DoL.call true 603 rfl rfl rfl rfl (by first | exact trivial | omega | (simp; done) | (simp; omega)) (hM1) rfl (by first | exact .inl rfl | exact .inr rfl) rfl ?_
      simp [go_sem, hkm]
      apply k8_; clear k8_
      refine Do.seqk fun _ k10_ => ?_
      refine Do.region [1,5,6,20] true ?_
      simp [go_sem, hkm]
      apply k10_; clear k10_
      refine Do.cond [1,5,6] rfl (fun h3 => ?_) (fun h3 => ?_) <;> simp [go_sem, hkm] at h3 ⊢
      · refine Do.region [1,5,6] true ?_
        simp [go_sem, hkm]
        refine DoL.call true 803 rfl rfl rfl rfl (by first | exact trivial | omega | (simp; done) | (simp; omega)) (hM2) rfl (by first | exact .inl rfl | exact .inr rfl) rfl ?_
        simp [go_sem, hkm]
        apply k7_; clear k7_
        refine Do.region [1,5,6] true ?_
        simp [go_sem, hkm]
        repeat (refine And.intro (by first | omega | (intros; omega) | (intros; exact And.intro (by assumption) (by omega)) | grind) ?_)
        refine DoL.shrI true 402 rfl rfl rfl rfl (by decide) rfl ?_
        simp [go_sem]
        refine ⟨(k / 2, o * b, b * b), St.le_of (by first | rfl | simp [keep]) (by first | rfl | simp [keep]), ⟨by omega, hI2⟩, by simp; omega⟩
      · refine Do.skip ?_
        simp [go_sem]
        apply k7_; clear k7_
        refine Do.region [1,5,6] true ?_
        simp [go_sem, hkm]
        repeat (refine And.intro (by first | omega | (intros; omega) | (intros; exact And.intro (by assumption) (by omega)) | grind) ?_)
        refine DoL.shrI true 402 rfl rfl rfl rfl (by decide) rfl ?_
        simp [go_sem]
        refine ⟨(k / 2, o * b, b), St.le_of (by first | rfl | simp [keep]) (by first | rfl | simp [keep]), ⟨by omega, hI2.last (by omega) hI.b⟩, by simp; omega⟩
    · have hI2 := hI.even (by omega)
      refine Do.skip ?_
      simp [go_sem]
      apply k8_; clear k8_
      refine Do.seqk fun _ k11_ => ?_
      refine Do.region [1,5,6,20] true ?_
      simp [go_sem, hkm]
      apply k11_; clear k11_
      refine Do.cond [1,5,6] rfl (fun h3 => ?_) (fun h3 => ?_) <;> simp [go_sem, hkm] at h3 ⊢
      · refine Do.region [1,5,6] true ?_
        simp [go_sem, hkm]
        refine DoL.call true 803 rfl rfl rfl rfl (by first | exact trivial | omega | (simp; done) | (simp; omega)) (hM2) rfl (by first | exact .inl rfl | exact .inr rfl) rfl ?_
        simp [go_sem, hkm]
        apply k7_; clear k7_
        refine Do.region [1,5,6] true ?_
        simp [go_sem, hkm]
        repeat (refine And.intro (by first | omega | (intros; omega) | (intros; exact And.intro (by assumption) (by omega)) | grind) ?_)
        refine DoL.shrI true 402 rfl rfl rfl rfl (by decide) rfl ?_
        simp [go_sem]
        refine ⟨(k / 2, o, b * b), St.le_of (by first | rfl | simp [keep]) (by first | rfl | simp [keep]), ⟨by omega, hI2⟩, by simp; omega⟩
      · refine Do.skip ?_
        simp [go_sem]
        apply k7_; clear k7_
        refine Do.region [1,5,6] true ?_
        simp [go_sem, hkm]
        repeat (refine And.intro (by first | omega | (intros; omega) | (intros; exact And.intro (by assumption) (by omega)) | grind) ?_)
        refine DoL.shrI true 402 rfl rfl rfl rfl (by decide) rfl ?_
        simp [go_sem]
        refine ⟨(k / 2, o, b), St.le_of (by first | rfl | simp [keep]) (by first | rfl | simp [keep]), ⟨by omega, hI2.last (by omega) hI.b⟩, by simp; omega⟩
  · refine Do.exit ?_
    simp [go_sem]
    apply k3_; clear k3_
    refine Do.seqk fun _ k12_ => ?_
    refine Do.region [4] true ?_
    simp [go_sem]
    apply k12_; clear k12_
    refine Do.ret ?_
    simp [endQ, rets, ret1, go_sem]
    repeat (refine And.intro (by first | omega | (intros; omega) | (intros; exact And.intro (by assumption) (by omega)) | grind) ?_)
    obtain rfl : k = 0 := by omega
    have := hI.eq
    simp at this
    rw [this]
    exact TLe.refl _
theorem RPow_does {G : Gl} {v n : Nat} (hv : 0 < v) (hsm : (nat v).length ≤ 1073741824) (hb : bl (v ^ n) ≤ 1000000) (hn : n ≤ 1000) : Does Tryz.prog G 84 [Wd (nat v), .c (.i .i64 n)] (.v (Wn (nat (v ^ n)))) := by
  obtain ⟨T, hT⟩ : ∃ T, v ^ n = T := ⟨_, rfl⟩
  have h0 : PowI T n 1 v := ⟨by rw [Nat.one_mul, hT], by omega, hv⟩
  have hlen : ∀ u, u ≤ T → (nat u).length ≤ 536870912 := fun u hu => by
    have h1 := bl_mono hu
    have h2 := nat_len_bl u
    rw [hT] at hb
    omega
  rw [hT]
  have hW := @RWord_does G 1 (by decide)
  have hTr : (nat v).length ≤ 1073741824 → Does Tryz.prog G 98 [Wd (nat v)] (.v (Wn (nat v))) := fun h => by
    have := @RTrim_does G (nat v) h (nat_ws _)
    rw [val_nat] at this
    exact this
  clear hT hb
  refine Does.of (nt := 25) Tryz.func84 rfl rfl rfl (by simp) ?_
  simp only [argTm, PV.ext, Ce.ext]
  refine Do.seqk fun _ k1_ => ?_
  refine Do.region [0,1] true ?_
  simp [go_sem]
  apply k1_; clear k1_
  refine Do.seqk fun _ k2_ => ?_
  refine Do.region [0,1,5] true ?_
  simp [go_sem]
  refine DoL.call true 101 rfl rfl rfl rfl (by first | exact trivial | omega | (simp; done) | (simp; omega)) (hW) rfl (by first | exact .inl rfl | exact .inr rfl) rfl ?_
  simp [go_sem]
  apply k2_; clear k2_
  refine Do.seqk fun _ k3_ => ?_
  refine Do.seqk fun _ k4_ => ?_
  refine Do.region [0,1,5] true ?_
  simp [go_sem]
  refine DoL.call true 202 rfl rfl rfl rfl (by first | exact trivial | omega | (simp; done) | (simp; omega)) (hTr hsm) rfl (by first | exact .inl rfl | exact .inr rfl) rfl ?_
  simp [go_sem]
  apply k4_; clear k4_
  refine Do.block ?_
  refine Do.loopF [0,1,5] (fun (s : Nat × Nat × Nat) => [(0, .v (Wn (nat s.2.2))), (1, .int .i64 s.1), (5, .v (Wn (nat s.2.1)))]) (fun (s : Nat × Nat × Nat) => []) (fun (s : Nat × Nat × Nat) => s.1 ≤ n ∧ PowI T s.1 s.2.1 s.2.2) (fun (s : Nat × Nat × Nat) => s.1) ((n, 1, v)) (fun _ => by first | (simp [go_sem, mixS]; done) | (simp [go_sem, mixS]; rfl)) (St.le_of (by first | rfl | simp [keep]) (by first | rfl | simp [keep])) (⟨Nat.le_refl _, h0⟩) ?_
  rintro ⟨k, o, b⟩ ⟨hk, hI⟩
  simp only [] at hk hI
  refine Do.seqk fun _ k5_ => ?_
  refine Do.seqk fun _ k6_ => ?_
  refine Do.region [0,1,5,10] true ?_
  simp [go_sem]
  apply k6_; clear k6_
  refine Do.cond [0,1,5] rfl (fun h1 => ?_) (fun h1 => ?_) <;> simp [go_sem] at h1 ⊢
  · have hpos : 0 < k := by omega
    obtain ⟨s1, s2, s3, s4⟩ := hI.small hpos
    have hM1 := @RMul_does G (nat o) (nat b) (hlen o s1) (nat_ws _) (hlen b s2) (nat_ws _)
    rw [val_nat, val_nat] at hM1
    have hM2 := @RMul_does G (nat b) (nat b) (hlen b s2) (nat_ws _) (hlen b s2) (nat_ws _)
    rw [val_nat] at hM2
    have htd : (k : Int).tdiv 2 = (k : Int) / 2 := Int.tdiv_eq_ediv_of_nonneg (by omega)
    have htm : (k : Int).tmod 2 = (k : Int) % 2 := Int.tmod_eq_emod_of_nonneg (by omega)
    refine Do.skip ?_
    simp [go_sem]
    apply k5_; clear k5_
    refine Do.seqk fun _ k7_ => ?_
    refine Do.block ?_
    refine Do.seqk fun _ k8_ => ?_
    refine Do.seqk fun _ k9_ => ?_
    refine Do.region [0,1,5,15] true ?_
    simp [go_sem, htd, htm]
    repeat (refine And.intro (by first | omega | (intros; omega) | (intros; exact And.intro (by assumption) (by omega)) | grind) ?_)
    apply k9_; clear k9_
    refine Do.cond [0,1,5] rfl (fun h2 => ?_) (fun h2 => ?_) <;> simp [go_sem, htd, htm] at h2 ⊢
    · have hI2 := hI.odd (by omega)
      refine Do.region [0,1,5] true ?_
      simp [go_sem, htd, htm]
      refine DoL.call true 603 rfl rfl rfl rfl (by first | exact trivial | omega | (simp; done) | (simp; omega)) (hM1) rfl (by first | exact .inl rfl | exact .inr rfl) rfl ?_
      simp [go_sem, htd, htm]
      apply k8_; clear k8_
      refine Do.seqk fun _ k10_ => ?_
      refine Do.region [0,1,5,20] true ?_
      simp [go_sem, htd, htm]
      apply k10_; clear k10_
      refine Do.cond [0,1,5] rfl (fun h3 => ?_) (fun h3 => ?_) <;> simp [go_sem, htd, htm] at h3 ⊢
      · refine Do.region [0,1,5] true ?_
        simp [go_sem, htd, htm]
        refine DoL.call true 803 rfl rfl rfl rfl (by first | exact trivial | omega | (simp; done) | (simp; omega)) (hM2) rfl (by first | exact .inl rfl | exact .inr rfl) rfl ?_
        simp [go_sem, htd, htm]
        apply k7_; clear k7_
        refine Do.region [0,1,5] true ?_
        simp [go_sem, htd, htm]
        repeat (refine And.intro (by first | omega | (intros; omega) | (intros; exact And.intro (by assumption) (by omega)) | grind) ?_)
        refine ⟨(k / 2, o * b, b * b), St.le_of (by first | rfl | simp [keep]) (by first | rfl | simp [keep]), ⟨by omega, hI2⟩, by simp; omega⟩
      · refine Do.skip ?_
        simp [go_sem]
        apply k7_; clear k7_
        refine Do.region [0,1,5] true ?_
        simp [go_sem, htd, htm]
        repeat (refine And.intro (by first | omega | (intros; omega) | (intros; exact And.intro (by assumption) (by omega)) | grind) ?_)
        refine ⟨(k / 2, o * b, b), St.le_of (by first | rfl | simp [keep]) (by first | rfl | simp [keep]), ⟨by omega, hI2.last (by omega) hI.b⟩, by simp; omega⟩
    · have hI2 := hI.even (by omega)
      refine Do.skip ?_
      simp [go_sem]
      apply k8_; clear k8_
      refine Do.seqk fun _ k11_ => ?_
      refine Do.region [0,1,5,20] true ?_
      simp [go_sem, htd, htm]
      apply k11_; clear k11_
      refine Do.cond [0,1,5] rfl (fun h3 => ?_) (fun h3 => ?_) <;> simp [go_sem, htd, htm] at h3 ⊢
      · refine Do.region [0,1,5] true ?_
        simp [go_sem, htd, htm]
        refine DoL.call true 803 rfl rfl rfl rfl (by first | exact trivial | omega | (simp; done) | (simp; omega)) (hM2) rfl (by first | exact .inl rfl | exact .inr rfl) rfl ?_
        simp [go_sem, htd, htm]
        apply k7_; clear k7_
        refine Do.region [0,1,5] true ?_
        simp [go_sem, htd, htm]
        repeat (refine And.intro (by first | omega | (intros; omega) | (intros; exact And.intro (by assumption) (by omega)) | grind) ?_)
        refine ⟨(k / 2, o, b * b), St.le_of (by first | rfl | simp [keep]) (by first | rfl | simp [keep]), ⟨by omega, hI2⟩, by simp; omega⟩
      · refine Do.skip ?_
        simp [go_sem]
        apply k7_; clear k7_
        refine Do.region [0,1,5] true ?_
        simp [go_sem, htd, htm]
        repeat (refine And.intro (by first | omega | (intros; omega) | (intros; exact And.intro (by assumption) (by omega)) | grind) ?_)
        refine ⟨(k / 2, o, b), St.le_of (by first | rfl | simp [keep]) (by first | rfl | simp [keep]), ⟨by omega, hI2.last (by omega) hI.b⟩, by simp; omega⟩
  · refine Do.exit ?_
    simp [go_sem]
    apply k3_; clear k3_
    refine Do.seqk fun _ k12_ => ?_
    refine Do.region [4] true ?_
    simp [go_sem]
    apply k12_; clear k12_
    refine Do.ret ?_
    simp [endQ, rets, ret1, go_sem]
    repeat (refine And.intro (by first | omega | (intros; omega) | (intros; exact And.intro (by assumption) (by omega)) | grind) ?_)
    obtain rfl : k = 0 := by omega
    have := hI.eq
    simp at this
    rw [this]
    exact TLe.refl _
end Go.Proofs.YthpkhmbjmnhmoaaGreatDoor
/- The law ProductPowers. No condition. -/
namespace Go.Proofs.YthpkhmbjmnhmoaaGreatDoor
set_option linter.unusedVariables false
set_option linter.unusedSimpArgs false
set_option maxHeartbeats 4000000
set_option maxRecDepth 10000
/-- A power of a canonical float. -/
def powR (f p r : Int) (x : Flt) (n : Nat) : Flt × Int :=
  if x.k = 3 then (⟨3, false, 0, 0⟩, 0) else if n = 0 then (⟨1, false, 0, 1⟩, 0) else if x.k ≠ 1 then (⟨x.k, x.n && ((n : Int) % 2 == 1), 0, 0⟩, 0)
  else roundP f p r (x.n && ((n : Int) % 2 == 1)) (x.v ^ n) (x.e * n) false
theorem powR_fine {f p r : Int} (hf : fmOk f p = true) {x : Flt} (hk : K4 x) {n : Nat} : rcanon (powR f p r x n).1 = (powR f p r x n).1 ∧ Fine (powR f p r x n).1 := by
  unfold powR
  split
  · exact ⟨rfl, fine_nan⟩
  · split
    · exact ⟨by kernel_rfl, fine_one (by decide) (by kernel_rfl) (by decide) (by decide) (by decide)⟩
    · split
      · rename_i h1 h2 h3
        rcases hk with h | h | h | h
        · rw [h]; exact ⟨rfl, fine_zero⟩
        · exact absurd h h3
        · rw [h]; exact ⟨rfl, fine_inf⟩
        · exact absurd h h1
      · exact ⟨roundP_fix hf, roundP_fine hf⟩
/-- A float small enough for powers. -/
structure Pw (x : Flt) : Prop where
  cf : Cf x
  nan : x.k = 3 → x.n = false
  lo : x.k = 1 → -20000 ≤ x.e
  hi : x.k = 1 → x.e ≤ 20000
  v : bl x.v ≤ 256
theorem held_pw {f p : Int} (hf : fmOk f p = true) {x : Flt} (h : (holdsP f p x).2 = true) : Pw (holdsP f p x).1 := by
  obtain ⟨b1, b2, b3, b4⟩ := fmOk_spec hf
  obtain ⟨b5, b6⟩ := gOfE_le b1 b2
  have hs := held_small hf h
  refine ⟨held_cf h, by rw [← (held_rcanon h).1, rcanon_k, rcanon_n]; exact (canon_kind (held_rcanon h).2).2, fun hk => ?_, fun hk => ?_, hs.2.2.1⟩
  · have : tiny f p ≤ (holdsP f p x).1.e := by
      unfold holdsP at *
      split at h
      · rename_i hc
        rw [if_pos hc] at hk
        rcases hc with hc | hc
        · rw [h] at hc; cases hc
        · exact absurd hk hc
      · rename_i hc
        rw [if_neg hc]
        simp only [Bool.and_eq_true, decide_eq_true_eq] at h
        exact h.1.2
    have htn : tiny f p = 1 - gOfE f - (p - 1) := rfl
    omega
  · have := hs.2.2.2 hk
    omega
theorem pow_bl {v n : Nat} (h : bl v ≤ 256) (hn : n ≤ 64) : bl (v ^ n) ≤ 20000 := by
  obtain ⟨K, hK⟩ : ∃ K, K = 256 := ⟨_, rfl⟩
  have h1 : v < 2 ^ K := (bl_lt _ _).1 (by omega)
  have h2 : v ^ n ≤ (2 ^ K) ^ n := Nat.pow_le_pow_left (Nat.le_of_lt h1) n
  rw [← Nat.pow_mul] at h2
  have h3 : bl (v ^ n) ≤ K * n + 1 := by
    rw [bl_lt, Nat.pow_succ]
    have := Nat.pow_pos (n := K * n) (show 0 < 2 by decide)
    omega
  have : K * n ≤ 256 * 64 := by rw [hK]; exact Nat.mul_le_mul_left _ hn
  omega
theorem pow_e {e : Int} {n : Nat} (h1 : -20000 ≤ e) (h2 : e ≤ 20000) (hn : n ≤ 64) : -1300000 ≤ e * n ∧ e * n ≤ 1300000 := by
  have a1 : -20000 * (n : Int) ≤ e * n := Int.mul_le_mul_of_nonneg_right h1 (by omega)
  have a2 : e * n ≤ 20000 * n := Int.mul_le_mul_of_nonneg_right h2 (by omega)
  omega
/-- What Power answers. -/
def powA (f p r : Int) (x : Fla) (n : Int) : Flt × Int × Int :=
  if argsE f p r (decide (n < 0) || decide (64 < n)) [x] = 0 then ((powR f p r (holdsP f p x.flt).1 n.toNat).1, (powR f p r (holdsP f p x.flt).1 n.toNat).2, 0) else (⟨0, false, 0, 0⟩, 0, argsE f p r (decide (n < 0) || decide (64 < n)) [x])
theorem PPower_does {f p r n : Int} {x : Fla} (hx : x.Ok) : Does Tryz.prog Gv 37 [Fm f p, .c (.i .i64 r), Fl x.k x.n x.e x.m, .c (.i .i64 n)] (Res (powA f p r x n)) := by
  generalize hz : powA f p r x n = z
  unfold powA at hz
  have hl : [x].length < 1099511627776 := by simp
  have ho : ∀ u ∈ [x], u.Ok := by simp [hx]
  by_cases he : argsE f p r (decide (n < 0) || decide (64 < n)) [x] = 0
  · rw [if_pos he] at hz
    have hA : DoesO Tryz.prog Gv 39 [Fm f p, .c (.i .i64 r), .c (.b (decide (n < 0) || decide (64 < n))), .s false [x.cs]] 4 [(holdsP f p x.flt).1.cs] [.c (.i .i64 0)] := Args_own hl ho he
    obtain ⟨h1, h2, h3, h4, h5, h6⟩ := argsE_zero he
    have hw := held_pw h5 (x := x.flt) (by simpa using List.all_eq_true.1 h6 x (by simp))
    rw [h4] at hA
    have hn : 0 ≤ n ∧ n ≤ 64 := by simp at h4; omega
    obtain ⟨N, rfl⟩ : ∃ N : Nat, n = N := ⟨n.toNat, by omega⟩
    rw [Int.toNat_natCast] at hz
    have d1 : ¬ (N : Int) < 0 := by omega
    have d2 : ¬ (64 : Int) < N := by omega
    have htm : (N : Int).tmod 2 = (N : Int) % 2 := Int.tmod_eq_emod_of_nonneg (by omega)
    generalize (holdsP f p x.flt).1 = a at *
    have hfx := hw.cf.fix
    unfold powR at hz
    have hMk := @Make_does false [1] 0 (by simp [Sh]) (fun w hw => by simp at hw; omega) (by omega) (by omega)
    rw [show val [1] = 1 from rfl, show mkP false 1 0 = ⟨1, false, 0, 1⟩ by kernel_rfl] at hMk
    by_cases hk : a.k = 1
    · have hv := hw.cf.pos hk
      have hbl := pow_bl hw.v (show N ≤ 64 by omega)
      have hee := pow_e (hw.lo hk) (hw.hi hk) (show N ≤ 64 by omega)
      have hP := @WPow_does a.v N (by omega) (by omega) (by omega)
      have hF := @Float_does f p r h5 h2 h3 (a.n && ((N : Int) % 2 == 1)) (a.v ^ N) (a.e * N) false (by omega) (by omega)
      rw [if_neg (by omega)] at hz
      by_cases hN : N = 0
      · subst hN
        rw [if_pos rfl] at hz
        refine Does.of (nt := 79) Tryz.func37 rfl rfl rfl (by simp) ?_
        simp only [argTm, PV.ext, Ce.ext]
        refine Do.seqk fun _ k1_ => ?_
        refine Do.region [1,3,4,6,8] true ?_
        simp [go_sem, d1, d2, htm]
        apply k1_; clear k1_
        refine Do.seqk fun _ k2_ => ?_
        refine Do.region [1,3,4,6,8,11,12] true ?_
        simp [go_sem, d1, d2, htm]
        repeat (refine And.intro (by first | omega | (intros; omega) | (intros; exact And.intro (by assumption) (by omega)) | grind) ?_)
        refine DoL.sealS true 110 109 rfl ?_
        simp [go_sem]
        refine DoL.callO true 111 3000 rfl rfl rfl rfl (by first | exact trivial | omega | (simp; done) | (simp; omega)) (hA) rfl rfl rfl ?_
        simp [go_sem, d1, d2, htm]
        apply k2_; clear k2_
        refine Do.seqk fun _ k3_ => ?_
        refine Do.seqk fun _ k4_ => ?_
        refine Do.region [1,3,4,6,8,11,12,31] true ?_
        simp [go_sem, d1, d2, htm]
        apply k4_; clear k4_
        refine Do.cond [1,3,4,6,8,11,12] rfl (fun h => ?_) (fun h => ?_) <;> simp [go_sem, d1, d2, htm] at h ⊢
        refine Do.skip ?_
        simp [go_sem]
        apply k3_; clear k3_
        refine Do.seqk fun _ k5_ => ?_
        refine Do.sealS 3000 rfl ?_
        simp [go_sem]
        refine Do.region [1,3,4,6,8] true ?_
        simp [go_sem, d1, d2, htm]
        repeat (refine And.intro (by first | omega | (intros; omega) | (intros; exact And.intro (by assumption) (by omega)) | grind) ?_)
        apply k5_; clear k5_
        refine Do.seqk fun _ k6_ => ?_
        refine Do.region [1,3,4,6,8,13] true ?_
        simp [go_sem, d1, d2, htm]
        repeat (refine And.intro (by first | omega | (intros; omega) | (intros; exact And.intro (by assumption) (by omega)) | grind) ?_)
        apply k6_; clear k6_
        refine Do.seqk fun _ k7_ => ?_
        refine Do.block ?_
        refine Do.seqk fun _ k8_ => ?_
        refine Do.region [1,3,4,6,8,13,44] true ?_
        simp [go_sem, d1, d2, htm]
        repeat (refine And.intro (by first | omega | (intros; omega) | (intros; exact And.intro (by assumption) (by omega)) | grind) ?_)
        apply k8_; clear k8_
        refine Do.cond [1,3,4,6,8,13] rfl (fun h3 => ?_) (fun h3 => ?_) <;> simp [go_sem, d1, d2, htm] at h3 ⊢
        · omega
        · refine Do.seqk fun _ k9_ => ?_
          refine Do.region [1,3,4,6,8,13,49] true ?_
          simp [go_sem, d1, d2, htm]
          apply k9_; clear k9_
          refine Do.cond [1,3,4,6,8,13] rfl (fun h4 => ?_) (fun h4 => ?_) <;> simp [go_sem, d1, d2, htm] at h4 ⊢
          refine Do.seqk fun _ k10_ => ?_
          refine Do.region [8,9,10] true ?_
          simp [go_sem, d1, d2, htm]
          refine DoL.frz true 901 900 rfl ?_
          simp [go_sem]
          refine DoL.call true 902 rfl rfl rfl rfl (by first | exact trivial | omega | (simp; done) | (simp; omega)) (hMk) rfl (by first | exact .inl rfl | exact .inr rfl) rfl ?_
          simp [go_sem, d1, d2, htm]
          repeat (refine And.intro (by first | omega | (intros; omega) | (intros; exact And.intro (by assumption) (by omega)) | grind) ?_)
          apply k10_; clear k10_
          refine Do.ret ?_
          simp [endQ, rets, ret1, go_sem, d1, d2, htm]
          repeat (refine And.intro (by first | omega | (intros; omega) | (intros; exact And.intro (by assumption) (by omega)) | grind) ?_)
          subst hz
          exact TLe.refl _
      · rw [if_neg hN, if_neg (by omega)] at hz
        generalize roundP f p r (a.n && ((N : Int) % 2 == 1)) (a.v ^ N) (a.e * N) false = q at *
        generalize a.v ^ N = T at *
        generalize hE : a.e * N = E at *
        refine Does.of (nt := 79) Tryz.func37 rfl rfl rfl (by simp) ?_
        simp only [argTm, PV.ext, Ce.ext]
        refine Do.seqk fun _ k1_ => ?_
        refine Do.region [1,3,4,6,8] true ?_
        simp [go_sem, d1, d2, htm, hE]
        apply k1_; clear k1_
        refine Do.seqk fun _ k2_ => ?_
        refine Do.region [1,3,4,6,8,11,12] true ?_
        simp [go_sem, d1, d2, htm, hE]
        repeat (refine And.intro (by first | omega | (intros; omega) | (intros; exact And.intro (by assumption) (by omega)) | grind) ?_)
        refine DoL.sealS true 110 109 rfl ?_
        simp [go_sem]
        refine DoL.callO true 111 3000 rfl rfl rfl rfl (by first | exact trivial | omega | (simp; done) | (simp; omega)) (hA) rfl rfl rfl ?_
        simp [go_sem, d1, d2, htm, hE]
        apply k2_; clear k2_
        refine Do.seqk fun _ k3_ => ?_
        refine Do.seqk fun _ k4_ => ?_
        refine Do.region [1,3,4,6,8,11,12,31] true ?_
        simp [go_sem, d1, d2, htm, hE]
        apply k4_; clear k4_
        refine Do.cond [1,3,4,6,8,11,12] rfl (fun h => ?_) (fun h => ?_) <;> simp [go_sem, d1, d2, htm, hE] at h ⊢
        refine Do.skip ?_
        simp [go_sem]
        apply k3_; clear k3_
        refine Do.seqk fun _ k5_ => ?_
        refine Do.sealS 3000 rfl ?_
        simp [go_sem]
        refine Do.region [1,3,4,6,8] true ?_
        simp [go_sem, d1, d2, htm, hE]
        repeat (refine And.intro (by first | omega | (intros; omega) | (intros; exact And.intro (by assumption) (by omega)) | grind) ?_)
        apply k5_; clear k5_
        refine Do.seqk fun _ k6_ => ?_
        refine Do.region [1,3,4,6,8,13] true ?_
        simp [go_sem, d1, d2, htm, hE]
        repeat (refine And.intro (by first | omega | (intros; omega) | (intros; exact And.intro (by assumption) (by omega)) | grind) ?_)
        apply k6_; clear k6_
        refine Do.seqk fun _ k7_ => ?_
        refine Do.block ?_
        refine Do.seqk fun _ k8_ => ?_
        refine Do.region [1,3,4,6,8,13,44] true ?_
        simp [go_sem, d1, d2, htm, hE]
        repeat (refine And.intro (by first | omega | (intros; omega) | (intros; exact And.intro (by assumption) (by omega)) | grind) ?_)
        apply k8_; clear k8_
        refine Do.cond [1,3,4,6,8,13] rfl (fun h3 => ?_) (fun h3 => ?_) <;> simp [go_sem, d1, d2, htm, hE] at h3 ⊢
        · omega
        · refine Do.seqk fun _ k9_ => ?_
          refine Do.region [1,3,4,6,8,13,49] true ?_
          simp [go_sem, d1, d2, htm, hE]
          apply k9_; clear k9_
          refine Do.cond [1,3,4,6,8,13] rfl (fun h4 => ?_) (fun h4 => ?_) <;> simp [go_sem, d1, d2, htm, hE] at h4 ⊢
          · omega
          · refine Do.seqk fun _ k10_ => ?_
            refine Do.region [1,3,4,6,8,13,54] true ?_
            simp [go_sem, d1, d2, htm, hE]
            repeat (refine And.intro (by first | omega | (intros; omega) | (intros; exact And.intro (by assumption) (by omega)) | grind) ?_)
            apply k10_; clear k10_
            refine Do.cond [1,3,4,6,8,13] rfl (fun h5 => ?_) (fun h5 => ?_) <;> simp [go_sem, d1, d2, htm, hE] at h5 ⊢
            · omega
            · refine Do.skip ?_
              simp [go_sem]
              apply k7_; clear k7_
              refine Do.seqk fun _ k11_ => ?_
              refine Do.draw [8,14,15] true (by kernel_rfl) ?_
              simp [go_sem, d1, d2, htm, hE]
              repeat (refine And.intro (by first | omega | (intros; omega) | (intros; exact And.intro (by assumption) (by omega)) | kernel_rfl | grind) ?_)
              refine DoLD.call true 1207 rfl rfl rfl rfl (by first | exact trivial | omega | (simp; done) | (simp; omega)) (hP) rfl (by first | exact .inl rfl | exact .inr rfl) rfl ?_
              simp [go_sem, d1, d2, htm, hE]
              repeat (refine And.intro (by first | omega | (intros; omega) | (intros; exact And.intro (by assumption) (by omega)) | kernel_rfl | grind) ?_)
              refine DoLD.call true 1212 rfl rfl rfl rfl (by first | exact trivial | omega | (simp; done) | (simp; omega)) (hF) rfl (by first | exact .inl rfl | exact .inr rfl) rfl ?_
              simp [go_sem, d1, d2, htm, hE]
              repeat (refine And.intro (by first | omega | (intros; omega) | (intros; exact And.intro (by assumption) (by omega)) | kernel_rfl | grind) ?_)
              try (refine And.intro (by kernel_rfl) ?_)
              apply k11_; clear k11_
              refine Do.seqk fun _ k12_ => ?_
              refine Do.region [8,9,10] true ?_
              simp [go_sem, d1, d2, htm, hE]
              repeat (refine And.intro (by first | omega | (intros; omega) | (intros; exact And.intro (by assumption) (by omega)) | grind) ?_)
              apply k12_; clear k12_
              refine Do.ret ?_
              simp [endQ, rets, ret1, go_sem, d1, d2, htm, hE]
              repeat (refine And.intro (by first | omega | (intros; omega) | (intros; exact And.intro (by assumption) (by omega)) | grind) ?_)
              subst hz
              exact TLe.refl _
    · by_cases hN : a.k = 3
      · rw [if_pos hN] at hz
        refine Does.of (nt := 79) Tryz.func37 rfl rfl rfl (by simp) ?_
        simp only [argTm, PV.ext, Ce.ext]
        refine Do.seqk fun _ k1_ => ?_
        refine Do.region [1,3,4,6,8] true ?_
        simp [go_sem, d1, d2, htm]
        apply k1_; clear k1_
        refine Do.seqk fun _ k2_ => ?_
        refine Do.region [1,3,4,6,8,11,12] true ?_
        simp [go_sem, d1, d2, htm]
        repeat (refine And.intro (by first | omega | (intros; omega) | (intros; exact And.intro (by assumption) (by omega)) | grind) ?_)
        refine DoL.sealS true 110 109 rfl ?_
        simp [go_sem]
        refine DoL.callO true 111 3000 rfl rfl rfl rfl (by first | exact trivial | omega | (simp; done) | (simp; omega)) (hA) rfl rfl rfl ?_
        simp [go_sem, d1, d2, htm]
        apply k2_; clear k2_
        refine Do.seqk fun _ k3_ => ?_
        refine Do.seqk fun _ k4_ => ?_
        refine Do.region [1,3,4,6,8,11,12,31] true ?_
        simp [go_sem, d1, d2, htm]
        apply k4_; clear k4_
        refine Do.cond [1,3,4,6,8,11,12] rfl (fun h => ?_) (fun h => ?_) <;> simp [go_sem, d1, d2, htm] at h ⊢
        refine Do.skip ?_
        simp [go_sem]
        apply k3_; clear k3_
        refine Do.seqk fun _ k5_ => ?_
        refine Do.sealS 3000 rfl ?_
        simp [go_sem]
        refine Do.region [1,3,4,6,8] true ?_
        simp [go_sem, d1, d2, htm]
        repeat (refine And.intro (by first | omega | (intros; omega) | (intros; exact And.intro (by assumption) (by omega)) | grind) ?_)
        apply k5_; clear k5_
        refine Do.seqk fun _ k6_ => ?_
        refine Do.region [1,3,4,6,8,13] true ?_
        simp [go_sem, d1, d2, htm]
        repeat (refine And.intro (by first | omega | (intros; omega) | (intros; exact And.intro (by assumption) (by omega)) | grind) ?_)
        apply k6_; clear k6_
        refine Do.seqk fun _ k7_ => ?_
        refine Do.block ?_
        refine Do.seqk fun _ k8_ => ?_
        refine Do.region [1,3,4,6,8,13,44] true ?_
        simp [go_sem, d1, d2, htm]
        repeat (refine And.intro (by first | omega | (intros; omega) | (intros; exact And.intro (by assumption) (by omega)) | grind) ?_)
        apply k8_; clear k8_
        refine Do.cond [1,3,4,6,8,13] rfl (fun h3 => ?_) (fun h3 => ?_) <;> simp [go_sem, d1, d2, htm] at h3 ⊢
        · refine Do.seqk fun _ k9_ => ?_
          refine Do.region [8,9,10] true ?_
          simp [go_sem, d1, d2, htm]
          repeat (refine And.intro (by first | omega | (intros; omega) | (intros; exact And.intro (by assumption) (by omega)) | grind) ?_)
          apply k9_; clear k9_
          refine Do.ret ?_
          simp [endQ, rets, ret1, go_sem, d1, d2, htm]
          repeat (refine And.intro (by first | omega | (intros; omega) | (intros; exact And.intro (by assumption) (by omega)) | grind) ?_)
          subst hz
          have h7 := hw.nan hN
          have h8 := hw.cf.fix
          unfold rcanon at h8
          rw [if_neg (by omega)] at h8
          rw [← h8, hN, h7]
          exact TLe.refl _
        · omega
      · rw [if_neg hN] at hz
        by_cases hN0 : N = 0
        · subst hN0
          rw [if_pos rfl] at hz
          refine Does.of (nt := 79) Tryz.func37 rfl rfl rfl (by simp) ?_
          simp only [argTm, PV.ext, Ce.ext]
          refine Do.seqk fun _ k1_ => ?_
          refine Do.region [1,3,4,6,8] true ?_
          simp [go_sem, d1, d2, htm]
          apply k1_; clear k1_
          refine Do.seqk fun _ k2_ => ?_
          refine Do.region [1,3,4,6,8,11,12] true ?_
          simp [go_sem, d1, d2, htm]
          repeat (refine And.intro (by first | omega | (intros; omega) | (intros; exact And.intro (by assumption) (by omega)) | grind) ?_)
          refine DoL.sealS true 110 109 rfl ?_
          simp [go_sem]
          refine DoL.callO true 111 3000 rfl rfl rfl rfl (by first | exact trivial | omega | (simp; done) | (simp; omega)) (hA) rfl rfl rfl ?_
          simp [go_sem, d1, d2, htm]
          apply k2_; clear k2_
          refine Do.seqk fun _ k3_ => ?_
          refine Do.seqk fun _ k4_ => ?_
          refine Do.region [1,3,4,6,8,11,12,31] true ?_
          simp [go_sem, d1, d2, htm]
          apply k4_; clear k4_
          refine Do.cond [1,3,4,6,8,11,12] rfl (fun h => ?_) (fun h => ?_) <;> simp [go_sem, d1, d2, htm] at h ⊢
          refine Do.skip ?_
          simp [go_sem]
          apply k3_; clear k3_
          refine Do.seqk fun _ k5_ => ?_
          refine Do.sealS 3000 rfl ?_
          simp [go_sem]
          refine Do.region [1,3,4,6,8] true ?_
          simp [go_sem, d1, d2, htm]
          repeat (refine And.intro (by first | omega | (intros; omega) | (intros; exact And.intro (by assumption) (by omega)) | grind) ?_)
          apply k5_; clear k5_
          refine Do.seqk fun _ k6_ => ?_
          refine Do.region [1,3,4,6,8,13] true ?_
          simp [go_sem, d1, d2, htm]
          repeat (refine And.intro (by first | omega | (intros; omega) | (intros; exact And.intro (by assumption) (by omega)) | grind) ?_)
          apply k6_; clear k6_
          refine Do.seqk fun _ k7_ => ?_
          refine Do.block ?_
          refine Do.seqk fun _ k8_ => ?_
          refine Do.region [1,3,4,6,8,13,44] true ?_
          simp [go_sem, d1, d2, htm]
          repeat (refine And.intro (by first | omega | (intros; omega) | (intros; exact And.intro (by assumption) (by omega)) | grind) ?_)
          apply k8_; clear k8_
          refine Do.cond [1,3,4,6,8,13] rfl (fun h3 => ?_) (fun h3 => ?_) <;> simp [go_sem, d1, d2, htm] at h3 ⊢
          · omega
          · refine Do.seqk fun _ k9_ => ?_
            refine Do.region [1,3,4,6,8,13,49] true ?_
            simp [go_sem, d1, d2, htm]
            apply k9_; clear k9_
            refine Do.cond [1,3,4,6,8,13] rfl (fun h4 => ?_) (fun h4 => ?_) <;> simp [go_sem, d1, d2, htm] at h4 ⊢
            refine Do.seqk fun _ k10_ => ?_
            refine Do.region [8,9,10] true ?_
            simp [go_sem, d1, d2, htm]
            refine DoL.frz true 901 900 rfl ?_
            simp [go_sem]
            refine DoL.call true 902 rfl rfl rfl rfl (by first | exact trivial | omega | (simp; done) | (simp; omega)) (hMk) rfl (by first | exact .inl rfl | exact .inr rfl) rfl ?_
            simp [go_sem, d1, d2, htm]
            repeat (refine And.intro (by first | omega | (intros; omega) | (intros; exact And.intro (by assumption) (by omega)) | grind) ?_)
            apply k10_; clear k10_
            refine Do.ret ?_
            simp [endQ, rets, ret1, go_sem, d1, d2, htm]
            repeat (refine And.intro (by first | omega | (intros; omega) | (intros; exact And.intro (by assumption) (by omega)) | grind) ?_)
            subst hz
            exact TLe.refl _
        · rw [if_neg hN0, if_pos hk] at hz
          refine Does.of (nt := 79) Tryz.func37 rfl rfl rfl (by simp) ?_
          simp only [argTm, PV.ext, Ce.ext]
          refine Do.seqk fun _ k1_ => ?_
          refine Do.region [1,3,4,6,8] true ?_
          simp [go_sem, d1, d2, htm]
          apply k1_; clear k1_
          refine Do.seqk fun _ k2_ => ?_
          refine Do.region [1,3,4,6,8,11,12] true ?_
          simp [go_sem, d1, d2, htm]
          repeat (refine And.intro (by first | omega | (intros; omega) | (intros; exact And.intro (by assumption) (by omega)) | grind) ?_)
          refine DoL.sealS true 110 109 rfl ?_
          simp [go_sem]
          refine DoL.callO true 111 3000 rfl rfl rfl rfl (by first | exact trivial | omega | (simp; done) | (simp; omega)) (hA) rfl rfl rfl ?_
          simp [go_sem, d1, d2, htm]
          apply k2_; clear k2_
          refine Do.seqk fun _ k3_ => ?_
          refine Do.seqk fun _ k4_ => ?_
          refine Do.region [1,3,4,6,8,11,12,31] true ?_
          simp [go_sem, d1, d2, htm]
          apply k4_; clear k4_
          refine Do.cond [1,3,4,6,8,11,12] rfl (fun h => ?_) (fun h => ?_) <;> simp [go_sem, d1, d2, htm] at h ⊢
          refine Do.skip ?_
          simp [go_sem]
          apply k3_; clear k3_
          refine Do.seqk fun _ k5_ => ?_
          refine Do.sealS 3000 rfl ?_
          simp [go_sem]
          refine Do.region [1,3,4,6,8] true ?_
          simp [go_sem, d1, d2, htm]
          repeat (refine And.intro (by first | omega | (intros; omega) | (intros; exact And.intro (by assumption) (by omega)) | grind) ?_)
          apply k5_; clear k5_
          refine Do.seqk fun _ k6_ => ?_
          refine Do.region [1,3,4,6,8,13] true ?_
          simp [go_sem, d1, d2, htm]
          repeat (refine And.intro (by first | omega | (intros; omega) | (intros; exact And.intro (by assumption) (by omega)) | grind) ?_)
          apply k6_; clear k6_
          refine Do.seqk fun _ k7_ => ?_
          refine Do.block ?_
          refine Do.seqk fun _ k8_ => ?_
          refine Do.region [1,3,4,6,8,13,44] true ?_
          simp [go_sem, d1, d2, htm]
          repeat (refine And.intro (by first | omega | (intros; omega) | (intros; exact And.intro (by assumption) (by omega)) | grind) ?_)
          apply k8_; clear k8_
          refine Do.cond [1,3,4,6,8,13] rfl (fun h3 => ?_) (fun h3 => ?_) <;> simp [go_sem, d1, d2, htm] at h3 ⊢
          · omega
          · refine Do.seqk fun _ k9_ => ?_
            refine Do.region [1,3,4,6,8,13,49] true ?_
            simp [go_sem, d1, d2, htm]
            apply k9_; clear k9_
            refine Do.cond [1,3,4,6,8,13] rfl (fun h4 => ?_) (fun h4 => ?_) <;> simp [go_sem, d1, d2, htm] at h4 ⊢
            · omega
            · refine Do.seqk fun _ k10_ => ?_
              refine Do.region [1,3,4,6,8,13,54] true ?_
              simp [go_sem, d1, d2, htm]
              repeat (refine And.intro (by first | omega | (intros; omega) | (intros; exact And.intro (by assumption) (by omega)) | grind) ?_)
              apply k10_; clear k10_
              refine Do.cond [1,3,4,6,8,13] rfl (fun h5 => ?_) (fun h5 => ?_) <;> simp [go_sem, d1, d2, htm] at h5 ⊢
              · refine Do.seqk fun _ k11_ => ?_
                refine Do.region [8,9,10] true ?_
                simp [go_sem, d1, d2, htm]
                repeat (refine And.intro (by first | omega | (intros; omega) | (intros; exact And.intro (by assumption) (by omega)) | grind) ?_)
                apply k11_; clear k11_
                refine Do.ret ?_
                simp [endQ, rets, ret1, go_sem, d1, d2, htm]
                repeat (refine And.intro (by first | omega | (intros; omega) | (intros; exact And.intro (by assumption) (by omega)) | grind) ?_)
                subst hz
                exact ret_res (ret_z rfl) rfl
              · omega
  · rw [if_neg he] at hz
    have hA : Does Tryz.prog Gv 39 [Fm f p, .c (.i .i64 r), .c (.b (decide (n < 0) || decide (64 < n))), .s false [x.cs]] (.t [.c .z, .c (.i .i64 (argsE f p r (decide (n < 0) || decide (64 < n)) [x]))]) := Args_err hl ho he
    generalize argsE f p r (decide (n < 0) || decide (64 < n)) [x] = ae at *
    refine Does.of (nt := 79) Tryz.func37 rfl rfl rfl (by simp) ?_
    simp only [argTm, PV.ext, Ce.ext]
    refine Do.seqk fun _ k1_ => ?_
    refine Do.region [1,3,4,6,8] true ?_
    simp [go_sem]
    apply k1_; clear k1_
    refine Do.seqk fun _ k2_ => ?_
    refine Do.region [1,3,4,6,8,11,12] true ?_
    simp [go_sem]
    repeat (refine And.intro (by first | omega | (intros; omega) | (intros; exact And.intro (by assumption) (by omega)) | grind) ?_)
    refine DoL.sealS true 110 109 rfl ?_
    simp [go_sem]
    refine DoL.call true 111 rfl rfl rfl rfl (by first | exact trivial | omega | (simp; done) | (simp; omega)) (hA) rfl (by first | exact .inl rfl | exact .inr rfl) rfl ?_
    simp [go_sem]
    apply k2_; clear k2_
    refine Do.seqk fun _ k3_ => ?_
    refine Do.seqk fun _ k4_ => ?_
    refine Do.region [1,3,4,6,8,11,12,31] true ?_
    simp [go_sem]
    apply k4_; clear k4_
    refine Do.cond [1,3,4,6,8,11,12] rfl (fun h => ?_) (fun h => ?_) <;> simp [go_sem] at h ⊢
    · refine Do.seqk fun _ k5_ => ?_
      refine Do.region [8,9,10] true ?_
      simp [go_sem]
      repeat (refine And.intro (by first | omega | (intros; omega) | (intros; exact And.intro (by assumption) (by omega)) | grind) ?_)
      apply k5_; clear k5_
      refine Do.ret ?_
      simp [endQ, rets, ret1, go_sem]
      repeat (refine And.intro (by first | omega | (intros; omega) | (intros; exact And.intro (by assumption) (by omega)) | grind) ?_)
      subst hz
      exact ret_res (ret_z rfl) rfl
    · exact absurd h he
theorem one_flt (b : Bool) : PV.a [.i .i64 1, .b false, .i .i64 0, .w b [1]] = PV.a [.i .i64 1, .b false, .i .i64 0, .w b (nat 1)] := by rw [nat_one]
/-- The reference's power of a float whose canonical form is small. -/
theorem RPower_does {G : Gl} {f p r : Int} (hf : fmOk f p = true) (hr : 0 ≤ r) (hr' : r ≤ 4) {x : Fla} (hx : Rt x) (ho : x.Ok) (hw : Pw (rcanon x.flt)) {N : Nat} (hN : N ≤ 64) : Does Tryz.prog G 38 [Fm f p, .c (.i .i64 r), Fl x.k x.n x.e x.m, .c (.i .i64 N)] (.t [(powR f p r (rcanon x.flt) N).1.pw, .c (.i .i64 (powR f p r (rcanon x.flt) N).2)]) := by
  generalize hz : powR f p r (rcanon x.flt) N = z
  unfold powR at hz
  have hC : Does Tryz.prog G 73 [Fl x.k x.n x.e x.m] (.v (rcanon x.flt).pw) := @Canonical_new G x.k x.e x.n x.m (by have := hx.len; omega) hx.ws hx.md
  have hkk : (rcanon x.flt).k = x.k := rcanon_k _
  have hnn : (rcanon x.flt).n = x.n := rcanon_n _
  rw [hkk, hnn] at hz
  have hk4 := (canon_kind hx.can).1
  have hn3 := (canon_kind hx.can).2
  have htm : (N : Int).tmod 2 = (N : Int) % 2 := Int.tmod_eq_emod_of_nonneg (by omega)
  have hW := @RWord_does G 1 (by decide)
  generalize rcanon x.flt = a at *
  by_cases h3 : x.k = 3
  · rw [if_pos h3] at hz
    refine Does.of (nt := 54) Tryz.func38 rfl rfl rfl (by simp) ?_
    simp only [argTm, PV.ext, Ce.ext]
    refine Do.seqk fun _ k1_ => ?_
    refine Do.region [1,3,4,6,8] true ?_
    simp [go_sem, htm]
    apply k1_; clear k1_
    refine Do.seqk fun _ k2_ => ?_
    refine Do.region [1,3,4,6,8,10] true ?_
    simp [go_sem, htm]
    repeat (refine And.intro (by first | omega | (intros; omega) | (intros; exact And.intro (by assumption) (by omega)) | grind) ?_)
    apply k2_; clear k2_
    refine Do.seqk fun _ k3_ => ?_
    refine Do.block ?_
    refine Do.seqk fun _ k4_ => ?_
    refine Do.region [1,3,4,6,8,10,18] true ?_
    simp [go_sem, htm]
    repeat (refine And.intro (by first | omega | (intros; omega) | (intros; exact And.intro (by assumption) (by omega)) | grind) ?_)
    apply k4_; clear k4_
    refine Do.cond [1,3,4,6,8,10] rfl (fun h1 => ?_) (fun h1 => ?_) <;> simp [go_sem, htm] at h1 ⊢
    · refine Do.seqk fun _ k5_ => ?_
      refine Do.region [8,9] true ?_
      simp [go_sem, htm]
      repeat (refine And.intro (by first | omega | (intros; omega) | (intros; exact And.intro (by assumption) (by omega)) | grind) ?_)
      apply k5_; clear k5_
      refine Do.ret ?_
      simp [endQ, rets, ret1, go_sem, htm]
      repeat (refine And.intro (by first | omega | (intros; omega) | (intros; exact And.intro (by assumption) (by omega)) | grind) ?_)
      subst hz
      exact TLe.t (.cons (PLe.flw (ret_zw rfl)) (.cons (PLe.refl _) .nil))
    · omega
  · rw [if_neg h3] at hz
    by_cases h0 : N = 0
    · subst h0
      rw [if_pos rfl] at hz
      refine Does.of (nt := 54) Tryz.func38 rfl rfl rfl (by simp) ?_
      simp only [argTm, PV.ext, Ce.ext]
      refine Do.seqk fun _ k1_ => ?_
      refine Do.region [1,3,4,6,8] true ?_
      simp [go_sem, htm]
      apply k1_; clear k1_
      refine Do.seqk fun _ k2_ => ?_
      refine Do.region [1,3,4,6,8,10] true ?_
      simp [go_sem, htm]
      repeat (refine And.intro (by first | omega | (intros; omega) | (intros; exact And.intro (by assumption) (by omega)) | grind) ?_)
      apply k2_; clear k2_
      refine Do.seqk fun _ k3_ => ?_
      refine Do.block ?_
      refine Do.seqk fun _ k4_ => ?_
      refine Do.region [1,3,4,6,8,10,18] true ?_
      simp [go_sem, htm]
      repeat (refine And.intro (by first | omega | (intros; omega) | (intros; exact And.intro (by assumption) (by omega)) | grind) ?_)
      apply k4_; clear k4_
      refine Do.cond [1,3,4,6,8,10] rfl (fun h1 => ?_) (fun h1 => ?_) <;> simp [go_sem, htm] at h1 ⊢
      · omega
      · refine Do.seqk fun _ k5_ => ?_
        refine Do.region [1,3,4,6,8,10,23] true ?_
        simp [go_sem, htm]
        apply k5_; clear k5_
        refine Do.cond [1,3,4,6,8,10] rfl (fun h2 => ?_) (fun h2 => ?_) <;> simp [go_sem, htm] at h2 ⊢
        refine Do.seqk fun _ k6_ => ?_
        refine Do.region [8,9] true ?_
        simp [go_sem, htm]
        refine DoL.call true 501 rfl rfl rfl rfl (by first | exact trivial | omega | (simp; done) | (simp; omega)) (hW) rfl (by first | exact .inl rfl | exact .inr rfl) rfl ?_
        simp [go_sem, htm]
        repeat (refine And.intro (by first | omega | (intros; omega) | (intros; exact And.intro (by assumption) (by omega)) | grind) ?_)
        apply k6_; clear k6_
        refine Do.ret ?_
        simp [endQ, rets, ret1, go_sem, htm]
        repeat (refine And.intro (by first | omega | (intros; omega) | (intros; exact And.intro (by assumption) (by omega)) | grind) ?_)
        subst hz
        exact TLe.refl _
    · rw [if_neg h0] at hz
      by_cases hk : x.k = 1
      · rw [if_neg (by omega)] at hz
        have hv := hw.cf.pos (by omega)
        have hbl := pow_bl hw.v (show N ≤ 64 by omega)
        have hee := pow_e (hw.lo (by omega)) (hw.hi (by omega)) (show N ≤ 64 by omega)
        have hP := @RPow_does G a.v N (by omega) (by have := nat_len_bl a.v; have := hw.v; omega) (by omega) (by omega)
        have hTp : 0 < a.v ^ N := Nat.pow_pos (by omega)
        generalize a.v ^ N = T at *
        generalize hE : a.e * N = E at *
        have hlT := nat_len_bl T
        have hM := @IMake11_does G (x.n && ((N : Int) % 2 == 1)) (nat T) (by omega) (nat_ws _)
        rw [val_nat] at hM
        have hsg : decide (sgn (x.n && ((N : Int) % 2 == 1)) T < 0) = (x.n && ((N : Int) % 2 == 1)) := by
          generalize (x.n && ((N : Int) % 2 == 1)) = sg
          unfold sgn; cases sg <;> simp <;> omega
        have hab := sgn_abs (x.n && ((N : Int) % 2 == 1)) T
        generalize sgn (x.n && ((N : Int) % 2 == 1)) T = w at *
        have hSc := @Scaled_does G (decide (w < 0)) (nat w.natAbs) E (by rw [hab]; omega) (nat_ws _)
        rw [val_nat, sgn_of, hab, hsg] at hSc
        have hM : Does Tryz.prog G 57 [.c (.b (x.n && ((N : Int) % 2 == 1))), Wd (nat T)] (.v (Ig (decide (w < 0)) (nat w.natAbs))) := hM
        rw [hsg, hab] at hM
        have hRd := @Round_new G f p r hf hr hr' (x.n && ((N : Int) % 2 == 1)) T E (by omega) (by omega) (by omega)
        generalize roundP f p r (x.n && ((N : Int) % 2 == 1)) T E false = q at *
        refine Does.of (nt := 54) Tryz.func38 rfl rfl rfl (by simp) ?_
        simp only [argTm, PV.ext, Ce.ext]
        refine Do.seqk fun _ k1_ => ?_
        refine Do.region [1,3,4,6,8] true ?_
        simp [go_sem, htm, hE]
        apply k1_; clear k1_
        refine Do.seqk fun _ k2_ => ?_
        refine Do.region [1,3,4,6,8,10] true ?_
        simp [go_sem, htm, hE]
        repeat (refine And.intro (by first | omega | (intros; omega) | (intros; exact And.intro (by assumption) (by omega)) | grind) ?_)
        apply k2_; clear k2_
        refine Do.seqk fun _ k3_ => ?_
        refine Do.block ?_
        refine Do.seqk fun _ k4_ => ?_
        refine Do.region [1,3,4,6,8,10,18] true ?_
        simp [go_sem, htm, hE]
        repeat (refine And.intro (by first | omega | (intros; omega) | (intros; exact And.intro (by assumption) (by omega)) | grind) ?_)
        apply k4_; clear k4_
        refine Do.cond [1,3,4,6,8,10] rfl (fun h1 => ?_) (fun h1 => ?_) <;> simp [go_sem, htm, hE] at h1 ⊢
        · omega
        · refine Do.seqk fun _ k5_ => ?_
          refine Do.region [1,3,4,6,8,10,23] true ?_
          simp [go_sem, htm, hE]
          apply k5_; clear k5_
          refine Do.cond [1,3,4,6,8,10] rfl (fun h2 => ?_) (fun h2 => ?_) <;> simp [go_sem, htm, hE] at h2 ⊢
          · omega
          · refine Do.seqk fun _ k6_ => ?_
            refine Do.region [1,3,4,6,8,10,28] true ?_
            simp [go_sem, htm, hE]
            repeat (refine And.intro (by first | omega | (intros; omega) | (intros; exact And.intro (by assumption) (by omega)) | grind) ?_)
            apply k6_; clear k6_
            refine Do.cond [1,3,4,6,8,10] rfl (fun h4 => ?_) (fun h4 => ?_) <;> simp [go_sem, htm, hE] at h4 ⊢
            · omega
            · refine Do.skip ?_
              simp [go_sem]
              apply k3_; clear k3_
              refine Do.seqk fun _ k7_ => ?_
              refine Do.region [1,3,4,6,8,10] true ?_
              simp [go_sem, htm, hE]
              repeat (refine And.intro (by first | omega | (intros; omega) | (intros; exact And.intro (by assumption) (by omega)) | grind) ?_)
              refine DoL.call true 802 rfl rfl rfl rfl (by first | exact trivial | omega | (simp; done) | (simp; omega)) (hC) rfl (by first | exact .inl rfl | exact .inr rfl) rfl ?_
              simp [go_sem, htm, hE]
              repeat (refine And.intro (by first | omega | (intros; omega) | (intros; exact And.intro (by assumption) (by omega)) | grind) ?_)
              apply k7_; clear k7_
              refine Do.seqk fun _ k8_ => ?_
              refine Do.draw [8,9] true (by kernel_rfl) ?_
              simp [go_sem, htm, hE]
              repeat (refine And.intro (by first | omega | (intros; omega) | (intros; exact And.intro (by assumption) (by omega)) | kernel_rfl | grind) ?_)
              refine DoLD.call true 907 rfl rfl rfl rfl (by first | exact trivial | omega | (simp; done) | (simp; omega)) (hP) rfl (by first | exact .inl rfl | exact .inr rfl) rfl ?_
              simp [go_sem, htm, hE]
              refine DoLD.call true 908 rfl rfl rfl rfl (by first | exact trivial | omega | (simp; done) | (simp; omega)) (hM) rfl (by first | exact .inl rfl | exact .inr rfl) rfl ?_
              simp [go_sem, htm, hE]
              repeat (refine And.intro (by first | omega | (intros; omega) | (intros; exact And.intro (by assumption) (by omega)) | kernel_rfl | grind) ?_)
              refine DoLD.call true 913 rfl rfl rfl rfl (by first | exact trivial | omega | (simp; done) | (simp; omega)) (hSc) rfl (by first | exact .inl rfl | exact .inr rfl) rfl ?_
              simp [go_sem, htm, hE]
              refine DoLD.call true 914 rfl rfl rfl rfl (by first | exact trivial | omega | (simp; done) | (simp; omega)) (hRd) rfl (by first | exact .inl rfl | exact .inr rfl) rfl ?_
              simp [go_sem, htm, hE]
              repeat (refine And.intro (by first | omega | (intros; omega) | (intros; exact And.intro (by assumption) (by omega)) | kernel_rfl | grind) ?_)
              try (refine And.intro (by kernel_rfl) ?_)
              apply k8_; clear k8_
              refine Do.ret ?_
              simp [endQ, rets, ret1, go_sem, htm, hE]
              repeat (refine And.intro (by first | omega | (intros; omega) | (intros; exact And.intro (by assumption) (by omega)) | grind) ?_)
              subst hz
              exact TLe.refl _
      · rw [if_pos hk] at hz
        refine Does.of (nt := 54) Tryz.func38 rfl rfl rfl (by simp) ?_
        simp only [argTm, PV.ext, Ce.ext]
        refine Do.seqk fun _ k1_ => ?_
        refine Do.region [1,3,4,6,8] true ?_
        simp [go_sem, htm]
        apply k1_; clear k1_
        refine Do.seqk fun _ k2_ => ?_
        refine Do.region [1,3,4,6,8,10] true ?_
        simp [go_sem, htm]
        repeat (refine And.intro (by first | omega | (intros; omega) | (intros; exact And.intro (by assumption) (by omega)) | grind) ?_)
        apply k2_; clear k2_
        refine Do.seqk fun _ k3_ => ?_
        refine Do.block ?_
        refine Do.seqk fun _ k4_ => ?_
        refine Do.region [1,3,4,6,8,10,18] true ?_
        simp [go_sem, htm]
        repeat (refine And.intro (by first | omega | (intros; omega) | (intros; exact And.intro (by assumption) (by omega)) | grind) ?_)
        apply k4_; clear k4_
        refine Do.cond [1,3,4,6,8,10] rfl (fun h1 => ?_) (fun h1 => ?_) <;> simp [go_sem, htm] at h1 ⊢
        · omega
        · refine Do.seqk fun _ k5_ => ?_
          refine Do.region [1,3,4,6,8,10,23] true ?_
          simp [go_sem, htm]
          apply k5_; clear k5_
          refine Do.cond [1,3,4,6,8,10] rfl (fun h2 => ?_) (fun h2 => ?_) <;> simp [go_sem, htm] at h2 ⊢
          · omega
          · refine Do.seqk fun _ k6_ => ?_
            refine Do.region [1,3,4,6,8,10,28] true ?_
            simp [go_sem, htm]
            repeat (refine And.intro (by first | omega | (intros; omega) | (intros; exact And.intro (by assumption) (by omega)) | grind) ?_)
            apply k6_; clear k6_
            refine Do.cond [1,3,4,6,8,10] rfl (fun h4 => ?_) (fun h4 => ?_) <;> simp [go_sem, htm] at h4 ⊢
            · refine Do.seqk fun _ k7_ => ?_
              refine Do.region [8,9] true ?_
              simp [go_sem, htm]
              repeat (refine And.intro (by first | omega | (intros; omega) | (intros; exact And.intro (by assumption) (by omega)) | grind) ?_)
              apply k7_; clear k7_
              refine Do.ret ?_
              simp [endQ, rets, ret1, go_sem, htm]
              repeat (refine And.intro (by first | omega | (intros; omega) | (intros; exact And.intro (by assumption) (by omega)) | grind) ?_)
              subst hz
              exact TLe.t (.cons (PLe.flw (ret_zw rfl)) (.cons (PLe.refl _) .nil))
            · omega
theorem argsE_far {f p r : Int} (x : Fla) : argsE f p r true [x] = (if argsE f p r false [x] ≠ 2 then 1 else 2) := by
  by_cases h : anyLarge [x] = true
  · rw [argsE, argsE, if_pos h, if_pos h]; rfl
  · rw [argsE, argsE, if_neg h, if_neg h, if_pos (by simp), if_pos]
    split
    · omega
    · split
      · omega
      · split <;> omega
theorem powA_fine {f p r n : Int} {x : Fla} : rcanon (powA f p r x n).1 = (powA f p r x n).1 ∧ Fine (powA f p r x n).1 := by
  unfold powA
  split
  · rename_i he
    obtain ⟨h1, h2, h3, h4, h5, h6⟩ := argsE_zero he
    have hh : (holdsP f p x.flt).2 = true := by simpa using List.all_eq_true.1 h6 x (by simp)
    exact powR_fine h5 (held_cf hh).k
  · exact ⟨rfl, fine_zero⟩
theorem ProductPowers_does {f p r n : Int} {x : Fla} (hx : Ws x.m) (ex : I64 x.e) : Does Tryz.prog Gv 9 [Fm f p, .c (.i .i64 r), Fl x.k x.n x.e x.m, .c (.i .i64 n)] (.v (.c (.b true))) := by
  have hS : Does Tryz.prog Gv 10 [.s false [x.cs]] (.v (.c (.b (shortP [x])))) := Short15_does (l := [x]) (by simp)
  cases hs : shortP [x] with
  | false =>
    rw [hs] at hS
    refine Does.of (nt := 74) Tryz.func9 rfl rfl rfl (by simp) ?_
    simp only [argTm, PV.ext, Ce.ext]
    refine Do.seqk fun _ k1_ => ?_
    refine Do.region [1,3,4,6] true ?_
    simp [go_sem]
    apply k1_; clear k1_
    refine Do.seqk fun _ k2_ => ?_
    refine Do.seqk fun _ k3_ => ?_
    refine Do.region [1,3,4,6,18] true ?_
    simp [go_sem]
    repeat (refine And.intro (by first | omega | (intros; omega) | (intros; exact And.intro (by assumption) (by omega)) | grind) ?_)
    refine DoL.sealS true 102 101 rfl ?_
    simp [go_sem]
    refine DoL.call true 103 rfl rfl rfl rfl (by first | exact trivial | omega | (simp; done) | (simp; omega)) (hS) rfl (by first | exact .inl rfl | exact .inr rfl) rfl ?_
    simp [go_sem]
    repeat (refine And.intro (by first | omega | (intros; omega) | (intros; exact And.intro (by assumption) (by omega)) | grind) ?_)
    apply k3_; clear k3_
    refine Do.cond [1,3,4,6] rfl (fun h => ?_) (fun h => ?_) <;> simp [go_sem] at h ⊢
    refine Do.seqk fun _ k4_ => ?_
    refine Do.region [8] true ?_
    simp [go_sem]
    refine DoL.call true 201 rfl rfl rfl rfl (by first | exact trivial | omega | (simp; done) | (simp; omega)) (awake18_does) rfl (by first | exact .inl rfl | exact .inr rfl) rfl ?_
    simp [go_sem]
    apply k4_; clear k4_
    refine Do.ret ?_
    simp [endQ, rets, ret1, go_sem]
    repeat (refine And.intro (by first | omega | (intros; omega) | (intros; exact And.intro (by assumption) (by omega)) | grind) ?_)
    exact TLe.refl _
  | true =>
    rw [hs] at hS
    have hsx : x.m.length ≤ 40 := by simpa [shortP] using hs
    have ox : x.Ok := ⟨by simp [Sh]; omega, hx, ex⟩
    have ho : ∀ u ∈ [x], u.Ok := by simp [ox]
    have hT := PPower_does (f := f) (p := p) (r := r) (n := n) ox
    have hA : Does Tryz.prog Gv 13 [Fm f p, .c (.i .i64 r), .s false [x.cs]] (.int .i64 (argsE f p r false [x])) := @KArgs_does Gv f p r [x] (by simp) ho
    obtain ⟨hfx, hfn⟩ := @powA_fine f p r n x
    by_cases hb : (decide (n < 0) || decide (64 < n)) = true
    · have he : argsE f p r (decide (n < 0) || decide (64 < n)) [x] ≠ 0 := by
        rw [hb, argsE_far]; split <;> omega
      rw [powA, if_neg he, hb, argsE_far] at hT
      have hbn : n < 0 ∨ 64 < n := by simpa using hb
      generalize argsE f p r false [x] = ae at *
      by_cases h2 : ae = 2
      · subst h2
        have hF := @Fits_none 0 0 false [] 0 2 ⟨rfl, rfl, rfl, rfl⟩ (by decide) 2
        have hT : Does Tryz.prog Gv 37 [Fm f p, .c (.i .i64 r), Fl x.k x.n x.e x.m, .c (.i .i64 n)] (.t [Fl 0 false 0 (nat 0), .c (.i .i64 0), .c (.i .i64 2)]) := hT
        rw [nat_zero] at hT
        refine Does.of (nt := 74) Tryz.func9 rfl rfl rfl (by simp) ?_
        simp only [argTm, PV.ext, Ce.ext]
        refine Do.seqk fun _ k1_ => ?_
        refine Do.region [1,3,4,6] true ?_
        simp [go_sem]
        apply k1_; clear k1_
        refine Do.seqk fun _ k2_ => ?_
        refine Do.seqk fun _ k3_ => ?_
        refine Do.region [1,3,4,6,18] true ?_
        simp [go_sem]
        repeat (refine And.intro (by first | omega | (intros; omega) | (intros; exact And.intro (by assumption) (by omega)) | grind) ?_)
        refine DoL.sealS true 102 101 rfl ?_
        simp [go_sem]
        refine DoL.call true 103 rfl rfl rfl rfl (by first | exact trivial | omega | (simp; done) | (simp; omega)) (hS) rfl (by first | exact .inl rfl | exact .inr rfl) rfl ?_
        simp [go_sem]
        repeat (refine And.intro (by first | omega | (intros; omega) | (intros; exact And.intro (by assumption) (by omega)) | grind) ?_)
        apply k3_; clear k3_
        refine Do.cond [1,3,4,6] rfl (fun h => ?_) (fun h => ?_) <;> simp [go_sem] at h ⊢
        refine Do.skip ?_
        simp [go_sem]
        apply k2_; clear k2_
        refine Do.seqk fun _ k4_ => ?_
        refine Do.region [1,3,4,6,9,10,11] true ?_
        simp [go_sem]
        repeat (refine And.intro (by first | omega | (intros; omega) | (intros; exact And.intro (by assumption) (by omega)) | grind) ?_)
        refine DoL.call true 305 rfl rfl rfl rfl (by first | exact trivial | omega | (simp; done) | (simp; omega)) (hT) rfl (by first | exact .inl rfl | exact .inr rfl) rfl ?_
        simp [go_sem]
        repeat (refine And.intro (by first | omega | (intros; omega) | (intros; exact And.intro (by assumption) (by omega)) | grind) ?_)
        apply k4_; clear k4_
        refine Do.seqk fun _ k5_ => ?_
        refine Do.region [1,3,4,6,9,10,11,12] true ?_
        simp [go_sem]
        repeat (refine And.intro (by first | omega | (intros; omega) | (intros; exact And.intro (by assumption) (by omega)) | grind) ?_)
        refine DoL.sealS true 404 403 rfl ?_
        simp [go_sem]
        refine DoL.call true 405 rfl rfl rfl rfl (by first | exact trivial | omega | (simp; done) | (simp; omega)) (hA) rfl (by first | exact .inl rfl | exact .inr rfl) rfl ?_
        simp [go_sem]
        apply k5_; clear k5_
        refine Do.seqk fun _ k6_ => ?_
        refine Do.seqk fun _ k7_ => ?_
        refine Do.region [1,3,4,6,9,10,11,12,43] true ?_
        simp [go_sem]
        apply k7_; clear k7_
        refine Do.cond [1,3,4,6,9,10,11,12] rfl (fun h5 => ?_) (fun h5 => ?_) <;> simp [go_sem] at h5 ⊢
        refine Do.skip ?_
        simp [go_sem]
        apply k6_; clear k6_
        refine Do.seqk fun _ k8_ => ?_
        refine Do.seqk fun _ k9_ => ?_
        refine Do.region [1,3,4,6,9,10,11,12,45] true ?_
        simp [go_sem]
        apply k9_; clear k9_
        refine Do.cond [1,3,4,6,9,10,11,12] rfl (fun h6 => ?_) (fun h6 => ?_) <;> simp [go_sem] at h6 ⊢
        refine Do.seqk fun _ k10_ => ?_
        refine Do.region [8] true ?_
        simp [go_sem]
        repeat (refine And.intro (by first | omega | (intros; omega) | (intros; exact And.intro (by assumption) (by omega)) | grind) ?_)
        refine DoL.call true 806 rfl rfl rfl rfl (by first | exact trivial | omega | (simp; done) | (simp; omega)) (hF) rfl (by first | exact .inl rfl | exact .inr rfl) rfl ?_
        simp [go_sem]
        refine DoL.callg true 808 rfl rfl rfl rfl rfl (by simp [go_sem] <;> omega) (fun _ => awake18_does) rfl (by first | exact .inl rfl | exact .inr rfl) rfl ?_
        simp [go_sem]
        apply k10_; clear k10_
        refine Do.ret ?_
        simp [endQ, rets, ret1, go_sem]
        repeat (refine And.intro (by first | omega | (intros; omega) | (intros; exact And.intro (by assumption) (by omega)) | grind) ?_)
        exact TLe.refl _
      · rw [if_pos h2] at hT
        have hF := @Fits_none 0 0 false [] 0 1 ⟨rfl, rfl, rfl, rfl⟩ (by decide) 1
        have hT : Does Tryz.prog Gv 37 [Fm f p, .c (.i .i64 r), Fl x.k x.n x.e x.m, .c (.i .i64 n)] (.t [Fl 0 false 0 (nat 0), .c (.i .i64 0), .c (.i .i64 1)]) := hT
        rw [nat_zero] at hT
        refine Does.of (nt := 74) Tryz.func9 rfl rfl rfl (by simp) ?_
        simp only [argTm, PV.ext, Ce.ext]
        refine Do.seqk fun _ k1_ => ?_
        refine Do.region [1,3,4,6] true ?_
        simp [go_sem, h2]
        apply k1_; clear k1_
        refine Do.seqk fun _ k2_ => ?_
        refine Do.seqk fun _ k3_ => ?_
        refine Do.region [1,3,4,6,18] true ?_
        simp [go_sem, h2]
        repeat (refine And.intro (by first | omega | (intros; omega) | (intros; exact And.intro (by assumption) (by omega)) | grind) ?_)
        refine DoL.sealS true 102 101 rfl ?_
        simp [go_sem]
        refine DoL.call true 103 rfl rfl rfl rfl (by first | exact trivial | omega | (simp; done) | (simp; omega)) (hS) rfl (by first | exact .inl rfl | exact .inr rfl) rfl ?_
        simp [go_sem, h2]
        repeat (refine And.intro (by first | omega | (intros; omega) | (intros; exact And.intro (by assumption) (by omega)) | grind) ?_)
        apply k3_; clear k3_
        refine Do.cond [1,3,4,6] rfl (fun h => ?_) (fun h => ?_) <;> simp [go_sem, h2] at h ⊢
        refine Do.skip ?_
        simp [go_sem]
        apply k2_; clear k2_
        refine Do.seqk fun _ k4_ => ?_
        refine Do.region [1,3,4,6,9,10,11] true ?_
        simp [go_sem, h2]
        repeat (refine And.intro (by first | omega | (intros; omega) | (intros; exact And.intro (by assumption) (by omega)) | grind) ?_)
        refine DoL.call true 305 rfl rfl rfl rfl (by first | exact trivial | omega | (simp; done) | (simp; omega)) (hT) rfl (by first | exact .inl rfl | exact .inr rfl) rfl ?_
        simp [go_sem, h2]
        repeat (refine And.intro (by first | omega | (intros; omega) | (intros; exact And.intro (by assumption) (by omega)) | grind) ?_)
        apply k4_; clear k4_
        refine Do.seqk fun _ k5_ => ?_
        refine Do.region [1,3,4,6,9,10,11,12] true ?_
        simp [go_sem, h2]
        repeat (refine And.intro (by first | omega | (intros; omega) | (intros; exact And.intro (by assumption) (by omega)) | grind) ?_)
        refine DoL.sealS true 404 403 rfl ?_
        simp [go_sem]
        refine DoL.call true 405 rfl rfl rfl rfl (by first | exact trivial | omega | (simp; done) | (simp; omega)) (hA) rfl (by first | exact .inl rfl | exact .inr rfl) rfl ?_
        simp [go_sem, h2]
        apply k5_; clear k5_
        refine Do.seqk fun _ k6_ => ?_
        refine Do.seqk fun _ k7_ => ?_
        refine Do.region [1,3,4,6,9,10,11,12,43] true ?_
        simp [go_sem, h2]
        apply k7_; clear k7_
        refine Do.cond [1,3,4,6,9,10,11,12] rfl (fun h5 => ?_) (fun h5 => ?_) <;> simp [go_sem, h2] at h5 ⊢
        · refine Do.region [1,3,4,6,9,10,11,12] true ?_
          simp [go_sem, h2]
          apply k6_; clear k6_
          refine Do.seqk fun _ k8_ => ?_
          refine Do.seqk fun _ k9_ => ?_
          refine Do.region [1,3,4,6,9,10,11,12,45] true ?_
          simp [go_sem, h2]
          apply k9_; clear k9_
          refine Do.cond [1,3,4,6,9,10,11,12] rfl (fun h6 => ?_) (fun h6 => ?_) <;> simp [go_sem, h2] at h6 ⊢
          refine Do.seqk fun _ k10_ => ?_
          refine Do.region [8] true ?_
          simp [go_sem, h2]
          repeat (refine And.intro (by first | omega | (intros; omega) | (intros; exact And.intro (by assumption) (by omega)) | grind) ?_)
          refine DoL.call true 806 rfl rfl rfl rfl (by first | exact trivial | omega | (simp; done) | (simp; omega)) (hF) rfl (by first | exact .inl rfl | exact .inr rfl) rfl ?_
          simp [go_sem, h2]
          refine DoL.callg true 808 rfl rfl rfl rfl rfl (by simp [go_sem] <;> omega) (fun _ => awake18_does) rfl (by first | exact .inl rfl | exact .inr rfl) rfl ?_
          simp [go_sem, h2]
          apply k10_; clear k10_
          refine Do.ret ?_
          simp [endQ, rets, ret1, go_sem, h2]
          repeat (refine And.intro (by first | omega | (intros; omega) | (intros; exact And.intro (by assumption) (by omega)) | grind) ?_)
          exact TLe.refl _
        · omega
    · have hb0 : (decide (n < 0) || decide (64 < n)) = false := by simpa using hb
      have hn : 0 ≤ n ∧ n ≤ 64 := by simp at hb0; omega
      obtain ⟨N, rfl⟩ : ∃ N : Nat, n = N := ⟨n.toNat, by omega⟩
      have d1 : ¬ (N : Int) < 0 := by omega
      have d2 : ¬ (64 : Int) < N := by omega
      by_cases he : argsE f p r false [x] = 0
      · obtain ⟨h1, h2, h3, h4, h5, h6⟩ := argsE_zero he
        have hrt := held_rt h6 ho h1
        have hh : (holdsP f p x.flt).2 = true := by simpa using List.all_eq_true.1 h6 x (by simp)
        have hw := held_pw h5 hh
        have hM := @RPower_does Gv f p r h5 h2 h3 x (hrt x (by simp)) ox (by rw [(held_rcanon hh).1]; exact hw) N (by omega)
        rw [(held_rcanon hh).1] at hM
        rw [powA, hb0, if_pos he, Int.toNat_natCast] at hT hfx hfn
        rw [he] at hA
        generalize powR f p r (holdsP f p x.flt).1 N = z at *
        have hF := @Fits_same Gv z.1 z.2 hfn hfx
        have hT : Does Tryz.prog Gv 37 [Fm f p, .c (.i .i64 r), Fl x.k x.n x.e x.m, .c (.i .i64 N)] (.t [z.1.pv, .c (.i .i64 z.2), .c (.i .i64 0)]) := hT
        refine Does.of (nt := 74) Tryz.func9 rfl rfl rfl (by simp) ?_
        simp only [argTm, PV.ext, Ce.ext]
        refine Do.seqk fun _ k1_ => ?_
        refine Do.region [1,3,4,6] true ?_
        simp [go_sem, d1, d2]
        apply k1_; clear k1_
        refine Do.seqk fun _ k2_ => ?_
        refine Do.seqk fun _ k3_ => ?_
        refine Do.region [1,3,4,6,18] true ?_
        simp [go_sem, d1, d2]
        repeat (refine And.intro (by first | omega | (intros; omega) | (intros; exact And.intro (by assumption) (by omega)) | grind) ?_)
        refine DoL.sealS true 102 101 rfl ?_
        simp [go_sem]
        refine DoL.call true 103 rfl rfl rfl rfl (by first | exact trivial | omega | (simp; done) | (simp; omega)) (hS) rfl (by first | exact .inl rfl | exact .inr rfl) rfl ?_
        simp [go_sem, d1, d2]
        repeat (refine And.intro (by first | omega | (intros; omega) | (intros; exact And.intro (by assumption) (by omega)) | grind) ?_)
        apply k3_; clear k3_
        refine Do.cond [1,3,4,6] rfl (fun h => ?_) (fun h => ?_) <;> simp [go_sem, d1, d2] at h ⊢
        refine Do.skip ?_
        simp [go_sem]
        apply k2_; clear k2_
        refine Do.seqk fun _ k4_ => ?_
        refine Do.region [1,3,4,6,9,10,11] true ?_
        simp [go_sem, d1, d2]
        repeat (refine And.intro (by first | omega | (intros; omega) | (intros; exact And.intro (by assumption) (by omega)) | grind) ?_)
        refine DoL.call true 305 rfl rfl rfl rfl (by first | exact trivial | omega | (simp; done) | (simp; omega)) (hT) rfl (by first | exact .inl rfl | exact .inr rfl) rfl ?_
        simp [go_sem, d1, d2]
        repeat (refine And.intro (by first | omega | (intros; omega) | (intros; exact And.intro (by assumption) (by omega)) | grind) ?_)
        apply k4_; clear k4_
        refine Do.seqk fun _ k5_ => ?_
        refine Do.region [1,3,4,6,9,10,11,12] true ?_
        simp [go_sem, d1, d2]
        repeat (refine And.intro (by first | omega | (intros; omega) | (intros; exact And.intro (by assumption) (by omega)) | grind) ?_)
        refine DoL.sealS true 404 403 rfl ?_
        simp [go_sem]
        refine DoL.call true 405 rfl rfl rfl rfl (by first | exact trivial | omega | (simp; done) | (simp; omega)) (hA) rfl (by first | exact .inl rfl | exact .inr rfl) rfl ?_
        simp [go_sem, d1, d2]
        apply k5_; clear k5_
        refine Do.seqk fun _ k6_ => ?_
        refine Do.seqk fun _ k7_ => ?_
        refine Do.region [1,3,4,6,9,10,11,12,43] true ?_
        simp [go_sem, d1, d2]
        apply k7_; clear k7_
        refine Do.cond [1,3,4,6,9,10,11,12] rfl (fun h5 => ?_) (fun h5 => ?_) <;> simp [go_sem, d1, d2] at h5 ⊢
        refine Do.skip ?_
        simp [go_sem]
        apply k6_; clear k6_
        refine Do.seqk fun _ k8_ => ?_
        refine Do.seqk fun _ k9_ => ?_
        refine Do.region [1,3,4,6,9,10,11,12,45] true ?_
        simp [go_sem, d1, d2]
        apply k9_; clear k9_
        refine Do.cond [1,3,4,6,9,10,11,12] rfl (fun h6 => ?_) (fun h6 => ?_) <;> simp [go_sem, d1, d2] at h6 ⊢
        refine Do.skip ?_
        simp [go_sem]
        apply k8_; clear k8_
        refine Do.seqk fun _ k10_ => ?_
        refine Do.draw [9,10,11,13,14] true (by kernel_rfl) ?_
        simp [go_sem, d1, d2]
        repeat (refine And.intro (by first | omega | (intros; omega) | (intros; exact And.intro (by assumption) (by omega)) | kernel_rfl | grind) ?_)
        refine DoLD.call true 902 rfl rfl rfl rfl (by first | exact trivial | omega | (simp; done) | (simp; omega)) (Fmt_does) rfl (by first | exact .inl rfl | exact .inr rfl) rfl ?_
        simp [go_sem, d1, d2]
        repeat (refine And.intro (by first | omega | (intros; omega) | (intros; exact And.intro (by assumption) (by omega)) | kernel_rfl | grind) ?_)
        refine DoLD.call true 905 rfl rfl rfl rfl (by first | exact trivial | omega | (simp; done) | (simp; omega)) (Their_does) rfl (by first | exact .inl rfl | exact .inr rfl) rfl ?_
        simp [go_sem, d1, d2]
        refine DoLD.call true 907 rfl rfl rfl rfl (by first | exact trivial | omega | (simp; done) | (simp; omega)) (hM) rfl (by first | exact .inl rfl | exact .inr rfl) rfl ?_
        simp [go_sem, d1, d2]
        repeat (refine And.intro (by first | omega | (intros; omega) | (intros; exact And.intro (by assumption) (by omega)) | kernel_rfl | grind) ?_)
        try (refine And.intro (by kernel_rfl) ?_)
        apply k10_; clear k10_
        refine Do.seqk fun _ k11_ => ?_
        refine Do.region [8] true ?_
        simp [go_sem, d1, d2]
        repeat (refine And.intro (by first | omega | (intros; omega) | (intros; exact And.intro (by assumption) (by omega)) | grind) ?_)
        refine DoL.call true 1006 rfl rfl rfl rfl (by first | exact trivial | omega | (simp; done) | (simp; omega)) (hF) rfl (by first | exact .inl rfl | exact .inr rfl) rfl ?_
        simp [go_sem, d1, d2]
        refine DoL.callg true 1008 rfl rfl rfl rfl rfl (by simp [go_sem] <;> omega) (fun _ => awake18_does) rfl (by first | exact .inl rfl | exact .inr rfl) rfl ?_
        simp [go_sem, d1, d2]
        apply k11_; clear k11_
        refine Do.ret ?_
        simp [endQ, rets, ret1, go_sem, d1, d2]
        repeat (refine And.intro (by first | omega | (intros; omega) | (intros; exact And.intro (by assumption) (by omega)) | grind) ?_)
        exact TLe.refl _
      · have hF := @Fits_none 0 0 false [] 0 (argsE f p r false [x]) ⟨rfl, rfl, rfl, rfl⟩ he (argsE f p r false [x])
        rw [powA, hb0, if_neg he] at hT
        generalize argsE f p r false [x] = ae at *
        have hT : Does Tryz.prog Gv 37 [Fm f p, .c (.i .i64 r), Fl x.k x.n x.e x.m, .c (.i .i64 N)] (.t [Fl 0 false 0 (nat 0), .c (.i .i64 0), .c (.i .i64 ae)]) := hT
        rw [nat_zero] at hT
        refine Does.of (nt := 74) Tryz.func9 rfl rfl rfl (by simp) ?_
        simp only [argTm, PV.ext, Ce.ext]
        refine Do.seqk fun _ k1_ => ?_
        refine Do.region [1,3,4,6] true ?_
        simp [go_sem, d1, d2]
        apply k1_; clear k1_
        refine Do.seqk fun _ k2_ => ?_
        refine Do.seqk fun _ k3_ => ?_
        refine Do.region [1,3,4,6,18] true ?_
        simp [go_sem, d1, d2]
        repeat (refine And.intro (by first | omega | (intros; omega) | (intros; exact And.intro (by assumption) (by omega)) | grind) ?_)
        refine DoL.sealS true 102 101 rfl ?_
        simp [go_sem]
        refine DoL.call true 103 rfl rfl rfl rfl (by first | exact trivial | omega | (simp; done) | (simp; omega)) (hS) rfl (by first | exact .inl rfl | exact .inr rfl) rfl ?_
        simp [go_sem, d1, d2]
        repeat (refine And.intro (by first | omega | (intros; omega) | (intros; exact And.intro (by assumption) (by omega)) | grind) ?_)
        apply k3_; clear k3_
        refine Do.cond [1,3,4,6] rfl (fun h => ?_) (fun h => ?_) <;> simp [go_sem, d1, d2] at h ⊢
        refine Do.skip ?_
        simp [go_sem]
        apply k2_; clear k2_
        refine Do.seqk fun _ k4_ => ?_
        refine Do.region [1,3,4,6,9,10,11] true ?_
        simp [go_sem, d1, d2]
        repeat (refine And.intro (by first | omega | (intros; omega) | (intros; exact And.intro (by assumption) (by omega)) | grind) ?_)
        refine DoL.call true 305 rfl rfl rfl rfl (by first | exact trivial | omega | (simp; done) | (simp; omega)) (hT) rfl (by first | exact .inl rfl | exact .inr rfl) rfl ?_
        simp [go_sem, d1, d2]
        repeat (refine And.intro (by first | omega | (intros; omega) | (intros; exact And.intro (by assumption) (by omega)) | grind) ?_)
        apply k4_; clear k4_
        refine Do.seqk fun _ k5_ => ?_
        refine Do.region [1,3,4,6,9,10,11,12] true ?_
        simp [go_sem, d1, d2]
        repeat (refine And.intro (by first | omega | (intros; omega) | (intros; exact And.intro (by assumption) (by omega)) | grind) ?_)
        refine DoL.sealS true 404 403 rfl ?_
        simp [go_sem]
        refine DoL.call true 405 rfl rfl rfl rfl (by first | exact trivial | omega | (simp; done) | (simp; omega)) (hA) rfl (by first | exact .inl rfl | exact .inr rfl) rfl ?_
        simp [go_sem, d1, d2]
        apply k5_; clear k5_
        refine Do.seqk fun _ k6_ => ?_
        refine Do.seqk fun _ k7_ => ?_
        refine Do.region [1,3,4,6,9,10,11,12,43] true ?_
        simp [go_sem, d1, d2]
        apply k7_; clear k7_
        refine Do.cond [1,3,4,6,9,10,11,12] rfl (fun h5 => ?_) (fun h5 => ?_) <;> simp [go_sem, d1, d2] at h5 ⊢
        refine Do.skip ?_
        simp [go_sem]
        apply k6_; clear k6_
        refine Do.seqk fun _ k8_ => ?_
        refine Do.seqk fun _ k9_ => ?_
        refine Do.region [1,3,4,6,9,10,11,12,45] true ?_
        simp [go_sem, d1, d2]
        apply k9_; clear k9_
        refine Do.cond [1,3,4,6,9,10,11,12] rfl (fun h6 => ?_) (fun h6 => ?_) <;> simp [go_sem, d1, d2] at h6 ⊢
        · refine Do.seqk fun _ k10_ => ?_
          refine Do.region [8] true ?_
          simp [go_sem, d1, d2]
          repeat (refine And.intro (by first | omega | (intros; omega) | (intros; exact And.intro (by assumption) (by omega)) | grind) ?_)
          refine DoL.call true 806 rfl rfl rfl rfl (by first | exact trivial | omega | (simp; done) | (simp; omega)) (hF) rfl (by first | exact .inl rfl | exact .inr rfl) rfl ?_
          simp [go_sem, d1, d2]
          refine DoL.callg true 808 rfl rfl rfl rfl rfl (by simp [go_sem] <;> omega) (fun _ => awake18_does) rfl (by first | exact .inl rfl | exact .inr rfl) rfl ?_
          simp [go_sem, d1, d2]
          apply k10_; clear k10_
          refine Do.ret ?_
          simp [endQ, rets, ret1, go_sem, d1, d2]
          repeat (refine And.intro (by first | omega | (intros; omega) | (intros; exact And.intro (by assumption) (by omega)) | grind) ?_)
          exact TLe.refl _
        · exact absurd h6 he
end Go.Proofs.YthpkhmbjmnhmoaaGreatDoor
/- The row of ProductPowers. No condition. -/
namespace Go.Proofs.YthpkhmbjmnhmoaaGreatDoor
set_option linter.unusedVariables false
set_option linter.unusedSimpArgs false
open Go.ChangeShapes Go.WideShapes Go.ChangeAt Go.RowKit
set_option maxRecDepth 100000
namespace productPowers
set_option maxRecDepth 100000 in
theorem lifted (os : Os) (started : os.Started) (H : Type) (enc : TypeId × Value → H) :
    ReturnsInHanded {} Tryz.checked os 9 .any (fun w args => (Rows.productPowersSpec.pre enc Tryz.prog Tryz.f9 [] false w args ∧ laidMetH Tryz.prog laidL w) ∧ sizedMet enc Tryz.prog Tryz.f9 (OpenSpec.ofChange Rows.productPowersSpec) false w args)
      (Rows.productPowersSpec.post enc Tryz.prog Tryz.f9 false true false false) := by
  refine returnsInHanded_of_change_and (C := Tryz.checked) (X := fun w _ => laidMetH Tryz.prog laidL w) (fun _ _ _ hh h => h.of_heap hh) own started (by kernel_rfl) Tryz.func9
    (ChangeSpec.witness_shaped (enc := enc) (C := Tryz.checked) (os := os) (X := fun w _ => laidMetH Tryz.prog laidL w) false (World.doorLaid Tryz.prog doorN os) #[.agg #[.int .i64 0, .int .i64 0], .int .i64 0, .agg #[.int .i64 0, .bool false, .int .i64 0, .slice Option.none 0 0], .int .i64 0] doorK rfl (World.shaped_of_RefB (by kernel_rfl) (by kernel_rfl)) (by kernel_rfl) (by kernel_rfl) (by kernel_rfl) (door_met os _)) ?_
  intro W base args ds gs before hval0 hW _ _ hL _
  have hval : ∀ (j : Nat) t v, Tryz.f9.params[j]? = some t → args[j]? = some v → Value.okWide Tryz.prog W .any base t v := hval0
  have hW' := hW
  obtain ⟨p, q, hA0, hV, rfl, hfz, hnd⟩ := hW
  have hA : DataW.TrodAll enc Tryz.prog W 0 (fun _ => true) true Tryz.f9.params.toList args.toList ds p := hA0
  rw [Tryz.params9] at hA hval
  obtain ⟨v0, vs0, d0, ds0, p0, q0, hargs, rfl, rfl, h0, r0⟩ := trodAll_cons hA
  obtain ⟨v1, vs1, d1, ds1, p1, q1, rfl, rfl, rfl, h1, r1⟩ := trodAll_cons r0
  obtain ⟨v2, vs2, d2, ds2, p2, q2, rfl, rfl, rfl, h2, r2⟩ := trodAll_cons r1
  obtain ⟨v3, vs3, d3, ds3, p3, q3, rfl, rfl, rfl, h3, r3⟩ := trodAll_cons r2
  obtain ⟨rfl, rfl, rfl⟩ := trodAll_nil r3
  obtain rfl : args = #[v0, v1, v2, v3] := by cases args; simp_all
  obtain ⟨rfl, rfl⟩ := trodVars_none hV
  have lt0 : ∀ x ∈ p0, x.block < W.heap.size := by obtain ⟨m, hm⟩ := h0; exact DataW.trod_lt m _ _ _ hm
  have lt1 : ∀ x ∈ p1, x.block < W.heap.size := by obtain ⟨m, hm⟩ := h1; exact DataW.trod_lt m _ _ _ hm
  have lt2 : ∀ x ∈ p2, x.block < W.heap.size := by obtain ⟨m, hm⟩ := h2; exact DataW.trod_lt m _ _ _ hm
  have lt3 : ∀ x ∈ p3, x.block < W.heap.size := by obtain ⟨m, hm⟩ := h3; exact DataW.trod_lt m _ _ _ hm
  obtain ⟨f, fp, a0⟩ := arg_fm (hval 0 _ v0 rfl rfl) h0
  have k1 := h1
  obtain ⟨r, rfl, rfl, rfl, w1⟩ := open_int Tryz.underlying24 (hval 1 _ v1 rfl rfl) h1
  obtain ⟨x, wx, ex, a2⟩ := arg_fl (hval 2 _ v2 rfl rfl) h2
  have k3 := h3
  obtain ⟨n, rfl, rfl, rfl, w3⟩ := open_int Tryz.underlying3 (hval 3 _ v3 rfl rfl) h3
  clear hA0 hval0
  refine (law_calls (vals := [v0, .int .i64 r, v2, .int .i64 n]) (ProductPowers_does (f := f) (p := fp) (r := r) (n := n) wx ex) Tryz.func9 rfl rfl (of_laid hL) (.cons a0 (.cons rfl (.cons a2 (.cons rfl .nil))))).mono fun e W' ⟨he, bel⟩ => ?_
  subst he
  exact ⟨_, rfl, _, _, _, [], _, [], hW', trodAll_mk1 (shut_bool Tryz.underlying4 _), (trodAll_cons_mk (Below.trod laidOut (by kernel_rfl) (of_decide_eq_true (by kernel_rfl)) h0 bel lt0) (trodAll_cons_mk (Below.trod laidOut (by kernel_rfl) (of_decide_eq_true (by kernel_rfl)) k1 bel lt1) (trodAll_cons_mk (Below.trod laidOut (by kernel_rfl) (of_decide_eq_true (by kernel_rfl)) h2 bel lt2) (trodAll_mk1 (Below.trod laidOut (by kernel_rfl) (of_decide_eq_true (by kernel_rfl)) k3 bel lt3))))), rfl, bel.frame _, fun h => by cases h⟩
theorem over : Rows.productPowersRow.holds Tryz.pinned (OpenSpec.ofChange Rows.productPowersSpec) :=
  OpenClaim.holds_of_wide 9 Tryz.f9 rfl rfl rfl rfl rfl rfl rfl ⟨rfl, rfl, rfl, rfl, rfl⟩ rfl rfl rfl rfl rfl (by kernel_rfl) Tryz.func9 (by kernel_rfl)
    (of_decide_eq_true (by kernel_rfl)) (by unfold Func.isWrapper; first | (rw [if_pos (by decide +kernel)]; kernel_rfl) | (rw [if_neg (by decide +kernel)]; exact ⟨rfl, rfl⟩))
    (fun os started H enc _ => lifted os started H enc)
end productPowers
end Go.Proofs.YthpkhmbjmnhmoaaGreatDoor
/- The law ProductPowers holds, for every input: a power of a float of up to 40 words, rounded once, and its flags are the document's, or the error is. Conditions: the two listed package variables hold what the program's text lays (tied by the card). -/
namespace Go.Proofs.YthpkhmbjmnhmoaaGreatDoor
set_option linter.unusedVariables false
set_option linter.unusedSimpArgs false
open Go
theorem productPowers_holds : Rows.ProductPowersCardSaid :=
  Claim7.holds_tied_plain_at .later [] [.data, .funcs] true Rows.productPowersCard.stood.harness false
    productPowers.over (fun _ h => by cases h) (by kernel_rfl) (fun _ h => by cases h) productPowers_row_tie rfl ⟨rfl, rfl⟩ (by kernel_rfl) rfl
    (fun f fn hf hfn => by
      obtain rfl : f = 9 := Option.some.inj ((show Tryz.prog.funcNamed "reckoner/reckonerlaw18.ProductPowers" = some 9 by kernel_rfl).symm.trans hf) |>.symm
      obtain rfl : fn = Tryz.f9 := (Option.some.inj (Tryz.func9.symm.trans hfn)).symm
      exact ⟨by kernel_rfl, fun j t ht => by
        have hm : t ∈ Tryz.f9.params.toList := by simpa using Array.mem_of_getElem? ht
        have hall : (Tryz.f9.params.toList.all fun u => !Tryz.prog.wantsStandIn u) = true := by kernel_rfl
        exact (show Tryz.prog.wantsStandIn t = false by simpa using List.all_eq_true.1 hall t hm)⟩)
    (by kernel_rfl)
#print axioms productPowers_holds
end Go.Proofs.YthpkhmbjmnhmoaaGreatDoor
