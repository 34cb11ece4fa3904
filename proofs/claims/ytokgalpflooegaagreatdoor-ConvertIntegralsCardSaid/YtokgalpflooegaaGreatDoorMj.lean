/- The greatest float, what is beyond it. No condition. The reference's rounding is the program's. No condition. Canonical floats, counted. No condition. The exact sum of floats. No condition. The reference's sum is the program's. No condition. The reference's Total. No condition. What the laws of sums compare. No condition. The law SumTotals. No condition. The law SumAdds. No condition. The package variables of the program, as they are laid, and what a law's arguments are. No condition. Rounding to the nearest: how near, and when exactly. No condition. What a rounded sum drops is a float of the format. No condition. Functions whose one result is a row of the caller's. No condition. The reference's Rest: what sums leave, as a float. No condition. -/
import Derived.Test.YtokgalpflooegaaGreatDoorMi
import Derived.Test.YtokgalpflooegaaGreatDoorMf
import Derived.Test.YtokgalpflooegaaGreatDoorMh
import Derived.Test.YtokgalpflooegaaGreatDoorRows
import Derived.LaidMore
import Derived.LaidHandle
import Derived.Stop.Joined
import Derived.Carry
import Derived.OpenShut
import Derived.Test.YtokgalpflooegaaGreatDoorMd
/- The greatest float, what is beyond it. No condition. -/
namespace Go.Proofs.YtokgalpflooegaaGreatDoor
set_option linter.unusedVariables false
set_option linter.unusedSimpArgs false
variable {G : Gl}
set_option maxHeartbeats 4000000
set_option maxRecDepth 10000
/-- A float whose words are its own. -/
abbrev Flt.pw (x : Flt) : PV := .a [.i .i64 x.k, .b x.n, .i .i64 x.e, .w true (nat x.v)]
theorem PLe.flw {k : Int} {n : Bool} {e : Int} {c : Ce} {m : List Nat} (h : PLe (.c c) (.c (.w true m))) : PLe (.a [.i .i64 k, .b n, .i .i64 e, c]) (.a [.i .i64 k, .b n, .i .i64 e, .w true m]) :=
  PLe.agg (.cons (PLe.refl _) (.cons (PLe.refl _) (.cons (PLe.refl _) (.cons h .nil))))
theorem Flt.pw_le (x : Flt) : PLe x.pw x.pv := PLe.flt (PLe.ext (.c (.w true _)))
theorem ret_zw {n : Nat} (h : n = 0) : PLe (.c .z) (.c (.w true (nat n))) := by subst h; rw [nat_zero]; exact PLe.z true
theorem ret_w1 {k : Int} {n : Bool} {e : Int} {c : Ce} {x : Flt} (h : PLe (.c c) (.c (.w true (nat x.v)))) (h1 : (k, n, e) = (x.k, x.n, x.e)) : TLe (tvOf [.a [.i .i64 k, .b n, .i .i64 e, c]]) (.v x.pw) := by
  simp only [Prod.mk.injEq] at h1
  obtain ⟨rfl, rfl, rfl⟩ := h1
  exact TLe.v (PLe.flw h)
theorem Does.mono {P : Program} {G : Gl} {f : FuncId} {args : List PV} {ret ret' : TV} (h : Does P G f args ret) (hle : TLe ret ret') : Does P G f args ret' := by
  intro W ok vals hok hgl hargs
  rcases h W ok vals hok hgl hargs with ⟨h1, h2⟩ | ⟨v, h1, h2⟩
  · exact .inl ⟨h1, h2.mono fun e W' ⟨v, q1, q2, q3⟩ => ⟨v, q1, q2, hle _ _ q3⟩⟩
  · exact .inr ⟨v, h1, hle _ _ h2⟩
theorem Canonical_new {k e : Int} {n : Bool} {m : List Nat} (hm : m.length ≤ 1073741824) (wm : Ws m) (he : Md e) : Does Tryz.prog G 53 [Fl k n e m] (.v (rcanon ⟨k, n, e, val m⟩).pw) := by
  have ho : Does Tryz.prog G 100 [Fl k n e m] (.t [Wn (nat (val m / 2 ^ tz (val m))), .c (.i .i64 (e + tz (val m)))]) := odd_does hm wm he
  refine Does.of (nt := 23) Tryz.func53 rfl rfl rfl (by simp) ?_
  simp only [argTm, PV.ext, Ce.ext]
  refine Do.seqk fun _ k1_ => ?_
  refine Do.region [1,2] true ?_
  simp [go_sem]
  apply k1_; clear k1_
  refine Do.seqk fun _ k2_ => ?_
  refine Do.seqk fun _ k3_ => ?_
  refine Do.region [1,2,7] true ?_
  simp [go_sem]
  repeat (refine And.intro (by first | omega | (intros; omega) | (intros; exact And.intro (by assumption) (by omega)) | grind) ?_)
  apply k3_; clear k3_
  refine Do.cond [1,2] rfl (fun h => ?_) (fun h => ?_) <;> simp [go_sem] at h ⊢
  · refine Do.seqk fun _ k4_ => ?_
    refine Do.region [2] true ?_
    simp [go_sem]
    repeat (refine And.intro (by first | omega | (intros; omega) | (intros; exact And.intro (by assumption) (by omega)) | grind) ?_)
    apply k4_; clear k4_
    refine Do.ret ?_
    simp [endQ, rets, ret1, go_sem]
    repeat (refine And.intro (by first | omega | (intros; omega) | (intros; exact And.intro (by assumption) (by omega)) | grind) ?_)
    rw [rcanon, if_neg h]
    exact ret_w1 (ret_zw rfl) rfl
  · refine Do.skip ?_
    simp [go_sem]
    apply k2_; clear k2_
    refine Do.seqk fun _ k5_ => ?_
    refine Do.region [1,2,3,4] true ?_
    simp [go_sem]
    repeat (refine And.intro (by first | omega | (intros; omega) | (intros; exact And.intro (by assumption) (by omega)) | grind) ?_)
    refine DoL.call true 302 rfl rfl rfl rfl (by first | exact trivial | omega | (simp; done) | (simp; omega)) (ho) rfl (by first | exact .inl rfl | exact .inr rfl) rfl ?_
    simp [go_sem]
    apply k5_; clear k5_
    refine Do.seqk fun _ k6_ => ?_
    refine Do.region [2] true ?_
    simp [go_sem]
    repeat (refine And.intro (by first | omega | (intros; omega) | (intros; exact And.intro (by assumption) (by omega)) | grind) ?_)
    apply k6_; clear k6_
    refine Do.ret ?_
    simp [endQ, rets, ret1, go_sem]
    repeat (refine And.intro (by first | omega | (intros; omega) | (intros; exact And.intro (by assumption) (by omega)) | grind) ?_)
    rw [rcanon, if_pos h]
    exact TLe.refl _
theorem Top_does {f p : Int} (hf : fmOk f p = true) : Does Tryz.prog G 71 [Fm f p] (.v (Flt.pw ⟨1, false, gOfE f - p + 1, 2 ^ p.toNat - 1⟩)) := by
  obtain ⟨b1, b2, b3, b4⟩ := fmOk_spec hf
  obtain ⟨b5, b6⟩ := gOfE_le b1 b2
  have hG := @RGreatest_does G f p hf
  obtain ⟨P, rfl⟩ : ∃ P : Nat, p = P := ⟨p.toNat, by omega⟩
  rw [Int.toNat_natCast]
  have hW := @RWord_does G 1 (by decide)
  have h1 := @RLeft_does G (nat 1) P (by rw [nat_one]; decide) (nat_ws _) (by omega)
  rw [val_nat, Nat.one_mul] at h1
  have hp : 1 ≤ 2 ^ P := Nat.pow_pos (by decide)
  have hl : (nat (2 ^ P)).length ≤ 257 := nat_len_of (by have : bl (2 ^ P) ≤ P + 1 := (bl_lt _ _).2 (Nat.pow_lt_pow_right (by decide) (by omega)); omega)
  have h2 := @RSub_does G (nat (2 ^ P)) (nat 1) (by omega) (nat_ws _) (by rw [nat_one]; decide) (nat_ws _) (by rw [val_nat, val_nat]; exact hp)
  rw [val_nat, val_nat] at h2
  generalize 2 ^ P = Q at *
  generalize gOfE f = g at *
  refine Does.of (nt := 18) Tryz.func71 rfl rfl rfl (by simp) ?_
  simp only [argTm, PV.ext, Ce.ext]
  refine Do.seqk fun _ k1_ => ?_
  refine Do.region [1,2] true ?_
  simp [go_sem]
  apply k1_; clear k1_
  refine Do.seqk fun _ k2_ => ?_
  refine Do.region [1,2,3] true ?_
  simp [go_sem]
  refine DoL.call true 101 rfl rfl rfl rfl (by first | exact trivial | omega | (simp; done) | (simp; omega)) (hW) rfl (by first | exact .inl rfl | exact .inr rfl) rfl ?_
  simp [go_sem]
  apply k2_; clear k2_
  refine Do.seqk fun _ k3_ => ?_
  refine Do.draw [2] true (by kernel_rfl) ?_
  simp [go_sem]
  repeat (refine And.intro (by first | omega | (intros; omega) | (intros; exact And.intro (by assumption) (by omega)) | kernel_rfl | grind) ?_)
  refine DoLD.call true 202 rfl rfl rfl rfl (by first | exact trivial | omega | (simp; done) | (simp; omega)) (hG) rfl (by first | exact .inl rfl | exact .inr rfl) rfl ?_
  simp [go_sem]
  repeat (refine And.intro (by first | omega | (intros; omega) | (intros; exact And.intro (by assumption) (by omega)) | kernel_rfl | grind) ?_)
  refine DoLD.call true 210 rfl rfl rfl rfl (by first | exact trivial | omega | (simp; done) | (simp; omega)) (h1) rfl (by first | exact .inl rfl | exact .inr rfl) rfl ?_
  simp [go_sem]
  refine DoLD.call true 212 rfl rfl rfl rfl (by first | exact trivial | omega | (simp; done) | (simp; omega)) (h2) rfl (by first | exact .inl rfl | exact .inr rfl) rfl ?_
  simp [go_sem]
  repeat (refine And.intro (by first | omega | (intros; omega) | (intros; exact And.intro (by assumption) (by omega)) | kernel_rfl | grind) ?_)
  try (refine And.intro (by kernel_rfl) ?_)
  apply k3_; clear k3_
  refine Do.ret ?_
  simp [endQ, rets, ret1, go_sem]
  repeat (refine And.intro (by first | omega | (intros; omega) | (intros; exact And.intro (by assumption) (by omega)) | grind) ?_)
  exact TLe.refl _
/-- What is beyond the greatest float. -/
def beyP (f p r : Int) (n : Bool) : Flt := if grP r n then ⟨1, n, gOfE f - p + 1, 2 ^ p.toNat - 1⟩ else ⟨2, n, 0, 0⟩
theorem beyond_does {f p r : Int} {n : Bool} (hf : fmOk f p = true) : Does Tryz.prog G 114 [Fm f p, .c (.i .i64 r), .c (.b n)] (.v (beyP f p r n).pw) := by
  have hT := @Top_does G f p hf
  generalize hz : beyP f p r n = z at *
  unfold beyP grP at hz
  refine Does.of (nt := 32) Tryz.func114 rfl rfl rfl (by simp) ?_
  simp only [argTm, PV.ext, Ce.ext]
  refine Do.seqk fun _ k1_ => ?_
  refine Do.region [1,2,3,6] true ?_
  simp [go_sem]
  apply k1_; clear k1_
  refine Do.seqk fun _ k2_ => ?_
  refine Do.seqk fun _ k3_ => ?_
  refine Do.region [2,3,6,24] true ?_
  simp [go_sem]
  repeat (refine And.intro (by first | omega | (intros; omega) | (intros; exact And.intro (by assumption) (by omega)) | grind) ?_)
  apply k3_; clear k3_
  refine Do.cond [2,3,6] rfl (fun h => ?_) (fun h => ?_) <;> simp [go_sem] at h ⊢
  · refine Do.seqk fun _ k4_ => ?_
    refine Do.region [2,6,7] true ?_
    simp [go_sem]
    repeat (refine And.intro (by first | omega | (intros; omega) | (intros; exact And.intro (by assumption) (by omega)) | grind) ?_)
    refine DoL.call true 202 rfl rfl rfl rfl (by first | exact trivial | omega | (simp; done) | (simp; omega)) (hT) rfl (by first | exact .inl rfl | exact .inr rfl) rfl ?_
    simp [go_sem]
    repeat (refine And.intro (by first | omega | (intros; omega) | (intros; exact And.intro (by assumption) (by omega)) | grind) ?_)
    apply k4_; clear k4_
    refine Do.seqk fun _ k5_ => ?_
    refine Do.region [6,7] true ?_
    simp [go_sem]
    repeat (refine And.intro (by first | omega | (intros; omega) | (intros; exact And.intro (by assumption) (by omega)) | grind) ?_)
    apply k5_; clear k5_
    refine Do.seqk fun _ k6_ => ?_
    refine Do.region [6] true ?_
    simp [go_sem]
    repeat (refine And.intro (by first | omega | (intros; omega) | (intros; exact And.intro (by assumption) (by omega)) | grind) ?_)
    apply k6_; clear k6_
    refine Do.ret ?_
    simp [endQ, rets, ret1, go_sem]
    repeat (refine And.intro (by first | omega | (intros; omega) | (intros; exact And.intro (by assumption) (by omega)) | grind) ?_)
    rw [← hz, if_pos (by simpa using h)]
    exact TLe.refl _
  · refine Do.skip ?_
    simp [go_sem]
    apply k2_; clear k2_
    refine Do.seqk fun _ k7_ => ?_
    refine Do.region [6] true ?_
    simp [go_sem]
    repeat (refine And.intro (by first | omega | (intros; omega) | (intros; exact And.intro (by assumption) (by omega)) | grind) ?_)
    apply k7_; clear k7_
    refine Do.ret ?_
    simp [endQ, rets, ret1, go_sem]
    repeat (refine And.intro (by first | omega | (intros; omega) | (intros; exact And.intro (by assumption) (by omega)) | grind) ?_)
    rw [← hz, if_neg (by simpa using h)]
    exact TLe.v (PLe.flw (ret_zw rfl))
end Go.Proofs.YtokgalpflooegaaGreatDoor
/- The reference's rounding is the program's. No condition. -/
namespace Go.Proofs.YtokgalpflooegaaGreatDoor
set_option linter.unusedVariables false
set_option linter.unusedSimpArgs false
variable {G : Gl}
set_option maxHeartbeats 4000000
set_option maxRecDepth 10000
theorem bl_div (v k : Nat) : bl (v / 2 ^ k) = bl v - k := by
  have h : ∀ j, j < bl (v / 2 ^ k) ↔ j + k < bl v := fun j => by
    rw [bl_le, bl_le, Nat.le_div_iff_mul_le (Nat.pow_pos (by decide)), ← Nat.pow_add]
  apply Nat.le_antisymm
  · apply Nat.le_of_not_lt
    intro hl
    have := (h (bl v - k)).1 hl
    omega
  · apply Nat.le_of_not_lt
    intro hl
    have := (h (bl (v / 2 ^ k))).2 (by omega)
    omega
theorem cutP_len {v : Nat} (hv : 0 < v) {s : Int} (h : s ≤ bl v) {st : Bool} : (bl (cutP v s st).1 : Int) = bl v - s := by
  unfold cutP
  split
  · simp only []
    rw [bl_mul_pow _ _ hv]; omega
  · simp only []
    rw [bl_div]; omega
theorem upP_ge (r : Int) (n : Bool) (q : Nat) (x : Int) : q ≤ upP r n q x := by unfold upP; split <;> omega
theorem roundP_len {f p r : Int} (hf : fmOk f p = true) {n : Bool} {v : Nat} {e : Int} (hv : 0 < v) (h : 1 - gOfE f ≤ e + bl v - 1) : p ≤ bl (upP r n (cutP v (stepP f p (e + bl v - 1) - e) false).1 (cutP v (stepP f p (e + bl v - 1) - e) false).2) := by
  obtain ⟨b1, b2, b3, b4⟩ := fmOk_spec hf
  have hu : stepP f p (e + bl v - 1) = e + bl v - 1 - p + 1 := by unfold stepP; rw [if_neg (by omega)]
  have h1 := @cutP_len v hv (stepP f p (e + bl v - 1) - e) (by omega) false
  have h2 := bl_mono (upP_ge r n (cutP v (stepP f p (e + bl v - 1) - e) false).1 (cutP v (stepP f p (e + bl v - 1) - e) false).2)
  omega
/-- Too great at once. -/
theorem roundP_over {f p r : Int} (hf : fmOk f p = true) {n : Bool} {v : Nat} {e : Int} (hv : 0 < v) (h : gOfE f < e + bl v - 1) : roundP f p r n v e false = (beyP f p r n, 5) := by
  obtain ⟨b1, b2, b3, b4⟩ := fmOk_spec hf
  obtain ⟨b5, b6⟩ := gOfE_le b1 b2
  have h1 := @roundP_len f p r hf n v e hv (by omega)
  have hu : stepP f p (e + bl v - 1) = e + bl v - 1 - p + 1 := by unfold stepP; rw [if_neg (by omega)]
  unfold roundP beyP
  simp only []
  rw [if_pos (by omega)]
theorem cutP_zero {v : Nat} {s : Int} (hv : 0 < v) (h : (cutP v s false).1 = 0) : (cutP v s false).2 ≠ 0 := by
  unfold cutP at h ⊢
  split at h
  · simp only [] at h
    have := Nat.pow_pos (n := (-s).toNat) (show 0 < 2 by decide)
    have := Nat.mul_pos hv this
    omega
  · rename_i hs
    rw [if_neg hs]
    simp only [] at h ⊢
    have e1 : s.toNat = (s - 1).toNat + 1 := by omega
    rw [e1, Nat.pow_succ] at h
    have hlt : v < 2 ^ (s - 1).toNat * 2 := by
      rcases Nat.div_eq_zero_iff.1 h with h | h
      · have := Nat.pow_pos (n := (s - 1).toNat) (show 0 < 2 by decide); omega
      · exact h
    split
    · split <;> decide
    · rename_i h2
      have h3 : v / 2 ^ (s - 1).toNat < 2 := by
        rw [Nat.div_lt_iff_lt_mul (Nat.pow_pos (by decide)), Nat.mul_comm]; exact hlt
      have h4 : v / 2 ^ (s - 1).toNat = 0 := by
        generalize v / 2 ^ (s - 1).toNat = w at h2 h3 ⊢
        omega
      have h5 : v < 2 ^ (s - 1).toNat := by
        rcases Nat.div_eq_zero_iff.1 h4 with h | h
        · have := Nat.pow_pos (n := (s - 1).toNat) (show 0 < 2 by decide); omega
        · exact h
      rw [Nat.mod_eq_of_lt h5]
      simp; omega
theorem Steps_does {n : Bool} {v : Nat} {e s : Int} (hb : bl v ≤ 8388608) (he : -8388608 ≤ e ∧ e ≤ 8388608) (hs : -8388600 ≤ s ∧ s ≤ 8388600) : ∃ h t, Does Tryz.prog G 73 [Rl n v e, .c (.i .i64 s)] (.v (Pt (cutP v (s - e) false).1 h t)) ∧ pcode h t = (cutP v (s - e) false).2 := by
  by_cases ha : 0 ≤ e - (s - 1)
  · obtain ⟨k, hk⟩ : ∃ k : Nat, e - (s - 1) = k := ⟨(e - (s - 1)).toNat, by omega⟩
    have hS := @Steps_up G n v e s k hk (by omega) (by omega) (by constructor <;> omega) (by constructor <;> omega)
    refine ⟨decide (v * 2 ^ k % 2 = 1), false, ?_, ?_⟩
    · suffices h : (cutP v (s - e) false).1 = v * 2 ^ k / 2 by rw [h]; exact hS
      unfold cutP
      split
      · rename_i h
        simp only []
        rw [show k = (-(s - e)).toNat + 1 by omega, Nat.pow_succ, ← Nat.mul_assoc, Nat.mul_div_cancel _ (by decide)]
      · rename_i h
        simp only []
        obtain rfl : k = 0 := by omega
        rw [show (s - e).toNat = 1 by omega]; simp
    · unfold cutP
      split
      · rename_i h
        rw [show k = (-(s - e)).toNat + 1 by omega, Nat.pow_succ, ← Nat.mul_assoc, Nat.mul_mod_left]
        rfl
      · rename_i h
        obtain rfl : k = 0 := by omega
        rw [show (s - e - 1).toNat = 0 by omega]
        simp [Nat.mod_one, pcode]
  · obtain ⟨k, hk⟩ : ∃ k : Nat, e - (s - 1) = -(k : Int) := ⟨(-(e - (s - 1))).toNat, by omega⟩
    have hS := @Steps_down G n v e s k hk (by omega) (by omega) (by omega) (by constructor <;> omega) (by constructor <;> omega)
    refine ⟨decide (v / 2 ^ k % 2 = 1), !decide (v % 2 ^ k = 0), ?_, ?_⟩
    · suffices h : (cutP v (s - e) false).1 = v / 2 ^ k / 2 by rw [h]; exact hS
      unfold cutP
      rw [if_neg (by omega)]
      simp only []
      rw [show (s - e).toNat = k + 1 by omega, Nat.pow_succ, Nat.div_div_eq_div_mul]
    · unfold cutP
      rw [if_neg (by omega), show (s - e - 1).toNat = k by omega]
      simp only [Bool.false_or]
      cases hd : decide (v % 2 ^ k = 0) <;> by_cases hq : v / 2 ^ k % 2 = 1 <;> simp [pcode, hq]
theorem Round_new {f p r : Int} (hf : fmOk f p = true) (hr : 0 ≤ r) (hr' : r ≤ 4) {n : Bool} {v : Nat} {e : Int} (hv : 0 < v) (hb : bl v ≤ 4194304) (he : -4194304 ≤ e ∧ e ≤ 4194304) : Does Tryz.prog G 54 [Fm f p, .c (.i .i64 r), Rl n v e] (.t [(roundP f p r n v e false).1.pw, .c (.i .i64 (roundP f p r n v e false).2)]) := by
  obtain ⟨b1, b2, b3, b4⟩ := fmOk_spec hf
  obtain ⟨b5, b6⟩ := gOfE_le b1 b2
  have hE := @Exponent_does G n v e hv (by omega) (by constructor <;> omega)
  rw [show (bl v : Int) - 1 + e = e + bl v - 1 by omega] at hE
  have hG := @RGreatest_does G f p hf
  have hL := @RLeast_does G f p hf
  have hB := @beyond_does G f p r n hf
  have ho := @roundP_over f p r hf n v e hv
  by_cases h : gOfE f < e + bl v - 1
  · rw [ho h]
    generalize beyP f p r n = y at *
    generalize e + (bl v : Int) - 1 = E at *
    generalize gOfE f = g at *
    refine Does.of (nt := 78) Tryz.func54 rfl rfl rfl (by simp) ?_
    simp only [argTm, PV.ext, Ce.ext]
    refine Do.seqk fun _ k1_ => ?_
    refine Do.region [1,3,5,6] true ?_
    simp [go_sem, h]
    apply k1_; clear k1_
    refine Do.seqk fun _ k2_ => ?_
    refine Do.region [1,3,5,6,8] true ?_
    simp [go_sem, h]
    repeat (refine And.intro (by first | omega | (intros; omega) | (intros; exact And.intro (by assumption) (by omega)) | grind) ?_)
    refine DoL.call true 102 rfl rfl rfl rfl (by first | exact trivial | omega | (simp; done) | (simp; omega)) (hE) rfl (by first | exact .inl rfl | exact .inr rfl) rfl ?_
    simp [go_sem, h]
    apply k2_; clear k2_
    refine Do.seqk fun _ k3_ => ?_
    refine Do.seqk fun _ k4_ => ?_
    refine Do.region [1,3,5,6,8,18] true ?_
    simp [go_sem, h]
    repeat (refine And.intro (by first | omega | (intros; omega) | (intros; exact And.intro (by assumption) (by omega)) | grind) ?_)
    refine DoL.call true 203 rfl rfl rfl rfl (by first | exact trivial | omega | (simp; done) | (simp; omega)) (hG) rfl (by first | exact .inl rfl | exact .inr rfl) rfl ?_
    simp [go_sem, h]
    apply k4_; clear k4_
    refine Do.cond [1,3,5,6,8] rfl (fun h1 => ?_) (fun h1 => ?_) <;> simp [go_sem, h] at h1 ⊢
    refine Do.seqk fun _ k5_ => ?_
    refine Do.region [6,7] true ?_
    simp [go_sem, h]
    repeat (refine And.intro (by first | omega | (intros; omega) | (intros; exact And.intro (by assumption) (by omega)) | grind) ?_)
    refine DoL.call true 305 rfl rfl rfl rfl (by first | exact trivial | omega | (simp; done) | (simp; omega)) (hB) rfl (by first | exact .inl rfl | exact .inr rfl) rfl ?_
    simp [go_sem, h]
    repeat (refine And.intro (by first | omega | (intros; omega) | (intros; exact And.intro (by assumption) (by omega)) | grind) ?_)
    apply k5_; clear k5_
    refine Do.ret ?_
    simp [endQ, rets, ret1, go_sem, h]
    repeat (refine And.intro (by first | omega | (intros; omega) | (intros; exact And.intro (by assumption) (by omega)) | grind) ?_)
    exact TLe.refl _
  · have hu : -100000 ≤ stepP f p (e + bl v - 1) ∧ stepP f p (e + bl v - 1) ≤ 5000000 := by unfold stepP; split <;> omega
    have hlen := @roundP_len f p r hf n v e hv
    have hcz := @cutP_zero v (stepP f p (e + bl v - 1) - e) hv
    obtain ⟨hh, tt, hS, hcode⟩ := @Steps_does G n v e (stepP f p (e + bl v - 1)) (by omega) (by constructor <;> omega) (by constructor <;> omega)
    have hcl := cutP_bl v (stepP f p (e + bl v - 1) - e) false
    have hR := @Rounded_does G r hr hr' n hh tt (cutP v (stepP f p (e + bl v - 1) - e) false).1 (by omega)
    have hge := upP_ge r n (cutP v (stepP f p (e + bl v - 1) - e) false).1 (cutP v (stepP f p (e + bl v - 1) - e) false).2
    have hql := upP_bl r n (cutP v (stepP f p (e + bl v - 1) - e) false).1 (cutP v (stepP f p (e + bl v - 1) - e) false).2
    have hstep : stepP f p (e + bl v - 1) = (if e + bl v - 1 < 1 - gOfE f then 1 - gOfE f else e + bl v - 1) - p + 1 := by unfold stepP; split <;> omega
    rw [hcode] at hR
    generalize hz : roundP f p r n v e false = z
    unfold roundP at hz
    simp only [] at hz
    generalize stepP f p (e + bl v - 1) = u at *
    generalize hq : upP r n (cutP v (u - e) false).1 (cutP v (u - e) false).2 = q at *
    have hqn : (nat q).length ≤ 16777216 := nat_len_of (by omega)
    have hQ := @RLen_does G (nat q) (by omega) (nat_ws _)
    have hZ := @IsZero_does G (nat q) (by omega) (nat_ws _)
    have hC := @Canonical_new G 1 u n (nat q) (by omega) (nat_ws _) (by constructor <;> omega)
    rw [val_nat] at hQ hZ hC
    generalize cutP v (u - e) false = c at *
    have hbey : beyP f p r n = if grP r n then ⟨1, n, gOfE f - p + 1, 2 ^ p.toNat - 1⟩ else ⟨2, n, 0, 0⟩ := rfl
    generalize e + (bl v : Int) - 1 = E at *
    generalize gOfE f = g at *
    generalize beyP f p r n = y at *
    refine Does.of (nt := 78) Tryz.func54 rfl rfl rfl (by simp) ?_
    simp only [argTm, PV.ext, Ce.ext]
    refine Do.seqk fun _ k1_ => ?_
    refine Do.region [1,3,5,6] true ?_
    simp [go_sem, h]
    apply k1_; clear k1_
    refine Do.seqk fun _ k2_ => ?_
    refine Do.region [1,3,5,6,8] true ?_
    simp [go_sem, h]
    repeat (refine And.intro (by first | omega | (intros; omega) | (intros; exact And.intro (by assumption) (by omega)) | grind) ?_)
    refine DoL.call true 102 rfl rfl rfl rfl (by first | exact trivial | omega | (simp; done) | (simp; omega)) (hE) rfl (by first | exact .inl rfl | exact .inr rfl) rfl ?_
    simp [go_sem, h]
    apply k2_; clear k2_
    refine Do.seqk fun _ k3_ => ?_
    refine Do.seqk fun _ k4_ => ?_
    refine Do.region [1,3,5,6,8,18] true ?_
    simp [go_sem, h]
    repeat (refine And.intro (by first | omega | (intros; omega) | (intros; exact And.intro (by assumption) (by omega)) | grind) ?_)
    refine DoL.call true 203 rfl rfl rfl rfl (by first | exact trivial | omega | (simp; done) | (simp; omega)) (hG) rfl (by first | exact .inl rfl | exact .inr rfl) rfl ?_
    simp [go_sem, h]
    apply k4_; clear k4_
    refine Do.cond [1,3,5,6,8] rfl (fun h1 => ?_) (fun h1 => ?_) <;> simp [go_sem, h] at h1 ⊢
    refine Do.skip ?_
    simp [go_sem]
    apply k3_; clear k3_
    refine Do.seqk fun _ k5_ => ?_
    refine Do.draw [1,3,5,6,8,9] true (by kernel_rfl) ?_
    simp [go_sem, h]
    repeat (refine And.intro (by first | omega | (intros; omega) | (intros; exact And.intro (by assumption) (by omega)) | kernel_rfl | grind) ?_)
    refine DoLD.call true 403 rfl rfl rfl rfl (by first | exact trivial | omega | (simp; done) | (simp; omega)) (hL) rfl (by first | exact .inl rfl | exact .inr rfl) rfl ?_
    simp [go_sem, h]
    repeat (refine And.intro (by first | omega | (intros; omega) | (intros; exact And.intro (by assumption) (by omega)) | kernel_rfl | grind) ?_)
    rw [← hstep]
    try (refine And.intro (by kernel_rfl) ?_)
    apply k5_; clear k5_
    refine Do.seqk fun _ k6_ => ?_
    refine Do.draw [1,3,5,6,8,9,10,11] true (by kernel_rfl) ?_
    simp [go_sem, h]
    repeat (refine And.intro (by first | omega | (intros; omega) | (intros; exact And.intro (by assumption) (by omega)) | kernel_rfl | grind) ?_)
    refine DoLD.call true 506 rfl rfl rfl rfl (by first | exact trivial | omega | (simp; done) | (simp; omega)) (hS) rfl (by first | exact .inl rfl | exact .inr rfl) rfl ?_
    simp [go_sem, h]
    refine DoLD.call true 507 rfl rfl rfl rfl (by first | exact trivial | omega | (simp; done) | (simp; omega)) (hR) rfl (by first | exact .inl rfl | exact .inr rfl) rfl ?_
    simp [go_sem, h]
    try (refine And.intro (by kernel_rfl) ?_)
    apply k6_; clear k6_
    refine Do.seqk fun _ k7_ => ?_
    refine Do.block ?_
    refine Do.seqk fun _ k8_ => ?_
    refine Do.draw [1,3,5,6,8,9,10,11,42] true (by kernel_rfl) ?_
    simp [go_sem, h]
    refine DoLD.call true 602 rfl rfl rfl rfl (by first | exact trivial | omega | (simp; done) | (simp; omega)) (hQ) rfl (by first | exact .inl rfl | exact .inr rfl) rfl ?_
    simp [go_sem, h]
    repeat (refine And.intro (by first | omega | (intros; omega) | (intros; exact And.intro (by assumption) (by omega)) | kernel_rfl | grind) ?_)
    refine DoLD.call true 606 rfl rfl rfl rfl (by first | exact trivial | omega | (simp; done) | (simp; omega)) (hG) rfl (by first | exact .inl rfl | exact .inr rfl) rfl ?_
    simp [go_sem, h]
    repeat (refine And.intro (by first | omega | (intros; omega) | (intros; exact And.intro (by assumption) (by omega)) | kernel_rfl | grind) ?_)
    try (refine And.intro (by kernel_rfl) ?_)
    apply k8_; clear k8_
    refine Do.cond [1,3,5,6,8,9,10,11] rfl (fun h2 => ?_) (fun h2 => ?_) <;> simp [go_sem, h] at h2 ⊢
    · refine Do.seqk fun _ k9_ => ?_
      refine Do.region [6,7] true ?_
      simp [go_sem, h]
      repeat (refine And.intro (by first | omega | (intros; omega) | (intros; exact And.intro (by assumption) (by omega)) | grind) ?_)
      refine DoL.call true 705 rfl rfl rfl rfl (by first | exact trivial | omega | (simp; done) | (simp; omega)) (hB) rfl (by first | exact .inl rfl | exact .inr rfl) rfl ?_
      simp [go_sem, h]
      repeat (refine And.intro (by first | omega | (intros; omega) | (intros; exact And.intro (by assumption) (by omega)) | grind) ?_)
      apply k9_; clear k9_
      refine Do.ret ?_
      simp [endQ, rets, ret1, go_sem, h]
      repeat (refine And.intro (by first | omega | (intros; omega) | (intros; exact And.intro (by assumption) (by omega)) | grind) ?_)
      rw [← hz, if_pos (by omega), ← hbey]
      exact TLe.refl _
    · refine Do.seqk fun _ k10_ => ?_
      refine Do.region [3,5,6,8,9,10,11,56] true ?_
      simp [go_sem, h]
      refine DoL.call true 802 rfl rfl rfl rfl (by first | exact trivial | omega | (simp; done) | (simp; omega)) (hZ) rfl (by first | exact .inl rfl | exact .inr rfl) rfl ?_
      simp [go_sem, h]
      apply k10_; clear k10_
      refine Do.cond [3,5,6,8,9,10,11] rfl (fun h3 => ?_) (fun h3 => ?_) <;> simp [go_sem, h] at h3 ⊢
      · refine Do.seqk fun _ k11_ => ?_
        refine Do.region [6,7] true ?_
        simp [go_sem, h]
        repeat (refine And.intro (by first | omega | (intros; omega) | (intros; exact And.intro (by assumption) (by omega)) | grind) ?_)
        apply k11_; clear k11_
        refine Do.ret ?_
        simp [endQ, rets, ret1, go_sem, h]
        repeat (refine And.intro (by first | omega | (intros; omega) | (intros; exact And.intro (by assumption) (by omega)) | grind) ?_)
        have hE0 : E < 1 - g := by
          apply Classical.byContradiction
          intro hn
          have := hlen (by omega)
          rw [h3, bl_zero] at this
          omega
        rw [← hz, if_neg (by omega), if_neg (hcz (by omega)), if_pos hE0, h3, mkP, if_pos rfl]
        exact TLe.t (.cons (PLe.flw (ret_zw rfl)) (.cons (PLe.refl _) .nil))
      · have hrc : rcanon ⟨1, n, u, q⟩ = mkP n q u := by simp [rcanon, mkP, h3]
        rw [hrc] at hC
        rw [if_neg (show ¬ g < u + bl q - 1 by omega)] at hz
        refine Do.skip ?_
        simp [go_sem]
        apply k7_; clear k7_
        refine Do.seqk fun _ k12_ => ?_
        refine Do.region [3,6,8,11,12] true ?_
        simp [go_sem, h]
        repeat (refine And.intro (by first | omega | (intros; omega) | (intros; exact And.intro (by assumption) (by omega)) | grind) ?_)
        refine DoL.call true 1006 rfl rfl rfl rfl (by first | exact trivial | omega | (simp; done) | (simp; omega)) (hC) rfl (by first | exact .inl rfl | exact .inr rfl) rfl ?_
        simp [go_sem, h]
        repeat (refine And.intro (by first | omega | (intros; omega) | (intros; exact And.intro (by assumption) (by omega)) | grind) ?_)
        apply k12_; clear k12_
        refine Do.seqk fun _ k13_ => ?_
        refine Do.block ?_
        refine Do.seqk fun _ k14_ => ?_
        refine Do.region [3,6,8,12,68] true ?_
        simp [go_sem, h]
        apply k14_; clear k14_
        refine Do.cond [3,6,8,12] rfl (fun h4 => ?_) (fun h4 => ?_) <;> simp [go_sem, h] at h4 ⊢
        · refine Do.seqk fun _ k15_ => ?_
          refine Do.region [6,7] true ?_
          simp [go_sem, h]
          repeat (refine And.intro (by first | omega | (intros; omega) | (intros; exact And.intro (by assumption) (by omega)) | grind) ?_)
          apply k15_; clear k15_
          refine Do.ret ?_
          simp [endQ, rets, ret1, go_sem, h]
          repeat (refine And.intro (by first | omega | (intros; omega) | (intros; exact And.intro (by assumption) (by omega)) | grind) ?_)
          rw [← hz, if_pos h4]
          exact TLe.refl _
        · refine Do.seqk fun _ k16_ => ?_
          refine Do.region [6,12,71] true ?_
          simp [go_sem, h]
          repeat (refine And.intro (by first | omega | (intros; omega) | (intros; exact And.intro (by assumption) (by omega)) | grind) ?_)
          refine DoL.call true 1303 rfl rfl rfl rfl (by first | exact trivial | omega | (simp; done) | (simp; omega)) (hL) rfl (by first | exact .inl rfl | exact .inr rfl) rfl ?_
          simp [go_sem, h]
          apply k16_; clear k16_
          refine Do.cond [6,12] rfl (fun h5 => ?_) (fun h5 => ?_) <;> simp [go_sem, h] at h5 ⊢
          · refine Do.seqk fun _ k17_ => ?_
            refine Do.region [6,7] true ?_
            simp [go_sem, h]
            repeat (refine And.intro (by first | omega | (intros; omega) | (intros; exact And.intro (by assumption) (by omega)) | grind) ?_)
            apply k17_; clear k17_
            refine Do.ret ?_
            simp [endQ, rets, ret1, go_sem, h]
            repeat (refine And.intro (by first | omega | (intros; omega) | (intros; exact And.intro (by assumption) (by omega)) | grind) ?_)
            rw [← hz, if_neg h4, if_pos h5]
            exact TLe.refl _
          · refine Do.skip ?_
            simp [go_sem]
            apply k13_; clear k13_
            refine Do.seqk fun _ k18_ => ?_
            refine Do.region [6,7] true ?_
            simp [go_sem, h]
            repeat (refine And.intro (by first | omega | (intros; omega) | (intros; exact And.intro (by assumption) (by omega)) | grind) ?_)
            apply k18_; clear k18_
            refine Do.ret ?_
            simp [endQ, rets, ret1, go_sem, h]
            repeat (refine And.intro (by first | omega | (intros; omega) | (intros; exact And.intro (by assumption) (by omega)) | grind) ?_)
            rw [← hz, if_neg h4, if_neg (by omega)]
            exact TLe.refl _
theorem Round_does {f p r : Int} (hf : fmOk f p = true) (hr : 0 ≤ r) (hr' : r ≤ 4) {n : Bool} {v : Nat} {e : Int} (hv : 0 < v) (hb : bl v ≤ 4194304) (he : -4194304 ≤ e ∧ e ≤ 4194304) : Does Tryz.prog G 54 [Fm f p, .c (.i .i64 r), Rl n v e] (.t [(roundP f p r n v e false).1.pv, .c (.i .i64 (roundP f p r n v e false).2)]) :=
  (Round_new hf hr hr' hv hb he).mono (TLe.t (.cons (Flt.pw_le _) (.cons (PLe.refl _) .nil)))
end Go.Proofs.YtokgalpflooegaaGreatDoor
/- Canonical floats, counted. No condition. -/
namespace Go.Proofs.YtokgalpflooegaaGreatDoor
set_option linter.unusedVariables false
set_option linter.unusedSimpArgs false
variable {G : Gl}
set_option maxHeartbeats 4000000
set_option maxRecDepth 10000
/-- How many floats are of a kind and a sign. -/
def cnt (k : Int) (n : Bool) : List Flt → Nat
  | [] => 0
  | x :: l => (if x.k = k ∧ x.n = n then 1 else 0) + cnt k n l
theorem cnt_append (k : Int) (n : Bool) (l m : List Flt) : cnt k n (l ++ m) = cnt k n l + cnt k n m := by
  induction l with
  | nil => simp [cnt]
  | cons x l ih => simp only [List.cons_append, cnt, ih]; omega
theorem cnt_take {k : Int} {n : Bool} {l : List Flt} {i : Nat} {x : Flt} (h : l[i]? = some x) : cnt k n (l.take (i + 1)) = cnt k n (l.take i) + if x.k = k ∧ x.n = n then 1 else 0 := by
  rw [List.take_add_one, h, cnt_append]; simp [cnt]
theorem cnt_le (k : Int) (n : Bool) (l : List Flt) : cnt k n l ≤ l.length := by
  induction l with
  | nil => simp [cnt]
  | cons x l ih => simp only [cnt, List.length_cons]; split <;> omega
end Go.Proofs.YtokgalpflooegaaGreatDoor
/- The exact sum of floats. No condition. -/
namespace Go.Proofs.YtokgalpflooegaaGreatDoor
set_option linter.unusedVariables false
set_option linter.unusedSimpArgs false
variable {G : Gl}
set_option maxHeartbeats 4000000
set_option maxRecDepth 10000
/-- The least exponent so far, and whether there is one. -/
def lowStep (a : Int × Bool) (x : Flt) : Int × Bool := if x.k = 1 ∧ (a.2 = false ∨ x.e < a.1) then (x.e, true) else a
def lows (l : List Flt) : Int × Bool := l.foldl lowStep (0, false)
theorem lows_take {l : List Flt} {i : Nat} {x : Flt} (h : l[i]? = some x) : lows (l.take (i + 1)) = lowStep (lows (l.take i)) x := by
  unfold lows
  rw [List.take_add_one, h]; simp
theorem lows_le {l : List Flt} (i : Nat) : (∀ x ∈ l.take i, x.k = 1 → (lows (l.take i)).2 = true ∧ (lows (l.take i)).1 ≤ x.e) := by
  induction i with
  | zero => simp
  | succ i ih =>
    cases hx : l[i]? with
    | none =>
      have hl : l.length ≤ i := List.getElem?_eq_none_iff.1 hx
      rw [List.take_of_length_le (by omega)] at ih ⊢
      exact ih
    | some x =>
      rw [lows_take hx]
      intro y hy hk
      rw [List.take_add_one, hx] at hy
      simp only [Option.toList_some, List.mem_append, List.mem_singleton] at hy
      generalize lows (l.take i) = a at *
      unfold lowStep
      split
      · rename_i hc
        rcases hy with hy | rfl
        · have := ih y hy hk
          refine ⟨rfl, ?_⟩
          simp only []
          rcases hc.2 with h | h
          · rw [this.1] at h; cases h
          · omega
        · exact ⟨rfl, Int.le_refl _⟩
      · rename_i hc
        rcases hy with hy | rfl
        · exact ih y hy hk
        · by_cases h2 : a.2 = false
          · exact absurd ⟨hk, .inl h2⟩ hc
          · refine ⟨by simpa using h2, ?_⟩
            apply Classical.byContradiction
            intro h3
            exact hc ⟨hk, .inr (by omega)⟩
theorem lows_in {l : List Flt} {B : Int} (hB : 0 ≤ B) (h : ∀ x ∈ l, x.k = 1 → -B ≤ x.e ∧ x.e ≤ B) (i : Nat) : -B ≤ (lows (l.take i)).1 ∧ (lows (l.take i)).1 ≤ B := by
  induction i with
  | zero => simp [lows]; omega
  | succ i ih =>
    cases hx : l[i]? with
    | none =>
      have hl : l.length ≤ i := List.getElem?_eq_none_iff.1 hx
      rw [List.take_of_length_le (by omega)] at ih ⊢
      exact ih
    | some x =>
      rw [lows_take hx]
      have := h x (List.mem_of_getElem? hx)
      generalize lows (l.take i) = a at *
      unfold lowStep
      split
      · rename_i hc; exact this hc.1
      · exact ih
theorem svs_bound {z : Int} {M : Nat} : ∀ {l : List Flt}, (∀ x ∈ l, x.k = 1 → x.v * 2 ^ (x.e - z).toNat ≤ M) → (svs z l).natAbs ≤ l.length * M
  | [], _ => by simp [svs]
  | x :: l, h => by
    have ih := svs_bound (l := l) fun y hy => h y (List.mem_cons_of_mem _ hy)
    have hx := h x (by simp)
    simp only [svs, List.length_cons, Nat.add_mul, Nat.one_mul]
    split
    · rename_i hk
      have := hx hk
      unfold Nu.sv
      simp only []
      generalize x.v * 2 ^ (x.e - z).toNat = w at *
      generalize l.length * M = y at *
      split <;> omega
    · generalize l.length * M = y at *
      omega
theorem svs_take {z : Int} {l : List Flt} {i : Nat} {x : Flt} (h : l[i]? = some x) : svs z (l.take (i + 1)) = svs z (l.take i) + if x.k = 1 then (⟨x.n, x.v, x.e⟩ : Nu).sv z else 0 := by
  rw [List.take_add_one, h, svs_append]; simp [svs]
theorem len_bl {v k : Nat} (h : bl v ≤ k) : (nat v).length ≤ (k + 63) / 64 := by rw [natlen]; omega
/-- Bounds under which exact sums stay small. -/
def Tame (l : List Flt) : Prop := l.length < 1099511627776 ∧ ∀ x ∈ l, (x.k = 1 → -1048576 ≤ x.e ∧ x.e ≤ 1048576 ∧ bl x.v ≤ 1048576)
theorem Tame.term {l : List Flt} (h : Tame l) {z : Int} (hz : -1048576 ≤ z) {x : Flt} (hx : x ∈ l) (hk : x.k = 1) (hze : z ≤ x.e) : bl (x.v * 2 ^ (x.e - z).toNat) ≤ 3145728 := by
  obtain ⟨h1, h2, h3⟩ := h.2 x hx hk
  by_cases h0 : x.v = 0
  · rw [h0]; simp [bl_zero]
  · rw [bl_mul_pow _ _ (by omega)]; omega
theorem Tame.sum {l : List Flt} (h : Tame l) {z : Int} (hz : -1048576 ≤ z) (hl : ∀ x ∈ l, x.k = 1 → z ≤ x.e) (i : Nat) : bl (svs z (l.take i)).natAbs ≤ 3145768 := by
  obtain ⟨K, hK⟩ : ∃ K, K = 3145728 := ⟨_, rfl⟩
  have hb := @svs_bound z (2 ^ K) (l.take i) fun x hx hk => Nat.le_of_lt ((bl_lt _ _).1 (by rw [hK]; exact h.term hz (List.mem_of_mem_take hx) hk (hl x (List.mem_of_mem_take hx) hk)))
  have h1 : (l.take i).length < 2 ^ 40 := Nat.lt_of_le_of_lt (List.length_take_le' i l) h.1
  have h2 : bl (svs z (l.take i)).natAbs ≤ 40 + K := by
    rw [bl_lt]
    refine Nat.lt_of_le_of_lt hb ?_
    rw [Nat.pow_add]
    exact Nat.mul_lt_mul_of_pos_right h1 (Nat.pow_pos (by decide))
  omega
end Go.Proofs.YtokgalpflooegaaGreatDoor
/- The reference's sum is the program's. No condition. -/
namespace Go.Proofs.YtokgalpflooegaaGreatDoor
set_option linter.unusedVariables false
set_option linter.unusedSimpArgs false
variable {G : Gl}
set_option maxHeartbeats 4000000
set_option maxRecDepth 10000
theorem cnt_pos (k : Int) (n : Bool) (l : List Flt) : (0 < cnt k n l) = (l.any (fun x => x.k == k && x.n == n) = true) := by
  induction l with
  | nil => simp [cnt]
  | cons x l ih =>
    simp only [cnt, List.any_cons, Bool.or_eq_true, ← ih]
    by_cases h : x.k = k ∧ x.n = n
    · simp [h]; omega
    · rw [if_neg h]
      have : (x.k == k && x.n == n) = false := by simpa using h
      simp [this]
theorem cnt_all (k : Int) (n : Bool) (l : List Flt) : (cnt k n l = l.length) = (l.all (fun x => x.k == k && x.n == n) = true) := by
  apply propext
  induction l with
  | nil => simp [cnt]
  | cons x l ih =>
    have hle := cnt_le k n l
    rw [List.all_cons, Bool.and_eq_true, ← ih, cnt, List.length_cons]
    by_cases h : x.k = k ∧ x.n = n
    · rw [if_pos h]
      have : (x.k == k && x.n == n) = true := by simpa using h
      exact ⟨fun g => ⟨this, by omega⟩, fun g => by omega⟩
    · rw [if_neg h]
      have : ¬ (x.k == k && x.n == n) = true := by simpa using h
      exact ⟨fun g => by omega, fun g => absurd g.1 this⟩
theorem svs_low {z z' : Int} (hz : z' ≤ z) : ∀ {l : List Flt}, (∀ x ∈ l, x.k = 1 → z ≤ x.e) → svs z' l = svs z l * 2 ^ (z - z').toNat
  | [], _ => by simp [svs]
  | x :: l, h => by
    have ih := svs_low hz (l := l) fun y hy => h y (List.mem_cons_of_mem _ hy)
    have hx := h x (by simp)
    simp only [svs, ih, Int.add_mul]
    congr 1
    split
    · rename_i hk
      unfold Nu.sv
      simp only []
      rw [pow_split hz (hx hk), ← Nat.mul_assoc]
      generalize x.v * 2 ^ (x.e - z).toNat = w
      split <;> simp [Int.natCast_mul, Int.neg_mul, Int.natCast_pow]
    · simp
/-- Kinds as they are; no NaN with a sign. -/
def Kinds (L : List Flt) : Prop := ∀ x ∈ L, (x.k = 0 ∨ x.k = 1 ∨ x.k = 2 ∨ x.k = 3) ∧ (x.k = 3 → x.n = false)
/-- The sum by its parts. -/
theorem float_parts {f p r : Int} {L : List Flt} (ht : Tame L) (hk : Kinds L) : (gatherP L).float f p r =
    if 0 < cnt 3 false L then (⟨3, false, 0, 0⟩, 0)
    else if 0 < cnt 2 true L ∧ 0 < cnt 2 false L then (⟨3, false, 0, 0⟩, 16)
    else if 0 < cnt 2 true L ∨ 0 < cnt 2 false L then (⟨2, decide (0 < cnt 2 true L), 0, 0⟩, 0)
    else if svs (lows L).1 L ≠ 0 then roundP f p r (decide (svs (lows L).1 L < 0)) (svs (lows L).1 L).natAbs (lows L).1 false
    else if 0 < cnt 0 true L ∧ cnt 0 true L = L.length then (⟨0, true, 0, 0⟩, 0) else if cnt 0 false L = L.length then (⟨0, false, 0, 0⟩, 0) else (⟨0, r == 4, 0, 0⟩, 0) := by
  have hlow := @lows_le L L.length
  rw [List.take_length] at hlow
  obtain ⟨z, hz⟩ : ∃ z : Int, z = if (lows L).1 < 0 then (lows L).1 else 0 := ⟨_, rfl⟩
  have hz0 : z ≤ 0 := by split at hz <;> omega
  have hz1 : z ≤ (lows L).1 := by split at hz <;> omega
  have hG := gather_is (z := z) hz0 (l := L) fun x hx hk => by have := (hlow x hx hk).2; omega
  have hsv := svs_low hz1 (l := L) fun x hx hk => (hlow x hx hk).2
  have e3 : (gatherP L).nan = decide (0 < cnt 3 false L) := by
    rw [hG.nan, Bool.eq_iff_iff, decide_eq_true_eq, cnt_pos, List.any_eq_true, List.any_eq_true]
    constructor
    · rintro ⟨x, hx, h⟩
      have h3 : x.k = 3 := by simpa using h
      exact ⟨x, hx, by simp [h3, (hk x hx).2 h3]⟩
    · rintro ⟨x, hx, h⟩
      simp at h
      exact ⟨x, hx, by simp [h.1]⟩
  have ep : (gatherP L).plus = decide (0 < cnt 2 false L) := by
    rw [hG.plus, Bool.eq_iff_iff, decide_eq_true_eq, cnt_pos]; simp
  have em : (gatherP L).minus = decide (0 < cnt 2 true L) := by
    rw [hG.minus, Bool.eq_iff_iff, decide_eq_true_eq, cnt_pos]; simp
  unfold Ga.float
  rw [e3, hG.inv, ep, em]
  by_cases c3 : 0 < cnt 3 false L
  · simp [c3]
  · by_cases cp : 0 < cnt 2 false L
    · by_cases cm : 0 < cnt 2 true L <;> simp [c3, cp, cm]
    · by_cases cm : 0 < cnt 2 true L
      · simp [c3, cp, cm]
      · simp only [c3, cp, cm, decide_false, Bool.false_and, Bool.or_self, Bool.false_or, if_false, Bool.false_eq_true, and_self, or_self, false_and]
        have hb : (gatherP L).sum.sv z = Nu.sv z ⟨decide (svs (lows L).1 L < 0), (svs (lows L).1 L).natAbs, (lows L).1⟩ := by
          rw [hG.sum, hsv]
          unfold Nu.sv
          simp only []
          generalize svs (lows L).1 L = S
          generalize ((lows L).1 - z).toNat = d
          by_cases hS : S < 0
          · rw [if_pos (by simpa using hS), Int.natCast_mul, ← Int.neg_mul, show -((S.natAbs : Nat) : Int) = S by omega, Int.natCast_pow]; rfl
          · rw [if_neg (by simpa using hS), Int.natCast_mul, show ((S.natAbs : Nat) : Int) = S by omega, Int.natCast_pow]; rfl
        rw [Nu.round_sv hG.low hz1 hb]
        unfold Nu.round
        simp only []
        by_cases hS : svs (lows L).1 L = 0
        · rw [if_pos (by omega), if_neg (by simp [hS])]
          rw [hG.seen, hG.some_, hG.other]
          have n2 : ∀ x ∈ L, x.k = 0 ∨ x.k = 1 := fun x hx => by
            rcases (hk x hx).1 with h | h | h | h
            · exact .inl h
            · exact .inr h
            · exfalso
              cases hn : x.n
              · exact cp (by rw [cnt_pos, List.any_eq_true]; exact ⟨x, hx, by simp [h, hn]⟩)
              · exact cm (by rw [cnt_pos, List.any_eq_true]; exact ⟨x, hx, by simp [h, hn]⟩)
            · exfalso
              exact c3 (by rw [cnt_pos, List.any_eq_true]; exact ⟨x, hx, by simp [h, (hk x hx).2 h]⟩)
          clear hk hG hb hsv hlow e3 ep em
          cases L with
          | nil => simp [cnt]
          | cons y l =>
            by_cases h1 : cnt 0 true (y :: l) = (y :: l).length
            · rw [if_pos ⟨by rw [h1]; simp, h1⟩]
              rw [cnt_all, List.all_eq_true] at h1
              have e1 : ((y :: l).any fun x => x.k == 1 || x.k != 2 && x.k != 3 && !x.n) = false := by
                rw [List.any_eq_false]; intro x hx; have := h1 x hx; simp at this; simp [this.1, this.2]
              have e2 : ((y :: l).any fun x => x.k == 1 || x.k != 2 && x.k != 3 && x.n) = true := by
                rw [List.any_eq_true]; have := h1 y (by simp); simp at this; exact ⟨y, by simp, by simp [this.1, this.2]⟩
              rw [e1, e2]; simp
            · rw [if_neg (fun h => h1 h.2)]
              by_cases h2 : cnt 0 false (y :: l) = (y :: l).length
              · rw [if_pos h2]
                rw [cnt_all, List.all_eq_true] at h2
                have e2 : ((y :: l).any fun x => x.k == 1 || x.k != 2 && x.k != 3 && x.n) = false := by
                  rw [List.any_eq_false]; intro x hx; have := h2 x hx; simp at this; simp [this.1, this.2]
                rw [e2]; simp
              · rw [if_neg h2]
                rw [cnt_all, List.all_eq_true] at h1 h2
                have e1 : ((y :: l).any fun x => x.k == 1 || x.k != 2 && x.k != 3 && !x.n) = true := by
                  apply Classical.byContradiction
                  intro hn
                  refine h1 fun x hx => ?_
                  rw [Bool.not_eq_true, List.any_eq_false] at hn
                  have := hn x hx
                  rcases n2 x hx with h | h <;> simp [h] at this ⊢
                  exact this
                have e2 : ((y :: l).any fun x => x.k == 1 || x.k != 2 && x.k != 3 && x.n) = true := by
                  apply Classical.byContradiction
                  intro hn
                  refine h2 fun x hx => ?_
                  rw [Bool.not_eq_true, List.any_eq_false] at hn
                  have := hn x hx
                  rcases n2 x hx with h | h <;> simp [h] at this ⊢
                  exact this
                rw [e1, e2]; simp
        · rw [if_neg (by omega), if_pos hS]
end Go.Proofs.YtokgalpflooegaaGreatDoor
/- The reference's Total. No condition. -/
namespace Go.Proofs.YtokgalpflooegaaGreatDoor
set_option linter.unusedVariables false
set_option linter.unusedSimpArgs false
variable {G : Gl}
set_option maxHeartbeats 4000000
set_option maxRecDepth 10000
end Go.Proofs.YtokgalpflooegaaGreatDoor
/- What the laws of sums compare. No condition. -/
namespace Go.Proofs.YtokgalpflooegaaGreatDoor
set_option linter.unusedVariables false
set_option linter.unusedSimpArgs false
variable {G : Gl}
set_option maxHeartbeats 4000000
set_option maxRecDepth 10000
/-- Arguments that say more. -/
theorem Does.weak {P : Program} {G : Gl} {f : FuncId} {args args' : List PV} {ret : TV} (h : Does P G f args ret) (hle : All2 PLe args' args) : Does P G f args' ret := by
  intro W ok vals hok hgl hargs
  refine h W ok vals hok hgl ?_
  clear h
  induction hle generalizing vals with
  | nil => exact hargs
  | cons h _ ih =>
    obtain ⟨v, vs, rfl, g1, g2⟩ := hargs.cons_iff
    exact .cons (h _ _ g1) (ih vs g2)
theorem Fits_none {k e : Int} {n : Bool} {m : List Nat} {fl w : Int} (hk : k = 0 ∧ n = false ∧ e = 0 ∧ m = []) (hw : w ≠ 0) (er : Int) : Does Tryz.prog Gv 16 [Fl k n e m, .c (.i .i64 0), .c (.i .i64 er), .a [.i .i64 0, .b false, .i .i64 0, .z], .c (.i .i64 fl), .c (.i .i64 w)] (.v (.c (.b (er == w)))) := by
  obtain ⟨rfl, rfl, rfl, rfl⟩ := hk
  have h := @Fits_does Gv ⟨0, false, 0, []⟩ ⟨0, false, 0, []⟩ 0 er fl w (by simp) (by simp [Ws]) (by simp) (by simp [Ws]) (by constructor <;> simp)
  rw [show fitsP ⟨0, false, 0, []⟩ 0 er ⟨0, false, 0, []⟩ fl w = (er == w) by simp [fitsP, hw]] at h
  exact h.weak (.cons (PLe.refl _) (.cons (PLe.refl _) (.cons (PLe.refl _) (.cons (PLe.flt (PLe.z false)) (.cons (PLe.refl _) (.cons (PLe.refl _) .nil))))))
theorem rcanon_idem (x : Flt) : rcanon (rcanon x) = rcanon x := by
  unfold rcanon
  by_cases h : x.k = 1
  · have : tz (x.v / 2 ^ tz x.v) = 0 := by
      by_cases h0 : x.v = 0
      · simp [h0, tz_zero]
      · exact tz_rest (by omega)
    simp [h, this]
  · simp [h]
theorem mkP_fix {n : Bool} {q : Nat} {u : Int} : rcanon (mkP n q u) = mkP n q u := by
  unfold mkP
  split
  · rfl
  · have h : rcanon ⟨1, n, u, q⟩ = ⟨1, n, u + tz q, q / 2 ^ tz q⟩ := by simp [rcanon]
    rw [← h]
    exact rcanon_idem _
theorem roundP_fix {f p r : Int} (hf : fmOk f p = true) {n : Bool} {v : Nat} {e : Int} {st : Bool} : rcanon (roundP f p r n v e st).1 = (roundP f p r n v e st).1 := by
  obtain ⟨b1, b2, b3, b4⟩ := fmOk_spec hf
  unfold roundP
  simp only []
  split
  · split
    · obtain ⟨m, hm⟩ : ∃ m, p.toNat = m + 1 := ⟨p.toNat - 1, by omega⟩
      have h2 : 2 ^ p.toNat = 2 * 2 ^ m := by rw [hm, Nat.pow_succ']
      have h3 : 0 < 2 ^ m := Nat.pow_pos (by decide)
      have h4 : tz (2 ^ p.toNat - 1) = 0 := tz_odd1 (by omega)
      simp [rcanon, h4]
    · rfl
  · exact mkP_fix
theorem float_fix {f p r : Int} (hf : fmOk f p = true) {g : Ga} : rcanon (g.float f p r).1 = (g.float f p r).1 := by
  unfold Ga.float
  split
  · rfl
  · split
    · rfl
    · split
      · rfl
      · unfold Nu.round
        split
        · rfl
        · exact roundP_fix hf
theorem totalP_fix {f p r : Int} {l : List Fla} : rcanon (totalP f p r l).1 = (totalP f p r l).1 := by
  unfold totalP
  split
  · rename_i h
    exact float_fix (argsE_zero h).2.2.2.2.1
  · rfl
abbrev Flt.fla (x : Flt) : Fla := ⟨x.k, x.n, x.e, nat x.v⟩
theorem Flt.fla_flt (x : Flt) : x.fla.flt = x := by simp [Fla.flt, val_nat]
/-- A result against the reference's. -/
theorem Fits_same {x : Flt} {k : Int} (hx : Fine x) (h : rcanon x = x) : Does Tryz.prog G 16 [x.pv, .c (.i .i64 k), .c (.i .i64 0), x.pv, .c (.i .i64 k), .c (.i .i64 0)] (.v (.c (.b true))) := by
  have hl : (nat x.v).length ≤ 1073741824 := by have := nat_len_bl x.v; have := hx.v; omega
  have := @Fits_does G x.fla x.fla k 0 k 0 hl (nat_ws _) hl (nat_ws _) (good_md hx.can)
  rw [show fitsP x.fla k 0 x.fla k 0 = true by rw [fitsP, if_pos rfl, Flt.fla_flt, h]; simp [isP]] at this
  exact this
theorem held_rcanon {f p : Int} {x : Flt} (h : (holdsP f p x).2 = true) : rcanon x = (holdsP f p x).1 ∧ (canon x).2 = true := by
  have hg : (canon x).2 = true := by
    have := @holds_good f p x
    rw [h, Bool.and_eq_true] at this
    exact this.1
  refine ⟨?_, hg⟩
  rw [rcanon_good hg]
  unfold holdsP
  split <;> rfl
/-- Floats of the reference: right ones. -/
structure Rt (x : Fla) : Prop where
  can : (canon x.flt).2 = true
  ws : Ws x.m
  len : x.m.length ≤ 4096
theorem Rt.md {x : Fla} (h : Rt x) : Md x.e := good_md h.can
theorem canon_one {x : Flt} (h : (canon x).2 = true) (hk : x.k = 1) : -1048576 ≤ x.e ∧ x.e + tz x.v ≤ 1048576 ∧ x.v ≠ 0 := by
  unfold canon at h
  rw [if_neg (by omega), if_neg (by omega), if_pos hk] at h
  split at h
  · cases h
  · simp at h; omega
theorem canon_kind {x : Flt} (h : (canon x).2 = true) : (x.k = 0 ∨ x.k = 1 ∨ x.k = 2 ∨ x.k = 3) ∧ (x.k = 3 → x.n = false) := by
  unfold canon at h
  split at h
  · omega
  · split at h
    · simp at h; exact ⟨by omega, fun _ => h.1.1⟩
    · split at h
      · omega
      · cases h
theorem rcanon_k (x : Flt) : (rcanon x).k = x.k := by unfold rcanon; split <;> simp_all
theorem rcanon_n (x : Flt) : (rcanon x).n = x.n := by unfold rcanon; split <;> rfl
theorem Rt.tame {l : List Fla} (hl : l.length < 1099511627776) (h : ∀ x ∈ l, Rt x) : Tame (l.map fun x => rcanon x.flt) ∧ Kinds (l.map fun x => rcanon x.flt) := by
  refine ⟨⟨by simpa using hl, fun y hy hk => ?_⟩, fun y hy => ?_⟩
  · obtain ⟨x, hx, rfl⟩ := List.mem_map.1 hy
    have hr := h x hx
    rw [rcanon_k] at hk
    have h1 := canon_one hr.can hk
    have hb := bl_le_len hr.ws (Nat.div_le_self (val x.m) (2 ^ tz (val x.m)))
    have hlen := hr.len
    have e1 : rcanon x.flt = ⟨1, x.n, x.e + tz (val x.m), val x.m / 2 ^ tz (val x.m)⟩ := by rw [rcanon, if_pos hk]; rfl
    rw [e1]
    have h1 : -1048576 ≤ x.e ∧ x.e + tz (val x.m) ≤ 1048576 ∧ val x.m ≠ 0 := h1
    exact ⟨by simp only []; omega, by simp only []; omega, by simp only []; omega⟩
  · obtain ⟨x, hx, rfl⟩ := List.mem_map.1 hy
    have hr := canon_kind (h x hx).can
    rw [rcanon_k, rcanon_n]
    exact hr
theorem held_map {f p : Int} {l : List Fla} (h : allHold f p l = true) : (l.map fun x => rcanon x.flt) = heldL f p l := by
  unfold heldL
  apply List.map_congr_left
  intro x hx
  exact (held_rcanon (by simpa using List.all_eq_true.1 h x hx)).1
theorem held_rt {f p : Int} {l : List Fla} (h : allHold f p l = true) (ho : ∀ x ∈ l, x.Ok) (hm : ∀ x ∈ l, x.m.length ≤ 4096) : ∀ x ∈ l, Rt x := fun x hx =>
  ⟨(held_rcanon (by simpa using List.all_eq_true.1 h x hx)).2, (ho x hx).ws, hm x hx⟩
end Go.Proofs.YtokgalpflooegaaGreatDoor
/- The law SumTotals. No condition. -/
namespace Go.Proofs.YtokgalpflooegaaGreatDoor
set_option linter.unusedVariables false
set_option linter.unusedSimpArgs false
set_option maxHeartbeats 4000000
set_option maxRecDepth 10000
end Go.Proofs.YtokgalpflooegaaGreatDoor
/- The law SumAdds. No condition. -/
namespace Go.Proofs.YtokgalpflooegaaGreatDoor
set_option linter.unusedVariables false
set_option linter.unusedSimpArgs false
set_option maxHeartbeats 4000000
set_option maxRecDepth 10000
theorem rcanon_neg (x : Flt) : rcanon x.neg = (rcanon x).neg := by
  unfold rcanon Flt.neg
  by_cases h : x.k = 1 <;> simp [h]
theorem canon_rneg {x : Flt} (h : (canon x).2 = true) : (canon (rcanon x).neg).2 = true := by
  have hk := (canon_kind h).1
  by_cases h1 : x.k = 1
  · have hb := canon_one h h1
    have e1 : (rcanon x).neg = ⟨1, !x.n, x.e + tz x.v, x.v / 2 ^ tz x.v⟩ := by simp [rcanon, Flt.neg, h1]
    have hd : x.v / 2 ^ tz x.v ≠ 0 := by
      obtain ⟨m, hm⟩ := tz_form (show 0 < x.v by omega)
      have : x.v / 2 ^ tz x.v = 2 * m + 1 := by
        conv => lhs; arg 1; rw [hm]
        exact Nat.mul_div_cancel_left _ (Nat.pow_pos (by decide))
      omega
    rw [e1]
    unfold canon
    simp only []
    rw [if_neg (by omega), if_neg (by omega), if_pos trivial, if_neg (by omega)]
    simp [tz_rest (show 0 < x.v by omega)]; omega
  · have e1 : (rcanon x).neg = ⟨x.k, x.k != 3 && !x.n, 0, 0⟩ := by simp [rcanon, Flt.neg, h1]
    rw [e1]
    unfold canon
    simp only []
    rcases hk with hk | hk | hk | hk
    · rw [if_pos (by omega)]; simp
    · exact absurd hk h1
    · rw [if_pos (by omega)]; simp
    · rw [if_neg (by omega), if_pos hk]; simp [hk]
theorem subP_fine {f p r : Int} {x y : Fla} : Fine (subP f p r x y).1 := by
  unfold subP
  split
  · rename_i h
    exact float_fine (argsE_zero h).2.2.2.2.1
  · exact fine_zero
theorem subP_fix {f p r : Int} {x y : Fla} : rcanon (subP f p r x y).1 = (subP f p r x y).1 := by
  unfold subP
  split
  · rename_i h
    exact float_fix (argsE_zero h).2.2.2.2.1
  · rfl
end Go.Proofs.YtokgalpflooegaaGreatDoor
/- The package variables of the program, as they are laid, and what a law's arguments are. No condition. -/
namespace Go.Proofs.YtokgalpflooegaaGreatDoor
set_option linter.unusedVariables false
set_option linter.unusedSimpArgs false
open Go.ChangeShapes Go.WideShapes Go.ChangeAt Go.RowKit
theorem own : ownKnob Tryz.prog.godebug = Option.none := by kernel_rfl
theorem laidOut : laidOutB Tryz.prog = true := by kernel_rfl
theorem g0_name : Tryz.prog.globalNamed "math/bits.deBruijn64tab" = some 1 := by kernel_rfl
theorem g1_name : Tryz.prog.globalNamed "reckoner/fin.more" = some 0 := by kernel_rfl
/-- What is listed. -/
abbrev laidL : List (String × DataW Unit) := [("math/bits.deBruijn64tab", Rows.laid_math_bits_deBruijn64tab), ("reckoner/fin.more", Rows.laid_reckoner_fin_more)]
section
variable {H : Type} {enc : TypeId × Value → H} {P : Program} {W : World} {base : Nat} {sp : Nat → Bool} {held : Bool}
theorem array_at {t e : TypeId} {n fuel : Nat} {cs : List Value} {ds : List (DataW H)} {p : List MemPlace} (ht : P.underlying t = some (.array n e)) (hc : P.cellsOf e = 1) (h : DataW.trod enc P W base sp held fuel t cs = some (.agg ds, p)) {i : Nat} {d : DataW H} (hd : ds[i]? = some d) : ∃ v m q, cs[i]? = some v ∧ DataW.trod enc P W base sp held m e [v] = some (d, q) := by
  obtain ⟨xs, m, rfl, hx, hl, hn, hel⟩ := DataW.trod_array ht h
  simp only [Prod.mk.injEq, DataW.agg.injEq] at hx
  obtain ⟨rfl, _⟩ := hx
  rw [List.getElem?_map] at hd
  cases hxi : xs[i]? with
  | none => simp [hxi] at hd
  | some y =>
    rw [hxi] at hd
    simp only [Option.map_some, Option.some.injEq] at hd
    have hi : i < n := by rw [← hn]; exact (List.getElem?_eq_some_iff.1 hxi).1
    have h1 := hel i hi
    rw [hc, Nat.mul_one, hxi] at h1
    have hil : i < cs.length := by
      apply Classical.byContradiction
      intro hge
      rw [List.drop_of_length_le (by omega)] at h1
      cases m with
      | zero => simp [DataW.trod] at h1
      | succ m =>
        have : P.cellsOf e = 1 := hc
        cases hu : P.underlying e with
        | none => simp [DataW.trod, hu] at h1
        | some k => cases k <;> simp [DataW.trod, hu] at h1 <;> (try omega)
    rw [List.drop_eq_getElem_cons hil] at h1
    simp only [List.take_succ_cons, List.take_zero] at h1
    exact ⟨cs[i], m, y.2, List.getElem?_eq_getElem hil, by rw [h1, ← hd]⟩
theorem laidMetH.plain {l : List (String × DataW Unit)} (h : laidMetH P l W) (hne : (l.filter fun x => x.2.handleName?.isSome).isEmpty = false) : laidMet P (l.filter fun x => x.2.handleName?.isNone) W := by
  unfold laidMetH at h
  generalize (l.filter fun x => x.2.handleName?.isSome) = fl at h hne
  cases fl with
  | nil => cases hne
  | cons a r => exact h.1
end
/-- The door's own heap meets the condition. -/
abbrev doorN : Nat := 19
abbrev doorK : Nat := 8
theorem door_met (os : Os) (args : Array Value) : laidMetH Tryz.prog laidL ((World.doorLaid Tryz.prog doorN os).forCall (fun _ _ => 0) ⟨#[], args, []⟩).memory :=
  laidMetH_of_parts3 (fuel := 8) (laidMet_of_run' 8 (by kernel_rfl) (by kernel_rfl)) (by kernel_rfl) (by kernel_rfl)
theorem of_laid {W : World} (h : laidMetH Tryz.prog laidL W) : GlOk Gv W := by
  have h0 : laidMet Tryz.prog [("math/bits.deBruijn64tab", Rows.laid_math_bits_deBruijn64tab)] W := laidMetH.plain h (by kernel_rfl)
  obtain ⟨ps, ⟨g0, t0, cs0, f0, p0, q0, hg0, ht0, hv0, hd0, _⟩, _, _⟩ := h0
  obtain ⟨g1, t1, cs1, f1, p1, hg1, ht1, hv1, hd1⟩ := h.funcs (d := .agg [.iface "func" (.lit (.string [114, 101, 99, 107, 111, 110, 101, 114, 47, 102, 105, 110, 46, 109, 111, 114, 101, 36, 49])), .iface "func" (.lit (.string [114, 101, 99, 107, 111, 110, 101, 114, 47, 102, 105, 110, 46, 109, 111, 114, 101, 36, 50])), .iface "func" (.lit (.string [114, 101, 99, 107, 111, 110, 101, 114, 47, 102, 105, 110, 46, 109, 111, 114, 101, 36, 51])), .iface "func" (.lit (.string [114, 101, 99, 107, 111, 110, 101, 114, 47, 102, 105, 110, 46, 109, 111, 114, 101, 36, 52])), .iface "func" (.lit (.string [114, 101, 99, 107, 111, 110, 101, 114, 47, 102, 105, 110, 46, 109, 111, 114, 101, 36, 53]))]) (n := "reckoner/fin.more") (List.mem_cons_of_mem _ (List.mem_singleton.2 rfl))
  obtain rfl := Option.some.inj (g0_name.symm.trans hg0)
  obtain rfl := Option.some.inj (g1_name.symm.trans hg1)
  have e0 : (Rows.laid_math_bits_deBruijn64tab : DataW Unit) = .agg (Lib.deBruijn64tab.map fun k => .lit (.int .u8 (k : Nat))) := by kernel_rfl
  rw [e0] at hd0
  obtain rfl := Option.some.inj ((show (Tryz.prog.globals[1]?).map (·.type) = some 214 by kernel_rfl).symm.trans ht0)
  obtain rfl := Option.some.inj ((show (Tryz.prog.globals[0]?).map (·.type) = some 207 by kernel_rfl).symm.trans ht1)
  intro b off x hx
  match b, hx with
  | 1, hx =>
    simp only [Gv, List.getElem?_map] at hx
    cases hk : Lib.deBruijn64tab[off]? with
    | none => simp [hk] at hx
    | some k =>
      simp only [hk, Option.map_some, Option.some.injEq] at hx; subst hx
      obtain ⟨v, m, q, h1, h2⟩ := array_at Tryz.underlying214 (by kernel_rfl) hd0 (i := off) (d := .lit (.int .u8 (k : Nat))) (by simp [hk])
      obtain ⟨z, h3, h4, _⟩ := DataW.trod_int Tryz.underlying5 h2
      simp only [List.cons.injEq, and_true, Prod.mk.injEq, DataW.lit.injEq, Lit.int.injEq, true_and] at h3 h4
      subst h3
      refine ⟨rfl, .int .u8 z, ?_, fun E => ?_⟩
      · rw [World.var?_cell hg0 hv0 off]; simpa using h1
      · show Value.int .u8 z = .int .u8 (k : Nat)
        rw [h4.1]
  | 0, hx =>
    have hd1 : DataW.trod (funcToken Tryz.prog) Tryz.prog W 0 (fun _ => true) true f1 207 cs1.toList = some (.agg [.held [114, 101, 99, 107, 111, 110, 101, 114, 47, 102, 105, 110, 46, 109, 111, 114, 101, 36, 49], .held [114, 101, 99, 107, 111, 110, 101, 114, 47, 102, 105, 110, 46, 109, 111, 114, 101, 36, 50], .held [114, 101, 99, 107, 111, 110, 101, 114, 47, 102, 105, 110, 46, 109, 111, 114, 101, 36, 51], .held [114, 101, 99, 107, 111, 110, 101, 114, 47, 102, 105, 110, 46, 109, 111, 114, 101, 36, 52], .held [114, 101, 99, 107, 111, 110, 101, 114, 47, 102, 105, 110, 46, 109, 111, 114, 101, 36, 53]], p1) := hd1
    have hF : ∀ {i : Nat} {by_ : UInt8} {r : List UInt8} {f0 : FuncId}, (([DataW.held (H := List UInt8) [114, 101, 99, 107, 111, 110, 101, 114, 47, 102, 105, 110, 46, 109, 111, 114, 101, 36, 49], .held [114, 101, 99, 107, 111, 110, 101, 114, 47, 102, 105, 110, 46, 109, 111, 114, 101, 36, 50], .held [114, 101, 99, 107, 111, 110, 101, 114, 47, 102, 105, 110, 46, 109, 111, 114, 101, 36, 51], .held [114, 101, 99, 107, 111, 110, 101, 114, 47, 102, 105, 110, 46, 109, 111, 114, 101, 36, 52], .held [114, 101, 99, 107, 111, 110, 101, 114, 47, 102, 105, 110, 46, 109, 111, 114, 101, 36, 53]]))[i]? = some (.held (by_ :: r)) → ((List.range Tryz.prog.funcs.size).filter fun f => (Tryz.prog.funcs[f]?).any (·.name.toUTF8.data.toList == by_ :: r)) = [f0] → (Ce.f f0).pure = true ∧ ∃ v, W.cell? ⟨0, i, Option.none⟩ = some v ∧ ∀ E, RC E (.f f0) v := fun {i by_ r f0} hi hone => by
      obtain ⟨v, m, q, h1, h2⟩ := array_at Tryz.underlying207 (by kernel_rfl) hd1 hi
      obtain rfl := func_of_trod (f0 := f0) Tryz.underlying206 hone h2
      refine ⟨rfl, .func (.func f0) #[] #[], ?_, fun E => rfl⟩
      rw [World.var?_cell hg1 hv1 i]; simpa using h1
    rcases off with _ | _ | _ | _ | _ | off
    · simp only [Gv] at hx
      obtain rfl : Ce.f 212 = x := Option.some.inj hx
      exact hF (i := 0) rfl (by kernel_rfl)
    · simp only [Gv] at hx
      obtain rfl : Ce.f 213 = x := Option.some.inj hx
      exact hF (i := 1) rfl (by kernel_rfl)
    · simp only [Gv] at hx
      obtain rfl : Ce.f 214 = x := Option.some.inj hx
      exact hF (i := 2) rfl (by kernel_rfl)
    · simp only [Gv] at hx
      obtain rfl : Ce.f 215 = x := Option.some.inj hx
      exact hF (i := 3) rfl (by kernel_rfl)
    · simp only [Gv] at hx
      obtain rfl : Ce.f 216 = x := Option.some.inj hx
      exact hF (i := 4) rfl (by kernel_rfl)
    · simp [Gv] at hx
  | b + 2, hx => simp [Gv] at hx
set_option maxRecDepth 100000
/-- A format among the arguments. -/
theorem arg_fm {H : Type} {enc : TypeId × Value → H} {W : World} {b0 : Nat} {sp : Nat → Bool} {held : Bool} {v : Value} {d : DataW H} {ps : List MemPlace} (hval : Value.okWide Tryz.prog W .any b0 23 v) (h : DataW.Trod enc Tryz.prog W 0 sp held 23 v d ps) : ∃ f p, RP (enA W fun b => b < W.heap.size) (Fm f p) v := by
  obtain ⟨ces, h1, h2⟩ := open_struct (ok := fun b => b < W.heap.size) (f := 2) (cts := [.i .i64, .i .i64]) (fun _ h => h) Tryz.underlying23 (by kernel_rfl) hval h
  cases h2 with | cons g h2 => cases h2 with | cons g' h2 => cases h2 with | nil =>
  obtain ⟨e, rfl, _⟩ := g
  obtain ⟨p, rfl, _⟩ := g'
  exact ⟨e, p, h1⟩
theorem cells_fl {ces : List Ce} (h2 : All2 CtIs [.i .i64, .b, .i .i64, .w] ces) : ∃ x : Fla, x.cs = ces ∧ Ws x.m ∧ I64 x.e := by
  cases h2 with | cons g1 h2 => cases h2 with | cons g2 h2 => cases h2 with | cons g3 h2 => cases h2 with | cons g4 h2 => cases h2 with | nil =>
  obtain ⟨k, rfl, _⟩ := g1
  obtain ⟨n, rfl⟩ := g2
  obtain ⟨e, rfl, he⟩ := g3
  obtain ⟨m, rfl, hm⟩ := g4
  exact ⟨⟨k, n, e, m⟩, rfl, hm, wf_i64 he⟩
/-- A float among the arguments. -/
theorem arg_fl {H : Type} {enc : TypeId × Value → H} {W : World} {b0 : Nat} {sp : Nat → Bool} {held : Bool} {v : Value} {d : DataW H} {ps : List MemPlace} (hval : Value.okWide Tryz.prog W .any b0 29 v) (h : DataW.Trod enc Tryz.prog W 0 sp held 29 v d ps) : ∃ x : Fla, Ws x.m ∧ I64 x.e ∧ RP (enA W fun b => b < W.heap.size) (Fl x.k x.n x.e x.m) v := by
  obtain ⟨ces, h1, h2⟩ := open_struct (ok := fun b => b < W.heap.size) (f := 2) (cts := [.i .i64, .b, .i .i64, .w]) (fun _ h => h) Tryz.underlying29 (by kernel_rfl) hval h
  obtain ⟨x, rfl, hx⟩ := cells_fl h2
  exact ⟨x, hx.1, hx.2, h1⟩
/-- Floats among the arguments. -/
theorem arg_fls {H : Type} {enc : TypeId × Value → H} {W : World} {b0 : Nat} {sp : Nat → Bool} {held : Bool} {v : Value} {d : DataW H} {ps : List MemPlace} (hval : Value.okWide Tryz.prog W .any b0 89 v) (h : DataW.Trod enc Tryz.prog W 0 sp held 89 v d ps) : ∃ l : List Fla, (∀ x ∈ l, Ws x.m ∧ I64 x.e) ∧ RP (enA W fun b => b < W.heap.size) (Rows l) v := by
  obtain ⟨rows, h1, h2⟩ := open_structs (ok := fun b => b < W.heap.size) (f := 2) (cts := [.i .i64, .b, .i .i64, .w]) (fun _ h => h) Tryz.underlying89 (by kernel_rfl) (by kernel_rfl) (by decide) hval h
  have : ∃ l : List Fla, l.map Fla.cs = rows ∧ ∀ x ∈ l, Ws x.m ∧ I64 x.e := by
    clear h1
    induction rows with
    | nil => exact ⟨[], rfl, by simp⟩
    | cons r rows ih =>
      obtain ⟨l, e, hl⟩ := ih fun r hr => h2 r (List.mem_cons_of_mem _ hr)
      have hr := h2 r (by simp)
      obtain ⟨y, rfl, hy⟩ := cells_fl hr
      exact ⟨y :: l, by simp [e], fun x hx => by
          rcases List.mem_cons.1 hx with rfl | hx
          · exact hy
          · exact hl x hx⟩
  obtain ⟨l, rfl, hl⟩ := this
  exact ⟨l, hl, h1⟩
/-- What a law that returns true leaves. -/
theorem law_calls {f : FuncId} {fn : Func} {c : Code} {args : List PV} {W : World} {vals : List Value} (h : Does Tryz.prog Gv f args (.v (.c (.b true)))) (hf : Tryz.prog.funcs[f]? = some fn) (hname : (fn.name == "runtime.NumGoroutine") = false) (hb : fn.body = some c) (hg : GlOk Gv W) (ha : All2 (RP (enA W fun b => b < W.heap.size)) args vals) :
    Calls Tryz.prog f vals.toArray W (fun e W' => e = .returned (.bool true) ∧ Below W.heap.size W W') :=
  (h.toCalls hf hname hb (fun _ h => h) hg ha).mono fun e W' ⟨v, he, hb, hr⟩ => by
    have : v = .bool true := hr
    subst this
    exact ⟨he, hb⟩
end Go.Proofs.YtokgalpflooegaaGreatDoor
/- Rounding to the nearest: how near, and when exactly. No condition. -/
namespace Go.Proofs.YtokgalpflooegaaGreatDoor
set_option linter.unusedVariables false
set_option linter.unusedSimpArgs false
set_option maxHeartbeats 4000000
set_option maxRecDepth 10000
theorem near_cut (v k : Nat) (n : Bool) {q : Nat} (hq : upP 0 n (cutP v ((k : Int) + 1) false).1 (cutP v ((k : Int) + 1) false).2 = q) : 2 * v ≤ 2 * (q * 2 ^ (k + 1)) + 2 ^ (k + 1) ∧ 2 * (q * 2 ^ (k + 1)) ≤ 2 * v + 2 ^ (k + 1) := by
  have e1 : ((k : Int) + 1).toNat = k + 1 := by omega
  have e2 : ((k : Int) + 1 - 1).toNat = k := by omega
  rw [cutP, if_neg (by omega), e1, e2] at hq
  simp only [Bool.false_or] at hq
  have h1 : v / 2 ^ k = 2 * (v / 2 ^ (k + 1)) + v / 2 ^ k % 2 := by
    have := Nat.div_add_mod (v / 2 ^ k) 2
    rw [Nat.div_div_eq_div_mul, ← Nat.pow_succ] at this
    exact this.symm
  have h2 := Nat.div_add_mod v (2 ^ k)
  have h3 := Nat.mod_lt v (Nat.pow_pos (n := k) (show 0 < 2 by decide))
  have hP : 2 ^ (k + 1) = 2 * 2 ^ k := Nat.pow_succ'
  generalize v / 2 ^ (k + 1) = c at *
  have h4 : v / 2 ^ k % 2 = 0 ∨ v / 2 ^ k % 2 = 1 := by omega
  generalize v / 2 ^ k % 2 = b at *
  generalize v / 2 ^ k = d at *
  generalize v % 2 ^ k = l at *
  rw [hP]
  generalize 2 ^ k = H at *
  have key : v = 2 * (c * H) + b * H + l := by
    rw [← h2, h1, Nat.mul_add, Nat.mul_comm H b, ← Nat.mul_assoc, Nat.mul_comm H 2, Nat.mul_assoc, Nat.mul_comm H c]
  have hup : ∀ x, upP 0 n c x = c ∨ upP 0 n c x = c + 1 := fun x => by unfold upP; split <;> simp
  have hc : q = c ∨ q = c + 1 := by rw [← hq]; exact hup _
  have m0 : c * (2 * H) = 2 * (c * H) := by rw [← Nat.mul_assoc, Nat.mul_comm c 2, Nat.mul_assoc]
  have m1 : (c + 1) * (2 * H) = 2 * (c * H) + 2 * H := by rw [Nat.add_mul, m0, Nat.one_mul]
  rcases h4 with rfl | rfl
  · have : q = c := by rw [← hq]; by_cases hl : l = 0 <;> simp [upP, moreP, hl]
    subst this
    rw [m0]
    generalize q * H = X at *
    omega
  · by_cases hl : l = 0
    · rcases hc with rfl | rfl
      · rw [m0]
        generalize q * H = X at *
        omega
      · rw [m1]
        generalize c * H = X at *
        omega
    · have : q = c + 1 := by rw [← hq]; simp [upP, moreP, hl]
      subst this
      rw [m1]
      generalize c * H = X at *
      omega
theorem rcanon_scale (n : Bool) {v : Nat} (hv : 0 < v) (e : Int) (k : Nat) : rcanon ⟨1, n, e - k, v * 2 ^ k⟩ = rcanon ⟨1, n, e, v⟩ := by
  simp only [rcanon, if_true]
  rw [Nat.mul_comm v, tz_mul k hv, Nat.pow_add, Nat.mul_div_mul_left _ _ (Nat.pow_pos (by decide))]
  rw [show e - (k : Int) + ((k + tz v : Nat) : Int) = e + tz v by omega]
theorem mkP_rcanon {n : Bool} {q : Nat} {u : Int} (h : q ≠ 0) : mkP n q u = rcanon ⟨1, n, u, q⟩ := by simp [mkP, rcanon, h]
theorem upP_none (r : Int) (n : Bool) (q : Nat) : upP r n q 0 = q := by simp [upP, moreP]
/-- A float of the format is not changed. -/
theorem roundP_exact {f p r : Int} (hf : fmOk f p = true) {n : Bool} {w : Nat} {k : Int} (hw : 0 < w) (hk : 1 - gOfE f - (p - 1) ≤ k) (hb : (bl w : Int) ≤ p) (hg : k + bl w ≤ gOfE f + 1) : roundP f p r n w k false = (rcanon ⟨1, n, k, w⟩, 0) := by
  obtain ⟨b1, b2, b3, b4⟩ := fmOk_spec hf
  have hp := bl_pos hw
  have hu : stepP f p (k + bl w - 1) ≤ k := by unfold stepP; split <;> omega
  unfold roundP
  simp only []
  generalize stepP f p (k + bl w - 1) = u at *
  obtain ⟨j, hj⟩ : ∃ j : Nat, k - u = j := ⟨(k - u).toNat, by omega⟩
  have hc : cutP w (u - k) false = (w * 2 ^ j, 0) := by
    rw [cutP, if_pos (by omega), show (-(u - k)).toNat = j by omega]; rfl
  rw [hc]
  simp only [upP_none]
  have hbl := bl_mul_pow w j hw
  have hpos : 0 < w * 2 ^ j := Nat.mul_pos hw (Nat.pow_pos (by decide))
  rw [if_neg (by omega), if_pos trivial, mkP_rcanon (by omega), show u = k - j by omega, rcanon_scale n hw]
/-- How near a rounded number is. -/
theorem roundP_near {f p : Int} (hf : fmOk f p = true) {n : Bool} {V : Nat} {z : Int} (hz : z ≤ 1 - gOfE f - (p - 1)) (hV : 0 < V) (hk : (roundP f p 0 n V z false).1.k ≠ 2) : ∃ q j : Nat, 1 - gOfE f - (p - 1) ≤ z + j ∧ (z + j = 1 - gOfE f - (p - 1) ∨ 2 ^ (p.toNat - 1) * 2 ^ j ≤ V) ∧ 2 * V ≤ 2 * (q * 2 ^ j) + 2 ^ j ∧ 2 * (q * 2 ^ j) ≤ 2 * V + 2 ^ j ∧ (roundP f p 0 n V z false).1 = mkP n q (z + j) := by
  obtain ⟨b1, b2, b3, b4⟩ := fmOk_spec hf
  have hp := bl_pos hV
  have hlow : 2 ^ (bl V - 1) ≤ V := (bl_le _ _).1 (by omega)
  have hu : 1 - gOfE f - (p - 1) ≤ stepP f p (z + bl V - 1) ∧ (stepP f p (z + bl V - 1) = 1 - gOfE f - (p - 1) ∨ stepP f p (z + bl V - 1) = z + bl V - 1 - p + 1) := by unfold stepP; split <;> omega
  unfold roundP at hk ⊢
  simp only [] at hk ⊢
  generalize stepP f p (z + bl V - 1) = u at *
  obtain ⟨j, hj⟩ : ∃ j : Nat, u - z = j := ⟨(u - z).toNat, by omega⟩
  have hg : grP 0 n = false := rfl
  have hno : ¬ gOfE f < u + bl (upP 0 n (cutP V (u - z) false).1 (cutP V (u - z) false).2) - 1 := by
    intro h
    rw [if_pos h, hg] at hk
    exact hk rfl
  rw [if_neg hno]
  refine ⟨upP 0 n (cutP V (u - z) false).1 (cutP V (u - z) false).2, j, by omega, ?_, ?_, ?_, by rw [show z + (j : Int) = u by omega]⟩
  · rcases hu.2 with h | h
    · exact .inl (by omega)
    · right
      rw [← Nat.pow_add, show p.toNat - 1 + j = bl V - 1 by omega]
      exact hlow
  · rw [hj]
    cases j with
    | zero =>
      rw [show cutP V ((0 : Nat) : Int) false = (V, 0) by simp [cutP]]
      simp only [upP_none]; omega
    | succ k => exact (near_cut V k n rfl).1
  · rw [hj]
    cases j with
    | zero =>
      rw [show cutP V ((0 : Nat) : Int) false = (V, 0) by simp [cutP]]
      simp only [upP_none]; omega
    | succ k => exact (near_cut V k n rfl).2
theorem near_mult {V Q c : Int} {P : Nat} (h1 : 2 * V ≤ 2 * (Q * P) + P) (h2 : 2 * (Q * P) ≤ 2 * V + P) : (V - Q * P).natAbs ≤ (V - c * P).natAbs := by
  rcases Int.lt_trichotomy Q c with h | h | h
  · have : (Q + 1) * P ≤ c * P := Int.mul_le_mul_of_nonneg_right (by omega) (by omega)
    rw [Int.add_mul, Int.one_mul] at this
    generalize Q * (P : Int) = X at *
    generalize c * (P : Int) = Y at *
    omega
  · subst h; exact Nat.le_refl _
  · have : (c + 1) * P ≤ Q * P := Int.mul_le_mul_of_nonneg_right (by omega) (by omega)
    rw [Int.add_mul, Int.one_mul] at this
    generalize Q * (P : Int) = X at *
    generalize c * (P : Int) = Y at *
    omega
/-- A number over a low exponent, with few enough digits for the format. -/
structure OfF (f p z : Int) (A : Int) (w : Nat) (k : Int) : Prop where
  low : 1 - gOfE f - (p - 1) ≤ k
  few : (bl w : Int) ≤ p
  top : k + bl w ≤ gOfE f + 1
  abs : A.natAbs = w * 2 ^ (k - z).toNat
/-- Nothing of the format is nearer. -/
theorem near_le {f p z : Int} {V q j : Nat} {W : Int} {w : Nat} {k : Int} (hp : 2 ≤ p) (hz : z ≤ 1 - gOfE f - (p - 1)) (hj : z + j = 1 - gOfE f - (p - 1) ∨ 2 ^ (p.toNat - 1) * 2 ^ j ≤ V) (h1 : 2 * V ≤ 2 * (q * 2 ^ j) + 2 ^ j) (h2 : 2 * (q * 2 ^ j) ≤ 2 * V + 2 ^ j) (hW : OfF f p z W w k) : ((V : Int) - (q * 2 ^ j : Nat)).natAbs ≤ ((V : Int) - W).natAbs := by
  obtain ⟨a1, a2, a3, a4⟩ := hW
  have key : ∀ c : Int, ((V : Int) - (q * 2 ^ j : Nat)).natAbs ≤ ((V : Int) - c * (2 ^ j : Nat)).natAbs := fun c => by
    have := @near_mult V q c (2 ^ j) (by rw [← Int.natCast_mul]; omega) (by rw [← Int.natCast_mul]; omega)
    rwa [← Int.natCast_mul] at this
  by_cases hk : z + j ≤ k
  · have e1 : w * 2 ^ (k - z).toNat = w * 2 ^ (k - z - j).toNat * 2 ^ j := by
      rw [Nat.mul_assoc, ← Nat.pow_add]; congr 2; omega
    rw [e1] at a4
    rcases Int.natAbs_eq W with h | h
    · have := key (w * 2 ^ (k - z - j).toNat : Nat)
      rw [← Int.natCast_mul, ← a4, ← h] at this
      exact this
    · have := key (-(w * 2 ^ (k - z - j).toNat : Nat))
      rw [Int.neg_mul, ← Int.natCast_mul, ← a4, ← h] at this
      exact this
  · have h3 : 2 ^ (p.toNat - 1) * 2 ^ j ≤ V := by
      rcases hj with h | h
      · omega
      · exact h
    have h4 : w * 2 ^ (k - z).toNat ≤ 2 ^ (p.toNat - 1) * 2 ^ j := by
      have hb : w < 2 ^ p.toNat := (bl_lt _ _).1 (by omega)
      refine Nat.le_trans (Nat.mul_le_mul_right _ (Nat.le_of_lt hb)) ?_
      rw [← Nat.pow_add, ← Nat.pow_add]
      exact Nat.pow_le_pow_right (by decide) (by omega)
    have h5 := key (2 ^ (p.toNat - 1) : Nat)
    rw [← Int.natCast_mul] at h5
    generalize 2 ^ (p.toNat - 1) * 2 ^ j = M at *
    generalize w * 2 ^ (k - z).toNat = y at *
    generalize q * 2 ^ j = x at *
    omega
end Go.Proofs.YtokgalpflooegaaGreatDoor
/- What a rounded sum drops is a float of the format. No condition. -/
namespace Go.Proofs.YtokgalpflooegaaGreatDoor
set_option linter.unusedVariables false
set_option linter.unusedSimpArgs false
set_option maxHeartbeats 4000000
set_option maxRecDepth 10000
/-- The least exponent. -/
abbrev tiny (f p : Int) : Int := 1 - gOfE f - (p - 1)
theorem OfF.mul {f p z A : Int} {w : Nat} {k : Int} (h : OfF f p z A w k) {m : Int} (h1 : z ≤ m) (h2 : m ≤ k) : ∃ a : Int, A = a * ((2 ^ (m - z).toNat : Nat) : Int) := by
  have e : w * 2 ^ (k - z).toNat = w * 2 ^ (k - m).toNat * 2 ^ (m - z).toNat := by rw [pow_split h1 h2, Nat.mul_assoc]
  have h3 := h.abs
  rw [e] at h3
  rcases Int.natAbs_eq A with h | h
  · exact ⟨(w * 2 ^ (k - m).toNat : Nat), by rw [← Int.natCast_mul, ← h3]; exact h⟩
  · exact ⟨-((w * 2 ^ (k - m).toNat : Nat) : Int), by rw [Int.neg_mul, ← Int.natCast_mul, ← h3]; exact h⟩
theorem mult_zero {x : Int} {P : Nat} (h : 2 * (x * (P : Int)).natAbs ≤ P) (hP : 0 < P) : x = 0 := by
  rw [Int.natAbs_mul, Int.natAbs_natCast] at h
  rcases Nat.eq_zero_or_pos x.natAbs with h0 | h0
  · omega
  · have := Nat.mul_le_mul_right P h0
    omega
/-- A rounding to the nearest: V becomes q 2^j. -/
structure Near (f p z : Int) (V q j : Nat) : Prop where
  low : tiny f p ≤ z + j
  big : z + j = tiny f p ∨ 2 ^ (p.toNat - 1) * 2 ^ j ≤ V
  up : 2 * V ≤ 2 * (q * 2 ^ j) + 2 ^ j
  down : 2 * (q * 2 ^ j) ≤ 2 * V + 2 ^ j
theorem err_one {f p z : Int} {A B : Int} {wa wb : Nat} {ka kb : Int} (hp : 2 ≤ p) (hz : z ≤ tiny f p) (ha : OfF f p z A wa ka) (hb : OfF f p z B wb kb) (hk : ka ≤ kb) {V q j : Nat} {s : Bool} (hV : A + B = sgn s V) (hn : Near f p z V q j) : ∃ d : Nat, OfF f p z (A + B - sgn s (q * 2 ^ j)) d ka := by
  have hD : (A + B - sgn s (q * 2 ^ j)).natAbs = ((V : Int) - (q * 2 ^ j : Nat)).natAbs := by
    rw [hV]; unfold sgn
    generalize q * 2 ^ j = x
    split <;> omega
  have hW : OfF f p z (if s then -B else B) wb kb := ⟨hb.low, hb.few, hb.top, by have := hb.abs; split <;> omega⟩
  have h1 := near_le hp hz hn.big hn.up hn.down hW
  have hA : ((V : Int) - if s then -B else B).natAbs = A.natAbs := by
    unfold sgn at hV
    cases s <;> simp at hV ⊢ <;> omega
  rw [hA, ha.abs, ← hD] at h1
  have hlow := ha.low
  have htn : tiny f p = 1 - gOfE f - (p - 1) := rfl
  have hnl := hn.low
  by_cases hjk : ka ≤ z + j
  · obtain ⟨a, ea⟩ := ha.mul (m := ka) (by omega) (Int.le_refl _)
    obtain ⟨b, eb⟩ := hb.mul (m := ka) (by omega) hk
    have eq : q * 2 ^ j = q * 2 ^ (z + j - ka).toNat * 2 ^ (ka - z).toNat := by
      rw [Nat.mul_assoc, ← Nat.pow_add]; congr 2; omega
    have ez : sgn s (q * 2 ^ j) = sgn s (q * 2 ^ (z + j - ka).toNat) * ((2 ^ (ka - z).toNat : Nat) : Int) := by
      rw [eq]; unfold sgn; split
      · rw [Int.neg_mul, Int.natCast_mul]
      · rw [Int.natCast_mul]
    have eD : A + B - sgn s (q * 2 ^ j) = (a + b - sgn s (q * 2 ^ (z + j - ka).toNat)) * ((2 ^ (ka - z).toNat : Nat) : Int) := by
      rw [ez, Int.sub_mul, Int.add_mul, ← ea, ← eb]
    rw [eD, Int.natAbs_mul, Int.natAbs_natCast] at h1
    have hle := Nat.le_of_mul_le_mul_right h1 (Nat.pow_pos (by decide))
    have hbl := bl_mono hle
    exact ⟨(a + b - sgn s (q * 2 ^ (z + j - ka).toNat)).natAbs, hlow, by have := ha.few; omega, by have := ha.top; omega, by rw [eD, Int.natAbs_mul, Int.natAbs_natCast]⟩
  · have hj0 : (z + (j : Int) - z).toNat = j := by omega
    obtain ⟨a, ea⟩ := ha.mul (m := z + j) (by omega) (by omega)
    obtain ⟨b, eb⟩ := hb.mul (m := z + j) (by omega) (by omega)
    rw [hj0] at ea eb
    have eV : (V : Int) = ((a + b).natAbs : Int) * ((2 ^ j : Nat) : Int) := by
      have e1 : (A + B).natAbs = V := by rw [hV]; unfold sgn; split <;> omega
      rw [← e1, ea, eb, ← Int.add_mul, Int.natAbs_mul, Int.natAbs_natCast, Int.natCast_mul]
    have eX : (V : Int) - (q * 2 ^ j : Nat) = (((a + b).natAbs : Int) - q) * ((2 ^ j : Nat) : Int) := by
      rw [Int.sub_mul, ← eV, Int.natCast_mul]
    have h0 := @mult_zero (((a + b).natAbs : Int) - q) (2 ^ j) (by rw [← eX]; have := hn.up; have := hn.down; generalize q * 2 ^ j = x at *; omega) (Nat.pow_pos (by decide))
    refine ⟨0, hlow, by rw [bl_zero]; omega, by rw [bl_zero]; have := ha.top; omega, ?_⟩
    rw [hD, eX, h0]; simp
/-- What a rounded sum of two drops. -/
theorem err_two {f p z : Int} {A B : Int} {wa wb : Nat} {ka kb : Int} (hp : 2 ≤ p) (hz : z ≤ tiny f p) (ha : OfF f p z A wa ka) (hb : OfF f p z B wb kb) {V q j : Nat} {s : Bool} (hV : A + B = sgn s V) (hn : Near f p z V q j) : ∃ (d : Nat) (k : Int), OfF f p z (A + B - sgn s (q * 2 ^ j)) d k := by
  by_cases hk : ka ≤ kb
  · obtain ⟨d, hd⟩ := err_one hp hz ha hb hk hV hn
    exact ⟨d, ka, hd⟩
  · obtain ⟨d, hd⟩ := err_one hp hz hb ha (by omega) (by rw [Int.add_comm]; exact hV) hn
    rw [Int.add_comm B A] at hd
    exact ⟨d, kb, hd⟩
/-- The canonical float with a value, the Zero without a sign. -/
def restP (z D : Int) : Flt := if D = 0 then ⟨0, false, 0, 0⟩ else rcanon ⟨1, decide (D < 0), z, D.natAbs⟩
/-- A number of the format is rounded to itself. -/
theorem round_exact {f p z r : Int} (hf : fmOk f p = true) (hz : z ≤ tiny f p) {D : Int} {d : Nat} {k : Int} (h : OfF f p z D d k) : Nu.round ⟨decide (D < 0), D.natAbs, z⟩ f p r false = (restP z D, 0) := by
  unfold Nu.round restP
  simp only []
  by_cases hD : D = 0
  · rw [if_pos (by omega), if_pos hD]
  · rw [if_neg (by omega), if_neg hD]
    have hlow := h.low
    have htn : tiny f p = 1 - gOfE f - (p - 1) := rfl
    have hd : 0 < d := by
      rcases Nat.eq_zero_or_pos d with h0 | h0
      · have := h.abs; rw [h0, Nat.zero_mul] at this; omega
      · exact h0
    rw [h.abs, show z = k - ((k - z).toNat : Int) by omega, show (k - (k - ((k - z).toNat : Int))).toNat = (k - z).toNat by omega, roundP_scale _ hd, rcanon_scale _ hd]
    exact roundP_exact hf hd hlow h.few h.top
/-- The value of a float over a low exponent. -/
def fv (z : Int) (x : Flt) : Int := if x.k = 1 then Nu.sv z ⟨x.n, x.v, x.e⟩ else 0
theorem svs_fv (z : Int) (l : List Flt) : svs z l = (l.map (fv z)).sum := by
  induction l with
  | nil => rfl
  | cons x l ih => simp only [svs, List.map_cons, List.sum_cons, ih]; rfl
theorem mkP_fv {n : Bool} {q j : Nat} {z : Int} : fv z (mkP n q (z + j)) = sgn n (q * 2 ^ j) := by
  unfold mkP fv
  by_cases hq : q = 0
  · simp [hq, sgn]
  · rw [if_neg hq]
    simp only [if_true]
    have hv : q / 2 ^ tz q * 2 ^ (z + j + tz q - z).toNat = q * 2 ^ j := by
      obtain ⟨m, hm⟩ := tz_form (show 0 < q by omega)
      have e1 : q / 2 ^ tz q = 2 * m + 1 := by
        conv => lhs; arg 1; rw [hm]
        exact Nat.mul_div_cancel_left _ (Nat.pow_pos (by decide))
      rw [e1, show (z + (j : Int) + tz q - z).toNat = tz q + j by omega, Nat.pow_add, ← Nat.mul_assoc]
      congr 1
      conv => rhs; rw [hm]
      exact Nat.mul_comm _ _
    unfold Nu.sv sgn
    simp only [hv]
theorem fv_neg (z : Int) (x : Flt) : fv z x.neg = - fv z x := by
  unfold fv Flt.neg
  by_cases h : x.k = 1
  · simp only [h, if_true]
    unfold Nu.sv
    cases x.n <;> simp
  · simp [h]
/-- A float of the format, as it is held. -/
theorem held_ofF {f p : Int} (hf : fmOk f p = true) {x : Flt} (h : (holdsP f p x).2 = true) : ∃ (w : Nat) (k : Int), OfF f p (tiny f p) (fv (tiny f p) (holdsP f p x).1) w k := by
  obtain ⟨b1, b2, b3, b4⟩ := fmOk_spec hf
  obtain ⟨b5, b6⟩ := gOfE_le b1 b2
  have htn : tiny f p = 1 - gOfE f - (p - 1) := rfl
  unfold holdsP at h ⊢
  unfold fv
  split at h
  · rename_i hc
    rw [if_pos hc]
    have hk : ¬ (canon x).1.k = 1 := by
      rcases hc with hc | hc
      · rw [h] at hc; cases hc
      · exact hc
    rw [if_neg hk]
    exact ⟨0, tiny f p, Int.le_refl _, by rw [bl_zero]; omega, by rw [bl_zero]; omega, by simp⟩
  · rename_i hc
    rw [if_neg hc]
    simp only [not_or, Decidable.not_not] at hc
    simp only [Bool.and_eq_true, decide_eq_true_eq] at h
    simp only [hc.2, if_true]
    refine ⟨(canon x).1.v, (canon x).1.e, h.1.2, h.1.1, by omega, ?_⟩
    unfold Nu.sv
    simp only []
    split
    · rw [Int.natAbs_neg, Int.natAbs_natCast]
    · rw [Int.natAbs_natCast]
end Go.Proofs.YtokgalpflooegaaGreatDoor
/- Functions whose one result is a row of the caller's. No condition. -/
namespace Go.Proofs.YtokgalpflooegaaGreatDoor
set_option linter.unusedVariables false
set_option linter.unusedSimpArgs false
section
variable {P : Program} {G : Gl} {nt : Nat} {st : St} {cx : Cx} {a : Act} {W W' : World} {m : Nat → Option Nat} {QE : Exit → St → Prop} {ops l : List Oper} {Q : St → Prop}
/-- What a call computes whose one result is a row that its caller alone holds. -/
def DoesQ (P : Program) (G : Gl) (f : FuncId) (args : List PV) (sz : Nat) (rows : List (List Ce)) : Prop :=
  ∀ (W : World) (ok : Nat → Prop) (vals : List Value), (∀ b, ok b → b < W.heap.size) → GlOk G W → All2 (RP (enA W ok)) args vals →
    (callFunc f vals.toArray).run P W = .ok (.enter f vals.toArray) W ∧ Calls P f vals.toArray W (fun e W' => ∃ sv bo, e = .returned sv ∧ RowKit.Below W.heap.size W W' ∧ (∀ b, bo = some b → W.heap.size ≤ b ∧ b < W'.heap.size) ∧
      RC (enO W W' ok bo (.sr sz rows)) (.r 0 rows.length) sv ∧ RO (enO W W' ok bo (.sr sz rows)) 0 (.sr sz rows))
def endOne (sz : Nat) (rows : List (List Ce)) (rs : List ResultVar) (e : Exit) (s : St) : Prop :=
  (e = .ret ∨ e = .normal) ∧ match rs with
    | [.tmp t] => (match lk t s.tm with
      | some (.v (.c (.r j n))) => n = rows.length ∧ lk j s.ob = some (.sr sz rows)
      | _ => False)
    | _ => False
theorem DoesQ.of {f : FuncId} {fn : Func} {c : Code} {args : List PV} {sz : Nat} {rows : List (List Ce)} (hf : P.funcs[f]? = some fn) (hname : (fn.name == "runtime.NumGoroutine") = false) (hb : fn.body = some c) (hnt : fn.ntmps = nt) (hal : args.length ≤ nt)
    (h : Do P G nt c ⟨argTm 0 args, []⟩ (endOne sz rows fn.results.toList)) : DoesQ P G f args sz rows := by
  intro W ok vals hok hgl hargs
  refine ⟨?_, ?_⟩
  · have hn' : fn.name ≠ "runtime.NumGoroutine" := by simpa using hname
    simp [callFunc, hf, hn', hb]
  · refine calls_of_wp hf hb ?_
    refine Code.wp_mono (fun e a' W' ⟨s, hq, m', hs⟩ => ?_) (h _ _ W rfl ⟨_, start_rel hok hgl hargs hal hnt⟩)
    obtain ⟨he, hret⟩ := hq
    split at hret
    case h_2 => exact hret.elim
    rename_i t hrs
    split at hret
    case h_2 => exact hret.elim
    rename_i j n ht
    obtain ⟨rfl, hj⟩ := hret
    obtain ⟨sv, hv, hrt⟩ := hs.tm t _ ht
    have hg : a'.tmps.getD t undef = sv := by simp [hv]
    have hres : (results fn a'.tmps).run P W' = .ok sv W' := by
      have hfun : results fn a'.tmps = (do let vs ← fn.results.mapM (resOf a'.tmps); pure (if h : vs.size = 1 then vs[0] else .tuple vs)) := by
        unfold results
        congr 1
      rw [hfun]
      have h1 : (resOf a'.tmps (.tmp t)).run P W' = .ok sv W' := by simp [resOf, hg]
      simp only [Sem.run_bind, Array.mapM_eq_mapM_toList, Sem.run_map, hrs, List.mapM_cons, List.mapM_nil, h1, Result.andThen_ok, Sem.run_pure]
      simp
    have hbelow : RowKit.Below W.heap.size W W' := ⟨hs.os, hs.tape, hs.output, hs.size, fun k hk => hs.keep k hk id⟩
    have hown : ∀ b, m' j = some b → W.heap.size ≤ b ∧ b < W'.heap.size := fun b hb => by
      obtain ⟨q1, q2⟩ := hs.own j _ b hj hb
      exact ⟨q2.elim id fun e => e.1.elim, q1⟩
    have hle : EnLe (fun _ => False) (en ⟨W.heap.size, W, ok, fun _ => False, nt⟩ m' s.ob W') (enO W W' ok (m' j) (.sr sz rows)) :=
      ⟨fun b ⟨q1, q2, q3⟩ => ⟨⟨q1, q2⟩, q3 j _ hj⟩, fun _ _ => rfl, Nat.le_refl _, fun _ hF => hF.elim⟩
    have hO : ∃ bo, (∀ b, bo = some b → W.heap.size ≤ b ∧ b < W'.heap.size) ∧ RC (enO W W' ok bo (.sr sz rows)) (.r 0 rows.length) sv ∧ RO (enO W W' ok bo (.sr sz rows)) 0 (.sr sz rows) := by
      refine ⟨m' j, hown, ⟨hrt.1, fun o' ho' hle' => ?_⟩, ?_⟩
      · obtain rfl : Ob.sr sz rows = o' := by simpa [enO] using ho'
        obtain ⟨_, k2⟩ := hrt.2 _ hj (Nat.le_refl _)
        exact ⟨rfl, k2⟩
      · rcases hs.ob j _ hj with ⟨y1, y2⟩ | ⟨b', vs, e2, r1, r2, r3⟩
        · exact .inl ⟨y1, y2⟩
        · exact .inr ⟨b', vs, e2, r1, r2, fun i cs hi => let ⟨k1, us', k2, k3⟩ := r3 i cs hi; ⟨k1, us', k2.mono hle, k3⟩⟩
    obtain ⟨bo, k1, k2, k3⟩ := hO
    have hfin : ∃ sv' bo, (Ending.returned sv) = .returned sv' ∧ RowKit.Below W.heap.size W W' ∧ (∀ b, bo = some b → W.heap.size ≤ b ∧ b < W'.heap.size) ∧
      RC (enO W W' ok bo (.sr sz rows)) (.r 0 rows.length) sv' ∧ RO (enO W W' ok bo (.sr sz rows)) 0 (.sr sz rows) :=
      ⟨sv, bo, rfl, hbelow, k1, k2, k3⟩
    rcases he with rfl | rfl
    · exact ⟨hs.df, _, hres, hfin⟩
    · exact ⟨hs.df, _, hres, hfin⟩
/-- A call whose one result is a row of this function's own from here on. -/
theorem DoL.callQ {o : Oper} {f : FuncId} {x : Operand} {az : Array Operand} {ts : Array TypeId} {p : Prop} {args : List PV} {sz : Nat} {rows : List (List Ce)} (md : Bool) (lab lo : Nat) (hg : o.guard = none) (hop : o.op = .call { callee := .value x, args := az, argTypes := ts })
    (hx : opv st.tm x = some (.v (.c (.f f)))) (ha : argsOf st az.toList = some (p, args, false)) (hp : p) (hD : DoesQ P G f args sz rows) (hf : st.free lo = true) (hd : dstOk nt o.dst = true)
    (next : runs P G nt md ops Q lab l ⟨setv o.dst (some (.v (.c (.r lo rows.length)))) st.tm, put lo (.sr sz rows) st.ob⟩) : DoL P G nt ops (o :: l) st Q := by
  intro cx a W hn ⟨m, hr⟩ Q' hQ
  refine wpList_plain hg fun K hK => ?_
  unfold Oper.wp
  have hxv : a.eval x = .func (.func f) #[] #[] := hr.opv hx
  have hargs := argsOf_run hr ha hp false id
  have hok : ∀ b, okC cx m st W false b → b < W.heap.size := by
    rintro b (h | ⟨e, _⟩)
    · exact h.2.1
    · cases e
  have hexec : execOp a.eval o = callFunc f (az.toList.map a.eval).toArray := by
    have e1 : (az.toList.map a.eval).toArray = az.map a.eval := by apply Array.ext'; simp
    unfold execOp
    simp [hop, resolve, hxv, Deferred.ofValue, invoke, e1]
  obtain ⟨h1, h2⟩ := hD W (okC cx m st W false) _ hok hr.glOk hargs
  rw [hexec, h1]
  refine h2.mono ?_
  rintro e W' ⟨sv, bo, rfl, hb, hbo, q1, q2⟩
  have he := enO_en hr hb (lab := lo) (bo := bo) (o := .sr sz rows)
  have hro : RO (en cx (upd m lo bo) (put lo (.sr sz rows) st.ob) W') lo (.sr sz rows) := by
    rcases q2 with ⟨y1, y2⟩ | ⟨b', vs, e2, r1, r2, r3⟩
    · exact .inl ⟨y1, by show upd m lo bo lo = none; rw [upd_self]; exact y2⟩
    · exact .inr ⟨b', vs, e2, by show upd m lo bo lo = _; rw [upd_self]; exact r1, r2, fun i cs hi => let ⟨g1, us', g2, g3⟩ := r3 i cs hi; ⟨g1, us', g2.mono he, g3⟩⟩
  have hr2 := hr.adopt hb hf hbo hro
  have hsv : RC (en cx (upd m lo bo) (put lo (.sr sz rows) st.ob) W') (.r lo rows.length) sv := by
    refine ⟨q1.1, fun o' ho' hle => ?_⟩
    have ho2 : lk lo (put lo (.sr sz rows) st.ob) = some o' := ho'
    rw [lk_put_self] at ho2; injection ho2 with ho2; subst ho2
    obtain ⟨k1, k2⟩ := q1.2 (.sr sz rows) rfl (Nat.le_refl _)
    refine ⟨rfl, ?_⟩
    show (_ ∧ _ ∧ upd m lo bo lo = none) ∨ ∃ b cap e, upd m lo bo lo = some b ∧ _
    rw [upd_self]
    exact k2
  have hput := Rel.put (st := ⟨st.tm, put lo (.sr sz rows) st.ob⟩) hr2 hn hd (x := .v (.c (.r lo rows.length))) (v := sv) hsv
  exact hK _ _ (DoL.run next cx _ _ hn hput Q' hQ)
end
end Go.Proofs.YtokgalpflooegaaGreatDoor
/- The reference's Rest: what sums leave, as a float. No condition. -/
namespace Go.Proofs.YtokgalpflooegaaGreatDoor
set_option linter.unusedVariables false
set_option linter.unusedSimpArgs false
variable {G : Gl}
set_option maxHeartbeats 4000000
set_option maxRecDepth 10000
theorem lows_ge {l : List Flt} {z : Int} (hz : z ≤ 0) (h : ∀ x ∈ l, x.k = 1 → z ≤ x.e) : z ≤ (lows l).1 := by
  suffices H : ∀ i, z ≤ (lows (l.take i)).1 by have := H l.length; rwa [List.take_length] at this
  intro i
  induction i with
  | zero => simpa [lows] using hz
  | succ i ih =>
    cases hx : l[i]? with
    | none =>
      have hl : l.length ≤ i := List.getElem?_eq_none_iff.1 hx
      rw [List.take_of_length_le (by omega)] at ih ⊢
      exact ih
    | some x =>
      rw [lows_take hx]
      have := h x (List.mem_of_getElem? hx)
      generalize lows (l.take i) = a at *
      unfold lowStep
      split
      · rename_i hc; exact this hc.1
      · exact ih
theorem restP_low {z z' : Int} (hz : z' ≤ z) (S : Int) : restP z' (S * 2 ^ (z - z').toNat) = restP z S := by
  have hp : 0 < 2 ^ (z - z').toNat := Nat.pow_pos (by decide)
  have e2 : (2 : Int) ^ (z - z').toNat = ((2 ^ (z - z').toNat : Nat) : Int) := by simp
  unfold restP
  by_cases hS : S = 0
  · subst hS; simp
  · have h0 : S * 2 ^ (z - z').toNat ≠ 0 := by
      intro h
      rcases Int.mul_eq_zero.1 h with h | h
      · exact hS h
      · rw [e2] at h; omega
    rw [if_neg h0, if_neg hS]
    have ha : (S * 2 ^ (z - z').toNat).natAbs = S.natAbs * 2 ^ (z - z').toNat := by rw [e2, Int.natAbs_mul, Int.natAbs_natCast]
    have hs : decide (S * 2 ^ (z - z').toNat < 0) = decide (S < 0) := by
      rw [decide_eq_decide]
      constructor
      · intro h
        apply Classical.byContradiction
        intro hn
        have := Int.mul_nonneg (show 0 ≤ S by omega) (show (0 : Int) ≤ 2 ^ (z - z').toNat by rw [e2]; omega)
        omega
      · intro h
        exact Int.mul_neg_of_neg_of_pos h (by rw [e2]; omega)
    rw [ha, hs, ← rcanon_scale (decide (S < 0)) (show 0 < S.natAbs by omega) z (z - z').toNat, show z - ((z - z').toNat : Int) = z' by omega]
theorem Tame.rest {A B : List Flt} (ha : Tame A) (hb : Tame B) (hl : A.length + B.length < 1099511627776) : Tame (A ++ B.map Flt.neg) := by
  refine ⟨by simpa using hl, fun x hx hk => ?_⟩
  rcases List.mem_append.1 hx with hx | hx
  · exact ha.2 x hx hk
  · obtain ⟨y, hy, rfl⟩ := List.mem_map.1 hx
    exact hb.2 y hy hk
end Go.Proofs.YtokgalpflooegaaGreatDoor
